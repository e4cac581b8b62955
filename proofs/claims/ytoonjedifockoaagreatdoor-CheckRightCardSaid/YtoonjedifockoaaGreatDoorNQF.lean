/- Are rules right, as the document's checker has it: a rule; by contract. Condition: types of at most six fields. -/
import Derived.Test.YtoonjedifockoaaGreatDoorNQA
import Derived.Test.YtoonjedifockoaaGreatDoorNW
namespace Go.Proofs.YtoonjedifockoaaGreatDoor
open Go.IntKind(i64)
open Go.Value(int string slice)
set_option maxHeartbeats 16000000
set_option maxRecDepth 100000
open Go.RowKit
def Ey(d:Nat) (types:List ai) (r:aj) (b:Nat) (w:World) (rc:Array Value) (v f i:Value) (W:World):Prop:=
 ∃(a:World) (j:Nat) (nv nf:Int),a=W∧j≤b∧v=int i64 nv∧f=int i64 nf∧i=int i64 (j:Int)∧cm d types (0,0) (r.conds.take j)=some (nv,nf)∧0≤nv∧nv≤6*j∧0≤nf∧nf≤j∧
  a.heap[w.heap.size]?=some (.cells rc 38 (0,0))∧Ft w a
def CL(binds:Bool) (a:Int) (args:List cg) (c:Nat) (w d:World) (rc:Array Value) (B:Nat) (e:Array Value) (v i:Value) (W:World):Prop:=
 ∃(b:World) (j:Nat) (nv:Int),b=W∧j≤c∧v=int i64 nv∧i=int i64 (j:Int)∧bQ binds a (args.take j)=some nv∧a≤nv∧nv≤a+j∧
  b.heap[w.heap.size]?=some (.cells rc 38 (0,0))∧b.heap[B]?=some (.cells e 52 (0,0))∧Ft w b∧Ft d b
def Er(f:aT→Bool) (l:List aT) (n:Nat) (w:World) (rc:Array Value) (i:Value) (W:World):Prop:=
 ∃(a:World) (k:Nat),a=W∧k≤n∧i=int i64 k∧(l.take k).all f=true∧a.heap[w.heap.size]?=some (.cells rc 38 (0,0))∧Ft w a
theorem uL{types:List ai}{k n:Int}(b:∀t∈types,t.fields≤6)(h:aF types k n=true):n≤6:=by
 unfold aF at h;simp only[EQ,oe,o2]at h;obtain⟨⟨d,e⟩,c⟩:=h;have a:k.toNat<types.length:=by omega
 rw[EE a]at c;have f:=b _ (List.getElem_mem a);have c:types[k.toNat].fields=n:=c;omega
theorem BN(d:Nat)(types:List ai)(vT:Value)(r:aj)(sc sa:Value)(w:World)(ht:bo.row w (fun b=>b<w.heap.size) types vT)(gO:∀t∈types,t.fields≤6)
  (dg:(bp d).row w (fun b=>b<w.heap.size) r.conds sc) (ds:(bS d).row w (fun b=>b<w.heap.size) r.acts sa) (gS:r.name.size≤maxLen) :
  Calls Tryz.prog 19 #[vT,.agg #[.string r.name,int i64 r.sal,int i64 r.vars,sc,sa]] w (ap (dU d types r) w):=by
 obtain⟨pT,cT,gT⟩:=Rd.row_shape ht;obtain⟨pc,cc,hd⟩:=Rd.row_shape dg;obtain⟨pa,ca,cq⟩:=Rd.row_shape ds;have ev:=Rd.row_len dg;have bn:=Rd.row_len ds;obtain⟨nT,hf⟩:=zzy (types.length);obtain⟨nc,dv⟩:=zzy (r.conds.length);obtain⟨na,ec⟩:=zzy (r.acts.length);rw[hf]at gT;rw[dv]at hd ev;rw[ec]at cq bn;subst gT;subst hd;subst cq;have hT:(nc:Int)≤9223372036854775807:=by unfold maxLen at ev;omega
 have hX:(na:Int)≤9223372036854775807:=by unfold maxLen at bn;omega
 have hg:Ft w (w.alloc (.cells #[.string r.name,int i64 r.sal,int i64 r.vars,.slice pc nc cc,.slice pa na ca] 38)):=(EB _ w).alloc (EA _) _;have e5:(w.alloc (.cells #[.string r.name,int i64 r.sal,int i64 r.vars,.slice pc nc cc,.slice pa na ca] 38)).heap[w.heap.size]?=some (.cells #[.string r.name,int i64 r.sal,int i64 r.vars,.slice pc nc cc,.slice pa na ca] 38 (0,0)):=n7 w _;have bc:=Hd hg;have eg:=Hd e5;have e6:=Hd dv;have e7:=Hd ec;have HT:=Hd (fun W (hW:Ft w W)=>Rd.row_sub (fun b (hb:b<w.heap.size)=>EF hb hW.size) (Rd.row_below ht (fun _ h=>h) hW));have HC:=Hd (fun W (hW:Ft w W)=>Rd.row_sub (fun b (hb:b<w.heap.size)=>EF hb hW.size) (Rd.row_below dg (fun _ h=>h) hW));have HA:=Hd (fun W (hW:Ft w W)=>Rd.row_sub (fun b (hb:b<w.heap.size)=>EF hb hW.size) (Rd.row_below ds (fun _ h=>h) hW));have e8:=Hd gO;have hh:=Hd (lD r.name (w.alloc (.cells #[.string r.name,int i64 r.sal,int i64 r.vars,.slice pc nc cc,.slice pa na ca] 38)) gS);obtain⟨res,cr⟩:=zzy (dU d types r);have HR:Hid (res=(bv r.name.data.toList&&decide (-1000≤r.sal)&&decide (r.sal≤1000)&&decide (nc≤8)&&decide (na≤8)&&match cm d types (0,0) r.conds with|none=>false|some s=>r.vars==s.1&&decide (s.1≤16)&&r.acts.all (bf d types s))):=by
  show _=_
  rw[←cr,←dv,←ec];rfl
 rw[cr];generalize bv r.name.data.toList=hK at *;obtain⟨e0,e1,e2,e3,e4⟩:=cells5 e5;clear cr e5 hg ht gO dg ds gS dv ec ev bn hf
 go_enter Tryz.func19,Tryz.ntmps19
 go_wp2_with fail
 refine hh.o.mono ?_;rintro e p ⟨rfl,rfl⟩
 cases hK with
 | false =>
  go_wp2_with fail
  go_ret;exact⟨by rw[HR.o];rfl,bc.o⟩
 | true =>
 by_cases h1:-1000≤r.sal
 case neg =>
  go_wp2_with fail
  go_ret;exact⟨by rw[HR.o,oc (show ¬-1000≤r.sal by omega)];rfl,bc.o⟩
 by_cases h2:r.sal≤1000
 case neg =>
  go_wp2_with fail
  go_ret;exact⟨by rw[HR.o,oc (show ¬r.sal≤1000 by omega)];simp,bc.o⟩
 by_cases h3:nc≤8
 case neg =>
  go_wp2_with fail
  go_ret;exact⟨by rw[HR.o,oc (show ¬nc≤8 by omega)];simp,bc.o⟩
 by_cases h4:na≤8
 case neg =>
  go_wp2_with fail
  go_ret;exact⟨by rw[HR.o,oc (show ¬na≤8 by omega)];simp,bc.o⟩
 have hi:Hid (res=match cm d types (0,0) r.conds with|none=>false|some s=>r.vars==s.1&&decide (s.1≤16)&&r.acts.all (bf d types s)):=by
  show _=_
  rw[HR.o,decide_eq_true h1,decide_eq_true h2,decide_eq_true h3,decide_eq_true h4]
  cases cm d types (0,0) r.conds<;>rfl
 obtain⟨w1,hl⟩:=zzx (w.alloc (.cells #[.string r.name,int i64 r.sal,int i64 r.vars,.slice pc nc cc,.slice pa na ca] 38));rw[←hl]at bc eg e0 e1 e2 e3 e4 ⊢;obtain⟨rc,e9⟩:∃rc:Array Value,rc=#[.string r.name,int i64 r.sal,int i64 r.vars,.slice pc nc cc,.slice pa na ca]:=⟨_,rfl⟩;rw[←e9]at eg;have fm:=Hd e9;clear hh HR e9 hl;go_wp2_with fail
 clear e0 e1 e2 e3 e4
 go_loopw [5,6,7] (Ey d types r nc w rc) (fun _ _ i _=>nc-(intOf i).toNat)
 case atStart=>exact⟨w1,0,0,0,rfl,EM _,rfl,rfl,rfl,rfl,by omega,by omega,by omega,by omega,eg.o,bc.o⟩
 case round =>
  obtain⟨p,j,nv,nf,rfl,hj,rfl,rfl,rfl,hn,g1,g2,g3,g4,fr,hb⟩:=hrel;clear eg bc;have hY:(0:Int)≤j:=by omega
  have fs:=Hd fr;have fv:=Hd hb;have fz:=Hd hn;have k3:p.cell? ⟨w.heap.size,3,none⟩=some (.slice pc nc cc):=by rw[Fq _ _ _ _ _ _ fr,fm.o];rfl
  clear fr hn
  by_cases hL:j<nc
  ·have hZ:(j:Int)<nc:=by omega
   obtain⟨c,hc⟩:∃c,r.conds[j]?=some c:=⟨_,EE (by rw[e6.o];exact hL)⟩;have af:=Rd.row_at (HC.o p hb) hc;rw[e6.o]at af;obtain⟨b,off,cap,vs,bq,_,_,_,_,ak,g⟩:=af;injection bq with e1 _ e3
   subst e1;subst e3;rw[dL]at g;obtain⟨_,_,ct,sa,s,rfl,a7,fI⟩:=dq.1 ak;obtain⟨qa,za,cq⟩:=Rd.row_shape a7;obtain⟨Z,ze,cv⟩:=aI fI;have fT:=Rd.row_len a7;obtain⟨L,bn⟩:=zzy (c.args.length);obtain⟨y,br⟩:=zzy (c.test.kids.length);rw[bn]at cq fT;rw[br]at cv;subst cq;subst cv;have hQ:(L:Int)≤9223372036854775807:=by unfold maxLen at fT;omega
   have d0:p.cell? ⟨b,off+j*10,none⟩=some (int .u8 c.kind):=g 0 _ rfl;have d1:p.cell? ⟨b,off+j*10+1,none⟩=some (int i64 c.type):=g 1 _ rfl;have d2:p.cell? ⟨b,off+j*10+2,none⟩=some (.slice qa L za):=g 2 _ rfl;have d3:p.cell? ⟨b,off+j*10+3,none⟩=some (int .u8 c.test.kind):=g 3 _ rfl;have d4:p.cell? ⟨b,off+j*10+4,none⟩=some (int .u8 c.test.val.kind):=g 4 _ rfl;have d5:p.cell? ⟨b,off+j*10+5,none⟩=some (int i64 c.test.val.num):=g 5 _ rfl;have d6:p.cell? ⟨b,off+j*10+6,none⟩=some (.string c.test.val.text):=g 6 _ rfl;have d7:p.cell? ⟨b,off+j*10+7,none⟩=some (int i64 c.test.var):=g 7 _ rfl;have d8:p.cell? ⟨b,off+j*10+8,none⟩=some (int .u8 c.test.op):=g 8 _ rfl;have d9:p.cell? ⟨b,off+j*10+9,none⟩=some (.slice Z y ze):=g 9 _ rfl;obtain⟨kd,bt⟩:=zzy (c.kind);rw[bt]at d0;obtain⟨Q,ek⟩:=zzx (p.alloc (.cells #[int .u8 kd,int i64 c.type,.slice qa L za,int .u8 c.test.kind,int .u8 c.test.val.kind,int i64 c.test.val.num,.string c.test.val.text,int i64 c.test.var,int .u8 c.test.op,.slice Z y ze] 52));have U:Ft p Q:=by rw[ek];exact (EB _ p).alloc (EA _) _
   have hp:Q.heap[p.heap.size]?=some (.cells #[int .u8 kd,int i64 c.type,.slice qa L za,int .u8 c.test.kind,int .u8 c.test.val.kind,int i64 c.test.val.num,.string c.test.val.text,int i64 c.test.var,int .u8 c.test.op,.slice Z y ze] 52 (0,0)):=by rw[ek];exact n7 p _
   obtain⟨cl,bB⟩:∃cl:Array Value,cl=#[int .u8 kd,int i64 c.type,.slice qa L za,int .u8 c.test.kind,int .u8 c.test.val.kind,int i64 c.test.val.num,.string c.test.val.text,int i64 c.test.var,int .u8 c.test.op,.slice Z y ze]:=⟨_,rfl⟩;have u:Hid (Q.heap[p.heap.size]?=some (.cells cl 52 (0,0))):=by rw[bB];exact hp
   have l:=Hd bB;have V:=Hd (aa U fs.o (Ez.1 fs.o).1);have C:=Hd (fv.o.trans (U.mono fv.o.size));have hr:=Hd (fun W (hW:Ft Q W)=>Rd.row_sub (fun b (hb:b<p.heap.size)=>EF hb (EG U.size hW.size)) (Rd.row_below (Rd.row_below a7 (fun _ h=>h) U) (fun b (h:b<p.heap.size)=>EF h U.size) hW));have hM:=Hd (fun W (hW:Ft Q W)=>eh (fun b (hb:b<p.heap.size)=>EF hb (EG U.size hW.size)) (ea (fun b (hb:b<p.heap.size) o ho=>((hW.block b (EF hb U.size)).trans (U.block b hb)).trans ho) fI));have G:Hid (bu d types (nv,nf) c=none→res=false):=fun h=>by rw[hi.o,kf r.conds (0,0) (j+1) ((ki hc fz.o).trans h)]
   have bR:Hid (∀s,bu d types (nv,nf) c=some s→cm d types (0,0) (r.conds.take (j+1))=some s∧nv≤s.1∧s.1≤nv+6∧nf≤s.2∧s.2≤nf+1):=fun s h=>⟨(ki hc fz.o).trans h,rC e8.o h⟩
   have av:=Hd bn;have b0:=Hd br;have hN:=Hd ct;have a8:=Hd bt;clear ak g a7 fI hc fT bn br ct bt hb hp U bB;go_upto_region 8 with fail
   change Code.wp _ _ _ _ (p.alloc (.cells #[int .u8 kd,int i64 c.type,.slice qa L za,int .u8 c.test.kind,int .u8 c.test.val.kind,int i64 c.test.val.num,.string c.test.val.text,int i64 c.test.var,int .u8 c.test.op,.slice Z y ze] 52));rw[←ek];clear ek d0 d1 d2 d3 d4 d5 d6 d7 d8 d9 k3;have Y:∀bb:Bool,(kd=1∧bb=true∨kd=2∧bb=false)→Hid (bu d types (nv,nf) c=if aF types c.type (L:Int)&&zeroE c.test then (match bQ bb nv c.args with|none=>none|some v=>some (v,if bb then nf+1 else nf)) else none):=by
    intro bb h
    show _=_
    unfold bu;rw[a8.o,av.o];rcases h with ⟨rfl,rfl⟩|⟨rfl,rfl⟩<;>rfl
   have er:=Hd Y;clear Y
   by_cases b3:kd=1
   ·subst b3;have Y:=er.o true (by simp);have M:Hid (bu d types (nv,nf) c=if aF types c.type (L:Int)&&zeroE c.test then (match bQ true nv c.args with|none=>none|some v=>some (v,if true then nf+1 else nf)) else none):=Y.o
    have H:=Hd (iN _ types _ c.type (L:Int) Q (HT.o Q C.o));have y0:Q.cell? ⟨p.heap.size,0,none⟩=some (int .u8 1):=by rw[Fq _ _ _ _ _ _ u.o,l.o];rfl
    have y1:Q.cell? ⟨p.heap.size,1,none⟩=some (int i64 c.type):=by rw[Fq _ _ _ _ _ _ u.o,l.o];rfl
    have y2:Q.cell? ⟨p.heap.size,2,none⟩=some (.slice qa L za):=by rw[Fq _ _ _ _ _ _ u.o,l.o];rfl
    cases D:aF types c.type (L:Int) with
    | false =>
     rw[D]at H;have HE:Hid (res=false):=G.o (by rw[M.o,D];rfl);clear D;go_wp2_with fail
     refine H.o.mono ?_;rintro e W3 ⟨rfl,q⟩;have n:=Hd (C.o.trans (q.mono C.o.size));clear q H y0 y1 y2;go_wp2_with fail
     go_ret;exact⟨by rw[HE.o];rfl,n.o⟩
    | true =>
     rw[D]at H;have a1:=Hd D;have gf:Hid (L≤6):=by have h6:=uL e8.o D;show _≤_;omega
     clear D;go_wp2_with fail
     refine H.o.mono ?_;rintro e W3 ⟨rfl,q⟩;have n:=Hd (C.o.trans (q.mono C.o.size));have b4:=Hd q;have E:=aa q u.o (Ez.1 u.o).1;have A:=Hd E;clear q H y0 y1 y2;have y3:W3.cell? ⟨p.heap.size,3,none⟩=some (int .u8 c.test.kind):=by rw[Fq _ _ _ _ _ _ E,l.o];rfl
     have y4:W3.cell? ⟨p.heap.size,4,none⟩=some (int .u8 c.test.val.kind):=by rw[Fq _ _ _ _ _ _ E,l.o];rfl
     have y5:W3.cell? ⟨p.heap.size,5,none⟩=some (int i64 c.test.val.num):=by rw[Fq _ _ _ _ _ _ E,l.o];rfl
     have y6:W3.cell? ⟨p.heap.size,6,none⟩=some (.string c.test.val.text):=by rw[Fq _ _ _ _ _ _ E,l.o];rfl
     have y7:W3.cell? ⟨p.heap.size,7,none⟩=some (int i64 c.test.var):=by rw[Fq _ _ _ _ _ _ E,l.o];rfl
     have y8:W3.cell? ⟨p.heap.size,8,none⟩=some (int .u8 c.test.op):=by rw[Fq _ _ _ _ _ _ E,l.o];rfl
     have y9:W3.cell? ⟨p.heap.size,9,none⟩=some (.slice Z y ze):=by rw[Fq _ _ _ _ _ _ E,l.o];rfl
     have HZ:=Hd (qn c.test Z y ze W3 b0.o);clear E
     cases hz:zeroE c.test with
     | false =>
      rw[hz]at HZ;have HE:Hid (res=false):=G.o (by rw[M.o,a1.o,hz];rfl);clear hz;go_wp2_with fail
      refine HZ.o.mono ?_;rintro e W4 ⟨rfl,F⟩;have X:=Hd (n.o.trans (F.mono n.o.size));clear F HZ y3 y4 y5 y6 y7 y8 y9;go_wp2_with fail
      go_ret;exact⟨by rw[HE.o];rfl,X.o⟩
     | true =>
      rw[hz]at HZ;have bd:Hid (bu d types (nv,nf) c=match bQ true nv c.args with|none=>none|some v=>some (v,if true then nf+1 else nf)):=by
       show _=_
       rw[M.o,a1.o,hz];rfl
      clear hz;go_wp2_with fail
      refine HZ.o.mono ?_;rintro e W4 ⟨rfl,F⟩;have X:=Hd (n.o.trans (F.mono n.o.size));have b5:=Hd (b4.o.trans (F.mono b4.o.size));have cx:=Hd (aa b5.o u.o (Ez.1 u.o).1);have a6:=Hd (aa b5.o V.o (Ez.1 V.o).1);clear F HZ y3 y4 y5 y6 y7 y8 y9 n b4 A;have y2:W4.cell? ⟨p.heap.size,2,none⟩=some (.slice qa L za):=by rw[Fq _ _ _ _ _ _ cx.o,l.o];rfl
      go_wp2_with fail
      clear y2
      go_loopw [5,9] (CL true nv c.args L w Q rc p.heap.size cl) (fun _ i _=>L-(intOf i).toNat)
      case atStart=>exact⟨W4,0,nv,rfl,EM _,rfl,rfl,rfl,by omega,by omega,a6.o,cx.o,X.o,b5.o⟩
      case round =>
       obtain⟨I,k,J,rfl,hk,rfl,rfl,b6,b1,b2,aq,N,K,ba⟩:=hrel;have hs:(0:Int)≤k:=by omega
       have cA:=Hd b6;have O:=Hd aq;have bk:=Hd N;have R:=Hd K;have cC:=Hd ba;have y2:I.cell? ⟨p.heap.size,2,none⟩=some (.slice qa L za):=by rw[Fq _ _ _ _ _ _ N,l.o];rfl
       have y0:I.cell? ⟨p.heap.size,0,none⟩=some (int .u8 1):=by rw[Fq _ _ _ _ _ _ N,l.o];rfl
       by_cases cR:k<L
       ·have b3:(k:Int)<L:=by omega
        obtain⟨a,ha⟩:∃a,c.args[k]?=some a:=⟨_,EE (by rw[av.o];exact cR)⟩;have af:=Rd.row_at (hr.o I ba) ha;rw[av.o]at af;obtain⟨b,off,cap,vs,bq,_,_,_,_,ak,g⟩:=af;injection bq with e1 _ e3
        subst e1;subst e3;obtain⟨rfl,_,_,cV⟩:=eP.1 ak;have g:∀m z,(cU a)[m]?=some z→I.cell? ⟨b,off+k*5+m,none⟩=some z:=g;have d0:I.cell? ⟨b,off+k*5,none⟩=some (int .u8 a.kind):=g 0 _ rfl;have d1:I.cell? ⟨b,off+k*5+1,none⟩=some (int i64 a.var):=g 1 _ rfl;have d2:I.cell? ⟨b,off+k*5+2,none⟩=some (int .u8 a.val.kind):=g 2 _ rfl;have d3:I.cell? ⟨b,off+k*5+3,none⟩=some (int i64 a.val.num):=g 3 _ rfl;have d4:I.cell? ⟨b,off+k*5+4,none⟩=some (.string a.val.text):=g 4 _ rfl;have D0:=fun x:Wb I=>x.cell d0
        have D1:=fun x:Wb I=>x.cell d1
        have D2:=fun x:Wb I=>x.cell d2
        have D3:=fun x:Wb I=>x.cell d3
        have D4:=fun x:Wb I=>x.cell d4
        have Y0:=fun x:Wb I=>x.cell y0
        have Y2:=fun x:Wb I=>x.cell y2
        have gg:=av.o;have gD:=gf.o;have cW:0≤J∧J≤1000000:=⟨by omega,by omega⟩;have bl:=Hd (fun x:Wb I=>rS a J true x.1 cW cV.2.2);have c0:=Hd (jo (binds:=true) ha cA.o);clear ha ak g cV cW b6 aq N K ba gg gD;go_upto_region 17 with fail
        clear d0 d1 d2 d3 d4 y0 y2;refine ae (by kernel_rfl) (by kernel_rfl) ?_
        repeat (go_big_quiet_step ((go_at_call 39;exact Calls.below_of (bl.o _))))
        refine wpQuiet_nil ?_;intro W6 c1;have ar:=az c1;have c3:=Hd (R.o.trans (ar.mono R.o.size));have gE:=Hd (cC.o.trans (ar.mono cC.o.size));have c5:=Hd (aa ar O.o (Ez.1 O.o).1);have c6:=Hd (aa ar bk.o (Ez.1 bk.o).1);clear c1 ar D0 D1 D2 D3 D4 Y0 Y2 bl
        cases hq:aY true J a with
        | none =>
         have HE:Hid (res=false):=G.o (by rw[bd.o,ia c.args nv (k+1) (c0.o.trans hq)]);clear hq;go_wp2_with fail
         go_ret;exact⟨by rw[HE.o];rfl,c3.o⟩
        | some v =>
         have c7:=Hd (c0.o.trans hq);have hle:=jW hq;have HV:=Hd (xd hq);obtain⟨an,c8⟩:=zzy (qD J a);rw[c8]at HV ⊢;have hV:v=an:=HV.o;have gF:=Hd hV;have hy:J≤an∧an≤J+1:=by rw[←hV];exact hle
         clear hq c8 hV hle;go_wp2_with fail
         exact⟨⟨W6,k+1,an,rfl,by omega,rfl,by go_num,by rw[←gF.o];exact c7.o,by omega,by omega,c5.o,c6.o,c3.o,gE.o⟩,by simp[intOf];omega⟩
       ·obtain rfl:k=L:=by omega
        have c9:Hid (bQ true nv c.args=some J):=by
         have:=cA.o
         rwa [ER (by rw[av.o];exact EA _)]at this
        have da:=Hd (bR.o (J,if true then nf+1 else nf) (by rw[bd.o,c9.o];first|done|rfl|simp))
        clear b6 aq N K ba;go_wp2_with fail
        obtain⟨n1,n2,n3,n4,n5⟩:=da.o
        try dsimp only at n2 n3 n4 n5
        simp only[oA]at n4 n5;exact⟨⟨I,j+1,J,_,rfl,by omega,rfl,rfl,by go_num,n1,by omega,by omega,by first|omega|(show 0≤nf+1;omega)|(show 0≤nf;omega),by first|omega|(show nf+1≤_;omega)|(show nf≤_;omega),O.o,R.o⟩,by simp[intOf];omega⟩
   by_cases dc:kd=2
   ·subst dc;have Y:=er.o false (by simp);have M:Hid (bu d types (nv,nf) c=if aF types c.type (L:Int)&&zeroE c.test then (match bQ false nv c.args with|none=>none|some v=>some (v,if false then nf+1 else nf)) else none):=Y.o
    have H:=Hd (iN _ types _ c.type (L:Int) Q (HT.o Q C.o));have y0:Q.cell? ⟨p.heap.size,0,none⟩=some (int .u8 2):=by rw[Fq _ _ _ _ _ _ u.o,l.o];rfl
    have y1:Q.cell? ⟨p.heap.size,1,none⟩=some (int i64 c.type):=by rw[Fq _ _ _ _ _ _ u.o,l.o];rfl
    have y2:Q.cell? ⟨p.heap.size,2,none⟩=some (.slice qa L za):=by rw[Fq _ _ _ _ _ _ u.o,l.o];rfl
    cases D:aF types c.type (L:Int) with
    | false =>
     rw[D]at H;have HE:Hid (res=false):=G.o (by rw[M.o,D];rfl);clear D;go_wp2_with fail
     refine H.o.mono ?_;rintro e W3 ⟨rfl,q⟩;have n:=Hd (C.o.trans (q.mono C.o.size));clear q H y0 y1 y2;go_wp2_with fail
     go_ret;exact⟨by rw[HE.o];rfl,n.o⟩
    | true =>
     rw[D]at H;have a1:=Hd D;have gf:Hid (L≤6):=by have h6:=uL e8.o D;show _≤_;omega
     clear D;go_wp2_with fail
     refine H.o.mono ?_;rintro e W3 ⟨rfl,q⟩;have n:=Hd (C.o.trans (q.mono C.o.size));have b4:=Hd q;have E:=aa q u.o (Ez.1 u.o).1;have A:=Hd E;clear q H y0 y1 y2;have y3:W3.cell? ⟨p.heap.size,3,none⟩=some (int .u8 c.test.kind):=by rw[Fq _ _ _ _ _ _ E,l.o];rfl
     have y4:W3.cell? ⟨p.heap.size,4,none⟩=some (int .u8 c.test.val.kind):=by rw[Fq _ _ _ _ _ _ E,l.o];rfl
     have y5:W3.cell? ⟨p.heap.size,5,none⟩=some (int i64 c.test.val.num):=by rw[Fq _ _ _ _ _ _ E,l.o];rfl
     have y6:W3.cell? ⟨p.heap.size,6,none⟩=some (.string c.test.val.text):=by rw[Fq _ _ _ _ _ _ E,l.o];rfl
     have y7:W3.cell? ⟨p.heap.size,7,none⟩=some (int i64 c.test.var):=by rw[Fq _ _ _ _ _ _ E,l.o];rfl
     have y8:W3.cell? ⟨p.heap.size,8,none⟩=some (int .u8 c.test.op):=by rw[Fq _ _ _ _ _ _ E,l.o];rfl
     have y9:W3.cell? ⟨p.heap.size,9,none⟩=some (.slice Z y ze):=by rw[Fq _ _ _ _ _ _ E,l.o];rfl
     have HZ:=Hd (qn c.test Z y ze W3 b0.o);clear E
     cases hz:zeroE c.test with
     | false =>
      rw[hz]at HZ;have HE:Hid (res=false):=G.o (by rw[M.o,a1.o,hz];rfl);clear hz;go_wp2_with fail
      refine HZ.o.mono ?_;rintro e W4 ⟨rfl,F⟩;have X:=Hd (n.o.trans (F.mono n.o.size));clear F HZ y3 y4 y5 y6 y7 y8 y9;go_wp2_with fail
      go_ret;exact⟨by rw[HE.o];rfl,X.o⟩
     | true =>
      rw[hz]at HZ;have bd:Hid (bu d types (nv,nf) c=match bQ false nv c.args with|none=>none|some v=>some (v,if false then nf+1 else nf)):=by
       show _=_
       rw[M.o,a1.o,hz];rfl
      clear hz;go_wp2_with fail
      refine HZ.o.mono ?_;rintro e W4 ⟨rfl,F⟩;have X:=Hd (n.o.trans (F.mono n.o.size));have b5:=Hd (b4.o.trans (F.mono b4.o.size));have cx:=Hd (aa b5.o u.o (Ez.1 u.o).1);have a6:=Hd (aa b5.o V.o (Ez.1 V.o).1);clear F HZ y3 y4 y5 y6 y7 y8 y9 n b4 A;have y2:W4.cell? ⟨p.heap.size,2,none⟩=some (.slice qa L za):=by rw[Fq _ _ _ _ _ _ cx.o,l.o];rfl
      go_wp2_with fail
      clear y2
      go_loopw [5,9] (CL false nv c.args L w Q rc p.heap.size cl) (fun _ i _=>L-(intOf i).toNat)
      case atStart=>exact⟨W4,0,nv,rfl,EM _,rfl,rfl,rfl,by omega,by omega,a6.o,cx.o,X.o,b5.o⟩
      case round =>
       obtain⟨I,k,J,rfl,hk,rfl,rfl,b6,b1,b2,aq,N,K,ba⟩:=hrel;have hs:(0:Int)≤k:=by omega
       have cA:=Hd b6;have O:=Hd aq;have bk:=Hd N;have R:=Hd K;have cC:=Hd ba;have y2:I.cell? ⟨p.heap.size,2,none⟩=some (.slice qa L za):=by rw[Fq _ _ _ _ _ _ N,l.o];rfl
       have y0:I.cell? ⟨p.heap.size,0,none⟩=some (int .u8 2):=by rw[Fq _ _ _ _ _ _ N,l.o];rfl
       by_cases cR:k<L
       ·have b3:(k:Int)<L:=by omega
        obtain⟨a,ha⟩:∃a,c.args[k]?=some a:=⟨_,EE (by rw[av.o];exact cR)⟩;have af:=Rd.row_at (hr.o I ba) ha;rw[av.o]at af;obtain⟨b,off,cap,vs,bq,_,_,_,_,ak,g⟩:=af;injection bq with e1 _ e3
        subst e1;subst e3;obtain⟨rfl,_,_,cV⟩:=eP.1 ak;have g:∀m z,(cU a)[m]?=some z→I.cell? ⟨b,off+k*5+m,none⟩=some z:=g;have d0:I.cell? ⟨b,off+k*5,none⟩=some (int .u8 a.kind):=g 0 _ rfl;have d1:I.cell? ⟨b,off+k*5+1,none⟩=some (int i64 a.var):=g 1 _ rfl;have d2:I.cell? ⟨b,off+k*5+2,none⟩=some (int .u8 a.val.kind):=g 2 _ rfl;have d3:I.cell? ⟨b,off+k*5+3,none⟩=some (int i64 a.val.num):=g 3 _ rfl;have d4:I.cell? ⟨b,off+k*5+4,none⟩=some (.string a.val.text):=g 4 _ rfl;have D0:=fun x:Wb I=>x.cell d0
        have D1:=fun x:Wb I=>x.cell d1
        have D2:=fun x:Wb I=>x.cell d2
        have D3:=fun x:Wb I=>x.cell d3
        have D4:=fun x:Wb I=>x.cell d4
        have Y0:=fun x:Wb I=>x.cell y0
        have Y2:=fun x:Wb I=>x.cell y2
        have gg:=av.o;have gD:=gf.o;have cW:0≤J∧J≤1000000:=⟨by omega,by omega⟩;have bl:=Hd (fun x:Wb I=>rS a J false x.1 cW cV.2.2);have c0:=Hd (jo (binds:=false) ha cA.o);clear ha ak g cV cW b6 aq N K ba gg gD;go_upto_region 17 with fail
        clear d0 d1 d2 d3 d4 y0 y2;refine ae (by kernel_rfl) (by kernel_rfl) ?_
        repeat (go_big_quiet_step ((go_at_call 39;exact Calls.below_of (bl.o _))))
        refine wpQuiet_nil ?_;intro W6 c1;have ar:=az c1;have c3:=Hd (R.o.trans (ar.mono R.o.size));have gE:=Hd (cC.o.trans (ar.mono cC.o.size));have c5:=Hd (aa ar O.o (Ez.1 O.o).1);have c6:=Hd (aa ar bk.o (Ez.1 bk.o).1);clear c1 ar D0 D1 D2 D3 D4 Y0 Y2 bl
        cases hq:aY false J a with
        | none =>
         have HE:Hid (res=false):=G.o (by rw[bd.o,ia c.args nv (k+1) (c0.o.trans hq)]);clear hq;go_wp2_with fail
         go_ret;exact⟨by rw[HE.o];rfl,c3.o⟩
        | some v =>
         have c7:=Hd (c0.o.trans hq);have hle:=jW hq;have HV:=Hd (xd hq);obtain⟨an,c8⟩:=zzy (qD J a);rw[c8]at HV ⊢;have hV:v=an:=HV.o;have gF:=Hd hV;have hy:J≤an∧an≤J+1:=by rw[←hV];exact hle
         clear hq c8 hV hle;go_wp2_with fail
         exact⟨⟨W6,k+1,an,rfl,by omega,rfl,by go_num,by rw[←gF.o];exact c7.o,by omega,by omega,c5.o,c6.o,c3.o,gE.o⟩,by simp[intOf];omega⟩
       ·obtain rfl:k=L:=by omega
        have c9:Hid (bQ false nv c.args=some J):=by
         have:=cA.o
         rwa [ER (by rw[av.o];exact EA _)]at this
        have da:=Hd (bR.o (J,if false then nf+1 else nf) (by rw[bd.o,c9.o];first|done|rfl|simp))
        clear b6 aq N K ba;go_wp2_with fail
        obtain⟨n1,n2,n3,n4,n5⟩:=da.o
        try dsimp only at n2 n3 n4 n5
        simp only[oi,EW]at n4 n5;exact⟨⟨I,j+1,J,_,rfl,by omega,rfl,rfl,by go_num,n1,by omega,by omega,by first|omega|(show 0≤nf+1;omega)|(show 0≤nf;omega),by first|omega|(show nf+1≤_;omega)|(show nf≤_;omega),O.o,R.o⟩,by simp[intOf];omega⟩
   by_cases dd:kd=3
   ·subst dd;have M:Hid (bu d types (nv,nf) c=if decide (c.type=0)&&decide (L=0)&&bK nv d c.test then some (nv,nf) else none):=by
     show _=_
     unfold bu;rw[a8.o,show c.args.isEmpty=decide (L=0) by rw[←av.o];cases c.args<;>rfl,show (c.type==0)=decide (c.type=0) from rfl]
     rfl
    have y0:Q.cell? ⟨p.heap.size,0,none⟩=some (int .u8 3):=by rw[Fq _ _ _ _ _ _ u.o,l.o];rfl
    have y1:Q.cell? ⟨p.heap.size,1,none⟩=some (int i64 c.type):=by rw[Fq _ _ _ _ _ _ u.o,l.o];rfl
    have y2:Q.cell? ⟨p.heap.size,2,none⟩=some (.slice qa L za):=by rw[Fq _ _ _ _ _ _ u.o,l.o];rfl
    have y3:Q.cell? ⟨p.heap.size,3,none⟩=some (int .u8 c.test.kind):=by rw[Fq _ _ _ _ _ _ u.o,l.o];rfl
    have y4:Q.cell? ⟨p.heap.size,4,none⟩=some (int .u8 c.test.val.kind):=by rw[Fq _ _ _ _ _ _ u.o,l.o];rfl
    have y5:Q.cell? ⟨p.heap.size,5,none⟩=some (int i64 c.test.val.num):=by rw[Fq _ _ _ _ _ _ u.o,l.o];rfl
    have y6:Q.cell? ⟨p.heap.size,6,none⟩=some (.string c.test.val.text):=by rw[Fq _ _ _ _ _ _ u.o,l.o];rfl
    have y7:Q.cell? ⟨p.heap.size,7,none⟩=some (int i64 c.test.var):=by rw[Fq _ _ _ _ _ _ u.o,l.o];rfl
    have y8:Q.cell? ⟨p.heap.size,8,none⟩=some (int .u8 c.test.op):=by rw[Fq _ _ _ _ _ _ u.o,l.o];rfl
    have y9:Q.cell? ⟨p.heap.size,9,none⟩=some (.slice Z y ze):=by rw[Fq _ _ _ _ _ _ u.o,l.o];rfl
    by_cases h0:c.type=0
    ·by_cases ha:L=0
     ·subst ha;have H0:Hid (c.type=0):=h0;have HC:=Hd (oJ nv d c.test (.slice Z y ze) Q hN.o (hM.o Q (EB _ _)))
      cases hx:bK nv d c.test with
      | false =>
       rw[hx]at HC;have HE:Hid (res=false):=G.o (by rw[M.o,hx];simp);clear hx;go_wp2_with fail
       refine HC.o.mono ?_;rintro e W3 ⟨rfl,q⟩;have n:=Hd (C.o.trans (q.mono C.o.size));clear q HC y0 y1 y2 y3 y4 y5 y6 y7 y8 y9;go_wp2_with fail
       go_ret;exact⟨by rw[HE.o];rfl,n.o⟩
      | true =>
       rw[hx]at HC;have da:=Hd (bR.o (nv,nf) (by rw[M.o,hx,decide_eq_true H0.o];rfl));clear hx;go_wp2_with fail
       refine HC.o.mono ?_;rintro e W3 ⟨rfl,q⟩;have n:=Hd (C.o.trans (q.mono C.o.size));have ad:=Hd (aa q V.o (Ez.1 V.o).1);clear q HC y0 y1 y2 y3 y4 y5 y6 y7 y8 y9;go_wp2_with fail
       exact⟨⟨W3,j+1,nv,nf,rfl,by omega,rfl,rfl,by go_num,da.o.1,by omega,by omega,by omega,by omega,ad.o,n.o⟩,by simp[intOf];omega⟩
     ·have HE:Hid (res=false):=G.o (by rw[M.o,oc ha];simp);have hO:¬((L:Int)=0):=by omega
      have h7:((L:Int)==0)=false:=by simpa using hO
      go_wp2_with fail
      go_ret;exact⟨by rw[HE.o];rfl,C.o⟩
    ·have HE:Hid (res=false):=G.o (by rw[M.o,oc h0];simp);go_wp2_with fail
     go_ret;exact⟨by rw[HE.o];rfl,C.o⟩
   have HE:Hid (res=false):=G.o (by
    unfold bu;rw[a8.o,show (kd==1)=false by simpa using b3,show (kd==2)=false by simpa using dc,show (kd==3)=false by simpa using dd]
    rfl)
   have y0:Q.cell? ⟨p.heap.size,0,none⟩=some (int .u8 kd):=by rw[Fq _ _ _ _ _ _ u.o,l.o];rfl
   go_wp2_with fail
   go_ret;exact⟨by rw[HE.o];rfl,C.o⟩
  ·obtain rfl:j=nc:=by omega
   have gH:Hid (cm d types (0,0) r.conds=some (nv,nf)):=by
    have:=fz.o
    rwa [ER (by rw[e6.o];exact EA _)]at this
   have hA:Hid (res=(r.vars==nv&&decide (nv≤16)&&r.acts.all (bf d types (nv,nf)))):=by
    show _=_
    rw[hi.o,gH.o]
   clear hb;go_wp2_with fail
   clear k3
   go_loopw [12] (Er (bf d types (nv,nf)) r.acts na w rc) (fun i _=>na-(intOf i).toNat)
   case atStart=>exact⟨p,0,rfl,EM _,rfl,rfl,fs.o,fv.o⟩
   case round =>
    obtain⟨W2,k,rfl,hk,rfl,et,ch,U⟩:=hrel;have hs:(0:Int)≤k:=by omega
    have hC:=Hd et;have V:=Hd ch;have C:=Hd U;have k4:W2.cell? ⟨w.heap.size,4,none⟩=some (.slice pa na ca):=by rw[Fq _ _ _ _ _ _ ch,fm.o];rfl
    have k2:W2.cell? ⟨w.heap.size,2,none⟩=some (int i64 r.vars):=by rw[Fq _ _ _ _ _ _ ch,fm.o];rfl
    clear et ch
    by_cases cR:k<na
    ·have h8:(k:Int)<na:=by omega
     obtain⟨a,ha⟩:∃a,r.acts[k]?=some a:=⟨_,EE (by rw[e7.o];exact cR)⟩;have af:=Rd.row_at (HA.o W2 U) ha;rw[e7.o]at af;obtain⟨b,off,cap,vs,bq,_,_,_,_,ak,g⟩:=af;injection bq with e1 _ e3
     subst e1;subst e3;rw[qO]at g;obtain⟨_,_,_,s,rfl,el⟩:=eB.1 ak;obtain⟨Z,ze,cv⟩:=Rd.row_shape el;have gL:=Rd.row_len el;obtain⟨y,br⟩:=zzy (a.exprs.length);rw[br]at cv gL;subst cv;have hR:(y:Int)≤9223372036854775807:=by unfold maxLen at gL;omega
     have d0:W2.cell? ⟨b,off+k*4,none⟩=some (int .u8 a.kind):=g 0 _ rfl;have d1:W2.cell? ⟨b,off+k*4+1,none⟩=some (int i64 a.type):=g 1 _ rfl;have d2:W2.cell? ⟨b,off+k*4+2,none⟩=some (int i64 a.which):=g 2 _ rfl;have d3:W2.cell? ⟨b,off+k*4+3,none⟩=some (.slice Z y ze):=g 3 _ rfl;obtain⟨kd,bt⟩:=zzy (a.kind);rw[bt]at d0;obtain⟨P,en⟩:=zzx (W2.alloc (.cells #[int .u8 kd,int i64 a.type,int i64 a.which,.slice Z y ze] 58));have q:Ft W2 P:=by rw[en];exact (EB _ W2).alloc (EA _) _
     have E:P.heap[W2.heap.size]?=some (.cells #[int .u8 kd,int i64 a.type,int i64 a.which,.slice Z y ze] 58 (0,0)):=by rw[en];exact n7 W2 _
     obtain⟨cl,bB⟩:∃cl:Array Value,cl=#[int .u8 kd,int i64 a.type,int i64 a.which,.slice Z y ze]:=⟨_,rfl⟩;have A:Hid (P.heap[W2.heap.size]?=some (.cells cl 58 (0,0))):=by rw[bB];exact E
     have l:=Hd bB;have ad:=Hd (aa q V.o (Ez.1 V.o).1);have n:=Hd (C.o.trans (q.mono C.o.size));have eo:=Hd (fun W (hW:Ft P W)=>Rd.row_sub (fun b (hb:b<W2.heap.size)=>EF hb (EG q.size hW.size)) (Rd.row_below (Rd.row_below el (fun _ h=>h) q) (fun b (h:b<W2.heap.size)=>EF h q.size) hW));have M:=Hd (fun h=>rj (f:=bf d types (nv,nf)) ha hC.o h);have S:Hid (bf d types (nv,nf) a=false→res=false):=fun h=>by rw[hA.o,rh ha h];simp
     have b0:=Hd br;have a8:=Hd bt;clear ak g el ha gL br bt U E q bB;go_upto_region 30 with fail
     change Code.wp _ _ _ _ (W2.alloc (.cells #[int .u8 kd,int i64 a.type,int i64 a.which,.slice Z y ze] 58));rw[←en];clear en d0 d1 d2 d3 k4 k2
     by_cases b3:kd=1
     ·subst b3;have B:Hid (bf d types (nv,nf) a=(a.which==0&&aF types a.type (y:Int)&&a.exprs.all (bK nv d))):=by
       show _=_
       unfold bf;rw[a8.o,b0.o];rfl
      have y0:P.cell? ⟨W2.heap.size,0,none⟩=some (int .u8 1):=by rw[Fq _ _ _ _ _ _ A.o,l.o];rfl
      have y1:P.cell? ⟨W2.heap.size,1,none⟩=some (int i64 a.type):=by rw[Fq _ _ _ _ _ _ A.o,l.o];rfl
      have y2:P.cell? ⟨W2.heap.size,2,none⟩=some (int i64 a.which):=by rw[Fq _ _ _ _ _ _ A.o,l.o];rfl
      have y3:P.cell? ⟨W2.heap.size,3,none⟩=some (.slice Z y ze):=by rw[Fq _ _ _ _ _ _ A.o,l.o];rfl
      by_cases h0:a.which=0
      ·have H0:=Hd h0
       cases D:aF types a.type (y:Int) with
       | false =>
        have H:=Hd (iN _ types _ a.type (y:Int) P (HT.o P n.o));rw[D]at H;have a1:=Hd D;clear D;go_wp2_with fail
        refine H.o.mono ?_;rintro e W4 ⟨rfl,F⟩;have X:=Hd (n.o.trans (F.mono n.o.size));clear F H y0 y1 y2 y3;go_wp2_with fail
        go_ret;exact⟨by rw[S.o (by rw[B.o];rw[a1.o];simp)];rfl,X.o⟩
       | true =>
        have H:=Hd (iN _ types _ a.type (y:Int) P (HT.o P n.o));rw[D]at H;have a1:=Hd D;clear D;go_wp2_with fail
        refine H.o.mono ?_;rintro e W4 ⟨rfl,F⟩;have X:=Hd (n.o.trans (F.mono n.o.size));have hD:=Hd F;have a6:=Hd (aa F ad.o (Ez.1 ad.o).1);have hE:=aa F A.o (Ez.1 A.o).1;clear F H y0 y1 y2 y3;have y3:W4.cell? ⟨W2.heap.size,3,none⟩=some (.slice Z y ze):=by rw[Fq _ _ _ _ _ _ hE,l.o];rfl
        clear hE
        cases hex:a.exprs.all (bK nv d) with
        | false =>
         have T:=Hd (kC nv d a.exprs (.slice Z y ze) W4 (eo.o W4 hD.o));rw[hex]at T;have b7:=Hd hex;clear hex;go_wp2_with fail
         refine T.o.mono ?_;rintro e I ⟨rfl,K⟩;have R:=Hd (X.o.trans (K.mono X.o.size));clear K T y3;go_wp2_with fail
         go_ret;exact⟨by rw[S.o (by rw[B.o];rw[a1.o,H0.o];rw[b7.o];simp)];rfl,R.o⟩
        | true =>
         have T:=Hd (kC nv d a.exprs (.slice Z y ze) W4 (eo.o W4 hD.o));rw[hex]at T;have b7:=Hd hex;clear hex;go_wp2_with fail
         refine T.o.mono ?_;rintro e I ⟨rfl,K⟩;have R:=Hd (X.o.trans (K.mono X.o.size));have O:=Hd (aa K a6.o (Ez.1 a6.o).1);clear K T y3;go_wp2_with fail
         exact⟨⟨I,k+1,rfl,by omega,by go_num,M.o (by rw[B.o];rw[a1.o,H0.o];rw[b7.o];simp),O.o,R.o⟩,by simp[intOf];omega⟩
      ·have b8:(a.which==0)=false:=by simpa using h0
       clear y1 y3;go_wp2_with fail
       go_ret;exact⟨by rw[S.o (by rw[B.o];rw[b8];rfl)];rfl,n.o⟩
     by_cases dc:kd=2
     ·subst dc;have B:Hid (bf d types (nv,nf) a=(a.type==0&&decide (y=0)&&decide (0≤a.which)&&decide (a.which<nf))):=by
       show _=_
       unfold bf;rw[a8.o,show a.exprs.isEmpty=decide (y=0) by rw[←b0.o];cases a.exprs<;>rfl];rfl
      have y0:P.cell? ⟨W2.heap.size,0,none⟩=some (int .u8 2):=by rw[Fq _ _ _ _ _ _ A.o,l.o];rfl
      have y1:P.cell? ⟨W2.heap.size,1,none⟩=some (int i64 a.type):=by rw[Fq _ _ _ _ _ _ A.o,l.o];rfl
      have y2:P.cell? ⟨W2.heap.size,2,none⟩=some (int i64 a.which):=by rw[Fq _ _ _ _ _ _ A.o,l.o];rfl
      have y3:P.cell? ⟨W2.heap.size,3,none⟩=some (.slice Z y ze):=by rw[Fq _ _ _ _ _ _ A.o,l.o];rfl
      by_cases h0:a.type=0
      ·have H0:=Hd h0
       by_cases hm:y=0
       ·subst hm
        by_cases h5:0≤a.which
        ·have b9:decide (0≤a.which)=true:=decide_eq_true h5
         by_cases h6:a.which<nf
         ·have gM:decide (a.which<nf)=true:=decide_eq_true h6;go_wp2_with fail
          exact⟨⟨P,k+1,rfl,by omega,by go_num,M.o (by rw[B.o];rw[H0.o,b9,gM];rfl),ad.o,n.o⟩,by simp[intOf];omega⟩
         ·have gM:decide (a.which<nf)=false:=oc h6;go_wp2_with fail
          go_ret;exact⟨by rw[S.o (by rw[B.o];rw[gM];simp)];rfl,n.o⟩
        ·have b9:decide (0≤a.which)=false:=oc h5;go_wp2_with fail
         go_ret;exact⟨by rw[S.o (by rw[B.o];rw[b9];simp)];rfl,n.o⟩
       ·have hP:((y:Int)==0)=false:=by simp;omega
        have ck:decide (y=0)=false:=oc hm;go_wp2_with fail
        go_ret;exact⟨by rw[S.o (by rw[B.o];rw[ck];simp)];rfl,n.o⟩
      ·have b8:(a.type==0)=false:=by simpa using h0
       go_wp2_with fail
       go_ret;exact⟨by rw[S.o (by rw[B.o];rw[b8];rfl)];rfl,n.o⟩
     by_cases dd:kd=3
     ·subst dd;have B:Hid (bf d types (nv,nf) a=(a.type==0&&a.which==0&&!decide (y=0)&&a.exprs.all (bK nv d))):=by
       show _=_
       unfold bf;rw[a8.o,show a.exprs.isEmpty=decide (y=0) by rw[←b0.o];cases a.exprs<;>rfl];rfl
      have y0:P.cell? ⟨W2.heap.size,0,none⟩=some (int .u8 3):=by rw[Fq _ _ _ _ _ _ A.o,l.o];rfl
      have y1:P.cell? ⟨W2.heap.size,1,none⟩=some (int i64 a.type):=by rw[Fq _ _ _ _ _ _ A.o,l.o];rfl
      have y2:P.cell? ⟨W2.heap.size,2,none⟩=some (int i64 a.which):=by rw[Fq _ _ _ _ _ _ A.o,l.o];rfl
      have y3:P.cell? ⟨W2.heap.size,3,none⟩=some (.slice Z y ze):=by rw[Fq _ _ _ _ _ _ A.o,l.o];rfl
      by_cases h0:a.type=0
      ·have H0:=Hd h0
       by_cases h5:a.which=0
       ·have H5:=Hd h5
        by_cases hm:y=0
        ·subst hm;go_wp2_with fail
         go_ret;exact⟨by rw[S.o (by rw[B.o];rw[H0.o,H5.o];rfl)];rfl,n.o⟩
        ·have ck:decide (y=0)=false:=oc hm;have hG:=Hd ck;have hS:(0:Int)<y:=by omega
         clear ck
         cases hex:a.exprs.all (bK nv d) with
         | false =>
          have T:=Hd (kC nv d a.exprs (.slice Z y ze) P (eo.o P (EB _ _)));rw[hex]at T;have b7:=Hd hex;clear hex;go_wp2_with fail
          refine T.o.mono ?_;rintro e I ⟨rfl,K⟩;have R:=Hd (n.o.trans (K.mono n.o.size));clear K T y0 y1 y2 y3;go_wp2_with fail
          go_ret;exact⟨by rw[S.o (by rw[B.o];rw[H0.o,H5.o,hG.o];rw[b7.o];simp)];rfl,R.o⟩
         | true =>
          have T:=Hd (kC nv d a.exprs (.slice Z y ze) P (eo.o P (EB _ _)));rw[hex]at T;have b7:=Hd hex;clear hex;go_wp2_with fail
          refine T.o.mono ?_;rintro e I ⟨rfl,K⟩;have R:=Hd (n.o.trans (K.mono n.o.size));have O:=Hd (aa K ad.o (Ez.1 ad.o).1);clear K T y0 y1 y2 y3;go_wp2_with fail
          exact⟨⟨I,k+1,rfl,by omega,by go_num,M.o (by rw[B.o];rw[H0.o,H5.o,hG.o];rw[b7.o];simp),O.o,R.o⟩,by simp[intOf];omega⟩
       ·have b9:(a.which==0)=false:=by simpa using h5
        go_wp2_with fail
        go_ret;exact⟨by rw[S.o (by rw[B.o];rw[b9];simp)];rfl,n.o⟩
      ·have b8:(a.type==0)=false:=by simpa using h0
       go_wp2_with fail
       go_ret;exact⟨by rw[S.o (by rw[B.o];rw[b8];rfl)];rfl,n.o⟩
     by_cases hI:kd=4
     ·subst hI;have B:Hid (bf d types (nv,nf) a=(a.type==0&&a.which==0&&decide (y=0))):=by
       show _=_
       unfold bf;rw[a8.o,show a.exprs.isEmpty=decide (y=0) by rw[←b0.o];cases a.exprs<;>rfl];rfl
      have y0:P.cell? ⟨W2.heap.size,0,none⟩=some (int .u8 4):=by rw[Fq _ _ _ _ _ _ A.o,l.o];rfl
      have y1:P.cell? ⟨W2.heap.size,1,none⟩=some (int i64 a.type):=by rw[Fq _ _ _ _ _ _ A.o,l.o];rfl
      have y2:P.cell? ⟨W2.heap.size,2,none⟩=some (int i64 a.which):=by rw[Fq _ _ _ _ _ _ A.o,l.o];rfl
      have y3:P.cell? ⟨W2.heap.size,3,none⟩=some (.slice Z y ze):=by rw[Fq _ _ _ _ _ _ A.o,l.o];rfl
      by_cases h0:a.type=0
      ·have H0:=Hd h0
       by_cases h5:a.which=0
       ·have H5:=Hd h5
        by_cases hm:y=0
        ·subst hm;go_wp2_with fail
         exact⟨⟨P,k+1,rfl,by omega,by go_num,M.o (by rw[B.o];rw[H0.o,H5.o];rfl),ad.o,n.o⟩,by simp[intOf];omega⟩
        ·have hP:((y:Int)==0)=false:=by simp;omega
         have ck:decide (y=0)=false:=oc hm;go_wp2_with fail
         go_ret;exact⟨by rw[S.o (by rw[B.o];rw[ck];simp)];rfl,n.o⟩
       ·have b9:(a.which==0)=false:=by simpa using h5
        go_wp2_with fail
        go_ret;exact⟨by rw[S.o (by rw[B.o];rw[b9];simp)];rfl,n.o⟩
      ·have b8:(a.type==0)=false:=by simpa using h0
       go_wp2_with fail
       go_ret;exact⟨by rw[S.o (by rw[B.o];rw[b8];rfl)];rfl,n.o⟩
     have B:Hid (bf d types (nv,nf) a=false):=by
      show _=_
      unfold bf;rw[a8.o,show (kd==1)=false by simpa using b3,show (kd==2)=false by simpa using dc,show (kd==3)=false by simpa using dd,show (kd==4)=false by simpa using hI];rfl
     have y0:P.cell? ⟨W2.heap.size,0,none⟩=some (int .u8 kd):=by rw[Fq _ _ _ _ _ _ A.o,l.o];rfl
     go_wp2_with fail
     go_ret;exact⟨by rw[S.o B.o];rfl,n.o⟩
    ·obtain rfl:k=na:=by omega
     have hJ:Hid (res=(r.vars==nv&&decide (nv≤16))):=by
      show _=_
      have:=hC.o;rw[ER (by rw[e7.o];exact EA _)]at this;rw[hA.o,this,Bool.and_true]
     clear U
     by_cases hv:r.vars=nv
     ·have gN:(r.vars==nv)=true:=by simpa using hv
      have HV:=Hd gN;go_wp2_with fail
      go_ret;exact⟨by rw[hJ.o,HV.o];rfl,C.o⟩
     ·have gN:(r.vars==nv)=false:=by simpa using hv
      have HV:=Hd gN;go_wp2_with fail
      go_ret;exact⟨by rw[hJ.o,HV.o];rfl,C.o⟩
