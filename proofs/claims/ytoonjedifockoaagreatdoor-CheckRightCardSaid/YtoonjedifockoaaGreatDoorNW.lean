/- The rule checker's second part: a rule, by contract. Condition: types of at most six fields. Printed by tools/genSuJ.py. -/
import Derived.Test.YtoonjedifockoaaGreatDoorNV
namespace Go.Proofs.YtoonjedifockoaaGreatDoor
open Go.IntKind(i64)
open Go.Value(int string slice)
set_option maxHeartbeats 16000000
set_option maxRecDepth 100000
open Go.RowKit
def BJ(F:Nat→Prop) (S d:Nat) (types:List ai) (rules:List aj) (vT vR:Value) (b:Bool) (w:World) (e:Ending) (w':World):Prop:=
 Chg (fun b=>b=S) w w'∧e=.returned (.bool b)∧∃a c,SuW F S d types rules vT vR a c w'
def uQ(F:Nat→Prop) (S d:Nat) (types:List ai) (rules:List aj) (vT vR:Value) (r:aj) (a:Nat) (w:World) (rc:Array Value) (i:Value) (W:World):Prop:=
 ∃(j:Nat) (nv nf:Int),j≤a∧i=int i64 (j:Int)∧cm d types (0,0) (r.conds.take j)=some (nv,nf)∧0≤nv∧nv≤6*j∧0≤nf∧nf≤j∧
  W.heap[w.heap.size]?=some (.cells #[.pointer (some ⟨S,0,none⟩)] 62 (0,0))∧W.heap[w.heap.size+1]?=some (.cells rc 38 (0,0))∧SuW F S d types rules vT vR nv nf W∧Chg (fun b=>b=S) w W
theorem rC{d:Nat}{types:List ai}{s f:Int×Int}{c:aC}(j:∀t∈types,t.fields≤6)(h:bu d types s c=some f):s.1≤f.1∧f.1≤s.1+6∧s.2≤f.2∧f.2≤s.2+1:=by
 have args:∀(b:Bool) (l:List cg) (v e:Int),bQ b v l=some e→v≤e∧e≤v+l.length:=by
  intro b l
  induction l with
  | nil=>intro v e h;injection h with h;subst h;simp
  | cons a l p =>
   intro v e h;unfold bQ at h
   cases k:aY b v a with
   | none=>rw[k]at h;cases h
   | some u =>
    rw[k]at h;have q:=jW k;have m:=p u e h;simp only[Fb];omega
 unfold bu at h
 split at h
 ·split at h
  ·rename_i g
   simp only[EQ]at g;have hlen:(c.args.length:Int)≤6:=by
    have n:=g.1;unfold aF at n;simp only[EQ,oe,o2]at n;obtain⟨⟨q,m⟩,o⟩:=n;have i:c.type.toNat<types.length:=by omega
    rw[EE i]at o;have w:=j _ (List.getElem_mem i);have o:types[c.type.toNat].fields=(c.args.length:Int):=o;omega
   split at h
   ·cases h
   ·rename_i v r
    injection h with h
    have m:=args _ _ _ _ r;rw[←h];dsimp only;refine⟨m.1,by omega,?_,?_⟩<;>split<;>omega
  ·cases h
 ·split at h
  ·injection h with h;rw[←h];omega
  ·cases h
theorem ki{d:Nat}{types:List ai}{s a:Int×Int}{l:List aC}{j:Nat}{c:aC}(b:l[j]?=some c)(h:cm d types s (l.take j)=some a):cm d types s (l.take (j+1))=bu d types a c:=by
 rw[Fg,b];exact mp d types _ _ _ _ h
theorem kf{d:Nat}{types:List ai}:∀(l:List aC) (s:Int×Int) (j:Nat),cm d types s (l.take j)=none→cm d types s l=none
 | [],s,j,h=>by simp[cm]at h
 | c::l,s,0,h=>by simp[cm]at h
 | c::l,s,j+1,h=>by
  rw[EK]at h;unfold cm at h ⊢
  cases a:bu d types s c with
  | none=>rfl
  | some b =>
   rw[a]at h;exact kf l b j h
theorem run_store_int(W:World)(b o:Nat)(x:Int)(u:Value)(a:W.cell? ⟨b,o,none⟩=some u)(c:W.frozen? ⟨b,o,none⟩=false):(Instr.storeAt 3 (.pointer (some ⟨b,o,none⟩)) (int i64 x)).run Tryz.prog W=.ok () (W.setCell ⟨b,o,none⟩ (int i64 x)):=by simp[Instr.storeAt,Instr.sureAddr,go_sem,a,c]
theorem vm(F:Nat→Prop)(S d:Nat)(types:List ai)(rules:List aj)(vT vR:Value)(a8 K:Int)(r:aj)(sc sa:Value)(w:World)(hw:SuW F S d types rules vT vR a8 K w)(ba:(bp d).row w F r.conds sc)(bb:(bS d).row w F r.acts sa)(b3:r.name.size≤maxLen)(b4:∀t∈types,t.fields≤6) :
  Calls Tryz.prog 17 #[.pointer (some ⟨S,0,none⟩),.agg #[.string r.name,int i64 r.sal,int i64 r.vars,sc,sa]] w (BJ F S d types rules vT vR (dU d types r) w):=by
 have gM:∀(fn:Fn) (first cap:Array Value) (w:World),(Instr.makeFunc fn first cap).run Tryz.prog w=.ok (.func fn first cap) w:=fun _ _ _ _=>rfl
 obtain⟨pc,cc,b5⟩:=Rd.row_shape ba;obtain⟨pa,ca,b6⟩:=Rd.row_shape bb;obtain⟨y,af⟩:=zzy (r.conds.length);obtain⟨C,ak⟩:=zzy (r.acts.length);rw[af]at b5;rw[ak]at b6;subst b5;subst b6;have bc:=Hd af;have gN:=Hd ak;obtain⟨w1,an⟩:=zzx ((w.alloc (.cells #[.pointer (some ⟨S,0,none⟩)] 62)).alloc (.cells #[.string r.name,int i64 r.sal,int i64 r.vars,.slice pc y cc,.slice pa C ca] 38));obtain⟨L,bd,_⟩:=am w (.cells #[.pointer (some ⟨S,0,none⟩)] 62) (.cells #[.string r.name,int i64 r.sal,int i64 r.vars,.slice pc y cc,.slice pa C ca] 38);have bk:Ft w w1:=by rw[an];exact ((EB _ w).alloc (EA _) _).alloc (by simp) _
 rw[←an]at L bd;have A:=hw.below bk;have a1:=Hd hw.lt;have HF:=Hd (fun b (E:F b)=>hw.f b E);have e8:=Hd ba;have e9:=Hd bb;have b7:=Hd b4;have b8:=Hd (fun W=>nY r.name W b3);have M:w1.cell? ⟨S,2,none⟩=some (int i64 a8):=A.vars;have bl:w1.cell? ⟨S,3,none⟩=some (int i64 K):=by rw[Fq _ _ _ _ _ _ A.h];rfl
 have b9:=bT A.h;obtain⟨N,H⟩:=zzx (w1.drew.setCell ⟨S,2,none⟩ (int i64 0));obtain⟨wb,O⟩:=zzx (N.setCell ⟨S,3,none⟩ (int i64 0));have ch:SuW F S d types rules vT vR a8 K w1.drew:=A.below (EB _ _).drew;have aq:SuW F S d types rules vT vR 0 K N:=by rw[H];exact ch.setV 0
 have fm:Hid (SuW F S d types rules vT vR 0 0 wb):=by show SuW _ _ _ _ _ _ _ _ _ _;rw[O];exact aq.setF 0
 have bn:∀b,b≠S→wb.heap[b]?=w1.heap[b]?:=fun b E=>by rw[O,ED _ _ _ _ E,H,ED _ _ _ _ E];rfl
 have P:wb.heap[w.heap.size]?=some (.cells #[.pointer (some ⟨S,0,none⟩)] 62 (0,0)):=(bn _ (by have:=hw.lt;omega)).trans L;have Q:wb.heap[w.heap.size+1]?=some (.cells #[.string r.name,int i64 r.sal,int i64 r.vars,.slice pc y cc,.slice pa C ca] 38 (0,0)):=(bn _ (by have:=hw.lt;omega)).trans bd;have fr:Hid (Chg (fun b=>b=S) w wb):=by
  show Chg _ _ _
  rw[O,H];exact Chg.setCell (F:=fun b=>b=S) (Chg.setCell (F:=fun b=>b=S) (Chg.of_below bk.drew) (p:=⟨S,2,none⟩) (Or.inl rfl) _) (p:=⟨S,3,none⟩) (Or.inl rfl) _
 have ck:=Hd P;have bq:=Hd Q;have I:w1.cell? ⟨w.heap.size,0,none⟩=some (.pointer (some ⟨S,0,none⟩)):=by rw[Fq _ _ _ _ _ _ L];rfl
 have P0:=fun x:RE.Two w1.drew N=>RE.Two.cell (p:=⟨w.heap.size,0,none⟩) (show w1.drew.cell? ⟨w.heap.size,0,none⟩=_ from I) (by
  have:N.heap[w.heap.size]?=w1.heap[w.heap.size]?:=by rw[H,ED _ _ _ _ (show w.heap.size≠S by have:=hw.lt;omega)];rfl
  rw[Fq _ _ _ _ _ _ (this.trans L)];rfl) x
 have cl:Hid (N.cell? ⟨S,3,none⟩=some (int i64 K)):=by show _=_;rw[Fq _ _ _ _ _ _ aq.h];rfl
 have fs:=Hd (bT aq.h);have cq:=Hd H;obtain⟨res,R⟩:=zzx (dU d types r);have HR:Hid (res=(bv r.name.data.toList&&decide (-1000≤r.sal)&&decide (r.sal≤1000)&&decide (y≤8)&&decide (C≤8)&&match cm d types (0,0) r.conds with|none=>false|some s=>r.vars==s.1&&decide (s.1≤16)&&r.acts.all (bf d types s))):=by
  show _=_
  rw[R,←af,←ak];rfl
 rw[←R];clear R L bd bk A hw ba bb b4 b3 ch aq bn P Q af ak
 go_enter Tryz.func17,Tryz.ntmps17
 go_upto_region 1 with fail
 change Code.wp _ _ _ _ ((w.alloc (.cells #[.pointer (some ⟨S,0,none⟩)] 62)).alloc (.cells #[.string r.name,int i64 r.sal,int i64 r.vars,.slice pc y cc,.slice pa C ca] 38));rw[←an];clear an H;refine RE.wp_region_eff (by kernel_rfl) 7 [4] [4] (fun s W=>if s=0 then W=w1.drew else W=N) (fun _ _=>True) (fun _ _=>undef) (fun _ _ _=>True) (by kernel_rfl) (fun i h1 h2=>by rw[h1]at h2;cases h2) (fun _ _ _ _ _ _ _=>trivial) rfl ?_;simp only[EK,ET,EL,ES]
 repeat (refine RE.wpE_read (fun W=>∃x:RE.Two w1.drew N,W=x.1) RE.two_class rfl rfl rfl rfl ?_;go_big_quiet_step (fail);refine wpQuiet_nil ?_)
 refine RE.wpE_turn rfl rfl ?_ (fun xs=>?_)
 ·intro W hC hS _;obtain rfl:W=w1.drew:=hS rfl;refine RE.upon_skip (w':=w1.drew.setCell ⟨S,2,none⟩ (int i64 0)) ?_ ⟨[],rfl,cq.o.symm,trivial,trivial⟩;have fv:=run_store_int w1.drew S 2 0 _ M (b9 2);simp[execOp,Act.eval,fv]
 simp only[Act.put]
 repeat (refine RE.wpE_read (fun W=>∃x:RE.Two w1.drew N,W=x.1) RE.two_class rfl rfl rfl rfl ?_;go_big_quiet_step (fail);refine wpQuiet_nil ?_)
 refine RE.wpE_nil ?_;intro W hS _;have hS:W=N:=hS;rw[hS];clear hS P0 M bl b9 I;have bl:=cl.o;have fz:=fs.o;go_upto_region 2 with fail
 rw[←O];clear O bl fz;obtain⟨e0,e1,e2,e3,e4⟩:=cells5 bq.o;go_wp2_with fail
 refine (b8.o wb).mono ?_;rintro e W3 ⟨rfl,T⟩;have HC:Hid (Chg (fun b=>b=S) w W3):=fr.o.trans (Chg.of_below T);have HW:=Hd (fm.o.below T);have cr:=aa T ck.o (Ez.1 ck.o).1;have br:=aa T bq.o (Ez.1 bq.o).1;have ct:=Hd cr;have cv:=Hd br;clear T e0 e1 e2 e3 e4 b8 cr;obtain⟨e0,e1,e2,e3,e4⟩:=cells5 br;clear br
 cases ar:bv r.name.data.toList with
 | false =>
  have g:Hid (res=false):=by show _=_;rw[HR.o,ar];rfl
  clear ar;go_wp2_with fail
  go_ret;exact⟨HC.o,by rw[g.o];rfl,_,_,HW.o⟩
 | true =>
 have fI:=Hd ar;clear ar
 by_cases h1:r.sal < -1000
 ·have g:Hid (res=false):=by show _=_;rw[HR.o,oc (show ¬-1000≤r.sal by omega)];simp
  go_wp2_with fail
  go_ret;exact⟨HC.o,by rw[g.o];rfl,_,_,HW.o⟩
 by_cases h2:1000<r.sal
 ·have g:Hid (res=false):=by show _=_;rw[HR.o,oc (show ¬r.sal≤1000 by omega)];simp
  go_wp2_with fail
  go_ret;exact⟨HC.o,by rw[g.o];rfl,_,_,HW.o⟩
 by_cases h3:8<y
 ·have fT:(8:Int)<y:=by omega
  have g:Hid (res=false):=by show _=_;rw[HR.o,oc (show ¬y≤8 by omega)];simp
  go_wp2_with fail
  go_ret;exact⟨HC.o,by rw[g.o];rfl,_,_,HW.o⟩
 have fT:¬(8:Int)<y:=by omega
 by_cases h4:8<C
 ·have gf:(8:Int)<C:=by omega
  have g:Hid (res=false):=by show _=_;rw[HR.o,oc (show ¬C≤8 by omega)];simp
  go_wp2_with fail
  go_ret;exact⟨HC.o,by rw[g.o];rfl,_,_,HW.o⟩
 have gf:¬(8:Int)<C:=by omega
 have cx:Hid (res=match cm d types (0,0) r.conds with|none=>false|some s=>r.vars==s.1&&decide (s.1≤16)&&r.acts.all (bf d types s)):=by
  show _=_
  rw[HR.o,fI.o,decide_eq_true (show -1000≤r.sal by omega),decide_eq_true (show r.sal≤1000 by omega),decide_eq_true (show y≤8 by omega),decide_eq_true (show C≤8 by omega)];rfl
 clear HR;go_wp2_with fail
 go_loopw [42] (uQ F S d types rules vT vR r y w #[.string r.name,int i64 r.sal,int i64 r.vars,.slice pc y cc,.slice pa C ca]) (fun i _=>y-(intOf i).toNat)
 case atStart=>exact⟨0,0,0,EM _,rfl,rfl,Int.le_refl _,by omega,Int.le_refl _,by omega,ct.o,cv.o,HW.o,HC.o⟩
 case round =>
  obtain⟨j,nv,nf,hj,rfl,cA,gO,gS,gT,ha,P,Q,cC,cR⟩:=hrel;have hd:(0:Int)≤j:=by omega
  have cT:=Hd cA;have U:=Hd P;have V:=Hd Q;have z:=Hd cC;have D:=Hd cR;clear cA P Q cC cR e0 e1 e2 e3 e4 HW HC ct cv
  by_cases gg:j<y
  ·have hf:(j:Int)<y:=by omega
   obtain⟨c,hc⟩:∃c,r.conds[j]?=some c:=⟨_,EE (by rw[bc.o];exact gg)⟩;have a6:(bp d).row wr F r.conds (.slice pc y cc):=Rd.row_keep (fun b E o ho=>(D.o.block b (HF.o b E).1 (HF.o b E).2).trans ho) e8.o;have cV:=Rd.row_at a6 hc;rw[bc.o]at cV;obtain⟨b,off,cap,vs,gD,_,_,_,_,bt,a⟩:=cV;rw[dL]at a;injection gD with gE _ gF
   subst gE;subst gF;have a7:=bt;obtain⟨_,_,_,hg,s',rfl,cW,dc⟩:=dq.1 a7;obtain⟨qa,da,dg⟩:=Rd.row_shape cW;obtain⟨q,dd,ds⟩:=aI dc;obtain⟨ma,dv⟩:=zzy (c.args.length);obtain⟨m,hm⟩:=zzy (c.test.kids.length);rw[dv]at dg;rw[hm]at ds;subst dg;subst ds;have c0:wr.cell? ⟨b,off+j*10,none⟩=some (int .u8 c.kind):=a 0 _ rfl;have c1:wr.cell? ⟨b,off+j*10+1,none⟩=some (int i64 c.type):=a 1 _ rfl;have c2:wr.cell? ⟨b,off+j*10+2,none⟩=some (.slice qa ma da):=a 2 _ rfl;have c3:wr.cell? ⟨b,off+j*10+3,none⟩=some (int .u8 c.test.kind):=a 3 _ rfl;have c4:wr.cell? ⟨b,off+j*10+4,none⟩=some (int .u8 c.test.val.kind):=a 4 _ rfl;have c5:wr.cell? ⟨b,off+j*10+5,none⟩=some (int i64 c.test.val.num):=a 5 _ rfl;have c6:wr.cell? ⟨b,off+j*10+6,none⟩=some (.string c.test.val.text):=a 6 _ rfl;have c7:wr.cell? ⟨b,off+j*10+7,none⟩=some (int i64 c.test.var):=a 7 _ rfl;have c8:wr.cell? ⟨b,off+j*10+8,none⟩=some (int .u8 c.test.op):=a 8 _ rfl;have c9:wr.cell? ⟨b,off+j*10+9,none⟩=some (.slice q m dd):=a 9 _ rfl;obtain⟨w5,av⟩:=zzx (wr.alloc (.cells #[int .u8 c.kind,int i64 c.type,.slice qa ma da,int .u8 c.test.kind,int .u8 c.test.val.kind,int i64 c.test.val.num,.string c.test.val.text,int i64 c.test.var,int .u8 c.test.op,.slice q m dd] 52));have J:Ft wr w5:=by rw[av];exact (EB _ wr).alloc (EA _) _
   have ec:w5.heap[wr.heap.size]?=some (.cells #[int .u8 c.kind,int i64 c.type,.slice qa ma da,int .u8 c.test.kind,int .u8 c.test.val.kind,int i64 c.test.val.num,.string c.test.val.text,int i64 c.test.var,int .u8 c.test.op,.slice q m dd] 52 (0,0)):=by rw[av];exact n7 wr _
   have bB:=aa J U.o (Ez.1 U.o).1;have eg:=aa J V.o (Ez.1 V.o).1;have ek:=Hd bB;have el:=Hd eg;have B:=Hd (xE F S d types rules vT vR nv nf c (.slice qa ma da) (.slice q m dd) w5 (z.o.below J) ((bp d).keep (fun b E o ho=>(J.block b (z.o.f b E).1).trans ho) bt) (by omega) (by omega) b7.o);have gH:Hid (Chg (fun b=>b=S) w w5):=D.o.trans (Chg.of_below J);have en:=Hd (ki hc cT.o);obtain⟨k0,k1,k2,k3,k4,k5,k6,k7,k8,k9⟩:=bw ec;have p0:w5.cell? ⟨w.heap.size,0,none⟩=some (.pointer (some ⟨S,0,none⟩)):=by rw[Fq _ _ _ _ _ _ bB];rfl
   clear a6 bt a7 a cW dc dv hm hc J ec bB eg;go_upto_region 7 with fail
   change Code.wp _ _ _ _ (wr.alloc (.cells #[int .u8 c.kind,int i64 c.type,.slice qa ma da,int .u8 c.test.kind,int .u8 c.test.val.kind,int i64 c.test.val.num,.string c.test.val.text,int i64 c.test.var,int .u8 c.test.op,.slice q m dd] 52));rw[←av];clear av c0 c1 c2 c3 c4 c5 c6 c7 c8 c9;go_wp2_with fail
   refine B.o.mono ?_;rintro e W4 ⟨G,rfl,hh,hi,eo,bR⟩;have er:Hid (Chg (fun b=>b=S) w W4):=gH.o.trans G;have b0:=(G.block _ (Ez.1 ek.o).1 (by have:=a1.o;omega)).trans ek.o;have b1:=(G.block _ (Ez.1 el.o).1 (by have:=a1.o;omega)).trans el.o;have et:=Hd eo;clear G eo k0 k1 k2 k3 k4 k5 k6 k7 k8 k9 p0
   cases hq:bu d types (nv,nf) c with
   | none =>
    have g:Hid (res=false):=by
     show _=_
     rw[cx.o,kf r.conds (0,0) (j+1) (en.o.trans hq)]
    clear hq bR b0 b1;go_wp2_with fail
    go_ret;exact⟨er.o,by rw[g.o];rfl,_,_,et.o⟩
   | some u =>
    obtain⟨ev,e5⟩:=bR u hq;have hle:=rC b7.o hq;dsimp only at hle;have gL:Hid (uQ F S d types rules vT vR r y w #[.string r.name,int i64 r.sal,int i64 r.vars,slice (some ⟨b,off,none⟩) y cc,.slice pa C ca] (int i64 ((j+1:Nat):Int)) W4):=
     ⟨j+1,u.1,u.2,by omega,rfl,en.o.trans hq,by omega,by omega,by omega,by omega,b0,b1,by rw[←ev,←e5];exact et.o,er.o⟩
    clear hq bR ev e5 hle b0 b1;go_wp2_with fail
    refine⟨gL.o,?_⟩;simp[intOf];omega
  ·have k:cm d types (0,0) r.conds=some (nv,nf):=by
    rw[←cT.o,ER (by rw[bc.o];omega)]
   have b2:Hid (res=(r.vars==nv&&decide (nv≤16)&&r.acts.all (bf d types (nv,nf)))):=by show _=_;rw[cx.o,k]
   clear k;obtain⟨e0,e1,e2,e3,e4⟩:=cells5 V.o;have I:wr.cell? ⟨w.heap.size,0,none⟩=some (.pointer (some ⟨S,0,none⟩)):=by rw[Fq _ _ _ _ _ _ U.o];rfl
   have M:wr.cell? ⟨S,2,none⟩=some (int i64 nv):=z.o.vars;have X:(bS d).row wr F r.acts (.slice pa C ca):=Rd.row_keep (fun b E o ho=>(D.o.block b (HF.o b E).1 (HF.o b E).2).trans ho) e9.o;have B:=Hd (fun (x:Wb wr)=>zX F S d types rules vT vR nv nf r.acts (.slice pa C ca) w.heap.size x.1 (z.o.below x.2) (x.cell I) (Rd.row_keep (fun b E o ho=>(x.2.block b (z.o.f b E).1).trans ho) X));have T0:=fun x:Wb wr=>x.cell I
   have R2:=fun x:Wb wr=>x.cell e2
   have R4:=fun x:Wb wr=>x.cell e4
   have V2:=fun x:Wb wr=>x.cell M
   clear X;go_upto_region 10 with fail
   clear e0 e1 e2 e3 e4 I M
   by_cases Y:r.vars=nv
   ·have Z:(r.vars==nv)=true:=by simpa using Y
    have e6:decide (r.vars=nv)=true:=decide_eq_true Y;have hk:=Hd Y
    by_cases e7:nv≤16
    ·have ad:decide (nv≤16)=true:=decide_eq_true e7;have g:Hid (res=r.acts.all (bf d types (nv,nf))):=by show _=_;rw[b2.o,Z,ad];rfl
     cases k:r.acts.all (bf d types (nv,nf)) with
     | true =>
      rw[k]at B g;clear k;refine ae (by kernel_rfl) (by kernel_rfl) ?_
      repeat (go_big_quiet_step ((go_at_call 34;exact Calls.below_of (B.o _))))
      refine wpQuiet_nil ?_;intro W2 l;have n:=az l;have v:=Hd n;clear l n T0 R2 R4 V2;go_wp2_with fail
      go_ret;exact⟨D.o.trans (Chg.of_below v.o),by rw[g.o];first|rfl|simp_all,_,_,z.o.below v.o⟩
     | false =>
      rw[k]at B g;clear k;refine ae (by kernel_rfl) (by kernel_rfl) ?_
      repeat (go_big_quiet_step ((go_at_call 34;exact Calls.below_of (B.o _))))
      refine wpQuiet_nil ?_;intro W2 l;have n:=az l;have v:=Hd n;clear l n T0 R2 R4 V2;go_wp2_with fail
      go_ret;exact⟨D.o.trans (Chg.of_below v.o),by rw[g.o];first|rfl|simp_all,_,_,z.o.below v.o⟩
    ·have ad:decide (nv≤16)=false:=oc e7;have g:Hid (res=false):=by show _=_;rw[b2.o,ad];simp
     refine ae (by kernel_rfl) (by kernel_rfl) ?_
     repeat (go_big_quiet_step ((go_at_call 34;exact Calls.below_of (B.o _))))
     refine wpQuiet_nil ?_;intro W2 l;have n:=az l;have v:=Hd n;clear l n T0 R2 R4 V2;go_wp2_with fail
     go_ret;exact⟨D.o.trans (Chg.of_below v.o),by rw[g.o];first|rfl|simp_all,_,_,z.o.below v.o⟩
   ·have Z:(r.vars==nv)=false:=by simpa using Y
    have e6:decide (r.vars=nv)=false:=oc Y;have g:Hid (res=false):=by show _=_;rw[b2.o,Z];rfl
    refine ae (by kernel_rfl) (by kernel_rfl) ?_
    repeat (go_big_quiet_step ((go_at_call 34;exact Calls.below_of (B.o _))))
    refine wpQuiet_nil ?_;intro W2 l;have n:=az l;have v:=Hd n;clear l n T0 R2 R4 V2;go_wp2_with fail
    go_ret;exact⟨D.o.trans (Chg.of_below v.o),by rw[g.o];first|rfl|simp_all,_,_,z.o.below v.o⟩
