/- The rule checker's second part: a condition, by contract. Condition: types of at most six fields. Printed by tools/genSuG.py. -/
import Derived.Test.YtoonjedifockoaaGreatDoorNS
import Derived.Test.YtoonjedifockoaaGreatDoorNA
namespace Go.Proofs.YtoonjedifockoaaGreatDoor
open Go.IntKind(i64)
open Go.Value(int string slice)
set_option maxHeartbeats 8000000
set_option maxRecDepth 100000
open Go.RowKit
def kV(F:Nat→Prop) (S d:Nat) (types:List ai) (rules:List aj) (vT vR:Value) (r:Option (Int×Int)) (w:World) (e:Ending) (w':World):Prop:=
 Chg (fun b=>b=S) w w'∧e=.returned (.bool r.isSome)∧∃a c,SuW F S d types rules vT vR a c w'∧∀x,r=some x→a=x.1∧c=x.2
def pJ(F:Nat→Prop) (S d:Nat) (types:List ai) (rules:List aj) (vT vR:Value) (nv nf:Int) (binds:Bool) (c:aC) (a:Nat) (w:World) (cs:Array Value) (i:Value) (W:World):Prop:=
 ∃(j:Nat) (v:Int),j≤a∧i=int i64 (j:Int)∧bQ binds nv (c.args.take j)=some v∧nv≤v∧v≤nv+j∧W.heap[w.heap.size]?=some (.cells cs 52 (0,0))∧SuW F S d types rules vT vR v nf W∧Chg (fun b=>b=S) w W
theorem jo{binds:Bool}{nv v:Int}{l:List cg}{j:Nat}{a:cg}(b:l[j]?=some a)(h:bQ binds nv (l.take j)=some v):bQ binds nv (l.take (j+1))=aY binds v a:=by
 rw[Fg,b];exact nM binds _ _ _ _ h
theorem ia{binds:Bool}:∀(l:List cg) (nv:Int) (j:Nat),bQ binds nv (l.take j)=none→bQ binds nv l=none
 | [],nv,j,h=>by simp[bQ]at h
 | a::l,nv,0,h=>by simp[bQ]at h
 | a::l,nv,j+1,h=>by
  rw[EK]at h;unfold bQ at h ⊢
  cases b:aY binds nv a with
  | none=>rfl
  | some v =>
   rw[b]at h;exact ia l v j h
theorem jW{binds:Bool}{v b:Int}{a:cg}(h:aY binds v a=some b):v≤b∧b≤v+1:=by
 unfold aY at h
 repeat' split at h
 all_goals first
  | (injection h with h;omega)
  | cases h
theorem t9(F:Nat→Prop)(S d:Nat)(types:List ai)(rules:List aj)(vT vR:Value)(nv nf:Int)(c:aC)(X p:Option Addr)(l N n Y:Nat)(w:World)(hw:SuW F S d types rules vT vR nv nf w)(hk:c.kind=1)(q:c.args.length=l)(hn:c.test.kids.length=n)(a8:dm.row w F c.args (.slice X l N))(cx:0≤nv∧nv≤1000)(cA:0≤nf∧nf≤1000)(ba:∀t∈types,t.fields≤6) :
  Calls Tryz.prog 33 #[.pointer (some ⟨S,0,none⟩),.agg #[int .u8 c.kind,int i64 c.type,.slice X l N,int .u8 c.test.kind,int .u8 c.test.val.kind,int i64 c.test.val.num,.string c.test.val.text,int i64 c.test.var,int .u8 c.test.op,.slice p n Y]] w (kV F S d types rules vT vR (bu d types (nv,nf) c) w):=by
 obtain⟨w1,C⟩:=zzx (w.alloc (.cells #[int .u8 1,int i64 c.type,.slice X l N,int .u8 c.test.kind,int .u8 c.test.val.kind,int i64 c.test.val.num,.string c.test.val.text,int i64 c.test.var,int .u8 c.test.op,.slice p n Y] 52));have D:Ft w w1:=by rw[C];exact (EB _ w).alloc (EA _) _
 have Z:w1.heap[w.heap.size]?=some (.cells #[int .u8 1,int i64 c.type,.slice X l N,int .u8 c.test.kind,int .u8 c.test.val.kind,int i64 c.test.val.num,.string c.test.val.text,int i64 c.test.var,int .u8 c.test.op,.slice p n Y] 52 (0,0)):=by rw[C];exact n7 w _
 have ad:=Hd D;have af:=Hd Z;have bb:=Hd (hw.below D);have bc:=Hd hw.lt;have HF:=Hd (fun b (hb:F b)=>hw.f b hb);have b8:=Hd a8;have ak:=Hd q;have an:=Hd (kK F S d types rules vT vR nv nf c.type (c.args.length:Int) w1 (hw.below D));have bd:=Hd (fun W=>rf c.test p n Y W hn);have r:aF types c.type (c.args.length:Int)=true→l≤6:=fun h=>by
  unfold aF at h;simp only[EQ,oe,o2]at h;obtain⟨⟨h1,h2⟩,h3⟩:=h;have E:c.type.toNat<types.length:=by omega
  rw[EE E]at h3;have h6:=ba _ (List.getElem_mem E);have h3:types[c.type.toNat].fields=(c.args.length:Int):=h3;rw[q]at h3;omega
 have bk:=Hd r;have hm:bu d types (nv,nf) c=if aF types c.type (c.args.length:Int)&&(c.test.kind==0&&bm false false false c.test) then (match bQ true nv c.args with|none=>none|some v=>some (v,nf+1)) else none:=by
  unfold bu bm zeroE;rw[hk];simp only[Bool.false_or,Bool.and_assoc];rfl
 obtain⟨res,s⟩:=zzx (bu d types (nv,nf) c);have HR:Hid (res=if aF types c.type (c.args.length:Int)&&(c.test.kind==0&&bm false false false c.test) then (match bQ true nv c.args with|none=>none|some v=>some (v,nf+1)) else none):=s.trans hm
 rw[←s,hk];rw[q]at an bk;have bl:Hid (aF types c.type (c.args.length:Int)=aF types c.type (l:Int)):=by show _=_;rw[q]
 obtain⟨e0,e1,e2,O,e4,e5,e6,e7,e8,e9⟩:=bw Z;clear D Z hw a8 q hn hm s hk ba r
 go_enter Tryz.func33,Tryz.ntmps33
 go_upto_region 1 with fail
 change Code.wp _ _ _ _ (w.alloc (.cells #[int .u8 1,int i64 c.type,.slice X l N,int .u8 c.test.kind,int .u8 c.test.val.kind,int i64 c.test.val.num,.string c.test.val.text,int i64 c.test.var,int .u8 c.test.op,.slice p n Y] 52));rw[←C];clear C;go_wp2_with fail
 refine an.o.mono ?_;rintro e W2 ⟨rfl,G⟩;have y:=Hd (ad.o.trans (G.mono ad.o.size));have H:=Hd (bb.o.below G);have aq:=aa G af.o (Ez.1 af.o).1;have I:=Hd aq;clear G e0 e1 e2 O e4 e5 e6 e7 e8 e9 an af bb ad;obtain⟨e0,e1,e2,O,e4,e5,e6,e7,e8,e9⟩:=bw aq;clear aq
 cases hf:aF types c.type (l:Int) with
 | false =>
  have k:Hid (res=none):=by show _=_;rw[HR.o,bl.o,hf];rfl
  clear hf;go_wp2_with fail
  go_ret;exact⟨Chg.of_below y.o,by rw[k.o];rfl,nv,nf,H.o,fun x m=>by rw[k.o]at m;cases m⟩
 | true =>
 have h6:l≤6:=bk.o hf;have b9:=Hd hf;clear hf
 by_cases hz:c.test.kind=0
 rotate_left
 ·have k:Hid (res=none):=by show _=_;rw[HR.o,show (c.test.kind==0)=false by simpa using hz];simp
  go_wp2_with fail
  go_ret;exact⟨Chg.of_below y.o,by rw[k.o];rfl,nv,nf,H.o,fun x m=>by rw[k.o]at m;cases m⟩
 have HZ:Hid ((c.test.kind==0)=true):=by show _=_;simpa using hz
 have z:=Hd (bd.o W2);rw[hz]at O I z;clear bd;go_wp2_with fail
 refine z.o.mono ?_;rintro e W3 ⟨rfl,J⟩;have bn:=Hd (y.o.trans (J.mono y.o.size));have bq:=Hd (H.o.below J);have ar:=aa J I.o (Ez.1 I.o).1;have ch:=Hd ar;clear J e0 e1 e2 O e4 e5 e6 e7 e8 e9 z I H y;obtain⟨e0,e1,e2,O,e4,e5,e6,e7,e8,e9⟩:=bw ar;clear ar
 cases hp:bm false false false c.test with
 | false =>
  have k:Hid (res=none):=by show _=_;rw[HR.o,hp];simp
  clear hp;go_wp2_with fail
  go_ret;exact⟨Chg.of_below bn.o,by rw[k.o];rfl,nv,nf,bq.o,fun x m=>by rw[k.o]at m;cases m⟩
 | true =>
 have P:Hid (res=(match bQ true nv c.args with|none=>none|some v=>some (v,nf+1))):=by
  show _=_
  rw[HR.o,bl.o,b9.o,HZ.o,hp];rfl
 clear hp hz HR;go_wp2_with fail
 go_loopw [35] (pJ F S d types rules vT vR nv nf true c l w #[int .u8 1,int i64 c.type,.slice X l N,int .u8 0,int .u8 c.test.val.kind,int i64 c.test.val.num,.string c.test.val.text,int i64 c.test.var,int .u8 c.test.op,.slice p n Y]) (fun i _=>l-(intOf i).toNat)
 case atStart=>exact⟨0,nv,EM _,rfl,rfl,by omega,by omega,ch.o,bq.o,Chg.of_below bn.o⟩
 case round =>
  obtain⟨j,v,hj,rfl,A,cC,cR,br,bt,Q⟩:=hrel;have cT:(0:Int)≤j:=by omega
  have bB:=Hd A;have av:=Hd br;have K:=Hd bt;have a1:=Hd Q;clear A br bt Q e0 e1 e2 O e4 e5 e6 e7 e8 e9;obtain⟨e0,e1,e2,O,e4,e5,e6,e7,e8,e9⟩:=bw av.o
  by_cases E:j<l
  ·have cV:(j:Int)<l:=by omega
   obtain⟨a,ha⟩:∃a,c.args[j]?=some a:=⟨_,EE (by rw[ak.o];exact E)⟩;have R:dm.row wr F c.args (.slice X l N):=Rd.row_keep (fun b hb o ho=>(a1.o.block b (HF.o b hb).1 (HF.o b hb).2).trans ho) b8.o;have bR:=Rd.row_at R ha;rw[ak.o]at bR;obtain⟨b,off,cap,vs,ck,_,_,_,_,b0,g⟩:=bR;injection ck with cl _ cq
   subst cl;subst cq;obtain⟨rfl,T⟩:=eP.1 b0;have c0:wr.cell? ⟨b,off+j*5,none⟩=some (int .u8 a.kind):=g 0 _ rfl;have c1:wr.cell? ⟨b,off+j*5+1,none⟩=some (int i64 a.var):=g 1 _ rfl;have c2:wr.cell? ⟨b,off+j*5+2,none⟩=some (int .u8 a.val.kind):=g 2 _ rfl;have c3:wr.cell? ⟨b,off+j*5+3,none⟩=some (int i64 a.val.num):=g 3 _ rfl;have c4:wr.cell? ⟨b,off+j*5+4,none⟩=some (.string a.val.text):=g 4 _ rfl;obtain⟨w5,L⟩:=zzx (wr.alloc (.cells #[int .u8 a.kind,int i64 a.var,int .u8 a.val.kind,int i64 a.val.num,.string a.val.text] 55));have M:Ft wr w5:=by rw[L];exact (EB _ wr).alloc (EA _) _
   have b1:w5.heap[wr.heap.size]?=some (.cells #[int .u8 a.kind,int i64 a.var,int .u8 a.val.kind,int i64 a.val.num,.string a.val.text] 55 (0,0)):=by rw[L];exact n7 wr _
   have cr:=Hd M;have a6:=aa M av.o (Ez.1 av.o).1;have b2:=Hd a6;have HA:=Hd (rz F S d types rules vT vR v nf a true w5 (K.o.below M) (by omega) T.2.2.2.2);have b3:=Hd (jo (binds:=true) ha bB.o);obtain⟨k0,k1,k2,k3,k4⟩:=cells5 b1;obtain⟨x0,x1,x2,x3,x4,x5,x6,x7,x8,x9⟩:=bw a6;clear R b0 g ha T M b1 a6;go_upto_region 9 with fail
   change Code.wp _ _ _ _ (wr.alloc (.cells #[int .u8 a.kind,int i64 a.var,int .u8 a.val.kind,int i64 a.val.num,.string a.val.text] 55));rw[←L];clear L c0 c1 c2 c3 c4 e0 e1 e2 O e4 e5 e6 e7 e8 e9;go_wp2_with fail
   refine HA.o.mono ?_;rintro e W4 ⟨B,rfl,v',b4,a7⟩;have b5:Hid (Chg (fun b=>b=S) w W4):=(a1.o.trans (Chg.of_below cr.o)).trans B;have U:=(B.block _ (Ez.1 b2.o).1 (by have:=bc.o;omega)).trans b2.o;have b6:=Hd b4;clear B b4 k0 k1 k2 k3 k4 x0 x1 x2 x3 x4 x5 x6 x7 x8 x9
   cases hq:aY true v a with
   | none =>
    have k:Hid (res=none):=by
     show _=_
     rw[P.o,ia c.args nv (j+1) (b3.o.trans hq)]
    clear hq a7;go_wp2_with fail
    go_ret;exact⟨b5.o,by rw[k.o];rfl,v',nf,b6.o,fun x m=>by rw[k.o]at m;cases m⟩
   | some u =>
    have hu:=a7 u hq;have hle:=jW hq;have HR:Hid (pJ F S d types rules vT vR nv nf true c l w #[int .u8 1,int i64 c.type,slice (some ⟨b,off,none⟩) l N,int .u8 0,int .u8 c.test.val.kind,int i64 c.test.val.num,.string c.test.val.text,int i64 c.test.var,int .u8 c.test.op,.slice p n Y] (int i64 ((j+1:Nat):Int)) W4):=
     ⟨j+1,u,by omega,rfl,b3.o.trans hq,by omega,by omega,U,by rw[←hu];exact b6.o,b5.o⟩
    clear hq a7 hu hle U;go_wp2_with fail
    refine⟨HR.o,?_⟩;simp[intOf];omega
  ·have V:bQ true nv c.args=some v:=by
    rw[←bB.o,ER (by rw[ak.o];omega)]
   have b7:Hid (res=some (v,nf+1)):=by show _=_;rw[P.o,V]
   clear V;have cW:wr.cell? ⟨S,3,none⟩=some (int i64 nf):=by rw[Fq _ _ _ _ _ _ K.o.h];rfl
   have fz:=bT K.o.h;have ct:=Hd (K.o.setF (nf+1));have cv:Hid (Chg (fun b=>b=S) w (wr.setCell ⟨S,3,none⟩ (int i64 (nf+1)))):=Chg.setCell (F:=fun b=>b=S) a1.o (p:=⟨S,3,none⟩) (Or.inl rfl) _;go_wp2_with fail
   go_ret;exact⟨cv.o,by rw[b7.o];rfl,v,nf+1,ct.o,fun x m=>by rw[b7.o]at m;injection m with m;rw[←m];exact⟨rfl,rfl⟩⟩
theorem tB(F:Nat→Prop)(S d:Nat)(types:List ai)(rules:List aj)(vT vR:Value)(nv nf:Int)(c:aC)(V p:Option Addr)(l M n X:Nat)(w:World)(hw:SuW F S d types rules vT vR nv nf w)(hk:c.kind=2)(q:c.args.length=l)(hn:c.test.kids.length=n)(a7:dm.row w F c.args (.slice V l M))(ct:0≤nv∧nv≤1000)(_hnf:0≤nf∧nf≤1000)(a8:∀t∈types,t.fields≤6) :
  Calls Tryz.prog 33 #[.pointer (some ⟨S,0,none⟩),.agg #[int .u8 c.kind,int i64 c.type,.slice V l M,int .u8 c.test.kind,int .u8 c.test.val.kind,int i64 c.test.val.num,.string c.test.val.text,int i64 c.test.var,int .u8 c.test.op,.slice p n X]] w (kV F S d types rules vT vR (bu d types (nv,nf) c) w):=by
 obtain⟨w1,C⟩:=zzx (w.alloc (.cells #[int .u8 2,int i64 c.type,.slice V l M,int .u8 c.test.kind,int .u8 c.test.val.kind,int i64 c.test.val.num,.string c.test.val.text,int i64 c.test.var,int .u8 c.test.op,.slice p n X] 52));have D:Ft w w1:=by rw[C];exact (EB _ w).alloc (EA _) _
 have Y:w1.heap[w.heap.size]?=some (.cells #[int .u8 2,int i64 c.type,.slice V l M,int .u8 c.test.kind,int .u8 c.test.val.kind,int i64 c.test.val.num,.string c.test.val.text,int i64 c.test.var,int .u8 c.test.op,.slice p n X] 52 (0,0)):=by rw[C];exact n7 w _
 have Z:=Hd D;have ad:=Hd Y;have ba:=Hd (hw.below D);have bb:=Hd hw.lt;have HF:=Hd (fun b (hb:F b)=>hw.f b hb);have b8:=Hd a7;have af:=Hd q;have ak:=Hd (kK F S d types rules vT vR nv nf c.type (c.args.length:Int) w1 (hw.below D));have bc:=Hd (fun W=>rf c.test p n X W hn);have r:aF types c.type (c.args.length:Int)=true→l≤6:=fun h=>by
  unfold aF at h;simp only[EQ,oe,o2]at h;obtain⟨⟨h1,h2⟩,h3⟩:=h;have E:c.type.toNat<types.length:=by omega
  rw[EE E]at h3;have h6:=a8 _ (List.getElem_mem E);have h3:types[c.type.toNat].fields=(c.args.length:Int):=h3;rw[q]at h3;omega
 have bd:=Hd r;have hm:bu d types (nv,nf) c=if aF types c.type (c.args.length:Int)&&(c.test.kind==0&&bm false false false c.test) then (match bQ false nv c.args with|none=>none|some v=>some (v,nf)) else none:=by
  unfold bu bm zeroE;rw[hk];simp only[Bool.false_or,Bool.and_assoc];rfl
 obtain⟨res,s⟩:=zzx (bu d types (nv,nf) c);have HR:Hid (res=if aF types c.type (c.args.length:Int)&&(c.test.kind==0&&bm false false false c.test) then (match bQ false nv c.args with|none=>none|some v=>some (v,nf)) else none):=s.trans hm
 rw[←s,hk];rw[q]at ak bd;have bk:Hid (aF types c.type (c.args.length:Int)=aF types c.type (l:Int)):=by show _=_;rw[q]
 obtain⟨e0,e1,e2,N,e4,e5,e6,e7,e8,e9⟩:=bw Y;clear D Y hw a7 q hn hm s hk a8 r
 go_enter Tryz.func33,Tryz.ntmps33
 go_upto_region 1 with fail
 change Code.wp _ _ _ _ (w.alloc (.cells #[int .u8 2,int i64 c.type,.slice V l M,int .u8 c.test.kind,int .u8 c.test.val.kind,int i64 c.test.val.num,.string c.test.val.text,int i64 c.test.var,int .u8 c.test.op,.slice p n X] 52));rw[←C];clear C;go_wp2_with fail
 refine ak.o.mono ?_;rintro e W2 ⟨rfl,G⟩;have y:=Hd (Z.o.trans (G.mono Z.o.size));have H:=Hd (ba.o.below G);have an:=aa G ad.o (Ez.1 ad.o).1;have I:=Hd an;clear G e0 e1 e2 N e4 e5 e6 e7 e8 e9 ak ad ba Z;obtain⟨e0,e1,e2,N,e4,e5,e6,e7,e8,e9⟩:=bw an;clear an
 cases hf:aF types c.type (l:Int) with
 | false =>
  have k:Hid (res=none):=by show _=_;rw[HR.o,bk.o,hf];rfl
  clear hf;go_wp2_with fail
  go_ret;exact⟨Chg.of_below y.o,by rw[k.o];rfl,nv,nf,H.o,fun x m=>by rw[k.o]at m;cases m⟩
 | true =>
 have h6:l≤6:=bd.o hf;have b9:=Hd hf;clear hf
 by_cases hz:c.test.kind=0
 rotate_left
 ·have k:Hid (res=none):=by show _=_;rw[HR.o,show (c.test.kind==0)=false by simpa using hz];simp
  go_wp2_with fail
  go_ret;exact⟨Chg.of_below y.o,by rw[k.o];rfl,nv,nf,H.o,fun x m=>by rw[k.o]at m;cases m⟩
 have HZ:Hid ((c.test.kind==0)=true):=by show _=_;simpa using hz
 have z:=Hd (bc.o W2);rw[hz]at N I z;clear bc;go_wp2_with fail
 refine z.o.mono ?_;rintro e W3 ⟨rfl,J⟩;have bl:=Hd (y.o.trans (J.mono y.o.size));have bn:=Hd (H.o.below J);have aq:=aa J I.o (Ez.1 I.o).1;have ch:=Hd aq;clear J e0 e1 e2 N e4 e5 e6 e7 e8 e9 z I H y;obtain⟨e0,e1,e2,N,e4,e5,e6,e7,e8,e9⟩:=bw aq;clear aq
 cases hp:bm false false false c.test with
 | false =>
  have k:Hid (res=none):=by show _=_;rw[HR.o,hp];simp
  clear hp;go_wp2_with fail
  go_ret;exact⟨Chg.of_below bl.o,by rw[k.o];rfl,nv,nf,bn.o,fun x m=>by rw[k.o]at m;cases m⟩
 | true =>
 have O:Hid (res=(match bQ false nv c.args with|none=>none|some v=>some (v,nf))):=by
  show _=_
  rw[HR.o,bk.o,b9.o,HZ.o,hp];rfl
 clear hp hz HR;go_wp2_with fail
 go_loopw [35] (pJ F S d types rules vT vR nv nf false c l w #[int .u8 2,int i64 c.type,.slice V l M,int .u8 0,int .u8 c.test.val.kind,int i64 c.test.val.num,.string c.test.val.text,int i64 c.test.var,int .u8 c.test.op,.slice p n X]) (fun i _=>l-(intOf i).toNat)
 case atStart=>exact⟨0,nv,EM _,rfl,rfl,by omega,by omega,ch.o,bn.o,Chg.of_below bl.o⟩
 case round =>
  obtain⟨j,v,hj,rfl,A,cv,cx,bq,br,P⟩:=hrel;have cA:(0:Int)≤j:=by omega
  have bt:=Hd A;have ar:=Hd bq;have bB:=Hd br;have av:=Hd P;clear A bq br P e0 e1 e2 N e4 e5 e6 e7 e8 e9;obtain⟨e0,e1,e2,N,e4,e5,e6,e7,e8,e9⟩:=bw ar.o
  by_cases E:j<l
  ·have cC:(j:Int)<l:=by omega
   obtain⟨a,ha⟩:∃a,c.args[j]?=some a:=⟨_,EE (by rw[af.o];exact E)⟩;have Q:dm.row wr F c.args (.slice V l M):=Rd.row_keep (fun b hb o ho=>(av.o.block b (HF.o b hb).1 (HF.o b hb).2).trans ho) b8.o;have bR:=Rd.row_at Q ha;rw[af.o]at bR;obtain⟨b,off,cap,vs,ck,_,_,_,_,b0,g⟩:=bR;injection ck with cl _ cq
   subst cl;subst cq;obtain⟨rfl,R⟩:=eP.1 b0;have c0:wr.cell? ⟨b,off+j*5,none⟩=some (int .u8 a.kind):=g 0 _ rfl;have c1:wr.cell? ⟨b,off+j*5+1,none⟩=some (int i64 a.var):=g 1 _ rfl;have c2:wr.cell? ⟨b,off+j*5+2,none⟩=some (int .u8 a.val.kind):=g 2 _ rfl;have c3:wr.cell? ⟨b,off+j*5+3,none⟩=some (int i64 a.val.num):=g 3 _ rfl;have c4:wr.cell? ⟨b,off+j*5+4,none⟩=some (.string a.val.text):=g 4 _ rfl;obtain⟨w5,K⟩:=zzx (wr.alloc (.cells #[int .u8 a.kind,int i64 a.var,int .u8 a.val.kind,int i64 a.val.num,.string a.val.text] 55));have L:Ft wr w5:=by rw[K];exact (EB _ wr).alloc (EA _) _
   have b1:w5.heap[wr.heap.size]?=some (.cells #[int .u8 a.kind,int i64 a.var,int .u8 a.val.kind,int i64 a.val.num,.string a.val.text] 55 (0,0)):=by rw[K];exact n7 wr _
   have cr:=Hd L;have a1:=aa L ar.o (Ez.1 ar.o).1;have b2:=Hd a1;have HA:=Hd (rz F S d types rules vT vR v nf a false w5 (bB.o.below L) (by omega) R.2.2.2.2);have b3:=Hd (jo (binds:=false) ha bt.o);obtain⟨k0,k1,k2,k3,k4⟩:=cells5 b1;obtain⟨x0,x1,x2,x3,x4,x5,x6,x7,x8,x9⟩:=bw a1;clear Q b0 g ha R L b1 a1;go_upto_region 9 with fail
   change Code.wp _ _ _ _ (wr.alloc (.cells #[int .u8 a.kind,int i64 a.var,int .u8 a.val.kind,int i64 a.val.num,.string a.val.text] 55));rw[←K];clear K c0 c1 c2 c3 c4 e0 e1 e2 N e4 e5 e6 e7 e8 e9;go_wp2_with fail
   refine HA.o.mono ?_;rintro e W4 ⟨B,rfl,v',b4,a6⟩;have b5:Hid (Chg (fun b=>b=S) w W4):=(av.o.trans (Chg.of_below cr.o)).trans B;have T:=(B.block _ (Ez.1 b2.o).1 (by have:=bb.o;omega)).trans b2.o;have b6:=Hd b4;clear B b4 k0 k1 k2 k3 k4 x0 x1 x2 x3 x4 x5 x6 x7 x8 x9
   cases hq:aY false v a with
   | none =>
    have k:Hid (res=none):=by
     show _=_
     rw[O.o,ia c.args nv (j+1) (b3.o.trans hq)]
    clear hq a6;go_wp2_with fail
    go_ret;exact⟨b5.o,by rw[k.o];rfl,v',nf,b6.o,fun x m=>by rw[k.o]at m;cases m⟩
   | some u =>
    have hu:=a6 u hq;have hle:=jW hq;have HR:Hid (pJ F S d types rules vT vR nv nf false c l w #[int .u8 2,int i64 c.type,slice (some ⟨b,off,none⟩) l M,int .u8 0,int .u8 c.test.val.kind,int i64 c.test.val.num,.string c.test.val.text,int i64 c.test.var,int .u8 c.test.op,.slice p n X] (int i64 ((j+1:Nat):Int)) W4):=
     ⟨j+1,u,by omega,rfl,b3.o.trans hq,by omega,by omega,T,by rw[←hu];exact b6.o,b5.o⟩
    clear hq a6 hu hle T;go_wp2_with fail
    refine⟨HR.o,?_⟩;simp[intOf];omega
  ·have U:bQ false nv c.args=some v:=by
    rw[←bt.o,ER (by rw[af.o];omega)]
   have b7:Hid (res=some (v,nf)):=by show _=_;rw[O.o,U]
   clear U;go_wp2_with fail
   go_ret;exact⟨av.o,by rw[b7.o];rfl,v,nf,bB.o,fun x m=>by rw[b7.o]at m;injection m with m;rw[←m];exact⟨rfl,rfl⟩⟩
theorem vL(F:Nat→Prop)(S d:Nat)(types:List ai)(rules:List aj)(vT vR:Value)(nv nf:Int)(c:aC)(B p:Option Addr)(i C n t:Nat)(w:World)(hw:SuW F S d types rules vT vR nv nf w)(E:c.kind=3)(u:c.args.length=i)(_hn:c.test.kids.length=n)(m:ep c.test)(v:cu w F d c.test.kids (.slice p n t)) :
  Calls Tryz.prog 33 #[.pointer (some ⟨S,0,none⟩),.agg #[int .u8 c.kind,int i64 c.type,.slice B i C,int .u8 c.test.kind,int .u8 c.test.val.kind,int i64 c.test.val.num,.string c.test.val.text,int i64 c.test.var,int .u8 c.test.op,.slice p n t]] w (kV F S d types rules vT vR (bu d types (nv,nf) c) w):=by
 obtain⟨w1,k⟩:=zzx (w.alloc (.cells #[int .u8 3,int i64 c.type,.slice B i C,int .u8 c.test.kind,int .u8 c.test.val.kind,int i64 c.test.val.num,.string c.test.val.text,int i64 c.test.var,int .u8 c.test.op,.slice p n t] 52));have h:Ft w w1:=by rw[k];exact (EB _ w).alloc (EA _) _
 have q:w1.heap[w.heap.size]?=some (.cells #[int .u8 3,int i64 c.type,.slice B i C,int .u8 c.test.kind,int .u8 c.test.val.kind,int i64 c.test.val.num,.string c.test.val.text,int i64 c.test.var,int .u8 c.test.op,.slice p n t] 52 (0,0)):=by rw[k];exact n7 w _
 have l:=Hd h;have L:=Hd q;have r:=Hd (hw.below h);have I:=Hd (lG S nv d c.test (.slice p n t) w1 (hw.below h).vars m (eh (fun b G=>EF (hw.f b G).1 h.size) (ea (fun b G o M=>(h.block b (hw.f b G).1).trans M) v)));have hm:bu d types (nv,nf) c=if decide (c.type=0)&&decide (i=0)&&bK nv d c.test then some (nv,nf) else none:=by
  unfold bu;rw[E,show c.args.isEmpty=decide (i=0) by rw[←u];cases c.args<;>rfl,show (c.type==0)=decide (c.type=0) from rfl]
  rfl
 obtain⟨res,j⟩:=zzx (bu d types (nv,nf) c);have D:Hid (res=if decide (c.type=0)&&decide (i=0)&&bK nv d c.test then some (nv,nf) else none):=j.trans hm;rw[←j,E];obtain⟨N,O,P,Q,R,T,U,V,W,X⟩:=bw q;clear h q hw u _hn hm j E v m
 go_enter Tryz.func33,Tryz.ntmps33
 go_upto_region 1 with fail
 change Code.wp _ _ _ _ (w.alloc (.cells #[int .u8 3,int i64 c.type,.slice B i C,int .u8 c.test.kind,int .u8 c.test.val.kind,int i64 c.test.val.num,.string c.test.val.text,int i64 c.test.var,int .u8 c.test.op,.slice p n t] 52));rw[←k];clear k
 by_cases J:c.type=0
 ·by_cases K:i=0
  ·subst K;have Y:Hid (c.type=0):=J;go_wp2_with fail
   refine I.o.mono ?_;rintro e W2 ⟨rfl,s⟩;have y:=Hd (l.o.trans (s.mono l.o.size));have z:=Hd (r.o.below s);clear s I N O P Q R T U V W X
   cases a:bK nv d c.test with
   | true =>
    have A:Hid (res=some (nv,nf)):=by show _=_;rw[D.o,decide_eq_true Y.o,a];rfl
    clear a;go_wp2_with fail
    go_ret;exact⟨Chg.of_below y.o,by rw[A.o];rfl,nv,nf,z.o,fun x a=>by rw[A.o]at a;injection a with a;rw[←a];exact⟨rfl,rfl⟩⟩
   | false =>
    have g:Hid (res=none):=by show _=_;rw[D.o,a];simp
    clear a;go_wp2_with fail
    go_ret;exact⟨Chg.of_below y.o,by rw[g.o];rfl,nv,nf,z.o,fun x a=>by rw[g.o]at a;cases a⟩
  ·have g:Hid (res=none):=by show _=_;rw[D.o,oc K];simp
   have H:¬((i:Int)=0):=by omega
   have Z:((i:Int)==0)=false:=by simpa using H
   go_wp2_with fail
   go_ret;exact⟨Chg.of_below l.o,by rw[g.o];rfl,nv,nf,r.o,fun x a=>by rw[g.o]at a;cases a⟩
 ·have g:Hid (res=none):=by show _=_;rw[D.o,oc J];simp
  go_wp2_with fail
  go_ret;exact⟨Chg.of_below l.o,by rw[g.o];rfl,nv,nf,r.o,fun x a=>by rw[g.o]at a;cases a⟩
theorem sZ(F:Nat→Prop)(S d:Nat)(types:List ai)(rules:List aj)(vT vR:Value)(nv nf:Int)(c:aC)(g p:Option Addr)(h i n j:Nat)(w:World)(hw:SuW F S d types rules vT vR nv nf w)(b:c.kind≠1∧c.kind≠2∧c.kind≠3) :
  Calls Tryz.prog 33 #[.pointer (some ⟨S,0,none⟩),.agg #[int .u8 c.kind,int i64 c.type,.slice g h i,int .u8 c.test.kind,int .u8 c.test.val.kind,int i64 c.test.val.num,.string c.test.val.text,int i64 c.test.var,int .u8 c.test.op,.slice p n j]] w (kV F S d types rules vT vR (bu d types (nv,nf) c) w):=by
 have hm:bu d types (nv,nf) c=none:=by
  unfold bu;rw[show (c.kind==1)=false by simpa using b.1,show (c.kind==2)=false by simpa using b.2.1,show (c.kind==3)=false by simpa using b.2.2];rfl
 rw[hm];have a:Ft w (w.alloc (.cells #[int .u8 c.kind,int i64 c.type,.slice g h i,int .u8 c.test.kind,int .u8 c.test.val.kind,int i64 c.test.val.num,.string c.test.val.text,int i64 c.test.var,int .u8 c.test.op,.slice p n j] 52)):=(EB _ w).alloc (EA _) _;have e:=Hd a;have f:=Hd (hw.below a);obtain⟨l,m,q⟩:=b;clear a hw hm
 go_enter Tryz.func33,Tryz.ntmps33
 go_wp2_with fail
 go_ret;exact⟨Chg.of_below e.o,rfl,nv,nf,f.o,fun x k=>by cases k⟩
theorem xE(F:Nat→Prop)(S d:Nat)(types:List ai)(rules:List aj)(vT vR:Value)(nv nf:Int)(c:aC)(m s:Value)(w:World)(hw:SuW F S d types rules vT vR nv nf w)(l:(bp d).at_ w F c (yc c m s))(b:0≤nv∧nv≤1000)(e:0≤nf∧nf≤1000)(f:∀t∈types,t.fields≤6) :
  Calls Tryz.prog 33 #[.pointer (some ⟨S,0,none⟩),.agg #[int .u8 c.kind,int i64 c.type,m,int .u8 c.test.kind,int .u8 c.test.val.kind,int i64 c.test.val.num,.string c.test.val.text,int i64 c.test.var,int .u8 c.test.op,s]] w (kV F S d types rules vT vR (bu d types (nv,nf) c) w):=by
 obtain⟨_,_,g,r,u,he,a,h⟩:=dq.1 l;unfold yc bF at he;simp only[List.cons_append,List.nil_append,List.cons.injEq,true_and,and_true]at he;obtain⟨rfl,rfl⟩:=he;obtain⟨i,j,rfl⟩:=Rd.row_shape a;obtain⟨p,k,rfl⟩:=aI h
 by_cases n:c.kind=1
 ·exact t9 F S d types rules vT vR nv nf c i p _ j _ k w hw n rfl rfl a b e f
 by_cases o:c.kind=2
 ·exact tB F S d types rules vT vR nv nf c i p _ j _ k w hw o rfl rfl a b e f
 by_cases q:c.kind=3
 ·exact vL F S d types rules vT vR nv nf c i p _ j _ k w hw q rfl rfl g h
 ·exact sZ F S d types rules vT vR nv nf c i p _ j _ k w hw ⟨n,o,q⟩
