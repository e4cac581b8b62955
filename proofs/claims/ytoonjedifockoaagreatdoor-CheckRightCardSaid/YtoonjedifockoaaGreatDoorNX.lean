/- The rule checker's second part: are rules right (Right), by contract. No condition. Printed by tools/genSuK.py. -/
import Derived.Test.YtoonjedifockoaaGreatDoorNW
namespace Go.Proofs.YtoonjedifockoaaGreatDoor
open Go.IntKind(i64)
open Go.Value(int string slice)
set_option maxHeartbeats 16000000
set_option maxRecDepth 100000
open Go.RowKit
theorem l5:∀(l k seen:List ByteArray),apartB seen (l++k)=true→apartB seen l=true
 | [],_,_,_=>rfl
 | x::l,k,seen,h=>by
  rw[List.cons_append]at h;unfold apartB at h ⊢;simp only[EQ]at h ⊢;exact⟨h.1,l5 l k _ h.2⟩
theorem rE(x y:ByteArray):∀(l:List ByteArray) (m j:Nat),l[j]?=some y→(y.data.toList==x.data.toList)=true→fi x l m=(match fi x (l.take j) m with|some k=>some k|none=>some (m+j))
 | [],m,j,h,_=>by simp at h
 | z::l,m,0,h,he=>by
  simp only[List.getElem?_cons_zero,ox]at h;subst h;rw[ET];unfold fi;rw[n9 he];rfl
 | z::l,m,j+1,h,he=>by
  rw[Fj]at h;rw[EK];unfold fi
  split
  ·rfl
  ·rw[rE x y l (m+1) j h he]
   cases fi x (l.take j) (m+1) with
   | none=>simp only;congr 1;omega
   | some k=>rfl
theorem s7{x:ByteArray}{l:List ByteArray}{j:Nat}(h:l[j]?=some x):(dR (idxOf x l)=(j:Int))↔(idxOf x (l.take j)).isSome=false:=by
 unfold idxOf;rw[rE x x l 0 j h (by simp)]
 cases a:fi x (l.take j) 0 with
 | none=>simp[dR]
 | some k =>
  have:=(kl x (l.take j) 0 k a).2;rw[List.length_take]at this;simp only[dR,Option.isSome_some,Bool.true_eq_false,iff_false];omega
theorem ky{α:Type}{f:α→Bool}{l:List α}{j:Nat}{x:α}(a:l[j]?=some x)(h:(l.take j).all f=true)(b:f x=true):(l.take (j+1)).all f=true:=by
 rw[Fg,a,List.all_append,h];simp[b]
theorem i5{α:Type}{f:α→Bool}{l:List α}{j:Nat}{x:α}(a:l[j]?=some x)(b:f x=false):l.all f=false:=by
 rw[List.all_eq_false];exact⟨x,EU a,by rw[b];decide⟩
theorem jK{l:List ByteArray}{j:Nat}{x:ByteArray}(a:l[j]?=some x)(h:apartB [] (l.take j)=true)(b:(idxOf x (l.take j)).isSome=false):apartB [] (l.take (j+1))=true:=by
 rw[Fg,a]
 show apartB [] (l.take j++[x])=true
 rw[kH,h,List.nil_append,b];rfl
theorem ku{l:List ByteArray}{j:Nat}{x:ByteArray}(d:l[j]?=some x)(e:(idxOf x (l.take j)).isSome=true):apartB [] l=false:=by
 cases a:apartB [] l with
 | false=>rfl
 | true =>
  rw[←List.take_append_drop (j+1) l]at a;have b:=l5 _ _ _ a;rw[Fg,d]at b;have c:apartB [] (l.take j++[x])=true:=b;rw[kH,List.nil_append,e]at c;simp at c
def wR(F:Nat→Prop) (d:Nat) (R:cd) (b c:Option Addr) (a e f g:Nat) (w:World) (i:Value) (W:World):Prop:=
 ∃(j:Nat),j≤a∧i=int i64 (j:Int)∧(R.types.take j).all dh=true∧apartB [] ((R.types.map ai.name).take j)=true∧Ft w W∧W.heap[w.heap.size]?=some (.cells #[.slice b a e,.slice c f g] 25 (0,0))∧SuW F (w.heap.size+1) d R.types R.rules (.slice b a e) (.slice c f g) 0 0 W
def wN(F:Nat→Prop) (d:Nat) (R:cd) (b c:Option Addr) (e f a g:Nat) (w:World) (i:Value) (W:World):Prop:=
 ∃(j:Nat) (nv nf:Int),j≤a∧i=int i64 (j:Int)∧(R.rules.take j).all (dU d R.types)=true∧apartB [] ((R.rules.map aj.name).take j)=true∧Ft w W∧SuW F (w.heap.size+1) d R.types R.rules (.slice b e f) (.slice c a g) nv nf W
theorem nO(F:Nat→Prop)(d:Nat)(R:cd)(st sr:Value)(w:World)(hF:∀b,F b→b<w.heap.size)(ht:bo.row w F R.types st)(hr:(bh d).row w F R.rules sr) :
  Calls Tryz.prog 7 #[.agg #[st,sr]] w (ap (ja d R) w):=by
 obtain⟨K,E,ck⟩:=Rd.row_shape ht;obtain⟨Z,G,cl⟩:=Rd.row_shape hr;have en:=Rd.row_len ht;have eo:=Rd.row_len hr;obtain⟨u,bd⟩:=zzy (R.types.length);obtain⟨v,bk⟩:=zzy (R.rules.length);rw[bd]at ck en;rw[bk]at cl eo;subst ck;subst cl;have bl:=Hd bd;have bn:=Hd bk;obtain⟨w1,bq⟩:=zzx ((w.alloc (.cells #[.slice K u E,.slice Z v G] 25)).alloc (.cells #[.slice K u E,.slice Z v G,int i64 0,int i64 0] 66));obtain⟨ad,b1,_⟩:=am w (.cells #[.slice K u E,.slice Z v G] 25) (.cells #[.slice K u E,.slice Z v G,int i64 0,int i64 0] 66);have af:Ft w w1:=by rw[bq];exact ((EB _ w).alloc (EA _) _).alloc (by simp) _
 rw[←bq]at ad b1;have er:=Hd ad;have b2:=Hd af;have et:Hid (SuW F (w.heap.size+1) d R.types R.rules (.slice K u E) (.slice Z v G) 0 0 w1):=⟨b1,fun b H=>⟨EF (hF b H) af.size,by have:=hF b H;omega⟩,Rd.row_below ht hF af,Rd.row_below hr hF af⟩;have HF:=Hd hF;have ev:=Hd ht;have e2:=Hd hr;obtain⟨res,ak⟩:=zzx (ja d R);have HR:Hid (res=(decide (u≤32)&&decide (v≤64)&&R.types.all dh&&apartB [] (R.types.map ai.name)&&R.rules.all (dU d R.types)&&apartB [] (R.rules.map aj.name))):=by
  show _=_
  rw[ak,←bd,←bk];rfl
 rw[←ak];have e0:w1.cell? ⟨w.heap.size,0,none⟩=some (.slice K u E):=by rw[Fq _ _ _ _ _ _ ad];rfl
 have e1:w1.cell? ⟨w.heap.size,1,none⟩=some (.slice Z v G):=by rw[Fq _ _ _ _ _ _ ad];rfl
 clear ak ad b1 af hF ht hr bd bk
 go_enter Tryz.func7,Tryz.ntmps7
 go_upto_region 2 with fail
 change Code.wp _ _ _ _ ((w.alloc (.cells #[.slice K u E,.slice Z v G] 25)).alloc (.cells #[.slice K u E,.slice Z v G,int i64 0,int i64 0] 66));rw[←bq];clear bq
 by_cases fm:32<u
 ·have cq:(32:Int)<u:=by omega
  have l:Hid (res=false):=by show _=_;rw[HR.o,oc (show ¬u≤32 by omega)];rfl
  go_wp2_with fail
  go_ret;exact⟨by rw[l.o];rfl,b2.o⟩
 have cq:¬(32:Int)<u:=by omega
 by_cases fr:64<v
 ·have cr:(64:Int)<v:=by omega
  have l:Hid (res=false):=by show _=_;rw[HR.o,oc (show ¬v≤64 by omega)];simp
  go_wp2_with fail
  go_ret;exact⟨by rw[l.o];rfl,b2.o⟩
 have cr:¬(64:Int)<v:=by omega
 have an:Hid (res=(R.types.all dh&&apartB [] (R.types.map ai.name)&&R.rules.all (dU d R.types)&&apartB [] (R.rules.map aj.name))):=by
  show _=_
  rw[HR.o,decide_eq_true (show u≤32 by omega),decide_eq_true (show v≤64 by omega)];rfl
 clear HR;go_wp2_with fail
 go_loopw [25] (wR F d R K Z u E v G w) (fun i _=>u-(intOf i).toNat)
 case atStart=>exact⟨0,EM _,rfl,rfl,rfl,b2.o,er.o,et.o⟩
 case round =>
  obtain⟨j,hj,rfl,L,aq,ar,hx,av⟩:=hrel;have ct:(0:Int)≤j:=by omega
  have D:=Hd L;have U:=Hd aq;have C:=Hd ar;have HX:=Hd hx;have M:=Hd av;clear L aq ar hx av e0 e1
  by_cases br:j<u
  ·have e3:(j:Int)<u:=by omega
   obtain⟨t,a1⟩:∃t,R.types[j]?=some t:=⟨_,EE (by rw[bl.o];exact br)⟩;have a6:=Rd.row_at (Rd.row_below ev.o HF.o C.o) a1;rw[bl.o]at a6;obtain⟨b,off,cap,vs,b3,_,_,_,_,a7,a⟩:=a6;injection b3 with b4 _ b5
   subst b4;subst b5;obtain⟨rfl,a8,_⟩:=dN.1 a7;have c0:wr.cell? ⟨b,off+j*2,none⟩=some (.string t.name):=a 0 _ rfl;have c1:wr.cell? ⟨b,off+j*2+1,none⟩=some (int i64 t.fields):=a 1 _ rfl;obtain⟨c,I⟩:=zzx (wr.alloc (.cells #[.string t.name,int i64 t.fields] 40));have z:Ft wr c:=by rw[I];exact (EB _ wr).alloc (EA _) _
   have O:c.heap[wr.heap.size]?=some (.cells #[.string t.name,int i64 t.fields] 40 (0,0)):=by rw[I];exact n7 wr _
   have n:=Hd (C.o.trans (z.mono C.o.size));have cv:=Hd (aa z HX.o (Ez.1 HX.o).1);have J:=Hd (M.o.below z);obtain⟨P,Q⟩:=zzx (dR (dn t.name R.types));have ba:Hid (P=(j:Int)↔(idxOf t.name ((R.types.map ai.name).take j)).isSome=false):=by
    rw[Q];exact s7 (by rw[List.getElem?_map,a1];rfl)
   have N:=Hd (fun (x:Wb c)=>nY t.name x.1 a8);have S:=Hd (fun (x:Wb c)=>oQ R.types t.name _ F (w.heap.size+1) x.1 (J.o.below x.2).t (fun b H=>((J.o.below x.2).f b H).1) (by rw[Fq _ _ _ _ _ _ (J.o.below x.2).h];rfl));rw[←Q]at S;have HT:=Hd a1;have cx:Hid ((R.types.map ai.name)[j]?=some t.name):=by show _=_;rw[List.getElem?_map,a1];rfl
   have k0:c.cell? ⟨wr.heap.size,0,none⟩=some (.string t.name):=by rw[Fq _ _ _ _ _ _ O];rfl
   have k1:c.cell? ⟨wr.heap.size,1,none⟩=some (int i64 t.fields):=by rw[Fq _ _ _ _ _ _ O];rfl
   have T0:=fun x:Wb c=>x.cell k0
   have T1:=fun x:Wb c=>x.cell k1
   clear a7 a a1 z O a8 Q;go_upto_region 7 with fail
   change Code.wp _ _ _ _ (wr.alloc (.cells #[.string t.name,int i64 t.fields] 40));rw[←I];clear I c0 c1 k0 k1
   cases V:bv t.name.data.toList with
   | false =>
    rw[V]at N;have l:Hid (res=false):=by show _=_;rw[an.o,i5 (f:=dh) HT.o (by unfold dh;rw[V];rfl)];rfl
    clear V;refine ae (by kernel_rfl) (by kernel_rfl) ?_
    repeat (go_big_quiet_step (first|(go_at_call 14;exact Calls.below_of (N.o _))|(go_at_call 15;exact Calls.below_of (S.o _))))
    refine wpQuiet_nil ?_;intro W2 g;have k:=az g;have A:=Hd (n.o.trans (k.mono n.o.size));clear g k T0 T1;go_wp2_with fail
    go_ret;exact⟨by rw[l.o];rfl,A.o⟩
   | true =>
   rw[V]at N;have e4:=Hd V;clear V
   by_cases cA:t.fields<0
   ·have cC:decide (t.fields<0)=true:=decide_eq_true cA;have l:Hid (res=false):=by show _=_;rw[an.o,i5 (f:=dh) HT.o (by unfold dh;rw[oc (show ¬0≤t.fields by omega)];simp)];rfl
    refine ae (by kernel_rfl) (by kernel_rfl) ?_
    repeat (go_big_quiet_step (first|(go_at_call 14;exact Calls.below_of (N.o _))|(go_at_call 15;exact Calls.below_of (S.o _))))
    refine wpQuiet_nil ?_;intro W2 g;have k:=az g;have A:=Hd (n.o.trans (k.mono n.o.size));clear g k T0 T1;go_wp2_with fail
    go_ret;exact⟨by rw[l.o];rfl,A.o⟩
   have cC:decide (t.fields<0)=false:=oc cA
   by_cases cV:6<t.fields
   ·have cW:decide (6<t.fields)=true:=decide_eq_true cV;have l:Hid (res=false):=by show _=_;rw[an.o,i5 (f:=dh) HT.o (by unfold dh;rw[oc (show ¬t.fields≤6 by omega)];simp)];rfl
    refine ae (by kernel_rfl) (by kernel_rfl) ?_
    repeat (go_big_quiet_step (first|(go_at_call 14;exact Calls.below_of (N.o _))|(go_at_call 15;exact Calls.below_of (S.o _))))
    refine wpQuiet_nil ?_;intro W2 g;have k:=az g;have A:=Hd (n.o.trans (k.mono n.o.size));clear g k T0 T1;go_wp2_with fail
    go_ret;exact⟨by rw[l.o];rfl,A.o⟩
   have cW:decide (6<t.fields)=false:=oc cV;have bt:Hid (dh t=true):=by show _=_;unfold dh;rw[e4.o,decide_eq_true (show 0≤t.fields by omega),decide_eq_true (show t.fields≤6 by omega)];rfl
   by_cases B:P=(j:Int)
   ·subst B;have b6:Hid ((idxOf t.name ((R.types.map ai.name).take j)).isSome=false):=ba.o.1 rfl;refine ae (by kernel_rfl) (by kernel_rfl) ?_
    repeat (go_big_quiet_step (first|(go_at_call 14;exact Calls.below_of (N.o _))|(go_at_call 15;exact Calls.below_of (S.o _))))
    refine wpQuiet_nil ?_;intro W2 g;have k:=az g;have A:=Hd (n.o.trans (k.mono n.o.size));have b7:Hid (wR F d R (some ⟨b,off,none⟩) Z u E v G w (int i64 ((j+1:Nat):Int)) W2):=
     ⟨j+1,by omega,rfl,ky HT.o D.o bt.o,jK cx.o U.o b6.o,A.o,aa k cv.o (Ez.1 cv.o).1,J.o.below k⟩
    clear g k T0 T1 N S;go_wp2_with fail
    refine⟨b7.o,?_⟩;simp[intOf];omega
   ·have e5:(P==(j:Int))=false:=by simpa using B
    have e6:(P != (j:Int))=true:=by simpa using B
    have e7:decide (P=(j:Int))=false:=oc B;have l:Hid (res=false):=by
     show _=_
     have:(idxOf t.name ((R.types.map ai.name).take j)).isSome=true:=by
      cases hc:(idxOf t.name ((R.types.map ai.name).take j)).isSome with
      | true=>rfl
      | false=>exact absurd (ba.o.2 hc) B
     rw[an.o,ku cx.o this];simp
    refine ae (by kernel_rfl) (by kernel_rfl) ?_
    repeat (go_big_quiet_step (first|(go_at_call 14;exact Calls.below_of (N.o _))|(go_at_call 15;exact Calls.below_of (S.o _))))
    refine wpQuiet_nil ?_;intro W2 g;have k:=az g;have A:=Hd (n.o.trans (k.mono n.o.size));clear g k T0 T1;go_wp2_with fail
    go_ret;exact⟨by rw[l.o];rfl,A.o⟩
  ·have T:R.types.all dh=true:=by
    rw[←D.o,ER (by rw[bl.o];omega)]
   have bR:apartB [] (R.types.map ai.name)=true:=by
    have h:=U.o;rw[ER (by rw[List.length_map,bl.o];omega)]at h;exact h
   have c5:Hid (∀t∈R.types,t.fields≤6):=fun t ht=>by
    have:=Fe.1 T t ht;unfold dh at this;simp only[EQ,oe]at this;exact this.2
   have b8:Hid (res=(R.rules.all (dU d R.types)&&apartB [] (R.rules.map aj.name))):=by
    show _=_
    rw[an.o,T,bR];rfl
   have e0:wr.cell? ⟨w.heap.size,0,none⟩=some (.slice K u E):=by rw[Fq _ _ _ _ _ _ HX.o];rfl
   have e1:wr.cell? ⟨w.heap.size,1,none⟩=some (.slice Z v G):=by rw[Fq _ _ _ _ _ _ HX.o];rfl
   clear T bR D U;go_wp2_with fail
   go_loopw [58] (wN F d R K Z u E v G w) (fun i _=>v-(intOf i).toNat)
   case atStart=>exact⟨0,0,0,EM _,rfl,rfl,rfl,C.o,M.o⟩
   case round =>
    clear C HX M ct br hj e0 e1;obtain⟨j,nv,nf,hj,rfl,L,aq,ar,av⟩:=hrel;have ct:(0:Int)≤j:=by omega
    have D:=Hd L;have U:=Hd aq;have C:=Hd ar;have M:=Hd av;clear L aq ar av
    by_cases br:j<v
    ·have e3:(j:Int)<v:=by omega
     obtain⟨x,B⟩:∃x,R.rules[j]?=some x:=⟨_,EE (by rw[bn.o];exact br)⟩;have a6:=Rd.row_at (Rd.row_below e2.o HF.o C.o) B;rw[bn.o]at a6;obtain⟨b,off,cap,vs,b3,_,_,_,_,a7,a⟩:=a6;rw[Bq]at a;injection b3 with b4 _ b5
     subst b4;subst b5;obtain⟨a8,_,_,sc,sa,rfl,b9,ca⟩:=dY.1 a7;obtain⟨qc,dc,c6⟩:=Rd.row_shape b9;obtain⟨qa,da,c7⟩:=Rd.row_shape ca;obtain⟨mc,c8⟩:=zzy (x.conds.length);obtain⟨ma,c9⟩:=zzy (x.acts.length);rw[c8]at c6;rw[c9]at c7;subst c6;subst c7;have c0:wr.cell? ⟨b,off+j*5,none⟩=some (.string x.name):=a 0 _ rfl;have c1:wr.cell? ⟨b,off+j*5+1,none⟩=some (int i64 x.sal):=a 1 _ rfl;have c2:wr.cell? ⟨b,off+j*5+2,none⟩=some (int i64 x.vars):=a 2 _ rfl;have c3:wr.cell? ⟨b,off+j*5+3,none⟩=some (.slice qc mc dc):=a 3 _ rfl;have c4:wr.cell? ⟨b,off+j*5+4,none⟩=some (.slice qa ma da):=a 4 _ rfl;obtain⟨c,I⟩:=zzx (wr.alloc (.cells #[.string x.name,int i64 x.sal,int i64 x.vars,.slice qc mc dc,.slice qa ma da] 38));have z:Ft wr c:=by rw[I];exact (EB _ wr).alloc (EA _) _
     have O:c.heap[wr.heap.size]?=some (.cells #[.string x.name,int i64 x.sal,int i64 x.vars,.slice qc mc dc,.slice qa ma da] 38 (0,0)):=by rw[I];exact n7 wr _
     have n:=Hd (C.o.trans (z.mono C.o.size));have J:=Hd (M.o.below z);have dd:Hid (w.heap.size+1≠wr.heap.size):=by have:=M.o.lt;show _≠_;omega
     have dg:Hid (wr.heap.size<c.heap.size):=(Ez.1 O).1;obtain⟨P,Q⟩:=zzx (dR (idxOf x.name (R.rules.map aj.name)));have ba:Hid (P=(j:Int)↔(idxOf x.name ((R.rules.map aj.name).take j)).isSome=false):=by
      rw[Q];exact s7 (by rw[List.getElem?_map,B];rfl)
     have cc:=Hd (fun (y:Wb c)=>uW d R.rules x.name _ F (w.heap.size+1) y.1 (J.o.below y.2).r (fun b H=>((J.o.below y.2).f b H).1) (by rw[Fq _ _ _ _ _ _ (J.o.below y.2).h];rfl));rw[←Q]at cc;have ds:=Hd (fun (y:Wb c)=>vm F (w.heap.size+1) d R.types R.rules (.slice K u E) (slice (some ⟨b,off,none⟩) v G) nv nf x (.slice qc mc dc) (.slice qa ma da) y.1 (J.o.below y.2) (Rd.row_keep (fun b H o ho=>((z.trans (y.2.mono z.size)).block b (M.o.f b H).1).trans ho) b9) (Rd.row_keep (fun b H o ho=>((z.trans (y.2.mono z.size)).block b (M.o.f b H).1).trans ho) ca) a8 c5.o);have HX:=Hd B;have dv:Hid ((R.rules.map aj.name)[j]?=some x.name):=by show _=_;rw[List.getElem?_map,B];rfl
     obtain⟨k0,k1,k2,k3,k4⟩:=cells5 O;have K0:=fun y:Wb c=>y.cell k0
     have L0:=fun y:Ks c (fun b=>b=wr.heap.size)=>y.cell rfl k0
     have L1:=fun y:Ks c (fun b=>b=wr.heap.size)=>y.cell rfl k1
     have L2:=fun y:Ks c (fun b=>b=wr.heap.size)=>y.cell rfl k2
     have L3:=fun y:Ks c (fun b=>b=wr.heap.size)=>y.cell rfl k3
     have L4:=fun y:Ks c (fun b=>b=wr.heap.size)=>y.cell rfl k4
     clear a7 a B z O a8 Q b9 ca c8 c9;go_upto_region 13 with fail
     change Code.wp _ _ _ _ (wr.alloc (.cells #[.string x.name,int i64 x.sal,int i64 x.vars,.slice qc mc dc,.slice qa ma da] 38));rw[←I];clear I c0 c1 c2 c3 c4 k0 k1 k2 k3 k4
     by_cases X:P=(j:Int)
     ·have b6:Hid ((idxOf x.name ((R.rules.map aj.name).take j)).isSome=false):=ba.o.1 X;subst X;obtain⟨ok,ch⟩:=zzx (dU d R.types x);have bt:=Hd ch;rw[←ch]at ds;clear K0 ch
      let SS:Nat→World→Prop:=fun s W=>if s=0 then (∃y:Wb c,W=y.1) else (Chg (fun b=>b=w.heap.size+1) c W∧∃p q,SuW F (w.heap.size+1) d R.types R.rules (.slice K u E) (slice (some ⟨b,off,none⟩) v G) p q W)
      have bb:SS 0 c.drew:=⟨⟨c.drew,(EB _ _).drew⟩,rfl⟩;have bB:∀(m s:Nat) (W:World),s≤m→SS s W→∃y:Ks c (fun b=>b=wr.heap.size),W=y.1:=fun m s W _ h=>by
       refine⟨⟨W,fun b H=>?_⟩,rfl⟩;subst H
       by_cases Y:s=0
       ·subst Y;obtain⟨y,rfl⟩:∃y:Wb c,W=y.1:=h;exact y.2.block _ dg.o
       ·have h:(Chg (fun b=>b=w.heap.size+1) c W∧∃p q,SuW F (w.heap.size+1) d R.types R.rules (.slice K u E) (slice (some ⟨b,off,none⟩) v G) p q W):=by simpa only [SS,n8 Y]using h
        exact h.1.block _ dg.o (fun e=>dd.o e.symm)
      refine RE.wp_region_eff (by kernel_rfl) 14 [5,11] [11] SS (fun _ _=>True) (fun i _=>if i=5 then int i64 (j:Int) else if i=11 then .bool ok else undef) (fun _ _ _=>True) (by kernel_rfl) ?_ (fun _ _ _ _ _ _ _=>trivial) bb ?_
      ·intro i he hc s W W' h H
       by_cases Y:s=0
       ·subst Y;exact ci h H
       ·have h:(Chg (fun b=>b=w.heap.size+1) c W∧∃p q,SuW F (w.heap.size+1) d R.types R.rules (.slice K u E) (slice (some ⟨b,off,none⟩) v G) p q W):=by simpa only [SS,n8 Y]using h
        obtain⟨h1,p,q,h2⟩:=h;have h':(Chg (fun b=>b=w.heap.size+1) c W'∧∃p q,SuW F (w.heap.size+1) d R.types R.rules (.slice K u E) (slice (some ⟨b,off,none⟩) v G) p q W'):=⟨h1.trans (Chg.of_below H),p,q,h2.below H⟩
        simpa only [SS,n8 Y]using h'
      simp only[EK,ET,EL,ES]
      repeat (refine RE.wpE_read (fun W=>∃y:Ks c (fun b=>b=wr.heap.size),W=y.1) (bB _) rfl rfl rfl bb ?_;go_big_quiet_step (fail);refine wpQuiet_nil ?_)
      refine RE.wpE_turn rfl rfl ?_ (fun fs=>?_)
      ·intro W hC _ hE;obtain⟨s9,ec,h9⟩:=hC;have ec:s9≤0:=EG ec (Nat.le_of_eq (by kernel_rfl));obtain rfl:s9=0:=by omega
       obtain⟨y,rfl⟩:∃y:Wb c,W=y.1:=h9;refine RE.upon_call 16 _ _ rfl (enters_of Tryz.func16 (by kernel_rfl) rfl) #[.pointer (some ⟨w.heap.size+1,0,none⟩),.string x.name] (by simp[Act.eval]) ((cc.o y).mono ?_);rintro e W' ⟨rfl,H⟩;exact⟨_,rfl,[],rfl,H,trivial,trivial⟩
      simp only[Act.put,EC,EI,EH,Nat.reduceAdd,↓reduceIte]
      repeat (refine RE.wpE_read (fun W=>∃y:Ks c (fun b=>b=wr.heap.size),W=y.1) (bB _) rfl rfl rfl bb ?_;go_big_quiet_step (fail);refine wpQuiet_nil ?_)
      refine RE.wpE_turn rfl rfl ?_ (fun e9=>?_)
      ·intro W hC hS hE;obtain⟨y,rfl⟩:∃y:Wb c,W=y.1:=hS rfl;refine RE.upon_call 17 _ _ rfl (enters_of Tryz.func17 (by kernel_rfl) rfl) #[.pointer (some ⟨w.heap.size+1,0,none⟩),.agg #[.string x.name,int i64 x.sal,int i64 x.vars,.slice qc mc dc,.slice qa ma da]] (by simp[Act.eval]) ((ds.o y).mono ?_);rintro e W' ⟨hc,rfl,p,q,g⟩;exact⟨_,rfl,[],rfl,⟨(Chg.of_below y.2).trans hc,p,q,g⟩,trivial,trivial⟩
      simp only[Act.put,EC,EI,EH,Nat.reduceAdd,Nat.reduceEqDiff,↓reduceIte]
      repeat (refine RE.wpE_read (fun W=>∃y:Ks c (fun b=>b=wr.heap.size),W=y.1) (bB _) rfl rfl rfl bb ?_;go_big_quiet_step (fail);refine wpQuiet_nil ?_)
      refine RE.wpE_nil ?_;intro W hS _;obtain⟨eg,p,q,ek⟩:(Chg (fun b=>b=w.heap.size+1) c W∧∃p q,SuW F (w.heap.size+1) d R.types R.rules (.slice K u E) (slice (some ⟨b,off,none⟩) v G) p q W):=hS;have el:Hid (Ft w W):=Chg.to_below n.o eg (fun b H=>by omega) n.o.size;have e8:=Hd ek;clear eg ek L0 L1 L2 L3 L4 bB bb
      cases ok with
      | true =>
       have b7:Hid (wN F d R K (some ⟨b,off,none⟩) u E v G w (int i64 ((j+1:Nat):Int)) W):=
        ⟨j+1,p,q,by omega,rfl,ky HX.o D.o bt.o.symm,jK dv.o U.o b6.o,el.o,e8.o⟩
       go_wp2_with fail
       refine⟨b7.o,?_⟩;simp[intOf];omega
      | false =>
       have l:Hid (res=false):=by show _=_;rw[b8.o,i5 (f:=dU d R.types) HX.o bt.o.symm];rfl
       go_wp2_with fail
       go_ret;exact⟨by rw[l.o];rfl,el.o⟩
     ·have e5:(P==(j:Int))=false:=by simpa using X
      have e6:(P != (j:Int))=true:=by simpa using X
      have e7:decide (P=(j:Int))=false:=oc X;have l:Hid (res=false):=by
       show _=_
       have:(idxOf x.name ((R.rules.map aj.name).take j)).isSome=true:=by
        cases hc:(idxOf x.name ((R.rules.map aj.name).take j)).isSome with
        | true=>rfl
        | false=>exact absurd (ba.o.2 hc) X
       rw[b8.o,ku dv.o this];simp
      clear L0 L1 L2 L3 L4;refine ae (by kernel_rfl) (by kernel_rfl) ?_
      repeat (go_big_quiet_step ((go_at_call 16;exact Calls.below_of (cc.o _))))
      refine wpQuiet_nil ?_;intro W2 g;have k:=az g;have A:=Hd (n.o.trans (k.mono n.o.size));clear g k K0;go_wp2_with fail
      go_ret;exact⟨by rw[l.o];rfl,A.o⟩
    ·have bc:R.rules.all (dU d R.types)=true:=by
      rw[←D.o,ER (by rw[bn.o];omega)]
     have b0:apartB [] (R.rules.map aj.name)=true:=by
      have h:=U.o;rw[ER (by rw[List.length_map,bn.o];omega)]at h;exact h
     have l:Hid (res=true):=by show _=_;rw[b8.o,bc,b0];rfl
     clear bc b0;go_wp2_with fail
     go_ret;exact⟨by rw[l.o];rfl,C.o⟩
