/- Several texts joined, each with its own sentence and conditions ahead of it: MkQ, MkR, MkS. -/
import Derived.Test.YtglbjooofdnbkaaGreatDoorNF
import Derived.Test.YtglbjooofdnbkaaGreatDoorNG
namespace Go.Proofs.YtglbjooofdnbkaaGreatDoor
set_option maxHeartbeats 4000000
set_option maxRecDepth 100000
open Go.RowKit
theorem MkW.vars {F:Nat→Prop}{d M:Nat}{ts:List CType}{rs:List CRule}{vars:List ByteArray}{nm:ByteArray}{sal nv:Int}{cs:List CCond}{acs:List CAct}{vT vR vV vC vA:Value}{w:World}(h:MkW F d M ts rs vars nm sal nv cs acs vT vR vV vC vA w):VarW M vars vV w:=
 ⟨by rw[cell_of_row _ _ _ _ _ _ h.m];rfl,h.lt,h.v.row (fun b hb=>(h.f b hb).1) (fun g hg=>h.v.lt hg)⟩
def st4 (W:World) (g:Nat) (a b c d:Value):World:=(((W.setCell ⟨g,0,none⟩ a).setCell ⟨g,1,none⟩ b).setCell ⟨g,2,none⟩ c).setCell ⟨g,3,none⟩ d
theorem st4_at {W:World}{g:Nat}{x0 x1 x2 x3:Value}{t:TypeId}(h:W.heap[g]? = some (.cells #[x0,x1,x2,x3] t (0,0)))(a b c e:Value):(st4 W g a b c e).heap[g]? = some (.cells #[a,b,c,e] t (0,0)):=
 heap_set (heap_set (heap_set (heap_set h 0 a) 1 b) 2 c) 3 e
theorem st4_below {B:Nat}{w W:World}{g:Nat}(hb:Below B w W)(hg:B≤g)(a b c d:Value):Below B w (st4 W g a b c d):=
 (((hb.setCell hg a).setCell hg b).setCell hg c).setCell hg d
theorem st4_other {W:World}{g:Nat}(a b c d:Value)(k:Nat)(h:k≠g):(st4 W g a b c d).heap[k]? = W.heap[k]?:=by
 have hh:∀(V:World) (i:Nat) (u:Value),(V.setCell ⟨g,i,none⟩ u).heap[k]? = V.heap[k]?:=fun V i u=>Below.heap_setCell V ⟨g,i,none⟩ u k h
 unfold st4
 rw[hh,hh,hh,hh]
theorem st4_size {W:World}{g:Nat}(a b c d:Value):(st4 W g a b c d).heap.size=W.heap.size:=by simp[st4,World.setCell]
theorem cells4b {w:World}{T:Nat}{a b c d:Value}{t:TypeId}(hT:w.heap[T]? = some (.cells #[a,b,c,d] t (0,0))):w.cell? ⟨T,0,none⟩=some a∧w.cell? ⟨T,1,none⟩=some b∧w.cell? ⟨T,2,none⟩=some c∧w.cell? ⟨T,3,none⟩=some d:=by
 simp[World.cell?,hT]
theorem mk_box {F F':Nat→Prop}{d M:Nat}{ts:List CType}{rs:List CRule}{vars:List ByteArray}{nm:ByteArray}{sal nv:Int}{cs:List CCond}{acs:List CAct}{vT vR vV vC vA:Value}{w:World}{g:Nat}(h:MkW F d M ts rs vars nm sal nv cs acs vT vR vV vC vA w)(hs:∀b,F b→F' b)
  (hf:∀b,F' b→b<w.heap.size∧¬Own8 M [vT,vR,vV,vC,vA] b∧b≠g) (hg:¬Own8 M [vT,vR,vV,vC,vA] g) (a b c e:Value):MkW F' d M ts rs vars nm sal nv cs acs vT vR vV vC vA (st4 w g a b c e):=
 (h.grow hs (fun b hb=>⟨(hf b hb).1,(hf b hb).2.1⟩)).upd (by rw[st4_size];exact Nat.le_refl _) (fun x hx=>st4_other _ _ _ _ x (by
  rcases hx with hx|hx
  ·exact (hf x hx).2.2
  ·exact fun e=>hg (e ▸ hx)))
def NewRow (w1:World) (d:Nat) (es:List CExpr) (W:World) (v:Value):Prop:=(exprRd d).row W (Since2 w1 W) es v
theorem NewRow.below {w1 W W':World}{d:Nat}{es:List CExpr}{v:Value}(h:NewRow w1 d es W v)(hb:Below W.heap.size W W'):NewRow w1 d es W' v:=
 Rd.row_sub (fun _ hb2=>⟨hb2.1,Nat.lt_of_lt_of_le hb2.2 hb.size⟩) (Rd.row_below h (fun _ hb2=>hb2.2) hb)
theorem NewRow.of {w1 W W':World}{d:Nat}{es:List CExpr}{v:Value}(h1:w1.heap.size≤W.heap.size)(h:RowIn W' (fun b=>Since2 W W' b∧v.ownBlock≠some b) 58 (exprRd d) es v)(hg:∀g,v.ownBlock=some g→W.heap.size≤g):NewRow w1 d es W' v:=
 h.row (fun _ hb=>⟨Nat.le_trans h1 hb.1.1,hb.1.2⟩) (fun g hg'=>⟨Nat.le_trans h1 (hg g hg'),h.lt hg'⟩)
theorem fill_asks1 (b1:Bool)(e1:Int)(z:Value)(h:z.cells.size=2):Instr.fill (fun i=>some (i*2,2)) ((Array.range (1*2)).map (z.cells[· % z.cells.size]!)) [(0,.agg #[.bool b1,.int .i64 e1])]=some (askC [(b1,e1)]).toArray:=by
 obtain⟨x,y,hz⟩:=size2 h
 rw[hz]
 kernel_rfl
theorem upon_asks1 {o:Oper}{a:Act}{W:World}{G:Value→World→Prop}{L:Nat}(b1:Bool)(e1:Int)(x:Operand)(ho:o.op=.buildSlice 129 1 #[(0,x)])(hx:a.eval x=.agg #[.bool b1,.int .i64 e1])(hL:L≤W.heap.size)
  (hG:∀v W',Below W.heap.size W W'→Asks L [(b1,e1)] W' v→G v W'):RE.Upon Tryz.prog o a W G:=by
 refine upon_asks (l:=[(b1,e1)]) ho rfl (by decide) (fun z hz=>?_) hL hG
 have e:((#[(0,x)]:Array (Nat×Operand)).map fun (q:Nat×Operand)=>(q.1,a.eval q.2)).toList=[(0,a.eval x)]:=by simp
 rw[e,hx]
 exact fill_asks1 b1 e1 z hz
def actRow (r:Except Flt (List CExpr)):Except Flt CAct:=match r with
 | .error e=>.error e
 | .ok xs=>.ok ⟨3,0,0,xs⟩
theorem act_row (F:Nat→Prop)(d M:Nat)(ts:List CType)(rs:List CRule)(vars:List ByteArray)(nm:ByteArray)(sal nv:Int)(cs:List CCond)(acs:List CAct)(vT vR vV vC vA:Value)(T:Tree)(p:Option Addr)(n c:Nat)(r:Except Flt (List CExpr))(w:World)
  (hw:MkW F d M ts rs vars nm sal nv cs acs vT vR vV vC vA w) (hk:T.kind=10) (han:acs.length≤10000)
  (hex:∀W,Below w.heap.size w W→Calls Tryz.prog 61 #[.pointer (some ⟨M,0,none⟩),.slice p n c] W (ExprsOut d r W)) :
  Calls Tryz.prog 32 #[.pointer (some ⟨M,0,none⟩),.agg #[.int .u8 T.kind,.string T.text,.int .i64 T.num,.int .i64 T.place,.slice p n c]] w (ActPost F d M ts rs vars nm sal nv cs acs vT vR vV vC vA (actRow r) w):=by
 rw[hk]
 obtain⟨pA,cA,hvA⟩:=hw.a.shape
 subst hvA
 obtain⟨nA,hnA⟩:∃nA,acs.length=nA:=⟨_,rfl⟩
 have HN:=Hd hnA
 rw[hnA] at han
 obtain⟨w1,hw1⟩:∃w1,w1=(w.alloc (.cells #[.int .u8 10,.string T.text,.int .i64 T.num,.int .i64 T.place,.slice p n c] 25)).alloc (.cells #[.int .u8 4,.int .i64 0,.int .i64 0,.slice none 0 0] 66):=⟨_,rfl⟩
 obtain⟨hx0,hx1,_⟩:=two_new' w (.cells #[.int .u8 10,.string T.text,.int .i64 T.num,.int .i64 T.place,.slice p n c] 25) (.cells #[.int .u8 4,.int .i64 0,.int .i64 0,.slice none 0 0] 66)
 have hb1:Below w.heap.size w w1:=by rw[hw1];exact ((Below.refl _ w).alloc (Nat.le_refl _) _).alloc (by simp) _
 rw[←hw1] at hx0 hx1
 have HAlt:=Hd (fun g hg=>hw.a.lt (g:=g) hg)
 have HOlt:=Hd (fun b hb=>hw.own_lt (b:=b) hb)
 have HX0:=Hd hx0
 have HX1:=Hd hx1
 have HB1:=Hd hb1
 have HW1:=Hd (hw.below hb1)
 have HS1:Hid (w.heap.size+2≤w1.heap.size):=by
  have h:=(Array.getElem?_eq_some_iff.1 HX1.out).1
  show _≤_
  omega
 have HFlt:=Hd (fun b (hb:F b)=>(hw.f b hb).1)
 have HC:=Hd (hex w1 hb1)
 obtain⟨e0,e1,e2,e3,e4⟩:=cells5 hx0
 clear hx0 hx1 hb1 hw hk hex hnA
 go_enter Tryz.func32,Tryz.ntmps32
 go_upto_region 9 with fail
 change Code.wp _ _ _ _ ((w.alloc (.cells #[.int .u8 10,.string T.text,.int .i64 T.num,.int .i64 T.place,.slice p n c] 25)).alloc (.cells #[.int .u8 4,.int .i64 0,.int .i64 0,.slice none 0 0] 66))
 rw[←hw1]
 clear hw1
 go_wp2_with fail
 refine HC.out.mono ?_
 rintro e W2 ⟨hb2,he⟩
 have HB2:=Hd (HB1.out.trans (hb2.mono HB1.out.size))
 have HX2:=Hd (heap_below hb2 HX1.out (Array.getElem?_eq_some_iff.1 HX1.out).1)
 have HW2:=Hd (HW1.out.below hb2)
 clear e0 e1 e2 e3 e4 hb2
 cases r with
 | error er =>
  have he:e=faultP er.1 er.2:=he
  subst he
  exact⟨rfl,Chg.of_below HB2.out,rfl⟩
 | ok xs =>
 obtain⟨v,rfl,hrow,hge⟩:=he
 obtain⟨q,cq,hv⟩:=hrow.shape
 obtain⟨nx,hnx⟩:∃nx,xs.length=nx:=⟨_,rfl⟩
 rw[hnx] at hv
 subst hv
 have HR2:Hid ((exprRd d).row W2 (Since2 w1 W2) xs (.slice q nx cq)):=NewRow.of (Nat.le_refl _) hrow hge
 have HRes:Hid (actRow (.ok xs)=.ok ⟨3,0,0,xs⟩):=rfl
 clear hrow hge hnx
 obtain⟨w5,hw5⟩:∃w5,w5=st4 W2 (w.heap.size+1) (Value.int .u8 3) (Value.int .i64 0) (Value.int .i64 0) (Value.slice q nx cq):=⟨_,rfl⟩
 have HX5:Hid (w5.heap[w.heap.size+1]? = some (.cells #[Value.int .u8 3,Value.int .i64 0,Value.int .i64 0,Value.slice q nx cq] 66 (0,0))):=by show _=_;rw[hw5];exact st4_at HX2.out _ _ _ _
 have HB5:Hid (Below w.heap.size w w5):=by show Below _ _ _;rw[hw5];exact st4_below HB2.out (Nat.le_succ _) _ _ _ _
 have HW5:Hid (MkW (fun b=>F b∨Since2 w1 W2 b) d M ts rs vars nm sal nv cs acs vT vR vV vC (.slice pA acs.length cA) w5):=by
  show MkW _ _ _ _ _ _ _ _ _ _ _ _ _ _ _ _ _
  rw[hw5]
  refine mk_box HW2.out (fun _ h=>Or.inl h) (fun b hb=>?_) (fun ho=>by have:=HOlt.out _ ho;omega) _ _ _ _
  rcases hb with hb|hb
  ·exact⟨(HW2.out.f b hb).1,(HW2.out.f b hb).2,by have:=HFlt.out b hb;omega⟩
  ·have h1:=hb.1
   have h2:=HS1.out
   exact⟨hb.2,fun ho=>by have:=HOlt.out _ ho;omega,by omega⟩
 have HR5:Hid ((exprRd d).row w5 (fun b=>F b∨Since2 w1 W2 b) xs (.slice q nx cq)):=by
  show (exprRd d).row _ _ _ _
  rw[hw5]
  exact Rd.row_sub (fun _ h=>Or.inr h) (Rd.row_keep (fun b hb o ho=>(st4_other _ _ _ _ b (by have:=hb.1;have:=HS1.out;omega)).trans ho) HR2.out)
 obtain⟨e0,e1,e2,e3⟩:=cells4b HX2.out
 have f0:=frozen5 HX2.out
 go_upto_region 10 with fail
 change Code.wp _ _ _ _ (st4 W2 (w.heap.size+1) (Value.int .u8 3) (Value.int .i64 0) (Value.int .i64 0) (Value.slice q nx cq))
 rw[←hw5]
 clear hw5 e0 e1 e2 e3 f0
 obtain⟨us,hown,hcl⟩:=HW5.out.a
 rw[HN.out] at hown
 have HOwn:=Hd hown
 have HCl:=Hd hcl
 have e0:w5.cell? ⟨w.heap.size+1,0,none⟩=some (Value.int .u8 3):=by rw[cell_of_row _ _ _ _ _ _ HX5.out];rfl
 have e1:w5.cell? ⟨w.heap.size+1,1,none⟩=some (Value.int .i64 0):=by rw[cell_of_row _ _ _ _ _ _ HX5.out];rfl
 have e2:w5.cell? ⟨w.heap.size+1,2,none⟩=some (Value.int .i64 0):=by rw[cell_of_row _ _ _ _ _ _ HX5.out];rfl
 have e3:w5.cell? ⟨w.heap.size+1,3,none⟩=some (Value.slice q nx cq):=by rw[cell_of_row _ _ _ _ _ _ HX5.out];rfl
 have hm2:w5.cell? ⟨M,7,none⟩=some (.slice pA nA cA):=by rw[cell_of_row _ _ _ _ _ _ HW5.out.m,←HN.out];rfl
 have hK:∀b,(b=M∨b=w.heap.size+1)→b<w5.heap.size∧(Value.slice pA nA cA).ownBlock≠some b:=fun b hb=>by
  rw[←HN.out]
  rcases hb with rfl|rfl
  ·exact⟨HW5.out.lt,row_ne HW5.out.m HW5.out.a (by decide)⟩
  ·exact⟨(Array.getElem?_eq_some_iff.1 HX5.out).1,fun e=>by have:=HAlt.out _ e;omega⟩
 have HKs:=Hd (ap_ks (E:=66) (sz:=4) (row:=us++[Value.int .u8 3,Value.int .i64 0,Value.int .i64 0,Value.slice q nx cq]) (K:=(fun b=>b=M∨b=w.heap.size+1)) hK)
 have E0:=fun x:Ks w5 (fun b=>b=M∨b=w.heap.size+1)=>x.cell (Or.inr rfl) e0
 have E1:=fun x:Ks w5 (fun b=>b=M∨b=w.heap.size+1)=>x.cell (Or.inr rfl) e1
 have E2:=fun x:Ks w5 (fun b=>b=M∨b=w.heap.size+1)=>x.cell (Or.inr rfl) e2
 have E3:=fun x:Ks w5 (fun b=>b=M∨b=w.heap.size+1)=>x.cell (Or.inr rfl) e3
 have M2:=fun x:Ks w5 (fun b=>b=M∨b=w.heap.size+1)=>x.cell (Or.inl rfl) hm2
 clear hown hcl e0 e1 e2 e3 hm2 hK
 refine RE.wp_region_eff (by kernel_rfl) 9 [7,8] [8] (stA 66 4 w5 pA nA cA (us++[Value.int .u8 3,Value.int .i64 0,Value.int .i64 0,Value.slice q nx cq])) (ApR w5) (fun _ ys=>ys.getD 0 undef) (phA 66 4 w5 pA nA cA [Value.int .u8 3,Value.int .i64 0,Value.int .i64 0,Value.slice q nx cq] (us++[Value.int .u8 3,Value.int .i64 0,Value.int .i64 0,Value.slice q nx cq]) 7 8) (by kernel_rfl) (fun _ _ _ _ _ _ h hb=>h.below hb) (fun _ _ _ _ h _ hR=>h.keep hR) stA.zero ?_
 simp only[List.take_succ_cons,List.take_zero,List.drop_succ_cons,List.drop_zero]
 repeat (refine RE.wpE_read (fun W=>∃x:Ks w5 (fun b=>b=M∨b=w.heap.size+1),W=x.1) (HKs.out _) rfl rfl rfl stA.zero ?_;go_big_quiet_step (fail);refine wpQuiet_nil ?_)
 refine RE.wpE_turn rfl rfl ?_ (fun ys7=>?_)
 ·intro W hC hS hE
  obtain⟨s9,_,h9⟩:=hC
  exact upon_one elemAct (vs:=[Value.int .u8 3,Value.int .i64 0,Value.int .i64 0,Value.slice q nx cq]) _ rfl rfl rfl h9.size (fun v W' hb ho=>⟨[v],rfl,hb,ApR.of_below hb,ho⟩)
 simp only[Act.put,List.setIfInBounds_toArray,List.set_cons_zero,List.set_cons_succ]
 refine RE.wpE_turn rfl rfl ?_ (fun ys8=>?_)
 ·intro W hC hS hE
  obtain⟨x,rfl⟩:∃x:Wb w5,W=x.1:=hS rfl
  exact upon_ap elemAct (p:=pA) (n:=nA) (c:=cA) (w4:=w5) (vs:=[Value.int .u8 3,Value.int .i64 0,Value.int .i64 0,Value.slice q nx cq]) (xs:=us) _ _ rfl rfl (hE 7 ys7 (by kernel_rfl) rfl) rfl (by simp[Value.oneCell']) x.2 HOwn.out (by omega) (fun v' W' h1 h2 h3=>⟨[v'],rfl,h1,h2,h3⟩)
 simp only[Act.put,List.setIfInBounds_toArray,List.set_cons_zero,List.set_cons_succ]
 refine RE.wpE_nil ?_
 intro W hS hE
 have hS:ApS 66 4 w5 pA nA cA (us++[Value.int .u8 3,Value.int .i64 0,Value.int .i64 0,Value.slice q nx cq]) W:=hS
 have hV:ApV 66 4 w5 pA nA cA (us++[Value.int .u8 3,Value.int .i64 0,Value.int .i64 0,Value.slice q nx cq]) W (ys8.getD 0 undef):=hE 8 ys8 rfl
 obtain⟨g',cap,eg,hg,hC,hrow⟩:=ap_end hS hV
 rw[eg]
 have hC1:Chg (fun b=>(Value.slice pA acs.length cA).ownBlock=some b) w5 W:=by rw[HN.out];exact hC
 have hg1:(Value.slice pA acs.length cA).ownBlock=some g'∨w5.heap.size≤g':=by rw[HN.out];exact hg
 have hx4:(actRd d).at_ w5 (fun b=>F b∨Since2 w1 W2 b) ⟨3,0,0,xs⟩ [Value.int .u8 3,Value.int .i64 0,Value.int .i64 0,Value.slice q nx cq]:=act_at.2 ⟨show U8 3 from ⟨by decide,by decide⟩,(show I64 0 from ⟨by decide,by decide⟩),(show I64 0 from ⟨by decide,by decide⟩),.slice q nx cq,rfl,HR5.out⟩
 obtain⟨hW6,hC6,hMb⟩:=HW5.out.pushA HN.out HCl.out hx4 hg1 hC1 hrow
 have hm2:W.cell? ⟨M,7,none⟩=some (.slice pA nA cA):=by rw[cell_of_row _ _ _ _ _ _ (hMb.trans HW5.out.m),←HN.out];rfl
 have hf2:=frozen_of (hMb.trans HW5.out.m) 7
 have HP:Hid (ActPost F d M ts rs vars nm sal nv cs acs vT vR vV vC (.slice pA acs.length cA) (.ok ⟨3,0,0,xs⟩) w (.returned (.tuple #[])) (W.setCell ⟨M,7,none⟩ (.slice (some ⟨g',0,none⟩) (nA+1) cap))):=by
  refine⟨chg_step (Chg.of_below HB5.out) hC6 (fun x hx=>Or.inl hx),rfl,(fun b=>F b∨Since2 w1 W2 b),_,hW6,fun b hb=>?_,fun _ h=>Or.inl h,fun b h=>h.imp id (fun h=>by have:=HS1.out;have:=h.1;omega)⟩
  injection hb with hb
  have hb:g'=b:=hb
  subst hb
  rcases hg1 with h|h
  ·exact Or.inl h
  ·have:=HB5.out.size;exact Or.inr (by omega)
 clear hS hV hE eg hg hC hrow hC1 hg1 hW6 hC6 hMb E0 E1 E2 E3 M2 HKs hx4
 go_wp2_with fail
 go_end0
 rw[HRes.out]
 exact HP.out
def actWhich (cs:List CCond) (T:Tree):Except Flt CAct:=if T.num<1||decide ((factsM cs:Int)<T.num) then .error (214,T.place) else .ok ⟨2,0,T.num-1,[]⟩
theorem act_which (F:Nat→Prop)(d M:Nat)(ts:List CType)(rs:List CRule)(vars:List ByteArray)(nm:ByteArray)(sal nv:Int)(cs:List CCond)(acs:List CAct)(vT vR vV vC vA:Value)(T:Tree)(p:Option Addr)(n c:Nat)(w:World)
  (hw:MkW F d M ts rs vars nm sal nv cs acs vT vR vV vC vA w) (hk:T.kind=9) (han:acs.length≤10000) (hcn:cs.length≤10000) (hnum:I64 T.num) :
  Calls Tryz.prog 32 #[.pointer (some ⟨M,0,none⟩),.agg #[.int .u8 T.kind,.string T.text,.int .i64 T.num,.int .i64 T.place,.slice p n c]] w (ActPost F d M ts rs vars nm sal nv cs acs vT vR vV vC vA (actWhich cs T) w):=by
 rw[hk]
 obtain⟨pA,cA,hvA⟩:=hw.a.shape
 subst hvA
 obtain⟨nA,hnA⟩:∃nA,acs.length=nA:=⟨_,rfl⟩
 have HN:=Hd hnA
 rw[hnA] at han
 obtain⟨w1,hw1⟩:∃w1,w1=(w.alloc (.cells #[.int .u8 9,.string T.text,.int .i64 T.num,.int .i64 T.place,.slice p n c] 25)).alloc (.cells #[.int .u8 4,.int .i64 0,.int .i64 0,.slice none 0 0] 66):=⟨_,rfl⟩
 obtain⟨hx0,hx1,_⟩:=two_new' w (.cells #[.int .u8 9,.string T.text,.int .i64 T.num,.int .i64 T.place,.slice p n c] 25) (.cells #[.int .u8 4,.int .i64 0,.int .i64 0,.slice none 0 0] 66)
 have hb1:Below w.heap.size w w1:=by rw[hw1];exact ((Below.refl _ w).alloc (Nat.le_refl _) _).alloc (by simp) _
 rw[←hw1] at hx0 hx1
 have HAlt:=Hd (fun g hg=>hw.a.lt (g:=g) hg)
 have HOlt:=Hd (fun b hb=>hw.own_lt (b:=b) hb)
 have HX0:=Hd hx0
 have HX1:=Hd hx1
 have HB1:=Hd hb1
 have HW1:=Hd (hw.below hb1)
 have HS1:Hid (w.heap.size+2≤w1.heap.size):=by
  have h:=(Array.getElem?_eq_some_iff.1 HX1.out).1
  show _≤_
  omega
 have HFlt:=Hd (fun b (hb:F b)=>(hw.f b hb).1)
 have HFa:=Hd (fun (W:World) (h:Below w1.heap.size w1 W)=>facts_any d cs vC (fun b=>b<w.heap.size) M W (Rd.row_below (hw.c.row (G:=fun b=>b<w.heap.size) (fun b hb=>(hw.f b hb).1) (fun g hg=>hw.c.lt hg)) (fun _ h=>h) (hb1.trans (h.mono hb1.size))) (fun b hb=>by have:=h.size;have:=hb1.size;omega) (by rw[cell_of_row _ _ _ _ _ _ (((hw.below hb1).below h).m)];rfl) hcn)
 obtain⟨e0,e1,e2,e3,e4⟩:=cells5 hx0
 obtain⟨fm,hfm⟩:∃fm,factsM cs=fm:=⟨_,rfl⟩
 have HRs:Hid (actWhich cs T=if T.num<1||decide ((fm:Int)<T.num) then .error (214,T.place) else .ok ⟨2,0,T.num-1,[]⟩):=by show _=_;rw[←hfm];rfl
 rw[hfm] at HFa
 clear hx0 hx1 hb1 hw hk hnA hfm hcn
 go_enter Tryz.func32,Tryz.ntmps32
 go_upto_region 6 with fail
 change Code.wp _ _ _ _ ((w.alloc (.cells #[.int .u8 9,.string T.text,.int .i64 T.num,.int .i64 T.place,.slice p n c] 25)).alloc (.cells #[.int .u8 4,.int .i64 0,.int .i64 0,.slice none 0 0] 66))
 rw[←hw1]
 clear hw1
 have E0:=fun x:Wb w1=>x.cell e0
 have E1:=fun x:Wb w1=>x.cell e1
 have E2:=fun x:Wb w1=>x.cell e2
 have E3:=fun x:Wb w1=>x.cell e3
 have E4:=fun x:Wb w1=>x.cell e4
 by_cases hlt:T.num<1
 ·have HRes:Hid (actWhich cs T=.error (214,T.place)):=by show _=_;rw[HRs.out,decide_eq_true hlt];rfl
  have hltb:decide (T.num<1)=true:=decide_eq_true hlt
  refine RE.wp_region_eff (by kernel_rfl) 13 [8,12] [] (fun _ W=>∃x:Wb w1,W=x.1) (fun W W'=>Below W.heap.size W W') (fun i ys=>if i=8 then .int .i64 (fm:Int) else ys.getD 0 undef) (fun i W ys=>if i=12 then Asks w1.heap.size [(true,214)] W (ys.getD 0 undef) else True) (by kernel_rfl) (fun _ _ _ _ _ _ h hb=>wb_next h hb) (fun i W W' ys h _ hb=>by split at h;(rw[if_pos (by assumption)];exact h.below hb);rw[if_neg (by assumption)];trivial) ⟨⟨w1.drew,(Below.refl _ _).drew⟩,rfl⟩ ?_
  simp only[List.take_succ_cons,List.take_zero,List.drop_succ_cons,List.drop_zero]
  repeat (refine RE.wpE_read (fun W=>∃x:Wb w1,W=x.1) (fun _ _ _ h=>h) rfl rfl rfl ⟨⟨w1.drew,(Below.refl _ _).drew⟩,rfl⟩ ?_;go_big_quiet_step (fail);refine wpQuiet_nil ?_)
  refine RE.wpE_off rfl (fun W h=>by cases h) ?_
  simp only[Act.put,List.setIfInBounds_toArray,List.set_cons_zero,List.set_cons_succ]
  repeat (refine RE.wpE_read (fun W=>∃x:Wb w1,W=x.1) (fun _ _ _ h=>h) rfl rfl rfl ⟨⟨w1.drew,(Below.refl _ _).drew⟩,rfl⟩ ?_;go_big_quiet_step (fail);refine wpQuiet_nil ?_)
  refine RE.wpE_turn rfl rfl ?_ (fun ys=>?_)
  ·intro W hC _ hE
   obtain⟨s9,_,x,rfl⟩:=hC
   exact upon_asks1 true 214 _ rfl rfl x.2.size (fun v W' hb ho=>⟨[v],rfl,hb,hb,ho⟩)
  simp only[Act.put,List.setIfInBounds_toArray,List.set_cons_zero,List.set_cons_succ]
  refine RE.wpE_nil ?_
  intro W hS hE
  obtain⟨x,rfl⟩:=hS
  obtain⟨g,eg,lg,hg⟩:Asks w1.heap.size [(true,214)] x.1 (ys.getD 0 undef):=hE 12 ys rfl
  have eg:(if (12:Nat)=8 then Value.int .i64 (fm:Int) else ys.getD 0 undef)=.slice (some ⟨g,0,none⟩) 1 1:=eg
  rw[eg]
  have HNn:=Hd (none_any [(true,214)] 9 T.text T.num T.place (.slice p n c) g 1 1 x.1 rfl (by omega) hg)
  have HBx:=Hd x.2
  clear hE eg lg hg E0 E1 E2 E3 E4
  go_wp2_with fail
  refine HNn.out.mono ?_
  rintro e W2 ⟨hb5,he⟩
  have he:e=faultP 214 T.place:=he
  subst he
  refine⟨rfl,Chg.of_below (HB1.out.trans ((HBx.out.trans (hb5.mono HBx.out.size)).mono HB1.out.size)),?_⟩
  rw[HRes.out]
  rfl
 ·have hltb:decide (T.num<1)=false:=decide_eq_false hlt
  by_cases hgt:(fm:Int)<T.num
  ·have HRes:Hid (actWhich cs T=.error (214,T.place)):=by show _=_;rw[HRs.out,decide_eq_true hgt,Bool.or_true];rfl
   have hgtb:decide ((fm:Int)<T.num)=true:=decide_eq_true hgt
   refine RE.wp_region_eff (by kernel_rfl) 13 [8,12] [] (fun _ W=>∃x:Wb w1,W=x.1) (fun W W'=>Below W.heap.size W W') (fun i ys=>if i=8 then .int .i64 (fm:Int) else ys.getD 0 undef) (fun i W ys=>if i=12 then Asks w1.heap.size [(true,214)] W (ys.getD 0 undef) else True) (by kernel_rfl) (fun _ _ _ _ _ _ h hb=>wb_next h hb) (fun i W W' ys h _ hb=>by split at h;(rw[if_pos (by assumption)];exact h.below hb);rw[if_neg (by assumption)];trivial) ⟨⟨w1.drew,(Below.refl _ _).drew⟩,rfl⟩ ?_
   simp only[List.take_succ_cons,List.take_zero,List.drop_succ_cons,List.drop_zero]
   repeat (refine RE.wpE_read (fun W=>∃x:Wb w1,W=x.1) (fun _ _ _ h=>h) rfl rfl rfl ⟨⟨w1.drew,(Below.refl _ _).drew⟩,rfl⟩ ?_;go_big_quiet_step (fail);refine wpQuiet_nil ?_)
   refine RE.wpE_turn rfl rfl ?_ (fun ys8=>?_)
   ·intro W hC _ hE
    obtain⟨s9,_,x,rfl⟩:=hC
    refine RE.upon_call 62 _ _ rfl (enters_of Tryz.func62 (by kernel_rfl) rfl) #[.pointer (some ⟨M,0,none⟩)] (by simp[Act.eval]) ((HFa.out x.1 x.2).mono ?_)
    rintro e W' ⟨rfl,hb⟩
    exact⟨_,rfl,[],rfl,hb,hb,trivial⟩
   simp only[if_true]
   simp only[Act.put,List.setIfInBounds_toArray,List.set_cons_zero,List.set_cons_succ]
   repeat (refine RE.wpE_read (fun W=>∃x:Wb w1,W=x.1) (fun _ _ _ h=>h) rfl rfl rfl ⟨⟨w1.drew,(Below.refl _ _).drew⟩,rfl⟩ ?_;go_big_quiet_step (fail);refine wpQuiet_nil ?_)
   refine RE.wpE_turn rfl rfl ?_ (fun ys=>?_)
   ·intro W hC _ hE
    obtain⟨s9,_,x,rfl⟩:=hC
    exact upon_asks1 true 214 _ rfl rfl x.2.size (fun v W' hb ho=>⟨[v],rfl,hb,hb,ho⟩)
   simp only[Act.put,List.setIfInBounds_toArray,List.set_cons_zero,List.set_cons_succ]
   refine RE.wpE_nil ?_
   intro W hS hE
   obtain⟨x,rfl⟩:=hS
   obtain⟨g,eg,lg,hg⟩:Asks w1.heap.size [(true,214)] x.1 (ys.getD 0 undef):=hE 12 ys rfl
   have eg:(if (12:Nat)=8 then Value.int .i64 (fm:Int) else ys.getD 0 undef)=.slice (some ⟨g,0,none⟩) 1 1:=eg
   rw[eg]
   have HNn:=Hd (none_any [(true,214)] 9 T.text T.num T.place (.slice p n c) g 1 1 x.1 rfl (by omega) hg)
   have HBx:=Hd x.2
   clear hE eg lg hg E0 E1 E2 E3 E4
   go_wp2_with fail
   refine HNn.out.mono ?_
   rintro e W2 ⟨hb5,he⟩
   have he:e=faultP 214 T.place:=he
   subst he
   refine⟨rfl,Chg.of_below (HB1.out.trans ((HBx.out.trans (hb5.mono HBx.out.size)).mono HB1.out.size)),?_⟩
   rw[HRes.out]
   rfl
  ·have HRes:Hid (actWhich cs T=.ok ⟨2,0,T.num-1,[]⟩):=by show _=_;rw[HRs.out,decide_eq_false hgt,hltb];rfl
   have hgtb:decide ((fm:Int)<T.num)=false:=decide_eq_false hgt
   refine RE.wp_region_eff (by kernel_rfl) 13 [8,12] [] (fun _ W=>∃x:Wb w1,W=x.1) (fun W W'=>Below W.heap.size W W') (fun i ys=>if i=8 then .int .i64 (fm:Int) else ys.getD 0 undef) (fun i W ys=>if i=12 then Asks w1.heap.size [(false,214)] W (ys.getD 0 undef) else True) (by kernel_rfl) (fun _ _ _ _ _ _ h hb=>wb_next h hb) (fun i W W' ys h _ hb=>by split at h;(rw[if_pos (by assumption)];exact h.below hb);rw[if_neg (by assumption)];trivial) ⟨⟨w1.drew,(Below.refl _ _).drew⟩,rfl⟩ ?_
   simp only[List.take_succ_cons,List.take_zero,List.drop_succ_cons,List.drop_zero]
   repeat (refine RE.wpE_read (fun W=>∃x:Wb w1,W=x.1) (fun _ _ _ h=>h) rfl rfl rfl ⟨⟨w1.drew,(Below.refl _ _).drew⟩,rfl⟩ ?_;go_big_quiet_step (fail);refine wpQuiet_nil ?_)
   refine RE.wpE_turn rfl rfl ?_ (fun ys8=>?_)
   ·intro W hC _ hE
    obtain⟨s9,_,x,rfl⟩:=hC
    refine RE.upon_call 62 _ _ rfl (enters_of Tryz.func62 (by kernel_rfl) rfl) #[.pointer (some ⟨M,0,none⟩)] (by simp[Act.eval]) ((HFa.out x.1 x.2).mono ?_)
    rintro e W' ⟨rfl,hb⟩
    exact⟨_,rfl,[],rfl,hb,hb,trivial⟩
   simp only[if_true]
   simp only[Act.put,List.setIfInBounds_toArray,List.set_cons_zero,List.set_cons_succ]
   repeat (refine RE.wpE_read (fun W=>∃x:Wb w1,W=x.1) (fun _ _ _ h=>h) rfl rfl rfl ⟨⟨w1.drew,(Below.refl _ _).drew⟩,rfl⟩ ?_;go_big_quiet_step (fail);refine wpQuiet_nil ?_)
   refine RE.wpE_turn rfl rfl ?_ (fun ys=>?_)
   ·intro W hC _ hE
    obtain⟨s9,_,x,rfl⟩:=hC
    exact upon_asks1 false 214 _ rfl rfl x.2.size (fun v W' hb ho=>⟨[v],rfl,hb,hb,ho⟩)
   simp only[Act.put,List.setIfInBounds_toArray,List.set_cons_zero,List.set_cons_succ]
   refine RE.wpE_nil ?_
   intro W hS hE
   obtain⟨x,rfl⟩:=hS
   obtain⟨g,eg,lg,hg⟩:Asks w1.heap.size [(false,214)] x.1 (ys.getD 0 undef):=hE 12 ys rfl
   have eg:(if (12:Nat)=8 then Value.int .i64 (fm:Int) else ys.getD 0 undef)=.slice (some ⟨g,0,none⟩) 1 1:=eg
   rw[eg]
   have HNn:=Hd (none_any [(false,214)] 9 T.text T.num T.place (.slice p n c) g 1 1 x.1 rfl (by omega) hg)
   have HBx:=Hd x.2
   clear hE eg lg hg E0 E1 E2 E3 E4
   go_wp2_with fail
   refine HNn.out.mono ?_
   rintro e W2 ⟨hb5,he⟩
   have he:e=.returned (.tuple #[]):=he
   subst he
   have hb12:=HBx.out.trans (hb5.mono HBx.out.size)
   have HB2:=Hd (HB1.out.trans (hb12.mono HB1.out.size))
   have HX2:=Hd (heap_below hb12 HX1.out (Array.getElem?_eq_some_iff.1 HX1.out).1)
   have HN2:=Hd (heap_below hb12 HX0.out (Array.getElem?_eq_some_iff.1 HX0.out).1)
   have HW2:=Hd (HW1.out.below hb12)
   clear e0 e1 e2 e3 e4 hb5 hb12
   have hsub1:(-9223372036854775808:Int)≤T.num-1:=by omega
   have hsub2:T.num-1<9223372036854775808:=by have:=hnum.2;omega
   obtain⟨w5,hw5⟩:∃w5,w5=st4 W2 (w.heap.size+1) (Value.int .u8 2) (Value.int .i64 0) (Value.int .i64 (T.num-1)) (Value.slice none 0 0):=⟨_,rfl⟩
   have HX5:Hid (w5.heap[w.heap.size+1]? = some (.cells #[Value.int .u8 2,Value.int .i64 0,Value.int .i64 (T.num-1),Value.slice none 0 0] 66 (0,0))):=by show _=_;rw[hw5];exact st4_at HX2.out _ _ _ _
   have HB5:Hid (Below w.heap.size w w5):=by show Below _ _ _;rw[hw5];exact st4_below HB2.out (Nat.le_succ _) _ _ _ _
   have HW5:Hid (MkW (fun b=>F b∨Since2 w1 W2 b) d M ts rs vars nm sal nv cs acs vT vR vV vC (.slice pA acs.length cA) w5):=by
    show MkW _ _ _ _ _ _ _ _ _ _ _ _ _ _ _ _ _
    rw[hw5]
    refine mk_box HW2.out (fun _ h=>Or.inl h) (fun b hb=>?_) (fun ho=>by have:=HOlt.out _ ho;omega) _ _ _ _
    rcases hb with hb|hb
    ·exact⟨(HW2.out.f b hb).1,(HW2.out.f b hb).2,by have:=HFlt.out b hb;omega⟩
    ·have h1:=hb.1
     have h2:=HS1.out
     exact⟨hb.2,fun ho=>by have:=HOlt.out _ ho;omega,by omega⟩
   obtain⟨a0,a1,a2,a3,a4⟩:=cells5 HN2.out
   obtain⟨e0,e1,e2,e3⟩:=cells4b HX2.out
   have f0:=frozen5 HX2.out
   go_upto_region 10 with fail
   change Code.wp _ _ _ _ (st4 W2 (w.heap.size+1) (Value.int .u8 2) (Value.int .i64 0) (Value.int .i64 (T.num-1)) (Value.slice none 0 0))
   rw[←hw5]
   clear hw5 e0 e1 e2 e3 f0 a0 a1 a2 a3 a4
   obtain⟨us,hown,hcl⟩:=HW5.out.a
   rw[HN.out] at hown
   have HOwn:=Hd hown
   have HCl:=Hd hcl
   have e0:w5.cell? ⟨w.heap.size+1,0,none⟩=some (Value.int .u8 2):=by rw[cell_of_row _ _ _ _ _ _ HX5.out];rfl
   have e1:w5.cell? ⟨w.heap.size+1,1,none⟩=some (Value.int .i64 0):=by rw[cell_of_row _ _ _ _ _ _ HX5.out];rfl
   have e2:w5.cell? ⟨w.heap.size+1,2,none⟩=some (Value.int .i64 (T.num-1)):=by rw[cell_of_row _ _ _ _ _ _ HX5.out];rfl
   have e3:w5.cell? ⟨w.heap.size+1,3,none⟩=some (Value.slice none 0 0):=by rw[cell_of_row _ _ _ _ _ _ HX5.out];rfl
   have hm2:w5.cell? ⟨M,7,none⟩=some (.slice pA nA cA):=by rw[cell_of_row _ _ _ _ _ _ HW5.out.m,←HN.out];rfl
   have hK:∀b,(b=M∨b=w.heap.size+1)→b<w5.heap.size∧(Value.slice pA nA cA).ownBlock≠some b:=fun b hb=>by
    rw[←HN.out]
    rcases hb with rfl|rfl
    ·exact⟨HW5.out.lt,row_ne HW5.out.m HW5.out.a (by decide)⟩
    ·exact⟨(Array.getElem?_eq_some_iff.1 HX5.out).1,fun e=>by have:=HAlt.out _ e;omega⟩
   have HKs:=Hd (ap_ks (E:=66) (sz:=4) (row:=us++[Value.int .u8 2,Value.int .i64 0,Value.int .i64 (T.num-1),Value.slice none 0 0]) (K:=(fun b=>b=M∨b=w.heap.size+1)) hK)
   have E0:=fun x:Ks w5 (fun b=>b=M∨b=w.heap.size+1)=>x.cell (Or.inr rfl) e0
   have E1:=fun x:Ks w5 (fun b=>b=M∨b=w.heap.size+1)=>x.cell (Or.inr rfl) e1
   have E2:=fun x:Ks w5 (fun b=>b=M∨b=w.heap.size+1)=>x.cell (Or.inr rfl) e2
   have E3:=fun x:Ks w5 (fun b=>b=M∨b=w.heap.size+1)=>x.cell (Or.inr rfl) e3
   have M2:=fun x:Ks w5 (fun b=>b=M∨b=w.heap.size+1)=>x.cell (Or.inl rfl) hm2
   clear hown hcl e0 e1 e2 e3 hm2 hK
   refine RE.wp_region_eff (by kernel_rfl) 9 [7,8] [8] (stA 66 4 w5 pA nA cA (us++[Value.int .u8 2,Value.int .i64 0,Value.int .i64 (T.num-1),Value.slice none 0 0])) (ApR w5) (fun _ ys=>ys.getD 0 undef) (phA 66 4 w5 pA nA cA [Value.int .u8 2,Value.int .i64 0,Value.int .i64 (T.num-1),Value.slice none 0 0] (us++[Value.int .u8 2,Value.int .i64 0,Value.int .i64 (T.num-1),Value.slice none 0 0]) 7 8) (by kernel_rfl) (fun _ _ _ _ _ _ h hb=>h.below hb) (fun _ _ _ _ h _ hR=>h.keep hR) stA.zero ?_
   simp only[List.take_succ_cons,List.take_zero,List.drop_succ_cons,List.drop_zero]
   repeat (refine RE.wpE_read (fun W=>∃x:Ks w5 (fun b=>b=M∨b=w.heap.size+1),W=x.1) (HKs.out _) rfl rfl rfl stA.zero ?_;go_big_quiet_step (fail);refine wpQuiet_nil ?_)
   refine RE.wpE_turn rfl rfl ?_ (fun ys7=>?_)
   ·intro W hC hS hE
    obtain⟨s9,_,h9⟩:=hC
    exact upon_one elemAct (vs:=[Value.int .u8 2,Value.int .i64 0,Value.int .i64 (T.num-1),Value.slice none 0 0]) _ rfl rfl rfl h9.size (fun v W' hb ho=>⟨[v],rfl,hb,ApR.of_below hb,ho⟩)
   simp only[Act.put,List.setIfInBounds_toArray,List.set_cons_zero,List.set_cons_succ]
   refine RE.wpE_turn rfl rfl ?_ (fun ys8=>?_)
   ·intro W hC hS hE
    obtain⟨x,rfl⟩:∃x:Wb w5,W=x.1:=hS rfl
    exact upon_ap elemAct (p:=pA) (n:=nA) (c:=cA) (w4:=w5) (vs:=[Value.int .u8 2,Value.int .i64 0,Value.int .i64 (T.num-1),Value.slice none 0 0]) (xs:=us) _ _ rfl rfl (hE 7 ys7 (by kernel_rfl) rfl) rfl (by simp[Value.oneCell']) x.2 HOwn.out (by omega) (fun v' W' h1 h2 h3=>⟨[v'],rfl,h1,h2,h3⟩)
   simp only[Act.put,List.setIfInBounds_toArray,List.set_cons_zero,List.set_cons_succ]
   refine RE.wpE_nil ?_
   intro W hS hE
   have hS:ApS 66 4 w5 pA nA cA (us++[Value.int .u8 2,Value.int .i64 0,Value.int .i64 (T.num-1),Value.slice none 0 0]) W:=hS
   have hV:ApV 66 4 w5 pA nA cA (us++[Value.int .u8 2,Value.int .i64 0,Value.int .i64 (T.num-1),Value.slice none 0 0]) W (ys8.getD 0 undef):=hE 8 ys8 rfl
   obtain⟨g',cap,eg,hg,hC,hrow⟩:=ap_end hS hV
   rw[eg]
   have hC1:Chg (fun b=>(Value.slice pA acs.length cA).ownBlock=some b) w5 W:=by rw[HN.out];exact hC
   have hg1:(Value.slice pA acs.length cA).ownBlock=some g'∨w5.heap.size≤g':=by rw[HN.out];exact hg
   have hx4:(actRd d).at_ w5 (fun b=>F b∨Since2 w1 W2 b) ⟨2,0,T.num-1,[]⟩ [Value.int .u8 2,Value.int .i64 0,Value.int .i64 (T.num-1),Value.slice none 0 0]:=act_at.2 ⟨show U8 2 from ⟨by decide,by decide⟩,(show I64 0 from ⟨by decide,by decide⟩),⟨hsub1,hsub2⟩,.slice none 0 0,rfl,Rd.row_nil⟩
   obtain⟨hW6,hC6,hMb⟩:=HW5.out.pushA HN.out HCl.out hx4 hg1 hC1 hrow
   have hm2:W.cell? ⟨M,7,none⟩=some (.slice pA nA cA):=by rw[cell_of_row _ _ _ _ _ _ (hMb.trans HW5.out.m),←HN.out];rfl
   have hf2:=frozen_of (hMb.trans HW5.out.m) 7
   have HP:Hid (ActPost F d M ts rs vars nm sal nv cs acs vT vR vV vC (.slice pA acs.length cA) (.ok ⟨2,0,T.num-1,[]⟩) w (.returned (.tuple #[])) (W.setCell ⟨M,7,none⟩ (.slice (some ⟨g',0,none⟩) (nA+1) cap))):=by
    refine⟨chg_step (Chg.of_below HB5.out) hC6 (fun x hx=>Or.inl hx),rfl,(fun b=>F b∨Since2 w1 W2 b),_,hW6,fun b hb=>?_,fun _ h=>Or.inl h,fun b h=>h.imp id (fun h=>by have:=HS1.out;have:=h.1;omega)⟩
    injection hb with hb
    have hb:g'=b:=hb
    subst hb
    rcases hg1 with h|h
    ·exact Or.inl h
    ·have:=HB5.out.size;exact Or.inr (by omega)
   clear hS hV hE eg hg hC hrow hC1 hg1 hW6 hC6 hMb E0 E1 E2 E3 M2 HKs hx4
   go_wp2_with fail
   go_end0
   rw[HRes.out]
   exact HP.out
def okN:Except Flt Nat→Nat
 | .ok k=>k
 | .error _=>0
def actTyped (tr:Except Flt Nat) (r:Except Flt (List CExpr)):Except Flt CAct:=match tr with
 | .error e=>.error e
 | .ok k=>match r with
  | .error e=>.error e
  | .ok xs=>.ok ⟨1,k,0,xs⟩
theorem act_typed (F:Nat→Prop)(d M:Nat)(ts:List CType)(rs:List CRule)(vars:List ByteArray)(nm:ByteArray)(sal nv:Int)(cs:List CCond)(acs:List CAct)(vT vR vV vC vA:Value)(T:Tree)(p:Option Addr)(n c:Nat)(tr:Except Flt Nat)(r:Except Flt (List CExpr))(w:World)
  (hw:MkW F d M ts rs vars nm sal nv cs acs vT vR vV vC vA w) (hk:T.kind=8) (han:acs.length≤10000) (htr:∀k,tr=.ok k→k≤10000)
  (hty:∀W,Below w.heap.size w W→Calls Tryz.prog 58 #[.pointer (some ⟨M,0,none⟩),.agg #[.int .u8 8,.string T.text,.int .i64 T.num,.int .i64 T.place,.slice p n c]] W (ResPost tr natV W))
  (hex:∀W,Below w.heap.size w W→Calls Tryz.prog 61 #[.pointer (some ⟨M,0,none⟩),.slice p n c] W (ExprsOut d r W)) :
  Calls Tryz.prog 32 #[.pointer (some ⟨M,0,none⟩),.agg #[.int .u8 T.kind,.string T.text,.int .i64 T.num,.int .i64 T.place,.slice p n c]] w (ActPost F d M ts rs vars nm sal nv cs acs vT vR vV vC vA (actTyped tr r) w):=by
 rw[hk]
 obtain⟨pA,cA,hvA⟩:=hw.a.shape
 subst hvA
 obtain⟨nA,hnA⟩:∃nA,acs.length=nA:=⟨_,rfl⟩
 have HN:=Hd hnA
 rw[hnA] at han
 obtain⟨w1,hw1⟩:∃w1,w1=(w.alloc (.cells #[.int .u8 8,.string T.text,.int .i64 T.num,.int .i64 T.place,.slice p n c] 25)).alloc (.cells #[.int .u8 4,.int .i64 0,.int .i64 0,.slice none 0 0] 66):=⟨_,rfl⟩
 obtain⟨hx0,hx1,_⟩:=two_new' w (.cells #[.int .u8 8,.string T.text,.int .i64 T.num,.int .i64 T.place,.slice p n c] 25) (.cells #[.int .u8 4,.int .i64 0,.int .i64 0,.slice none 0 0] 66)
 have hb1:Below w.heap.size w w1:=by rw[hw1];exact ((Below.refl _ w).alloc (Nat.le_refl _) _).alloc (by simp) _
 rw[←hw1] at hx0 hx1
 have HAlt:=Hd (fun g hg=>hw.a.lt (g:=g) hg)
 have HOlt:=Hd (fun b hb=>hw.own_lt (b:=b) hb)
 have HX0:=Hd hx0
 have HX1:=Hd hx1
 have HB1:=Hd hb1
 have HW1:=Hd (hw.below hb1)
 have HS1:Hid (w.heap.size+2≤w1.heap.size):=by
  have h:=(Array.getElem?_eq_some_iff.1 HX1.out).1
  show _≤_
  omega
 have HFlt:=Hd (fun b (hb:F b)=>(hw.f b hb).1)
 have HTy:=Hd (fun (W:World) (h:Below w1.heap.size w1 W)=>hty W (hb1.trans (h.mono hb1.size)))
 have HEx:=Hd (fun (W:World) (h:Below w1.heap.size w1 W)=>hex W (hb1.trans (h.mono hb1.size)))
 obtain⟨e0,e1,e2,e3,e4⟩:=cells5 hx0
 obtain⟨kk,hkk⟩:∃kk:Nat,kk=okN tr:=⟨_,rfl⟩
 have HTr:Hid (∀k,tr=.ok k→kk=k):=fun k h=>by rw[hkk,h];rfl
 have hkb:kk≤10000:=by
  rw[hkk]
  cases tr with
  | ok k=>exact htr k rfl
  | error e=>exact Nat.zero_le _
 clear hx0 hx1 hb1 hw hk hnA hty hex hkk htr
 go_enter Tryz.func32,Tryz.ntmps32
 go_upto_region 4 with fail
 change Code.wp _ _ _ _ ((w.alloc (.cells #[.int .u8 8,.string T.text,.int .i64 T.num,.int .i64 T.place,.slice p n c] 25)).alloc (.cells #[.int .u8 4,.int .i64 0,.int .i64 0,.slice none 0 0] 66))
 rw[←hw1]
 clear hw1
 have E0:=fun x:Wb w1=>x.cell e0
 have E1:=fun x:Wb w1=>x.cell e1
 have E2:=fun x:Wb w1=>x.cell e2
 have E3:=fun x:Wb w1=>x.cell e3
 have E4:=fun x:Wb w1=>x.cell e4
 refine RP.wp_region_effP (by kernel_rfl) 7 [2,6] [] (fun _ W=>∃x:Wb w1,W=x.1) (fun W W'=>Below W.heap.size W W') (fun i ys=>if i=2 then natV kk else ys.getD 0 undef) (fun i W ys=>if i=2 then (∃k,tr=.ok k) else if i=6 then (∃es,r=.ok es∧NewRow w1 d es W (ys.getD 0 undef)) else True)
  (fun ch W=>Below w.heap.size w W∧∃er,actTyped tr r=.error er∧Ending.panicked ch=faultP er.1 er.2) ?_ (by kernel_rfl) (fun _ _ _ _ _ _ h hb=>wb_next h hb) (fun i W W' ys h _ hb=>by
   split at h
   ·rw[if_pos (by assumption)];exact h
   ·rw[if_neg (by assumption)]
    split at h
    ·rw[if_pos (by assumption)]
     obtain⟨es,h1,h2⟩:=h
     exact⟨es,h1,h2.below hb⟩
    ·rw[if_neg (by assumption)];trivial) ⟨⟨w1.drew,(Below.refl _ _).drew⟩,rfl⟩ ?_
 ·rintro a ch W hd ⟨hb,er,h1,h2⟩
  refine⟨hd,Chg.of_below hb,?_⟩
  rw[h1]
  exact h2
 simp only[List.take_succ_cons,List.take_zero,List.drop_succ_cons,List.drop_zero]
 repeat (refine RP.wpE_read (fun W=>∃x:Wb w1,W=x.1) (fun _ _ _ h=>h) rfl rfl rfl ⟨⟨w1.drew,(Below.refl _ _).drew⟩,rfl⟩ ?_;go_big_quiet_step (fail);refine wpQuiet_nil ?_)
 refine RP.wpE_turn rfl rfl ?_ (fun ys2=>?_)
 ·intro W hC _ hE
  obtain⟨s9,_,x,rfl⟩:=hC
  refine RP.uponP_call 58 _ _ rfl (enters_of Tryz.func58 (by kernel_rfl) rfl) #[.pointer (some ⟨M,0,none⟩),.agg #[.int .u8 8,.string T.text,.int .i64 T.num,.int .i64 T.place,.slice p n c]] (by simp[Act.eval]) ((HTy.out x.1 x.2).mono ?_)
  rintro e W' ⟨hb,he⟩
  cases htr:tr with
  | error er =>
   rw[htr] at he
   have he:e=faultP er.1 er.2:=he
   subst he
   exact Or.inr ⟨_,rfl,HB1.out.trans ((x.2.trans (hb.mono x.2.size)).mono HB1.out.size),er,rfl,rfl⟩
  | ok k =>
   rw[htr] at he
   have he:e=.returned (natV k):=he
   subst he
   exact Or.inl ⟨_,rfl,[],by show natV k=natV kk;rw[HTr.out k htr],hb,hb,k,rfl⟩
 simp only[Act.put,List.setIfInBounds_toArray,List.set_cons_zero,List.set_cons_succ,Nat.reduceAdd,↓reduceIte,natV]
 repeat (refine RP.wpE_read (fun W=>∃x:Wb w1,W=x.1) (fun _ _ _ h=>h) rfl rfl rfl ⟨⟨w1.drew,(Below.refl _ _).drew⟩,rfl⟩ ?_;go_big_quiet_step (fail);refine wpQuiet_nil ?_)
 refine RP.wpE_turn rfl rfl ?_ (fun ys6=>?_)
 ·intro W hC _ hE
  obtain⟨s9,_,x,rfl⟩:=hC
  have hok:∃k,tr=.ok k:=hE 2 ys2 (by kernel_rfl) rfl
  refine RP.uponP_call 61 _ _ rfl (enters_of Tryz.func61 (by kernel_rfl) rfl) #[.pointer (some ⟨M,0,none⟩),.slice p n c] (by simp[Act.eval]) ((HEx.out x.1 x.2).mono ?_)
  rintro e W' ⟨hb,he⟩
  obtain⟨k,hk⟩:=hok
  cases hr:r with
  | error er =>
   rw[hr] at he
   have he:e=faultP er.1 er.2:=he
   subst he
   exact Or.inr ⟨_,rfl,HB1.out.trans ((x.2.trans (hb.mono x.2.size)).mono HB1.out.size),er,by rw[hk];rfl,rfl⟩
  | ok es =>
   rw[hr] at he
   obtain⟨v,rfl,hrow,hge⟩:=he
   exact Or.inl ⟨_,rfl,[v],rfl,hb,hb,es,rfl,NewRow.of x.2.size hrow hge⟩
 simp only[Act.put,List.setIfInBounds_toArray,List.set_cons_zero,List.set_cons_succ,Nat.reduceAdd,Nat.reduceEqDiff,↓reduceIte]
 repeat (refine RP.wpE_read (fun W=>∃x:Wb w1,W=x.1) (fun _ _ _ h=>h) rfl rfl rfl ⟨⟨w1.drew,(Below.refl _ _).drew⟩,rfl⟩ ?_;go_big_quiet_step (fail);refine wpQuiet_nil ?_)
 refine RP.wpE_nil ?_
 intro W hS hE
 obtain⟨x,rfl⟩:=hS
 obtain⟨k,hk⟩:∃k,tr=.ok k:=hE 2 ys2 rfl
 obtain⟨xs,hxs,hrow⟩:∃es,r=.ok es∧NewRow w1 d es x.1 (ys6.getD 0 undef):=hE 6 ys6 rfl
 obtain⟨q,cq,hv⟩:=Rd.row_shape hrow
 obtain⟨nx,hnx⟩:∃nx,xs.length=nx:=⟨_,rfl⟩
 rw[hnx] at hv
 rw[hv]
 rw[hv] at hrow
 have HRes:Hid (actTyped tr r=.ok ⟨1,kk,0,xs⟩):=by show _=_;rw[hk,hxs,HTr.out k hk];rfl
 obtain⟨W2,hW2⟩:∃W2,W2=x.1:=⟨_,rfl⟩
 have hxb:=x.2
 rw[←hW2] at hrow hxb ⊢
 have HR2:Hid ((exprRd d).row W2 (Since2 w1 W2) xs (.slice q nx cq)):=hrow
 have HB2:=Hd (HB1.out.trans (hxb.mono HB1.out.size))
 have HX2:=Hd (heap_below hxb HX1.out (Array.getElem?_eq_some_iff.1 HX1.out).1)
 have HW2:=Hd (HW1.out.below hxb)
 clear hrow hE hv hxs hk E0 E1 E2 E3 E4 e0 e1 e2 e3 e4 hnx hxb hW2 x
 obtain⟨w5,hw5⟩:∃w5,w5=st4 W2 (w.heap.size+1) (Value.int .u8 1) (Value.int .i64 (kk:Int)) (Value.int .i64 0) (Value.slice q nx cq):=⟨_,rfl⟩
 have HX5:Hid (w5.heap[w.heap.size+1]? = some (.cells #[Value.int .u8 1,Value.int .i64 (kk:Int),Value.int .i64 0,Value.slice q nx cq] 66 (0,0))):=by show _=_;rw[hw5];exact st4_at HX2.out _ _ _ _
 have HB5:Hid (Below w.heap.size w w5):=by show Below _ _ _;rw[hw5];exact st4_below HB2.out (Nat.le_succ _) _ _ _ _
 have HW5:Hid (MkW (fun b=>F b∨Since2 w1 W2 b) d M ts rs vars nm sal nv cs acs vT vR vV vC (.slice pA acs.length cA) w5):=by
  show MkW _ _ _ _ _ _ _ _ _ _ _ _ _ _ _ _ _
  rw[hw5]
  refine mk_box HW2.out (fun _ h=>Or.inl h) (fun b hb=>?_) (fun ho=>by have:=HOlt.out _ ho;omega) _ _ _ _
  rcases hb with hb|hb
  ·exact⟨(HW2.out.f b hb).1,(HW2.out.f b hb).2,by have:=HFlt.out b hb;omega⟩
  ·have h1:=hb.1
   have h2:=HS1.out
   exact⟨hb.2,fun ho=>by have:=HOlt.out _ ho;omega,by omega⟩
 have HR5:Hid ((exprRd d).row w5 (fun b=>F b∨Since2 w1 W2 b) xs (.slice q nx cq)):=by
  show (exprRd d).row _ _ _ _
  rw[hw5]
  exact Rd.row_sub (fun _ h=>Or.inr h) (Rd.row_keep (fun b hb o ho=>(st4_other _ _ _ _ b (by have:=hb.1;have:=HS1.out;omega)).trans ho) HR2.out)
 obtain⟨e0,e1,e2,e3⟩:=cells4b HX2.out
 have f0:=frozen5 HX2.out
 go_upto_region 10 with fail
 change Code.wp _ _ _ _ (st4 W2 (w.heap.size+1) (Value.int .u8 1) (Value.int .i64 (kk:Int)) (Value.int .i64 0) (Value.slice q nx cq))
 rw[←hw5]
 clear hw5 e0 e1 e2 e3 f0
 obtain⟨us,hown,hcl⟩:=HW5.out.a
 rw[HN.out] at hown
 have HOwn:=Hd hown
 have HCl:=Hd hcl
 have e0:w5.cell? ⟨w.heap.size+1,0,none⟩=some (Value.int .u8 1):=by rw[cell_of_row _ _ _ _ _ _ HX5.out];rfl
 have e1:w5.cell? ⟨w.heap.size+1,1,none⟩=some (Value.int .i64 (kk:Int)):=by rw[cell_of_row _ _ _ _ _ _ HX5.out];rfl
 have e2:w5.cell? ⟨w.heap.size+1,2,none⟩=some (Value.int .i64 0):=by rw[cell_of_row _ _ _ _ _ _ HX5.out];rfl
 have e3:w5.cell? ⟨w.heap.size+1,3,none⟩=some (Value.slice q nx cq):=by rw[cell_of_row _ _ _ _ _ _ HX5.out];rfl
 have hm2:w5.cell? ⟨M,7,none⟩=some (.slice pA nA cA):=by rw[cell_of_row _ _ _ _ _ _ HW5.out.m,←HN.out];rfl
 have hK:∀b,(b=M∨b=w.heap.size+1)→b<w5.heap.size∧(Value.slice pA nA cA).ownBlock≠some b:=fun b hb=>by
  rw[←HN.out]
  rcases hb with rfl|rfl
  ·exact⟨HW5.out.lt,row_ne HW5.out.m HW5.out.a (by decide)⟩
  ·exact⟨(Array.getElem?_eq_some_iff.1 HX5.out).1,fun e=>by have:=HAlt.out _ e;omega⟩
 have HKs:=Hd (ap_ks (E:=66) (sz:=4) (row:=us++[Value.int .u8 1,Value.int .i64 (kk:Int),Value.int .i64 0,Value.slice q nx cq]) (K:=(fun b=>b=M∨b=w.heap.size+1)) hK)
 have E0:=fun x:Ks w5 (fun b=>b=M∨b=w.heap.size+1)=>x.cell (Or.inr rfl) e0
 have E1:=fun x:Ks w5 (fun b=>b=M∨b=w.heap.size+1)=>x.cell (Or.inr rfl) e1
 have E2:=fun x:Ks w5 (fun b=>b=M∨b=w.heap.size+1)=>x.cell (Or.inr rfl) e2
 have E3:=fun x:Ks w5 (fun b=>b=M∨b=w.heap.size+1)=>x.cell (Or.inr rfl) e3
 have M2:=fun x:Ks w5 (fun b=>b=M∨b=w.heap.size+1)=>x.cell (Or.inl rfl) hm2
 clear hown hcl e0 e1 e2 e3 hm2 hK
 refine RE.wp_region_eff (by kernel_rfl) 9 [7,8] [8] (stA 66 4 w5 pA nA cA (us++[Value.int .u8 1,Value.int .i64 (kk:Int),Value.int .i64 0,Value.slice q nx cq])) (ApR w5) (fun _ ys=>ys.getD 0 undef) (phA 66 4 w5 pA nA cA [Value.int .u8 1,Value.int .i64 (kk:Int),Value.int .i64 0,Value.slice q nx cq] (us++[Value.int .u8 1,Value.int .i64 (kk:Int),Value.int .i64 0,Value.slice q nx cq]) 7 8) (by kernel_rfl) (fun _ _ _ _ _ _ h hb=>h.below hb) (fun _ _ _ _ h _ hR=>h.keep hR) stA.zero ?_
 simp only[List.take_succ_cons,List.take_zero,List.drop_succ_cons,List.drop_zero]
 repeat (refine RE.wpE_read (fun W=>∃x:Ks w5 (fun b=>b=M∨b=w.heap.size+1),W=x.1) (HKs.out _) rfl rfl rfl stA.zero ?_;go_big_quiet_step (fail);refine wpQuiet_nil ?_)
 refine RE.wpE_turn rfl rfl ?_ (fun ys7=>?_)
 ·intro W hC hS hE
  obtain⟨s9,_,h9⟩:=hC
  exact upon_one elemAct (vs:=[Value.int .u8 1,Value.int .i64 (kk:Int),Value.int .i64 0,Value.slice q nx cq]) _ rfl rfl rfl h9.size (fun v W' hb ho=>⟨[v],rfl,hb,ApR.of_below hb,ho⟩)
 simp only[Act.put,List.setIfInBounds_toArray,List.set_cons_zero,List.set_cons_succ]
 refine RE.wpE_turn rfl rfl ?_ (fun ys8=>?_)
 ·intro W hC hS hE
  obtain⟨x,rfl⟩:∃x:Wb w5,W=x.1:=hS rfl
  exact upon_ap elemAct (p:=pA) (n:=nA) (c:=cA) (w4:=w5) (vs:=[Value.int .u8 1,Value.int .i64 (kk:Int),Value.int .i64 0,Value.slice q nx cq]) (xs:=us) _ _ rfl rfl (hE 7 ys7 (by kernel_rfl) rfl) rfl (by simp[Value.oneCell']) x.2 HOwn.out (by omega) (fun v' W' h1 h2 h3=>⟨[v'],rfl,h1,h2,h3⟩)
 simp only[Act.put,List.setIfInBounds_toArray,List.set_cons_zero,List.set_cons_succ]
 refine RE.wpE_nil ?_
 intro W hS hE
 have hS:ApS 66 4 w5 pA nA cA (us++[Value.int .u8 1,Value.int .i64 (kk:Int),Value.int .i64 0,Value.slice q nx cq]) W:=hS
 have hV:ApV 66 4 w5 pA nA cA (us++[Value.int .u8 1,Value.int .i64 (kk:Int),Value.int .i64 0,Value.slice q nx cq]) W (ys8.getD 0 undef):=hE 8 ys8 rfl
 obtain⟨g',cap,eg,hg,hC,hrow⟩:=ap_end hS hV
 rw[eg]
 have hC1:Chg (fun b=>(Value.slice pA acs.length cA).ownBlock=some b) w5 W:=by rw[HN.out];exact hC
 have hg1:(Value.slice pA acs.length cA).ownBlock=some g'∨w5.heap.size≤g':=by rw[HN.out];exact hg
 have hx4:(actRd d).at_ w5 (fun b=>F b∨Since2 w1 W2 b) ⟨1,(kk:Int),0,xs⟩ [Value.int .u8 1,Value.int .i64 (kk:Int),Value.int .i64 0,Value.slice q nx cq]:=act_at.2 ⟨show U8 1 from ⟨by decide,by decide⟩,⟨by show (-9223372036854775808:Int)≤(kk:Int);omega,by show (kk:Int)<9223372036854775808;omega⟩,(show I64 0 from ⟨by decide,by decide⟩),.slice q nx cq,rfl,HR5.out⟩
 obtain⟨hW6,hC6,hMb⟩:=HW5.out.pushA HN.out HCl.out hx4 hg1 hC1 hrow
 have hm2:W.cell? ⟨M,7,none⟩=some (.slice pA nA cA):=by rw[cell_of_row _ _ _ _ _ _ (hMb.trans HW5.out.m),←HN.out];rfl
 have hf2:=frozen_of (hMb.trans HW5.out.m) 7
 have HP:Hid (ActPost F d M ts rs vars nm sal nv cs acs vT vR vV vC (.slice pA acs.length cA) (.ok ⟨1,(kk:Int),0,xs⟩) w (.returned (.tuple #[])) (W.setCell ⟨M,7,none⟩ (.slice (some ⟨g',0,none⟩) (nA+1) cap))):=by
  refine⟨chg_step (Chg.of_below HB5.out) hC6 (fun x hx=>Or.inl hx),rfl,(fun b=>F b∨Since2 w1 W2 b),_,hW6,fun b hb=>?_,fun _ h=>Or.inl h,fun b h=>h.imp id (fun h=>by have:=HS1.out;have:=h.1;omega)⟩
  injection hb with hb
  have hb:g'=b:=hb
  subst hb
  rcases hg1 with h|h
  ·exact Or.inl h
  ·have:=HB5.out.size;exact Or.inr (by omega)
 clear hS hV hE eg hg hC hrow hC1 hg1 hW6 hC6 hMb E0 E1 E2 E3 M2 HKs hx4
 go_wp2_with fail
 go_end0
 rw[HRes.out]
 exact HP.out
theorem elemCond:Elem 60 43 10 120:=Elem.of (z:=.agg #[.int .u8 0,.int .i64 0,.slice none 0 0,.int .u8 0,.int .u8 0,.int .i64 0,.string ByteArray.empty,.int .i64 0,.int .u8 0,.slice none 0 0]) Tryz.underlying43 (by kernel_rfl) (by kernel_rfl) (by decide) (by decide)
def CondPost (F:Nat→Prop) (d M:Nat) (ts:List CType) (rs:List CRule) (nm:ByteArray) (sal nv:Int) (cs:List CCond) (acs:List CAct) (vT vR vV vC vA:Value) (r:Except Flt (List ByteArray×CCond)) (w:World) (e:Ending) (w':World):Prop:=
 Chg (Own8 M [vT,vR,vV,vC,vA]) w w'∧match r with
 | .ok x=>e=.returned (.bool true)∧∃(F':Nat→Prop) (vV' vC':Value),MkW F' d M ts rs x.1 nm sal nv (cs++[x.2]) acs vT vR vV' vC' vA w'∧Grew vV vV' w.heap.size∧Grew vC vC' w.heap.size∧(∀b,F b→F' b)∧∀b,F' b→F b∨w.heap.size≤b
 | .error er=>e=faultP er.1 er.2
def st10 (W:World) (g:Nat) (x0 x1 x2 x3 x4 x5 x6 x7 x8 x9:Value):World:=(((((((((W.setCell ⟨g,0,none⟩ x0).setCell ⟨g,1,none⟩ x1).setCell ⟨g,2,none⟩ x2).setCell ⟨g,3,none⟩ x3).setCell ⟨g,4,none⟩ x4).setCell ⟨g,5,none⟩ x5).setCell ⟨g,6,none⟩ x6).setCell ⟨g,7,none⟩ x7).setCell ⟨g,8,none⟩ x8).setCell ⟨g,9,none⟩ x9
section
variable {W w:World} {g B:Nat} (x0 x1 x2 x3 x4 x5 x6 x7 x8 x9:Value)
theorem st10_at {y0 y1 y2 y3 y4 y5 y6 y7 y8 y9:Value}{t:TypeId}(h:W.heap[g]? = some (.cells #[y0,y1,y2,y3,y4,y5,y6,y7,y8,y9] t (0,0))):(st10 W g x0 x1 x2 x3 x4 x5 x6 x7 x8 x9).heap[g]? = some (.cells #[x0,x1,x2,x3,x4,x5,x6,x7,x8,x9] t (0,0)):=by
 have h0:(W.setCell ⟨g,0,none⟩ x0).heap[g]? = some (.cells #[x0,y1,y2,y3,y4,y5,y6,y7,y8,y9] t (0,0)):=heap_set h 0 x0
 have h1:((W.setCell ⟨g,0,none⟩ x0).setCell ⟨g,1,none⟩ x1).heap[g]? = some (.cells #[x0,x1,y2,y3,y4,y5,y6,y7,y8,y9] t (0,0)):=heap_set h0 1 x1
 have h2:(((W.setCell ⟨g,0,none⟩ x0).setCell ⟨g,1,none⟩ x1).setCell ⟨g,2,none⟩ x2).heap[g]? = some (.cells #[x0,x1,x2,y3,y4,y5,y6,y7,y8,y9] t (0,0)):=heap_set h1 2 x2
 have h3:((((W.setCell ⟨g,0,none⟩ x0).setCell ⟨g,1,none⟩ x1).setCell ⟨g,2,none⟩ x2).setCell ⟨g,3,none⟩ x3).heap[g]? = some (.cells #[x0,x1,x2,x3,y4,y5,y6,y7,y8,y9] t (0,0)):=heap_set h2 3 x3
 have h4:(((((W.setCell ⟨g,0,none⟩ x0).setCell ⟨g,1,none⟩ x1).setCell ⟨g,2,none⟩ x2).setCell ⟨g,3,none⟩ x3).setCell ⟨g,4,none⟩ x4).heap[g]? = some (.cells #[x0,x1,x2,x3,x4,y5,y6,y7,y8,y9] t (0,0)):=heap_set h3 4 x4
 have h5:((((((W.setCell ⟨g,0,none⟩ x0).setCell ⟨g,1,none⟩ x1).setCell ⟨g,2,none⟩ x2).setCell ⟨g,3,none⟩ x3).setCell ⟨g,4,none⟩ x4).setCell ⟨g,5,none⟩ x5).heap[g]? = some (.cells #[x0,x1,x2,x3,x4,x5,y6,y7,y8,y9] t (0,0)):=heap_set h4 5 x5
 have h6:(((((((W.setCell ⟨g,0,none⟩ x0).setCell ⟨g,1,none⟩ x1).setCell ⟨g,2,none⟩ x2).setCell ⟨g,3,none⟩ x3).setCell ⟨g,4,none⟩ x4).setCell ⟨g,5,none⟩ x5).setCell ⟨g,6,none⟩ x6).heap[g]? = some (.cells #[x0,x1,x2,x3,x4,x5,x6,y7,y8,y9] t (0,0)):=heap_set h5 6 x6
 have h7:((((((((W.setCell ⟨g,0,none⟩ x0).setCell ⟨g,1,none⟩ x1).setCell ⟨g,2,none⟩ x2).setCell ⟨g,3,none⟩ x3).setCell ⟨g,4,none⟩ x4).setCell ⟨g,5,none⟩ x5).setCell ⟨g,6,none⟩ x6).setCell ⟨g,7,none⟩ x7).heap[g]? = some (.cells #[x0,x1,x2,x3,x4,x5,x6,x7,y8,y9] t (0,0)):=heap_set h6 7 x7
 have h8:(((((((((W.setCell ⟨g,0,none⟩ x0).setCell ⟨g,1,none⟩ x1).setCell ⟨g,2,none⟩ x2).setCell ⟨g,3,none⟩ x3).setCell ⟨g,4,none⟩ x4).setCell ⟨g,5,none⟩ x5).setCell ⟨g,6,none⟩ x6).setCell ⟨g,7,none⟩ x7).setCell ⟨g,8,none⟩ x8).heap[g]? = some (.cells #[x0,x1,x2,x3,x4,x5,x6,x7,x8,y9] t (0,0)):=heap_set h7 8 x8
 have h9:((((((((((W.setCell ⟨g,0,none⟩ x0).setCell ⟨g,1,none⟩ x1).setCell ⟨g,2,none⟩ x2).setCell ⟨g,3,none⟩ x3).setCell ⟨g,4,none⟩ x4).setCell ⟨g,5,none⟩ x5).setCell ⟨g,6,none⟩ x6).setCell ⟨g,7,none⟩ x7).setCell ⟨g,8,none⟩ x8).setCell ⟨g,9,none⟩ x9).heap[g]? = some (.cells #[x0,x1,x2,x3,x4,x5,x6,x7,x8,x9] t (0,0)):=heap_set h8 9 x9
 exact h9
theorem st10_below (hb:Below B w W)(hg:B≤g):Below B w (st10 W g x0 x1 x2 x3 x4 x5 x6 x7 x8 x9):=
 (((((((((hb.setCell hg x0).setCell hg x1).setCell hg x2).setCell hg x3).setCell hg x4).setCell hg x5).setCell hg x6).setCell hg x7).setCell hg x8).setCell hg x9
theorem st10_other (k:Nat)(h:k≠g):(st10 W g x0 x1 x2 x3 x4 x5 x6 x7 x8 x9).heap[k]? = W.heap[k]?:=by
 have hh:∀(V:World) (i:Nat) (u:Value),(V.setCell ⟨g,i,none⟩ u).heap[k]? = V.heap[k]?:=fun V i u=>Below.heap_setCell V ⟨g,i,none⟩ u k h
 unfold st10
 rw[hh,hh,hh,hh,hh,hh,hh,hh,hh,hh]
theorem st10_size:(st10 W g x0 x1 x2 x3 x4 x5 x6 x7 x8 x9).heap.size=W.heap.size:=by simp[st10,World.setCell]
end
theorem cells10 {w:World}{T:Nat}{a b c d e f g h i j:Value}{t:TypeId}(hT:w.heap[T]? = some (.cells #[a,b,c,d,e,f,g,h,i,j] t (0,0))):w.cell? ⟨T,0,none⟩=some a∧w.cell? ⟨T,1,none⟩=some b∧w.cell? ⟨T,2,none⟩=some c∧w.cell? ⟨T,3,none⟩=some d∧w.cell? ⟨T,4,none⟩=some e∧w.cell? ⟨T,5,none⟩=some f∧w.cell? ⟨T,6,none⟩=some g∧w.cell? ⟨T,7,none⟩=some h∧w.cell? ⟨T,8,none⟩=some i∧w.cell? ⟨T,9,none⟩=some j:=by
 simp[World.cell?,hT]
theorem frozenAll {w:World}{T:Nat}{cs:Array Value}{t:TypeId}(hT:w.heap[T]? = some (.cells cs t (0,0))):∀i:Nat,w.frozen? ⟨T,i,none⟩=false:=fun i=>frozen_of hT i
theorem cond_none (F:Nat→Prop)(d M:Nat)(ts:List CType)(rs:List CRule)(vars:List ByteArray)(nm:ByteArray)(sal nv:Int)(cs:List CCond)(acs:List CAct)(vT vR vV vC vA:Value)(T:Tree)(p:Option Addr)(n c:Nat)(w:World)
  (hw:MkW F d M ts rs vars nm sal nv cs acs vT vR vV vC vA w) (hk:T.kind≠5∧T.kind≠6∧T.kind≠7) :
  Calls Tryz.prog 31 #[.pointer (some ⟨M,0,none⟩),.agg #[.int .u8 T.kind,.string T.text,.int .i64 T.num,.int .i64 T.place,.slice p n c]] w (fun e w'=>e=.returned (.bool false)∧Below w.heap.size w w'∧MkW F d M ts rs vars nm sal nv cs acs vT vR vV vC vA w'):=by
 have k5:¬((T.kind:Int)=5):=by have:=hk.1;omega
 have k6:¬((T.kind:Int)=6):=by have:=hk.2.1;omega
 have k7:¬((T.kind:Int)=7):=by have:=hk.2.2;omega
 have hb1:Below w.heap.size w ((w.alloc (.cells #[.int .u8 T.kind,.string T.text,.int .i64 T.num,.int .i64 T.place,.slice p n c] 25)).alloc (.cells #[.int .u8 0,.int .i64 0,.slice none 0 0,.int .u8 0,.int .u8 0,.int .i64 0,.string ⟨#[]⟩,.int .i64 0,.int .u8 0,.slice none 0 0] 60)):=((Below.refl _ w).alloc (Nat.le_refl _) _).alloc (by simp) _
 have HB1:=Hd hb1
 have HW1:=Hd (hw.below hb1)
 clear hb1 hw hk
 go_enter Tryz.func31,Tryz.ntmps31
 go_wp2_with fail
 go_ret
 exact⟨rfl,HB1.out,HW1.out⟩
theorem ekids_sub {w:World}{F G:Nat→Prop}{d:Nat}{ks:List CExpr}{s:Value}(hs:∀b,F b→G b)(h:ekidsAt w F d ks s):ekidsAt w G d ks s:=by
 cases d with
 | zero=>exact h
 | succ d=>exact Rd.row_sub hs h
theorem ekids_keep {w w':World}{F:Nat→Prop}{d:Nat}{ks:List CExpr}{s:Value}(hk:∀b,F b→∀o,w.heap[b]? = some o→w'.heap[b]? = some o)(h:ekidsAt w F d ks s):ekidsAt w' F d ks s:=by
 cases d with
 | zero=>exact h
 | succ d=>exact Rd.row_keep hk h
def condTest (vars:List ByteArray) (r:Except Flt CExpr):Except Flt (List ByteArray×CCond):=match r with
 | .error e=>.error e
 | .ok x=>.ok (vars,⟨3,0,[],x⟩)
theorem cond_test (F:Nat→Prop)(d M:Nat)(ts:List CType)(rs:List CRule)(vars:List ByteArray)(nm:ByteArray)(sal nv:Int)(cs:List CCond)(acs:List CAct)(vT vR vV vC vA:Value)(T K:Tree)(b off c:Nat)(s:Value)(r:Except Flt CExpr)(n:Nat)(w:World)
  (hw:MkW F d M ts rs vars nm sal nv cs acs vT vR vV vC vA w) (hk:T.kind=7) (hcn:cs.length≤10000) (hn:0<n)
  (c0:w.cell? ⟨b,off,none⟩=some (.int .u8 K.kind)) (c1:w.cell? ⟨b,off+1,none⟩=some (.string K.text)) (c2:w.cell? ⟨b,off+2,none⟩=some (.int .i64 K.num)) (c3:w.cell? ⟨b,off+3,none⟩=some (.int .i64 K.place)) (c4:w.cell? ⟨b,off+4,none⟩=some s)
  (hex:∀W,Below w.heap.size w W→Calls Tryz.prog 60 #[.pointer (some ⟨M,0,none⟩),.agg #[.int .u8 K.kind,.string K.text,.int .i64 K.num,.int .i64 K.place,s]] W (ExprOut d r W)) :
  Calls Tryz.prog 31 #[.pointer (some ⟨M,0,none⟩),.agg #[.int .u8 T.kind,.string T.text,.int .i64 T.num,.int .i64 T.place,.slice (some ⟨b,off,none⟩) n c]] w (CondPost F d M ts rs nm sal nv cs acs vT vR vV vC vA (condTest vars r) w):=by
 rw[hk]
 obtain⟨pC,cC,hvC⟩:=hw.c.shape
 subst hvC
 obtain⟨nC,hnC⟩:∃nC,cs.length=nC:=⟨_,rfl⟩
 have HN:=Hd hnC
 rw[hnC] at hcn
 obtain⟨w1,hw1⟩:∃w1,w1=(w.alloc (.cells #[.int .u8 7,.string T.text,.int .i64 T.num,.int .i64 T.place,.slice (some ⟨b,off,none⟩) n c] 25)).alloc (.cells #[.int .u8 0,.int .i64 0,.slice none 0 0,.int .u8 0,.int .u8 0,.int .i64 0,.string ⟨#[]⟩,.int .i64 0,.int .u8 0,.slice none 0 0] 60):=⟨_,rfl⟩
 obtain⟨hx0,hx1,_⟩:=two_new' w (.cells #[.int .u8 7,.string T.text,.int .i64 T.num,.int .i64 T.place,.slice (some ⟨b,off,none⟩) n c] 25) (.cells #[.int .u8 0,.int .i64 0,.slice none 0 0,.int .u8 0,.int .u8 0,.int .i64 0,.string ⟨#[]⟩,.int .i64 0,.int .u8 0,.slice none 0 0] 60)
 have hb1:Below w.heap.size w w1:=by rw[hw1];exact ((Below.refl _ w).alloc (Nat.le_refl _) _).alloc (by simp) _
 rw[←hw1] at hx0 hx1
 have HClt:=Hd (fun g hg=>hw.c.lt (g:=g) hg)
 have HOlt:=Hd (fun b hb=>hw.own_lt (b:=b) hb)
 have HFlt:=Hd (fun b (hb:F b)=>(hw.f b hb).1)
 have HX0:=Hd hx0
 have HX1:=Hd hx1
 have HB1:=Hd hb1
 have HW1:=Hd (hw.below hb1)
 have HS1:Hid (w.heap.size+2≤w1.heap.size):=by
  have h:=(Array.getElem?_eq_some_iff.1 HX1.out).1
  show _≤_
  omega
 have HC:=Hd (hex w1 hb1)
 obtain⟨e0,e1,e2,e3,e4⟩:=cells5 hx0
 have d0:=(hb1.cell (p:=⟨b,off,none⟩) (blk_lt c0)).trans c0
 have d1:=(hb1.cell (p:=⟨b,off+1,none⟩) (blk_lt c1)).trans c1
 have d2:=(hb1.cell (p:=⟨b,off+2,none⟩) (blk_lt c2)).trans c2
 have d3:=(hb1.cell (p:=⟨b,off+3,none⟩) (blk_lt c3)).trans c3
 have d4:=(hb1.cell (p:=⟨b,off+4,none⟩) (blk_lt c4)).trans c4
 have hn0:(0:Int)<n:=by omega
 clear hx0 hx1 hb1 hw hk hex hnC c0 c1 c2 c3 c4
 go_enter Tryz.func31,Tryz.ntmps31
 go_upto_region 16 with fail
 change Code.wp _ _ _ _ ((w.alloc (.cells #[.int .u8 7,.string T.text,.int .i64 T.num,.int .i64 T.place,.slice (some ⟨b,off,none⟩) n c] 25)).alloc (.cells #[.int .u8 0,.int .i64 0,.slice none 0 0,.int .u8 0,.int .u8 0,.int .i64 0,.string ⟨#[]⟩,.int .i64 0,.int .u8 0,.slice none 0 0] 60))
 rw[←hw1]
 clear hw1
 go_wp2_with fail
 refine HC.out.mono ?_
 rintro e W2 ⟨hb2,he⟩
 have HB2:=Hd (HB1.out.trans (hb2.mono HB1.out.size))
 have HX2:=Hd (heap_below hb2 HX1.out (Array.getElem?_eq_some_iff.1 HX1.out).1)
 have HW2:=Hd (HW1.out.below hb2)
 clear e0 e1 e2 e3 e4 d0 d1 d2 d3 d4 hb2
 cases r with
 | error er =>
  have he:e=faultP er.1 er.2:=he
  subst he
  exact⟨rfl,Chg.of_below HB2.out,rfl⟩
 | ok E =>
 obtain⟨v,rfl,hfit,hks⟩:=he
 obtain⟨q,cq,hv⟩:=ekids_shape hks
 obtain⟨nq,hnq⟩:∃nq,E.kids.length=nq:=⟨_,rfl⟩
 rw[hnq] at hv
 subst hv
 have HFit:=Hd hfit
 have HRes:Hid (condTest vars (.ok E)=.ok (vars,⟨3,0,[],E⟩)):=rfl
 obtain⟨w5,hw5⟩:∃w5,w5=st10 W2 (w.heap.size+1) (Value.int .u8 3) (Value.int .i64 0) (Value.slice none 0 0) (Value.int .u8 E.kind) (Value.int .u8 E.val.kind) (Value.int .i64 E.val.num) (Value.string E.val.text) (Value.int .i64 E.var) (Value.int .u8 E.op) (Value.slice q nq cq):=⟨_,rfl⟩
 have HX5:Hid (w5.heap[w.heap.size+1]? = some (.cells #[Value.int .u8 3,Value.int .i64 0,Value.slice none 0 0,Value.int .u8 E.kind,Value.int .u8 E.val.kind,Value.int .i64 E.val.num,Value.string E.val.text,Value.int .i64 E.var,Value.int .u8 E.op,Value.slice q nq cq] 60 (0,0))):=by show _=_;rw[hw5];exact st10_at _ _ _ _ _ _ _ _ _ _ HX2.out
 have HB5:Hid (Below w.heap.size w w5):=by show Below _ _ _;rw[hw5];exact st10_below _ _ _ _ _ _ _ _ _ _ HB2.out (Nat.le_succ _)
 have HS5:Hid (w.heap.size≤w5.heap.size):=HB5.out.size
 have HK5:Hid (ekidsAt w5 (fun b=>F b∨Since2 w1 W2 b) d E.kids (.slice q nq cq)):=by
  show ekidsAt _ _ _ _ _
  rw[hw5]
  exact ekids_sub (fun _ h=>Or.inr h) (ekids_keep (fun b hb o ho=>(st10_other _ _ _ _ _ _ _ _ _ _ b (by have:=hb.1;have:=HS1.out;omega)).trans ho) hks)
 have HW5:Hid (MkW (fun b=>F b∨Since2 w1 W2 b) d M ts rs vars nm sal nv cs acs vT vR vV (.slice pC cs.length cC) vA w5):=by
  show MkW _ _ _ _ _ _ _ _ _ _ _ _ _ _ _ _ _
  rw[hw5]
  refine (HW2.out.grow (F':=(fun b=>F b∨Since2 w1 W2 b)) (fun _ h=>Or.inl h) (fun b hb=>?_)).upd (by rw[st10_size];exact Nat.le_refl _) (fun x hx=>st10_other _ _ _ _ _ _ _ _ _ _ x ?_)
  ·rcases hb with hb|hb
   ·exact HW2.out.f b hb
   ·have h1:=hb.1
    have h2:=HS1.out
    exact⟨hb.2,fun ho=>by have:=HOlt.out _ ho;omega⟩
  ·rcases hx with (hx|hx)|hx
   ·have:=HFlt.out x hx;omega
   ·have h1:=hx.1;have h2:=HS1.out;omega
   ·have:=HOlt.out _ hx;omega
 obtain⟨e0,e1,e2,e3,e4,e5,e6,e7,e8,e9⟩:=cells10 HX2.out
 have f0:=frozenAll HX2.out
 clear hfit hks hnq
 go_upto_region 17 with fail
 change Code.wp _ _ _ _ (st10 W2 (w.heap.size+1) (Value.int .u8 3) (Value.int .i64 0) (Value.slice none 0 0) (Value.int .u8 E.kind) (Value.int .u8 E.val.kind) (Value.int .i64 E.val.num) (Value.string E.val.text) (Value.int .i64 E.var) (Value.int .u8 E.op) (Value.slice q nq cq))
 rw[←hw5]
 clear hw5 e0 e1 e2 e3 e4 e5 e6 e7 e8 e9 f0
 obtain⟨us,hown,hcl⟩:=HW5.out.c
 rw[HN.out,condRd_n] at hown
 have HOwn:=Hd hown
 have HCl:=Hd hcl
 have e0:w5.cell? ⟨w.heap.size+1,0,none⟩=some (Value.int .u8 3):=by rw[cell_of_row _ _ _ _ _ _ HX5.out];rfl
 have e1:w5.cell? ⟨w.heap.size+1,1,none⟩=some (Value.int .i64 0):=by rw[cell_of_row _ _ _ _ _ _ HX5.out];rfl
 have e2:w5.cell? ⟨w.heap.size+1,2,none⟩=some (Value.slice none 0 0):=by rw[cell_of_row _ _ _ _ _ _ HX5.out];rfl
 have e3:w5.cell? ⟨w.heap.size+1,3,none⟩=some (Value.int .u8 E.kind):=by rw[cell_of_row _ _ _ _ _ _ HX5.out];rfl
 have e4:w5.cell? ⟨w.heap.size+1,4,none⟩=some (Value.int .u8 E.val.kind):=by rw[cell_of_row _ _ _ _ _ _ HX5.out];rfl
 have e5:w5.cell? ⟨w.heap.size+1,5,none⟩=some (Value.int .i64 E.val.num):=by rw[cell_of_row _ _ _ _ _ _ HX5.out];rfl
 have e6:w5.cell? ⟨w.heap.size+1,6,none⟩=some (Value.string E.val.text):=by rw[cell_of_row _ _ _ _ _ _ HX5.out];rfl
 have e7:w5.cell? ⟨w.heap.size+1,7,none⟩=some (Value.int .i64 E.var):=by rw[cell_of_row _ _ _ _ _ _ HX5.out];rfl
 have e8:w5.cell? ⟨w.heap.size+1,8,none⟩=some (Value.int .u8 E.op):=by rw[cell_of_row _ _ _ _ _ _ HX5.out];rfl
 have e9:w5.cell? ⟨w.heap.size+1,9,none⟩=some (Value.slice q nq cq):=by rw[cell_of_row _ _ _ _ _ _ HX5.out];rfl
 have hm2:w5.cell? ⟨M,6,none⟩=some (.slice pC nC cC):=by rw[cell_of_row _ _ _ _ _ _ HW5.out.m,←HN.out];rfl
 have hK:∀b,(b=M∨b=w.heap.size+1)→b<w5.heap.size∧(Value.slice pC nC cC).ownBlock≠some b:=fun b hb=>by
  rw[←HN.out]
  rcases hb with rfl|rfl
  ·exact⟨HW5.out.lt,row_ne HW5.out.m HW5.out.c (by decide)⟩
  ·exact⟨(Array.getElem?_eq_some_iff.1 HX5.out).1,fun e=>by have:=HClt.out _ e;omega⟩
 have HKs:=Hd (ap_ks (E:=60) (sz:=10) (row:=us++[Value.int .u8 3,Value.int .i64 0,Value.slice none 0 0,Value.int .u8 E.kind,Value.int .u8 E.val.kind,Value.int .i64 E.val.num,Value.string E.val.text,Value.int .i64 E.var,Value.int .u8 E.op,Value.slice q nq cq]) (K:=(fun b=>b=M∨b=w.heap.size+1)) hK)
 have E0:=fun x:Ks w5 (fun b=>b=M∨b=w.heap.size+1)=>x.cell (Or.inr rfl) e0
 have E1:=fun x:Ks w5 (fun b=>b=M∨b=w.heap.size+1)=>x.cell (Or.inr rfl) e1
 have E2:=fun x:Ks w5 (fun b=>b=M∨b=w.heap.size+1)=>x.cell (Or.inr rfl) e2
 have E3:=fun x:Ks w5 (fun b=>b=M∨b=w.heap.size+1)=>x.cell (Or.inr rfl) e3
 have E4:=fun x:Ks w5 (fun b=>b=M∨b=w.heap.size+1)=>x.cell (Or.inr rfl) e4
 have E5:=fun x:Ks w5 (fun b=>b=M∨b=w.heap.size+1)=>x.cell (Or.inr rfl) e5
 have E6:=fun x:Ks w5 (fun b=>b=M∨b=w.heap.size+1)=>x.cell (Or.inr rfl) e6
 have E7:=fun x:Ks w5 (fun b=>b=M∨b=w.heap.size+1)=>x.cell (Or.inr rfl) e7
 have E8:=fun x:Ks w5 (fun b=>b=M∨b=w.heap.size+1)=>x.cell (Or.inr rfl) e8
 have E9:=fun x:Ks w5 (fun b=>b=M∨b=w.heap.size+1)=>x.cell (Or.inr rfl) e9
 have M2:=fun x:Ks w5 (fun b=>b=M∨b=w.heap.size+1)=>x.cell (Or.inl rfl) hm2
 clear hown hcl e0 e1 e2 e3 e4 e5 e6 e7 e8 e9 hm2 hK
 refine RE.wp_region_eff (by kernel_rfl) 9 [7,8] [8] (stA 60 10 w5 pC nC cC (us++[Value.int .u8 3,Value.int .i64 0,Value.slice none 0 0,Value.int .u8 E.kind,Value.int .u8 E.val.kind,Value.int .i64 E.val.num,Value.string E.val.text,Value.int .i64 E.var,Value.int .u8 E.op,Value.slice q nq cq])) (ApR w5) (fun _ ys=>ys.getD 0 undef) (phA 60 10 w5 pC nC cC [Value.int .u8 3,Value.int .i64 0,Value.slice none 0 0,Value.int .u8 E.kind,Value.int .u8 E.val.kind,Value.int .i64 E.val.num,Value.string E.val.text,Value.int .i64 E.var,Value.int .u8 E.op,Value.slice q nq cq] (us++[Value.int .u8 3,Value.int .i64 0,Value.slice none 0 0,Value.int .u8 E.kind,Value.int .u8 E.val.kind,Value.int .i64 E.val.num,Value.string E.val.text,Value.int .i64 E.var,Value.int .u8 E.op,Value.slice q nq cq]) 7 8) (by kernel_rfl) (fun _ _ _ _ _ _ h hb=>h.below hb) (fun _ _ _ _ h _ hR=>h.keep hR) stA.zero ?_
 simp only[List.take_succ_cons,List.take_zero,List.drop_succ_cons,List.drop_zero]
 repeat (refine RE.wpE_read (fun W=>∃x:Ks w5 (fun b=>b=M∨b=w.heap.size+1),W=x.1) (HKs.out _) rfl rfl rfl stA.zero ?_;go_big_quiet_step (fail);refine wpQuiet_nil ?_)
 refine RE.wpE_turn rfl rfl ?_ (fun ys7=>?_)
 ·intro W hC hS hE
  obtain⟨s9,_,h9⟩:=hC
  exact upon_one elemCond (vs:=[Value.int .u8 3,Value.int .i64 0,Value.slice none 0 0,Value.int .u8 E.kind,Value.int .u8 E.val.kind,Value.int .i64 E.val.num,Value.string E.val.text,Value.int .i64 E.var,Value.int .u8 E.op,Value.slice q nq cq]) _ rfl rfl rfl h9.size (fun v W' hb ho=>⟨[v],rfl,hb,ApR.of_below hb,ho⟩)
 simp only[Act.put,List.setIfInBounds_toArray,List.set_cons_zero,List.set_cons_succ]
 refine RE.wpE_turn rfl rfl ?_ (fun ys8=>?_)
 ·intro W hC hS hE
  obtain⟨x,rfl⟩:∃x:Wb w5,W=x.1:=hS rfl
  exact upon_ap elemCond (p:=pC) (n:=nC) (c:=cC) (w4:=w5) (vs:=[Value.int .u8 3,Value.int .i64 0,Value.slice none 0 0,Value.int .u8 E.kind,Value.int .u8 E.val.kind,Value.int .i64 E.val.num,Value.string E.val.text,Value.int .i64 E.var,Value.int .u8 E.op,Value.slice q nq cq]) (xs:=us) _ _ rfl rfl (hE 7 ys7 (by kernel_rfl) rfl) rfl (by simp[Value.oneCell']) x.2 HOwn.out (by omega) (fun v' W' h1 h2 h3=>⟨[v'],rfl,h1,h2,h3⟩)
 simp only[Act.put,List.setIfInBounds_toArray,List.set_cons_zero,List.set_cons_succ]
 refine RE.wpE_nil ?_
 intro W hS hE
 have hS:ApS 60 10 w5 pC nC cC (us++[Value.int .u8 3,Value.int .i64 0,Value.slice none 0 0,Value.int .u8 E.kind,Value.int .u8 E.val.kind,Value.int .i64 E.val.num,Value.string E.val.text,Value.int .i64 E.var,Value.int .u8 E.op,Value.slice q nq cq]) W:=hS
 have hV:ApV 60 10 w5 pC nC cC (us++[Value.int .u8 3,Value.int .i64 0,Value.slice none 0 0,Value.int .u8 E.kind,Value.int .u8 E.val.kind,Value.int .i64 E.val.num,Value.string E.val.text,Value.int .i64 E.var,Value.int .u8 E.op,Value.slice q nq cq]) W (ys8.getD 0 undef):=hE 8 ys8 rfl
 obtain⟨g',cap,eg,hg,hC,hrow⟩:=ap_end hS hV
 rw[eg]
 have hC1:Chg (fun b=>(Value.slice pC cs.length cC).ownBlock=some b) w5 W:=by rw[HN.out];exact hC
 have hg1:(Value.slice pC cs.length cC).ownBlock=some g'∨w5.heap.size≤g':=by rw[HN.out];exact hg
 have hx4:(condRd d).at_ w5 (fun b=>F b∨Since2 w1 W2 b) ⟨3,0,[],E⟩ [Value.int .u8 3,Value.int .i64 0,Value.slice none 0 0,Value.int .u8 E.kind,Value.int .u8 E.val.kind,Value.int .i64 E.val.num,Value.string E.val.text,Value.int .i64 E.var,Value.int .u8 E.op,Value.slice q nq cq]:=cond_at.2 ⟨show U8 3 from ⟨by decide,by decide⟩,show I64 0 from ⟨by decide,by decide⟩,HFit.out,.slice none 0 0,.slice q nq cq,rfl,Rd.row_nil,HK5.out⟩
 obtain⟨hW6,hC6,hMb⟩:=HW5.out.pushC HN.out HCl.out hx4 hg1 hC1 (by rw[condRd_n];exact hrow)
 have hm2:W.cell? ⟨M,6,none⟩=some (.slice pC nC cC):=by rw[cell_of_row _ _ _ _ _ _ (hMb.trans HW5.out.m),←HN.out];rfl
 have hf2:=frozen_of (hMb.trans HW5.out.m) 6
 have HP:Hid (CondPost F d M ts rs nm sal nv cs acs vT vR vV (.slice pC cs.length cC) vA (.ok (vars,⟨3,0,[],E⟩)) w (.returned (.bool true)) (W.setCell ⟨M,6,none⟩ (.slice (some ⟨g',0,none⟩) (nC+1) cap))):=by
  refine⟨chg_step (Chg.of_below HB5.out) hC6 (fun x hx=>Or.inl hx),rfl,(fun b=>F b∨Since2 w1 W2 b),vV,_,hW6,fun b hb=>Or.inl hb,fun b hb=>?_,fun _ h=>Or.inl h,fun b h=>h.imp id (fun h=>by have:=HS1.out;have:=h.1;omega)⟩
  injection hb with hb
  have hb:g'=b:=hb
  subst hb
  rcases hg1 with h|h
  ·exact Or.inl h
  ·have:=HS5.out;exact Or.inr (by omega)
 clear hS hV hE eg hg hC hrow hC1 hg1 hW6 hC6 hMb E0 E1 E2 E3 E4 E5 E6 E7 E8 E9 M2 HKs hx4
 go_wp2_with fail
 go_ret
 rw[HRes.out]
 exact HP.out
end Go.Proofs.YtglbjooofdnbkaaGreatDoor
