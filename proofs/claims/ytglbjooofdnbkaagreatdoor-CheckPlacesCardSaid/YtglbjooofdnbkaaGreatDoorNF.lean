/- Several texts joined, each with its own sentence and conditions ahead of it: MkL, MkN, MkO. -/
import Derived.Test.YtglbjooofdnbkaaGreatDoorNE
namespace Go.Proofs.YtglbjooofdnbkaaGreatDoor
set_option maxHeartbeats 4000000
set_option maxRecDepth 100000
open Go.RowKit
def opR (T:Tree) (r:Except Flt (List CExpr)):Except Flt CExpr:=match r with
 | .error e=>.error e
 | .ok ks=>.ok (.mk 3 .zero 0 (opM T.text.data.toList T.kids.length).1 (if (opM T.text.data.toList T.kids.length).2 then ks.reverse else ks))
theorem st7_other {W:World}{g o:Nat}(a b c d e f h:Value)(k:Nat)(hk:k≠g):(st7 W g o a b c d e f h).heap[k]? = W.heap[k]?:=by
 have hh:∀(V:World) (i:Nat) (u:Value),(V.setCell ⟨g,i,none⟩ u).heap[k]? = V.heap[k]?:=fun V i u=>Below.heap_setCell V ⟨g,i,none⟩ u k hk
 unfold st7
 rw[hh,hh,hh,hh,hh,hh,hh]
theorem opM_one (t:List UInt8)(k:Nat)(h:¬k=2):opM t k=if t==[45] then (4,false) else (11,false):=by
 unfold opM
 have e:(k==2)=false:=by simpa using h
 rw[e]
 rfl
theorem row_two {d:Nat}{W:World}{F:Nat→Prop}{q:Option Addr}{cq:Nat}{ks:List CExpr}(h:RowIn W F 58 (exprRd d) ks (.slice q 2 cq))(hk:ks.length=2) :
  ∃a b p1 n1 c1 p2 n2 c2 g,ks=[a,b]∧q=some ⟨g,0,none⟩∧W.ownsRow 0 58 7 (.slice q 2 cq) 2 (exprC a (.slice p1 n1 c1)++exprC b (.slice p2 n2 c2)) ∧
   ∀W',(∀x,F x→∀o,W.heap[x]? = some o→W'.heap[x]? = some o)→W'.ownsRow 0 58 7 (.slice q 2 cq) 2 (exprC b (.slice p2 n2 c2)++exprC a (.slice p1 n1 c1))→RowIn W' F 58 (exprRd d) [b,a] (.slice q 2 cq):=by
 obtain⟨us,hown,hl,hcells⟩:=h
 match ks,hk with
 | [a,b],_ =>
  rw[exprRd_n] at hown hl
  obtain⟨va,ha,hua⟩:=hcells 0 a rfl
  obtain⟨vb,hb,hub⟩:=hcells 1 b rfl
  obtain⟨_,sa,rfl,hka⟩:=expr_at.1 ha
  obtain⟨_,sb,rfl,hkb⟩:=expr_at.1 hb
  obtain⟨p1,c1,rfl⟩:=ekids_shape hka
  obtain⟨p2,c2,rfl⟩:=ekids_shape hkb
  rw[exprRd_n] at hua hub
  have hus:us=exprC a (.slice p1 a.kids.length c1)++exprC b (.slice p2 b.kids.length c2):=by
   apply List.ext_getElem?
   intro i
   by_cases h7:i<7
   ·rw[List.getElem?_append_left (by exact h7)]
    have:=hua i _ (List.getElem?_eq_getElem (by exact h7))
    rw[show 0*7+i=i by omega] at this
    rw[this];exact (List.getElem?_eq_getElem _).symm
   ·rw[List.getElem?_append_right (by show 7≤i;omega)]
    by_cases h14:i<14
    ·have h8:i-7<(exprC b (.slice p2 b.kids.length c2)).length:=by show i-7<7;omega
     have:=hub (i-7) _ (List.getElem?_eq_getElem h8)
     rw[show 1*7+(i-7)=i by omega] at this
     rw[this];exact (List.getElem?_eq_getElem _).symm
    ·rw[List.getElem?_eq_none (by rw[hl];show 2*7≤i;omega),List.getElem?_eq_none (by show 7≤i-7;omega)]
  subst hus
  have hown2:W.ownsRow 0 58 7 (.slice q 2 cq) 2 (exprC a (.slice p1 a.kids.length c1)++exprC b (.slice p2 b.kids.length c2)):=hown
  obtain⟨g,hg⟩:∃g,q=some ⟨g,0,none⟩:=by
   rcases hown2.2 with ⟨_,h0⟩|⟨g,_,_,h1,_⟩
   ·cases h0
   ·injection h1 with h1 _ _;exact⟨g,h1⟩
  refine⟨a,b,p1,_,c1,p2,_,c2,g,rfl,hg,hown2,fun W' hk h2=>⟨_,?_,Rd.cells_snoc (xs:=[b]) (us:=exprC b (.slice p2 b.kids.length c2)) (Rd.cells_snoc (xs:=[]) (us:=[]) Rd.cells_nil ((exprRd d).keep hk hb)) ((exprRd d).keep hk ha)⟩⟩
  rw[exprRd_n]
  exact h2
theorem expr_done {d:Nat}{w w1 W2 W:World}{op:Int}{ks:List CExpr}{v:Value}(hb:Below w.heap.size w W)(hs1:w.heap.size+2≤w1.heap.size)(hsz:W2.heap.size≤W.heap.size)(hop:U8 op)
  (hrow:RowIn W (fun b=>Since2 w1 W2 b∧v.ownBlock≠some b) 58 (exprRd d) ks v) (hge:∀g,v.ownBlock=some g→w1.heap.size≤g) (hlt:∀g,v.ownBlock=some g→g<W2.heap.size) :
  ExprOut (d+1) (.ok (.mk 3 .zero 0 op ks)) w (.returned (.agg #[.int .u8 3,.int .u8 0,.int .i64 0,.string ⟨#[]⟩,.int .i64 0,.int .u8 op,v])) (st7 W (w.heap.size+1) 0 (.int .u8 3) (.int .u8 0) (.int .i64 0) (.string ⟨#[]⟩) (.int .i64 0) (.int .u8 op) v):=by
 have hb':=below_st7 hb (Nat.le_succ _) (.int .u8 3) (.int .u8 0) (.int .i64 0) (.string ⟨#[]⟩) (.int .i64 0) (.int .u8 op) v
 have hz:=(st7_chg (W:=W) (g:=w.heap.size+1) (o:=0) (.int .u8 3) (.int .u8 0) (.int .i64 0) (.string ⟨#[]⟩) (.int .i64 0) (.int .u8 op) v).size
 have i0:I64 0:=⟨by decide,by decide⟩
 have u0:U8 0:=⟨by decide,by decide⟩
 have u3:U8 3:=⟨by decide,by decide⟩
 refine⟨hb',v,rfl,⟨u3,⟨u0,i0,Nat.zero_le _⟩,i0,hop⟩,?_⟩
 have hr2:=hrow.stored (W':=st7 W (w.heap.size+1) 0 (.int .u8 3) (.int .u8 0) (.int .i64 0) (.string ⟨#[]⟩) (.int .i64 0) (.int .u8 op) v) (M:=w.heap.size+1) (F':=Since2 w (st7 W (w.heap.size+1) 0 (.int .u8 3) (.int .u8 0) (.int .i64 0) (.string ⟨#[]⟩) (.int .i64 0) (.int .u8 op) v)) (fun e=>by have:=hge _ e;omega) (fun b hb2 e=>by have:=hb2.1.1;omega) (fun b hb2=>⟨by have:=hb2.1.1;omega,by have:=hb2.1.2;omega⟩) (fun b hb2=>st7_other _ _ _ _ _ _ _ b hb2)
 exact hr2.row (fun b h=>h) (fun g hg=>⟨by have:=hge g hg;omega,by have:=hlt g hg;omega⟩)
theorem expr_op (d M:Nat)(T:Tree)(p:Option Addr)(c:Nat)(r:Except Flt (List CExpr))(w:World)(hk:T.kind≠13∧T.kind≠14∧T.kind≠15)(hs:T.text.size≤72007)(hlen:∀ks,r=.ok ks→ks.length=T.kids.length)
  (hex:∀W,Below w.heap.size w W→Calls Tryz.prog 61 #[.pointer (some ⟨M,0,none⟩),.slice p T.kids.length c] W (ExprsOut d r W)) :
  Calls Tryz.prog 60 #[.pointer (some ⟨M,0,none⟩),.agg #[.int .u8 T.kind,.string T.text,.int .i64 T.num,.int .i64 T.place,.slice p T.kids.length c]] w (ExprOut (d+1) (opR T r) w):=by
 obtain⟨n,hn⟩:∃n,T.kids.length=n:=⟨_,rfl⟩
 have HN:=Hd hn
 rw[hn] at hex hlen ⊢
 have HL:=Hd hlen
 obtain⟨w1,hw1⟩:∃w1,w1=(w.alloc (.cells #[.int .u8 T.kind,.string T.text,.int .i64 T.num,.int .i64 T.place,.slice p n c] 25)).alloc (.cells #[.int .u8 0,.int .u8 0,.int .i64 0,.string ⟨#[]⟩,.int .i64 0,.int .u8 0,.slice none 0 0] 58):=⟨_,rfl⟩
 obtain⟨hx0,hx1,_⟩:=two_new' w (.cells #[.int .u8 T.kind,.string T.text,.int .i64 T.num,.int .i64 T.place,.slice p n c] 25) (.cells #[.int .u8 0,.int .u8 0,.int .i64 0,.string ⟨#[]⟩,.int .i64 0,.int .u8 0,.slice none 0 0] 58)
 have hb1:Below w.heap.size w w1:=by rw[hw1];exact ((Below.refl _ w).alloc (Nat.le_refl _) _).alloc (by simp) _
 rw[←hw1] at hx0 hx1
 have HX0:=Hd hx0
 have HX1:=Hd hx1
 have HB1:=Hd hb1
 have HC:=Hd (hex w1 hb1)
 have k13:¬((T.kind:Int)=13):=by have:=hk.1;omega
 have k14:¬((T.kind:Int)=14):=by have:=hk.2.1;omega
 have k15:¬((T.kind:Int)=15):=by have:=hk.2.2;omega
 obtain⟨e0,e1,e2,e3,e4⟩:=cells5 hx0
 clear hx0 hx1 hb1 hex hn hlen hk
 go_enter Tryz.func60,Tryz.ntmps60
 go_upto_region 9 with fail
 change Code.wp _ _ _ _ ((w.alloc (.cells #[.int .u8 T.kind,.string T.text,.int .i64 T.num,.int .i64 T.place,.slice p n c] 25)).alloc (.cells #[.int .u8 0,.int .u8 0,.int .i64 0,.string ⟨#[]⟩,.int .i64 0,.int .u8 0,.slice none 0 0] 58))
 rw[←hw1]
 clear hw1
 go_wp2_with fail
 refine HC.out.mono ?_
 rintro e W2 ⟨hb2,he⟩
 have HB2:=Hd (HB1.out.trans (hb2.mono HB1.out.size))
 have HX2:=Hd (heap_below hb2 HX0.out (Array.getElem?_eq_some_iff.1 HX0.out).1)
 have HY2:=Hd (heap_below hb2 HX1.out (Array.getElem?_eq_some_iff.1 HX1.out).1)
 clear e0 e1 e2 e3 e4 hb2
 cases r with
 | error er =>
  have he:e=faultP er.1 er.2:=he
  subst he
  exact⟨rfl,HB2.out,rfl⟩
 | ok ks =>
  obtain⟨v,rfl,hrow,hge⟩:=he
  have hkl:=HL.out ks rfl
  obtain⟨q,cq,hv⟩:=hrow.shape
  rw[hkl] at hv
  subst hv
  have HR2:=Hd hrow
  have HG2:=Hd hge
  have HK:=Hd hkl
  obtain⟨e0,e1,e2,e3,e4⟩:=cells5 HX2.out
  have HS1:Hid (w.heap.size+2≤w1.heap.size):=by
   have h:=(Array.getElem?_eq_some_iff.1 HX1.out).1
   show _≤_
   omega
  have HLt:=Hd (fun g hg=>hrow.lt (g:=g) hg)
  clear hrow hge hkl
  go_upto_region 10 with fail
  obtain⟨W3,hW3⟩:∃W3,W3=W2.alloc (.cells #[.int .u8 3,.int .u8 0,.int .i64 0,.string ⟨#[]⟩,.int .i64 0,.int .u8 0,.slice q n cq] 58):=⟨_,rfl⟩
  have hb23:Below W2.heap.size W2 W3:=by rw[hW3];exact (Below.refl _ _).alloc (Nat.le_refl _) _
  have hbx:W3.heap[W2.heap.size]? = some (.cells #[.int .u8 3,.int .u8 0,.int .i64 0,.string ⟨#[]⟩,.int .i64 0,.int .u8 0,.slice q n cq] 58 (0,0)):=by rw[hW3];exact heap_alloc_new W2 _
  rw[←hW3]
  clear hW3 e0 e1 e2 e3 e4
  have HB23:=Hd hb23
  have HBx:=Hd hbx
  have HX3:=Hd (heap_below hb23 HX2.out (Array.getElem?_eq_some_iff.1 HX2.out).1)
  have HY3:=Hd (heap_below hb23 HY2.out (Array.getElem?_eq_some_iff.1 HY2.out).1)
  have HB3:=Hd (HB2.out.trans (hb23.mono HB2.out.size))
  clear hb23 hbx
  obtain⟨e0,e1,e2,e3,e4⟩:=cells5 HX3.out
  by_cases h2:n=2
  ·subst h2
   have HOps:=Hd (ops_any T.text (by unfold maxLen;omega) W3)
   clear e0 e2 e3
   go_upto_region 13 with fail
   clear e4
   go_wp2_with fail
   refine HOps.out.mono ?_
   rintro e W4 ⟨rfl,hb34⟩
   have hbx4:=heap_below hb34 HBx.out (Array.getElem?_eq_some_iff.1 HBx.out).1
   have HBx4:=Hd hbx4
   have HY4:=Hd (heap_below hb34 HY3.out (Array.getElem?_eq_some_iff.1 HY3.out).1)
   have HB24:=Hd (HB23.out.trans (hb34.mono HB23.out.size))
   have f0:=frozen5 hbx4 5
   obtain⟨b0,b1,b2,b3,b4,b5,b6⟩:=cells7 hbx4
   clear b0 b1 b2 b3 b4 b6 hbx4 hb34 e1
   go_upto_region 16 with fail
   have HU:=Hd (opM_u8 T.text.data.toList 2)
   have HOp:Hid (opR T (.ok ks)=.ok (.mk 3 .zero 0 (opM T.text.data.toList 2).1 (if (opM T.text.data.toList 2).2 then ks.reverse else ks))):=by
    show opR T (.ok ks)=_
    unfold opR
    rw[HN.out]
   generalize (opM T.text.data.toList 2).1=op at *
   generalize (opM T.text.data.toList 2).2=tu at *
   obtain⟨W5,hW5⟩:∃W5,W5=W4.setCell ⟨W2.heap.size,5,none⟩ (.int .u8 op):=⟨_,rfl⟩
   have hbx5:W5.heap[W2.heap.size]? = some (.cells #[.int .u8 3,.int .u8 0,.int .i64 0,.string ⟨#[]⟩,.int .i64 0,.int .u8 op,.slice q 2 cq] 58 (0,0)):=by rw[hW5];exact heap_set HBx4.out 5 _
   have hy5:W5.heap[w.heap.size+1]? = some (.cells #[.int .u8 0,.int .u8 0,.int .i64 0,.string ⟨#[]⟩,.int .i64 0,.int .u8 0,.slice none 0 0] 58 (0,0)):=by rw[hW5];exact (Below.heap_setCell W4 ⟨W2.heap.size,5,none⟩ _ _ (by have:=(Array.getElem?_eq_some_iff.1 HY2.out).1;show w.heap.size+1≠W2.heap.size;omega)).trans HY4.out
   have hbb:Below W2.heap.size W2 W5:=by rw[hW5];exact HB24.out.setCell (Nat.le_refl _) _
   rw[←hW5]
   clear hW5 b5 f0
   have hb5:=HB2.out.trans (hbb.mono HB2.out.size)
   cases tu with
   | false =>
    have HP:Hid (ExprOut (d+1) (opR T (.ok ks)) w (.returned (.agg #[.int .u8 3,.int .u8 0,.int .i64 0,.string ⟨#[]⟩,.int .i64 0,.int .u8 op,.slice q 2 cq])) (st7 W5 (w.heap.size+1) 0 (.int .u8 3) (.int .u8 0) (.int .i64 0) (.string ⟨#[]⟩) (.int .i64 0) (.int .u8 op) (.slice q 2 cq))):=by
     show ExprOut _ _ _ _ _
     rw[HOp.out]
     exact expr_done (w1:=w1) (W2:=W2) hb5 HS1.out hbb.size HU.out (HR2.out.below hbb (fun b hb=>hb.1.2) (fun b hb=>hb)) HG2.out HLt.out
    have HXf:=Hd (st7_set hy5 (.int .u8 3) (.int .u8 0) (.int .i64 0) (.string ⟨#[]⟩) (.int .i64 0) (.int .u8 op) (.slice q 2 cq))
    obtain⟨b0,b1,b2,b3,b4,b5,b6⟩:=cells7 hbx5
    obtain⟨c0,c1,c2,c3,c4,c5,c6⟩:=cells7 hy5
    have f0:=frozen5 hy5
    clear hbx5 hy5 hbb hb5
    go_upto_region 18 with fail
    go_wp2_with fail
    exact expr_fin _ _ (w.heap.size+1) _ _ _ _ _ _ _ HXf.out _ rfl HP.out
   | true =>
    have hr5:=HR2.out.below (F':=fun b=>Since2 w1 W2 b∧(Value.slice q 2 cq).ownBlock≠some b) hbb (fun b hb=>hb.1.2) (fun b hb=>hb)
    obtain⟨x,y,p1,n1,c1',p2,n2,c2',g,hks,hq,hown,hback⟩:=row_two hr5 HK.out
    subst hq
    have HRev:=Hd (rev2_own x y p1 p2 n1 n2 c1' c2' g cq W5 hown)
    have hg1:=HG2.out g rfl
    have hg2:=HLt.out g rfl
    have HBk:=Hd hback
    have HBX5:=Hd hbx5
    have HY5:=Hd hy5
    have HBB:=Hd hbb
    have HB5:=Hd hb5
    have HGg:Hid (w.heap.size+1≠g∧W2.heap.size≠g∧w.heap.size≤g):=by
     have:=HS1.out
     exact⟨by omega,by omega,by omega⟩
    have HKs:=Hd hks
    obtain⟨b0,b1,b2,b3,b4,b5,b6⟩:=cells7 hbx5
    clear hbx5 hy5 hbb hb5 hr5 hown hback hg1 hg2 hks b0 b1 b2 b3 b4 b5
    go_upto_region 17 with fail
    go_wp2_with fail
    refine HRev.out.mono ?_
    rintro e W6 ⟨rfl,hch,hrow6⟩
    have hB5:=(Array.getElem?_eq_some_iff.1 HBX5.out).1
    have hbx6:=(hch.block _ hB5 HGg.out.2.1).trans HBX5.out
    have hy6:=(hch.block _ (Array.getElem?_eq_some_iff.1 HY5.out).1 HGg.out.1).trans HY5.out
    have hb6:=Chg.to_below HB5.out hch (fun b h=>by rw[h];exact HGg.out.2.2) HB5.out.size
    have hr6:=HBk.out W6 (fun b hb o ho=>(hch.block b (Nat.lt_of_lt_of_le hb.1.2 HBB.out.size) (fun e=>hb.2 (by rw[e];rfl))).trans ho) hrow6
    have HP:Hid (ExprOut (d+1) (opR T (.ok ks)) w (.returned (.agg #[.int .u8 3,.int .u8 0,.int .i64 0,.string ⟨#[]⟩,.int .i64 0,.int .u8 op,.slice (some ⟨g,0,none⟩) 2 cq])) (st7 W6 (w.heap.size+1) 0 (.int .u8 3) (.int .u8 0) (.int .i64 0) (.string ⟨#[]⟩) (.int .i64 0) (.int .u8 op) (.slice (some ⟨g,0,none⟩) 2 cq))):=by
     show ExprOut _ _ _ _ _
     rw[HOp.out,HKs.out]
     exact expr_done (w1:=w1) (W2:=W2) hb6 HS1.out (Nat.le_trans HBB.out.size hch.size) HU.out hr6 HG2.out HLt.out
    have HXf:=Hd (st7_set hy6 (.int .u8 3) (.int .u8 0) (.int .i64 0) (.string ⟨#[]⟩) (.int .i64 0) (.int .u8 op) (.slice (some ⟨g,0,none⟩) 2 cq))
    obtain⟨b0,b1,b2,b3,b4,b5,b6⟩:=cells7 hbx6
    obtain⟨c0,c1,c2,c3,c4,c5,c6⟩:=cells7 hy6
    have f0:=frozen5 hy6
    clear hbx6 hy6 hb6 hr6 hch hrow6 hB5
    go_upto_region 18 with fail
    go_wp2_with fail
    exact expr_fin _ _ (w.heap.size+1) _ _ _ _ _ _ _ HXf.out _ rfl HP.out
  ·have hn2:¬((n:Int)=2):=by omega
   clear e0 e2 e3
   go_upto_region 14 with fail
   clear e4
   have f0:=frozen5 HBx.out 5
   obtain⟨b0,b1,b2,b3,b4,b5,b6⟩:=cells7 HBx.out
   clear b0 b1 b2 b3 b4 b6
   go_upto_region 16 with fail
   ·have HOp:Hid (opR T (.ok ks)=.ok (.mk 3 .zero 0 4 ks)):=by
     have e:(T.text.data.toList==[45])=true:=by rw[←ByteArray.toList_eq];assumption
     show opR T (.ok ks)=_
     unfold opR
     rw[HN.out,opM_one _ _ h2,e]
     rfl
    obtain⟨W4,hW4⟩:∃W4,W4=W3.setCell ⟨W2.heap.size,5,none⟩ (.int .u8 4):=⟨_,rfl⟩
    have hbx4:W4.heap[W2.heap.size]? = some (.cells #[.int .u8 3,.int .u8 0,.int .i64 0,.string ⟨#[]⟩,.int .i64 0,.int .u8 4,.slice q n cq] 58 (0,0)):=by rw[hW4];exact heap_set HBx.out 5 _
    have hy4:W4.heap[w.heap.size+1]? = some (.cells #[.int .u8 0,.int .u8 0,.int .i64 0,.string ⟨#[]⟩,.int .i64 0,.int .u8 0,.slice none 0 0] 58 (0,0)):=by rw[hW4];exact (Below.heap_setCell W3 ⟨W2.heap.size,5,none⟩ _ _ (by have:=(Array.getElem?_eq_some_iff.1 HY2.out).1;show w.heap.size+1≠W2.heap.size;omega)).trans HY3.out
    have hbb:Below W2.heap.size W2 W4:=by rw[hW4];exact HB23.out.setCell (Nat.le_refl _) _
    rw[←hW4]
    clear hW4 b5 f0
    have hb4:=HB2.out.trans (hbb.mono HB2.out.size)
    have HP:Hid (ExprOut (d+1) (opR T (.ok ks)) w (.returned (.agg #[.int .u8 3,.int .u8 0,.int .i64 0,.string ⟨#[]⟩,.int .i64 0,.int .u8 4,.slice q n cq])) (st7 W4 (w.heap.size+1) 0 (.int .u8 3) (.int .u8 0) (.int .i64 0) (.string ⟨#[]⟩) (.int .i64 0) (.int .u8 4) (.slice q n cq))):=by
     show ExprOut _ _ _ _ _
     rw[HOp.out]
     exact expr_done (w1:=w1) (W2:=W2) hb4 HS1.out hbb.size ⟨by decide,by decide⟩ (HR2.out.below hbb (fun b hb=>hb.1.2) (fun b hb=>hb)) HG2.out HLt.out
    have HXf:=Hd (st7_set hy4 (.int .u8 3) (.int .u8 0) (.int .i64 0) (.string ⟨#[]⟩) (.int .i64 0) (.int .u8 4) (.slice q n cq))
    obtain⟨b0,b1,b2,b3,b4,b5,b6⟩:=cells7 hbx4
    obtain⟨c0,c1,c2,c3,c4,c5,c6⟩:=cells7 hy4
    have f0:=frozen5 hy4
    clear hbx4 hy4 hbb hb4 e1
    go_upto_region 18 with fail
    go_wp2_with fail
    exact expr_fin _ _ (w.heap.size+1) _ _ _ _ _ _ _ HXf.out _ rfl HP.out
   ·have HOp:Hid (opR T (.ok ks)=.ok (.mk 3 .zero 0 11 ks)):=by
     have e:(T.text.data.toList==[45])=false:=by rw[←ByteArray.toList_eq];assumption
     show opR T (.ok ks)=_
     unfold opR
     rw[HN.out,opM_one _ _ h2,e]
     rfl
    obtain⟨W4,hW4⟩:∃W4,W4=W3.setCell ⟨W2.heap.size,5,none⟩ (.int .u8 11):=⟨_,rfl⟩
    have hbx4:W4.heap[W2.heap.size]? = some (.cells #[.int .u8 3,.int .u8 0,.int .i64 0,.string ⟨#[]⟩,.int .i64 0,.int .u8 11,.slice q n cq] 58 (0,0)):=by rw[hW4];exact heap_set HBx.out 5 _
    have hy4:W4.heap[w.heap.size+1]? = some (.cells #[.int .u8 0,.int .u8 0,.int .i64 0,.string ⟨#[]⟩,.int .i64 0,.int .u8 0,.slice none 0 0] 58 (0,0)):=by rw[hW4];exact (Below.heap_setCell W3 ⟨W2.heap.size,5,none⟩ _ _ (by have:=(Array.getElem?_eq_some_iff.1 HY2.out).1;show w.heap.size+1≠W2.heap.size;omega)).trans HY3.out
    have hbb:Below W2.heap.size W2 W4:=by rw[hW4];exact HB23.out.setCell (Nat.le_refl _) _
    rw[←hW4]
    clear hW4 b5 f0
    have hb4:=HB2.out.trans (hbb.mono HB2.out.size)
    have HP:Hid (ExprOut (d+1) (opR T (.ok ks)) w (.returned (.agg #[.int .u8 3,.int .u8 0,.int .i64 0,.string ⟨#[]⟩,.int .i64 0,.int .u8 11,.slice q n cq])) (st7 W4 (w.heap.size+1) 0 (.int .u8 3) (.int .u8 0) (.int .i64 0) (.string ⟨#[]⟩) (.int .i64 0) (.int .u8 11) (.slice q n cq))):=by
     show ExprOut _ _ _ _ _
     rw[HOp.out]
     exact expr_done (w1:=w1) (W2:=W2) hb4 HS1.out hbb.size ⟨by decide,by decide⟩ (HR2.out.below hbb (fun b hb=>hb.1.2) (fun b hb=>hb)) HG2.out HLt.out
    have HXf:=Hd (st7_set hy4 (.int .u8 3) (.int .u8 0) (.int .i64 0) (.string ⟨#[]⟩) (.int .i64 0) (.int .u8 11) (.slice q n cq))
    obtain⟨b0,b1,b2,b3,b4,b5,b6⟩:=cells7 hbx4
    obtain⟨c0,c1,c2,c3,c4,c5,c6⟩:=cells7 hy4
    have f0:=frozen5 hy4
    clear hbx4 hy4 hbb hb4 e1
    go_upto_region 18 with fail
    go_wp2_with fail
    exact expr_fin _ _ (w.heap.size+1) _ _ _ _ _ _ _ HXf.out _ rfl HP.out
theorem listE_len {α β:Type}{f:α→Except Flt β}:∀(l:List α)(ys:List β),listE f l=.ok ys→ys.length=l.length:=by
 have h:∀(l:List α) (zs ys:List β),foldE (fun ys x=>match f x with | .error e=>.error e | .ok y=>.ok (ys++[y])) zs l=.ok ys→ys.length=zs.length+l.length:=by
  intro l
  induction l with
  | nil=>intro zs ys h;injection h with h;subst h;rfl
  | cons x l ih =>
   intro zs ys h
   unfold foldE at h
   cases hf:f x with
   | error e=>rw[hf] at h;cases h
   | ok y =>
    rw[hf] at h
    have:=ih _ _ h
    rw[this];simp;omega
 intro l ys hl
 have:=h l [] ys hl
 rw[this];simp
theorem expr_any (M:Nat)(vars:List ByteArray)(vV:Value):∀(d:Nat)(T:Tree)(s:Value)(w:World),VarW M vars vV w→Spare d T→KidsAt w w.heap.size d T.kids s →
  Calls Tryz.prog 60 #[.pointer (some ⟨M,0,none⟩),.agg #[.int .u8 T.kind,.string T.text,.int .i64 T.num,.int .i64 T.place,s]] w (ExprOut d (mkExpr vars d T) w):=by
 intro d
 induction d with
 | zero =>
  intro T s w hv hsp hk
  obtain⟨p,c,rfl⟩:=hk.slice
  by_cases k1:T.kind=14∨T.kind=15
  ·exact expr_const 0 M vars T p _ c w k1 hsp.text
  by_cases k2:T.kind=13
  ·exact expr_var 0 M vars vV T p _ c w hv k2
  have hks:T.kids=[]:=hk.1
  have h:=expr_op 0 M T p c (.ok []) w ⟨k2,fun h=>k1 (Or.inl h),fun h=>k1 (Or.inr h)⟩ hsp.text (fun ks h=>by injection h with h;subst h;rw[hks];rfl) (fun W hW=>by
   have:=exprs_any 0 M vars vV (mkExpr vars 0) [] (.slice p T.kids.length c) W (hv.below hW) (Or.inl ⟨rfl,p,c,by rw[hks];rfl⟩) (by simp) (fun T hT=>by simp at hT)
   exact this)
  refine h.mono ?_
  rintro e w' ⟨hb,he⟩
  refine⟨hb,?_⟩
  obtain⟨s2,h1,h2,h3⟩:=he
  have hm:mkExpr vars 0 T=.ok (.mk 3 .zero 0 (opM T.text.data.toList T.kids.length).1 []):=by
   unfold mkExpr
   have e1:(T.kind==14||T.kind==15)=false:=by simp only[Bool.or_eq_false_iff,beq_eq_false_iff_ne];exact⟨fun h=>k1 (Or.inl h),fun h=>k1 (Or.inr h)⟩
   have e2:(T.kind==13)=false:=by simpa using k2
   rw[e1,e2];rfl
  rw[hm]
  have e0:(if (opM T.text.data.toList T.kids.length).2 then ([]:List CExpr).reverse else [])=[]:=by split<;>rfl
  rw[e0] at h1 h2 h3
  refine⟨s2,h1,h2,rfl,?_⟩
  obtain⟨p2,c2,h4⟩:=ekids_shape h3
  exact⟨p2,c2,h4⟩
 | succ d ih =>
  intro T s w hv hsp hk
  obtain⟨p,c,rfl⟩:=hk.slice
  by_cases k1:T.kind=14∨T.kind=15
  ·exact expr_const (d+1) M vars T p _ c w k1 hsp.text
  by_cases k2:T.kind=13
  ·exact expr_var (d+1) M vars vV T p _ c w hv k2
  have h:=expr_op d M T p c (listE (mkExpr vars d) T.kids) w ⟨k2,fun h=>k1 (Or.inl h),fun h=>k1 (Or.inr h)⟩ hsp.text (fun ks h=>listE_len _ _ h) (fun W hW =>
   exprs_any d M vars vV (mkExpr vars d) T.kids (.slice p T.kids.length c) W (hv.below hW) ((hk.below hW).up hW.size) hsp.2.1 (fun K hK s W' hv' _ hk'=>ih K s W' hv' (hsp.2.2 K hK) hk'))
  refine h.mono ?_
  rintro e w' he
  have hm:mkExpr vars (d+1) T=opR T (listE (mkExpr vars d) T.kids):=by
   conv=>lhs;unfold mkExpr
   have e1:(T.kind==14||T.kind==15)=false:=by simp only[Bool.or_eq_false_iff,beq_eq_false_iff_ne];exact⟨fun h=>k1 (Or.inl h),fun h=>k1 (Or.inr h)⟩
   have e2:(T.kind==13)=false:=by simpa using k2
   rw[e1,e2];rfl
  rw[hm]
  exact he
theorem elemAct:Elem 66 44 4 48:=Elem.of (z:=.agg #[.int .u8 0,.int .i64 0,.int .i64 0,.slice none 0 0]) Tryz.underlying44 (by kernel_rfl) rfl (by decide) (by decide)
def ActPost (F:Nat→Prop) (d M:Nat) (ts:List CType) (rs:List CRule) (vars:List ByteArray) (nm:ByteArray) (sal nv:Int) (cs:List CCond) (acs:List CAct) (vT vR vV vC vA:Value) (r:Except Flt CAct) (w:World) (e:Ending) (w':World):Prop:=
 Chg (Own8 M [vT,vR,vV,vC,vA]) w w'∧match r with
 | .ok x=>e=.returned (.tuple #[])∧∃(F':Nat→Prop) (vA':Value),MkW F' d M ts rs vars nm sal nv cs (acs++[x]) vT vR vV vC vA' w'∧Grew vA vA' w.heap.size∧(∀b,F b→F' b)∧∀b,F' b→F b∨w.heap.size≤b
 | .error er=>e=faultP er.1 er.2
theorem act_other (F:Nat→Prop)(d M:Nat)(ts:List CType)(rs:List CRule)(vars:List ByteArray)(nm:ByteArray)(sal nv:Int)(cs:List CCond)(acs:List CAct)(vT vR vV vC vA:Value)(T:Tree)(p:Option Addr)(n c:Nat)(w:World)
  (hw:MkW F d M ts rs vars nm sal nv cs acs vT vR vV vC vA w) (hk:T.kind≠8∧T.kind≠9∧T.kind≠10) (han:acs.length≤10000) :
  Calls Tryz.prog 32 #[.pointer (some ⟨M,0,none⟩),.agg #[.int .u8 T.kind,.string T.text,.int .i64 T.num,.int .i64 T.place,.slice p n c]] w (ActPost F d M ts rs vars nm sal nv cs acs vT vR vV vC vA (.ok ⟨4,0,0,[]⟩) w):=by
 have k8:¬((T.kind:Int)=8):=by have:=hk.1;omega
 have k9:¬((T.kind:Int)=9):=by have:=hk.2.1;omega
 have k10:¬((T.kind:Int)=10):=by have:=hk.2.2;omega
 obtain⟨pA,cA,hvA⟩:=hw.a.shape
 subst hvA
 obtain⟨nA,hnA⟩:∃nA,acs.length=nA:=⟨_,rfl⟩
 have HN:=Hd hnA
 obtain⟨w5,hw5⟩:∃w5,w5=(w.alloc (.cells #[.int .u8 T.kind,.string T.text,.int .i64 T.num,.int .i64 T.place,.slice p n c] 25)).alloc (.cells #[.int .u8 4,.int .i64 0,.int .i64 0,.slice none 0 0] 66):=⟨_,rfl⟩
 obtain⟨hx0,hx1,_⟩:=two_new' w (.cells #[.int .u8 T.kind,.string T.text,.int .i64 T.num,.int .i64 T.place,.slice p n c] 25) (.cells #[.int .u8 4,.int .i64 0,.int .i64 0,.slice none 0 0] 66)
 have hb5:Below w.heap.size w w5:=by rw[hw5];exact ((Below.refl _ w).alloc (Nat.le_refl _) _).alloc (by simp) _
 rw[←hw5] at hx0 hx1
 have HAlt:=Hd (fun g hg=>hw.a.lt (g:=g) hg)
 have HX1:=Hd hx1
 have HB5:=Hd hb5
 have HW5:=Hd (hw.below hb5)
 clear hx0 hx1 hb5 hw hk
 obtain⟨us,hown,hcl⟩:=HW5.out.a
 rw[HN.out] at hown
 rw[HN.out] at han
 have HOwn:=Hd hown
 have HCl:=Hd hcl
 have e0:w5.cell? ⟨w.heap.size+1,0,none⟩=some (.int .u8 4):=by rw[cell_of_row _ _ _ _ _ _ HX1.out];rfl
 have e1:w5.cell? ⟨w.heap.size+1,1,none⟩=some (.int .i64 0):=by rw[cell_of_row _ _ _ _ _ _ HX1.out];rfl
 have e2:w5.cell? ⟨w.heap.size+1,2,none⟩=some (.int .i64 0):=by rw[cell_of_row _ _ _ _ _ _ HX1.out];rfl
 have e3:w5.cell? ⟨w.heap.size+1,3,none⟩=some (.slice none 0 0):=by rw[cell_of_row _ _ _ _ _ _ HX1.out];rfl
 have hm2:w5.cell? ⟨M,7,none⟩=some (.slice pA nA cA):=by rw[cell_of_row _ _ _ _ _ _ HW5.out.m,←HN.out];rfl
 have hK:∀b,(b=M∨b=w.heap.size+1)→b<w5.heap.size∧(Value.slice pA nA cA).ownBlock≠some b:=fun b hb=>by
  rw[←HN.out]
  rcases hb with rfl|rfl
  ·exact⟨HW5.out.lt,row_ne HW5.out.m HW5.out.a (by decide)⟩
  ·exact⟨(Array.getElem?_eq_some_iff.1 HX1.out).1,fun e=>by have:=HAlt.out _ e;omega⟩
 have HKs:=Hd (ap_ks (E:=66) (sz:=4) (row:=us++[.int .u8 4,.int .i64 0,.int .i64 0,.slice none 0 0]) (K:=fun b=>b=M∨b=w.heap.size+1) hK)
 have E0:=fun x:Ks w5 (fun b=>b=M∨b=w.heap.size+1)=>x.cell (Or.inr rfl) e0
 have E1:=fun x:Ks w5 (fun b=>b=M∨b=w.heap.size+1)=>x.cell (Or.inr rfl) e1
 have E2:=fun x:Ks w5 (fun b=>b=M∨b=w.heap.size+1)=>x.cell (Or.inr rfl) e2
 have E3:=fun x:Ks w5 (fun b=>b=M∨b=w.heap.size+1)=>x.cell (Or.inr rfl) e3
 have M2:=fun x:Ks w5 (fun b=>b=M∨b=w.heap.size+1)=>x.cell (Or.inl rfl) hm2
 clear hown hcl e0 e1 e2 e3 hm2 hK
 go_enter Tryz.func32,Tryz.ntmps32
 go_upto_region 10 with fail
 change Code.wp _ _ _ _ ((w.alloc (.cells #[.int .u8 T.kind,.string T.text,.int .i64 T.num,.int .i64 T.place,.slice p n c] 25)).alloc (.cells #[.int .u8 4,.int .i64 0,.int .i64 0,.slice none 0 0] 66))
 rw[←hw5]
 clear hw5
 refine RE.wp_region_eff (by kernel_rfl) 9 [7,8] [8] (stA 66 4 w5 pA nA cA (us++[.int .u8 4,.int .i64 0,.int .i64 0,.slice none 0 0])) (ApR w5) (fun _ ys=>ys.getD 0 undef) (phA 66 4 w5 pA nA cA [.int .u8 4,.int .i64 0,.int .i64 0,.slice none 0 0] (us++[.int .u8 4,.int .i64 0,.int .i64 0,.slice none 0 0]) 7 8) (by kernel_rfl) (fun _ _ _ _ _ _ h hb=>h.below hb) (fun _ _ _ _ h _ hR=>h.keep hR) stA.zero ?_
 simp only[List.take_succ_cons,List.take_zero,List.drop_succ_cons,List.drop_zero]
 repeat (refine RE.wpE_read (fun W=>∃x:Ks w5 (fun b=>b=M∨b=w.heap.size+1),W=x.1) (HKs.out _) rfl rfl rfl stA.zero ?_;go_big_quiet_step (fail);refine wpQuiet_nil ?_)
 refine RE.wpE_turn rfl rfl ?_ (fun ys7=>?_)
 ·intro W hC hS hE
  obtain⟨s9,_,h9⟩:=hC
  exact upon_one elemAct (vs:=[.int .u8 4,.int .i64 0,.int .i64 0,.slice none 0 0]) _ rfl rfl rfl h9.size (fun v W' hb ho=>⟨[v],rfl,hb,ApR.of_below hb,ho⟩)
 simp only[Act.put,List.setIfInBounds_toArray,List.set_cons_zero,List.set_cons_succ]
 refine RE.wpE_turn rfl rfl ?_ (fun ys8=>?_)
 ·intro W hC hS hE
  obtain⟨x,rfl⟩:∃x:Wb w5,W=x.1:=hS rfl
  exact upon_ap elemAct (p:=pA) (n:=nA) (c:=cA) (w4:=w5) (vs:=[.int .u8 4,.int .i64 0,.int .i64 0,.slice none 0 0]) (xs:=us) _ _ rfl rfl (hE 7 ys7 (by kernel_rfl) rfl) rfl (by simp[Value.oneCell']) x.2 HOwn.out (by omega) (fun v' W' h1 h2 h3=>⟨[v'],rfl,h1,h2,h3⟩)
 simp only[Act.put,List.setIfInBounds_toArray,List.set_cons_zero,List.set_cons_succ]
 refine RE.wpE_nil ?_
 intro W hS hE
 have hS:ApS 66 4 w5 pA nA cA (us++[.int .u8 4,.int .i64 0,.int .i64 0,.slice none 0 0]) W:=hS
 have hV:ApV 66 4 w5 pA nA cA (us++[.int .u8 4,.int .i64 0,.int .i64 0,.slice none 0 0]) W (ys8.getD 0 undef):=hE 8 ys8 rfl
 obtain⟨g',cap,eg,hg,hC,hrow⟩:=ap_end hS hV
 rw[eg]
 have hC1:Chg (fun b=>(Value.slice pA acs.length cA).ownBlock=some b) w5 W:=by rw[HN.out];exact hC
 have hg1:(Value.slice pA acs.length cA).ownBlock=some g'∨w5.heap.size≤g':=by rw[HN.out];exact hg
 have hx4:(actRd d).at_ w5 F ⟨4,0,0,[]⟩ [.int .u8 4,.int .i64 0,.int .i64 0,.slice none 0 0]:=act_at.2 ⟨⟨by decide,by decide⟩,⟨by decide,by decide⟩,⟨by decide,by decide⟩,.slice none 0 0,rfl,Rd.row_nil⟩
 obtain⟨hW6,hC6,hMb⟩:=HW5.out.pushA HN.out HCl.out hx4 hg1 hC1 hrow
 have hm2:W.cell? ⟨M,7,none⟩=some (.slice pA nA cA):=by rw[cell_of_row _ _ _ _ _ _ (hMb.trans HW5.out.m),←HN.out];rfl
 have hf2:=frozen_of (hMb.trans HW5.out.m) 7
 have HP:Hid (ActPost F d M ts rs vars nm sal nv cs acs vT vR vV vC (.slice pA acs.length cA) (.ok ⟨4,0,0,[]⟩) w (.returned (.tuple #[])) (W.setCell ⟨M,7,none⟩ (.slice (some ⟨g',0,none⟩) (nA+1) cap))):=by
  refine⟨chg_step (Chg.of_below HB5.out) hC6 (fun x hx=>Or.inl hx),rfl,F,_,hW6,fun b hb=>?_,fun _ h=>h,fun _ h=>Or.inl h⟩
  injection hb with hb
  have hb:g'=b:=hb
  subst hb
  rcases hg1 with h|h
  ·exact Or.inl h
  ·have:=HB5.out.size;exact Or.inr (by omega)
 clear hS hV hE eg hg hC hrow hC1 hg1 hW6 hC6 hMb E0 E1 E2 E3 M2 HKs hx4
 go_wp2_with fail
 go_end0
 exact HP.out
end Go.Proofs.YtglbjooofdnbkaaGreatDoor
