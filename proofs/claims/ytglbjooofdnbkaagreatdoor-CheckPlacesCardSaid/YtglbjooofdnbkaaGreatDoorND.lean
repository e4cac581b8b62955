/- Several texts joined, each with its own sentence and conditions ahead of it: MkF, MkG. -/
import Derived.Test.YtglbjooofdnbkaaGreatDoorNC
import Derived.Test.YtglbjooofdnbkaaGreatDoorNB
namespace Go.Proofs.YtglbjooofdnbkaaGreatDoor
set_option maxHeartbeats 4000000
set_option maxRecDepth 100000
open Go.RowKit
theorem idxS_eq (x:ByteArray):∀(l:List ByteArray),Lib.idxOfS l x=idxI (idxOf x l):=by
 have h:∀(l:List ByteArray) (m:Nat),Lib.idxFromS l x m=idxI (idxB x l m):=by
  intro l
  induction l with
  | nil=>intro m;rfl
  | cons y l ih =>
   intro m
   unfold Lib.idxFromS idxB
   by_cases h:y=x
   ·subst h
    simp[idxI]
   ·have h2:(y.data.toList==x.data.toList)=false:=by
     rw[beq_eq_false_iff_ne]
     intro e
     apply h
     obtain⟨⟨a⟩⟩:=y
     obtain⟨⟨b⟩⟩:=x
     have e:a=b:=e
     rw[e]
    simp only[h,h2,if_false,Bool.false_eq_true]
    exact ih (m+1)
 exact fun l=>h l 0
def Own8 (M:Nat) (vs:List Value) (b:Nat):Prop:=b=M∨∃v∈vs,v.ownBlock=some b
structure MkW (F:Nat→Prop) (d M:Nat) (ts:List CType) (rs:List CRule) (vars:List ByteArray) (nm:ByteArray) (sal nv:Int) (cs:List CCond) (acs:List CAct) (vT vR vV vC vA:Value) (W:World):Prop where
 f:∀b,F b→b<W.heap.size∧¬Own8 M [vT,vR,vV,vC,vA] b
 m:W.heap[M]? = some (.cells #[vT,vR,vV,.string nm,.int .i64 sal,.int .i64 nv,vC,vA] 77 (0,0))
 t:RowIn W F 48 typeRd ts vT
 r:RowIn W F 46 (ruleRd d) rs vR
 v:RowIn W F 9 Rd.str vars vV
 c:RowIn W F 60 (condRd d) cs vC
 a:RowIn W F 66 (actRd d) acs vA
theorem row_ne {α:Type}{W:World}{F:Nat→Prop}{E E2:TypeId}{r:Rd α}{xs:List α}{v:Value}{M:Nat}{cs:Array Value}(hm:W.heap[M]? = some (.cells cs E2 (0,0)))(h:RowIn W F E r xs v)(hne:E≠E2):v.ownBlock≠some M:=fun e=>by
 obtain⟨ds,h1⟩:=h.type e
 rw[hm] at h1
 injection h1 with h1
 injection h1 with _ h1
 exact hne h1.symm
theorem push_other {α:Type}{W W' W4:World}{M:Nat}{F:Nat→Prop}{E:TypeId}{r:Rd α}{xs:List α}{v v2:Value}(h:RowIn W4 F E r xs v)(hM:v.ownBlock≠some M)(hC:Chg (fun x=>v2.ownBlock=some x) W4 W)(hv:∀g,v.ownBlock=some g→v2.ownBlock≠some g)
  (hF:∀b,F b→b<W4.heap.size∧v2.ownBlock≠some b∧b≠M) (hw:∀b,b≠M→W'.heap[b]? = W.heap[b]?):RowIn W' F E r xs v:=
 (h.other hC hv (fun b hb=>⟨(hF b hb).1,(hF b hb).2.1⟩) (fun _ hb=>hb)).stored hM (fun b hb=>(hF b hb).2.2) (fun _ hb=>hb) hw
theorem push_self {α:Type}{W W' W4:World}{M:Nat}{F:Nat→Prop}{E:TypeId}{r:Rd α}{xs:List α}{x:α}{v:Value}{us vs:List Value}{g cap n:Nat}(hn:xs.length=n)(hc:r.cells W4 F xs us)(hx:r.at_ W4 F x vs)(hC:Chg (fun b=>v.ownBlock=some b) W4 W)(hrow:W.ownsRow 0 E r.n (.slice (some ⟨g,0,none⟩) (n+1) cap) (n+1) (us++vs))
  (hF:∀b,F b→b<W4.heap.size∧v.ownBlock≠some b∧b≠M) (hgM:g≠M) (hw:∀b,b≠M→W'.heap[b]? = W.heap[b]?):RowIn W' F E r (xs++[x]) (.slice (some ⟨g,0,none⟩) (n+1) cap):=by
 have hk:∀b,F b→∀o,W4.heap[b]? = some o→W'.heap[b]? = some o:=fun b hb o ho=>(hw b (hF b hb).2.2).trans ((hC.block b (hF b hb).1 (hF b hb).2.1).trans ho)
 refine⟨us++vs,?_,Rd.cells_keep hk (Rd.cells_snoc hc hx)⟩
 rw[List.length_append,hn]
 exact owns_keep hrow fun g' hg'=>by
  injection hg' with hg'
  have hg':g=g':=hg'
  subst hg'
  exact hw g hgM
section
variable {F F':Nat→Prop} {d M:Nat} {ts:List CType} {rs:List CRule} {vars:List ByteArray} {nm:ByteArray} {sal nv:Int} {cs:List CCond} {acs:List CAct} {vT vR vV vC vA:Value} {W W':World}
theorem MkW.lt (h:MkW F d M ts rs vars nm sal nv cs acs vT vR vV vC vA W):M<W.heap.size:=(Array.getElem?_eq_some_iff.1 h.m).1
theorem MkW.own_lt (h:MkW F d M ts rs vars nm sal nv cs acs vT vR vV vC vA W){b:Nat}(hb:Own8 M [vT,vR,vV,vC,vA] b):b<W.heap.size:=by
 rcases hb with rfl|⟨v,hv,hb⟩
 ·exact h.lt
 ·simp only[List.mem_cons,List.not_mem_nil,or_false] at hv
  rcases hv with rfl|rfl|rfl|rfl|rfl
  ·exact h.t.lt hb
  ·exact h.r.lt hb
  ·exact h.v.lt hb
  ·exact h.c.lt hb
  ·exact h.a.lt hb
theorem MkW.upd (h:MkW F d M ts rs vars nm sal nv cs acs vT vR vV vC vA W)(hsz:W.heap.size≤W'.heap.size)(hk:∀b,(F b∨Own8 M [vT,vR,vV,vC,vA] b)→W'.heap[b]? = W.heap[b]?):MkW F d M ts rs vars nm sal nv cs acs vT vR vV vC vA W':=by
 have h1:∀b,F b→∀o,W.heap[b]? = some o→W'.heap[b]? = some o:=fun b hb o ho=>(hk b (Or.inl hb)).trans ho
 have h2:∀v∈[vT,vR,vV,vC,vA],∀g,v.ownBlock=some g→W'.heap[g]? = W.heap[g]?:=fun v hv g hg=>hk g (Or.inr (Or.inr ⟨v,hv,hg⟩))
 exact⟨fun b hb=>⟨Nat.lt_of_lt_of_le (h.f b hb).1 hsz,(h.f b hb).2⟩,(hk M (Or.inr (Or.inl rfl))).trans h.m,h.t.keep (h2 _ (by simp)) h1 (fun _ h=>h),h.r.keep (h2 _ (by simp)) h1 (fun _ h=>h),h.v.keep (h2 _ (by simp)) h1 (fun _ h=>h),h.c.keep (h2 _ (by simp)) h1 (fun _ h=>h),h.a.keep (h2 _ (by simp)) h1 (fun _ h=>h)⟩
theorem MkW.below (h:MkW F d M ts rs vars nm sal nv cs acs vT vR vV vC vA W)(hb:Below W.heap.size W W'):MkW F d M ts rs vars nm sal nv cs acs vT vR vV vC vA W':=
 h.upd hb.size fun b hb'=>hb.block b (by rcases hb' with h1|h1;exact (h.f b h1).1;exact h.own_lt h1)
theorem MkW.grow (h:MkW F d M ts rs vars nm sal nv cs acs vT vR vV vC vA W)(hs:∀b,F b→F' b)(hf:∀b,F' b→b<W.heap.size∧¬Own8 M [vT,vR,vV,vC,vA] b):MkW F' d M ts rs vars nm sal nv cs acs vT vR vV vC vA W:=
 ⟨hf,h.m,h.t.sub hs,h.r.sub hs,h.v.sub hs,h.c.sub hs,h.a.sub hs⟩
theorem MkW.not_own (h:MkW F d M ts rs vars nm sal nv cs acs vT vR vV vC vA W){g:Nat}{xs:Array Value}{E:TypeId}(hg:W.heap[g]? = some (.cells xs E (0,0)))(hE:[77,48,46,9,60,66].contains E=false):¬Own8 M [vT,vR,vV,vC,vA] g:=by
 have hne:∀x∈[77,48,46,9,60,66],x≠E:=fun x hx e=>by
  subst e
  rw[List.contains_iff_mem.2 hx] at hE
  cases hE
 rintro (rfl|⟨v,hv,hb⟩)
 ·have:=h.m
  rw[hg] at this
  injection this with this
  injection this with _ this
  exact hne 77 (by simp) this.symm
 ·simp only[List.mem_cons,List.not_mem_nil,or_false] at hv
  rcases hv with rfl|rfl|rfl|rfl|rfl
  ·exact row_ne hg h.t (hne _ (by simp)) hb
  ·exact row_ne hg h.r (hne _ (by simp)) hb
  ·exact row_ne hg h.v (hne _ (by simp)) hb
  ·exact row_ne hg h.c (hne _ (by simp)) hb
  ·exact row_ne hg h.a (hne _ (by simp)) hb
theorem MkW.pushV {W4:World}{x:ByteArray}{us vs:List Value}{g cap n:Nat}(h:MkW F d M ts rs vars nm sal nv cs acs vT vR vV vC vA W4)(hn:vars.length=n)(hc:Rd.str.cells W4 F vars us)(hx:Rd.str.at_ W4 F x vs)(hg:vV.ownBlock=some g∨W4.heap.size≤g)
  (hC:Chg (fun b=>vV.ownBlock=some b) W4 W) (hrow:W.ownsRow 0 9 Rd.str.n (.slice (some ⟨g,0,none⟩) (n+1) cap) (n+1) (us++vs)) :
  MkW F d M ts rs (vars++[x]) nm sal nv cs acs vT vR (.slice (some ⟨g,0,none⟩) (n+1) cap) vC vA (W.setCell ⟨M,2,none⟩ (.slice (some ⟨g,0,none⟩) (n+1) cap))∧Chg (Own8 M [vT,vR,vV,vC,vA]) W4 (W.setCell ⟨M,2,none⟩ (.slice (some ⟨g,0,none⟩) (n+1) cap))∧W.heap[M]? = W4.heap[M]?:=by
 have hMne:=row_ne h.m h.v (by decide)
 have hw:∀b,b≠M→(W.setCell ⟨M,2,none⟩ (.slice (some ⟨g,0,none⟩) (n+1) cap)).heap[b]? = W.heap[b]?:=fun b hb=>Below.heap_setCell W ⟨M,2,none⟩ _ b hb
 have hM:W.heap[M]? = W4.heap[M]?:=hC.block M h.lt hMne
 have hgM:g≠M:=by
  rcases hg with hg|hg
  ·exact fun e=>hMne (e ▸ hg)
  ·have:=h.lt;omega
 have hF:∀b,F b→b<W4.heap.size∧vV.ownBlock≠some b∧b≠M:=fun b hb=>⟨(h.f b hb).1,fun e=>(h.f b hb).2 (Or.inr ⟨vV,by simp,e⟩),fun e=>(h.f b hb).2 (Or.inl e)⟩
 have hsz:(W.setCell ⟨M,2,none⟩ (.slice (some ⟨g,0,none⟩) (n+1) cap)).heap.size=W.heap.size:=by simp[World.setCell]
 have hs:∀b,F b→b<(W.setCell ⟨M,2,none⟩ (.slice (some ⟨g,0,none⟩) (n+1) cap)).heap.size∧¬Own8 M [vT,vR,(.slice (some ⟨g,0,none⟩) (n+1) cap),vC,vA] b:=fun b hb=>by
  refine⟨by rw[hsz];exact Nat.lt_of_lt_of_le (h.f b hb).1 hC.size,fun ho=>?_⟩
  rcases ho with ho|⟨v,hv,ho⟩
  ·exact (hF b hb).2.2 ho
  ·by_cases hvn:v=(.slice (some ⟨g,0,none⟩) (n+1) cap)
   ·subst hvn
    injection ho with ho
    have ho:g=b:=ho
    subst ho
    rcases hg with hg|hg
    ·exact (hF g hb).2.1 hg
    ·have:=(hF g hb).1;omega
   ·refine (h.f b hb).2 (Or.inr ⟨v,?_,ho⟩)
    simp only[List.mem_cons,List.not_mem_nil,or_false] at hv ⊢
    rcases hv with hv|hv|hv|hv|hv<;>simp_all
 refine⟨⟨hs,?_,push_other h.t (row_ne h.m h.t (by decide)) hC (fun g hg=>h.t.apart h.v (by decide) hg) hF hw,push_other h.r (row_ne h.m h.r (by decide)) hC (fun g hg=>h.r.apart h.v (by decide) hg) hF hw,push_self hn hc hx hC hrow hF hgM hw,push_other h.c (row_ne h.m h.c (by decide)) hC (fun g hg=>h.c.apart h.v (by decide) hg) hF hw,push_other h.a (row_ne h.m h.a (by decide)) hC (fun g hg=>h.a.apart h.v (by decide) hg) hF hw⟩,?_,hM⟩
 ·exact heap_set (hM.trans h.m) 2 _
 ·exact (Chg.sub (G:=Own8 M [vT,vR,vV,vC,vA]) hC (fun b hb=>Or.inr ⟨vV,by simp,hb⟩)).setCell (p:=⟨M,2,none⟩) (Or.inl (Or.inl rfl)) _
theorem MkW.pushC {W4:World}{x:CCond}{us vs:List Value}{g cap n:Nat}(h:MkW F d M ts rs vars nm sal nv cs acs vT vR vV vC vA W4)(hn:cs.length=n)(hc:(condRd d).cells W4 F cs us)(hx:(condRd d).at_ W4 F x vs)(hg:vC.ownBlock=some g∨W4.heap.size≤g)
  (hC:Chg (fun b=>vC.ownBlock=some b) W4 W) (hrow:W.ownsRow 0 60 (condRd d).n (.slice (some ⟨g,0,none⟩) (n+1) cap) (n+1) (us++vs)) :
  MkW F d M ts rs vars nm sal nv (cs++[x]) acs vT vR vV (.slice (some ⟨g,0,none⟩) (n+1) cap) vA (W.setCell ⟨M,6,none⟩ (.slice (some ⟨g,0,none⟩) (n+1) cap))∧Chg (Own8 M [vT,vR,vV,vC,vA]) W4 (W.setCell ⟨M,6,none⟩ (.slice (some ⟨g,0,none⟩) (n+1) cap))∧W.heap[M]? = W4.heap[M]?:=by
 have hMne:=row_ne h.m h.c (by decide)
 have hw:∀b,b≠M→(W.setCell ⟨M,6,none⟩ (.slice (some ⟨g,0,none⟩) (n+1) cap)).heap[b]? = W.heap[b]?:=fun b hb=>Below.heap_setCell W ⟨M,6,none⟩ _ b hb
 have hM:W.heap[M]? = W4.heap[M]?:=hC.block M h.lt hMne
 have hgM:g≠M:=by
  rcases hg with hg|hg
  ·exact fun e=>hMne (e ▸ hg)
  ·have:=h.lt;omega
 have hF:∀b,F b→b<W4.heap.size∧vC.ownBlock≠some b∧b≠M:=fun b hb=>⟨(h.f b hb).1,fun e=>(h.f b hb).2 (Or.inr ⟨vC,by simp,e⟩),fun e=>(h.f b hb).2 (Or.inl e)⟩
 have hsz:(W.setCell ⟨M,6,none⟩ (.slice (some ⟨g,0,none⟩) (n+1) cap)).heap.size=W.heap.size:=by simp[World.setCell]
 have hs:∀b,F b→b<(W.setCell ⟨M,6,none⟩ (.slice (some ⟨g,0,none⟩) (n+1) cap)).heap.size∧¬Own8 M [vT,vR,vV,(.slice (some ⟨g,0,none⟩) (n+1) cap),vA] b:=fun b hb=>by
  refine⟨by rw[hsz];exact Nat.lt_of_lt_of_le (h.f b hb).1 hC.size,fun ho=>?_⟩
  rcases ho with ho|⟨v,hv,ho⟩
  ·exact (hF b hb).2.2 ho
  ·by_cases hvn:v=(.slice (some ⟨g,0,none⟩) (n+1) cap)
   ·subst hvn
    injection ho with ho
    have ho:g=b:=ho
    subst ho
    rcases hg with hg|hg
    ·exact (hF g hb).2.1 hg
    ·have:=(hF g hb).1;omega
   ·refine (h.f b hb).2 (Or.inr ⟨v,?_,ho⟩)
    simp only[List.mem_cons,List.not_mem_nil,or_false] at hv ⊢
    rcases hv with hv|hv|hv|hv|hv<;>simp_all
 refine⟨⟨hs,?_,push_other h.t (row_ne h.m h.t (by decide)) hC (fun g hg=>h.t.apart h.c (by decide) hg) hF hw,push_other h.r (row_ne h.m h.r (by decide)) hC (fun g hg=>h.r.apart h.c (by decide) hg) hF hw,push_other h.v (row_ne h.m h.v (by decide)) hC (fun g hg=>h.v.apart h.c (by decide) hg) hF hw,push_self hn hc hx hC hrow hF hgM hw,push_other h.a (row_ne h.m h.a (by decide)) hC (fun g hg=>h.a.apart h.c (by decide) hg) hF hw⟩,?_,hM⟩
 ·exact heap_set (hM.trans h.m) 6 _
 ·exact (Chg.sub (G:=Own8 M [vT,vR,vV,vC,vA]) hC (fun b hb=>Or.inr ⟨vC,by simp,hb⟩)).setCell (p:=⟨M,6,none⟩) (Or.inl (Or.inl rfl)) _
theorem MkW.pushA {W4:World}{x:CAct}{us vs:List Value}{g cap n:Nat}(h:MkW F d M ts rs vars nm sal nv cs acs vT vR vV vC vA W4)(hn:acs.length=n)(hc:(actRd d).cells W4 F acs us)(hx:(actRd d).at_ W4 F x vs)(hg:vA.ownBlock=some g∨W4.heap.size≤g)
  (hC:Chg (fun b=>vA.ownBlock=some b) W4 W) (hrow:W.ownsRow 0 66 (actRd d).n (.slice (some ⟨g,0,none⟩) (n+1) cap) (n+1) (us++vs)) :
  MkW F d M ts rs vars nm sal nv cs (acs++[x]) vT vR vV vC (.slice (some ⟨g,0,none⟩) (n+1) cap) (W.setCell ⟨M,7,none⟩ (.slice (some ⟨g,0,none⟩) (n+1) cap))∧Chg (Own8 M [vT,vR,vV,vC,vA]) W4 (W.setCell ⟨M,7,none⟩ (.slice (some ⟨g,0,none⟩) (n+1) cap))∧W.heap[M]? = W4.heap[M]?:=by
 have hMne:=row_ne h.m h.a (by decide)
 have hw:∀b,b≠M→(W.setCell ⟨M,7,none⟩ (.slice (some ⟨g,0,none⟩) (n+1) cap)).heap[b]? = W.heap[b]?:=fun b hb=>Below.heap_setCell W ⟨M,7,none⟩ _ b hb
 have hM:W.heap[M]? = W4.heap[M]?:=hC.block M h.lt hMne
 have hgM:g≠M:=by
  rcases hg with hg|hg
  ·exact fun e=>hMne (e ▸ hg)
  ·have:=h.lt;omega
 have hF:∀b,F b→b<W4.heap.size∧vA.ownBlock≠some b∧b≠M:=fun b hb=>⟨(h.f b hb).1,fun e=>(h.f b hb).2 (Or.inr ⟨vA,by simp,e⟩),fun e=>(h.f b hb).2 (Or.inl e)⟩
 have hsz:(W.setCell ⟨M,7,none⟩ (.slice (some ⟨g,0,none⟩) (n+1) cap)).heap.size=W.heap.size:=by simp[World.setCell]
 have hs:∀b,F b→b<(W.setCell ⟨M,7,none⟩ (.slice (some ⟨g,0,none⟩) (n+1) cap)).heap.size∧¬Own8 M [vT,vR,vV,vC,(.slice (some ⟨g,0,none⟩) (n+1) cap)] b:=fun b hb=>by
  refine⟨by rw[hsz];exact Nat.lt_of_lt_of_le (h.f b hb).1 hC.size,fun ho=>?_⟩
  rcases ho with ho|⟨v,hv,ho⟩
  ·exact (hF b hb).2.2 ho
  ·by_cases hvn:v=(.slice (some ⟨g,0,none⟩) (n+1) cap)
   ·subst hvn
    injection ho with ho
    have ho:g=b:=ho
    subst ho
    rcases hg with hg|hg
    ·exact (hF g hb).2.1 hg
    ·have:=(hF g hb).1;omega
   ·refine (h.f b hb).2 (Or.inr ⟨v,?_,ho⟩)
    simp only[List.mem_cons,List.not_mem_nil,or_false] at hv ⊢
    rcases hv with hv|hv|hv|hv|hv<;>simp_all
 refine⟨⟨hs,?_,push_other h.t (row_ne h.m h.t (by decide)) hC (fun g hg=>h.t.apart h.a (by decide) hg) hF hw,push_other h.r (row_ne h.m h.r (by decide)) hC (fun g hg=>h.r.apart h.a (by decide) hg) hF hw,push_other h.v (row_ne h.m h.v (by decide)) hC (fun g hg=>h.v.apart h.a (by decide) hg) hF hw,push_other h.c (row_ne h.m h.c (by decide)) hC (fun g hg=>h.c.apart h.a (by decide) hg) hF hw,push_self hn hc hx hC hrow hF hgM hw⟩,?_,hM⟩
 ·exact heap_set (hM.trans h.m) 7 _
 ·exact (Chg.sub (G:=Own8 M [vT,vR,vV,vC,vA]) hC (fun b hb=>Or.inr ⟨vA,by simp,hb⟩)).setCell (p:=⟨M,7,none⟩) (Or.inl (Or.inl rfl)) _
end
theorem index_any (vars:List ByteArray)(x:ByteArray)(v:Value)(F:Nat→Prop)(w:World)(hv:Rd.str.row w F vars v):Calls Tryz.prog 86 #[v,.string x] w (fun e w'=>e=.returned (.int .i64 (idxI (idxOf x vars)))∧Below w.heap.size w w'):=by
 have hmx:=Rd.row_len hv
 rcases hv with ⟨rfl,p,c,rfl⟩|⟨b,off,cap,h1,h2,_,h3,h4,rfl,h6⟩
 ·refine (Tryz.slices_Index_string_empty p c x w).mono ?_
  rintro e w' ⟨rfl,rfl⟩
  exact⟨by rw[idxS_eq],Below.refl _ _⟩
 ·refine (Tryz.slices_Index_string b off vars.length cap vars x w (Nat.le_refl _) (by unfold maxLen at hmx;omega) (fun j hj=>?_)).mono ?_
  ·obtain⟨vs,⟨rfl,_⟩,hc⟩:=h6 j vars[j] (List.getElem?_eq_getElem hj)
   have:=hc 0 _ rfl
   have e1:off+j*Rd.str.n+0=off+j:=by show off+j*1+0=off+j;omega
   rw[e1] at this
   rw[this,List.getD_eq_getElem?_getD,List.getElem?_eq_getElem hj];rfl
  ·rintro e w' ⟨rfl,rfl⟩
   exact⟨by rw[List.take_of_length_le (Nat.le_refl _),idxS_eq],Below.refl _ _⟩
theorem elemStr:Elem 9 75 1 16:=Elem.of (z:=.string ByteArray.empty) Tryz.underlying75 (by kernel_rfl) rfl (by decide) (by decide)
def argOne (binds:Bool) (vars:List ByteArray) (T:Tree):Except Flt (List ByteArray×CArg):=
 if T.kind==12 then .ok (vars,⟨1,0,.zero⟩)
 else if T.kind==13 then match idxOf T.text vars with
  | some k=>.ok (vars,⟨3,k,.zero⟩)
  | none=>if !binds then .error (213,T.place) else if 16≤vars.length then .error (204,T.place) else .ok (vars++[T.text],⟨2,vars.length,.zero⟩)
 else .ok (vars,⟨4,0,constM T⟩)
theorem argStep_one (binds:Bool)(s:List ByteArray×List CArg)(T:Tree):argStep binds s T=match argOne binds s.1 T with | .ok r=>.ok (r.1,s.2++[r.2]) | .error e=>.error e:=by
 unfold argStep argOne
 split
 ·rfl
 ·split
  ·cases idxOf T.text s.1 with
   | some k=>rfl
   | none =>
    dsimp only
    split
    ·rfl
    ·split<;>rfl
  ·rfl
def Asks (L:Nat) (l:List (Bool×Int)) (W:World) (v:Value):Prop:=∃g,v=.slice (some ⟨g,0,none⟩) l.length l.length∧L≤g∧W.heap[g]? = some (.cells (askC l).toArray 97 (0,0))
theorem Asks.below {L:Nat}{l:List (Bool×Int)}{W W':World}{v:Value}(h:Asks L l W v)(hb:Below W.heap.size W W'):Asks L l W' v:=by
 obtain⟨g,h1,h2,h3⟩:=h
 exact⟨g,h1,h2,heap_below hb h3 (Array.getElem?_eq_some_iff.1 h3).1⟩
theorem upon_asks {o:Oper}{a:Act}{W:World}{G:Value→World→Prop}{L n:Nat}{l:List (Bool×Int)}{parts:Array (Nat×Operand)}(ho:o.op=.buildSlice 129 n parts)(hn:l.length=n)(hpos:0<n∧n≤10)
  (hp:∀z:Value,z.cells.size=2→Instr.fill (fun i=>some (i*2,2)) ((Array.range (n*2)).map (z.cells[· % z.cells.size]!)) (parts.map fun (x:Nat×Operand)=>(x.1,a.eval x.2)).toList=some (askC l).toArray) (hL:L≤W.heap.size)
  (hG:∀v W',Below W.heap.size W W'→Asks L l W' v→G v W'):RE.Upon Tryz.prog o a W G:=by
 obtain⟨i0,z,hi0,hz0,hz1,hz2,hz3⟩:=elemAsked.info
 have hrun:(execOp a.eval o).run Tryz.prog W=.ok (.value (.slice (some ⟨W.heap.size,0,none⟩) n n)) (W.alloc (.cells (askC l).toArray 97)):=by
  unfold execOp
  simp only[ho,Sem.run_bind]
  rw[run_buildSlice W 129 97 n _ (askC l).toArray i0 z elemAsked.und hi0 hz0 (by rw[hz1];omega) (by rw[hz1];omega) (by rw[hz1];exact hp z hz3)]
  rfl
 exact RE.upon_run hrun (hG _ _ ((Below.refl _ W).alloc (Nat.le_refl _) _) ⟨_,by rw[hn],hL,heap_alloc_new W _⟩)
theorem size2 {z:Value}(h:z.cells.size=2):∃x y,z.cells=#[x,y]:=by
 obtain⟨x,y,hl⟩:∃x y,z.cells.toList=[x,y]:=by
  have h2:z.cells.toList.length=2:=by rw[Array.length_toList];exact h
  match hh:z.cells.toList,h2 with
  | [x,y],_=>exact⟨x,y,rfl⟩
 exact⟨x,y,by rw[←Array.toArray_toList (xs:=z.cells),hl]⟩
theorem fill_asks2 (b1 b2:Bool)(e1 e2:Int)(z:Value)(h:z.cells.size=2):Instr.fill (fun i=>some (i*2,2)) ((Array.range (2*2)).map (z.cells[· % z.cells.size]!)) [(0,.agg #[.bool b1,.int .i64 e1]),(1,.agg #[.bool b2,.int .i64 e2])]=some (askC [(b1,e1),(b2,e2)]).toArray:=by
 obtain⟨x,y,hz⟩:=size2 h
 rw[hz]
 kernel_rfl
theorem fill_asks3 (b1 b2 b3:Bool)(e1 e2 e3:Int)(z:Value)(h:z.cells.size=2):Instr.fill (fun i=>some (i*2,2)) ((Array.range (3*2)).map (z.cells[· % z.cells.size]!)) [(0,.agg #[.bool b1,.int .i64 e1]),(1,.agg #[.bool b2,.int .i64 e2]),(2,.agg #[.bool b3,.int .i64 e3])]=some (askC [(b1,e1),(b2,e2),(b3,e3)]).toArray:=by
 obtain⟨x,y,hz⟩:=size2 h
 rw[hz]
 kernel_rfl
theorem upon_asks2 {o:Oper}{a:Act}{W:World}{G:Value→World→Prop}{L:Nat}(b1 b2:Bool)(e1 e2:Int)(x y:Operand)(ho:o.op=.buildSlice 129 2 #[(0,x),(1,y)])(hx:a.eval x=.agg #[.bool b1,.int .i64 e1])(hy:a.eval y=.agg #[.bool b2,.int .i64 e2])(hL:L≤W.heap.size)
  (hG:∀v W',Below W.heap.size W W'→Asks L [(b1,e1),(b2,e2)] W' v→G v W'):RE.Upon Tryz.prog o a W G:=by
 refine upon_asks (l:=[(b1,e1),(b2,e2)]) ho rfl (by decide) (fun z hz=>?_) hL hG
 have e:((#[(0,x),(1,y)]:Array (Nat×Operand)).map fun (q:Nat×Operand)=>(q.1,a.eval q.2)).toList=[(0,a.eval x),(1,a.eval y)]:=by simp
 rw[e,hx,hy]
 exact fill_asks2 b1 b2 e1 e2 z hz
theorem upon_asks3 {o:Oper}{a:Act}{W:World}{G:Value→World→Prop}{L:Nat}(b1 b2 b3:Bool)(e1 e2 e3:Int)(x y u:Operand)(ho:o.op=.buildSlice 129 3 #[(0,x),(1,y),(2,u)])(hx:a.eval x=.agg #[.bool b1,.int .i64 e1])(hy:a.eval y=.agg #[.bool b2,.int .i64 e2])(hu:a.eval u=.agg #[.bool b3,.int .i64 e3])(hL:L≤W.heap.size)
  (hG:∀v W',Below W.heap.size W W'→Asks L [(b1,e1),(b2,e2),(b3,e3)] W' v→G v W'):RE.Upon Tryz.prog o a W G:=by
 refine upon_asks (l:=[(b1,e1),(b2,e2),(b3,e3)]) ho rfl (by decide) (fun z hz=>?_) hL hG
 have e:((#[(0,x),(1,y),(2,u)]:Array (Nat×Operand)).map fun (q:Nat×Operand)=>(q.1,a.eval q.2)).toList=[(0,a.eval x),(1,a.eval y),(2,a.eval u)]:=by simp
 rw[e,hx,hy,hu]
 exact fill_asks3 b1 b2 b3 e1 e2 e3 z hz
def st5 (W:World) (g:Nat) (a b c d e:Value):World:=((((W.setCell ⟨g,0,none⟩ a).setCell ⟨g,1,none⟩ b).setCell ⟨g,2,none⟩ c).setCell ⟨g,3,none⟩ d).setCell ⟨g,4,none⟩ e
theorem st5_at {W:World}{g:Nat}{x0 x1 x2 x3 x4:Value}{t:TypeId}(h:W.heap[g]? = some (.cells #[x0,x1,x2,x3,x4] t (0,0)))(a b c d e:Value):(st5 W g a b c d e).heap[g]? = some (.cells #[a,b,c,d,e] t (0,0)):=
 heap_set (heap_set (heap_set (heap_set (heap_set h 0 a) 1 b) 2 c) 3 d) 4 e
theorem st5_below {B:Nat}{w W:World}{g:Nat}(hb:Below B w W)(hg:B≤g)(a b c d e:Value):Below B w (st5 W g a b c d e):=
 ((((hb.setCell hg a).setCell hg b).setCell hg c).setCell hg d).setCell hg e
theorem st5_other {W:World}{g:Nat}(a b c d e:Value)(k:Nat)(h:k≠g):(st5 W g a b c d e).heap[k]? = W.heap[k]?:=by
 have hh:∀(V:World) (i:Nat) (u:Value),(V.setCell ⟨g,i,none⟩ u).heap[k]? = V.heap[k]?:=fun V i u=>Below.heap_setCell V ⟨g,i,none⟩ u k h
 unfold st5
 rw[hh,hh,hh,hh,hh]
theorem st5_size {W:World}{g:Nat}(a b c d e:Value):(st5 W g a b c d e).heap.size=W.heap.size:=by simp[st5,World.setCell]
theorem arg_fin (W:World)(Rp:Ending→World→Prop)(T:Nat)(a b c d e:Value)(hT:W.heap[T]? = some (.cells #[a,b,c,d,e] 63 (0,0)))
  (tmps:Array Value) (h2:tmps.getD 6 undef=.pointer (some ⟨T,0,none⟩)) (hR:Rp (.returned (.agg #[a,b,c,d,e])) W):bodyPost Tryz.prog Tryz.f59 Rp .ret ⟨tmps,[]⟩ W:=by
 obtain⟨c0,c1,c2,c3,c4⟩:=cells5 hT
 have h4':tmps[6]?.getD undef=.pointer (some ⟨T,0,none⟩):=by simpa using h2
 refine bodyPost_ret (v:=.agg #[a,b,c,d,e]) ?_ rfl hR
 simp[results,Tryz.results59,go_sem,h4',c0,c1,c2,c3,c4]
theorem chg_step {F G:Nat→Prop}{a b c:World}(h:Chg F a b)(k:Chg G b c)(hG:∀x,G x→F x∨a.heap.size≤x):Chg F a c:=
 ⟨k.os.trans h.os,k.tape.trans h.tape,k.output.trans h.output,Nat.le_trans h.size k.size,fun i hi hf=>(k.block i (Nat.lt_of_lt_of_le hi h.size) (fun hg=>by rcases hG i hg with h|h;exact hf h;omega)).trans (h.block i hi hf)⟩
def Grew (v v':Value) (n:Nat):Prop:=∀b,v'.ownBlock=some b→v.ownBlock=some b∨n≤b
def ArgPost (F:Nat→Prop) (d M:Nat) (ts:List CType) (rs:List CRule) (_vars:List ByteArray) (nm:ByteArray) (sal nv:Int) (cs:List CCond) (acs:List CAct) (vT vR vV vC vA:Value) (r:Except Flt (List ByteArray×CArg)) (w:World) (e:Ending) (w':World):Prop:=
 Chg (Own8 M [vT,vR,vV,vC,vA]) w w'∧match r with
 | .ok x=>e=.returned (.agg (argC x.2).toArray)∧∃vV',MkW F d M ts rs x.1 nm sal nv cs acs vT vR vV' vC vA w'∧Grew vV vV' w.heap.size
 | .error er=>e=faultP er.1 er.2
theorem arg_any (F:Nat→Prop)(d M:Nat)(ts:List CType)(rs:List CRule)(vars:List ByteArray)(nm:ByteArray)(sal nv:Int)(cs:List CCond)(acs:List CAct)(vT vR vV vC vA:Value)(T:Tree)(p:Option Addr)(n c:Nat)(binds:Bool)(w:World)
  (hw:MkW F d M ts rs vars nm sal nv cs acs vT vR vV vC vA w) (hk:T.kind=12∨T.kind=13∨T.kind=14∨T.kind=15) (hs:T.text.size≤72007) (hvn:vars.length≤16) :
  Calls Tryz.prog 59 #[.pointer (some ⟨M,0,none⟩),.agg #[.int .u8 T.kind,.string T.text,.int .i64 T.num,.int .i64 T.place,.slice p n c],.bool binds] w (ArgPost F d M ts rs vars nm sal nv cs acs vT vR vV vC vA (argOne binds vars T) w):=by
 have hb1:Below w.heap.size w ((w.alloc (.cells #[.int .u8 T.kind,.string T.text,.int .i64 T.num,.int .i64 T.place,.slice p n c] 25)).alloc (.cells #[.int .u8 0,.int .i64 0,.int .u8 0,.int .i64 0,.string ⟨#[]⟩] 63)):=((Below.refl _ w).alloc (Nat.le_refl _) _).alloc (by simp) _
 have hcases:T.kind=12∨¬T.kind=12:=by omega
 rcases hcases with h12|h12
 ·have HO:Hid (argOne binds vars T=.ok (vars,⟨1,0,.zero⟩)):=by show _=_;unfold argOne;rw[h12];rfl
  have hb2:Below w.heap.size w ((w.alloc (.cells #[.int .u8 12,.string T.text,.int .i64 T.num,.int .i64 T.place,.slice p n c] 25)).alloc (.cells #[.int .u8 1,.int .i64 0,.int .u8 0,.int .i64 0,.string ⟨#[]⟩] 63)):=((Below.refl _ w).alloc (Nat.le_refl _) _).alloc (by simp) _
  obtain⟨_,hx1,_⟩:=two_new' w (.cells #[.int .u8 12,.string T.text,.int .i64 T.num,.int .i64 T.place,.slice p n c] 25) (.cells #[.int .u8 1,.int .i64 0,.int .u8 0,.int .i64 0,.string ⟨#[]⟩] 63)
  have HX:=Hd hx1
  have HP:Hid (ArgPost F d M ts rs vars nm sal nv cs acs vT vR vV vC vA (argOne binds vars T) w (.returned (.agg #[.int .u8 1,.int .i64 0,.int .u8 0,.int .i64 0,.string ⟨#[]⟩])) ((w.alloc (.cells #[.int .u8 12,.string T.text,.int .i64 T.num,.int .i64 T.place,.slice p n c] 25)).alloc (.cells #[.int .u8 1,.int .i64 0,.int .u8 0,.int .i64 0,.string ⟨#[]⟩] 63))):=by
   refine⟨Chg.of_below hb2,?_⟩
   rw[HO.out]
   exact⟨rfl,vV,hw.below hb2,fun b hb=>Or.inl hb⟩
  rw[h12]
  clear hw hb1 hb2 hx1 hk h12 HO
  go_enter Tryz.func59,Tryz.ntmps59
  go_wp2_with fail
  exact arg_fin _ _ (w.heap.size+1) _ _ _ _ _ HX.out _ rfl HP.out
 obtain⟨w1,hw1⟩:∃w1,w1=(w.alloc (.cells #[.int .u8 T.kind,.string T.text,.int .i64 T.num,.int .i64 T.place,.slice p n c] 25)).alloc (.cells #[.int .u8 0,.int .i64 0,.int .u8 0,.int .i64 0,.string ⟨#[]⟩] 63):=⟨_,rfl⟩
 obtain⟨hx0,hx1,_⟩:=two_new' w (.cells #[.int .u8 T.kind,.string T.text,.int .i64 T.num,.int .i64 T.place,.slice p n c] 25) (.cells #[.int .u8 0,.int .i64 0,.int .u8 0,.int .i64 0,.string ⟨#[]⟩] 63)
 rw[←hw1] at hb1 hx0 hx1
 have HB1:=Hd hb1
 have HX0:=Hd hx0
 have HX1:=Hd hx1
 have HW:=Hd hw
 have HW1:=Hd (hw.below hb1)
 clear hw hb1 hx0 hx1
 by_cases h13:T.kind=13
 ·obtain⟨pV,cV,rfl⟩:=HW1.out.v.shape
  obtain⟨nv1,hnv⟩:∃nv1,vars.length=nv1:=⟨_,rfl⟩
  have hm:=HW1.out.m
  have HM1:=Hd hm
  have HI:=Hd (fun (x:Wb w1)=>index_any vars T.text (.slice pV vars.length cV) (fun _=>True) x.1 ((HW1.out.below x.2).v.row (fun _ _=>trivial) (fun _ _=>trivial)))
  have HN:=Hd hnv
  have HO:Hid (argOne binds vars T=match idxOf T.text vars with|some k=>.ok (vars,⟨3,k,.zero⟩)|none=>if !binds then .error (213,T.place) else if 16≤vars.length then .error (204,T.place) else .ok (vars++[T.text],⟨2,vars.length,.zero⟩)):=by show _=_;unfold argOne;rw[h13];rfl
  rw[hnv] at HI hm hvn
  obtain⟨e0,e1,e2,e3,e4⟩:=cells5 HX0.out
  have hm2:w1.cell? ⟨M,2,none⟩=some (.slice pV nv1 cV):=by rw[cell_of_row _ _ _ _ _ _ hm];rfl
  rw[h13] at hw1 e0 HX0 ⊢
  clear h12 hk hm hnv
  go_enter Tryz.func59,Tryz.ntmps59
  go_upto_region 5 with fail
  change Code.wp _ _ _ _ ((w.alloc (.cells #[.int .u8 13,.string T.text,.int .i64 T.num,.int .i64 T.place,.slice p n c] 25)).alloc (.cells #[.int .u8 0,.int .i64 0,.int .u8 0,.int .i64 0,.string ⟨#[]⟩] 63))
  rw[show (w.alloc (.cells #[.int .u8 13,.string T.text,.int .i64 T.num,.int .i64 T.place,.slice p n c] 25)).alloc (.cells #[.int .u8 0,.int .i64 0,.int .u8 0,.int .i64 0,.string ⟨#[]⟩] 63)=w1 from hw1.symm]
  clear hw1
  have X1:=fun x:Wb w1=>x.cell e1
  have M2:=fun x:Wb w1=>x.cell hm2
  refine wp_region_below (by kernel_rfl) (by kernel_rfl) ?_
  repeat (go_big_quiet_step ((go_at_call 86;exact Calls.below_of (HI.out _))))
  refine wpQuiet_nil ?_
  intro W2 hw'
  have hb2:=wb_below hw'
  have HB2:=Hd hb2
  have HW2:=Hd (HW1.out.below hb2)
  clear hw' hb2 X1 M2 HI e0 e1 e2 e3 e4 hm2
  cases hix:idxOf T.text vars with
  | some k =>
   rw[hix] at HO
   clear hix
   rw[show idxI (some k)=(k:Int) from rfl]
   have hk0:(0:Int)≤k:=by omega
   have hx2:=heap_below HB2.out HX1.out (Array.getElem?_eq_some_iff.1 HX1.out).1
   obtain⟨e0,e1,e2,e3,e4⟩:=cells5 hx2
   have g0:=frozen5 hx2 0
   have g1:=frozen5 hx2 1
   have g2:=frozen5 hx2 2
   have g3:=frozen5 hx2 3
   have g4:=frozen5 hx2 4
   have HP:Hid (ArgPost F d M ts rs vars nm sal nv cs acs vT vR (.slice pV vars.length cV) vC vA (argOne binds vars T) w (.returned (.agg #[.int .u8 3,.int .i64 (k:Int),.int .u8 0,.int .i64 0,.string ⟨#[]⟩])) (st5 W2 (w.heap.size+1) (.int .u8 3) (.int .i64 (k:Int)) (.int .u8 0) (.int .i64 0) (.string ⟨#[]⟩))):=by
    have hbf:=st5_below (HB1.out.trans (HB2.out.mono HB1.out.size)) (Nat.le_succ w.heap.size) (.int .u8 3) (.int .i64 (k:Int)) (.int .u8 0) (.int .i64 0) (.string ⟨#[]⟩)
    refine⟨Chg.of_below hbf,?_⟩
    rw[HO.out]
    exact⟨rfl,_,HW.out.below hbf,fun b hb=>Or.inl hb⟩
   have HXf:=Hd (st5_at hx2 (.int .u8 3) (.int .i64 (k:Int)) (.int .u8 0) (.int .i64 0) (.string ⟨#[]⟩))
   clear hx2
   go_wp2_with fail
   exact arg_fin _ _ (w.heap.size+1) _ _ _ _ _ HXf.out _ rfl HP.out
  | none =>
   rw[hix] at HO
   clear hix
   rw[show idxI none=(-1:Int) from rfl]
   have hx0:=heap_below HB2.out HX0.out (Array.getElem?_eq_some_iff.1 HX0.out).1
   obtain⟨e0,e1,e2,e3,e4⟩:=cells5 hx0
   have hm2:W2.cell? ⟨M,2,none⟩=some (.slice pV nv1 cV):=by rw[cell_of_row _ _ _ _ _ _ HW2.out.m,←HN.out];rfl
   have E0:=fun x:Wb W2=>x.cell e0
   have E1:=fun x:Wb W2=>x.cell e1
   have E2:=fun x:Wb W2=>x.cell e2
   have E3:=fun x:Wb W2=>x.cell e3
   have E4:=fun x:Wb W2=>x.cell e4
   have M2:=fun x:Wb W2=>x.cell hm2
   go_wp2_with fail
   cases binds with
   | false =>
    by_cases hsz:16≤nv1
    ·have hge:(16:Int)≤nv1:=by omega
     refine RE.wp_region_eff (by kernel_rfl) 12 [11] [] (fun _ W=>∃x:Wb W2,W=x.1) (fun W W'=>Below W.heap.size W W') (fun i ys=>ys.getD 0 undef) (fun i W ys=>if i=11 then Asks W2.heap.size [(true,213),(true,204)] W (ys.getD 0 undef) else True) (by kernel_rfl) (fun _ _ _ _ _ _ h hb=>wb_next h hb) (fun i W W' ys h _ hb=>by split at h;(rw[if_pos (by assumption)];exact h.below hb);rw[if_neg (by assumption)];trivial) ⟨⟨W2.drew,(Below.refl _ _).drew⟩,rfl⟩ ?_
     simp only[List.take_succ_cons,List.take_zero,List.drop_succ_cons,List.drop_zero]
     repeat (refine RE.wpE_read (fun W=>∃x:Wb W2,W=x.1) (fun _ _ _ h=>h) rfl rfl rfl ⟨⟨W2.drew,(Below.refl _ _).drew⟩,rfl⟩ ?_;go_big_quiet_step (fail);refine wpQuiet_nil ?_)
     refine RE.wpE_turn rfl rfl ?_ (fun ys=>?_)
     ·intro W hC _ hE
      obtain⟨s9,_,x,rfl⟩:=hC
      exact upon_asks2 true true 213 204 _ _ rfl rfl rfl x.2.size (fun v W' hb ho=>⟨[v],rfl,hb,hb,ho⟩)
     simp only[Act.put,List.setIfInBounds_toArray,List.set_cons_zero,List.set_cons_succ]
     refine RE.wpE_nil ?_
     intro W hS hE
     obtain⟨x,rfl⟩:=hS
     obtain⟨g,eg,lg,hg⟩:Asks W2.heap.size [(true,213),(true,204)] x.1 (ys.getD 0 undef):=hE 11 ys rfl
     rw[eg]
     have HNn:=Hd (none_any [(true,213),(true,204)] 13 T.text T.num T.place (.slice p n c) g 2 2 x.1 rfl (by omega) hg)
     have HBx:=Hd (HB1.out.trans ((HB2.out.trans (x.2.mono HB2.out.size)).mono HB1.out.size))
     have HBy:=Hd x.2
     clear hE eg lg hg E0 E1 E2 E3 E4 M2
     go_wp2_with fail
     refine HNn.out.mono ?_
     rintro e w5 ⟨hb5,he⟩
     have he:e=faultP 213 T.place:=he
     subst he
     refine⟨rfl,Chg.of_below (HBx.out.trans (hb5.mono HBx.out.size)),?_⟩
     rw[HO.out]
     rfl
    ·have hge:¬((16:Int)≤nv1):=by omega
     refine RE.wp_region_eff (by kernel_rfl) 12 [11] [] (fun _ W=>∃x:Wb W2,W=x.1) (fun W W'=>Below W.heap.size W W') (fun i ys=>ys.getD 0 undef) (fun i W ys=>if i=11 then Asks W2.heap.size [(true,213),(false,204)] W (ys.getD 0 undef) else True) (by kernel_rfl) (fun _ _ _ _ _ _ h hb=>wb_next h hb) (fun i W W' ys h _ hb=>by split at h;(rw[if_pos (by assumption)];exact h.below hb);rw[if_neg (by assumption)];trivial) ⟨⟨W2.drew,(Below.refl _ _).drew⟩,rfl⟩ ?_
     simp only[List.take_succ_cons,List.take_zero,List.drop_succ_cons,List.drop_zero]
     repeat (refine RE.wpE_read (fun W=>∃x:Wb W2,W=x.1) (fun _ _ _ h=>h) rfl rfl rfl ⟨⟨W2.drew,(Below.refl _ _).drew⟩,rfl⟩ ?_;go_big_quiet_step (fail);refine wpQuiet_nil ?_)
     refine RE.wpE_turn rfl rfl ?_ (fun ys=>?_)
     ·intro W hC _ hE
      obtain⟨s9,_,x,rfl⟩:=hC
      exact upon_asks2 true false 213 204 _ _ rfl rfl rfl x.2.size (fun v W' hb ho=>⟨[v],rfl,hb,hb,ho⟩)
     simp only[Act.put,List.setIfInBounds_toArray,List.set_cons_zero,List.set_cons_succ]
     refine RE.wpE_nil ?_
     intro W hS hE
     obtain⟨x,rfl⟩:=hS
     obtain⟨g,eg,lg,hg⟩:Asks W2.heap.size [(true,213),(false,204)] x.1 (ys.getD 0 undef):=hE 11 ys rfl
     rw[eg]
     have HNn:=Hd (none_any [(true,213),(false,204)] 13 T.text T.num T.place (.slice p n c) g 2 2 x.1 rfl (by omega) hg)
     have HBx:=Hd (HB1.out.trans ((HB2.out.trans (x.2.mono HB2.out.size)).mono HB1.out.size))
     have HBy:=Hd x.2
     clear hE eg lg hg E0 E1 E2 E3 E4 M2
     go_wp2_with fail
     refine HNn.out.mono ?_
     rintro e w5 ⟨hb5,he⟩
     have he:e=faultP 213 T.place:=he
     subst he
     refine⟨rfl,Chg.of_below (HBx.out.trans (hb5.mono HBx.out.size)),?_⟩
     rw[HO.out]
     rfl
   | true =>
    by_cases hsz:16≤nv1
    ·have hge:(16:Int)≤nv1:=by omega
     have hsz2:16≤vars.length:=by rw[HN.out];exact hsz
     refine RE.wp_region_eff (by kernel_rfl) 12 [11] [] (fun _ W=>∃x:Wb W2,W=x.1) (fun W W'=>Below W.heap.size W W') (fun i ys=>ys.getD 0 undef) (fun i W ys=>if i=11 then Asks W2.heap.size [(false,213),(true,204)] W (ys.getD 0 undef) else True) (by kernel_rfl) (fun _ _ _ _ _ _ h hb=>wb_next h hb) (fun i W W' ys h _ hb=>by split at h;(rw[if_pos (by assumption)];exact h.below hb);rw[if_neg (by assumption)];trivial) ⟨⟨W2.drew,(Below.refl _ _).drew⟩,rfl⟩ ?_
     simp only[List.take_succ_cons,List.take_zero,List.drop_succ_cons,List.drop_zero]
     repeat (refine RE.wpE_read (fun W=>∃x:Wb W2,W=x.1) (fun _ _ _ h=>h) rfl rfl rfl ⟨⟨W2.drew,(Below.refl _ _).drew⟩,rfl⟩ ?_;go_big_quiet_step (fail);refine wpQuiet_nil ?_)
     refine RE.wpE_turn rfl rfl ?_ (fun ys=>?_)
     ·intro W hC _ hE
      obtain⟨s9,_,x,rfl⟩:=hC
      exact upon_asks2 false true 213 204 _ _ rfl rfl rfl x.2.size (fun v W' hb ho=>⟨[v],rfl,hb,hb,ho⟩)
     simp only[Act.put,List.setIfInBounds_toArray,List.set_cons_zero,List.set_cons_succ]
     refine RE.wpE_nil ?_
     intro W hS hE
     obtain⟨x,rfl⟩:=hS
     obtain⟨g,eg,lg,hg⟩:Asks W2.heap.size [(false,213),(true,204)] x.1 (ys.getD 0 undef):=hE 11 ys rfl
     rw[eg]
     have HNn:=Hd (none_any [(false,213),(true,204)] 13 T.text T.num T.place (.slice p n c) g 2 2 x.1 rfl (by omega) hg)
     have HBx:=Hd (HB1.out.trans ((HB2.out.trans (x.2.mono HB2.out.size)).mono HB1.out.size))
     have HBy:=Hd x.2
     clear hE eg lg hg E0 E1 E2 E3 E4 M2
     go_wp2_with fail
     refine HNn.out.mono ?_
     rintro e w5 ⟨hb5,he⟩
     have he:e=faultP 204 T.place:=he
     subst he
     refine⟨rfl,Chg.of_below (HBx.out.trans (hb5.mono HBx.out.size)),?_⟩
     rw[HO.out]
     rw[if_neg (by simp),if_pos hsz2]
     rfl
    ·have hge:¬((16:Int)≤nv1):=by omega
     have hsz2:¬16≤vars.length:=by rw[HN.out];exact hsz
     refine RE.wp_region_eff (by kernel_rfl) 12 [11] [] (fun _ W=>∃x:Wb W2,W=x.1) (fun W W'=>Below W.heap.size W W') (fun i ys=>ys.getD 0 undef) (fun i W ys=>if i=11 then Asks W2.heap.size [(false,213),(false,204)] W (ys.getD 0 undef) else True) (by kernel_rfl) (fun _ _ _ _ _ _ h hb=>wb_next h hb) (fun i W W' ys h _ hb=>by split at h;(rw[if_pos (by assumption)];exact h.below hb);rw[if_neg (by assumption)];trivial) ⟨⟨W2.drew,(Below.refl _ _).drew⟩,rfl⟩ ?_
     simp only[List.take_succ_cons,List.take_zero,List.drop_succ_cons,List.drop_zero]
     repeat (refine RE.wpE_read (fun W=>∃x:Wb W2,W=x.1) (fun _ _ _ h=>h) rfl rfl rfl ⟨⟨W2.drew,(Below.refl _ _).drew⟩,rfl⟩ ?_;go_big_quiet_step (fail);refine wpQuiet_nil ?_)
     refine RE.wpE_turn rfl rfl ?_ (fun ys=>?_)
     ·intro W hC _ hE
      obtain⟨s9,_,x,rfl⟩:=hC
      exact upon_asks2 false false 213 204 _ _ rfl rfl rfl x.2.size (fun v W' hb ho=>⟨[v],rfl,hb,hb,ho⟩)
     simp only[Act.put,List.setIfInBounds_toArray,List.set_cons_zero,List.set_cons_succ]
     refine RE.wpE_nil ?_
     intro W hS hE
     obtain⟨x,rfl⟩:=hS
     obtain⟨g,eg,lg,hg⟩:Asks W2.heap.size [(false,213),(false,204)] x.1 (ys.getD 0 undef):=hE 11 ys rfl
     rw[eg]
     have HNn:=Hd (none_any [(false,213),(false,204)] 13 T.text T.num T.place (.slice p n c) g 2 2 x.1 rfl (by omega) hg)
     have HBx:=Hd (HB1.out.trans ((HB2.out.trans (x.2.mono HB2.out.size)).mono HB1.out.size))
     have HBy:=Hd x.2
     clear hE eg lg hg E0 E1 E2 E3 E4 M2
     go_wp2_with fail
     refine HNn.out.mono ?_
     rintro e w5 ⟨hb5,he⟩
     have he:e=.returned (.tuple #[]):=he
     subst he
     have HO2:Hid (argOne true vars T=.ok (vars++[T.text],⟨2,vars.length,.zero⟩)):=by show _=_;rw[HO.out];rw[if_neg (by simp),if_neg hsz2]
     have HB5:=Hd (HBx.out.trans (hb5.mono HBx.out.size))
     have HX5:=Hd (heap_below (HB2.out.trans ((HBy.out.trans (hb5.mono HBy.out.size)).mono HB2.out.size)) HX0.out (Array.getElem?_eq_some_iff.1 HX0.out).1)
     have HY5:=Hd (heap_below (HB2.out.trans ((HBy.out.trans (hb5.mono HBy.out.size)).mono HB2.out.size)) HX1.out (Array.getElem?_eq_some_iff.1 HX1.out).1)
     have HW5:=Hd (HW.out.below HB5.out)
     clear hb5 e0 e1 e2 e3 e4 hm2
     obtain⟨us,hown,hcl⟩:=HW5.out.v
     have hcl0:=hcl
     rw[HN.out] at hown
     have HOwn:=Hd hown
     have HCl:=Hd hcl0
     obtain⟨e0,e1,e2,e3,e4⟩:=cells5 HX5.out
     have hm2:w5.cell? ⟨M,2,none⟩=some (.slice pV nv1 cV):=by rw[cell_of_row _ _ _ _ _ _ HW5.out.m,←HN.out];rfl
     have hK:∀b,(b=M∨b=w.heap.size)→b<w5.heap.size∧(Value.slice pV nv1 cV).ownBlock≠some b:=fun b hb=>by
      rw[←HN.out]
      rcases hb with rfl|rfl
      ·exact⟨HW5.out.lt,row_ne HW5.out.m HW5.out.v (by decide)⟩
      ·exact⟨(Array.getElem?_eq_some_iff.1 HX5.out).1,row_ne HX5.out HW5.out.v (by decide)⟩
     have HKs:=Hd (ap_ks (E:=9) (sz:=1) (row:=us++[.string T.text]) (K:=fun b=>b=M∨b=w.heap.size) hK)
     have E1:=fun x:Ks w5 (fun b=>b=M∨b=w.heap.size)=>x.cell (Or.inr rfl) e1
     have M2:=fun x:Ks w5 (fun b=>b=M∨b=w.heap.size)=>x.cell (Or.inl rfl) hm2
     clear hown hcl hcl0 e0 e1 e2 e3 e4 hm2 hK
     go_wp2_with fail
     refine RE.wp_region_eff (by kernel_rfl) 9 [7,8] [8] (stA 9 1 w5 pV nv1 cV (us++[.string T.text])) (ApR w5) (fun _ ys=>ys.getD 0 undef) (phA 9 1 w5 pV nv1 cV [.string T.text] (us++[.string T.text]) 7 8) (by kernel_rfl) (fun _ _ _ _ _ _ h hb=>h.below hb) (fun _ _ _ _ h _ hR=>h.keep hR) stA.zero ?_
     simp only[List.take_succ_cons,List.take_zero,List.drop_succ_cons,List.drop_zero]
     repeat (refine RE.wpE_read (fun W=>∃x:Ks w5 (fun b=>b=M∨b=w.heap.size),W=x.1) (HKs.out _) rfl rfl rfl stA.zero ?_;go_big_quiet_step (fail);refine wpQuiet_nil ?_)
     refine RE.wpE_turn rfl rfl ?_ (fun ys7=>?_)
     ·intro W hC hS hE
      obtain⟨s9,_,h9⟩:=hC
      exact upon_one elemStr (vs:=[.string T.text]) _ rfl rfl rfl h9.size (fun v W' hb ho=>⟨[v],rfl,hb,ApR.of_below hb,ho⟩)
     simp only[Act.put,List.setIfInBounds_toArray,List.set_cons_zero,List.set_cons_succ]
     refine RE.wpE_turn rfl rfl ?_ (fun ys8=>?_)
     ·intro W hC hS hE
      obtain⟨x,rfl⟩:∃x:Wb w5,W=x.1:=hS rfl
      exact upon_ap elemStr (p:=pV) (n:=nv1) (c:=cV) (w4:=w5) (vs:=[.string T.text]) (xs:=us) _ _ rfl rfl (hE 7 ys7 (by kernel_rfl) rfl) rfl (by simp[Value.oneCell']) x.2 HOwn.out (by omega) (fun v' W' h1 h2 h3=>⟨[v'],rfl,h1,h2,h3⟩)
     simp only[Act.put,List.setIfInBounds_toArray,List.set_cons_zero,List.set_cons_succ]
     refine RE.wpE_nil ?_
     intro W hS hE
     have hS:ApS 9 1 w5 pV nv1 cV (us++[.string T.text]) W:=hS
     have hV:ApV 9 1 w5 pV nv1 cV (us++[.string T.text]) W (ys8.getD 0 undef):=hE 8 ys8 rfl
     obtain⟨g',cap,eg,hg,hC,hrow⟩:=ap_end hS hV
     rw[eg]
     have hC1:Chg (fun b=>(Value.slice pV vars.length cV).ownBlock=some b) w5 W:=by rw[HN.out];exact hC
     have hg1:(Value.slice pV vars.length cV).ownBlock=some g'∨w5.heap.size≤g':=by rw[HN.out];exact hg
     obtain⟨hW6,hC6,hMb⟩:=HW5.out.pushV (x:=T.text) HN.out HCl.out ⟨rfl,by unfold maxLen;omega⟩ hg1 hC1 hrow
     have hm2:W.cell? ⟨M,2,none⟩=some (.slice pV nv1 cV):=by rw[cell_of_row _ _ _ _ _ _ (hMb.trans HW5.out.m),←HN.out];rfl
     have hf2:=frozen_of (hMb.trans HW5.out.m) 2
     have hbx:W.heap[w.heap.size+1]? = some (.cells #[.int .u8 0,.int .i64 0,.int .u8 0,.int .i64 0,.string ⟨#[]⟩] 63 (0,0)):=(hC1.block _ (Array.getElem?_eq_some_iff.1 HY5.out).1 (row_ne HY5.out HW5.out.v (by decide))).trans HY5.out
     have hne1:w.heap.size+1≠M:=fun e=>HW5.out.not_own HY5.out (by kernel_rfl) (Or.inl e)
     obtain⟨W6,hW6e⟩:∃W6,W6=W.setCell ⟨M,2,none⟩ (.slice (some ⟨g',0,none⟩) (nv1+1) cap):=⟨_,rfl⟩
     have hbx6:W6.heap[w.heap.size+1]? = some (.cells #[.int .u8 0,.int .i64 0,.int .u8 0,.int .i64 0,.string ⟨#[]⟩] 63 (0,0)):=by rw[hW6e];exact (Below.heap_setCell W ⟨M,2,none⟩ _ _ hne1).trans hbx
     rw[←hW6e] at hW6 hC6
     have HW6:=Hd hW6
     have HXf:=Hd (st5_at hbx6 (.int .u8 2) (.int .i64 (nv1:Int)) (.int .u8 0) (.int .i64 0) (.string ⟨#[]⟩))
     have HP:Hid (ArgPost F d M ts rs vars nm sal nv cs acs vT vR (.slice pV vars.length cV) vC vA (argOne true vars T) w (.returned (.agg #[.int .u8 2,.int .i64 (nv1:Int),.int .u8 0,.int .i64 0,.string ⟨#[]⟩])) (st5 W6 (w.heap.size+1) (.int .u8 2) (.int .i64 (nv1:Int)) (.int .u8 0) (.int .i64 0) (.string ⟨#[]⟩))):=by
      have hno:=hW6.not_own hbx6 (by kernel_rfl)
      have hup:=hW6.upd (W':=st5 W6 (w.heap.size+1) (.int .u8 2) (.int .i64 (nv1:Int)) (.int .u8 0) (.int .i64 0) (.string ⟨#[]⟩)) (by rw[st5_size];exact Nat.le_refl _) (fun b hb=>st5_other _ _ _ _ _ b (by
       rcases hb with hb|hb
       ·have:=(HW.out.f b hb).1;omega
       ·exact fun e=>hno (e ▸ hb)))
      have hc0:Chg (Own8 M [vT,vR,.slice pV vars.length cV,vC,vA]) w W6:=chg_step (Chg.of_below HB5.out) hC6 (fun x hx=>Or.inl hx)
      have hc1:Chg (Own8 M [vT,vR,.slice pV vars.length cV,vC,vA]) w (st5 W6 (w.heap.size+1) (.int .u8 2) (.int .i64 (nv1:Int)) (.int .u8 0) (.int .i64 0) (.string ⟨#[]⟩)):=((((hc0.setCell (Or.inr (Nat.le_succ _)) _).setCell (Or.inr (Nat.le_succ _)) _).setCell (Or.inr (Nat.le_succ _)) _).setCell (Or.inr (Nat.le_succ _)) _).setCell (Or.inr (Nat.le_succ _)) _
      refine⟨hc1,?_⟩
      rw[HO2.out]
      refine⟨by rw[←HN.out];rfl,_,hup,fun b hb=>?_⟩
      injection hb with hb
      have hb:g'=b:=hb
      subst hb
      rcases hg1 with h|h
      ·exact Or.inl h
      ·have:=HB5.out.size;exact Or.inr (by omega)
     obtain⟨e0,e1,e2,e3,e4⟩:=cells5 hbx6
     have g0:=frozen5 hbx6 0
     have g1:=frozen5 hbx6 1
     have g2:=frozen5 hbx6 2
     have g3:=frozen5 hbx6 3
     have g4:=frozen5 hbx6 4
     have hm6:W6.cell? ⟨M,2,none⟩=some (.slice (some ⟨g',0,none⟩) (nv1+1) cap):=by rw[cell_of_row _ _ _ _ _ _ hW6.m];rfl
     clear hS hV hE eg hg hC hrow hC1 hg1 hW6 hC6 hMb hbx hbx6 E1 M2 HKs hne1
     go_upto_region 10 with fail
     change Code.wp _ _ _ _ (W.setCell ⟨M,2,none⟩ (.slice (some ⟨g',0,none⟩) (nv1+1) cap))
     rw[←hW6e]
     clear hW6e hm2 hf2
     go_wp2_with fail
     exact arg_fin _ _ (w.heap.size+1) _ _ _ _ _ HXf.out _ rfl HP.out
 ·have hk2:T.kind=14∨T.kind=15:=by omega
  have HO:Hid (argOne binds vars T=.ok (vars,⟨4,0,constM T⟩)):=by
   show _=_
   unfold argOne
   rcases hk2 with h|h<;>rw[h]<;>rfl
  have k12:¬((T.kind:Int)=12):=by omega
  have k13:¬((T.kind:Int)=13):=by omega
  have HC:Hid (Calls Tryz.prog 87 #[.agg #[.int .u8 T.kind,.string T.text,.int .i64 T.num,.int .i64 T.place,.slice p n c]] w1 fun e w'=>e=.returned (.agg #[.int .u8 (constM T).kind,.int .i64 (constM T).num,.string (constM T).text])∧Below w1.heap.size w1 w'):=const_any T (.slice p n c) w1 hk2 hs
  obtain⟨e0,e1,e2,e3,e4⟩:=cells5 HX0.out
  clear hk h12 h13
  go_enter Tryz.func59,Tryz.ntmps59
  go_upto_region 11 with fail
  change Code.wp _ _ _ _ ((w.alloc (.cells #[.int .u8 T.kind,.string T.text,.int .i64 T.num,.int .i64 T.place,.slice p n c] 25)).alloc (.cells #[.int .u8 0,.int .i64 0,.int .u8 0,.int .i64 0,.string ⟨#[]⟩] 63))
  rw[←hw1]
  clear hw1
  go_wp2_with fail
  refine HC.out.mono ?_
  rintro e w2 ⟨rfl,hb2⟩
  have hx2:=heap_below hb2 HX1.out (Array.getElem?_eq_some_iff.1 HX1.out).1
  have HB2:=Hd (HB1.out.trans (hb2.mono HB1.out.size))
  have HXf:=Hd (st5_at hx2 (.int .u8 4) (.int .i64 0) (.int .u8 (constM T).kind) (.int .i64 (constM T).num) (.string (constM T).text))
  have HP:Hid (ArgPost F d M ts rs vars nm sal nv cs acs vT vR vV vC vA (argOne binds vars T) w (.returned (.agg #[.int .u8 4,.int .i64 0,.int .u8 (constM T).kind,.int .i64 (constM T).num,.string (constM T).text])) (st5 w2 (w.heap.size+1) (.int .u8 4) (.int .i64 0) (.int .u8 (constM T).kind) (.int .i64 (constM T).num) (.string (constM T).text))):=by
   have hbf:=st5_below HB2.out (Nat.le_succ w.heap.size) (.int .u8 4) (.int .i64 0) (.int .u8 (constM T).kind) (.int .i64 (constM T).num) (.string (constM T).text)
   refine⟨Chg.of_below hbf,?_⟩
   rw[HO.out]
   exact⟨rfl,_,HW.out.below hbf,fun b hb=>Or.inl hb⟩
  clear hb2 e0 e1 e2 e3 e4
  obtain⟨e0,e1,e2,e3,e4⟩:=cells5 hx2
  have g0:=frozen5 hx2 0
  have g1:=frozen5 hx2 1
  have g2:=frozen5 hx2 2
  have g3:=frozen5 hx2 3
  have g4:=frozen5 hx2 4
  clear hx2
  go_wp2_with fail
  exact arg_fin _ _ (w.heap.size+1) _ _ _ _ _ HXf.out _ rfl HP.out
end Go.Proofs.YtglbjooofdnbkaaGreatDoor
