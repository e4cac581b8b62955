/- A region that draws its order, by an invariant over what has been carried out: whatever the order. No condition. -/
import Derived.Test.YtoahnjkclckodaaGreatDoorMD
open Go renaming World→J
namespace Go.Proofs.YtoahnjkclckodaaGreatDoor
open Go.RowKit
def oM(listed:Array Bool):Nat:=(listed.toList.filter (!·)).length
theorem qa:∀(l:List Bool) (i:Nat),l[i]?=some false→((l.set i true).filter (!·)).length+1=(l.filter (!·)).length:=by
 intro l
 induction l with
 | nil=>intro i h;simp at h
 | cons x l a =>
  intro i h
  cases i with
  | zero =>
   simp only[List.getElem?_cons_zero,o6]at h;subst h;simp
  | succ i =>
   rw[Km]at h;have:=a i h;rw[JV]
   cases x<;>simp at this ⊢<;>omega
theorem Ey{P:Program}{ops:Array Oper}{Q:Exit→Act→J→Prop}(f:Array Bool→Act→J→Prop)
  (c:∀(listed:Array Bool) (a:Act) (W:J) (i:Nat),f listed a W→listed.size=ops.size→i∈Region.ready .any ops listed→wpOp P ops Q i (fun k W'=>f (listed.setIfInBounds i true) k W') a W)
  (hend:∀(listed:Array Bool) (a:Act) (W:J),f listed a W→listed.size=ops.size→Region.ready .any ops listed=[]→Q .normal a W) :
  ∀(fuel:Nat) (listed:Array Bool) (a:Act) (W:J),oM listed=fuel→listed.size=ops.size→f listed a W→wpAny P .any ops Q fuel listed a W:=by
 intro fuel
 induction fuel with
 | zero =>
  intro listed a W hu b g;have j:Region.ready .any ops listed=[]:=by
   rw[List.eq_nil_iff_forall_not_mem];intro i hi;have d:=(mem_ready.1 hi).1;have e:i<listed.size:=by
    rcases Nat.lt_or_ge i listed.size with h|h
    ·exact h
    ·simp[Array.getElem?_eq_none h]at d
   have l:listed.toList[i]?=some false:=by simp[e]at d ⊢;exact d
   have:=qa listed.toList i l;unfold oM at hu;omega
  exact⟨j,hend listed a W g b j⟩
 | succ fuel m =>
  intro listed a W hu b g;refine⟨fun j=>hend listed a W g b j,fun i hi=>?_⟩;have d:=(mem_ready.1 hi).1;have e:i<listed.size:=by
   rcases Nat.lt_or_ge i listed.size with h|h
   ·exact h
   ·simp[Array.getElem?_eq_none h]at d
  have l:listed.toList[i]?=some false:=by simp[e]at d ⊢;exact d
  refine wpOp_mono (fun k W' h=>m _ k W' ?_ (by simp[b]) h) (c listed a W i g b hi);have:=qa listed.toList i l;unfold oM at hu ⊢;rw[Array.toList_setIfInBounds];omega
theorem oR{P:Program}{id:Nat}{Q:Exit→Act→J→Prop}{a:Act}{w:J}{l:List Oper}(hm:P.follows .mixedOrders=true)(c:Array Bool→Act→J→Prop)
  (d:c (Array.replicate l.length false) a w.drew)
  (b:∀(listed:Array Bool) (a:Act) (W:J) (i:Nat),c listed a W→listed.size=l.toArray.size→i∈Region.ready .any l.toArray listed→wpOp P l.toArray Q i (fun e W'=>c (listed.setIfInBounds i true) e W') a W)
  (hend:∀(listed:Array Bool) (a:Act) (W:J),c listed a W→listed.size=l.toArray.size→Region.ready .any l.toArray listed=[]→Q .normal a W) :
  (Code.region id l.toArray true).wp P Q a w:=by
 refine wp_region_any hm (Ey c b hend _ _ _ _ ?_ (by simp) ?_)
 ·unfold oM;simp
 ·simpa using d
