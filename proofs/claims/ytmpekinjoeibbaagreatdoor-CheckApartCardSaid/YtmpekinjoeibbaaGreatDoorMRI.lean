/- A region that draws its order, by an invariant over what has been carried out: whatever the order. No condition. -/
import Derived.Test.YtmpekinjoeibbaaGreatDoorMD
open Go renaming World→p7
namespace Go.Proofs.YtmpekinjoeibbaaGreatDoor
open Go.RowKit
def mg(listed:Array Bool):Nat:=(listed.toList.filter (!·)).length
theorem mW:∀(l:List Bool) (i:Nat),l[i]?=some false→((l.set i true).filter (!·)).length+1=(l.filter (!·)).length:=by
 intro l
 induction l with
 | nil=>intro i h;simp at h
 | cons x l a =>
  intro i h
  cases i with
  | zero =>
   simp only[List.getElem?_cons_zero,oF]at h;subst h;simp
  | succ i =>
   rw[FN]at h;have:=a i h;rw[Fc]
   cases x<;>simp at this ⊢<;>omega
theorem AQ{P:Program}{ops:Array Oper}{Q:Exit→Act→p7→Prop}(f:Array Bool→Act→p7→Prop)
  (c:∀(listed:Array Bool) (a:Act) (W:p7) (i:Nat),f listed a W→listed.size=ops.size→i∈Region.ready .any ops listed→wpOp P ops Q i (fun l W'=>f (listed.setIfInBounds i true) l W') a W)
  (hend:∀(listed:Array Bool) (a:Act) (W:p7),f listed a W→listed.size=ops.size→Region.ready .any ops listed=[]→Q .normal a W) :
  ∀(fuel:Nat) (listed:Array Bool) (a:Act) (W:p7),mg listed=fuel→listed.size=ops.size→f listed a W→wpAny P .any ops Q fuel listed a W:=by
 intro fuel
 induction fuel with
 | zero =>
  intro listed a W hu b g;have j:Region.ready .any ops listed=[]:=by
   rw[List.eq_nil_iff_forall_not_mem];intro i k;have d:=(mem_ready.1 k).1;have e:i<listed.size:=by
    rcases Nat.lt_or_ge i listed.size with h|h
    ·exact h
    ·simp[Array.getElem?_eq_none h]at d
   have m:listed.toList[i]?=some false:=by simp[e]at d ⊢;exact d
   have:=mW listed.toList i m;unfold mg at hu;omega
  exact⟨j,hend listed a W g b j⟩
 | succ fuel n =>
  intro listed a W hu b g;refine⟨fun j=>hend listed a W g b j,fun i k=>?_⟩;have d:=(mem_ready.1 k).1;have e:i<listed.size:=by
   rcases Nat.lt_or_ge i listed.size with h|h
   ·exact h
   ·simp[Array.getElem?_eq_none h]at d
  have m:listed.toList[i]?=some false:=by simp[e]at d ⊢;exact d
  refine wpOp_mono (fun l W' h=>n _ l W' ?_ (by simp[b]) h) (c listed a W i g b k);have:=mW listed.toList i m;unfold mg at hu ⊢;rw[Array.toList_setIfInBounds];omega
theorem mm{P:Program}{id:Nat}{Q:Exit→Act→p7→Prop}{a:Act}{w:p7}{l:List Oper}(hm:P.follows .mixedOrders=true)(c:Array Bool→Act→p7→Prop)
  (d:c (Array.replicate l.length false) a w.drew)
  (b:∀(listed:Array Bool) (a:Act) (W:p7) (i:Nat),c listed a W→listed.size=l.toArray.size→i∈Region.ready .any l.toArray listed→wpOp P l.toArray Q i (fun e W'=>c (listed.setIfInBounds i true) e W') a W)
  (hend:∀(listed:Array Bool) (a:Act) (W:p7),c listed a W→listed.size=l.toArray.size→Region.ready .any l.toArray listed=[]→Q .normal a W) :
  (Code.region id l.toArray true).wp P Q a w:=by
 refine wp_region_any hm (AQ c b hend _ _ _ _ ?_ (by simp) ?_)
 ·unfold mg;simp
 ·simpa using d
