/- A region that draws its order, by an invariant over what has been carried out: whatever the order. No condition. -/
import Derived.Test.YtglbjooofdnbkaaGreatDoorMF
namespace Go.Proofs.YtglbjooofdnbkaaGreatDoor
open Go.RowKit
def unlisted (listed:Array Bool):Nat:=(listed.toList.filter (!·)).length
theorem unlisted_set:∀(l:List Bool)(i:Nat),l[i]? = some false→((l.set i true).filter (!·)).length+1=(l.filter (!·)).length:=by
 intro l
 induction l with
 | nil=>intro i h;simp at h
 | cons x l ih =>
  intro i h
  cases i with
  | zero =>
   simp only[List.getElem?_cons_zero,Option.some.injEq] at h
   subst h
   simp
  | succ i =>
   rw[List.getElem?_cons_succ] at h
   have:=ih i h
   rw[List.set_cons_succ]
   cases x<;>simp at this ⊢<;>omega
theorem wpAny_inv {P:Program}{ops:Array Oper}{Q:Exit→Act→World→Prop}(I:Array Bool→Act→World→Prop)
  (hstep:∀(listed:Array Bool) (a:Act) (W:World) (i:Nat),I listed a W→listed.size=ops.size→i∈Region.ready .any ops listed→wpOp P ops Q i (fun a' W'=>I (listed.setIfInBounds i true) a' W') a W)
  (hend:∀(listed:Array Bool) (a:Act) (W:World),I listed a W→listed.size=ops.size→Region.ready .any ops listed=[]→Q .normal a W) :
  ∀(fuel:Nat) (listed:Array Bool) (a:Act) (W:World),unlisted listed=fuel→listed.size=ops.size→I listed a W→wpAny P .any ops Q fuel listed a W:=by
 intro fuel
 induction fuel with
 | zero =>
  intro listed a W hu hsz hI
  have hr:Region.ready .any ops listed=[]:=by
   rw[List.eq_nil_iff_forall_not_mem]
   intro i hi
   have h1:=(mem_ready.1 hi).1
   have hi':i<listed.size:=by
    rcases Nat.lt_or_ge i listed.size with h|h
    ·exact h
    ·simp[Array.getElem?_eq_none h] at h1
   have h2:listed.toList[i]? = some false:=by
    simp[hi'] at h1 ⊢;exact h1
   have:=unlisted_set listed.toList i h2
   unfold unlisted at hu
   omega
  exact⟨hr,hend listed a W hI hsz hr⟩
 | succ fuel ih =>
  intro listed a W hu hsz hI
  refine⟨fun hr=>hend listed a W hI hsz hr,fun i hi=>?_⟩
  have h1:=(mem_ready.1 hi).1
  have hi':i<listed.size:=by
   rcases Nat.lt_or_ge i listed.size with h|h
   ·exact h
   ·simp[Array.getElem?_eq_none h] at h1
  have h2:listed.toList[i]? = some false:=by
   simp[hi'] at h1 ⊢;exact h1
  refine wpOp_mono (fun a' W' h=>ih _ a' W' ?_ (by simp[hsz]) h) (hstep listed a W i hI hsz hi)
  have:=unlisted_set listed.toList i h2
  unfold unlisted at hu ⊢
  rw[Array.toList_setIfInBounds]
  omega
theorem wp_region_inv {P:Program}{id:Nat}{Q:Exit→Act→World→Prop}{a:Act}{w:World}{l:List Oper}(hm:P.follows .mixedOrders=true)(I:Array Bool→Act→World→Prop)
  (h0:I (Array.replicate l.length false) a w.drew)
  (hstep:∀(listed:Array Bool) (a:Act) (W:World) (i:Nat),I listed a W→listed.size=l.toArray.size→i∈Region.ready .any l.toArray listed→wpOp P l.toArray Q i (fun a' W'=>I (listed.setIfInBounds i true) a' W') a W)
  (hend:∀(listed:Array Bool) (a:Act) (W:World),I listed a W→listed.size=l.toArray.size→Region.ready .any l.toArray listed=[]→Q .normal a W) :
  (Code.region id l.toArray true).wp P Q a w:=by
 refine wp_region_any hm (wpAny_inv I hstep hend _ _ _ _ ?_ (by simp) ?_)
 ·unfold unlisted;simp
 ·simpa using h0
end Go.Proofs.YtglbjooofdnbkaaGreatDoor
