/- A region that draws its order, by an invariant over what has been carried out: whatever the order. No condition. -/
import Derived.Test.YtoonjedifockoaaGreatDoorMD
namespace Go.Proofs.YtoonjedifockoaaGreatDoor
open Go.IntKind(i64)
open Go.Value(int string slice)
open Go.RowKit
def lO(listed:Array Bool):Nat:=(listed.toList.filter (!·)).length
theorem mO:∀(l:List Bool) (i:Nat),l[i]?=some false→((l.set i true).filter (!·)).length+1=(l.filter (!·)).length:=by
 intro l
 induction l with
 | nil=>intro i h;simp at h
 | cons x l a =>
  intro i h
  cases i with
  | zero =>
   simp only[List.getElem?_cons_zero,ox]at h;subst h;simp
  | succ i =>
   rw[Fj]at h;have:=a i h;rw[EH]
   cases x<;>simp at this ⊢<;>omega
theorem AA{P:Program}{ops:Array Oper}{Q:Exit→Act→World→Prop}(I:Array Bool→Act→World→Prop)
  (c:∀(listed:Array Bool) (a:Act) (W:World) (i:Nat),I listed a W→listed.size=ops.size→i∈Region.ready .any ops listed→wpOp P ops Q i (fun k W'=>I (listed.setIfInBounds i true) k W') a W)
  (hend:∀(listed:Array Bool) (a:Act) (W:World),I listed a W→listed.size=ops.size→Region.ready .any ops listed=[]→Q .normal a W) :
  ∀(fuel:Nat) (listed:Array Bool) (a:Act) (W:World),lO listed=fuel→listed.size=ops.size→I listed a W→wpAny P .any ops Q fuel listed a W:=by
 intro fuel
 induction fuel with
 | zero =>
  intro listed a W hu b f;have g:Region.ready .any ops listed=[]:=by
   rw[List.eq_nil_iff_forall_not_mem];intro i j;have d:=(mem_ready.1 j).1;have e:i<listed.size:=by
    rcases Nat.lt_or_ge i listed.size with h|h
    ·exact h
    ·simp[Fl h]at d
   have l:listed.toList[i]?=some false:=by simp[e]at d ⊢;exact d
   have:=mO listed.toList i l;unfold lO at hu;omega
  exact⟨g,hend listed a W f b g⟩
 | succ fuel m =>
  intro listed a W hu b f;refine⟨fun g=>hend listed a W f b g,fun i j=>?_⟩;have d:=(mem_ready.1 j).1;have e:i<listed.size:=by
   rcases Nat.lt_or_ge i listed.size with h|h
   ·exact h
   ·simp[Fl h]at d
  have l:listed.toList[i]?=some false:=by simp[e]at d ⊢;exact d
  refine wpOp_mono (fun k W' h=>m _ k W' ?_ (by simp[b]) h) (c listed a W i f b j);have:=mO listed.toList i l;unfold lO at hu ⊢;rw[Array.toList_setIfInBounds];omega
theorem lU{P:Program}{id:Nat}{Q:Exit→Act→World→Prop}{a:Act}{w:World}{l:List Oper}(hm:P.follows .mixedOrders=true)(I:Array Bool→Act→World→Prop)
  (c:I (Array.replicate l.length false) a w.drew)
  (b:∀(listed:Array Bool) (a:Act) (W:World) (i:Nat),I listed a W→listed.size=l.toArray.size→i∈Region.ready .any l.toArray listed→wpOp P l.toArray Q i (fun d W'=>I (listed.setIfInBounds i true) d W') a W)
  (hend:∀(listed:Array Bool) (a:Act) (W:World),I listed a W→listed.size=l.toArray.size→Region.ready .any l.toArray listed=[]→Q .normal a W) :
  (Code.region id l.toArray true).wp P Q a w:=by
 refine wp_region_any hm (AA I b hend _ _ _ _ ?_ (by simp) ?_)
 ·unfold lO;simp
 ·simpa using c
