/- The reference's word on a tree: is it a program's; by contract. Conditions: at most 20000 kids a list, texts of at most 72007 bytes. -/
import Derived.Test.YtineejjdbjdliaaGreatDoorMKE
import Derived.Test.YtineejjdbjdliaaGreatDoorMKF
import Derived.Test.YtineejjdbjdliaaGreatDoorMKG
namespace Go.Proofs.YtineejjdbjdliaaGreatDoor
open Go.RowKit
theorem okF_okK (d : Nat) (T : Tree) (hz : d = 0 → T.kids = []) (h1 : 1 ≤ T.kind) (h2 : T.kind ≤ 16) : okF d T = okK T.kind T.text T.num T.place T.kids d := by
  rw [okF_un d T hz]
  unfold levelOk okK
  have e1 : decide (1 ≤ T.kind) = true := by simpa using h1
  have e2 : decide (T.kind ≤ 16) = true := by simpa using h2
  rw [e1, e2, Bool.true_and, Bool.true_and]
theorem rightF_split (d : Nat) (T : Tree) (hz : d = 0 → T.kids = []) : rightF d T = ((T.kind == 1) && T.text.toList.isEmpty && (T.num == 0) && decide (0 ≤ T.place) && (allF (d - 1) [2, 4] T.kids && decide (deepF d T ≤ 30) && decide (manyF d T ≤ 4096))) := by
  unfold rightF
  cases hk : (T.kind == 1)
  · simp
  · have hk' : T.kind = 1 := by simpa using hk
    rw [okF_un d T hz, allF_split]
    unfold levelOk
    rw [hk', show textOk 1 T.text.data.toList T.kids.length = T.text.data.toList.isEmpty from rfl, empty_text, show numOk 1 T.num = (T.num == 0) from rfl, show kidsOk 1 T.kids = among [2, 4] T.kids from rfl]
    simp [Bool.and_assoc]
end Go.Proofs.YtineejjdbjdliaaGreatDoor
