/- Several texts joined, each with its own sentence and conditions ahead of it: RefNH, LawTells. -/
import Derived.Test.YtfpohaipmnjflaaGreatDoorMKE
import Derived.Test.YtfpohaipmnjflaaGreatDoorMKF
import Derived.Test.YtfpohaipmnjflaaGreatDoorMKG
/- The reference's word on a tree: is it a program's; by contract. Conditions: at most 20000 kids a list, texts of at most 72007 bytes. -/
namespace Go.Proofs.YtfpohaipmnjflaaGreatDoor
open Go.RowKit
end Go.Proofs.YtfpohaipmnjflaaGreatDoor
/- NodeTells, the law's walk: it answers true, given that the statements are awake. Condition: the library's table of blanks lies as laid. -/
namespace Go.Proofs.YtfpohaipmnjflaaGreatDoor
open Go.RowKit
theorem LentNPost.node {d : Nat} {T : Tree} {w w' : World} {e : Ending} (h : LentNPost d T w e w') : ∃ g, e = .returned (.agg #[.int .u8 T.kind, .string T.text, .int .i64 T.num, .int .i64 T.place, .slice (some ⟨g, 0, none⟩) T.kids.length (T.kids.length + 12)]) ∧ Below w.heap.size w w' ∧
    LentAt w' w.heap.size w'.heap.size d T.kids (.slice (some ⟨g, 0, none⟩) T.kids.length (T.kids.length + 12)) := by
  obtain ⟨s, he, hb, hl⟩ := h
  obtain ⟨g, _, _, rfl⟩ := hl.shape
  exact ⟨g, he, hb, hl⟩
end Go.Proofs.YtfpohaipmnjflaaGreatDoor
