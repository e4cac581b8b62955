/- Several texts joined, each with its own sentence and conditions ahead of it: JoinA, PlainC, JoinR. -/
import Derived.Test.YtfpohaipmnjflaaGreatDoorMZK
import Derived.Test.YtfpohaipmnjflaaGreatDoorMDD
import Derived.KernelRfl
/- ParseParts, the plain law: two programs, one behind the other; an expression in brackets, with a comment around it. Condition: at most 16384 bytes. -/
namespace Go.Proofs.YtfpohaipmnjflaaGreatDoor
open Go.RowKit
theorem blank_step (S : ByteArray) (p : Nat) (c : UInt8) (r : List UInt8) (hc : blankB c = true) (h : S.data.toList.drop p = c :: r) : toksFrom S p = toksFrom S (p + 1) ∧ S.data.toList.drop (p + 1) = r := by
  have hp : p < S.size := by
    rcases Nat.lt_or_ge p S.size with hp | hp
    · exact hp
    · rw [drop_end S p hp] at h; cases h
  rw [drop_cons S p hp] at h
  injection h with h1 h2
  refine ⟨?_, h2⟩
  rw [← toksFrom_skip, skip_blank S p hp (by rw [h1]; exact hc), toksFrom_skip]
theorem rowLoop_len (ts : List Tok) (one : PS → Tree × PS) : ∀ (g : Nat) (ks : List Tree) (σ : PS), ks.length ≤ (rowLoop ts one g ks σ).1.length := by
  intro g
  induction g with
  | zero => intro ks σ; exact Nat.le_refl _
  | succ g ih =>
    intro ks σ
    rw [rowLoop_succ]
    split
    · have := ih (ks ++ [(one (nextM ts σ)).1]) (one (nextM ts σ)).2
      rw [List.length_append] at this
      omega
    · exact Nat.le_refl _
theorem isT_val (kd pl : Nat) (tx : ByteArray) (texts : List ByteArray) : isT (kd, tx, pl) texts = ((kd == 6 || kd == 1) && texts.any (fun s => !s.data.toList.isEmpty && s.data.toList == tx.data.toList)) := by
  unfold isT
  simp only [ByteArray.toList_eq]
end Go.Proofs.YtfpohaipmnjflaaGreatDoor
/- Tokens written with blanks or comments between are told again: the plain law of ScanBack, with no program in sight. No condition. -/
namespace Go.Proofs.YtfpohaipmnjflaaGreatDoor
open Go.RowKit
/-- what a token is written with ahead of it -/
def markL (kd : Nat) : List UInt8 := if kd == 3 then [63] else if kd == 5 then [39] else []
theorem dig_facts (c : UInt8) (h : isDig c = true) : isLow c = false ∧ (c == 63 || c == 39) = false ∧ blankB c = false ∧ (c == 35) = false := by
  have := all_u8 (fun c => !isDig c || (!isLow c && !(c == 63 || c == 39) && !blankB c && !(c == 35))) (by kernel_rfl) c
  simpa [h, and_assoc] using this
theorem sign_facts (c : UInt8) (hc : signsL.any (fun g => g.data.toList.head? == some c) = true) : isLow c = false ∧ (c == 63 || c == 39) = false ∧ isDig c = false ∧ blankB c = false ∧ (c == 35) = false := by
  have := all_u8 (fun c => !(signsL.any (fun g => g.data.toList.head? == some c)) || (!isLow c && !(c == 63 || c == 39) && !isDig c && !blankB c && !(c == 35))) (by kernel_rfl) c
  simpa [hc, and_assoc] using this

/-- tokens written with something behind each -/
def wr (bt : List UInt8) (l : List Tok) : List UInt8 := l.flatMap fun t => markL t.1 ++ t.2.1.data.toList ++ bt
end Go.Proofs.YtfpohaipmnjflaaGreatDoor
/- A source's program, whole; places farther on make no difference to what is right; with no program in sight. Condition: at most 16384 bytes. -/
namespace Go.Proofs.YtfpohaipmnjflaaGreatDoor
open Go.RowKit

/-! places farther on make no difference to what is right, how deep it is -/
section
variable (m : Nat)
end
end Go.Proofs.YtfpohaipmnjflaaGreatDoor
