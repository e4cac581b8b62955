/- The scanner: all tokens, one behind the other; what a source's tokens are, as a plain function; the iterator by contract. Conditions: the source has at most 16384 bytes; the library's table of blanks lies as laid. -/
import Derived.Test.YtondgnefggglcaaDoorScanI
import Derived.RangeFuncNested
import Derived.RangeFuncBound
import Derived.RangeFuncCalls
import Derived.RangeFuncLeaves
import Derived.Shelf.Abstract
import Derived.Shelf.RegionOpen
import Derived.OwnWalkIn
import Derived.TacticsInMore
import Derived.LoopNIn
import Derived.LoopIn
namespace Go.Proofs.YtondgnefggglcaaDoor
open Go.RowKit
attribute [local go_sem] Oper.semAt_some

/-- a token with its place -/
abbrev Tok := Nat × ByteArray × Nat
def toks : Nat → ByteArray → Nat → List Tok × Option (Nat × Nat)
  | 0, _, _ => ([], none)
  | f + 1, s, k =>
    if h : skip s k < s.size then
      if (tokenAt s (skip s k) s[skip s k]).2.2.1 = 0 then
        (((tokenAt s (skip s k) s[skip s k]).1, (tokenAt s (skip s k) s[skip s k]).2.1, skip s k) :: (toks f s (tokenAt s (skip s k) s[skip s k]).2.2.2).1, (toks f s (tokenAt s (skip s k) s[skip s k]).2.2.2).2)
      else ([], some ((tokenAt s (skip s k) s[skip s k]).2.2.1, skip s k))
    else ([], none)

theorem signs_pos (g : ByteArray) (h : g ∈ signsL) : 0 < g.size := by
  have : signsL.all (fun g => decide (0 < g.size)) = true := by kernel_rfl
  simpa using List.all_eq_true.1 this g h

/-- a token that is one goes on -/
theorem tokenAt_next (s : ByteArray) (k : Nat) (hk : k < s.size) (h0 : (tokenAt s k s[k]).2.2.1 = 0) : k < (tokenAt s k s[k]).2.2.2 ∧ (tokenAt s k s[k]).2.2.2 ≤ s.size := by
  unfold tokenAt at h0 ⊢
  by_cases hc : isLow s[k] = true
  · rw [if_pos hc]
    have hon : isOn s[k] = true := by unfold isOn; rw [hc]; rfl
    have := scanTo_ge isOn s (k + 1)
    rw [scanTo_yes isOn s k hk hon] at this
    exact ⟨this, scanTo_le _ _ _ (by omega)⟩
  · rw [if_neg hc] at h0 ⊢
    by_cases hq : (s[k] == 63 || s[k] == 39) = true
    · rw [if_pos hq]
      have := scanTo_ge isOn s (k + 1)
      exact ⟨this, scanTo_le _ _ _ (by omega)⟩
    · rw [if_neg hq] at h0 ⊢
      by_cases hd : isDig s[k] = true
      · rw [if_pos hd]
        have := scanTo_ge isDig s (k + 1)
        rw [scanTo_yes isDig s k hk hd] at this
        exact ⟨this, scanTo_le _ _ _ (by omega)⟩
      · rw [if_neg hd] at h0 ⊢
        cases hf : signsL.find? (fun g => Lib.hasPrefix (s.data.toList.drop k) g.data.toList) with
        | none => rw [hf] at h0; simp at h0
        | some g =>
          have h1 := signs_pos g (List.mem_of_find?_eq_some hf)
          have h2 := signAt_le s k g (by omega) (List.find?_some hf)
          exact ⟨by show k < k + g.size; omega, h2⟩

theorem toks_more (s : ByteArray) : ∀ (n f g k : Nat), s.size - k < n → s.size - k < f → s.size - k < g → toks f s k = toks g s k := by
  intro n
  induction n with
  | zero => intro f g k h; omega
  | succ n ih =>
    intro f g k hn hf hg
    obtain ⟨f, rfl⟩ : ∃ f', f = f' + 1 := ⟨f - 1, by omega⟩
    obtain ⟨g, rfl⟩ : ∃ g', g = g' + 1 := ⟨g - 1, by omega⟩
    unfold toks
    by_cases hk : skip s k < s.size
    · rw [dif_pos hk, dif_pos hk]
      by_cases h0 : (tokenAt s (skip s k) s[skip s k]).2.2.1 = 0
      · rw [if_pos h0, if_pos h0]
        have h1 := tokenAt_next s (skip s k) hk h0
        have h2 := skip_ge s _ k (Nat.le_refl _)
        rw [ih f g _ (by omega) (by omega) (by omega)]
      · rw [if_neg h0, if_neg h0]
    · rw [dif_neg hk, dif_neg hk]

theorem toks_len (s : ByteArray) : ∀ (f k : Nat), k ≤ s.size → (toks f s k).1.length + k ≤ s.size := by
  intro f
  induction f with
  | zero => intro k hk; simpa [toks] using hk
  | succ f ih =>
    intro k hk
    unfold toks
    by_cases h : skip s k < s.size
    · rw [dif_pos h]
      by_cases h0 : (tokenAt s (skip s k) s[skip s k]).2.2.1 = 0
      · rw [if_pos h0]
        have h1 := tokenAt_next s (skip s k) h h0
        have h2 := skip_ge s _ k (Nat.le_refl _)
        have h3 := ih _ h1.2
        simp only [List.length_cons]
        omega
      · rw [if_neg h0]; simpa using hk
    · rw [dif_neg h]; simpa using hk

/-- THE TOKENS of a source, from a place on; and the fault, if there is one -/
def toksFrom (s : ByteArray) (k : Nat) : List Tok × Option (Nat × Nat) := toks (s.size + 1) s k
theorem toksFrom_end (s : ByteArray) (k : Nat) (h : ¬ skip s k < s.size) : toksFrom s k = ([], none) := by
  unfold toksFrom toks; rw [dif_neg h]
theorem toksFrom_bad (s : ByteArray) (k : Nat) (h : skip s k < s.size) (h0 : (tokenAt s (skip s k) s[skip s k]).2.2.1 ≠ 0) : toksFrom s k = ([], some ((tokenAt s (skip s k) s[skip s k]).2.2.1, skip s k)) := by
  unfold toksFrom toks; rw [dif_pos h, if_neg h0]
theorem toksFrom_ok (s : ByteArray) (k : Nat) (h : skip s k < s.size) (h0 : (tokenAt s (skip s k) s[skip s k]).2.2.1 = 0) :
    toksFrom s k = (((tokenAt s (skip s k) s[skip s k]).1, (tokenAt s (skip s k) s[skip s k]).2.1, skip s k) :: (toksFrom s (tokenAt s (skip s k) s[skip s k]).2.2.2).1, (toksFrom s (tokenAt s (skip s k) s[skip s k]).2.2.2).2) := by
  have h1 := tokenAt_next s (skip s k) h h0
  conv => lhs; unfold toksFrom toks
  rw [dif_pos h, if_pos h0]
  unfold toksFrom
  rw [toks_more s (s.size + 1) s.size (s.size + 1) _ (by omega) (by omega) (by omega)]

theorem skip_skip (s : ByteArray) (k : Nat) : skip s (skip s k) = skip s k := by
  by_cases h : skip s k < s.size
  · obtain ⟨h1, h2⟩ := skip_at s _ k (Nat.le_refl _) h
    exact skip_stop s _ h h1 h2
  · exact skip_end s _ (by omega)
theorem toksFrom_skip (s : ByteArray) (k : Nat) : toksFrom s (skip s k) = toksFrom s k := by
  have e := skip_skip s k
  by_cases h : skip s k < s.size
  · by_cases h0 : (tokenAt s (skip s k) s[skip s k]).2.2.1 = 0
    · rw [toksFrom_ok s k h h0, toksFrom_ok s (skip s k) (by rw [e]; exact h) (by simp only [e]; exact h0)]
      simp only [e]
    · rw [toksFrom_bad s k h h0, toksFrom_bad s (skip s k) (by rw [e]; exact h) (by simp only [e]; exact h0)]
      simp only [e]
  · rw [toksFrom_end s k h, toksFrom_end s (skip s k) (by rw [e]; exact h)]
end Go.Proofs.YtondgnefggglcaaDoor
