/- Where the tokens stand: the plain law of ScanPlaces, with no program in sight. No condition. -/
import Derived.Test.YtondgnefggglcaaDoorRefF
namespace Go.Proofs.YtondgnefggglcaaDoor
open Go.RowKit

/-- the mark ahead of a token's text -/
def offOf (kd : Nat) : Nat := if kd == 3 || kd == 5 then 1 else 0
theorem bytes_ext (x y : ByteArray) (h : x.data.toList = y.data.toList) : x = y := by
  obtain ⟨⟨x⟩⟩ := x
  obtain ⟨⟨y⟩⟩ := y
  simpa using h
theorem tokenAt_span (s : ByteArray) (k : Nat) (hk : k < s.size) (h0 : (tokenAt s k s[k]).2.2.1 = 0) :
    (tokenAt s k s[k]).2.2.2 = k + offOf (tokenAt s k s[k]).1 + (tokenAt s k s[k]).2.1.size ∧
    s.extract (k + offOf (tokenAt s k s[k]).1) (tokenAt s k s[k]).2.2.2 = (tokenAt s k s[k]).2.1 ∧ (tokenAt s k s[k]).1 < 7 := by
  unfold tokenAt at h0 ⊢
  by_cases hc : isLow s[k] = true
  · rw [if_pos hc]
    have h1 := scanTo_ge isOn s k
    have h2 := scanTo_le isOn s k (by omega)
    have e : ∀ x : Bool, offOf (if x = true then 1 else 2) = 0 ∧ (if x = true then 1 else 2) < 7 := by intro x; cases x <;> decide
    dsimp only
    rw [(e _).1, ext_size s _ _ h2]
    exact ⟨by omega, rfl, (e _).2⟩
  · rw [if_neg hc] at h0 ⊢
    by_cases hq : (s[k] == 63 || s[k] == 39) = true
    · rw [if_pos hq]
      have h1 := scanTo_ge isOn s (k + 1)
      have h2 := scanTo_le isOn s (k + 1) (by omega)
      have e : ∀ x : Bool, offOf (if x = true then 5 else 3) = 1 ∧ (if x = true then 5 else 3) < 7 := by intro x; cases x <;> decide
      dsimp only
      rw [(e _).1, ext_size s _ _ h2]
      exact ⟨by omega, rfl, (e _).2⟩
    · rw [if_neg hq] at h0 ⊢
      by_cases hd : isDig s[k] = true
      · rw [if_pos hd]
        have h1 := scanTo_ge isDig s k
        have h2 := scanTo_le isDig s k (by omega)
        have e : offOf 4 = 0 := rfl
        dsimp only
        rw [e, ext_size s _ _ h2]
        exact ⟨by omega, rfl, by omega⟩
      · rw [if_neg hd] at h0 ⊢
        cases hf : signsL.find? (fun g => Lib.hasPrefix (s.data.toList.drop k) g.data.toList) with
        | none => rw [hf] at h0; simp at h0
        | some g =>
          have hp : signAt s k g = true := List.find?_some hf
          have h2 := signAt_le s k g (by omega) hp
          have h3 := signAt_ext s k g h2
          rw [hp] at h3
          refine ⟨rfl, bytes_ext _ _ ?_, (by show 6 < 7; omega)⟩
          have h4 : (s.extract k (k + g.size)).toList = g.toList := by simpa using h3
          rw [ByteArray.toList_eq, ByteArray.toList_eq] at h4
          exact h4

/-- tokens in order, each where it is told -/
def Places (s : ByteArray) : Nat → List Tok → Prop
  | _, [] => True
  | a, t :: r => a ≤ t.2.2 ∧ t.2.2 + offOf t.1 + t.2.1.size ≤ s.size ∧ s.extract (t.2.2 + offOf t.1) (t.2.2 + offOf t.1 + t.2.1.size) = t.2.1 ∧ t.1 ≤ 7 ∧ Places s (t.2.2 + offOf t.1 + t.2.1.size) r

theorem places_toks (s : ByteArray) : ∀ (n k : Nat), s.size - k ≤ n → k ≤ s.size → (toksFrom s k).2 = none → Places s k ((toksFrom s k).1 ++ [(7, ⟨#[]⟩, s.size)]) := by
  intro n
  induction n with
  | zero =>
    intro k hn hk _
    rw [toksFrom_end s k (by rw [skip_end s k (by omega)]; omega)]
    exact ⟨hk, Nat.le_refl _, bytes_ext _ _ (by rw [ext_data]; simp [offOf]), Nat.le_refl _, trivial⟩
  | succ n ih =>
    intro k hn hk h2
    have hge := skip_ge s _ k (Nat.le_refl _)
    by_cases h : skip s k < s.size
    · by_cases h0 : (tokenAt s (skip s k) s[skip s k]).2.2.1 = 0
      · obtain ⟨h3, h4, h5⟩ := tokenAt_span s (skip s k) h h0
        obtain ⟨h6, h7⟩ := tokenAt_next s (skip s k) h h0
        rw [toksFrom_ok s k h h0] at h2 ⊢
        have := ih (tokenAt s (skip s k) s[skip s k]).2.2.2 (by omega) h7 h2
        generalize tokenAt s (skip s k) s[skip s k] = T at *
        obtain ⟨kd, tx, er, en⟩ := T
        dsimp only at *
        subst h3
        exact ⟨hge, h7, h4, by omega, this⟩
      · rw [toksFrom_bad s k h h0] at h2
        cases h2
    · rw [toksFrom_end s k h]
      exact ⟨hk, Nat.le_refl _, bytes_ext _ _ (by rw [ext_data]; simp [offOf]), Nat.le_refl _, trivial⟩

/-- a fault is one, and stands in the source -/
theorem toks_err (s : ByteArray) : ∀ (f k er pl : Nat), (toks f s k).2 = some (er, pl) → er ≠ 0 ∧ pl < s.size := by
  intro f
  induction f with
  | zero => intro k er pl h; cases h
  | succ f ih =>
    intro k er pl h
    unfold toks at h
    split at h
    · rename_i h1
      split at h
      · exact ih _ _ _ h
      · rename_i h2
        simp only [Option.some.injEq, Prod.mk.injEq] at h
        obtain ⟨rfl, rfl⟩ := h
        exact ⟨h2, h1⟩
    · cases h
theorem toksFrom_err (s : ByteArray) (k er pl : Nat) (h : (toksFrom s k).2 = some (er, pl)) : er ≠ 0 ∧ pl < s.size := toks_err s _ k er pl h
end Go.Proofs.YtondgnefggglcaaDoor
