/- The scanner: blanks and comments; by contract. Conditions: the source has at most 16384 bytes. -/
import Derived.Test.YtondgnefggglcaaDoorScanA
namespace Go.Proofs.YtondgnefggglcaaDoor
open Go.RowKit

theorem indexByte_while (l : List UInt8) (c : UInt8) : Lib.indexByte l c = if l.contains c then ((l.takeWhile (· != c)).length : Int) else -1 := by
  induction l with
  | nil => rfl
  | cons a l ih =>
    simp only [Lib.indexByte, List.contains_cons, ih]
    by_cases h : a = c
    · subst h; simp
    · have h1 : (a == c) = false := by simpa using h
      have h2 : (c == a) = false := by simpa using fun e => h e.symm
      have h3 : (a != c) = true := by simpa using h
      simp only [h1, h2, Bool.false_eq_true, if_false, Bool.false_or, List.takeWhile_cons, h3, if_true, List.length_cons]
      by_cases h4 : l.contains c
      · simp only [h4, if_true]
        rw [if_neg (by simp)]; omega
      · simp only [h4]; simp
theorem while_all (l : List UInt8) (c : UInt8) (h : l.contains c = false) : l.takeWhile (· != c) = l := by
  induction l with
  | nil => rfl
  | cons a l ih =>
    simp only [List.contains_cons, Bool.or_eq_false_iff] at h
    have h3 : (a != c) = true := by
      have := h.1
      simp only [bne_iff_ne]; rintro rfl; simp at this
    rw [List.takeWhile_cons, if_pos h3, ih h.2]
theorem while_lt (l : List UInt8) (c : UInt8) (h : l.contains c = true) : (l.takeWhile (· != c)).length < l.length := by
  induction l with
  | nil => simp at h
  | cons a l ih =>
    by_cases e : a = c
    · subst e; simp
    · have h3 : (a != c) = true := by simpa using e
      rw [List.takeWhile_cons, if_pos h3]
      have h4 : l.contains c = true := by
        simp only [List.contains_cons, Bool.or_eq_true] at h
        rcases h with h | h
        · exact absurd (by simpa using h : c = a).symm e
        · exact h
      have := ih h4
      simp; omega

theorem cut1_yes (t : ByteArray) (i : Nat) (w : World) (hi : Lib.indexByte t.data.toList 10 = (i : Int)) (hle : i < t.size) (hs : t.size ≤ 16384) :
    Calls Tryd.prog 48 #[.string t, .string ⟨#[10]⟩] w fun e w' => (∃ b c, e = .returned (.tuple #[.string (t.extract 0 i), b, c])) ∧ Below w.heap.size w w' := by
  have HC := Lib.hid ((Tryd.stringslite_Index_one t 10 w).mono (R' := fun e w' => e = .returned (.int .i64 (i : Int)) ∧ w = w') (fun e w' hh => ⟨by rw [← hi]; exact hh.1, hh.2.symm⟩))
  clear hi
  have hi1 : (0 : Int) ≤ i := by omega
  have hi2 : (i : Int) ≤ t.size := by omega
  have hi3 : (i : Int) + 1 ≤ t.size := by omega
  have hb : (ByteArray.mk #[10]).size = 1 := rfl
  go_enter Tryd.func48, Tryd.ntmps48
  go_wp2_with (first
    | (go_at_call 55; refine Calls.mono HC.out ?_; rintro e w' ⟨rfl, rfl⟩))
  go_quiet (fail)
  go_wp2
  go_ret3
  exact ⟨⟨_, _, rfl⟩, below_drewN (Below.refl _ _) _⟩

theorem cut1_no (t : ByteArray) (w : World) (hi : Lib.indexByte t.data.toList 10 = -1) :
    Calls Tryd.prog 48 #[.string t, .string ⟨#[10]⟩] w fun e w' => (∃ b c, e = .returned (.tuple #[.string t, b, c])) ∧ Below w.heap.size w w' := by
  have HC := Lib.hid ((Tryd.stringslite_Index_one t 10 w).mono (R' := fun e w' => e = .returned (.int .i64 (-1)) ∧ w = w') (fun e w' hh => ⟨by rw [← hi]; exact hh.1, hh.2.symm⟩))
  clear hi
  go_enter Tryd.func48, Tryd.ntmps48
  go_wp2_with (first
    | (go_at_call 55; refine Calls.mono HC.out ?_; rintro e w' ⟨rfl, rfl⟩))
  go_ret3
  exact ⟨⟨_, _, rfl⟩, Below.refl _ _⟩

theorem cut_any (t : ByteArray) (w : World) (hs : t.size ≤ 16384) :
    Calls Tryd.prog 37 #[.string t, .string ⟨#[10]⟩] w fun e w' => (∃ n b c, e = .returned (.tuple #[.string n, b, c]) ∧ n.size = (t.data.toList.takeWhile (· != 10)).length) ∧ Below w.heap.size w w' := by
  have HC : ∀ W : World, Calls Tryd.prog 48 #[.string t, .string ⟨#[10]⟩] W fun e w' => (∃ n b c, e = .returned (.tuple #[.string n, b, c]) ∧ n.size = (t.data.toList.takeWhile (· != 10)).length) ∧ Below W.heap.size W w' := by
    intro W
    have hi := indexByte_while t.data.toList 10
    by_cases hc : t.data.toList.contains 10
    · rw [if_pos hc] at hi
      have hl : (t.data.toList.takeWhile (· != 10)).length < t.size := by simpa using while_lt _ _ hc
      refine (cut1_yes t _ W hi hl hs).mono ?_
      rintro e w' ⟨⟨b, c, rfl⟩, hb⟩
      exact ⟨⟨_, b, c, rfl, by simp; omega⟩, hb⟩
    · rw [if_neg hc] at hi
      refine (cut1_no t W hi).mono ?_
      rintro e w' ⟨⟨b, c, rfl⟩, hb⟩
      exact ⟨⟨_, b, c, rfl, by rw [while_all _ _ (by simpa using hc)]; simp⟩, hb⟩
  have HH := Lib.hid HC
  clear HC
  go_enter Tryd.func37, Tryd.ntmps37
  go_wp2_with (first
    | (go_at_call 48; refine (HH.out _).mono ?_; rintro e w' ⟨⟨n, b, c, rfl, hn⟩, hb⟩; have HN := Lib.hid hn; clear hn))
  go_ret3
  exact ⟨⟨n, b, c, rfl, HN.out⟩, hb⟩

/-! ### Blanks and comments, as plain functions -/
def blankB (c : UInt8) : Bool := c == 9 || c == 10 || c == 13 || c == 32
def skipTo : Nat → ByteArray → Nat → Nat
  | 0, _, k => k
  | f + 1, s, k => if h : k < s.size then (if blankB s[k] then skipTo f s (k + 1) else if s[k] == 35 then skipTo f s (scanTo (· != 10) s k) else k) else k
/-- the place behind blanks and comments -/
def skip (s : ByteArray) (k : Nat) : Nat := skipTo (s.size - k) s k

theorem scan_hash (s : ByteArray) (k : Nat) (h : k < s.size) (hc : s[k] = 35) : k + 1 ≤ scanTo (· != 10) s k := by
  rw [← scanTo_yes (· != 10) s k h (by rw [hc]; rfl)]
  exact scanTo_ge _ _ _
theorem skipTo_more (s : ByteArray) : ∀ (f k : Nat), s.size - k ≤ f → skipTo f s k = skip s k := by
  have H : ∀ (n f g k : Nat), s.size - k ≤ n → s.size - k ≤ f → s.size - k ≤ g → skipTo f s k = skipTo g s k := by
    intro n
    induction n with
    | zero =>
      intro f g k hn _ _
      have hk : ¬ k < s.size := by omega
      cases f <;> cases g <;> simp [skipTo, hk]
    | succ n ih =>
      intro f g k hn hf hg
      by_cases hk : k < s.size
      · obtain ⟨f, rfl⟩ : ∃ f', f = f' + 1 := ⟨f - 1, by omega⟩
        obtain ⟨g, rfl⟩ : ∃ g', g = g' + 1 := ⟨g - 1, by omega⟩
        simp only [skipTo, hk, dif_pos]
        split
        · exact ih f g (k + 1) (by omega) (by omega) (by omega)
        · split
          · rename_i _ h35
            have := scan_hash s k hk (by simpa using h35)
            exact ih f g _ (by omega) (by omega) (by omega)
          · rfl
      · cases f <;> cases g <;> simp [skipTo, hk]
  exact fun f k hf => H _ _ _ k (Nat.le_refl _) hf (Nat.le_refl _)
theorem skip_blank (s : ByteArray) (k : Nat) (h : k < s.size) (hb : blankB s[k] = true) : skip s k = skip s (k + 1) := by
  conv => lhs; unfold skip
  rw [show s.size - k = (s.size - (k + 1)) + 1 from by omega]
  simp only [skipTo, h, dif_pos, hb, if_true]
  rfl
theorem skip_hash (s : ByteArray) (k : Nat) (h : k < s.size) (hc : s[k] = 35) : skip s k = skip s (scanTo (· != 10) s k) := by
  have h1 := scan_hash s k h hc
  conv => lhs; unfold skip
  rw [show s.size - k = (s.size - (k + 1)) + 1 from by omega]
  have hb : blankB s[k] = false := by rw [hc]; rfl
  have h35 : (s[k] == 35) = true := by rw [hc]; rfl
  simp only [skipTo, h, dif_pos, hb, h35, if_true, Bool.false_eq_true, if_false]
  exact skipTo_more s _ _ (by omega)
theorem skip_stop (s : ByteArray) (k : Nat) (h : k < s.size) (hb : blankB s[k] = false) (hc : (s[k] == 35) = false) : skip s k = k := by
  unfold skip
  rw [show s.size - k = (s.size - (k + 1)) + 1 from by omega]
  simp [skipTo, h, hb, hc]
theorem skip_end (s : ByteArray) (k : Nat) (h : s.size ≤ k) : skip s k = k := by
  unfold skip
  rw [show s.size - k = 0 from by omega]
  rfl
theorem skip_take (s : ByteArray) : ∀ (n k : Nat), s.size - k ≤ n → skip s (scanTo blankB s k) = skip s k := by
  intro n
  induction n with
  | zero => intro k h; rw [scanTo_end _ _ _ (by omega)]
  | succ n ih =>
    intro k h
    by_cases hk : k < s.size
    · by_cases hb : blankB s[k] = true
      · rw [← scanTo_yes _ _ _ hk hb, ih (k + 1) (by omega), skip_blank s k hk hb]
      · rw [scanTo_no _ _ _ hk (by simpa using hb)]
    · rw [scanTo_end _ _ _ (by omega)]
theorem skip_ge (s : ByteArray) : ∀ (n k : Nat), s.size - k ≤ n → k ≤ skip s k := by
  intro n
  induction n with
  | zero => intro k h; rw [skip_end _ _ (by omega)]; exact Nat.le_refl _
  | succ n ih =>
    intro k h
    by_cases hk : k < s.size
    · by_cases hb : blankB s[k] = true
      · rw [skip_blank s k hk hb]; have := ih (k + 1) (by omega); omega
      · by_cases hc : s[k] = 35
        · have h1 := scan_hash s k hk hc
          rw [skip_hash s k hk hc]; have := ih (scanTo (· != 10) s k) (by omega); omega
        · rw [skip_stop s k hk (by simpa using hb) (by simpa using hc)]; exact Nat.le_refl _
    · rw [skip_end _ _ (by omega)]; exact Nat.le_refl _
theorem skip_le (s : ByteArray) : ∀ (n k : Nat), s.size - k ≤ n → k ≤ s.size → skip s k ≤ s.size := by
  intro n
  induction n with
  | zero => intro k h hk; rw [skip_end _ _ (by omega)]; exact hk
  | succ n ih =>
    intro k h hle
    by_cases hk : k < s.size
    · by_cases hb : blankB s[k] = true
      · rw [skip_blank s k hk hb]; exact ih (k + 1) (by omega) (by omega)
      · by_cases hc : s[k] = 35
        · have h1 := scan_hash s k hk hc
          rw [skip_hash s k hk hc]; exact ih _ (by omega) (scanTo_le _ _ _ hle)
        · rw [skip_stop s k hk (by simpa using hb) (by simpa using hc)]; exact hle
    · rw [skip_end _ _ (by omega)]; exact hle
/-- what stands behind blanks and comments is neither -/
theorem skip_at (s : ByteArray) : ∀ (n k : Nat), s.size - k ≤ n → ∀ h : skip s k < s.size, blankB s[skip s k] = false ∧ (s[skip s k] == 35) = false := by
  intro n
  induction n with
  | zero => intro k hn h; rw [skip_end _ _ (by omega)] at h; omega
  | succ n ih =>
    intro k hn h
    by_cases hk : k < s.size
    · by_cases hb : blankB s[k] = true
      · have e := skip_blank s k hk hb
        simp only [e] at h ⊢
        exact ih (k + 1) (by omega) h
      · by_cases hc : s[k] = 35
        · have h1 := scan_hash s k hk hc
          have e := skip_hash s k hk hc
          simp only [e] at h ⊢
          exact ih _ (by omega) h
        · have e := skip_stop s k hk (by simpa using hb) (by simpa using hc)
          simp only [e]
          exact ⟨by simpa using hb, by simpa using hc⟩
    · rw [skip_end _ _ (by omega)] at h; omega
end Go.Proofs.YtondgnefggglcaaDoor
