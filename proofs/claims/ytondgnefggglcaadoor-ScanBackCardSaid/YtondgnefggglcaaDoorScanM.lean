/- Two lists of tokens that read alike are told the same; by contract. Conditions: at most 20000 tokens. -/
import Derived.Test.YtondgnefggglcaaDoorRefG
namespace Go.Proofs.YtondgnefggglcaaDoor
open Go.RowKit

theorem lexCells_length (l : List Tok) : (lexCells l).length = 3 * l.length := by
  induction l with
  | nil => rfl
  | cons t r ih =>
    have : lexCells (t :: r) = tokCells t ++ lexCells r := rfl
    rw [this, List.length_append, ih, List.length_cons]
    have : (tokCells t).length = 3 := rfl
    omega
theorem lexCells_at (l : List Tok) (i : Nat) (t : Tok) (h : l[i]? = some t) : (lexCells l)[3 * i]? = some (.int .u8 t.1) ∧ (lexCells l)[3 * i + 1]? = some (.string t.2.1) ∧ (lexCells l)[3 * i + 2]? = some (.int .i64 t.2.2) := by
  induction l generalizing i with
  | nil => simp at h
  | cons a r ih =>
    have e : lexCells (a :: r) = tokCells a ++ lexCells r := rfl
    have h3 : (tokCells a).length = 3 := rfl
    cases i with
    | zero =>
      obtain rfl : a = t := by simpa using h
      rw [e]
      exact ⟨rfl, rfl, rfl⟩
    | succ i =>
      have h' : r[i]? = some t := by simpa using h
      obtain ⟨a1, a2, a3⟩ := ih i h'
      rw [e]
      refine ⟨?_, ?_, ?_⟩
      · rw [List.getElem?_append_right (by omega), h3, show 3 * (i + 1) - 3 = 3 * i from by omega]; exact a1
      · rw [List.getElem?_append_right (by omega), h3, show 3 * (i + 1) + 1 - 3 = 3 * i + 1 from by omega]; exact a2
      · rw [List.getElem?_append_right (by omega), h3, show 3 * (i + 1) + 2 - 3 = 3 * i + 2 from by omega]; exact a3

/-- a slice of tokens, one at least -/
theorem lexRow {w : World} {B n : Nat} {v : Value} {l : List Tok} (h : w.ownsRow B 41 3 v n (lexCells l)) (hn : 0 < n) :
    ∃ g cap, v = .slice (some ⟨g, 0, none⟩) n cap ∧ g < w.heap.size ∧ B ≤ g ∧ ∀ i t, l[i]? = some t → w.cell? ⟨g, i * 3, none⟩ = some (.int .u8 t.1) ∧ w.cell? ⟨g, i * 3 + 1, none⟩ = some (.string t.2.1) ∧ w.cell? ⟨g, i * 3 + 2, none⟩ = some (.int .i64 t.2.2) := by
  obtain ⟨g, cap, rfl, hB, hlt⟩ : ∃ g cap, v = .slice (some ⟨g, 0, none⟩) n cap ∧ B ≤ g ∧ g < w.heap.size := by
    rcases h.2 with ⟨_, rfl⟩ | ⟨g, cap, cur, rfl, hg, hh, _⟩
    · omega
    · exact ⟨g, cap, rfl, hg, (Array.getElem?_eq_some_iff.1 hh).1⟩
  refine ⟨g, cap, rfl, hlt, hB, fun i t ht => ?_⟩
  obtain ⟨a1, a2, a3⟩ := lexCells_at l i t ht
  have hc := h.cells (g := g) rfl
  have e : ∀ j, ((⟨g, 0, none⟩ : Addr).add j) = ⟨g, j, none⟩ := fun j => by
    unfold Addr.add
    by_cases h0 : j = 0
    · rw [if_pos h0, h0]
    · rw [if_neg h0]; simp
  have b1 := hc _ _ a1
  have b2 := hc _ _ a2
  have b3 := hc _ _ a3
  rw [e] at b1 b2 b3
  rw [Nat.mul_comm 3 i] at b1 b2 b3
  exact ⟨b1, b2, b3⟩

theorem sameLexes_nil (w : World) : Calls Tryd.prog 11 #[.slice none 0 0, .slice none 0 0] w fun e w' => e = .returned (.bool true) ∧ w = w' := by
  go_enter Tryd.func11, Tryd.ntmps11
  go_wp2
  go_loop [5] (fun i => i = .int .i64 0) (fun _ => 0)
  case atStart => rfl
  case round =>
    subst hrel
    go_wp2
    go_ret
    exact ⟨rfl, rfl⟩

set_option maxHeartbeats 1000000 in
theorem sameLexes_same (l : List Tok) (n B C : Nat) (u v : Value) (w : World) (hn : l.length = n) (h0 : 0 < n) (hbig : n ≤ 20000) (hu : w.ownsRow B 41 3 u n (lexCells l)) (hv : w.ownsRow C 41 3 v n (lexCells l)) :
    Calls Tryd.prog 11 #[u, v] w fun e w' => e = .returned (.bool true) ∧ Below w.heap.size w w' := by
  obtain ⟨g, cap, rfl, _, _, hg⟩ := lexRow hu h0
  obtain ⟨g', cap', rfl, _, _, hg'⟩ := lexRow hv h0
  have HG := Lib.hid hg
  have HG' := Lib.hid hg'
  have HN := Lib.hid hn
  clear hu hv hg hg' hn
  go_enter Tryd.func11, Tryd.ntmps11
  go_wp2
  go_loopw [5, 25] (fun i _ wr => ∃ k nn : Nat, k ≤ n ∧ i = .int .i64 k ∧ wr = w.drewN nn) (fun i _ _ => n - (intOf i).toNat)
  case atStart => exact ⟨0, 0, by omega, rfl, rfl⟩
  case round =>
    obtain ⟨k, nn, hk, rfl, rfl⟩ := hrel
    by_cases hlt : k < n
    · obtain ⟨t, ht⟩ : ∃ t, l[k]? = some t := ⟨l[k]'(by rw [HN.out]; exact hlt), List.getElem?_eq_getElem (by rw [HN.out]; exact hlt)⟩
      obtain ⟨a1, a2, a3⟩ := HG.out k t ht
      obtain ⟨b1, b2, b3⟩ := HG'.out k t ht
      have HT := Lib.hid ht
      clear ht
      have hk0 : (0 : Int) ≤ k := by omega
      have hk1 : (k : Int) < n := by omega
      go_wp2
      go_quiet (fail)
      go_wp2
      exact ⟨⟨k + 1, _, by omega, by go_num, rfl⟩, by simp [intOf]; omega⟩
    · go_wp2
      go_ret
      exact ⟨rfl, below_drewN (Below.refl _ _) _⟩
end Go.Proofs.YtondgnefggglcaaDoor
