/- The reference's scanner: numbers, words, names; by contract. Conditions: texts of at most 16384 bytes. -/
import Derived.Test.YtondgnefggglcaaDoorRefA
namespace Go.Proofs.YtondgnefggglcaaDoor
open Go.RowKit

set_option maxRecDepth 100000 in
theorem rnumber_any (s : ByteArray) (w : World) (hs : s.size ≤ 16384) :
    Calls Tryd.prog 13 #[.string s] w fun e w' => e = .returned (.tuple #[.int .i64 (((number s.data.toList).getD 0 : Nat) : Int), .bool (number s.data.toList).isSome]) ∧ w = w' := by
  have hfin : ∀ (o : Option Nat), number s.data.toList = o → ∀ (e : Ending) (w' : World), e = .returned (.tuple #[.int .i64 ((o.getD 0 : Nat) : Int), .bool o.isSome]) → w = w' → (e = .returned (.tuple #[.int .i64 (((number s.data.toList).getD 0 : Nat) : Int), .bool (number s.data.toList).isSome]) ∧ w = w') := by
    intro o ho e w' he hb; rw [ho]; exact ⟨he, hb⟩
  have HF := Lib.hid hfin
  clear hfin
  go_enter Tryd.func13, Tryd.ntmps13
  go_wp2
  go_loop [4, 5] (fun n i => ∃ (k m : Nat), k ≤ s.size ∧ i = .int .i64 k ∧ n = .int .i64 m ∧ m ≤ 9223372036854775807 ∧ numGo m (s.data.toList.drop k) = numGo 0 s.data.toList) (fun _ i => s.size - (intOf i).toNat)
  case atStart => exact ⟨0, 0, Nat.zero_le _, rfl, rfl, by omega, rfl⟩
  case round =>
    obtain ⟨k, m, hk, rfl, rfl, hm, hnum⟩ := hrel
    have HN := Lib.hid hnum
    clear hnum
    by_cases hlt : k < s.size
    · have hd := s[k].toNat_lt
      have HY := Lib.hid (numGo_yes s k m hlt)
      have HO := Lib.hid (numGo_no s k m hlt)
      have HD : Hid (isDig s[k] = (decide (48 ≤ s[k].toNat) && decide (s[k].toNat ≤ 57))) := rfl
      have HC := Lib.hid (fun W => rdigit_any s[k] W)
      generalize hdg : isDig s[k] = dg at *
      generalize hdd : s[k].toNat = d at *
      have HDD := Lib.hid hdd
      have hno : (dg = false ∨ maxI < 10 * m + (d - 48)) → number s.data.toList = none := fun h => by
        rw [number_of s (by omega), ← HN.out]; exact HO.out h
      have HNO := Lib.hid hno
      clear hno hdg
      cases dg
      · have hx : Hid (number s.data.toList = none) := HNO.out (.inl rfl)
        clear HNO HY HO HD
        go_wp2_with (first
          | (go_at_call 21; refine (HC.out _).mono ?_; rintro e w' ⟨rfl, rfl⟩))
        go_ret2
        exact HF.out none hx.out _ _ rfl rfl
      · have hb : 48 ≤ d ∧ d ≤ 57 := by
          have := HD.out
          simp at this; omega
        obtain ⟨hb1, hb2⟩ := hb
        have hi1 : (48 : Int) ≤ d := by omega
        go_wp2_with (first
          | (go_at_call 21; refine (HC.out _).mono ?_; rintro e w' ⟨rfl, rfl⟩))
        · go_ret2
          have h2 : 9223372036854775807 < 10 * m + (d - 48) := by omega
          exact HF.out none (HNO.out (.inr h2)) _ _ rfl rfl
        · have h2 : 10 * m + (d - 48) ≤ 9223372036854775807 := by omega
          refine ⟨⟨k + 1, 10 * m + (d - 48), by omega, by go_num, ?_, h2, ?_⟩, by simp [intOf]; omega⟩
          · congr 1; omega
          · rw [← HY.out (by trivial) h2]; exact HN.out
    · obtain rfl : k = s.size := by omega
      rcases Nat.eq_zero_or_pos s.size with h0 | h0
      · have hm0 : m = 0 := by
          have h1 := HN.out
          have e : s.data.toList = [] := List.eq_nil_of_length_eq_zero (by rw [Array.length_toList]; exact h0)
          rw [e] at h1
          simp [numGo] at h1
          exact h1
        have he : s.toList.isEmpty = true := by
          rw [ByteArray.toList_eq, List.eq_nil_of_length_eq_zero (l := s.data.toList) (by rw [Array.length_toList]; exact h0)]; rfl
        have HH0 := Lib.hid h0
        subst hm0
        clear h0
        go_wp2
        go_ret2
        exact HF.out none (number_nil s HH0.out) _ _ rfl rfl
      · have he : s.toList.isEmpty = false := bne_of_size s h0
        have hv : number s.data.toList = some m := by
          rw [number_of s h0, ← HN.out, drop_end s _ (Nat.le_refl _)]; rfl
        have HV := Lib.hid hv
        clear hv
        go_wp2
        go_ret2
        exact HF.out _ HV.out _ _ rfl rfl

theorem rwords_any (w : World) :
    Calls Tryd.prog 15 #[] w fun e w' => e = .returned (.slice (some ⟨w.heap.size, 0, none⟩) 11 11) ∧ w' = w.alloc (.cells (wordsL.map Value.string).toArray 9) := by
  go_enter Tryd.func15, Tryd.ntmps15
  go_wp2
  go_ret
  exact ⟨rfl, rfl⟩
theorem rsigns_any (w : World) :
    Calls Tryd.prog 32 #[] w fun e w' => e = .returned (.slice (some ⟨w.heap.size, 0, none⟩) 17 17) ∧ w' = w.alloc (.cells (signsL.map Value.string).toArray 9) := by
  go_enter Tryd.func32, Tryd.ntmps32
  go_wp2
  go_ret
  exact ⟨rfl, rfl⟩

theorem rword_any (s : ByteArray) (w : World) :
    Calls Tryd.prog 29 #[.string s] w fun e w' => e = .returned (.bool (wordB s.data.toList)) ∧ Below w.heap.size w w' := by
  have hw : ∀ x, wordB s.data.toList = x → ∀ (e : Ending) (w' : World), e = .returned (.bool x) → Below w.heap.size w w' → (e = .returned (.bool (wordB s.data.toList)) ∧ Below w.heap.size w w') := by
    intro x hx e w' he hb; rw [hx]; exact ⟨he, hb⟩
  have HW := Lib.hid hw
  clear hw
  go_enter Tryd.func29, Tryd.ntmps29
  go_wp2_with (first
    | (go_at_call 15; refine (rwords_any _).mono ?_; rintro e w1 ⟨rfl, rfl⟩))
  have hB := heap_alloc_new w (.cells (wordsL.map Value.string).toArray 9)
  have hb : Below w.heap.size w (w.alloc (.cells (wordsL.map Value.string).toArray 9)) := (Below.refl _ w).alloc (Nat.le_refl _) _
  generalize w.alloc (.cells (wordsL.map Value.string).toArray 9) = w1 at *
  have HB := Lib.hid hB
  clear hB
  go_loop [4] (fun i => ∃ k : Nat, k ≤ 11 ∧ i = .int .i64 k ∧ (wordsL.take k).any (fun b => b.data.toList == s.data.toList) = false) (fun i => 11 - (intOf i).toNat)
  case atStart => exact ⟨0, by omega, rfl, rfl⟩
  case round =>
    obtain ⟨k, hk, rfl, hno⟩ := hrel
    have HO := Lib.hid hno
    clear hno
    by_cases hlt : k < 11
    · obtain ⟨g, hg⟩ : ∃ g, wordsL[k]? = some g := ⟨wordsL[k]'hlt, List.getElem?_eq_getElem hlt⟩
      have hck : w1.cell? ⟨w.heap.size, k, none⟩ = some (.string g) := by
        rw [cell_of_row _ _ _ _ _ _ HB.out]; simp [hg]
      have HG := Lib.hid hg
      clear hg
      cases he : g.toList == s.toList
      · have HE := Lib.hid he
        go_wp2
        go_round
        case rel => exact ⟨k + 1, by omega, by go_num, by rw [take_succ_any _ _ _ _ HG.out HO.out]; simpa [ByteArray.toList_eq] using HE.out⟩
        case measure => simp [intOf]; omega
      · have HE := Lib.hid he
        go_wp2
        go_ret
        refine HW.out true ?_ _ _ rfl hb
        unfold wordB
        exact any_of_mem (fun b => b.data.toList == s.data.toList) _ k g HG.out (by simpa [ByteArray.toList_eq] using HE.out)
    · obtain rfl : k = 11 := by omega
      go_wp2
      go_ret
      refine HW.out false ?_ _ _ rfl hb
      unfold wordB
      exact HO.out
end Go.Proofs.YtondgnefggglcaaDoor
