/- Several texts joined, each with its own sentence and conditions ahead of it: RefA, RefB, RefC. -/
import Derived.Test.YtoekldhdojpceaaGreatDoorMB
/- The reference's scanner, its leaves: bytes, runs, numbers, words, names; by contract. Conditions: texts of at most 16384 bytes. -/
namespace Go.Proofs.YtoekldhdojpceaaGreatDoor
open Go.RowKit

theorem rdigit_any (c : UInt8) (w : World) :
    Calls Tryz.prog 231 #[.int .u8 (c.toNat : Int)] w fun e w' => e = .returned (.bool (isDig c)) ∧ w = w' := by
  have hc := c.toNat_lt
  have HD : Hid (isDig c = (decide (48 ≤ c.toNat) && decide (c.toNat ≤ 57))) := rfl
  generalize isDig c = x at *
  generalize c.toNat = n at *
  go_enter Tryz.func231, Tryz.ntmps231
  go_wp2
  all_goals (go_ret; refine ⟨?_, rfl⟩; rw [HD.out]; refine ret_bool ?_; rw [Bool.eq_iff_iff]; simp; omega)
end Go.Proofs.YtoekldhdojpceaaGreatDoor
/- The reference's scanner: numbers, words, names; by contract. Conditions: texts of at most 16384 bytes. -/
namespace Go.Proofs.YtoekldhdojpceaaGreatDoor
open Go.RowKit

set_option maxRecDepth 100000 in
theorem rnumber_big (s : ByteArray) (w : World) (hs : s.size ≤ 100000) :
    Calls Tryz.prog 217 #[.string s] w fun e w' => e = .returned (.tuple #[.int .i64 (((number s.data.toList).getD 0 : Nat) : Int), .bool (number s.data.toList).isSome]) ∧ w = w' := by
  have hfin : ∀ (o : Option Nat), number s.data.toList = o → ∀ (e : Ending) (w' : World), e = .returned (.tuple #[.int .i64 ((o.getD 0 : Nat) : Int), .bool o.isSome]) → w = w' → (e = .returned (.tuple #[.int .i64 (((number s.data.toList).getD 0 : Nat) : Int), .bool (number s.data.toList).isSome]) ∧ w = w') := by
    intro o ho e w' he hb; rw [ho]; exact ⟨he, hb⟩
  have HF := Lib.hid hfin
  clear hfin
  go_enter Tryz.func217, Tryz.ntmps217
  go_wp2
  go_loop [4, 5] (fun n i => ∃ (k m : Nat), k ≤ s.size ∧ i = .int .i64 k ∧ n = .int .i64 m ∧ m ≤ 9223372036854775807 ∧ numGo m (s.data.toList.drop k) = numGo 0 s.data.toList) (fun _ i => s.size - (intOf i).toNat)
  case atStart => exact ⟨0, 0, Nat.zero_le _, rfl, rfl, by omega, rfl⟩
  case round =>
    obtain ⟨k, m, hk, rfl, rfl, hm, hnum⟩ := hrel
    have HN := Lib.hid hnum
    clear hnum
    by_cases hlt : k < s.size
    · have hd := s[k].toNat_lt
      have HY := Lib.hid (numGo_yes s k m hlt)
      have HO := Lib.hid (numGo_no s k m hlt)
      have HD : Hid (isDig s[k] = (decide (48 ≤ s[k].toNat) && decide (s[k].toNat ≤ 57))) := rfl
      have HC := Lib.hid (fun W => rdigit_any s[k] W)
      generalize hdg : isDig s[k] = dg at *
      generalize hdd : s[k].toNat = d at *
      have HDD := Lib.hid hdd
      have hno : (dg = false ∨ maxI < 10 * m + (d - 48)) → number s.data.toList = none := fun h => by
        rw [number_of s (by omega), ← HN.out]; exact HO.out h
      have HNO := Lib.hid hno
      clear hno hdg
      cases dg
      · have hx : Hid (number s.data.toList = none) := HNO.out (.inl rfl)
        clear HNO HY HO HD
        go_wp2_with (first
          | (go_at_call 231; refine (HC.out _).mono ?_; rintro e w' ⟨rfl, rfl⟩))
        go_ret2
        exact HF.out none hx.out _ _ rfl rfl
      · have hb : 48 ≤ d ∧ d ≤ 57 := by
          have := HD.out
          simp at this; omega
        obtain ⟨hb1, hb2⟩ := hb
        have hi1 : (48 : Int) ≤ d := by omega
        go_wp2_with (first
          | (go_at_call 231; refine (HC.out _).mono ?_; rintro e w' ⟨rfl, rfl⟩))
        · go_ret2
          have h2 : 9223372036854775807 < 10 * m + (d - 48) := by omega
          exact HF.out none (HNO.out (.inr h2)) _ _ rfl rfl
        · have h2 : 10 * m + (d - 48) ≤ 9223372036854775807 := by omega
          refine ⟨⟨k + 1, 10 * m + (d - 48), by omega, by go_num, ?_, h2, ?_⟩, by simp [intOf]; omega⟩
          · congr 1; omega
          · rw [← HY.out (by trivial) h2]; exact HN.out
    · obtain rfl : k = s.size := by omega
      rcases Nat.eq_zero_or_pos s.size with h0 | h0
      · have hm0 : m = 0 := by
          have h1 := HN.out
          have e : s.data.toList = [] := List.eq_nil_of_length_eq_zero (by rw [Array.length_toList]; exact h0)
          rw [e] at h1
          simp [numGo] at h1
          exact h1
        have he : s.toList.isEmpty = true := by
          rw [ByteArray.toList_eq, List.eq_nil_of_length_eq_zero (l := s.data.toList) (by rw [Array.length_toList]; exact h0)]; rfl
        have HH0 := Lib.hid h0
        subst hm0
        clear h0
        go_wp2
        go_ret2
        exact HF.out none (number_nil s HH0.out) _ _ rfl rfl
      · have he : s.toList.isEmpty = false := bne_of_size s h0
        have hv : number s.data.toList = some m := by
          rw [number_of s h0, ← HN.out, drop_end s _ (Nat.le_refl _)]; rfl
        have HV := Lib.hid hv
        clear hv
        go_wp2
        go_ret2
        exact HF.out _ HV.out _ _ rfl rfl

theorem rnumber_any (s : ByteArray) (w : World) (hs : s.size ≤ 16384) :
    Calls Tryz.prog 217 #[.string s] w fun e w' => e = .returned (.tuple #[.int .i64 (((number s.data.toList).getD 0 : Nat) : Int), .bool (number s.data.toList).isSome]) ∧ w = w' := rnumber_big s w (by omega)
end Go.Proofs.YtoekldhdojpceaaGreatDoor
/- The reference's names; by contract. Conditions: texts of at most 16384 bytes. -/
namespace Go.Proofs.YtoekldhdojpceaaGreatDoor
open Go.RowKit

/-- a byte that may stand at a place of a name -/
def nameAt (k : Nat) (c : UInt8) : Bool := isLow c || (decide (k ≠ 0) && (isDig c || c == 95))
def nameFrom (k : Nat) : List UInt8 → Bool
  | [] => true
  | c :: r => nameAt k c && nameFrom (k + 1) r
def namedF (l : List UInt8) : Bool := nameFrom 0 l && decide (1 ≤ l.length) && decide (l.length ≤ 24)

end Go.Proofs.YtoekldhdojpceaaGreatDoor
