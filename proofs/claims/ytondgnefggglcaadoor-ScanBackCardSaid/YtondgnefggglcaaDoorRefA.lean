/- The reference's scanner, its leaves: bytes, runs, numbers, words, names; by contract. Conditions: texts of at most 16384 bytes. -/
import Derived.Test.YtondgnefggglcaaDoorScanJ
namespace Go.Proofs.YtondgnefggglcaaDoor
open Go.RowKit

theorem rdigit_any (c : UInt8) (w : World) :
    Calls Tryd.prog 21 #[.int .u8 (c.toNat : Int)] w fun e w' => e = .returned (.bool (isDig c)) ∧ w = w' := by
  have hc := c.toNat_lt
  have HD : Hid (isDig c = (decide (48 ≤ c.toNat) && decide (c.toNat ≤ 57))) := rfl
  generalize isDig c = x at *
  generalize c.toNat = n at *
  go_enter Tryd.func21, Tryd.ntmps21
  go_wp2
  all_goals (go_ret; refine ⟨?_, rfl⟩; rw [HD.out]; refine ret_bool ?_; rw [Bool.eq_iff_iff]; simp; omega)
theorem rlow_any (c : UInt8) (w : World) :
    Calls Tryd.prog 27 #[.int .u8 (c.toNat : Int)] w fun e w' => e = .returned (.bool (isLow c)) ∧ w = w' := by
  have hc := c.toNat_lt
  have HD : Hid (isLow c = (decide (97 ≤ c.toNat) && decide (c.toNat ≤ 122))) := rfl
  generalize isLow c = x at *
  generalize c.toNat = n at *
  go_enter Tryd.func27, Tryd.ntmps27
  go_wp2
  all_goals (go_ret; refine ⟨?_, rfl⟩; rw [HD.out]; refine ret_bool ?_; rw [Bool.eq_iff_iff]; simp; omega)
theorem ron_any (c : UInt8) (w : World) :
    Calls Tryd.prog 31 #[.int .u8 (c.toNat : Int)] w fun e w' => e = .returned (.bool (isOn c)) ∧ w = w' := by
  have HL := Lib.hid (fun W => rlow_any c W)
  have HD := Lib.hid (fun W => rdigit_any c W)
  have h95 : (c == 95) = decide (c.toNat = 95) := by
    rw [Bool.eq_iff_iff]; simp [← UInt8.toNat_inj]
  have HO : Hid (isOn c = (isLow c || isDig c || decide (c.toNat = 95))) := by show isOn c = _; unfold isOn; rw [h95]
  clear h95
  generalize isOn c = x at *
  generalize isLow c = lo at *
  generalize isDig c = di at *
  generalize c.toNat = n at *
  go_enter Tryd.func31, Tryd.ntmps31
  cases lo
  · cases di
    · go_wp2_with (first
        | (go_at_call 27; refine (HL.out _).mono ?_; rintro e w' ⟨rfl, rfl⟩)
        | (go_at_call 21; refine (HD.out _).mono ?_; rintro e w' ⟨rfl, rfl⟩))
      go_ret
      refine ⟨?_, rfl⟩
      rw [HO.out]; refine ret_bool ?_; rw [Bool.eq_iff_iff]; simp; omega
    · go_wp2_with (first
        | (go_at_call 27; refine (HL.out _).mono ?_; rintro e w' ⟨rfl, rfl⟩)
        | (go_at_call 21; refine (HD.out _).mono ?_; rintro e w' ⟨rfl, rfl⟩))
      go_ret
      exact ⟨by rw [HO.out]; rfl, rfl⟩
  · go_wp2_with (first
      | (go_at_call 27; refine (HL.out _).mono ?_; rintro e w' ⟨rfl, rfl⟩))
    go_ret
    exact ⟨by rw [HO.out]; rfl, rfl⟩

theorem rrun_any (s : ByteArray) (k : Nat) (w : World) (hk : k ≤ s.size) (hs : s.size ≤ 16384) :
    Calls Tryd.prog 28 #[.string s, .int .i64 k] w fun e w' => e = .returned (.int .i64 (scanTo isOn s k)) ∧ w = w' := by
  go_enter Tryd.func28, Tryd.ntmps28
  go_wp2_with fail
  go_loop [1] (fun i => ∃ j : Nat, k ≤ j ∧ j ≤ s.size ∧ i = .int .i64 j ∧ scanTo isOn s j = scanTo isOn s k) (fun i => s.size - (intOf i).toNat)
  case atStart => exact ⟨k, Nat.le_refl _, hk, rfl, rfl⟩
  case round =>
    obtain ⟨j, hkj, hj, rfl, hsc⟩ := hrel
    have HS := Lib.hid hsc
    clear hsc
    by_cases hlt : j < s.size
    · have HY := Lib.hid (scanTo_yes isOn s j hlt)
      have HN := Lib.hid (scanTo_no isOn s j hlt)
      have HC := Lib.hid (fun W => ron_any s[j] W)
      generalize isOn s[j] = o at *
      cases o
      · go_wp2_with (first
          | (go_at_call 31; refine (HC.out _).mono ?_; rintro e w' ⟨rfl, rfl⟩))
        go_ret
        have e : scanTo isOn s k = j := by rw [← HS.out]; exact HN.out (by simp)
        rw [e]
        exact ⟨rfl, rfl⟩
      · go_wp2_with (first
          | (go_at_call 31; refine (HC.out _).mono ?_; rintro e w' ⟨rfl, rfl⟩))
        go_round
        case rel => exact ⟨j + 1, by omega, by omega, by go_num, by rw [HY.out (by simp)]; exact HS.out⟩
        case measure => simp [intOf]; omega
    · go_wp2
      go_ret
      have e : scanTo isOn s k = j := by rw [← HS.out]; exact scanTo_end isOn s j (by omega)
      rw [e]
      exact ⟨rfl, rfl⟩
end Go.Proofs.YtondgnefggglcaaDoor
