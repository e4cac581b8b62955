/- The reference's names; by contract. Conditions: texts of at most 16384 bytes. -/
import Derived.Test.YtondgnefggglcaaDoorRefB
namespace Go.Proofs.YtondgnefggglcaaDoor
open Go.RowKit

/-- a byte that may stand at a place of a name -/
def nameAt (k : Nat) (c : UInt8) : Bool := isLow c || (decide (k ≠ 0) && (isDig c || c == 95))
def nameFrom (k : Nat) : List UInt8 → Bool
  | [] => true
  | c :: r => nameAt k c && nameFrom (k + 1) r
def namedF (l : List UInt8) : Bool := nameFrom 0 l && decide (1 ≤ l.length) && decide (l.length ≤ 24)

set_option maxHeartbeats 1000000 in
theorem rnamed_any (s : ByteArray) (w : World) (hs : s.size ≤ 16384) :
    Calls Tryd.prog 30 #[.string s] w fun e w' => e = .returned (.bool (namedF s.data.toList)) ∧ w = w' := by
  have hw : ∀ x, namedF s.data.toList = x → ∀ (e : Ending) (w' : World), e = .returned (.bool x) → w = w' → (e = .returned (.bool (namedF s.data.toList)) ∧ w = w') := by
    intro x hx e w' he hb; rw [hx]; exact ⟨he, hb⟩
  have HW := Lib.hid hw
  clear hw
  go_enter Tryd.func30, Tryd.ntmps30
  go_wp2
  go_loop [3] (fun i => ∃ k : Nat, k ≤ s.size ∧ i = .int .i64 k ∧ nameFrom k (s.data.toList.drop k) = nameFrom 0 s.data.toList) (fun i => s.size - (intOf i).toNat)
  case atStart => exact ⟨0, by omega, rfl, rfl⟩
  case round =>
    obtain ⟨k, hk, rfl, hno⟩ := hrel
    have HO := Lib.hid hno
    clear hno
    by_cases hlt : k < s.size
    · have hd := s[k].toNat_lt
      have HS : Hid (nameFrom k (s.data.toList.drop k) = (nameAt k s[k] && nameFrom (k + 1) (s.data.toList.drop (k + 1)))) := by
        show nameFrom k (s.data.toList.drop k) = _
        rw [drop_cons s k hlt]; rfl
      have h95 : (s[k] == 95) = decide (s[k].toNat = 95) := by
        rw [Bool.eq_iff_iff]; simp [← UInt8.toNat_inj]
      have HA : Hid (nameAt k s[k] = ((decide (97 ≤ s[k].toNat) && decide (s[k].toNat ≤ 122)) || (decide (k ≠ 0) && ((decide (48 ≤ s[k].toNat) && decide (s[k].toNat ≤ 57)) || decide (s[k].toNat = 95))))) := by
        show nameAt k s[k] = _
        unfold nameAt; rw [h95]; rfl
      clear h95
      have hgo : nameAt k s[k] = true → nameFrom (k + 1) (s.data.toList.drop (k + 1)) = nameFrom 0 s.data.toList := fun h => by
        rw [← HO.out, HS.out, h, Bool.true_and]
      have hst : nameAt k s[k] = false → namedF s.data.toList = false := fun h => by
        unfold namedF; rw [← HO.out, HS.out, h]; rfl
      have HGO := Lib.hid hgo
      have HST := Lib.hid hst
      clear hgo hst
      have hcases : (97 ≤ s[k].toNat ∧ s[k].toNat ≤ 122) ∨ (0 < k ∧ 48 ≤ s[k].toNat ∧ s[k].toNat ≤ 57) ∨ (0 < k ∧ 95 ≤ s[k].toNat ∧ s[k].toNat ≤ 95) ∨
          (0 < k ∧ s[k].toNat < 48) ∨ (0 < k ∧ 57 < s[k].toNat ∧ s[k].toNat < 95) ∨ (0 < k ∧ 95 < s[k].toNat ∧ s[k].toNat < 97) ∨ (0 < k ∧ 122 < s[k].toNat) ∨ (k = 0 ∧ s[k].toNat < 97) ∨ (k = 0 ∧ 122 < s[k].toNat) := by omega
      rcases hcases with ⟨g1, g2⟩ | ⟨g0, g1, g2⟩ | ⟨g0, g1, g2⟩ | ⟨g0, g1⟩ | ⟨g0, g1, g2⟩ | ⟨g0, g1, g2⟩ | ⟨g0, g1⟩ | ⟨rfl, g1⟩ | ⟨rfl, g1⟩
      · go_wp2
        exact ⟨⟨k + 1, by omega, by go_num, HGO.out (by rw [HA.out]; simp; omega)⟩, by simp [intOf]; omega⟩
      · have hk0 : ((k : Int) == 0) = false := by simp; omega
        go_wp2
        exact ⟨⟨k + 1, by omega, by go_num, HGO.out (by rw [HA.out]; simp; omega)⟩, by simp [intOf]; omega⟩
      · have hk0 : ((k : Int) == 0) = false := by simp; omega
        have h95 : ((s[k].toNat : Int) == 95) = true := by simp; omega
        have hn5 : decide ((s[k].toNat : Int) ≤ 57) = false := by simp; omega
        go_wp2
        exact ⟨⟨k + 1, by omega, by go_num, HGO.out (by rw [HA.out]; simp; omega)⟩, by simp [intOf]; omega⟩
      · have hk0 : ((k : Int) == 0) = false := by simp; omega
        have h95 : ((s[k].toNat : Int) == 95) = false := by simp; omega
        go_wp2
        go_ret
        exact HW.out false (HST.out (by rw [HA.out]; simp; omega)) _ _ rfl rfl
      · have hk0 : ((k : Int) == 0) = false := by simp; omega
        have h95 : ((s[k].toNat : Int) == 95) = false := by simp; omega
        have hn5 : decide ((s[k].toNat : Int) ≤ 57) = false := by simp; omega
        go_wp2
        go_ret
        exact HW.out false (HST.out (by rw [HA.out]; simp; omega)) _ _ rfl rfl
      · have hk0 : ((k : Int) == 0) = false := by simp; omega
        have h95 : ((s[k].toNat : Int) == 95) = false := by simp; omega
        have hn5 : decide ((s[k].toNat : Int) ≤ 57) = false := by simp; omega
        go_wp2
        go_ret
        exact HW.out false (HST.out (by rw [HA.out]; simp; omega)) _ _ rfl rfl
      · have hk0 : ((k : Int) == 0) = false := by simp; omega
        have h95 : ((s[k].toNat : Int) == 95) = false := by simp; omega
        have hn : decide ((s[k].toNat : Int) ≤ 122) = false := by simp; omega
        have hn5 : decide ((s[k].toNat : Int) ≤ 57) = false := by simp; omega
        go_wp2
        go_ret
        exact HW.out false (HST.out (by rw [HA.out]; simp; omega)) _ _ rfl rfl
      · go_wp2
        go_ret
        exact HW.out false (HST.out (by rw [HA.out]; simp; omega)) _ _ rfl rfl
      · have hn : decide ((s[0].toNat : Int) ≤ 122) = false := by simp; omega
        go_wp2
        go_ret
        exact HW.out false (HST.out (by rw [HA.out]; simp; omega)) _ _ rfl rfl
    · obtain rfl : k = s.size := by omega
      have he : nameFrom 0 s.data.toList = true := by rw [← HO.out, drop_end s _ (Nat.le_refl _)]; rfl
      have hl : s.data.toList.length = s.size := by simp
      have HE : Hid (namedF s.data.toList = (decide (1 ≤ s.size) && decide (s.size ≤ 24))) := by
        show namedF s.data.toList = _
        unfold namedF; rw [he, hl, Bool.true_and]
      clear he hl
      by_cases h1 : 1 ≤ s.size
      · by_cases h2 : s.size ≤ 24
        · go_wp2
          go_ret
          exact HW.out true (by rw [HE.out]; simp; omega) _ _ (by simp; omega) rfl
        · go_wp2
          go_ret
          exact HW.out false (by rw [HE.out]; simp; omega) _ _ (by simp; omega) rfl
      · go_wp2
        go_ret
        exact HW.out false (by rw [HE.out]; simp; omega) _ _ rfl rfl
end Go.Proofs.YtondgnefggglcaaDoor
