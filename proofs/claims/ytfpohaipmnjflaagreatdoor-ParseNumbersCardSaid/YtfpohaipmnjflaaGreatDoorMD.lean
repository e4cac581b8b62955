/- Several texts joined, each with its own sentence and conditions ahead of it: RefA, RefB, RefC. -/
import Derived.Test.YtfpohaipmnjflaaGreatDoorMB
/- The reference's scanner, its leaves: bytes, runs, numbers, words, names; by contract. Conditions: texts of at most 16384 bytes. -/
namespace Go.Proofs.YtfpohaipmnjflaaGreatDoor
open Go.RowKit

theorem rdigit_any (c : UInt8) (w : World) :
    Calls Tryz.prog 141 #[.int .u8 (c.toNat : Int)] w fun e w' => e = .returned (.bool (isDig c)) ∧ w = w' := by
  have hc := c.toNat_lt
  have HD : Hid (isDig c = (decide (48 ≤ c.toNat) && decide (c.toNat ≤ 57))) := rfl
  generalize isDig c = x at *
  generalize c.toNat = n at *
  go_enter Tryz.func141, Tryz.ntmps141
  go_wp2
  all_goals (go_ret; refine ⟨?_, rfl⟩; rw [HD.out]; refine ret_bool ?_; rw [Bool.eq_iff_iff]; simp; omega)
theorem rlow_any (c : UInt8) (w : World) :
    Calls Tryz.prog 138 #[.int .u8 (c.toNat : Int)] w fun e w' => e = .returned (.bool (isLow c)) ∧ w = w' := by
  have hc := c.toNat_lt
  have HD : Hid (isLow c = (decide (97 ≤ c.toNat) && decide (c.toNat ≤ 122))) := rfl
  generalize isLow c = x at *
  generalize c.toNat = n at *
  go_enter Tryz.func138, Tryz.ntmps138
  go_wp2
  all_goals (go_ret; refine ⟨?_, rfl⟩; rw [HD.out]; refine ret_bool ?_; rw [Bool.eq_iff_iff]; simp; omega)
theorem ron_any (c : UInt8) (w : World) :
    Calls Tryz.prog 142 #[.int .u8 (c.toNat : Int)] w fun e w' => e = .returned (.bool (isOn c)) ∧ w = w' := by
  have HL := Lib.hid (fun W => rlow_any c W)
  have HD := Lib.hid (fun W => rdigit_any c W)
  have h95 : (c == 95) = decide (c.toNat = 95) := by
    rw [Bool.eq_iff_iff]; simp [← UInt8.toNat_inj]
  have HO : Hid (isOn c = (isLow c || isDig c || decide (c.toNat = 95))) := by show isOn c = _; unfold isOn; rw [h95]
  clear h95
  generalize isOn c = x at *
  generalize isLow c = lo at *
  generalize isDig c = di at *
  generalize c.toNat = n at *
  go_enter Tryz.func142, Tryz.ntmps142
  cases lo
  · cases di
    · go_wp2_with (first
        | (go_at_call 138; refine (HL.out _).mono ?_; rintro e w' ⟨rfl, rfl⟩)
        | (go_at_call 141; refine (HD.out _).mono ?_; rintro e w' ⟨rfl, rfl⟩))
      go_ret
      refine ⟨?_, rfl⟩
      rw [HO.out]; refine ret_bool ?_; rw [Bool.eq_iff_iff]; simp; omega
    · go_wp2_with (first
        | (go_at_call 138; refine (HL.out _).mono ?_; rintro e w' ⟨rfl, rfl⟩)
        | (go_at_call 141; refine (HD.out _).mono ?_; rintro e w' ⟨rfl, rfl⟩))
      go_ret
      exact ⟨by rw [HO.out]; rfl, rfl⟩
  · go_wp2_with (first
      | (go_at_call 138; refine (HL.out _).mono ?_; rintro e w' ⟨rfl, rfl⟩))
    go_ret
    exact ⟨by rw [HO.out]; rfl, rfl⟩

theorem rrun_any (s : ByteArray) (k : Nat) (w : World) (hk : k ≤ s.size) (hs : s.size ≤ 16384) :
    Calls Tryz.prog 139 #[.string s, .int .i64 k] w fun e w' => e = .returned (.int .i64 (scanTo isOn s k)) ∧ w = w' := by
  go_enter Tryz.func139, Tryz.ntmps139
  go_wp2_with fail
  go_loop [1] (fun i => ∃ j : Nat, k ≤ j ∧ j ≤ s.size ∧ i = .int .i64 j ∧ scanTo isOn s j = scanTo isOn s k) (fun i => s.size - (intOf i).toNat)
  case atStart => exact ⟨k, Nat.le_refl _, hk, rfl, rfl⟩
  case round =>
    obtain ⟨j, hkj, hj, rfl, hsc⟩ := hrel
    have HS := Lib.hid hsc
    clear hsc
    by_cases hlt : j < s.size
    · have HY := Lib.hid (scanTo_yes isOn s j hlt)
      have HN := Lib.hid (scanTo_no isOn s j hlt)
      have HC := Lib.hid (fun W => ron_any s[j] W)
      generalize isOn s[j] = o at *
      cases o
      · go_wp2_with (first
          | (go_at_call 142; refine (HC.out _).mono ?_; rintro e w' ⟨rfl, rfl⟩))
        go_ret
        have e : scanTo isOn s k = j := by rw [← HS.out]; exact HN.out (by simp)
        rw [e]
        exact ⟨rfl, rfl⟩
      · go_wp2_with (first
          | (go_at_call 142; refine (HC.out _).mono ?_; rintro e w' ⟨rfl, rfl⟩))
        go_round
        case rel => exact ⟨j + 1, by omega, by omega, by go_num, by rw [HY.out (by simp)]; exact HS.out⟩
        case measure => simp [intOf]; omega
    · go_wp2
      go_ret
      have e : scanTo isOn s k = j := by rw [← HS.out]; exact scanTo_end isOn s j (by omega)
      rw [e]
      exact ⟨rfl, rfl⟩
end Go.Proofs.YtfpohaipmnjflaaGreatDoor
/- The reference's scanner: numbers, words, names; by contract. Conditions: texts of at most 16384 bytes. -/
namespace Go.Proofs.YtfpohaipmnjflaaGreatDoor
open Go.RowKit

set_option maxRecDepth 100000 in
theorem rnumber_big (s : ByteArray) (w : World) (hs : s.size ≤ 100000) :
    Calls Tryz.prog 122 #[.string s] w fun e w' => e = .returned (.tuple #[.int .i64 (((number s.data.toList).getD 0 : Nat) : Int), .bool (number s.data.toList).isSome]) ∧ w = w' := by
  have hfin : ∀ (o : Option Nat), number s.data.toList = o → ∀ (e : Ending) (w' : World), e = .returned (.tuple #[.int .i64 ((o.getD 0 : Nat) : Int), .bool o.isSome]) → w = w' → (e = .returned (.tuple #[.int .i64 (((number s.data.toList).getD 0 : Nat) : Int), .bool (number s.data.toList).isSome]) ∧ w = w') := by
    intro o ho e w' he hb; rw [ho]; exact ⟨he, hb⟩
  have HF := Lib.hid hfin
  clear hfin
  go_enter Tryz.func122, Tryz.ntmps122
  go_wp2
  go_loop [4, 5] (fun n i => ∃ (k m : Nat), k ≤ s.size ∧ i = .int .i64 k ∧ n = .int .i64 m ∧ m ≤ 9223372036854775807 ∧ numGo m (s.data.toList.drop k) = numGo 0 s.data.toList) (fun _ i => s.size - (intOf i).toNat)
  case atStart => exact ⟨0, 0, Nat.zero_le _, rfl, rfl, by omega, rfl⟩
  case round =>
    obtain ⟨k, m, hk, rfl, rfl, hm, hnum⟩ := hrel
    have HN := Lib.hid hnum
    clear hnum
    by_cases hlt : k < s.size
    · have hd := s[k].toNat_lt
      have HY := Lib.hid (numGo_yes s k m hlt)
      have HO := Lib.hid (numGo_no s k m hlt)
      have HD : Hid (isDig s[k] = (decide (48 ≤ s[k].toNat) && decide (s[k].toNat ≤ 57))) := rfl
      have HC := Lib.hid (fun W => rdigit_any s[k] W)
      generalize hdg : isDig s[k] = dg at *
      generalize hdd : s[k].toNat = d at *
      have HDD := Lib.hid hdd
      have hno : (dg = false ∨ maxI < 10 * m + (d - 48)) → number s.data.toList = none := fun h => by
        rw [number_of s (by omega), ← HN.out]; exact HO.out h
      have HNO := Lib.hid hno
      clear hno hdg
      cases dg
      · have hx : Hid (number s.data.toList = none) := HNO.out (.inl rfl)
        clear HNO HY HO HD
        go_wp2_with (first
          | (go_at_call 141; refine (HC.out _).mono ?_; rintro e w' ⟨rfl, rfl⟩))
        go_ret2
        exact HF.out none hx.out _ _ rfl rfl
      · have hb : 48 ≤ d ∧ d ≤ 57 := by
          have := HD.out
          simp at this; omega
        obtain ⟨hb1, hb2⟩ := hb
        have hi1 : (48 : Int) ≤ d := by omega
        go_wp2_with (first
          | (go_at_call 141; refine (HC.out _).mono ?_; rintro e w' ⟨rfl, rfl⟩))
        · go_ret2
          have h2 : 9223372036854775807 < 10 * m + (d - 48) := by omega
          exact HF.out none (HNO.out (.inr h2)) _ _ rfl rfl
        · have h2 : 10 * m + (d - 48) ≤ 9223372036854775807 := by omega
          refine ⟨⟨k + 1, 10 * m + (d - 48), by omega, by go_num, ?_, h2, ?_⟩, by simp [intOf]; omega⟩
          · congr 1; omega
          · rw [← HY.out (by trivial) h2]; exact HN.out
    · obtain rfl : k = s.size := by omega
      rcases Nat.eq_zero_or_pos s.size with h0 | h0
      · have hm0 : m = 0 := by
          have h1 := HN.out
          have e : s.data.toList = [] := List.eq_nil_of_length_eq_zero (by rw [Array.length_toList]; exact h0)
          rw [e] at h1
          simp [numGo] at h1
          exact h1
        have he : s.toList.isEmpty = true := by
          rw [ByteArray.toList_eq, List.eq_nil_of_length_eq_zero (l := s.data.toList) (by rw [Array.length_toList]; exact h0)]; rfl
        have HH0 := Lib.hid h0
        subst hm0
        clear h0
        go_wp2
        go_ret2
        exact HF.out none (number_nil s HH0.out) _ _ rfl rfl
      · have he : s.toList.isEmpty = false := bne_of_size s h0
        have hv : number s.data.toList = some m := by
          rw [number_of s h0, ← HN.out, drop_end s _ (Nat.le_refl _)]; rfl
        have HV := Lib.hid hv
        clear hv
        go_wp2
        go_ret2
        exact HF.out _ HV.out _ _ rfl rfl

theorem rnumber_any (s : ByteArray) (w : World) (hs : s.size ≤ 16384) :
    Calls Tryz.prog 122 #[.string s] w fun e w' => e = .returned (.tuple #[.int .i64 (((number s.data.toList).getD 0 : Nat) : Int), .bool (number s.data.toList).isSome]) ∧ w = w' := rnumber_big s w (by omega)
theorem rwords_any (w : World) :
    Calls Tryz.prog 120 #[] w fun e w' => e = .returned (.slice (some ⟨w.heap.size, 0, none⟩) 11 11) ∧ w' = w.alloc (.cells (wordsL.map Value.string).toArray 9) := by
  go_enter Tryz.func120, Tryz.ntmps120
  go_wp2
  go_ret
  exact ⟨rfl, rfl⟩
theorem rsigns_any (w : World) :
    Calls Tryz.prog 143 #[] w fun e w' => e = .returned (.slice (some ⟨w.heap.size, 0, none⟩) 17 17) ∧ w' = w.alloc (.cells (signsL.map Value.string).toArray 9) := by
  go_enter Tryz.func143, Tryz.ntmps143
  go_wp2
  go_ret
  exact ⟨rfl, rfl⟩

theorem rword_any (s : ByteArray) (w : World) :
    Calls Tryz.prog 140 #[.string s] w fun e w' => e = .returned (.bool (wordB s.data.toList)) ∧ Below w.heap.size w w' := by
  have hw : ∀ x, wordB s.data.toList = x → ∀ (e : Ending) (w' : World), e = .returned (.bool x) → Below w.heap.size w w' → (e = .returned (.bool (wordB s.data.toList)) ∧ Below w.heap.size w w') := by
    intro x hx e w' he hb; rw [hx]; exact ⟨he, hb⟩
  have HW := Lib.hid hw
  clear hw
  go_enter Tryz.func140, Tryz.ntmps140
  go_wp2_with (first
    | (go_at_call 120; refine (rwords_any _).mono ?_; rintro e w1 ⟨rfl, rfl⟩))
  have hB := heap_alloc_new w (.cells (wordsL.map Value.string).toArray 9)
  have hb : Below w.heap.size w (w.alloc (.cells (wordsL.map Value.string).toArray 9)) := (Below.refl _ w).alloc (Nat.le_refl _) _
  generalize w.alloc (.cells (wordsL.map Value.string).toArray 9) = w1 at *
  have HB := Lib.hid hB
  clear hB
  go_loop [4] (fun i => ∃ k : Nat, k ≤ 11 ∧ i = .int .i64 k ∧ (wordsL.take k).any (fun b => b.data.toList == s.data.toList) = false) (fun i => 11 - (intOf i).toNat)
  case atStart => exact ⟨0, by omega, rfl, rfl⟩
  case round =>
    obtain ⟨k, hk, rfl, hno⟩ := hrel
    have HO := Lib.hid hno
    clear hno
    by_cases hlt : k < 11
    · obtain ⟨g, hg⟩ : ∃ g, wordsL[k]? = some g := ⟨wordsL[k]'hlt, List.getElem?_eq_getElem hlt⟩
      have hck : w1.cell? ⟨w.heap.size, k, none⟩ = some (.string g) := by
        rw [cell_of_row _ _ _ _ _ _ HB.out]; simp [hg]
      have HG := Lib.hid hg
      clear hg
      cases he : g.toList == s.toList
      · have HE := Lib.hid he
        go_wp2
        go_round
        case rel => exact ⟨k + 1, by omega, by go_num, by rw [take_succ_any _ _ _ _ HG.out HO.out]; simpa [ByteArray.toList_eq] using HE.out⟩
        case measure => simp [intOf]; omega
      · have HE := Lib.hid he
        go_wp2
        go_ret
        refine HW.out true ?_ _ _ rfl hb
        unfold wordB
        exact any_of_mem (fun b => b.data.toList == s.data.toList) _ k g HG.out (by simpa [ByteArray.toList_eq] using HE.out)
    · obtain rfl : k = 11 := by omega
      go_wp2
      go_ret
      refine HW.out false ?_ _ _ rfl hb
      unfold wordB
      exact HO.out
end Go.Proofs.YtfpohaipmnjflaaGreatDoor
/- The reference's names; by contract. Conditions: texts of at most 16384 bytes. -/
namespace Go.Proofs.YtfpohaipmnjflaaGreatDoor
open Go.RowKit

/-- a byte that may stand at a place of a name -/
def nameAt (k : Nat) (c : UInt8) : Bool := isLow c || (decide (k ≠ 0) && (isDig c || c == 95))
def nameFrom (k : Nat) : List UInt8 → Bool
  | [] => true
  | c :: r => nameAt k c && nameFrom (k + 1) r
def namedF (l : List UInt8) : Bool := nameFrom 0 l && decide (1 ≤ l.length) && decide (l.length ≤ 24)

set_option maxHeartbeats 1000000 in
theorem rnamed_big (s : ByteArray) (w : World) (hs : s.size ≤ 100000) :
    Calls Tryz.prog 85 #[.string s] w fun e w' => e = .returned (.bool (namedF s.data.toList)) ∧ w = w' := by
  have hw : ∀ x, namedF s.data.toList = x → ∀ (e : Ending) (w' : World), e = .returned (.bool x) → w = w' → (e = .returned (.bool (namedF s.data.toList)) ∧ w = w') := by
    intro x hx e w' he hb; rw [hx]; exact ⟨he, hb⟩
  have HW := Lib.hid hw
  clear hw
  go_enter Tryz.func85, Tryz.ntmps85
  go_wp2
  go_loop [3] (fun i => ∃ k : Nat, k ≤ s.size ∧ i = .int .i64 k ∧ nameFrom k (s.data.toList.drop k) = nameFrom 0 s.data.toList) (fun i => s.size - (intOf i).toNat)
  case atStart => exact ⟨0, by omega, rfl, rfl⟩
  case round =>
    obtain ⟨k, hk, rfl, hno⟩ := hrel
    have HO := Lib.hid hno
    clear hno
    by_cases hlt : k < s.size
    · have hd := s[k].toNat_lt
      have HS : Hid (nameFrom k (s.data.toList.drop k) = (nameAt k s[k] && nameFrom (k + 1) (s.data.toList.drop (k + 1)))) := by
        show nameFrom k (s.data.toList.drop k) = _
        rw [drop_cons s k hlt]; rfl
      have h95 : (s[k] == 95) = decide (s[k].toNat = 95) := by
        rw [Bool.eq_iff_iff]; simp [← UInt8.toNat_inj]
      have HA : Hid (nameAt k s[k] = ((decide (97 ≤ s[k].toNat) && decide (s[k].toNat ≤ 122)) || (decide (k ≠ 0) && ((decide (48 ≤ s[k].toNat) && decide (s[k].toNat ≤ 57)) || decide (s[k].toNat = 95))))) := by
        show nameAt k s[k] = _
        unfold nameAt; rw [h95]; rfl
      clear h95
      have hgo : nameAt k s[k] = true → nameFrom (k + 1) (s.data.toList.drop (k + 1)) = nameFrom 0 s.data.toList := fun h => by
        rw [← HO.out, HS.out, h, Bool.true_and]
      have hst : nameAt k s[k] = false → namedF s.data.toList = false := fun h => by
        unfold namedF; rw [← HO.out, HS.out, h]; rfl
      have HGO := Lib.hid hgo
      have HST := Lib.hid hst
      clear hgo hst
      have hcases : (97 ≤ s[k].toNat ∧ s[k].toNat ≤ 122) ∨ (0 < k ∧ 48 ≤ s[k].toNat ∧ s[k].toNat ≤ 57) ∨ (0 < k ∧ 95 ≤ s[k].toNat ∧ s[k].toNat ≤ 95) ∨
          (0 < k ∧ s[k].toNat < 48) ∨ (0 < k ∧ 57 < s[k].toNat ∧ s[k].toNat < 95) ∨ (0 < k ∧ 95 < s[k].toNat ∧ s[k].toNat < 97) ∨ (0 < k ∧ 122 < s[k].toNat) ∨ (k = 0 ∧ s[k].toNat < 97) ∨ (k = 0 ∧ 122 < s[k].toNat) := by omega
      rcases hcases with ⟨g1, g2⟩ | ⟨g0, g1, g2⟩ | ⟨g0, g1, g2⟩ | ⟨g0, g1⟩ | ⟨g0, g1, g2⟩ | ⟨g0, g1, g2⟩ | ⟨g0, g1⟩ | ⟨rfl, g1⟩ | ⟨rfl, g1⟩
      · go_wp2
        exact ⟨⟨k + 1, by omega, by go_num, HGO.out (by rw [HA.out]; simp; omega)⟩, by simp [intOf]; omega⟩
      · have hk0 : ((k : Int) == 0) = false := by simp; omega
        go_wp2
        exact ⟨⟨k + 1, by omega, by go_num, HGO.out (by rw [HA.out]; simp; omega)⟩, by simp [intOf]; omega⟩
      · have hk0 : ((k : Int) == 0) = false := by simp; omega
        have h95 : ((s[k].toNat : Int) == 95) = true := by simp; omega
        have hn5 : decide ((s[k].toNat : Int) ≤ 57) = false := by simp; omega
        go_wp2
        exact ⟨⟨k + 1, by omega, by go_num, HGO.out (by rw [HA.out]; simp; omega)⟩, by simp [intOf]; omega⟩
      · have hk0 : ((k : Int) == 0) = false := by simp; omega
        have h95 : ((s[k].toNat : Int) == 95) = false := by simp; omega
        go_wp2
        go_ret
        exact HW.out false (HST.out (by rw [HA.out]; simp; omega)) _ _ rfl rfl
      · have hk0 : ((k : Int) == 0) = false := by simp; omega
        have h95 : ((s[k].toNat : Int) == 95) = false := by simp; omega
        have hn5 : decide ((s[k].toNat : Int) ≤ 57) = false := by simp; omega
        go_wp2
        go_ret
        exact HW.out false (HST.out (by rw [HA.out]; simp; omega)) _ _ rfl rfl
      · have hk0 : ((k : Int) == 0) = false := by simp; omega
        have h95 : ((s[k].toNat : Int) == 95) = false := by simp; omega
        have hn5 : decide ((s[k].toNat : Int) ≤ 57) = false := by simp; omega
        go_wp2
        go_ret
        exact HW.out false (HST.out (by rw [HA.out]; simp; omega)) _ _ rfl rfl
      · have hk0 : ((k : Int) == 0) = false := by simp; omega
        have h95 : ((s[k].toNat : Int) == 95) = false := by simp; omega
        have hn : decide ((s[k].toNat : Int) ≤ 122) = false := by simp; omega
        have hn5 : decide ((s[k].toNat : Int) ≤ 57) = false := by simp; omega
        go_wp2
        go_ret
        exact HW.out false (HST.out (by rw [HA.out]; simp; omega)) _ _ rfl rfl
      · go_wp2
        go_ret
        exact HW.out false (HST.out (by rw [HA.out]; simp; omega)) _ _ rfl rfl
      · have hn : decide ((s[0].toNat : Int) ≤ 122) = false := by simp; omega
        go_wp2
        go_ret
        exact HW.out false (HST.out (by rw [HA.out]; simp; omega)) _ _ rfl rfl
    · obtain rfl : k = s.size := by omega
      have he : nameFrom 0 s.data.toList = true := by rw [← HO.out, drop_end s _ (Nat.le_refl _)]; rfl
      have hl : s.data.toList.length = s.size := by simp
      have HE : Hid (namedF s.data.toList = (decide (1 ≤ s.size) && decide (s.size ≤ 24))) := by
        show namedF s.data.toList = _
        unfold namedF; rw [he, hl, Bool.true_and]
      clear he hl
      by_cases h1 : 1 ≤ s.size
      · by_cases h2 : s.size ≤ 24
        · go_wp2
          go_ret
          exact HW.out true (by rw [HE.out]; simp; omega) _ _ (by simp; omega) rfl
        · go_wp2
          go_ret
          exact HW.out false (by rw [HE.out]; simp; omega) _ _ (by simp; omega) rfl
      · go_wp2
        go_ret
        exact HW.out false (by rw [HE.out]; simp; omega) _ _ rfl rfl
theorem rnamed_any (s : ByteArray) (w : World) (hs : s.size ≤ 16384) :
    Calls Tryz.prog 85 #[.string s] w fun e w' => e = .returned (.bool (namedF s.data.toList)) ∧ w = w' := rnamed_big s w (by omega)
end Go.Proofs.YtfpohaipmnjflaaGreatDoor
