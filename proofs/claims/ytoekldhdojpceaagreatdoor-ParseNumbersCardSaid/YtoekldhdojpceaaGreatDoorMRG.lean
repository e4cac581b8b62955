/- The reference's Tokens; by contract. No condition. -/
import Derived.Test.YtoekldhdojpceaaGreatDoorMDD
import Derived.Test.YtoekldhdojpceaaGreatDoorMC
import Derived.Test.YtoekldhdojpceaaGreatDoorMB
import Derived.Handy
namespace Go.Proofs.YtoekldhdojpceaaGreatDoor
open Go.RowKit

theorem news_new2 (w : World) (o : Obj) (l : List Value) (t : TypeId) : ∀ (j : Nat) (u : Value), l[j]? = some u → ((w.alloc o).alloc (.cells l.toArray t)).cell? ((⟨w.heap.size + 1, 0, none⟩ : Addr).add j) = some u := by
  have h := news_new (w.alloc o) l t
  rw [World.size_alloc] at h
  exact h
theorem rlow_any (c : UInt8) (w : World) :
    Calls Tryz.prog 228 #[.int .u8 (c.toNat : Int)] w fun e w' => e = .returned (.bool (isLow c)) ∧ w = w' := by
  have hc := c.toNat_lt
  have HD : Hid (isLow c = (decide (97 ≤ c.toNat) && decide (c.toNat ≤ 122))) := rfl
  generalize isLow c = x at *
  generalize c.toNat = n at *
  go_enter Tryz.func228, Tryz.ntmps228
  go_wp2
  all_goals (go_ret; refine ⟨?_, rfl⟩; rw [HD.out]; refine ret_bool ?_; rw [Bool.eq_iff_iff]; simp; omega)
theorem ron_any (c : UInt8) (w : World) :
    Calls Tryz.prog 232 #[.int .u8 (c.toNat : Int)] w fun e w' => e = .returned (.bool (isOn c)) ∧ w = w' := by
  have HL := Lib.hid (fun W => rlow_any c W)
  have HD := Lib.hid (fun W => rdigit_any c W)
  have h95 : (c == 95) = decide (c.toNat = 95) := by
    rw [Bool.eq_iff_iff]; simp [← UInt8.toNat_inj]
  have HO : Hid (isOn c = (isLow c || isDig c || decide (c.toNat = 95))) := by show isOn c = _; unfold isOn; rw [h95]
  clear h95
  generalize isOn c = x at *
  generalize isLow c = lo at *
  generalize isDig c = di at *
  generalize c.toNat = n at *
  go_enter Tryz.func232, Tryz.ntmps232
  cases lo
  · cases di
    · go_wp2_with (first
        | (go_at_call 228; refine (HL.out _).mono ?_; rintro e w' ⟨rfl, rfl⟩)
        | (go_at_call 231; refine (HD.out _).mono ?_; rintro e w' ⟨rfl, rfl⟩))
      go_ret
      refine ⟨?_, rfl⟩
      rw [HO.out]; refine ret_bool ?_; rw [Bool.eq_iff_iff]; simp; omega
    · go_wp2_with (first
        | (go_at_call 228; refine (HL.out _).mono ?_; rintro e w' ⟨rfl, rfl⟩)
        | (go_at_call 231; refine (HD.out _).mono ?_; rintro e w' ⟨rfl, rfl⟩))
      go_ret
      exact ⟨by rw [HO.out]; rfl, rfl⟩
  · go_wp2_with (first
      | (go_at_call 228; refine (HL.out _).mono ?_; rintro e w' ⟨rfl, rfl⟩))
    go_ret
    exact ⟨by rw [HO.out]; rfl, rfl⟩

theorem rrun_any (s : ByteArray) (k : Nat) (w : World) (hk : k ≤ s.size) (hs : s.size ≤ 16384) :
    Calls Tryz.prog 229 #[.string s, .int .i64 k] w fun e w' => e = .returned (.int .i64 (scanTo isOn s k)) ∧ w = w' := by
  go_enter Tryz.func229, Tryz.ntmps229
  go_wp2_with fail
  go_loop [1] (fun i => ∃ j : Nat, k ≤ j ∧ j ≤ s.size ∧ i = .int .i64 j ∧ scanTo isOn s j = scanTo isOn s k) (fun i => s.size - (intOf i).toNat)
  case atStart => exact ⟨k, Nat.le_refl _, hk, rfl, rfl⟩
  case round =>
    obtain ⟨j, hkj, hj, rfl, hsc⟩ := hrel
    have HS := Lib.hid hsc
    clear hsc
    by_cases hlt : j < s.size
    · have HY := Lib.hid (scanTo_yes isOn s j hlt)
      have HN := Lib.hid (scanTo_no isOn s j hlt)
      have HC := Lib.hid (fun W => ron_any s[j] W)
      generalize isOn s[j] = o at *
      cases o
      · go_wp2_with (first
          | (go_at_call 232; refine (HC.out _).mono ?_; rintro e w' ⟨rfl, rfl⟩))
        go_ret
        have e : scanTo isOn s k = j := by rw [← HS.out]; exact HN.out (by simp)
        rw [e]
        exact ⟨rfl, rfl⟩
      · go_wp2_with (first
          | (go_at_call 232; refine (HC.out _).mono ?_; rintro e w' ⟨rfl, rfl⟩))
        go_round
        case rel => exact ⟨j + 1, by omega, by omega, by go_num, by rw [HY.out (by simp)]; exact HS.out⟩
        case measure => simp [intOf]; omega
    · go_wp2
      go_ret
      have e : scanTo isOn s k = j := by rw [← HS.out]; exact scanTo_end isOn s j (by omega)
      rw [e]
      exact ⟨rfl, rfl⟩
theorem rwords_any (w : World) :
    Calls Tryz.prog 215 #[] w fun e w' => e = .returned (.slice (some ⟨w.heap.size, 0, none⟩) 11 11) ∧ w' = w.alloc (.cells (wordsL.map Value.string).toArray 9) := by
  go_enter Tryz.func215, Tryz.ntmps215
  go_wp2
  go_ret
  exact ⟨rfl, rfl⟩
theorem rsigns_any (w : World) :
    Calls Tryz.prog 233 #[] w fun e w' => e = .returned (.slice (some ⟨w.heap.size, 0, none⟩) 17 17) ∧ w' = w.alloc (.cells (signsL.map Value.string).toArray 9) := by
  go_enter Tryz.func233, Tryz.ntmps233
  go_wp2
  go_ret
  exact ⟨rfl, rfl⟩

theorem rword_any (s : ByteArray) (w : World) :
    Calls Tryz.prog 230 #[.string s] w fun e w' => e = .returned (.bool (wordB s.data.toList)) ∧ Below w.heap.size w w' := by
  have hw : ∀ x, wordB s.data.toList = x → ∀ (e : Ending) (w' : World), e = .returned (.bool x) → Below w.heap.size w w' → (e = .returned (.bool (wordB s.data.toList)) ∧ Below w.heap.size w w') := by
    intro x hx e w' he hb; rw [hx]; exact ⟨he, hb⟩
  have HW := Lib.hid hw
  clear hw
  go_enter Tryz.func230, Tryz.ntmps230
  go_wp2_with (first
    | (go_at_call 215; refine (rwords_any _).mono ?_; rintro e w1 ⟨rfl, rfl⟩))
  have hB := heap_alloc_new w (.cells (wordsL.map Value.string).toArray 9)
  have hb : Below w.heap.size w (w.alloc (.cells (wordsL.map Value.string).toArray 9)) := (Below.refl _ w).alloc (Nat.le_refl _) _
  generalize w.alloc (.cells (wordsL.map Value.string).toArray 9) = w1 at *
  have HB := Lib.hid hB
  clear hB
  go_loop [4] (fun i => ∃ k : Nat, k ≤ 11 ∧ i = .int .i64 k ∧ (wordsL.take k).any (fun b => b.data.toList == s.data.toList) = false) (fun i => 11 - (intOf i).toNat)
  case atStart => exact ⟨0, by omega, rfl, rfl⟩
  case round =>
    obtain ⟨k, hk, rfl, hno⟩ := hrel
    have HO := Lib.hid hno
    clear hno
    by_cases hlt : k < 11
    · obtain ⟨g, hg⟩ : ∃ g, wordsL[k]? = some g := ⟨wordsL[k]'hlt, List.getElem?_eq_getElem hlt⟩
      have hck : w1.cell? ⟨w.heap.size, k, none⟩ = some (.string g) := by
        rw [cell_of_row _ _ _ _ _ _ HB.out]; simp [hg]
      have HG := Lib.hid hg
      clear hg
      cases he : g.toList == s.toList
      · have HE := Lib.hid he
        go_wp2
        go_round
        case rel => exact ⟨k + 1, by omega, by go_num, by rw [take_succ_any _ _ _ _ HG.out HO.out]; simpa [ByteArray.toList_eq] using HE.out⟩
        case measure => simp [intOf]; omega
      · have HE := Lib.hid he
        go_wp2
        go_ret
        refine HW.out true ?_ _ _ rfl hb
        unfold wordB
        exact any_of_mem (fun b => b.data.toList == s.data.toList) _ k g HG.out (by simpa [ByteArray.toList_eq] using HE.out)
    · obtain rfl : k = 11 := by omega
      go_wp2
      go_ret
      refine HW.out false ?_ _ _ rfl hb
      unfold wordB
      exact HO.out
set_option maxHeartbeats 1000000 in
theorem rnamed_big (s : ByteArray) (w : World) (hs : s.size ≤ 100000) :
    Calls Tryz.prog 133 #[.string s] w fun e w' => e = .returned (.bool (namedF s.data.toList)) ∧ w = w' := by
  have hw : ∀ x, namedF s.data.toList = x → ∀ (e : Ending) (w' : World), e = .returned (.bool x) → w = w' → (e = .returned (.bool (namedF s.data.toList)) ∧ w = w') := by
    intro x hx e w' he hb; rw [hx]; exact ⟨he, hb⟩
  have HW := Lib.hid hw
  clear hw
  go_enter Tryz.func133, Tryz.ntmps133
  go_wp2
  go_loop [3] (fun i => ∃ k : Nat, k ≤ s.size ∧ i = .int .i64 k ∧ nameFrom k (s.data.toList.drop k) = nameFrom 0 s.data.toList) (fun i => s.size - (intOf i).toNat)
  case atStart => exact ⟨0, by omega, rfl, rfl⟩
  case round =>
    obtain ⟨k, hk, rfl, hno⟩ := hrel
    have HO := Lib.hid hno
    clear hno
    by_cases hlt : k < s.size
    · have hd := s[k].toNat_lt
      have HS : Hid (nameFrom k (s.data.toList.drop k) = (nameAt k s[k] && nameFrom (k + 1) (s.data.toList.drop (k + 1)))) := by
        show nameFrom k (s.data.toList.drop k) = _
        rw [drop_cons s k hlt]; rfl
      have h95 : (s[k] == 95) = decide (s[k].toNat = 95) := by
        rw [Bool.eq_iff_iff]; simp [← UInt8.toNat_inj]
      have HA : Hid (nameAt k s[k] = ((decide (97 ≤ s[k].toNat) && decide (s[k].toNat ≤ 122)) || (decide (k ≠ 0) && ((decide (48 ≤ s[k].toNat) && decide (s[k].toNat ≤ 57)) || decide (s[k].toNat = 95))))) := by
        show nameAt k s[k] = _
        unfold nameAt; rw [h95]; rfl
      clear h95
      have hgo : nameAt k s[k] = true → nameFrom (k + 1) (s.data.toList.drop (k + 1)) = nameFrom 0 s.data.toList := fun h => by
        rw [← HO.out, HS.out, h, Bool.true_and]
      have hst : nameAt k s[k] = false → namedF s.data.toList = false := fun h => by
        unfold namedF; rw [← HO.out, HS.out, h]; rfl
      have HGO := Lib.hid hgo
      have HST := Lib.hid hst
      clear hgo hst
      have hcases : (97 ≤ s[k].toNat ∧ s[k].toNat ≤ 122) ∨ (0 < k ∧ 48 ≤ s[k].toNat ∧ s[k].toNat ≤ 57) ∨ (0 < k ∧ 95 ≤ s[k].toNat ∧ s[k].toNat ≤ 95) ∨
          (0 < k ∧ s[k].toNat < 48) ∨ (0 < k ∧ 57 < s[k].toNat ∧ s[k].toNat < 95) ∨ (0 < k ∧ 95 < s[k].toNat ∧ s[k].toNat < 97) ∨ (0 < k ∧ 122 < s[k].toNat) ∨ (k = 0 ∧ s[k].toNat < 97) ∨ (k = 0 ∧ 122 < s[k].toNat) := by omega
      rcases hcases with ⟨g1, g2⟩ | ⟨g0, g1, g2⟩ | ⟨g0, g1, g2⟩ | ⟨g0, g1⟩ | ⟨g0, g1, g2⟩ | ⟨g0, g1, g2⟩ | ⟨g0, g1⟩ | ⟨rfl, g1⟩ | ⟨rfl, g1⟩
      · go_wp2
        exact ⟨⟨k + 1, by omega, by go_num, HGO.out (by rw [HA.out]; simp; omega)⟩, by simp [intOf]; omega⟩
      · have hk0 : ((k : Int) == 0) = false := by simp; omega
        go_wp2
        exact ⟨⟨k + 1, by omega, by go_num, HGO.out (by rw [HA.out]; simp; omega)⟩, by simp [intOf]; omega⟩
      · have hk0 : ((k : Int) == 0) = false := by simp; omega
        have h95 : ((s[k].toNat : Int) == 95) = true := by simp; omega
        have hn5 : decide ((s[k].toNat : Int) ≤ 57) = false := by simp; omega
        go_wp2
        exact ⟨⟨k + 1, by omega, by go_num, HGO.out (by rw [HA.out]; simp; omega)⟩, by simp [intOf]; omega⟩
      · have hk0 : ((k : Int) == 0) = false := by simp; omega
        have h95 : ((s[k].toNat : Int) == 95) = false := by simp; omega
        go_wp2
        go_ret
        exact HW.out false (HST.out (by rw [HA.out]; simp; omega)) _ _ rfl rfl
      · have hk0 : ((k : Int) == 0) = false := by simp; omega
        have h95 : ((s[k].toNat : Int) == 95) = false := by simp; omega
        have hn5 : decide ((s[k].toNat : Int) ≤ 57) = false := by simp; omega
        go_wp2
        go_ret
        exact HW.out false (HST.out (by rw [HA.out]; simp; omega)) _ _ rfl rfl
      · have hk0 : ((k : Int) == 0) = false := by simp; omega
        have h95 : ((s[k].toNat : Int) == 95) = false := by simp; omega
        have hn5 : decide ((s[k].toNat : Int) ≤ 57) = false := by simp; omega
        go_wp2
        go_ret
        exact HW.out false (HST.out (by rw [HA.out]; simp; omega)) _ _ rfl rfl
      · have hk0 : ((k : Int) == 0) = false := by simp; omega
        have h95 : ((s[k].toNat : Int) == 95) = false := by simp; omega
        have hn : decide ((s[k].toNat : Int) ≤ 122) = false := by simp; omega
        have hn5 : decide ((s[k].toNat : Int) ≤ 57) = false := by simp; omega
        go_wp2
        go_ret
        exact HW.out false (HST.out (by rw [HA.out]; simp; omega)) _ _ rfl rfl
      · go_wp2
        go_ret
        exact HW.out false (HST.out (by rw [HA.out]; simp; omega)) _ _ rfl rfl
      · have hn : decide ((s[0].toNat : Int) ≤ 122) = false := by simp; omega
        go_wp2
        go_ret
        exact HW.out false (HST.out (by rw [HA.out]; simp; omega)) _ _ rfl rfl
    · obtain rfl : k = s.size := by omega
      have he : nameFrom 0 s.data.toList = true := by rw [← HO.out, drop_end s _ (Nat.le_refl _)]; rfl
      have hl : s.data.toList.length = s.size := by simp
      have HE : Hid (namedF s.data.toList = (decide (1 ≤ s.size) && decide (s.size ≤ 24))) := by
        show namedF s.data.toList = _
        unfold namedF; rw [he, hl, Bool.true_and]
      clear he hl
      by_cases h1 : 1 ≤ s.size
      · by_cases h2 : s.size ≤ 24
        · go_wp2
          go_ret
          exact HW.out true (by rw [HE.out]; simp; omega) _ _ (by simp; omega) rfl
        · go_wp2
          go_ret
          exact HW.out false (by rw [HE.out]; simp; omega) _ _ (by simp; omega) rfl
      · go_wp2
        go_ret
        exact HW.out false (by rw [HE.out]; simp; omega) _ _ rfl rfl
theorem rnamed_any (s : ByteArray) (w : World) (hs : s.size ≤ 16384) :
    Calls Tryz.prog 133 #[.string s] w fun e w' => e = .returned (.bool (namedF s.data.toList)) ∧ w = w' := rnamed_big s w (by omega)

theorem nameFrom_on (l : List UInt8) (k : Nat) (hk : k ≠ 0) (h : l.all isOn = true) : nameFrom k l = true := by
  induction l generalizing k with
  | nil => rfl
  | cons c r ih =>
    simp only [List.all_cons, Bool.and_eq_true] at h
    simp only [nameFrom, ih (k + 1) (by omega) h.2, Bool.and_true]
    have hc := h.1
    unfold isOn at hc
    unfold nameAt
    cases hl : isLow c
    · rw [hl] at hc; simp only [Bool.false_or] at hc ⊢; rw [hc]; simp [hk]
    · rfl
theorem namedF_on (l : List UInt8) (h : l.all isOn = true) : namedF l = namedB l := by
  cases l with
  | nil => rfl
  | cons c r =>
    simp only [List.all_cons, Bool.and_eq_true] at h
    unfold namedF namedB
    simp only [nameFrom, nameFrom_on r 1 (by omega) h.2, Bool.and_true]
    have : nameAt 0 c = isLow c := by simp [nameAt]
    rw [this]
    have h1 : decide (1 ≤ (c :: r).length) = true := by simp
    rw [h1, Bool.and_true, Bool.and_comm]
theorem scanTo_all (p : UInt8 → Bool) (s : ByteArray) (k : Nat) : (s.extract k (scanTo p s k)).data.toList.all p = true := by
  have e : (s.extract k (scanTo p s k)).data.toList = (s.data.toList.drop k).takeWhile p := by
    rw [ByteArray.data_extract, Array.toList_extract]
    show (s.data.toList.drop k).take (scanTo p s k - k) = _
    unfold scanTo
    rw [Nat.add_sub_cancel_left]
    exact (List.prefix_iff_eq_take.1 (List.takeWhile_prefix p)).symm
  rw [e, List.all_takeWhile]

/-- what the reference's token answers -/
def RTokPost (w : World) (s : ByteArray) (k : Nat) (c : UInt8) (e : Ending) (W : World) : Prop :=
  Below w.heap.size w W ∧
  (((tokenAt s k c).2.2.1 = 0 ∧ e = .returned (.tuple #[.agg #[.int .u8 (tokenAt s k c).1, .string (tokenAt s k c).2.1, .int .i64 k], .int .i64 (tokenAt s k c).2.2.2, .int .i64 0])) ∨
   ((tokenAt s k c).2.2.1 ≠ 0 ∧ e = .returned (.tuple #[.agg #[.int .u8 0, .string ⟨#[]⟩, .int .i64 0], .int .i64 0, .int .i64 (tokenAt s k c).2.2.1])))
theorem rtok_ok {w W : World} {s : ByteArray} {k : Nat} {c : UInt8} {kd en : Nat} {tx : ByteArray} (hb : Below w.heap.size w W) (h : tokenAt s k c = (kd, tx, 0, en)) :
    RTokPost w s k c (.returned (.tuple #[.agg #[.int .u8 kd, .string tx, .int .i64 k], .int .i64 en, .int .i64 0])) W := by
  unfold RTokPost; rw [h]; exact ⟨hb, .inl ⟨rfl, rfl⟩⟩
theorem rtok_bad {w W : World} {s : ByteArray} {k : Nat} {c : UInt8} {kd en er : Nat} {tx : ByteArray} (hb : Below w.heap.size w W) (h : tokenAt s k c = (kd, tx, er, en)) (he : er ≠ 0) :
    RTokPost w s k c (.returned (.tuple #[.agg #[.int .u8 0, .string ⟨#[]⟩, .int .i64 0], .int .i64 0, .int .i64 er])) W := by
  unfold RTokPost; rw [h]; exact ⟨hb, .inr ⟨he, rfl⟩⟩

theorem rtoken_end (w W : World) (Rp : Ending → World → Prop) (a0 b0 c0 x y z : Value) (hT : W.heap[w.heap.size]? = some (.cells #[a0, b0, c0] 72 (0, 0))) (hb : Below w.heap.size w W) (enI erI : Int)
    (tmps : Array Value) (h4 : tmps.getD 4 undef = .pointer (some ⟨w.heap.size, 0, none⟩)) (h5 : tmps.getD 5 undef = .int .i64 enI) (h6 : tmps.getD 6 undef = .int .i64 erI)
    (hR : ∀ W', Below w.heap.size w W' → Rp (.returned (.tuple #[.agg #[x, y, z], .int .i64 enI, .int .i64 erI])) W') :
    bodyPost Tryz.prog Tryz.f148 Rp .ret ⟨tmps, []⟩ (((W.setCell ⟨w.heap.size, 0, none⟩ x).setCell ⟨w.heap.size, 1, none⟩ y).setCell ⟨w.heap.size, 2, none⟩ z) := by
  have hT' := heap_set (heap_set (heap_set hT 0 x) 1 y) 2 z
  have hb' := ((hb.setCell (p := ⟨w.heap.size, 0, none⟩) (Nat.le_refl _) x).setCell (p := ⟨w.heap.size, 1, none⟩) (Nat.le_refl _) y).setCell (p := ⟨w.heap.size, 2, none⟩) (Nat.le_refl _) z
  generalize ((W.setCell ⟨w.heap.size, 0, none⟩ x).setCell ⟨w.heap.size, 1, none⟩ y).setCell ⟨w.heap.size, 2, none⟩ z = W9 at *
  have hT2 : W9.heap[w.heap.size]? = some (.cells #[x, y, z] 72 (0, 0)) := hT'
  obtain ⟨c0, c1, c2, _⟩ := cells3 hT2
  have h4' : tmps[4]?.getD undef = .pointer (some ⟨w.heap.size, 0, none⟩) := by simpa using h4
  have h5' : tmps[5]?.getD undef = .int .i64 enI := by simpa using h5
  have h6' : tmps[6]?.getD undef = .int .i64 erI := by simpa using h6
  refine bodyPost_ret (v := .tuple #[.agg #[x, y, z], .int .i64 enI, .int .i64 erI]) ?_ rfl (hR W9 hb')
  simp [results, Tryz.results148, go_sem, h4', h5', h6', c0, c1, c2]

theorem rtoken_fin (w W : World) (Rp : Ending → World → Prop) (x y z : Value) (hT : W.heap[w.heap.size]? = some (.cells #[x, y, z] 72 (0, 0))) (enI erI : Int)
    (tmps : Array Value) (h4 : tmps.getD 4 undef = .pointer (some ⟨w.heap.size, 0, none⟩)) (h5 : tmps.getD 5 undef = .int .i64 enI) (h6 : tmps.getD 6 undef = .int .i64 erI)
    (hR : Rp (.returned (.tuple #[.agg #[x, y, z], .int .i64 enI, .int .i64 erI])) W) :
    bodyPost Tryz.prog Tryz.f148 Rp .ret ⟨tmps, []⟩ W := by
  obtain ⟨c0, c1, c2, _⟩ := cells3 hT
  have h4' : tmps[4]?.getD undef = .pointer (some ⟨w.heap.size, 0, none⟩) := by simpa using h4
  have h5' : tmps[5]?.getD undef = .int .i64 enI := by simpa using h5
  have h6' : tmps[6]?.getD undef = .int .i64 erI := by simpa using h6
  refine bodyPost_ret (v := .tuple #[.agg #[x, y, z], .int .i64 enI, .int .i64 erI]) ?_ rfl hR
  simp [results, Tryz.results148, go_sem, h4', h5', h6', c0, c1, c2]

set_option maxRecDepth 100000 in
set_option maxHeartbeats 1000000 in
theorem rtoken_name (s : ByteArray) (k : Nat) (w : World) (hk : k < s.size) (hs : s.size ≤ 16384) (hc : isLow s[k] = true) :
    Calls Tryz.prog 148 #[.string s, .int .i64 k] w (RTokPost w s k s[k]) := by
  have hle1 := scanTo_le isOn s k (by omega)
  have hge1 := scanTo_ge isOn s k
  have HTA : Hid (tokenAt s k s[k] = (if wordB (s.extract k (scanTo isOn s k)).data.toList then 1 else 2, s.extract k (scanTo isOn s k), if scanTo isOn s k - k ≤ 24 then 0 else 201, scanTo isOn s k)) := by
    show tokenAt s k s[k] = _
    unfold tokenAt; rw [if_pos hc]
  have HR := Lib.hid (fun W => rrun_any s k W (by omega) hs)
  have HL := Lib.hid (fun W => rlow_any s[k] W)
  rw [hc] at HL
  generalize scanTo isOn s k = en at *
  go_enter Tryz.func148, Tryz.ntmps148
  have h0 : ∀ (a b : Obj), ((w.alloc a).alloc b).heap[w.heap.size]? = some a ∧ ((w.alloc a).alloc b).heap[w.heap.size + 1]? = some b ∧ Below w.heap.size w ((w.alloc a).alloc b) := fun a b =>
    ⟨by rw [at_alloc, World.size_alloc, if_neg (by omega), at_alloc, if_pos rfl], by rw [at_alloc, World.size_alloc, if_pos rfl], ((Below.refl _ w).alloc (Nat.le_refl _) _).alloc (by simp) _⟩
  obtain ⟨A1, A2, A3⟩ := h0 (.cells #[.int .u8 0, .string ⟨#[]⟩, .int .i64 0] 72) (.cells #[.int .u8 2, .string (s.extract k en), .int .i64 k] 72)
  clear h0
  have HA1 := Lib.hid A1
  have HA2 := Lib.hid A2
  clear A1 A2
  by_cases h24 : en - k ≤ 24
  · have hx : (en : Int) - k ≤ 24 := by omega
    have HW := Lib.hid (fun W (x : Bool) (hx : wordB (s.extract k en).data.toList = x) => (rword_any (s.extract k en) W).mono (R' := fun e w' => e = .returned (.bool x) ∧ Below W.heap.size W w') (fun e w' hh => ⟨by rw [hh.1, hx], hh.2⟩))
    cases hw : wordB (s.extract k en).data.toList
    · have HF : Hid (tokenAt s k s[k] = (2, s.extract k en, 0, en)) := by
        show tokenAt s k s[k] = _
        rw [HTA.out, hw, if_neg (by simp), if_pos h24]
      have HWW := Lib.hid hw
      clear HTA hw
      go_wp2_with (first
        | (go_at_call 228; refine (HL.out _).mono ?_; rintro e w' ⟨rfl, rfl⟩)
        | (go_at_call 229; refine (HR.out _).mono ?_; rintro e w' ⟨rfl, rfl⟩)
        | (go_at_call 230; refine (HW.out _ _ HWW.out).mono ?_; rintro e w' ⟨rfl, hb⟩; have B1 := heap_below hb HA1.out (by simp only [World.size_alloc]; omega); have B2 := heap_below hb HA2.out (by simp only [World.size_alloc]; omega); obtain ⟨c0, c1, c2, f0, f1, f2⟩ := cells3 B1; obtain ⟨d0, d1, d2, e0, e1, e2⟩ := cells3 B2; have HB1 := Lib.hid B1; have HBL := A3.trans (hb.mono A3.size); clear B1 B2))
      exact rtoken_end w _ _ _ _ _ _ _ _ HB1.out HBL _ _ _ rfl rfl rfl (fun W' hb' => rtok_ok hb' HF.out)
    · have HF : Hid (tokenAt s k s[k] = (1, s.extract k en, 0, en)) := by
        show tokenAt s k s[k] = _
        rw [HTA.out, hw, if_pos rfl, if_pos h24]
      have HWW := Lib.hid hw
      clear HTA hw
      go_wp2_with (first
        | (go_at_call 228; refine (HL.out _).mono ?_; rintro e w' ⟨rfl, rfl⟩)
        | (go_at_call 229; refine (HR.out _).mono ?_; rintro e w' ⟨rfl, rfl⟩)
        | (go_at_call 230; refine (HW.out _ _ HWW.out).mono ?_; rintro e w' ⟨rfl, hb⟩; have B1 := heap_below hb HA1.out (by simp only [World.size_alloc]; omega); have B2 := heap_below hb HA2.out (by simp only [World.size_alloc]; omega); obtain ⟨c0, c1, c2, f0, f1, f2⟩ := cells3 B1; have B3 := heap_set B2 0 (.int .u8 1); obtain ⟨e0, e1, e2, f3, f4, f5⟩ := cells3 B2; obtain ⟨d0, d1, d2, g3, g4, g5⟩ := cells3 B3; have HB1 := Lib.hid (heap_set_far B1 (T := w.heap.size + 1) (by omega) 0 (.int .u8 1)); have HBL := (A3.trans (hb.mono A3.size)).setCell (p := ⟨w.heap.size + 1, 0, none⟩) (by show w.heap.size ≤ w.heap.size + 1; omega) (.int .u8 1); clear B1 B2 B3))
      exact rtoken_end w _ _ _ _ _ _ _ _ HB1.out HBL _ _ _ rfl rfl rfl (fun W' hb' => rtok_ok hb' HF.out)
  · have hx : 24 < (en : Int) - k := by omega
    have HF : Hid (∃ kd, tokenAt s k s[k] = (kd, s.extract k en, 201, en)) := by
      show ∃ kd, tokenAt s k s[k] = _
      rw [HTA.out, if_neg h24]; exact ⟨_, rfl⟩
    clear HTA
    go_wp2_with (first
      | (go_at_call 228; refine (HL.out _).mono ?_; rintro e w' ⟨rfl, rfl⟩)
      | (go_at_call 229; refine (HR.out _).mono ?_; rintro e w' ⟨rfl, rfl⟩))
    obtain ⟨kd, hF⟩ := HF.out
    exact rtoken_fin w _ _ _ _ _ HA1.out _ _ _ rfl rfl rfl (rtok_bad A3 hF (by decide))

theorem two_new (w : World) (a b : Obj) : ((w.alloc a).alloc b).heap[w.heap.size]? = some a ∧ ((w.alloc a).alloc b).heap[w.heap.size + 1]? = some b ∧ Below w.heap.size w ((w.alloc a).alloc b) :=
  ⟨by rw [at_alloc, World.size_alloc, if_neg (by omega), at_alloc, if_pos rfl], by rw [at_alloc, World.size_alloc, if_pos rfl], ((Below.refl _ w).alloc (Nat.le_refl _) _).alloc (by simp) _⟩
theorem byte_eq (c : UInt8) (n : Nat) (hn : n < 256) : (c == UInt8.ofNat n) = ((c.toNat : Int) == (n : Int)) := by
  rw [Bool.eq_iff_iff]
  simp only [beq_iff_eq]
  constructor
  · intro h; subst h; simp; omega
  · intro h
    have h1 : c.toNat = n := by omega
    rw [← h1]; simp

set_option maxRecDepth 100000 in
set_option maxHeartbeats 1000000 in
theorem rtoken_mark (s : ByteArray) (k : Nat) (w : World) (hk : k < s.size) (hs : s.size ≤ 16384) (hc : isLow s[k] = false) (hq : (s[k] == 63 || s[k] == 39) = true) :
    Calls Tryz.prog 148 #[.string s, .int .i64 k] w (RTokPost w s k s[k]) := by
  have hle1 := scanTo_le isOn s (k + 1) (by omega)
  have hge1 := scanTo_ge isOn s (k + 1)
  have htx : (s.extract (k + 1) (scanTo isOn s (k + 1))).size ≤ 16384 := by rw [ext_size s _ _ hle1]; omega
  have hall := namedF_on _ (scanTo_all isOn s (k + 1))
  have e63 : (s[k] == 63) = ((s[k].toNat : Int) == 63) := byte_eq s[k] 63 (by omega)
  have e39 : (s[k] == 39) = ((s[k].toNat : Int) == 39) := byte_eq s[k] 39 (by omega)
  have HTA : Hid (tokenAt s k s[k] = (if s[k] == 39 then 5 else 3, s.extract (k + 1) (scanTo isOn s (k + 1)), if namedB (s.extract (k + 1) (scanTo isOn s (k + 1))).data.toList then 0 else 201, scanTo isOn s (k + 1))) := by
    show tokenAt s k s[k] = _
    unfold tokenAt; rw [if_neg (by rw [hc]; simp), if_pos hq]
  have HR : Hid (∀ W, Calls Tryz.prog 229 #[.string s, .int .i64 ((k : Int) + 1)] W fun e w' => e = .returned (.int .i64 (scanTo isOn s (k + 1))) ∧ W = w') := by
    intro W
    have h := rrun_any s (k + 1) W (by omega) hs
    have e : (((k + 1 : Nat)) : Int) = (k : Int) + 1 := by omega
    rw [e] at h; exact h
  have HL := Lib.hid (fun W => rlow_any s[k] W)
  rw [hc] at HL
  generalize scanTo isOn s (k + 1) = en at *
  have HN := Lib.hid (fun W (x : Bool) (hx : namedB (s.extract (k + 1) en).data.toList = x) => (rnamed_any (s.extract (k + 1) en) W htx).mono (R' := fun e w' => e = .returned (.bool x) ∧ W = w') (fun e w' hh => ⟨by rw [hh.1, hall, hx], hh.2⟩))
  obtain ⟨A1, A2, A3⟩ := two_new w (.cells #[.int .u8 0, .string ⟨#[]⟩, .int .i64 0] 72) (.cells #[.int .u8 3, .string (s.extract (k + 1) en), .int .i64 k] 72)
  obtain ⟨P1, P2, P3⟩ := two_new w (.cells #[.int .u8 0, .string ⟨#[]⟩, .int .i64 0] 72) (.cells #[.int .u8 5, .string (s.extract (k + 1) en), .int .i64 k] 72)
  have HA1 := Lib.hid A1
  have HP1 := Lib.hid P1
  clear A1 A2 P1 P2 hall
  have hi1 : (k : Int) + 1 ≤ en := by omega
  rw [Bool.or_eq_true] at hq
  go_enter Tryz.func148, Tryz.ntmps148
  cases hn : namedB (s.extract (k + 1) en).data.toList
  · have HNN := Lib.hid hn
    have HF : Hid (∃ kd, tokenAt s k s[k] = (kd, s.extract (k + 1) en, 201, en)) := by
      show ∃ kd, tokenAt s k s[k] = _
      rw [HTA.out, hn]; exact ⟨_, rfl⟩
    clear HTA hn
    obtain ⟨kd, hF⟩ := HF.out
    have HF2 := Lib.hid hF
    clear hF
    cases h39 : s[k] == 39
    · have b63 : ((s[k].toNat : Int) == 63) = true := by rw [← e63]; rcases hq with h | h; exact h; rw [h39] at h; cases h
      have b39 : ((s[k].toNat : Int) == 39) = false := by rw [← e39]; exact h39
      clear e63 e39 h39 hq
      go_wp2_with (first
        | (go_at_call 228; refine (HL.out _).mono ?_; rintro e w' ⟨rfl, rfl⟩)
        | (go_at_call 229; refine (HR.out _).mono ?_; rintro e w' ⟨rfl, rfl⟩)
        | (go_at_call 133; refine (HN.out _ _ HNN.out).mono ?_; rintro e w' ⟨rfl, rfl⟩))
      exact rtoken_fin w _ _ _ _ _ HA1.out _ _ _ rfl rfl rfl (rtok_bad A3 HF2.out (by decide))
    · have b63 : ((s[k].toNat : Int) == 63) = false := by
        have h := h39; rw [e39] at h; simp at h ⊢; omega
      have b39 : ((s[k].toNat : Int) == 39) = true := by rw [← e39]; exact h39
      clear e63 e39 h39 hq
      go_wp2_with (first
        | (go_at_call 228; refine (HL.out _).mono ?_; rintro e w' ⟨rfl, rfl⟩)
        | (go_at_call 229; refine (HR.out _).mono ?_; rintro e w' ⟨rfl, rfl⟩)
        | (go_at_call 133; refine (HN.out _ _ HNN.out).mono ?_; rintro e w' ⟨rfl, rfl⟩))
      exact rtoken_fin w _ _ _ _ _ HP1.out _ _ _ rfl rfl rfl (rtok_bad P3 HF2.out (by decide))
  · have HNN := Lib.hid hn
    cases h39 : s[k] == 39
    · have HF : Hid (tokenAt s k s[k] = (3, s.extract (k + 1) en, 0, en)) := by
        show tokenAt s k s[k] = _
        rw [HTA.out, hn, h39]; rfl
      have b63 : ((s[k].toNat : Int) == 63) = true := by rw [← e63]; rcases hq with h | h; exact h; rw [h39] at h; cases h
      have b39 : ((s[k].toNat : Int) == 39) = false := by rw [← e39]; exact h39
      clear HTA hn e63 e39 h39 hq
      go_wp2_with (first
        | (go_at_call 228; refine (HL.out _).mono ?_; rintro e w' ⟨rfl, rfl⟩)
        | (go_at_call 229; refine (HR.out _).mono ?_; rintro e w' ⟨rfl, rfl⟩)
        | (go_at_call 133; refine (HN.out _ _ HNN.out).mono ?_; rintro e w' ⟨rfl, rfl⟩))
      exact rtoken_fin w _ _ _ _ _ (two_new w _ _).1 _ _ _ rfl rfl rfl (rtok_ok (two_new w _ _).2.2 HF.out)
    · have HF : Hid (tokenAt s k s[k] = (5, s.extract (k + 1) en, 0, en)) := by
        show tokenAt s k s[k] = _
        rw [HTA.out, hn, h39]; rfl
      have b63 : ((s[k].toNat : Int) == 63) = false := by
        have h := h39; rw [e39] at h; simp at h ⊢; omega
      have b39 : ((s[k].toNat : Int) == 39) = true := by rw [← e39]; exact h39
      clear HTA hn e63 e39 h39 hq
      go_wp2_with (first
        | (go_at_call 228; refine (HL.out _).mono ?_; rintro e w' ⟨rfl, rfl⟩)
        | (go_at_call 229; refine (HR.out _).mono ?_; rintro e w' ⟨rfl, rfl⟩)
        | (go_at_call 133; refine (HN.out _ _ HNN.out).mono ?_; rintro e w' ⟨rfl, rfl⟩))
      exact rtoken_fin w _ _ _ _ _ (two_new w _ _).1 _ _ _ rfl rfl rfl (rtok_ok (two_new w _ _).2.2 HF.out)

set_option maxRecDepth 100000 in
set_option maxHeartbeats 1000000 in
theorem rtoken_num (s : ByteArray) (k : Nat) (w : World) (hk : k < s.size) (hs : s.size ≤ 16384) (hc : isLow s[k] = false) (hq : (s[k] == 63 || s[k] == 39) = false) (hd : isDig s[k] = true) :
    Calls Tryz.prog 148 #[.string s, .int .i64 k] w (RTokPost w s k s[k]) := by
  have hle1 := scanTo_le isDig s k (by omega)
  have hge1 := scanTo_ge isDig s k
  have e63 : (s[k] == 63) = ((s[k].toNat : Int) == 63) := byte_eq s[k] 63 (by omega)
  have e39 : (s[k] == 39) = ((s[k].toNat : Int) == 39) := byte_eq s[k] 39 (by omega)
  rw [Bool.or_eq_false_iff] at hq
  have b63 : ((s[k].toNat : Int) == 63) = false := by rw [← e63]; exact hq.1
  have b39 : ((s[k].toNat : Int) == 39) = false := by rw [← e39]; exact hq.2
  have HTA : Hid (tokenAt s k s[k] = (4, s.extract k (scanTo isDig s k), if (number (s.extract k (scanTo isDig s k)).data.toList).isSome && !((s.data.toList.drop (scanTo isDig s k)).head?.any isOn) then 0 else 201, scanTo isDig s k)) := by
    show tokenAt s k s[k] = _
    unfold tokenAt; rw [if_neg (by rw [hc]; simp), if_neg (by rw [hq.1, hq.2]; simp), if_pos hd]
  have HL := Lib.hid (fun W => rlow_any s[k] W)
  have HDG := Lib.hid (fun W => rdigit_any s[k] W)
  rw [hc] at HL
  rw [hd] at HDG
  have hA := heap_alloc_new w (.cells #[.int .u8 0, .string ⟨#[]⟩, .int .i64 0] 72)
  have HA := Lib.hid hA
  have hB : Below w.heap.size w (w.alloc (.cells #[.int .u8 0, .string ⟨#[]⟩, .int .i64 0] 72)) := (Below.refl _ w).alloc (Nat.le_refl _) _
  clear e63 e39 hq hA
  go_enter Tryz.func148, Tryz.ntmps148
  go_wp2_with (first
    | (go_at_call 228; refine (HL.out _).mono ?_; rintro e w' ⟨rfl, rfl⟩)
    | (go_at_call 231; refine (HDG.out _).mono ?_; rintro e w' ⟨rfl, rfl⟩))
  go_loop [12] (fun i => ∃ j : Nat, k ≤ j ∧ j ≤ s.size ∧ i = .int .i64 j ∧ scanTo isDig s j = scanTo isDig s k) (fun i => s.size - (intOf i).toNat)
  case atStart => exact ⟨k, Nat.le_refl _, by omega, rfl, rfl⟩
  case round =>
    obtain ⟨j, hkj, hj, rfl, hsc⟩ := hrel
    have HS := Lib.hid hsc
    clear hsc
    have htx : (s.extract k j).size ≤ 16384 := by rw [ext_size s _ _ hj]; omega
    have HNU := Lib.hid (fun W (o : Option Nat) (ho : number (s.extract k j).data.toList = o) => (rnumber_any (s.extract k j) W htx).mono (R' := fun e w' => e = .returned (.tuple #[.int .i64 ((o.getD 0 : Nat) : Int), .bool o.isSome]) ∧ W = w') (fun e w' hh => ⟨by rw [hh.1, ho], hh.2⟩))
    by_cases hlt : j < s.size
    · have HDJ := Lib.hid (fun W => rdigit_any s[j] W)
      have HOJ := Lib.hid (fun W => ron_any s[j] W)
      have HY := Lib.hid (scanTo_yes isDig s j hlt)
      have HNO := Lib.hid (scanTo_no isDig s j hlt)
      have HON : Hid ((s.data.toList.drop j).head?.any isOn = isOn s[j]) := by
        show (s.data.toList.drop j).head?.any isOn = isOn s[j]
        rw [drop_cons s j hlt]; rfl
      cases hdj : isDig s[j]
      · rw [hdj] at HDJ HNO
        have hE : scanTo isDig s k = j := by rw [← HS.out]; exact HNO.out rfl
        have HE := Lib.hid hE
        cases hnu : number (s.extract k j).data.toList with
        | none =>
          have HNN := Lib.hid hnu
          have HF : Hid (tokenAt s k s[k] = (4, s.extract k j, 201, j)) := by
            show tokenAt s k s[k] = _
            rw [HTA.out, HE.out, hnu]; rfl
          clear HTA hE hnu hdj
          go_wp2_with (first
            | (go_at_call 231; refine (HDJ.out _).mono ?_; rintro e w' ⟨rfl, rfl⟩)
            | (go_at_call 217; refine (HNU.out _ _ HNN.out).mono ?_; rintro e w' ⟨rfl, rfl⟩))
          exact rtoken_fin w _ _ _ _ _ HA.out _ _ _ rfl rfl rfl (rtok_bad hB HF.out (by decide))
        | some v =>
          have HNN := Lib.hid hnu
          cases hon : isOn s[j]
          · rw [hon] at HOJ
            have HF : Hid (tokenAt s k s[k] = (4, s.extract k j, 0, j)) := by
              show tokenAt s k s[k] = _
              rw [HTA.out, HE.out, hnu, HON.out, hon]; rfl
            clear HTA hE hnu hdj hon
            go_wp2_with (first
              | (go_at_call 231; refine (HDJ.out _).mono ?_; rintro e w' ⟨rfl, rfl⟩)
              | (go_at_call 232; refine (HOJ.out _).mono ?_; rintro e w' ⟨rfl, rfl⟩)
              | (go_at_call 217; refine (HNU.out _ _ HNN.out).mono ?_; rintro e w' ⟨rfl, rfl⟩))
            exact rtoken_fin w _ _ _ _ _ (heap_alloc_new w _) _ _ _ rfl rfl rfl (rtok_ok ((Below.refl _ w).alloc (Nat.le_refl _) _) HF.out)
          · rw [hon] at HOJ
            have HF : Hid (tokenAt s k s[k] = (4, s.extract k j, 201, j)) := by
              show tokenAt s k s[k] = _
              rw [HTA.out, HE.out, hnu, HON.out, hon]; rfl
            clear HTA hE hnu hdj hon
            go_wp2_with (first
              | (go_at_call 231; refine (HDJ.out _).mono ?_; rintro e w' ⟨rfl, rfl⟩)
              | (go_at_call 232; refine (HOJ.out _).mono ?_; rintro e w' ⟨rfl, rfl⟩)
              | (go_at_call 217; refine (HNU.out _ _ HNN.out).mono ?_; rintro e w' ⟨rfl, rfl⟩))
            exact rtoken_fin w _ _ _ _ _ HA.out _ _ _ rfl rfl rfl (rtok_bad hB HF.out (by decide))
      · rw [hdj] at HDJ HY
        clear hdj
        go_wp2_with (first
          | (go_at_call 231; refine (HDJ.out _).mono ?_; rintro e w' ⟨rfl, rfl⟩))
        exact ⟨⟨j + 1, by omega, by omega, by go_num, by rw [HY.out (by trivial)]; exact HS.out⟩, by simp [intOf]; omega⟩
    · have hE : scanTo isDig s k = j := by rw [← HS.out]; exact scanTo_end isDig s j (by omega)
      have HE := Lib.hid hE
      have HON : Hid ((s.data.toList.drop j).head?.any isOn = false) := by
        show (s.data.toList.drop j).head?.any isOn = false
        rw [drop_end s j (by omega)]; rfl
      cases hnu : number (s.extract k j).data.toList with
      | none =>
        have HNN := Lib.hid hnu
        have HF : Hid (tokenAt s k s[k] = (4, s.extract k j, 201, j)) := by
          show tokenAt s k s[k] = _
          rw [HTA.out, HE.out, hnu]; rfl
        clear HTA hE hnu
        go_wp2_with (first
          | (go_at_call 217; refine (HNU.out _ _ HNN.out).mono ?_; rintro e w' ⟨rfl, rfl⟩))
        exact rtoken_fin w _ _ _ _ _ HA.out _ _ _ rfl rfl rfl (rtok_bad hB HF.out (by decide))
      | some v =>
        have HNN := Lib.hid hnu
        have HF : Hid (tokenAt s k s[k] = (4, s.extract k j, 0, j)) := by
          show tokenAt s k s[k] = _
          rw [HTA.out, HE.out, hnu, HON.out]; rfl
        clear HTA hE hnu
        go_wp2_with (first
          | (go_at_call 217; refine (HNU.out _ _ HNN.out).mono ?_; rintro e w' ⟨rfl, rfl⟩))
        exact rtoken_fin w _ _ _ _ _ (heap_alloc_new w _) _ _ _ rfl rfl rfl (rtok_ok ((Below.refl _ w).alloc (Nat.le_refl _) _) HF.out)
theorem signAt_far (s : ByteArray) (k : Nat) (g : ByteArray) (hk : k ≤ s.size) (h : s.size < k + g.size) : signAt s k g = false := by
  cases hs : signAt s k g
  · rfl
  · have := signAt_le s k g hk hs; omega
theorem signs_size (m : Nat) (g : ByteArray) (h : signsL[m]? = some g) : g.size ≤ 2 := by
  have : signsL.all (fun g => decide (g.size ≤ 2)) = true := by kernel_rfl
  simpa using List.all_eq_true.1 this g (List.mem_of_getElem? h)

set_option maxRecDepth 100000 in
set_option maxHeartbeats 1000000 in
theorem rtoken_sign (s : ByteArray) (k : Nat) (w : World) (hk : k < s.size) (hs : s.size ≤ 16384) (hc : isLow s[k] = false) (hq : (s[k] == 63 || s[k] == 39) = false) (hd : isDig s[k] = false) :
    Calls Tryz.prog 148 #[.string s, .int .i64 k] w (RTokPost w s k s[k]) := by
  have e63 : (s[k] == 63) = ((s[k].toNat : Int) == 63) := byte_eq s[k] 63 (by omega)
  have e39 : (s[k] == 39) = ((s[k].toNat : Int) == 39) := byte_eq s[k] 39 (by omega)
  rw [Bool.or_eq_false_iff] at hq
  have b63 : ((s[k].toNat : Int) == 63) = false := by rw [← e63]; exact hq.1
  have b39 : ((s[k].toNat : Int) == 39) = false := by rw [← e39]; exact hq.2
  have HTA : Hid (tokenAt s k s[k] = match signsL.find? (signAt s k) with | some g => (6, g, 0, k + g.size) | none => (0, ⟨#[]⟩, 200, k)) := by
    show tokenAt s k s[k] = _
    unfold tokenAt; rw [if_neg (by rw [hc]; simp), if_neg (by rw [hq.1, hq.2]; simp), if_neg (by rw [hd]; simp)]; rfl
  have HL := Lib.hid (fun W => rlow_any s[k] W)
  have HDG := Lib.hid (fun W => rdigit_any s[k] W)
  rw [hc] at HL
  rw [hd] at HDG
  clear e63 e39 hq
  obtain ⟨A1, A2, A3⟩ := two_new w (.cells #[.int .u8 0, .string ⟨#[]⟩, .int .i64 0] 72) (.cells (signsL.map Value.string).toArray 9)
  go_enter Tryz.func148, Tryz.ntmps148
  go_wp2_with (first
    | (go_at_call 228; refine (HL.out _).mono ?_; rintro e w' ⟨rfl, rfl⟩)
    | (go_at_call 231; refine (HDG.out _).mono ?_; rintro e w' ⟨rfl, rfl⟩)
    | (go_at_call 233; refine (rsigns_any _).mono ?_; rintro e w' ⟨rfl, rfl⟩))
  generalize (w.alloc (.cells #[.int .u8 0, .string ⟨#[]⟩, .int .i64 0] 72)).alloc (.cells (signsL.map Value.string).toArray 9) = W0 at *
  have HA1 := Lib.hid A1
  have HA2 := Lib.hid A2
  clear A1 A2
  go_loopw [16, 17] (fun i _ wr => ∃ m : Nat, m ≤ 17 ∧ i = .int .i64 m ∧ (∃ n, wr = W0.drewN n) ∧ (signsL.drop m).find? (signAt s k) = signsL.find? (signAt s k)) (fun i _ _ => 17 - (intOf i).toNat)
  case atStart => exact ⟨0, by omega, rfl, ⟨0, rfl⟩, rfl⟩
  case round =>
    obtain ⟨m, hm, rfl, ⟨nn, rfl⟩, hfind⟩ := hrel
    have HFI := Lib.hid hfind
    clear hfind
    by_cases hlt : m < 17
    · obtain ⟨g, hg⟩ : ∃ g, signsL[m]? = some g := ⟨signsL[m]'hlt, List.getElem?_eq_getElem hlt⟩
      have hck : W0.cell? ⟨w.heap.size + 1, m, none⟩ = some (.string g) := by
        rw [cell_of_row _ _ _ _ _ _ HA2.out]; simp [hg]
      have hg2 := signs_size m g hg
      have HGM := Lib.hid hg
      clear hg
      have HST := Lib.hid (find_step (signAt s k) signsL m g HGM.out)
      have hm0 : (0 : Int) ≤ m := by omega
      have hm1 : (m : Int) < 17 := by omega
      by_cases hle : k + g.size ≤ s.size
      · have hi1 : (k : Int) + g.size ≤ s.size := by omega
        have hi2 : decide ((k : Int) + g.size ≤ s.size) = true := by simp; omega
        have hi0 : (0 : Int) ≤ k := by omega
        have hi3 : (k : Int) ≤ k + g.size := by omega
        have hsg := signAt_ext s k g hle
        obtain ⟨c0, c1, c2, f0, f1, f2⟩ := cells3 HA1.out
        cases hx : signAt s k g
        · rw [hx] at hsg
          have HSG := Lib.hid hx
          clear hx
          go_wp2
          go_quiet (fail)
          go_wp2
          refine ⟨⟨m + 1, by omega, by go_num, ⟨_, rfl⟩, ?_⟩, by simp [intOf]; omega⟩
          rw [← HFI.out, HST.out, HSG.out]; rfl
        · rw [hx] at hsg
          have HF : Hid (tokenAt s k s[k] = (6, g, 0, k + g.size)) := by
            show tokenAt s k s[k] = _
            rw [HTA.out, ← HFI.out, HST.out, hx]; rfl
          clear hx HTA
          go_wp2
          go_quiet (fail)
          go_wp2
          exact rtoken_end w (W0.drewN _) _ _ _ _ _ _ _ HA1.out (below_drewN A3 _) _ _ _ rfl rfl rfl (fun W' hb' => rtok_ok hb' HF.out)
      · have hsf := signAt_far s k g (by omega) (by omega)
        have HSG := Lib.hid hsf
        have hi1 : (s.size : Int) < k + g.size := by omega
        have hi2 : decide ((k : Int) + g.size ≤ s.size) = false := by simp; omega
        clear hsf
        go_wp2
        go_quiet (fail)
        go_wp2
        refine ⟨⟨m + 1, by omega, by go_num, ⟨_, rfl⟩, ?_⟩, by simp [intOf]; omega⟩
        rw [← HFI.out, HST.out, HSG.out]; rfl
    · obtain rfl : m = 17 := by omega
      have HF : Hid (tokenAt s k s[k] = (0, ⟨#[]⟩, 200, k)) := by
        show tokenAt s k s[k] = _
        rw [HTA.out, ← HFI.out]; rfl
      clear HTA
      obtain ⟨c0, c1, c2, f0, f1, f2⟩ := cells3 HA1.out
      go_wp2
      exact rtoken_end w (W0.drewN _) _ _ _ _ _ _ _ HA1.out (below_drewN A3 _) _ _ _ rfl rfl rfl (fun W' hb' => rtok_bad hb' HF.out (by decide))

theorem rtoken_any (s : ByteArray) (k : Nat) (w : World) (hk : k < s.size) (hs : s.size ≤ 16384) :
    Calls Tryz.prog 148 #[.string s, .int .i64 k] w (RTokPost w s k s[k]) := by
  cases hc : isLow s[k]
  · cases hq : s[k] == 63 || s[k] == 39
    · cases hd : isDig s[k]
      · exact rtoken_sign s k w hk hs hc hq hd
      · exact rtoken_num s k w hk hs hc hq hd
    · exact rtoken_mark s k w hk hs hc hq
  · exact rtoken_name s k w hk hs hc

theorem toksFrom_blank (s : ByteArray) (k : Nat) (h : k < s.size) (hb : blankB s[k] = true) : toksFrom s (k + 1) = toksFrom s k := by
  rw [← toksFrom_skip s k, skip_blank s k h hb, toksFrom_skip]
theorem toksFrom_hash (s : ByteArray) (k : Nat) (h : k < s.size) (hc : s[k] = 35) : toksFrom s (scanTo (· != 10) s k) = toksFrom s k := by
  rw [← toksFrom_skip s k, skip_hash s k h hc, toksFrom_skip]

theorem rtokens_long (s : ByteArray) (w : World) (hs : 16384 < s.size) :
    Calls Tryz.prog 74 #[.string s] w fun e w' => e = .returned (.tuple #[.slice none 0 0, .agg #[.int .i64 3, .int .i64 0]]) ∧ Below w.heap.size w w' := by
  go_enter Tryz.func74, Tryz.ntmps74
  go_wp2
  go_returns
  exact ⟨rfl, by go_grown⟩

/-- what lies at the head of the reference's loop -/
def RT (w : World) (s : ByteArray) (v : Value) (k : Nat) (wr : World) : Prop :=
  k ≤ s.size ∧ ∃ pre, Below w.heap.size w wr ∧ wr.heap[w.heap.size]? = some (.cells #[.int .i64 0, .int .i64 0] 40 (0, 0)) ∧ wr.ownsRow (w.heap.size + 1) 72 3 v pre.length (lexCells pre) ∧
    pre ++ (toksFrom s k).1 = (toksFrom s 0).1 ∧ (toksFrom s k).2 = (toksFrom s 0).2
theorem RT.to {w wr : World} {s : ByteArray} {v : Value} {k k' : Nat} (h : RT w s v k wr) (hk : k' ≤ s.size) (he : toksFrom s k' = toksFrom s k) : RT w s v k' wr := by
  obtain ⟨_, pre, h1, h2, h3, h4, h5⟩ := h
  exact ⟨hk, pre, h1, h2, h3, by rw [he]; exact h4, by rw [he]; exact h5⟩

theorem cells2 {w : World} {T : Nat} {a b : Value} {t : TypeId} (h : w.heap[T]? = some (.cells #[a, b] t (0, 0))) :
    w.cell? ⟨T, 0, none⟩ = some a ∧ w.cell? ⟨T, 1, none⟩ = some b ∧ w.frozen? ⟨T, 0, none⟩ = false ∧ w.frozen? ⟨T, 1, none⟩ = false := by
  simp [World.cell?, World.frozen?, h]
theorem rtokens_end (w W : World) (Rp : Ending → World → Prop) (x y : Value) (v : Value) (hT : W.heap[w.heap.size]? = some (.cells #[x, y] 40 (0, 0)))
    (tmps : Array Value) (h2 : tmps.getD 2 undef = v) (h3 : tmps.getD 3 undef = .pointer (some ⟨w.heap.size, 0, none⟩))
    (hR : Rp (.returned (.tuple #[v, .agg #[x, y]])) W) :
    bodyPost Tryz.prog Tryz.f74 Rp .ret ⟨tmps, []⟩ W := by
  obtain ⟨c0, c1, _⟩ := cells2 hT
  have h2' : tmps[2]?.getD undef = v := by simpa using h2
  have h3' : tmps[3]?.getD undef = .pointer (some ⟨w.heap.size, 0, none⟩) := by simpa using h3
  refine bodyPost_ret (v := .tuple #[v, .agg #[x, y]]) ?_ rfl hR
  simp [results, Tryz.results74, go_sem, h2', h3', c0, c1]

set_option maxRecDepth 100000 in
set_option maxHeartbeats 4000000 in
theorem rtokens_any (s : ByteArray) (w : World) (hs : s.size ≤ 16384) :
    Calls Tryz.prog 74 #[.string s] w (TokensPost w s) := by
  obtain ⟨i0, hi0, hz0, hz1, hz2⟩ := info_parts infoLex
  go_enter Tryz.func74, Tryz.ntmps74
  go_wp2
  have hA := heap_alloc_new w (.cells #[.int .i64 0, .int .i64 0] 40)
  have hB : Below w.heap.size w (w.alloc (.cells #[.int .i64 0, .int .i64 0] 40)) := (Below.refl _ w).alloc (Nat.le_refl _) _
  generalize w.alloc (.cells #[.int .i64 0, .int .i64 0] 40) = W0 at *
  have HA := Lib.hid hA
  clear hA
  go_loopw [4, 5] (fun v i wr => ∃ k : Nat, i = .int .i64 k ∧ RT w s v k wr) (fun _ i _ => s.size - (intOf i).toNat)
  case atStart => exact ⟨0, rfl, Nat.zero_le _, [], hB, HA.out, World.ownsRow_nil _ _ _ _, rfl, rfl⟩
  case round =>
    obtain ⟨k, rfl, hrt⟩ := hrel
    have hk : k ≤ s.size := hrt.1
    by_cases hlt : k < s.size
    · have e9 : (s[k] == 9) = ((s[k].toNat : Int) == 9) := byte_eq s[k] 9 (by omega)
      have e10 : (s[k] == 10) = ((s[k].toNat : Int) == 10) := byte_eq s[k] 10 (by omega)
      have e13 : (s[k] == 13) = ((s[k].toNat : Int) == 13) := byte_eq s[k] 13 (by omega)
      have e32 : (s[k] == 32) = ((s[k].toNat : Int) == 32) := byte_eq s[k] 32 (by omega)
      have e35 : (s[k] == 35) = ((s[k].toNat : Int) == 35) := byte_eq s[k] 35 (by omega)
      have HBL : Hid (blankB s[k] = (s[k] == 9 || s[k] == 10 || s[k] == 13 || s[k] == 32)) := rfl
      cases hb : blankB s[k]
      · have hb' := hb
        rw [HBL.out] at hb'
        simp only [Bool.or_eq_false_iff] at hb'
        obtain ⟨⟨⟨x9, x10⟩, x13⟩, x32⟩ := hb'
        rw [e9] at x9; rw [e10] at x10; rw [e13] at x13; rw [e32] at x32
        have HB0 := Lib.hid hb
        clear e9 e10 e13 e32 hb HBL
        cases hh : s[k] == 35
        · have x35 := hh
          rw [e35] at x35
          have HS := Lib.hid (skip_stop s k hlt HB0.out hh)
          clear e35 hh
          obtain ⟨_, pre, hb, hT, hrow, hp1, hp2⟩ := hrt
          have HP1 := Lib.hid hp1
          have HP2 := Lib.hid hp2
          have HT := Lib.hid hT
          clear hp1 hp2 hT
          have hlen : (toksFrom s 0).1.length + 0 ≤ s.size := toks_len s (s.size + 1) 0 (Nat.zero_le _)
          have hpl : pre.length ≤ s.size := by
            have h2 := congrArg List.length HP1.out
            simp only [List.length_append] at h2
            omega
          clear hlen
          go_wp2_with fail
          refine (rtoken_any s k wr hlt hs).mono ?_
          rintro e w2 ⟨hb2, hcase⟩
          have hbw2 := hb.trans (hb2.mono hb.size)
          have hT2 := heap_below hb2 HT.out (Array.getElem?_eq_some_iff.1 HT.out).1
          have HT2 := Lib.hid hT2
          have hrow2 := ownsRow_below hrow hb2
          clear hb hb2 hrow hT2
          have hss : skip s k < s.size := by rw [HS.out]; exact hlt
          rcases hcase with ⟨her, rfl⟩ | ⟨her, rfl⟩
          · have hok := toksFrom_ok s k hss (by simp only [HS.out]; exact her)
            simp only [HS.out] at hok
            have hnx := tokenAt_next s k hlt her
            generalize hTT : tokenAt s k s[k] = t at *
            obtain ⟨kd, tx, er, en⟩ := t
            have HOK := Lib.hid hok
            clear her hok hTT
            dsimp only at hnx HOK ⊢
            obtain ⟨hn1, hn2⟩ := hnx
            go_wp2_with (at_builtin; go_must (refine wpList_append_own _ rfl (.tmp 69) (.tmp 71) 62 rfl (w.heap.size + 1) 72 i0 _ 3 32 Tryz.underlying62 hi0 hz0 hz1 hz2 rfl (by decide) u4 pre.length (lexCells pre) rfl ((hrow2.alloc _).alloc _) ⟨w2.heap.size + 1, 0, none⟩ 1 1 [.int .u8 kd, .string tx, .int .i64 k] rfl rfl (by exact news_new2 w2 _ [.int .u8 kd, .string tx, .int .i64 k] 72) (by simp [Value.oneCell']) (by simp only [maxLen]; omega) (by omega) (by have := hbw2.size; have := (Array.getElem?_eq_some_iff.1 HT2.out).1; simp; omega) ?_); intro v' w7 hown' hgrow _)
            have hno : ∀ i, i < w.heap.size + 1 → some i ≠ u4.ownBlock := fun i hi e => by have := (hrow2.lt i e.symm).1; omega
            have hbw7 : Below w.heap.size w w7 := ((hbw2.alloc hbw2.size _).alloc (by have := hbw2.size; simp; omega) _).grown hgrow (by have := hbw2.size; simp; omega) (fun k e => by have := (hrow2.lt k e).1; omega)
            have hl2 := (Array.getElem?_eq_some_iff.1 HT2.out).1
            have hT7 : w7.heap[w.heap.size]? = some (.cells #[.int .i64 0, .int .i64 0] 40 (0, 0)) := heap_grown hgrow ((Below.heap_alloc _ _ _ (by simp; omega)).trans ((Below.heap_alloc _ _ _ hl2).trans HT2.out)) (hno _ (by omega))
            refine ⟨⟨en, rfl, hn2, pre ++ [(kd, tx, k)], hbw7, hT7, ?_, ?_, ?_⟩, by simp [intOf]; omega⟩
            · have e1 : (pre ++ [(kd, tx, k)]).length = pre.length + 1 := by simp
              have e2 : lexCells (pre ++ [(kd, tx, k)]) = lexCells pre ++ [.int .u8 kd, .string tx, .int .i64 k] := by simp [lexCells, tokCells]
              rw [e1, e2]; exact hown'
            · rw [← HP1.out, HOK.out]; simp
            · rw [← HP2.out, HOK.out]
          · have hbad := toksFrom_bad s k hss (by simp only [HS.out]; exact her)
            simp only [HS.out] at hbad
            generalize hTT : tokenAt s k s[k] = t at *
            obtain ⟨kd, tx, er, en⟩ := t
            have HBD := Lib.hid hbad
            clear hbad hTT
            dsimp only at her HBD ⊢
            have ht1 : ((er : Int) != 0) = true := by rw [bne_iff_ne]; omega
            have HER := Lib.hid her
            clear her
            obtain ⟨c0, c1, f0, f1⟩ := cells2 HT2.out
            have hl2 := (Array.getElem?_eq_some_iff.1 HT2.out).1
            have hT3 : ∀ (o : Obj) (x y : Value), (((w2.setCell ⟨w.heap.size, 0, none⟩ x).setCell ⟨w.heap.size, 1, none⟩ y).alloc o).heap[w.heap.size]? = some (.cells #[x, y] 40 (0, 0)) := fun o x y => by
              have h := heap_set (heap_set HT2.out 0 x) 1 y
              exact (Below.heap_alloc _ o _ (Array.getElem?_eq_some_iff.1 h).1).trans h
            have HT3 := Lib.hid hT3
            have hb3 : ∀ (o : Obj) (x y : Value), Below w.heap.size w (((w2.setCell ⟨w.heap.size, 0, none⟩ x).setCell ⟨w.heap.size, 1, none⟩ y).alloc o) := fun o x y => by
              have h := (hbw2.setCell (p := ⟨w.heap.size, 0, none⟩) (Nat.le_refl _) x).setCell (p := ⟨w.heap.size, 1, none⟩) (Nat.le_refl _) y
              exact h.alloc h.size o
            have HB3 := Lib.hid hb3
            clear hT3 hb3
            go_wp2_with fail
            refine rtokens_end w _ _ _ _ _ (HT3.out _ _ _) _ rfl rfl ⟨HB3.out _ _ _, .inr ⟨er, k, ?_, rfl⟩⟩
            rw [← HP2.out, HBD.out]
        · have x35 := hh
          rw [e35] at x35
          have h35 : s[k] = 35 := by simpa using hh
          have hsc := toksFrom_hash s k hlt h35
          have hsh := scan_hash s k hlt h35
          have hle := scanTo_le (· != 10) s k hk
          have HSC := Lib.hid hsc
          clear e35 hh h35 hsc
          obtain ⟨wo, hwo⟩ : ∃ wo : World, wo = wr := ⟨_, rfl⟩
          subst hwo
          go_wp2
          go_loopw [5] (fun i wi => ∃ j : Nat, k ≤ j ∧ j ≤ s.size ∧ i = .int .i64 j ∧ scanTo (· != 10) s j = scanTo (· != 10) s k ∧ wi = wo) (fun i _ => s.size - (intOf i).toNat)
          case atStart => exact ⟨k, Nat.le_refl _, hk, rfl, rfl, rfl⟩
          case round =>
            obtain ⟨j, hkj, hj, rfl, hsj, rfl⟩ := hrel
            have HSJ := Lib.hid hsj
            clear hsj
            by_cases hltj : j < s.size
            · have HY := Lib.hid (scanTo_yes (· != 10) s j hltj)
              have HN := Lib.hid (scanTo_no (· != 10) s j hltj)
              have e10 : (s[j] == 10) = ((s[j].toNat : Int) == 10) := byte_eq s[j] 10 (by omega)
              cases h10 : s[j] == 10
              · have b10 : ((s[j].toNat : Int) == 10) = false := by rw [← e10]; exact h10
                have b10' : ((s[j].toNat : Int) != 10) = true := by rw [bne, b10]; rfl
                have hy := HY.out (by rw [bne, h10]; rfl)
                have HYY := Lib.hid hy
                clear e10 h10 hy
                go_wp2
                exact ⟨⟨j + 1, by omega, by omega, by go_num, by rw [HYY.out]; exact HSJ.out, by trivial⟩, by simp [intOf]; omega⟩
              · have b10 : ((s[j].toNat : Int) == 10) = true := by rw [← e10]; exact h10
                have b10' : ((s[j].toNat : Int) != 10) = false := by rw [bne, b10]; rfl
                have hn := HN.out (by rw [bne, h10]; rfl)
                have hkk : scanTo (· != 10) s k = j := by rw [← HSJ.out]; exact hn
                have HKK := Lib.hid hkk
                clear e10 h10 hn hkk
                go_wp2
                refine ⟨⟨j, rfl, hrt.to hj (by rw [← HKK.out]; exact HSC.out)⟩, ?_⟩
                have : k < j := by rw [← HKK.out]; exact hsh
                simp [intOf]; omega
            · have hkk : scanTo (· != 10) s k = j := by rw [← HSJ.out]; exact scanTo_end _ s j (by omega)
              have HKK := Lib.hid hkk
              clear hkk
              go_wp2
              refine ⟨⟨j, rfl, hrt.to hj (by rw [← HKK.out]; exact HSC.out)⟩, ?_⟩
              have : k < j := by rw [← HKK.out]; exact hsh
              simp [intOf]; omega
      · have HTO := Lib.hid (hrt.to (k' := k + 1) (by omega) (toksFrom_blank s k hlt hb))
        rw [HBL.out] at hb
        clear HBL e35 hrt
        cases h9 : s[k] == 9
        · cases h10 : s[k] == 10
          · cases h13 : s[k] == 13
            · have h32 : (s[k] == 32) = true := by rw [h9, h10, h13] at hb; simpa using hb
              rw [e9] at h9; rw [e10] at h10; rw [e13] at h13; rw [e32] at h32
              clear e9 e10 e13 e32 hb
              go_wp2
              exact ⟨⟨k + 1, by go_num, HTO.out⟩, by simp [intOf]; omega⟩
            · rw [e9] at h9; rw [e10] at h10; rw [e13] at h13
              clear e9 e10 e13 e32 hb
              go_wp2
              exact ⟨⟨k + 1, by go_num, HTO.out⟩, by simp [intOf]; omega⟩
          · rw [e9] at h9; rw [e10] at h10
            clear e9 e10 e13 e32 hb
            go_wp2
            exact ⟨⟨k + 1, by go_num, HTO.out⟩, by simp [intOf]; omega⟩
        · rw [e9] at h9
          clear e9 e10 e13 e32 hb
          go_wp2
          exact ⟨⟨k + 1, by go_num, HTO.out⟩, by simp [intOf]; omega⟩
    · obtain rfl : k = s.size := by omega
      obtain ⟨_, pre, hb, hT, hrow, hp1, hp2⟩ := hrt
      rw [toksFrom_end s s.size (by rw [skip_end s _ (Nat.le_refl _)]; omega)] at hp1 hp2
      have hp1' : pre = (toksFrom s 0).1 := by simpa using hp1
      have HP1 := Lib.hid hp1'
      have HP2 := Lib.hid hp2
      have HT := Lib.hid hT
      clear hp1 hp2 hT hp1'
      have hpl : pre.length ≤ s.size := by
        have hlen : (toksFrom s 0).1.length + 0 ≤ s.size := toks_len s (s.size + 1) 0 (Nat.zero_le _)
        rw [HP1.out]; omega
      have hl2 := (Array.getElem?_eq_some_iff.1 HT.out).1
      go_wp2_with (at_builtin; go_must (refine wpList_append_own _ rfl (.tmp 74) (.tmp 78) 62 rfl (w.heap.size + 1) 72 i0 _ 3 32 Tryz.underlying62 hi0 hz0 hz1 hz2 rfl (by decide) u4 pre.length (lexCells pre) rfl (hrow.alloc _) ⟨wr.heap.size, 0, none⟩ 1 1 [.int .u8 7, .string ⟨#[]⟩, .int .i64 s.size] rfl rfl (by exact news_new wr [.int .u8 7, .string ⟨#[]⟩, .int .i64 s.size] 72) (by simp [Value.oneCell']) (by simp only [maxLen]; omega) (by omega) (by simp; omega) ?_); intro v' w7 hown' hgrow _; have hno : some w.heap.size ≠ u4.ownBlock := (fun e => by have := (hrow.lt _ e.symm).1; omega); have hT7 := heap_grown hgrow ((Below.heap_alloc _ _ _ hl2).trans HT.out) hno; obtain ⟨c0, c1, f0, f1⟩ := cells2 hT7)
      have hbw7 : Below w.heap.size w w7 := (hb.alloc hb.size _).grown hgrow (by have := hb.size; simp; omega) (fun k e => by have := (hrow.lt k e).1; omega)
      refine rtokens_end w _ _ _ _ _ (heap_set (heap_set hT7 0 _) 1 _) _ rfl rfl ⟨(hbw7.setCell (p := ⟨w.heap.size, 0, none⟩) (Nat.le_refl _) _).setCell (p := ⟨w.heap.size, 1, none⟩) (Nat.le_refl _) _, .inl ⟨HP2.out.symm, _, rfl, ?_⟩⟩
      have h9 := ownsRow_setCell_below (ownsRow_setCell_below hown' (a := ⟨w.heap.size, 0, none⟩) (by show w.heap.size < w.heap.size + 1; omega) (.int .i64 0)) (a := ⟨w.heap.size, 1, none⟩) (by show w.heap.size < w.heap.size + 1; omega) (.int .i64 0)
      have h8 := ownsRow_base (b' := w.heap.size) h9 (by omega)
      rw [← HP1.out]
      simpa [lexCells, tokCells] using h8
end Go.Proofs.YtoekldhdojpceaaGreatDoor
