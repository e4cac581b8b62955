/- The reference's token: marks and numbers; by contract. Conditions: the source has at most 16384 bytes. -/
import Derived.Test.YtondgnefggglcaaDoorRefD
namespace Go.Proofs.YtondgnefggglcaaDoor
open Go.RowKit

theorem two_new (w : World) (a b : Obj) : ((w.alloc a).alloc b).heap[w.heap.size]? = some a ∧ ((w.alloc a).alloc b).heap[w.heap.size + 1]? = some b ∧ Below w.heap.size w ((w.alloc a).alloc b) :=
  ⟨by rw [at_alloc, World.size_alloc, if_neg (by omega), at_alloc, if_pos rfl], by rw [at_alloc, World.size_alloc, if_pos rfl], ((Below.refl _ w).alloc (Nat.le_refl _) _).alloc (by simp) _⟩
theorem byte_eq (c : UInt8) (n : Nat) (hn : n < 256) : (c == UInt8.ofNat n) = ((c.toNat : Int) == (n : Int)) := by
  rw [Bool.eq_iff_iff]
  simp only [beq_iff_eq]
  constructor
  · intro h; subst h; simp; omega
  · intro h
    have h1 : c.toNat = n := by omega
    rw [← h1]; simp

set_option maxRecDepth 100000 in
set_option maxHeartbeats 1000000 in
theorem rtoken_mark (s : ByteArray) (k : Nat) (w : World) (hk : k < s.size) (hs : s.size ≤ 16384) (hc : isLow s[k] = false) (hq : (s[k] == 63 || s[k] == 39) = true) :
    Calls Tryd.prog 20 #[.string s, .int .i64 k] w (RTokPost w s k s[k]) := by
  have hle1 := scanTo_le isOn s (k + 1) (by omega)
  have hge1 := scanTo_ge isOn s (k + 1)
  have htx : (s.extract (k + 1) (scanTo isOn s (k + 1))).size ≤ 16384 := by rw [ext_size s _ _ hle1]; omega
  have hall := namedF_on _ (scanTo_all isOn s (k + 1))
  have e63 : (s[k] == 63) = ((s[k].toNat : Int) == 63) := byte_eq s[k] 63 (by omega)
  have e39 : (s[k] == 39) = ((s[k].toNat : Int) == 39) := byte_eq s[k] 39 (by omega)
  have HTA : Hid (tokenAt s k s[k] = (if s[k] == 39 then 5 else 3, s.extract (k + 1) (scanTo isOn s (k + 1)), if namedB (s.extract (k + 1) (scanTo isOn s (k + 1))).data.toList then 0 else 201, scanTo isOn s (k + 1))) := by
    show tokenAt s k s[k] = _
    unfold tokenAt; rw [if_neg (by rw [hc]; simp), if_pos hq]
  have HR : Hid (∀ W, Calls Tryd.prog 28 #[.string s, .int .i64 ((k : Int) + 1)] W fun e w' => e = .returned (.int .i64 (scanTo isOn s (k + 1))) ∧ W = w') := by
    intro W
    have h := rrun_any s (k + 1) W (by omega) hs
    have e : (((k + 1 : Nat)) : Int) = (k : Int) + 1 := by omega
    rw [e] at h; exact h
  have HL := Lib.hid (fun W => rlow_any s[k] W)
  rw [hc] at HL
  generalize scanTo isOn s (k + 1) = en at *
  have HN := Lib.hid (fun W (x : Bool) (hx : namedB (s.extract (k + 1) en).data.toList = x) => (rnamed_any (s.extract (k + 1) en) W htx).mono (R' := fun e w' => e = .returned (.bool x) ∧ W = w') (fun e w' hh => ⟨by rw [hh.1, hall, hx], hh.2⟩))
  obtain ⟨A1, A2, A3⟩ := two_new w (.cells #[.int .u8 0, .string ⟨#[]⟩, .int .i64 0] 41) (.cells #[.int .u8 3, .string (s.extract (k + 1) en), .int .i64 k] 41)
  obtain ⟨P1, P2, P3⟩ := two_new w (.cells #[.int .u8 0, .string ⟨#[]⟩, .int .i64 0] 41) (.cells #[.int .u8 5, .string (s.extract (k + 1) en), .int .i64 k] 41)
  have HA1 := Lib.hid A1
  have HP1 := Lib.hid P1
  clear A1 A2 P1 P2 hall
  have hi1 : (k : Int) + 1 ≤ en := by omega
  rw [Bool.or_eq_true] at hq
  go_enter Tryd.func20, Tryd.ntmps20
  cases hn : namedB (s.extract (k + 1) en).data.toList
  · have HNN := Lib.hid hn
    have HF : Hid (∃ kd, tokenAt s k s[k] = (kd, s.extract (k + 1) en, 201, en)) := by
      show ∃ kd, tokenAt s k s[k] = _
      rw [HTA.out, hn]; exact ⟨_, rfl⟩
    clear HTA hn
    obtain ⟨kd, hF⟩ := HF.out
    have HF2 := Lib.hid hF
    clear hF
    cases h39 : s[k] == 39
    · have b63 : ((s[k].toNat : Int) == 63) = true := by rw [← e63]; rcases hq with h | h; exact h; rw [h39] at h; cases h
      have b39 : ((s[k].toNat : Int) == 39) = false := by rw [← e39]; exact h39
      clear e63 e39 h39 hq
      go_wp2_with (first
        | (go_at_call 27; refine (HL.out _).mono ?_; rintro e w' ⟨rfl, rfl⟩)
        | (go_at_call 28; refine (HR.out _).mono ?_; rintro e w' ⟨rfl, rfl⟩)
        | (go_at_call 30; refine (HN.out _ _ HNN.out).mono ?_; rintro e w' ⟨rfl, rfl⟩))
      exact rtoken_fin w _ _ _ _ _ HA1.out _ _ _ rfl rfl rfl (rtok_bad A3 HF2.out (by decide))
    · have b63 : ((s[k].toNat : Int) == 63) = false := by
        have h := h39; rw [e39] at h; simp at h ⊢; omega
      have b39 : ((s[k].toNat : Int) == 39) = true := by rw [← e39]; exact h39
      clear e63 e39 h39 hq
      go_wp2_with (first
        | (go_at_call 27; refine (HL.out _).mono ?_; rintro e w' ⟨rfl, rfl⟩)
        | (go_at_call 28; refine (HR.out _).mono ?_; rintro e w' ⟨rfl, rfl⟩)
        | (go_at_call 30; refine (HN.out _ _ HNN.out).mono ?_; rintro e w' ⟨rfl, rfl⟩))
      exact rtoken_fin w _ _ _ _ _ HP1.out _ _ _ rfl rfl rfl (rtok_bad P3 HF2.out (by decide))
  · have HNN := Lib.hid hn
    cases h39 : s[k] == 39
    · have HF : Hid (tokenAt s k s[k] = (3, s.extract (k + 1) en, 0, en)) := by
        show tokenAt s k s[k] = _
        rw [HTA.out, hn, h39]; rfl
      have b63 : ((s[k].toNat : Int) == 63) = true := by rw [← e63]; rcases hq with h | h; exact h; rw [h39] at h; cases h
      have b39 : ((s[k].toNat : Int) == 39) = false := by rw [← e39]; exact h39
      clear HTA hn e63 e39 h39 hq
      go_wp2_with (first
        | (go_at_call 27; refine (HL.out _).mono ?_; rintro e w' ⟨rfl, rfl⟩)
        | (go_at_call 28; refine (HR.out _).mono ?_; rintro e w' ⟨rfl, rfl⟩)
        | (go_at_call 30; refine (HN.out _ _ HNN.out).mono ?_; rintro e w' ⟨rfl, rfl⟩))
      exact rtoken_fin w _ _ _ _ _ (two_new w _ _).1 _ _ _ rfl rfl rfl (rtok_ok (two_new w _ _).2.2 HF.out)
    · have HF : Hid (tokenAt s k s[k] = (5, s.extract (k + 1) en, 0, en)) := by
        show tokenAt s k s[k] = _
        rw [HTA.out, hn, h39]; rfl
      have b63 : ((s[k].toNat : Int) == 63) = false := by
        have h := h39; rw [e39] at h; simp at h ⊢; omega
      have b39 : ((s[k].toNat : Int) == 39) = true := by rw [← e39]; exact h39
      clear HTA hn e63 e39 h39 hq
      go_wp2_with (first
        | (go_at_call 27; refine (HL.out _).mono ?_; rintro e w' ⟨rfl, rfl⟩)
        | (go_at_call 28; refine (HR.out _).mono ?_; rintro e w' ⟨rfl, rfl⟩)
        | (go_at_call 30; refine (HN.out _ _ HNN.out).mono ?_; rintro e w' ⟨rfl, rfl⟩))
      exact rtoken_fin w _ _ _ _ _ (two_new w _ _).1 _ _ _ rfl rfl rfl (rtok_ok (two_new w _ _).2.2 HF.out)

set_option maxRecDepth 100000 in
set_option maxHeartbeats 1000000 in
theorem rtoken_num (s : ByteArray) (k : Nat) (w : World) (hk : k < s.size) (hs : s.size ≤ 16384) (hc : isLow s[k] = false) (hq : (s[k] == 63 || s[k] == 39) = false) (hd : isDig s[k] = true) :
    Calls Tryd.prog 20 #[.string s, .int .i64 k] w (RTokPost w s k s[k]) := by
  have hle1 := scanTo_le isDig s k (by omega)
  have hge1 := scanTo_ge isDig s k
  have e63 : (s[k] == 63) = ((s[k].toNat : Int) == 63) := byte_eq s[k] 63 (by omega)
  have e39 : (s[k] == 39) = ((s[k].toNat : Int) == 39) := byte_eq s[k] 39 (by omega)
  rw [Bool.or_eq_false_iff] at hq
  have b63 : ((s[k].toNat : Int) == 63) = false := by rw [← e63]; exact hq.1
  have b39 : ((s[k].toNat : Int) == 39) = false := by rw [← e39]; exact hq.2
  have HTA : Hid (tokenAt s k s[k] = (4, s.extract k (scanTo isDig s k), if (number (s.extract k (scanTo isDig s k)).data.toList).isSome && !((s.data.toList.drop (scanTo isDig s k)).head?.any isOn) then 0 else 201, scanTo isDig s k)) := by
    show tokenAt s k s[k] = _
    unfold tokenAt; rw [if_neg (by rw [hc]; simp), if_neg (by rw [hq.1, hq.2]; simp), if_pos hd]
  have HL := Lib.hid (fun W => rlow_any s[k] W)
  have HDG := Lib.hid (fun W => rdigit_any s[k] W)
  rw [hc] at HL
  rw [hd] at HDG
  have hA := heap_alloc_new w (.cells #[.int .u8 0, .string ⟨#[]⟩, .int .i64 0] 41)
  have HA := Lib.hid hA
  have hB : Below w.heap.size w (w.alloc (.cells #[.int .u8 0, .string ⟨#[]⟩, .int .i64 0] 41)) := (Below.refl _ w).alloc (Nat.le_refl _) _
  clear e63 e39 hq hA
  go_enter Tryd.func20, Tryd.ntmps20
  go_wp2_with (first
    | (go_at_call 27; refine (HL.out _).mono ?_; rintro e w' ⟨rfl, rfl⟩)
    | (go_at_call 21; refine (HDG.out _).mono ?_; rintro e w' ⟨rfl, rfl⟩))
  go_loop [12] (fun i => ∃ j : Nat, k ≤ j ∧ j ≤ s.size ∧ i = .int .i64 j ∧ scanTo isDig s j = scanTo isDig s k) (fun i => s.size - (intOf i).toNat)
  case atStart => exact ⟨k, Nat.le_refl _, by omega, rfl, rfl⟩
  case round =>
    obtain ⟨j, hkj, hj, rfl, hsc⟩ := hrel
    have HS := Lib.hid hsc
    clear hsc
    have htx : (s.extract k j).size ≤ 16384 := by rw [ext_size s _ _ hj]; omega
    have HNU := Lib.hid (fun W (o : Option Nat) (ho : number (s.extract k j).data.toList = o) => (rnumber_any (s.extract k j) W htx).mono (R' := fun e w' => e = .returned (.tuple #[.int .i64 ((o.getD 0 : Nat) : Int), .bool o.isSome]) ∧ W = w') (fun e w' hh => ⟨by rw [hh.1, ho], hh.2⟩))
    by_cases hlt : j < s.size
    · have HDJ := Lib.hid (fun W => rdigit_any s[j] W)
      have HOJ := Lib.hid (fun W => ron_any s[j] W)
      have HY := Lib.hid (scanTo_yes isDig s j hlt)
      have HNO := Lib.hid (scanTo_no isDig s j hlt)
      have HON : Hid ((s.data.toList.drop j).head?.any isOn = isOn s[j]) := by
        show (s.data.toList.drop j).head?.any isOn = isOn s[j]
        rw [drop_cons s j hlt]; rfl
      cases hdj : isDig s[j]
      · rw [hdj] at HDJ HNO
        have hE : scanTo isDig s k = j := by rw [← HS.out]; exact HNO.out rfl
        have HE := Lib.hid hE
        cases hnu : number (s.extract k j).data.toList with
        | none =>
          have HNN := Lib.hid hnu
          have HF : Hid (tokenAt s k s[k] = (4, s.extract k j, 201, j)) := by
            show tokenAt s k s[k] = _
            rw [HTA.out, HE.out, hnu]; rfl
          clear HTA hE hnu hdj
          go_wp2_with (first
            | (go_at_call 21; refine (HDJ.out _).mono ?_; rintro e w' ⟨rfl, rfl⟩)
            | (go_at_call 13; refine (HNU.out _ _ HNN.out).mono ?_; rintro e w' ⟨rfl, rfl⟩))
          exact rtoken_fin w _ _ _ _ _ HA.out _ _ _ rfl rfl rfl (rtok_bad hB HF.out (by decide))
        | some v =>
          have HNN := Lib.hid hnu
          cases hon : isOn s[j]
          · rw [hon] at HOJ
            have HF : Hid (tokenAt s k s[k] = (4, s.extract k j, 0, j)) := by
              show tokenAt s k s[k] = _
              rw [HTA.out, HE.out, hnu, HON.out, hon]; rfl
            clear HTA hE hnu hdj hon
            go_wp2_with (first
              | (go_at_call 21; refine (HDJ.out _).mono ?_; rintro e w' ⟨rfl, rfl⟩)
              | (go_at_call 31; refine (HOJ.out _).mono ?_; rintro e w' ⟨rfl, rfl⟩)
              | (go_at_call 13; refine (HNU.out _ _ HNN.out).mono ?_; rintro e w' ⟨rfl, rfl⟩))
            exact rtoken_fin w _ _ _ _ _ (heap_alloc_new w _) _ _ _ rfl rfl rfl (rtok_ok ((Below.refl _ w).alloc (Nat.le_refl _) _) HF.out)
          · rw [hon] at HOJ
            have HF : Hid (tokenAt s k s[k] = (4, s.extract k j, 201, j)) := by
              show tokenAt s k s[k] = _
              rw [HTA.out, HE.out, hnu, HON.out, hon]; rfl
            clear HTA hE hnu hdj hon
            go_wp2_with (first
              | (go_at_call 21; refine (HDJ.out _).mono ?_; rintro e w' ⟨rfl, rfl⟩)
              | (go_at_call 31; refine (HOJ.out _).mono ?_; rintro e w' ⟨rfl, rfl⟩)
              | (go_at_call 13; refine (HNU.out _ _ HNN.out).mono ?_; rintro e w' ⟨rfl, rfl⟩))
            exact rtoken_fin w _ _ _ _ _ HA.out _ _ _ rfl rfl rfl (rtok_bad hB HF.out (by decide))
      · rw [hdj] at HDJ HY
        clear hdj
        go_wp2_with (first
          | (go_at_call 21; refine (HDJ.out _).mono ?_; rintro e w' ⟨rfl, rfl⟩))
        exact ⟨⟨j + 1, by omega, by omega, by go_num, by rw [HY.out (by trivial)]; exact HS.out⟩, by simp [intOf]; omega⟩
    · have hE : scanTo isDig s k = j := by rw [← HS.out]; exact scanTo_end isDig s j (by omega)
      have HE := Lib.hid hE
      have HON : Hid ((s.data.toList.drop j).head?.any isOn = false) := by
        show (s.data.toList.drop j).head?.any isOn = false
        rw [drop_end s j (by omega)]; rfl
      cases hnu : number (s.extract k j).data.toList with
      | none =>
        have HNN := Lib.hid hnu
        have HF : Hid (tokenAt s k s[k] = (4, s.extract k j, 201, j)) := by
          show tokenAt s k s[k] = _
          rw [HTA.out, HE.out, hnu]; rfl
        clear HTA hE hnu
        go_wp2_with (first
          | (go_at_call 13; refine (HNU.out _ _ HNN.out).mono ?_; rintro e w' ⟨rfl, rfl⟩))
        exact rtoken_fin w _ _ _ _ _ HA.out _ _ _ rfl rfl rfl (rtok_bad hB HF.out (by decide))
      | some v =>
        have HNN := Lib.hid hnu
        have HF : Hid (tokenAt s k s[k] = (4, s.extract k j, 0, j)) := by
          show tokenAt s k s[k] = _
          rw [HTA.out, HE.out, hnu, HON.out]; rfl
        clear HTA hE hnu
        go_wp2_with (first
          | (go_at_call 13; refine (HNU.out _ _ HNN.out).mono ?_; rintro e w' ⟨rfl, rfl⟩))
        exact rtoken_fin w _ _ _ _ _ (heap_alloc_new w _) _ _ _ rfl rfl rfl (rtok_ok ((Below.refl _ w).alloc (Nat.le_refl _) _) HF.out)
end Go.Proofs.YtondgnefggglcaaDoor
