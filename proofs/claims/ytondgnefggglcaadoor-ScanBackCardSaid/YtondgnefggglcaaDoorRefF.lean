/- The reference's token: signs; the token whole; by contract. Conditions: the source has at most 16384 bytes. -/
import Derived.Test.YtondgnefggglcaaDoorRefE
namespace Go.Proofs.YtondgnefggglcaaDoor
open Go.RowKit

theorem ext_data (s : ByteArray) (a b : Nat) : (s.extract a b).data.toList = (s.data.toList.drop a).take (b - a) := by
  rw [ByteArray.data_extract, Array.toList_extract]
theorem signAt_ext (s : ByteArray) (k : Nat) (g : ByteArray) (h : k + g.size ≤ s.size) : ((s.extract k (k + g.size)).toList == g.toList) = signAt s k g := by
  unfold signAt
  rw [← Lib.hasPrefix_of_take, ByteArray.toList_eq, ByteArray.toList_eq, ext_data, Nat.add_sub_cancel_left]
  have e : g.data.toList.length = g.size := by simp
  rw [e]
  have h1 : decide (g.size ≤ (s.data.toList.drop k).length) = true := by simp; omega
  rw [h1, Bool.true_and]
theorem signAt_far (s : ByteArray) (k : Nat) (g : ByteArray) (hk : k ≤ s.size) (h : s.size < k + g.size) : signAt s k g = false := by
  cases hs : signAt s k g
  · rfl
  · have := signAt_le s k g hk hs; omega
theorem signs_size (m : Nat) (g : ByteArray) (h : signsL[m]? = some g) : g.size ≤ 2 := by
  have : signsL.all (fun g => decide (g.size ≤ 2)) = true := by kernel_rfl
  simpa using List.all_eq_true.1 this g (List.mem_of_getElem? h)

set_option maxRecDepth 100000 in
set_option maxHeartbeats 1000000 in
theorem rtoken_sign (s : ByteArray) (k : Nat) (w : World) (hk : k < s.size) (hs : s.size ≤ 16384) (hc : isLow s[k] = false) (hq : (s[k] == 63 || s[k] == 39) = false) (hd : isDig s[k] = false) :
    Calls Tryd.prog 20 #[.string s, .int .i64 k] w (RTokPost w s k s[k]) := by
  have e63 : (s[k] == 63) = ((s[k].toNat : Int) == 63) := byte_eq s[k] 63 (by omega)
  have e39 : (s[k] == 39) = ((s[k].toNat : Int) == 39) := byte_eq s[k] 39 (by omega)
  rw [Bool.or_eq_false_iff] at hq
  have b63 : ((s[k].toNat : Int) == 63) = false := by rw [← e63]; exact hq.1
  have b39 : ((s[k].toNat : Int) == 39) = false := by rw [← e39]; exact hq.2
  have HTA : Hid (tokenAt s k s[k] = match signsL.find? (signAt s k) with | some g => (6, g, 0, k + g.size) | none => (0, ⟨#[]⟩, 200, k)) := by
    show tokenAt s k s[k] = _
    unfold tokenAt; rw [if_neg (by rw [hc]; simp), if_neg (by rw [hq.1, hq.2]; simp), if_neg (by rw [hd]; simp)]; rfl
  have HL := Lib.hid (fun W => rlow_any s[k] W)
  have HDG := Lib.hid (fun W => rdigit_any s[k] W)
  rw [hc] at HL
  rw [hd] at HDG
  clear e63 e39 hq
  obtain ⟨A1, A2, A3⟩ := two_new w (.cells #[.int .u8 0, .string ⟨#[]⟩, .int .i64 0] 41) (.cells (signsL.map Value.string).toArray 9)
  go_enter Tryd.func20, Tryd.ntmps20
  go_wp2_with (first
    | (go_at_call 27; refine (HL.out _).mono ?_; rintro e w' ⟨rfl, rfl⟩)
    | (go_at_call 21; refine (HDG.out _).mono ?_; rintro e w' ⟨rfl, rfl⟩)
    | (go_at_call 32; refine (rsigns_any _).mono ?_; rintro e w' ⟨rfl, rfl⟩))
  generalize (w.alloc (.cells #[.int .u8 0, .string ⟨#[]⟩, .int .i64 0] 41)).alloc (.cells (signsL.map Value.string).toArray 9) = W0 at *
  have HA1 := Lib.hid A1
  have HA2 := Lib.hid A2
  clear A1 A2
  go_loopw [16, 17] (fun i _ wr => ∃ m : Nat, m ≤ 17 ∧ i = .int .i64 m ∧ (∃ n, wr = W0.drewN n) ∧ (signsL.drop m).find? (signAt s k) = signsL.find? (signAt s k)) (fun i _ _ => 17 - (intOf i).toNat)
  case atStart => exact ⟨0, by omega, rfl, ⟨0, rfl⟩, rfl⟩
  case round =>
    obtain ⟨m, hm, rfl, ⟨nn, rfl⟩, hfind⟩ := hrel
    have HFI := Lib.hid hfind
    clear hfind
    by_cases hlt : m < 17
    · obtain ⟨g, hg⟩ : ∃ g, signsL[m]? = some g := ⟨signsL[m]'hlt, List.getElem?_eq_getElem hlt⟩
      have hck : W0.cell? ⟨w.heap.size + 1, m, none⟩ = some (.string g) := by
        rw [cell_of_row _ _ _ _ _ _ HA2.out]; simp [hg]
      have hg2 := signs_size m g hg
      have HGM := Lib.hid hg
      clear hg
      have HST := Lib.hid (find_step (signAt s k) signsL m g HGM.out)
      have hm0 : (0 : Int) ≤ m := by omega
      have hm1 : (m : Int) < 17 := by omega
      by_cases hle : k + g.size ≤ s.size
      · have hi1 : (k : Int) + g.size ≤ s.size := by omega
        have hi2 : decide ((k : Int) + g.size ≤ s.size) = true := by simp; omega
        have hi0 : (0 : Int) ≤ k := by omega
        have hi3 : (k : Int) ≤ k + g.size := by omega
        have hsg := signAt_ext s k g hle
        obtain ⟨c0, c1, c2, f0, f1, f2⟩ := cells3 HA1.out
        cases hx : signAt s k g
        · rw [hx] at hsg
          have HSG := Lib.hid hx
          clear hx
          go_wp2
          go_quiet (fail)
          go_wp2
          refine ⟨⟨m + 1, by omega, by go_num, ⟨_, rfl⟩, ?_⟩, by simp [intOf]; omega⟩
          rw [← HFI.out, HST.out, HSG.out]; rfl
        · rw [hx] at hsg
          have HF : Hid (tokenAt s k s[k] = (6, g, 0, k + g.size)) := by
            show tokenAt s k s[k] = _
            rw [HTA.out, ← HFI.out, HST.out, hx]; rfl
          clear hx HTA
          go_wp2
          go_quiet (fail)
          go_wp2
          exact rtoken_end w (W0.drewN _) _ _ _ _ _ _ _ HA1.out (below_drewN A3 _) _ _ _ rfl rfl rfl (fun W' hb' => rtok_ok hb' HF.out)
      · have hsf := signAt_far s k g (by omega) (by omega)
        have HSG := Lib.hid hsf
        have hi1 : (s.size : Int) < k + g.size := by omega
        have hi2 : decide ((k : Int) + g.size ≤ s.size) = false := by simp; omega
        clear hsf
        go_wp2
        go_quiet (fail)
        go_wp2
        refine ⟨⟨m + 1, by omega, by go_num, ⟨_, rfl⟩, ?_⟩, by simp [intOf]; omega⟩
        rw [← HFI.out, HST.out, HSG.out]; rfl
    · obtain rfl : m = 17 := by omega
      have HF : Hid (tokenAt s k s[k] = (0, ⟨#[]⟩, 200, k)) := by
        show tokenAt s k s[k] = _
        rw [HTA.out, ← HFI.out]; rfl
      clear HTA
      obtain ⟨c0, c1, c2, f0, f1, f2⟩ := cells3 HA1.out
      go_wp2
      exact rtoken_end w (W0.drewN _) _ _ _ _ _ _ _ HA1.out (below_drewN A3 _) _ _ _ rfl rfl rfl (fun W' hb' => rtok_bad hb' HF.out (by decide))

theorem rtoken_any (s : ByteArray) (k : Nat) (w : World) (hk : k < s.size) (hs : s.size ≤ 16384) :
    Calls Tryd.prog 20 #[.string s, .int .i64 k] w (RTokPost w s k s[k]) := by
  cases hc : isLow s[k]
  · cases hq : s[k] == 63 || s[k] == 39
    · cases hd : isDig s[k]
      · exact rtoken_sign s k w hk hs hc hq hd
      · exact rtoken_num s k w hk hs hc hq hd
    · exact rtoken_mark s k w hk hs hc hq
  · exact rtoken_name s k w hk hs hc
end Go.Proofs.YtondgnefggglcaaDoor
