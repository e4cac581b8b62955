/- The scanner: a token that is a sign, or none; by contract. Conditions: the source has at most 16384 bytes; the library's table of blanks lies as laid. -/
import Derived.Test.YtondgnefggglcaaDoorScanH
namespace Go.Proofs.YtondgnefggglcaaDoor
open Go.RowKit

def signAt (s : ByteArray) (k : Nat) (g : ByteArray) : Bool := Lib.hasPrefix (s.data.toList.drop k) g.data.toList
theorem find_step (p : ByteArray → Bool) (l : List ByteArray) (i : Nat) (g : ByteArray) (hg : l[i]? = some g) : (l.drop i).find? p = if p g then some g else (l.drop (i + 1)).find? p := by
  obtain ⟨hi, rfl⟩ := List.getElem?_eq_some_iff.1 hg
  rw [List.drop_eq_getElem_cons hi, List.find?_cons]
  cases p l[i] <;> rfl
theorem signAt_le (s : ByteArray) (k : Nat) (g : ByteArray) (hk : k ≤ s.size) (h : signAt s k g = true) : k + g.size ≤ s.size := by
  have h1 : g.data.toList.isPrefixOf (s.data.toList.drop k) = true := h
  have h2 := (List.isPrefixOf_iff_prefix.1 h1).length_le
  simp at h2
  have h3 : g.data.size = g.size := rfl
  have h4 : s.data.size = s.size := rfl
  omega

set_option maxHeartbeats 1000000 in
theorem token_sign (R Q k : Nat) (s : ByteArray) (w : World) (h : Rdr w R Q s k) (hk : k < s.size) (hs : s.size ≤ 16384) (ht : AsciiTab w) (hQA : Q ≠ 0)
    (hc : isLow s[k] = false) (hq : (s[k] == 63 || s[k] == 39) = false) (hd : isDig s[k] = false) :
    Calls Tryd.prog 26 #[.pointer (some ⟨R, 0, none⟩)] w (TokPost w R Q s k s[k]) := by
  have HC := Lib.hid hc
  have HQ := Lib.hid hq
  have HD := Lib.hid hd
  have HTA : Hid (tokenAt s k s[k] = match signsL.find? (signAt s k) with | some g => (6, g, 0, k + g.size) | none => (0, ⟨#[]⟩, 200, k)) := by
    show tokenAt s k s[k] = _
    unfold tokenAt; rw [if_neg (by rw [hc]; simp), if_neg (by rw [hq]; simp), if_neg (by rw [hd]; simp)]; rfl
  clear hc hq hd
  go_enter Tryd.func26, Tryd.ntmps26
  go_wp2_with fail
  refine (at_b R Q k s _ (h.keep ((Below.refl _ w).alloc (Nat.le_refl _) _)) (by omega) hs).mono ?_; rintro e w1 ⟨rfl, hb1⟩
  have S1 := TS.start h hb1
  go_wp2_with fail
  refine (one_at R Q k s _ S1.r hk hs [lettersB] false (by rw [← HC.out]; exact congrFun any_letters s[k]) _ rfl 1 1 rfl (by omega) _ (by simp)).mono ?_
  rintro e w3 ⟨rfl, hb3⟩
  have S3 := S1.below hb3
  clear S1 hb3
  generalize w1.heap.size = T4 at *
  generalize w.heap.size = T2 at S3 ⊢
  go_wp2_with fail
  refine (one_at R Q k s _ S3.r hk hs [⟨#[63, 39]⟩] false (by rw [any_quotes]; exact HQ.out) _ rfl 1 1 rfl (by omega) _ rfl).mono ?_
  rintro e w4 ⟨rfl, hb4⟩
  have S4 := S3.below hb4
  clear S3 hb4
  go_wp2_with fail
  refine (one_at R Q k s _ S4.r hk hs [digitsB] false (by rw [← HD.out]; exact congrFun any_digits s[k]) _ rfl 1 1 rfl (by omega) _ rfl).mono ?_
  rintro e w5 ⟨rfl, hb5⟩
  have S5 := S4.below hb5
  clear S4 hb5
  go_wp2_with fail
  refine (fields_signs _ (S5.tab ht hQA)).mono ?_
  rintro e w6 ⟨rfl, rfl⟩
  have hB := Lib.hid (heap_alloc_new w5 (.cells (signsL.map Value.string).toArray 9))
  have S6 := S5.below ((Below.refl _ w5).alloc (Nat.le_refl _) (.cells (signsL.map Value.string).toArray 9))
  generalize w5.alloc (.cells (signsL.map Value.string).toArray 9) = w6 at *
  have hBQ : some w5.heap.size ≠ some Q := by
    obtain ⟨p, hq⟩ := S6.r.q
    intro e; injection e with e
    exact ne_of_type hB.out hq (by decide) e
  generalize w5.heap.size = B at *
  clear S5
  go_wp2_with fail
  go_loopw [14, 8] (fun i _ wr => ∃ m : Nat, m ≤ 17 ∧ i = .int .i64 m ∧ TS w R Q s k T2 T4 k 0 ⟨#[]⟩ wr ∧ wr.heap[B]? = some (.cells (signsL.map Value.string).toArray 9 (0, 0)) ∧ (signsL.drop m).find? (signAt s k) = signsL.find? (signAt s k)) (fun i _ _ => 17 - (intOf i).toNat)
  case atStart => exact ⟨0, by omega, rfl, S6, hB.out, rfl⟩
  case round =>
    obtain ⟨m, hm, rfl, SL, hBr, hfind⟩ := hrel
    have HFI := Lib.hid hfind
    have HBr := Lib.hid hBr
    clear hfind hBr S6 hB
    by_cases hlt : m < 17
    · obtain ⟨g, hg⟩ : ∃ g, signsL[m]? = some g := ⟨signsL[m]'hlt, List.getElem?_eq_getElem hlt⟩
      have hck : wr.cell? ⟨B, m, none⟩ = some (.string g) := by
        rw [cell_of_row _ _ _ _ _ _ HBr.out]; simp [hg]
      have HGM := Lib.hid hg
      clear hg
      go_wp2_with fail
      refine (rest_lit R Q k s _ SL.r (by omega) hs).mono ?_
      rintro e w7 ⟨⟨t, rfl, htl, hts⟩, hb7⟩
      have S7 := SL.below hb7
      have HB7 := Lib.hid (heap_below hb7 HBr.out (Array.getElem?_eq_some_iff.1 HBr.out).1)
      have HTL := Lib.hid htl
      clear htl hts SL hck
      have HST := Lib.hid (find_step (signAt s k) signsL m g HGM.out)
      have HP := Lib.hid (fun (W : World) (x : Bool) (hx : signAt s k g = x) => (Tryd.strings_HasPrefix t g W).mono (R' := fun e w' => e = .returned (.bool x) ∧ W = w') (fun e w' hh => ⟨by rw [hh.1, HTL.out]; exact congrArg (fun b => Ending.returned (.bool b)) hx, hh.2.symm⟩))
      cases hsg : signAt s k g
      · have HSG := Lib.hid hsg
        clear hsg hb7
        go_wp2_with (first
          | (go_at_call 43; refine (HP.out _ _ HSG.out).mono ?_; rintro e w8 ⟨rfl, rfl⟩))
        refine ⟨⟨m + 1, by omega, by go_num, S7, HB7.out, ?_⟩, by simp [intOf]; omega⟩
        rw [← HFI.out, HST.out, HSG.out]; rfl
      · have hle := signAt_le s k g (by omega) hsg
        have HF : Hid (tokenAt s k s[k] = (6, g, 0, k + g.size)) := by
          show tokenAt s k s[k] = _
          rw [HTA.out, ← HFI.out, HST.out, hsg]; rfl
        have HSG := Lib.hid hsg
        clear hsg HTA
        go_wp2_with (first
          | (go_at_call 43; refine (HP.out _ _ HSG.out).mono ?_; rintro e w8 ⟨rfl, rfl⟩))
        go_loopw [24] (fun i wi => ∃ q : Nat, q ≤ g.size ∧ i = .int .i64 q ∧ TS w R Q s k T2 T4 (k + q) 0 ⟨#[]⟩ wi) (fun i _ => g.size - (intOf i).toNat)
        case atStart => exact ⟨0, Nat.zero_le _, rfl, S7⟩
        case round =>
          obtain ⟨q, hqg, rfl, SI⟩ := hrel
          by_cases hlq : q < g.size
          · obtain ⟨r0, r1, q0, q1, ⟨p, q2⟩, _⟩ := SI.r.cells
            obtain ⟨p', hQ2⟩ := SI.r.q
            have HQ2 := Lib.hid hQ2
            clear hQ2
            go_wp2_with fail
            refine (readb_any Q (k + q) _ s _ HQ2.out (by omega) hs).mono ?_; rintro e w9 ⟨rfl, hg9, hQ9⟩
            have S9 := SI.grown hg9 (SI.r.grown hg9 hQ9)
            clear SI hg9 hQ9 r0 r1 q0 q1 q2
            go_wp2_with fail
            exact ⟨⟨q + 1, by omega, by go_num, S9⟩, by simp [intOf]; omega⟩
          · obtain rfl : q = g.size := by omega
            obtain ⟨c0, c1, c2, f0, f1, f2⟩ := SI.c4
            have Sa := SI.kind 6
            obtain ⟨c0', c1', c2', f0', f1', f2'⟩ := Sa.c4
            have Sb := Sa.text g
            obtain ⟨d0, d1, d2, e0, e1, e2⟩ := Sb.c4
            obtain ⟨d0', d1', d2', e0', e1', e2'⟩ := Sb.c2
            go_wp2_with fail
            exact Sb.fin HF.out rfl rfl _ rfl rfl
    · obtain rfl : m = 17 := by omega
      have HF : Hid (tokenAt s k s[k] = (0, ⟨#[]⟩, 200, k)) := by
        show tokenAt s k s[k] = _
        rw [HTA.out, ← HFI.out]; rfl
      clear HTA
      obtain ⟨d0, d1, d2, e0, e1, e2⟩ := SL.c4
      obtain ⟨d0', d1', d2', e0', e1', e2'⟩ := SL.c2
      go_wp2_with fail
      exact SL.fin HF.out rfl rfl _ rfl rfl

theorem token_any (R Q k : Nat) (s : ByteArray) (w : World) (h : Rdr w R Q s k) (hk : k < s.size) (hs : s.size ≤ 16384) (ht : AsciiTab w) (hQA : Q ≠ 0) :
    Calls Tryd.prog 26 #[.pointer (some ⟨R, 0, none⟩)] w (TokPost w R Q s k s[k]) := by
  cases hc : isLow s[k]
  · cases hq : s[k] == 63 || s[k] == 39
    · cases hd : isDig s[k]
      · exact token_sign R Q k s w h hk hs ht hQA hc hq hd
      · exact token_num R Q k s w h hk hs hc hq hd
    · exact token_mark R Q k s w h hk hs hc hq
  · exact token_name R Q k s w h hk hs ht hQA hc
end Go.Proofs.YtondgnefggglcaaDoor
