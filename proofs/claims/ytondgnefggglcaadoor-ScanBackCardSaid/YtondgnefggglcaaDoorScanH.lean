/- The scanner: a token that is a number; by contract. Conditions: the source has at most 16384 bytes. -/
import Derived.Test.YtondgnefggglcaaDoorScanG
namespace Go.Proofs.YtondgnefggglcaaDoor
open Go.RowKit

/-- 'one' wherever the reader is, at a row of texts that has just been laid -/
theorem one_opt (R Q k : Nat) (s : ByteArray) (w : World) (h : Rdr w R Q s k) (hk : k ≤ s.size) (hs : s.size ≤ 16384) (sets : List ByteArray) (p : UInt8 → Bool) (hp : (fun c => sets.any (hasB · c)) = p) (x : Bool) (hx : (s.data.toList.drop k).head?.any p = x) (arr : Array Value) (harr : arr = (sets.map Value.string).toArray) (n cap : Nat) (hn : sets.length = n) (hn2 : n ≤ 100)
    (B : Nat) (hB : w.heap.size = B) :
    Calls Tryd.prog 35 #[.pointer (some ⟨R, 0, none⟩), .slice (some ⟨B, 0, none⟩) n cap] (w.alloc (.cells arr 9)) fun e w' => e = .returned (.bool x) ∧ Below w.heap.size w w' := by
  subst hB
  by_cases hlt : k < s.size
  · refine one_at R Q k s w h hlt hs sets x ?_ arr harr n cap hn hn2 _ rfl
    rw [← hx, drop_cons s k hlt, List.head?_cons, Option.any_some, ← hp]
  · rw [drop_end s k (by omega)] at hx
    have : x = false := by rw [← hx]; rfl
    subst this
    exact one_lit_no R Q k s w h (by omega) hs arr _

set_option maxHeartbeats 1000000 in
theorem token_num (R Q k : Nat) (s : ByteArray) (w : World) (h : Rdr w R Q s k) (hk : k < s.size) (hs : s.size ≤ 16384)
    (hc : isLow s[k] = false) (hq : (s[k] == 63 || s[k] == 39) = false) (hd : isDig s[k] = true) :
    Calls Tryd.prog 26 #[.pointer (some ⟨R, 0, none⟩)] w (TokPost w R Q s k s[k]) := by
  have HC := Lib.hid hc
  have HQ := Lib.hid hq
  have HD := Lib.hid hd
  clear hc hq hd
  go_enter Tryd.func26, Tryd.ntmps26
  go_wp2_with fail
  refine (at_b R Q k s _ (h.keep ((Below.refl _ w).alloc (Nat.le_refl _) _)) (by omega) hs).mono ?_; rintro e w1 ⟨rfl, hb1⟩
  have S1 := TS.start h hb1
  go_wp2_with fail
  refine (one_at R Q k s _ S1.r hk hs [lettersB] false (by rw [← HC.out]; exact congrFun any_letters s[k]) _ rfl 1 1 rfl (by omega) _ (by simp)).mono ?_
  rintro e w3 ⟨rfl, hb3⟩
  have S3 := S1.below hb3
  clear S1 hb3
  generalize w1.heap.size = T4 at *
  generalize w.heap.size = T2 at S3 ⊢
  go_wp2_with fail
  refine (one_at R Q k s _ S3.r hk hs [⟨#[63, 39]⟩] false (by rw [any_quotes]; exact HQ.out) _ rfl 1 1 rfl (by omega) _ rfl).mono ?_
  rintro e w4 ⟨rfl, hb4⟩
  have S4 := S3.below hb4
  clear S3 hb4
  go_wp2_with fail
  refine (one_at R Q k s _ S4.r hk hs [digitsB] true (by rw [← HD.out]; exact congrFun any_digits s[k]) _ rfl 1 1 rfl (by omega) _ rfl).mono ?_
  rintro e w5 ⟨rfl, hb5⟩
  have S5 := S4.below hb5
  clear S4 hb5
  go_wp2_with fail
  refine (take_at R Q k s _ S5.r (by omega) hs [digitsB] isDig any_digits _ rfl 1 1 rfl (by omega) _ rfl).mono ?_
  rintro e w8 ⟨rfl, hg8, hr8⟩
  have S8 := S5.grown hg8 hr8
  clear S5 hg8 hr8
  have hle1 := scanTo_le isDig s k (by omega)
  have htx : (s.extract k (scanTo isDig s k)).size ≤ 16384 := by rw [ext_size s _ _ hle1]; omega
  have HTA : Hid (tokenAt s k s[k] = (4, s.extract k (scanTo isDig s k), if (number (s.extract k (scanTo isDig s k)).data.toList).isSome && !((s.data.toList.drop (scanTo isDig s k)).head?.any isOn) then 0 else 201, scanTo isDig s k)) := by
    show tokenAt s k s[k] = _
    unfold tokenAt; rw [if_neg (by rw [HC.out]; simp), if_neg (by rw [HQ.out]; simp), if_pos HD.out]
  generalize scanTo isDig s k = en at *
  generalize s.extract k en = tx at *
  obtain ⟨c0, c1, c2, f0, f1, f2⟩ := S8.c4
  have S9a := S8.kind 4
  have S9 := S9a.text tx
  obtain ⟨c0', c1', c2', f0', f1', f2'⟩ := S9a.c4
  obtain ⟨d0, d1, d2, e0, e1, e2⟩ := S9.c4
  have hz := Lib.hid (show ((w8.setCell ⟨T4, 0, none⟩ (.int .u8 4)).setCell ⟨T4, 1, none⟩ (.string tx)).heap.size = w8.heap.size by simp)
  go_wp2_with fail
  generalize (w8.setCell ⟨T4, 0, none⟩ (.int .u8 4)).setCell ⟨T4, 1, none⟩ (.string tx) = w9 at *
  clear c0 c1 c2 f0 f1 f2 c0' c1' c2' f0' f1' f2' S8 S9a
  refine (number_any tx _ htx).mono ?_
  rintro e wa ⟨rfl, hba⟩
  have Sa := S9.below hba
  clear S9 hba d0 d1 d2 e0 e1 e2
  obtain ⟨d0, d1, d2, e0, e1, e2⟩ := Sa.c4
  obtain ⟨d0', d1', d2', e0', e1', e2'⟩ := Sa.c2
  generalize hnum : number tx.data.toList = nu at *
  cases nu with
  | none =>
    have HF : Hid (tokenAt s k s[k] = (4, tx, 201, en)) := by
      show tokenAt s k s[k] = _
      rw [HTA.out]; rfl
    clear HTA
    go_wp2_with fail
    exact Sa.fin HF.out rfl rfl _ rfl rfl
  | some v =>
    generalize hon : (s.data.toList.drop en).head?.any isOn = on at *
    have HON := Lib.hid hon
    have hv : (Option.getD (some v) 0) = v := rfl
    clear hon
    go_wp2_with fail
    refine (one_opt R Q en s _ Sa.r hle1 hs [moreB] isOn any_more on HON.out _ rfl 1 1 rfl (by omega) _ rfl).mono ?_
    rintro e wb ⟨rfl, hbb⟩
    have Sb := Sa.below hbb
    clear Sa hbb d0 d1 d2 e0 e1 e2 d0' d1' d2' e0' e1' e2'
    obtain ⟨d0, d1, d2, e0, e1, e2⟩ := Sb.c4
    obtain ⟨d0', d1', d2', e0', e1', e2'⟩ := Sb.c2
    cases on
    · have HF : Hid (tokenAt s k s[k] = (4, tx, 0, en)) := by
        show tokenAt s k s[k] = _
        rw [HTA.out]; rfl
      clear HTA
      go_wp2_with fail
      exact Sb.fin HF.out rfl rfl _ rfl rfl
    · have HF : Hid (tokenAt s k s[k] = (4, tx, 201, en)) := by
        show tokenAt s k s[k] = _
        rw [HTA.out]; rfl
      clear HTA
      go_wp2_with fail
      exact Sb.fin HF.out rfl rfl _ rfl rfl
end Go.Proofs.YtondgnefggglcaaDoor
