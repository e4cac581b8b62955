/- The scanner: a token; by contract. Conditions: the source has at most 16384 bytes; the library's table of blanks lies as laid. -/
import Derived.Test.YtondgnefggglcaaDoorScanE
import Derived.Deep.RegionHeld3
import Derived.Deep.RegionWith
import Derived.Handy
namespace Go.Proofs.YtondgnefggglcaaDoor
open Go.RowKit

theorem any_letters : (fun c => [lettersB].any (hasB · c)) = isLow := by
  funext c
  show (hasB lettersB c || false) = _
  rw [has_letters, Bool.or_false]
theorem any_digits : (fun c => [digitsB].any (hasB · c)) = isDig := by
  funext c
  show (hasB digitsB c || false) = _
  rw [has_digits, Bool.or_false]
theorem any_more : (fun c => [moreB].any (hasB · c)) = isOn := by
  funext c
  show (hasB moreB c || false) = _
  rw [has_more, Bool.or_false]
theorem any_quotes (c : UInt8) : [(⟨#[63, 39]⟩ : ByteArray)].any (hasB · c) = (c == 63 || c == 39) := by
  show ((([63, 39] : List UInt8).contains c) || false) = _
  simp only [List.contains_cons, List.contains_nil, Bool.or_false]
theorem any_quote (c : UInt8) : [(⟨#[39]⟩ : ByteArray)].any (hasB · c) = (c == 39) := by
  show ((([39] : List UInt8).contains c) || false) = _
  simp only [List.contains_cons, List.contains_nil, Bool.or_false]

/-- THE TOKEN at a place: its kind, its text, an error, the place behind -/
def tokenAt (s : ByteArray) (k : Nat) (c : UInt8) : Nat × ByteArray × Nat × Nat :=
  if isLow c then (if wordB (s.extract k (scanTo isOn s k)).data.toList then 1 else 2, s.extract k (scanTo isOn s k), if scanTo isOn s k - k ≤ 24 then 0 else 201, scanTo isOn s k)
  else if c == 63 || c == 39 then (if c == 39 then 5 else 3, s.extract (k + 1) (scanTo isOn s (k + 1)), if namedB (s.extract (k + 1) (scanTo isOn s (k + 1))).data.toList then 0 else 201, scanTo isOn s (k + 1))
  else if isDig c then (4, s.extract k (scanTo isDig s k), if (number (s.extract k (scanTo isDig s k)).data.toList).isSome && !((s.data.toList.drop (scanTo isDig s k)).head?.any isOn) then 0 else 201, scanTo isDig s k)
  else match signsL.find? (fun g => Lib.hasPrefix (s.data.toList.drop k) g.data.toList) with
    | some g => (6, g, 0, k + g.size)
    | none => (0, ⟨#[]⟩, 200, k)
/-- what the scanner's token leaves -/
def TokPost (w : World) (R Q : Nat) (s : ByteArray) (k : Nat) (c : UInt8) (e : Ending) (w' : World) : Prop :=
  e = .returned (.tuple #[.agg #[.int .u8 (tokenAt s k c).1, .string (tokenAt s k c).2.1, .int .i64 k], .int .i64 (tokenAt s k c).2.2.1]) ∧ w.grownBy w' (some Q) ∧ Rdr w' R Q s (tokenAt s k c).2.2.2
theorem tokPost_of {w : World} {R Q : Nat} {s : ByteArray} {k : Nat} {c : UInt8} {w' : World} (kd : Nat) (tx : ByteArray) (er en : Nat) (h : tokenAt s k c = (kd, tx, er, en)) (hg : w.grownBy w' (some Q)) (hr : Rdr w' R Q s en) :
    TokPost w R Q s k c (.returned (.tuple #[.agg #[.int .u8 kd, .string tx, .int .i64 k], .int .i64 er])) w' := by
  unfold TokPost; rw [h]; exact ⟨rfl, hg, hr⟩

theorem token_end (w w6 : World) (R Q : Nat) (s : ByteArray) (k : Nat) (c : UInt8) (T kd er en : Nat) (kdI erI : Int) (tx : ByteArray) (a0 b0 c0 : Value) (hT : w6.heap[T]? = some (.cells #[a0, b0, c0] 41 (0, 0))) (hTw : w.heap.size ≤ T) (hTR : T ≠ R) (hTQ : T ≠ Q)
    (hg : w.grownBy w6 (some Q)) (hr : Rdr w6 R Q s en) (hF : tokenAt s k c = (kd, tx, er, en)) (hkd : kdI = kd) (her : erI = er) (tmps : Array Value) (h2 : tmps.getD 2 undef = .pointer (some ⟨T, 0, none⟩)) (h3 : tmps.getD 3 undef = .int .i64 erI) :
    bodyPost Tryd.prog Tryd.f26 (TokPost w R Q s k c) .ret ⟨tmps, []⟩ (((w6.setCell ⟨T, 0, none⟩ (.int .u8 kdI)).setCell ⟨T, 1, none⟩ (.string tx)).setCell ⟨T, 2, none⟩ (.int .i64 k)) := by
  subst hkd her
  have hT' : (((w6.setCell ⟨T, 0, none⟩ (.int .u8 kd)).setCell ⟨T, 1, none⟩ (.string tx)).setCell ⟨T, 2, none⟩ (.int .i64 k)).heap[T]? = some (.cells #[.int .u8 kd, .string tx, .int .i64 k] 41 (0, 0)) :=
    heap_set (heap_set (heap_set hT 0 _) 1 _) 2 _
  have hg' := grown_set_far (grown_set_far (grown_set_far hg hTw 0 (.int .u8 kd)) hTw 1 (.string tx)) hTw 2 (.int .i64 k)
  have hr' := ((hr.set_far (i := 0) (.int .u8 kd) hTR hTQ).set_far (i := 1) (.string tx) hTR hTQ).set_far (i := 2) (.int .i64 k) hTR hTQ
  generalize ((w6.setCell ⟨T, 0, none⟩ (.int .u8 kd)).setCell ⟨T, 1, none⟩ (.string tx)).setCell ⟨T, 2, none⟩ (.int .i64 k) = w9 at *
  obtain ⟨c0, c1, c2, _⟩ := cells3 hT'
  refine bodyPost_ret (v := .tuple #[.agg #[.int .u8 kd, .string tx, .int .i64 k], .int .i64 er]) ?_ rfl (tokPost_of kd tx er en hF hg' hr')
  have h2' : tmps[2]?.getD undef = .pointer (some ⟨T, 0, none⟩) := by simpa using h2
  have h3' : tmps[3]?.getD undef = .int .i64 er := by simpa using h3
  simp [results, Tryd.results26, go_sem, h2', h3', c0, c1, c2]

theorem ext_list (s : ByteArray) (a b : Nat) (h : a < b) (hb : b ≤ s.size) : (s.extract a b).data.toList = (s[a]'(by omega)) :: (s.extract (a + 1) b).data.toList := by
  have e : ∀ x y, (s.extract x y).data.toList = (s.data.toList.drop x).take (y - x) := by
    intro x y; rw [ByteArray.data_extract, Array.toList_extract]
  rw [e, e, drop_cons s a (by omega), show b - a = (b - (a + 1)) + 1 from by omega, List.take_succ_cons]
theorem ext_size (s : ByteArray) (a b : Nat) (hb : b ≤ s.size) : (s.extract a b).size = b - a := by
  rw [ByteArray.size_extract]; omega
theorem namedB_low (s : ByteArray) (a b : Nat) (h : a < b) (hb : b ≤ s.size) (hc : isLow s[a] = true) : namedB (s.extract a b).data.toList = decide (b - a ≤ 24) := by
  have hl : (s.extract a b).data.toList.length = b - a := by rw [Array.length_toList]; exact ext_size s a b hb
  rw [ext_list s a b h hb] at hl ⊢
  simp only [namedB, hc, Bool.and_true, hl]

set_option maxHeartbeats 1000000 in
theorem token_name (R Q k : Nat) (s : ByteArray) (w : World) (h : Rdr w R Q s k) (hk : k < s.size) (hs : s.size ≤ 16384) (ht : AsciiTab w) (hQ : Q ≠ 0)
    (hc : isLow s[k] = true) :
    Calls Tryd.prog 26 #[.pointer (some ⟨R, 0, none⟩)] w (TokPost w R Q s k s[k]) := by
  have hLT : ∀ (W : World) (T : Nat) (cs : Array Value), W.heap[T]? = some (.cells cs 41 (0, 0)) → Rdr W R Q s k → some T ≠ some Q := fun W T cs hT hr e => by
    obtain ⟨p, hq⟩ := hr.q
    injection e with e
    exact ne_of_type hT hq (by decide) e
  have HLT := Lib.hid hLT
  clear hLT
  have HC := Lib.hid hc
  go_enter Tryd.func26, Tryd.ntmps26
  go_wp2_with fail
  have hb0 : Below w.heap.size w (w.alloc (.cells #[.int .u8 0, .string ⟨#[]⟩, .int .i64 0] 41)) := (Below.refl _ w).alloc (Nat.le_refl _) _
  have T2 := heap_alloc_new w (.cells #[.int .u8 0, .string ⟨#[]⟩, .int .i64 0] 41)
  refine (at_b R Q k s _ (h.keep hb0) (by omega) hs).mono ?_; rintro e w1 ⟨rfl, hb1⟩
  have hbw1 : Below w.heap.size w w1 := hb0.trans (hb1.mono hb0.size)
  have HT2 := Lib.hid (heap_below hb1 T2 (by simp))
  have hr1 := h.keep hbw1
  clear T2 hb1 hb0
  have hb2 : Below w1.heap.size w1 (w1.alloc (.cells #[.int .u8 0, .string ⟨#[]⟩, .int .i64 k] 41)) := (Below.refl _ w1).alloc (Nat.le_refl _) _
  have T4 := Lib.hid (heap_alloc_new w1 (.cells #[.int .u8 0, .string ⟨#[]⟩, .int .i64 k] 41))
  go_wp2_with fail
  refine (one_at R Q k s _ (hr1.keep hb2) hk hs [lettersB] true (by rw [← HC.out]; exact congrFun any_letters s[k]) _ rfl 1 1 rfl (by omega) _ (by simp)).mono ?_
  rintro e w3 ⟨rfl, hb3⟩
  have hb23 : Below w1.heap.size w1 w3 := hb2.trans (hb3.mono hb2.size)
  have hbw3 : Below w.heap.size w w3 := hbw1.trans (hb23.mono hbw1.size)
  have hr3 := hr1.keep hb23
  have HT4 := Lib.hid (heap_below hb3 T4.out (by simp))
  have HT2b := Lib.hid (heap_below hb23 HT2.out (Array.getElem?_eq_some_iff.1 HT2.out).1)
  clear hb2 hb3 hb23 T4
  go_wp2_with fail
  refine (take_at R Q k s _ hr3 (by omega) hs [moreB] isOn any_more _ rfl 1 1 rfl (by omega) _ rfl).mono ?_
  rintro e w4 ⟨rfl, hg4, hr4⟩
  have hgw4 : w.grownBy w4 (some Q) := World.grownBy.trans (grown_of_below hbw3 _) hg4
  have HT4b := Lib.hid (heap_grown hg4 HT4.out (HLT.out _ _ _ HT4.out hr3))
  have HT2c := Lib.hid (heap_grown hg4 HT2b.out (HLT.out _ _ _ HT2b.out hr3))
  have hsz := ext_size s k (scanTo isOn s k) (scanTo_le isOn s k (by omega))
  have hkon : isOn s[k] = true := by unfold isOn; rw [HC.out]; rfl
  have hlt1 : k < scanTo isOn s k := by rw [← scanTo_yes isOn s k hk hkon]; exact scanTo_ge _ _ _
  have hle1 := scanTo_le isOn s k (by omega)
  have hnm := namedB_low s k (scanTo isOn s k) hlt1 hle1 HC.out
  generalize hE : scanTo isOn s k = en at *
  generalize hX : s.extract k en = tx at *
  have HE := Lib.hid hE
  have HX := Lib.hid hX
  have htx : tx.size ≤ 16384 := by omega
  have HNB := Lib.hid hnm
  clear hsz hkon hnm
  clear hE hX hg4 hbw3 HT4 HT2b
  have HN1 : Hid (w1.heap.size ≠ R ∧ w1.heap.size ≠ Q) := by
    obtain ⟨_, _, _, _, _, _, _, hR1, hQ1⟩ := hr1.cells
    show w1.heap.size ≠ R ∧ w1.heap.size ≠ Q
    omega
  obtain ⟨c0, c1, c2, f0, f1, f2⟩ := cells3 HT4b.out
  have HG : Hid (w.grownBy ((w4.setCell ⟨w1.heap.size, 0, none⟩ (.int .u8 2)).setCell ⟨w1.heap.size, 1, none⟩ (.string tx)) (some Q)) := grown_set_far (grown_set_far hgw4 hbw1.size _ _) hbw1.size _ _
  have HB4 := Lib.hid (heap_set (heap_set HT4b.out 0 (.int .u8 2)) 1 (.string tx))
  have hne : w1.heap.size ≠ w.heap.size := by have := (Array.getElem?_eq_some_iff.1 HT2.out).1; omega
  have HRD := Lib.hid ((hr4.set_far (T := w1.heap.size) (i := 0) (.int .u8 2) HN1.out.1 HN1.out.2).set_far (i := 1) (.string tx) HN1.out.1 HN1.out.2)
  have HT2d := Lib.hid (heap_set_far (heap_set_far HT2c.out hne 0 (.int .u8 2)) hne 1 (.string tx))
  go_wp2_with fail
  generalize (w4.setCell ⟨w1.heap.size, 0, none⟩ (.int .u8 2)).setCell ⟨w1.heap.size, 1, none⟩ (.string tx) = w5 at *
  have hr5 : Rdr w5 R Q s en := HRD.out
  have ht5 : AsciiTab w5 := ht.grown HG.out hQ
  clear HT4b c0 c1 c2 f0 f1 f2 hgw4
  obtain ⟨c0, c1, c2, f0, f1, f2⟩ := cells3 HB4.out
  have hlt := (Array.getElem?_eq_some_iff.1 HB4.out).1
  go_region_held3 (fun w' => w'.cell? ⟨w1.heap.size, 1, none⟩ = some (.string tx))
    (first
      | assumption
      | (exact (World.cell?_alloc_lt w5 _ ⟨w1.heap.size, 1, none⟩ hlt).trans c1))
    (first
      | (go_at_call 14; refine (words_any _ (ht5.below (Below.refl _ _).drew)).mono ?_; rintro e w6 ⟨rfl, rfl⟩)
      | (go_at_call 41; refine (contains_words _ _ tx _ (by exact heap_alloc_new w5 _)).mono ?_; rintro e w6 ⟨rfl, rfl⟩))
  have hb6 : Below w5.heap.size w5 (w5.alloc (.cells (wordsL.map Value.string).toArray 9)).drew := ((Below.refl _ w5).alloc (Nat.le_refl _) _).drew
  generalize (w5.alloc (.cells (wordsL.map Value.string).toArray 9)).drew = w6 at *
  have HB6 := Lib.hid (heap_below hb6 HB4.out hlt)
  have HT6 := Lib.hid (heap_below hb6 HT2d.out (Array.getElem?_eq_some_iff.1 HT2d.out).1)
  have HG6 := Lib.hid (grown_below HG.out hb6)
  clear c0 c1 c2 f0 f1 f2 ht5 HG
  obtain ⟨c0, c1, c2, f0, f1, f2⟩ := cells3 HB6.out
  obtain ⟨d0, d1, d2, e0, e1, e2⟩ := cells3 HT6.out
  have HNM := Lib.hid (fun W (x : Bool) (hx : decide (en - k ≤ 24) = x) => (named_any tx W (by omega)).mono (R' := fun e w' => e = .returned (.bool x) ∧ W = w') (fun e w' hh => ⟨by rw [hh.1, HNB.out, hx], hh.2⟩))
  have HTA : Hid (tokenAt s k s[k] = (if wordB tx.data.toList then 1 else 2, tx, if en - k ≤ 24 then 0 else 201, en)) := by
    show tokenAt s k s[k] = _
    unfold tokenAt; rw [if_pos HC.out, HE.out, HX.out]
  have hr6 := hr5.keep hb6
  have hTR : w.heap.size ≠ R ∧ w.heap.size ≠ Q := by
    obtain ⟨_, _, _, _, _, _, _, hR0, hQ0⟩ := h.cells
    omega
  have HTR := Lib.hid hTR
  clear hTR
  cases hw : wordB tx.data.toList
  · cases hn : decide (en - k ≤ 24)
    · have HN := Lib.hid hn
      have HF : Hid (tokenAt s k s[k] = (2, tx, 201, en)) := by
        show tokenAt s k s[k] = _
        rw [HTA.out, hw, if_neg (by simp), if_neg (by simpa using hn)]
      clear hn hw HTA
      go_wp2_with (first
        | (go_at_call 42; refine (HNM.out _ _ HN.out).mono ?_; rintro e w7 ⟨rfl, rfl⟩))
      exact token_end w _ R Q s k _ _ 2 201 en 2 201 tx _ _ _ HT6.out (Nat.le_refl _) HTR.out.1 HTR.out.2 HG6.out hr6 HF.out rfl rfl _ rfl rfl
    · have HN := Lib.hid hn
      have HF : Hid (tokenAt s k s[k] = (2, tx, 0, en)) := by
        show tokenAt s k s[k] = _
        rw [HTA.out, hw, if_neg (by simp), if_pos (by simpa using hn)]
      clear hn hw HTA
      go_wp2_with (first
        | (go_at_call 42; refine (HNM.out _ _ HN.out).mono ?_; rintro e w7 ⟨rfl, rfl⟩))
      exact token_end w _ R Q s k _ _ 2 0 en 2 0 tx _ _ _ HT6.out (Nat.le_refl _) HTR.out.1 HTR.out.2 HG6.out hr6 HF.out rfl rfl _ rfl rfl
  · have HT8 := Lib.hid (heap_set_far HT6.out hne 0 (.int .u8 1))
    have HG8 := Lib.hid (grown_set_far HG6.out hbw1.size 0 (.int .u8 1))
    have HR8 := Lib.hid (hr6.set_far (T := w1.heap.size) (i := 0) (.int .u8 1) HN1.out.1 HN1.out.2)
    cases hn : decide (en - k ≤ 24)
    · have HN := Lib.hid hn
      have HF : Hid (tokenAt s k s[k] = (1, tx, 201, en)) := by
        show tokenAt s k s[k] = _
        rw [HTA.out, hw, if_pos rfl, if_neg (by simpa using hn)]
      clear hn hw HTA
      go_wp2_with (first
        | (go_at_call 42; refine (HNM.out _ _ HN.out).mono ?_; rintro e w7 ⟨rfl, rfl⟩))
      exact token_end w _ R Q s k _ _ 1 201 en 1 201 tx _ _ _ HT8.out (Nat.le_refl _) HTR.out.1 HTR.out.2 HG8.out HR8.out HF.out rfl rfl _ rfl rfl
    · have HN := Lib.hid hn
      have HF : Hid (tokenAt s k s[k] = (1, tx, 0, en)) := by
        show tokenAt s k s[k] = _
        rw [HTA.out, hw, if_pos rfl, if_pos (by simpa using hn)]
      clear hn hw HTA
      go_wp2_with (first
        | (go_at_call 42; refine (HNM.out _ _ HN.out).mono ?_; rintro e w7 ⟨rfl, rfl⟩))
      exact token_end w _ R Q s k _ _ 1 0 en 1 0 tx _ _ _ HT8.out (Nat.le_refl _) HTR.out.1 HTR.out.2 HG8.out HR8.out HF.out rfl rfl _ rfl rfl
end Go.Proofs.YtondgnefggglcaaDoor
