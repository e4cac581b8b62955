/- The scanner: a token that begins with a mark, a digit, a sign; by contract. Conditions: the source has at most 16384 bytes; the library's table of blanks lies as laid. -/
import Derived.Test.YtondgnefggglcaaDoorScanF
namespace Go.Proofs.YtondgnefggglcaaDoor
open Go.RowKit

/-- the state within the token's call: block T2 is the result's, block T4 the token's own -/
structure TS (w : World) (R Q : Nat) (s : ByteArray) (k T2 T4 j : Nat) (kd : Int) (tx : ByteArray) (W : World) : Prop where
  t2 : W.heap[T2]? = some (.cells #[.int .u8 0, .string ⟨#[]⟩, .int .i64 0] 41 (0, 0))
  t4 : W.heap[T4]? = some (.cells #[.int .u8 kd, .string tx, .int .i64 k] 41 (0, 0))
  g : w.grownBy W (some Q)
  r : Rdr W R Q s j
  n2 : w.heap.size ≤ T2
  n4 : w.heap.size ≤ T4
  ne : T4 ≠ T2
  r2 : T2 ≠ R ∧ T2 ≠ Q
  r4 : T4 ≠ R ∧ T4 ≠ Q
section
variable {w W W' : World} {R Q k T2 T4 j : Nat} {s : ByteArray} {kd : Int} {tx : ByteArray}
theorem TS.below (h : TS w R Q s k T2 T4 j kd tx W) (hb : Below W.heap.size W W') : TS w R Q s k T2 T4 j kd tx W' :=
  { h with t2 := heap_below hb h.t2 (Array.getElem?_eq_some_iff.1 h.t2).1, t4 := heap_below hb h.t4 (Array.getElem?_eq_some_iff.1 h.t4).1, g := grown_below h.g hb, r := h.r.keep hb }
theorem TS.grown {j' : Nat} (h : TS w R Q s k T2 T4 j kd tx W) (hg : W.grownBy W' (some Q)) (hr : Rdr W' R Q s j') : TS w R Q s k T2 T4 j' kd tx W' :=
  { h with t2 := heap_grown hg h.t2 (by intro e; injection e with e; exact h.r2.2 e), t4 := heap_grown hg h.t4 (by intro e; injection e with e; exact h.r4.2 e), g := World.grownBy.trans h.g hg, r := hr }
theorem TS.kind (h : TS w R Q s k T2 T4 j kd tx W) (kd' : Int) : TS w R Q s k T2 T4 j kd' tx (W.setCell ⟨T4, 0, none⟩ (.int .u8 kd')) :=
  { h with t2 := heap_set_far h.t2 h.ne _ _, t4 := heap_set h.t4 0 _, g := grown_set_far h.g h.n4 _ _, r := h.r.set_far _ h.r4.1 h.r4.2 }
theorem TS.text (h : TS w R Q s k T2 T4 j kd tx W) (tx' : ByteArray) : TS w R Q s k T2 T4 j kd tx' (W.setCell ⟨T4, 1, none⟩ (.string tx')) :=
  { h with t2 := heap_set_far h.t2 h.ne _ _, t4 := heap_set h.t4 1 _, g := grown_set_far h.g h.n4 _ _, r := h.r.set_far _ h.r4.1 h.r4.2 }
theorem TS.tab (h : TS w R Q s k T2 T4 j kd tx W) (ht : AsciiTab w) (hQ : Q ≠ 0) : AsciiTab W := ht.grown h.g hQ
theorem TS.c4 (h : TS w R Q s k T2 T4 j kd tx W) : W.cell? ⟨T4, 0, none⟩ = some (.int .u8 kd) ∧ W.cell? ⟨T4, 1, none⟩ = some (.string tx) ∧ W.cell? ⟨T4, 2, none⟩ = some (.int .i64 k) ∧ W.frozen? ⟨T4, 0, none⟩ = false ∧ W.frozen? ⟨T4, 1, none⟩ = false ∧ W.frozen? ⟨T4, 2, none⟩ = false := cells3 h.t4
theorem TS.c2 (h : TS w R Q s k T2 T4 j kd tx W) : W.cell? ⟨T2, 0, none⟩ = some (.int .u8 0) ∧ W.cell? ⟨T2, 1, none⟩ = some (.string ⟨#[]⟩) ∧ W.cell? ⟨T2, 2, none⟩ = some (.int .i64 0) ∧ W.frozen? ⟨T2, 0, none⟩ = false ∧ W.frozen? ⟨T2, 1, none⟩ = false ∧ W.frozen? ⟨T2, 2, none⟩ = false := cells3 h.t2
end

/-- the token's first rows: where it is; its own block -/
theorem TS.start {w w1 : World} {R Q k : Nat} {s : ByteArray} (h : Rdr w R Q s k) (hb1 : Below (w.alloc (.cells #[.int .u8 0, .string ⟨#[]⟩, .int .i64 0] 41)).heap.size (w.alloc (.cells #[.int .u8 0, .string ⟨#[]⟩, .int .i64 0] 41)) w1) :
    TS w R Q s k w.heap.size w1.heap.size k 0 ⟨#[]⟩ (w1.alloc (.cells #[.int .u8 0, .string ⟨#[]⟩, .int .i64 k] 41)) := by
  have hb0 : Below w.heap.size w (w.alloc (.cells #[.int .u8 0, .string ⟨#[]⟩, .int .i64 0] 41)) := (Below.refl _ w).alloc (Nat.le_refl _) _
  have T2 := heap_alloc_new w (.cells #[.int .u8 0, .string ⟨#[]⟩, .int .i64 0] 41)
  have hbw1 : Below w.heap.size w w1 := hb0.trans (hb1.mono hb0.size)
  have HT2 := heap_below hb1 T2 (by simp)
  have hr1 := h.keep hbw1
  have hb2 : Below w1.heap.size w1 (w1.alloc (.cells #[.int .u8 0, .string ⟨#[]⟩, .int .i64 k] 41)) := (Below.refl _ w1).alloc (Nat.le_refl _) _
  have hl := (Array.getElem?_eq_some_iff.1 HT2).1
  obtain ⟨_, _, _, _, _, _, _, hR0, hQ0⟩ := h.cells
  exact { t2 := heap_below hb2 HT2 hl, t4 := heap_alloc_new w1 _, g := grown_of_below (hbw1.trans (hb2.mono hbw1.size)) _, r := hr1.keep hb2, n2 := Nat.le_refl _, n4 := hbw1.size, ne := by omega, r2 := by omega, r4 := by omega }

/-- the token's last rows -/
theorem TS.fin {w W : World} {R Q k T2 T4 : Nat} {s : ByteArray} {c : UInt8} {kd er en : Nat} {kdI erI : Int} {tx : ByteArray} (h : TS w R Q s k T2 T4 en kdI tx W) (hF : tokenAt s k c = (kd, tx, er, en)) (hkd : kdI = kd) (her : erI = er) (tmps : Array Value) (h2 : tmps.getD 2 undef = .pointer (some ⟨T2, 0, none⟩)) (h3 : tmps.getD 3 undef = .int .i64 erI) :
    bodyPost Tryd.prog Tryd.f26 (TokPost w R Q s k c) .ret ⟨tmps, []⟩ (((W.setCell ⟨T2, 0, none⟩ (.int .u8 kdI)).setCell ⟨T2, 1, none⟩ (.string tx)).setCell ⟨T2, 2, none⟩ (.int .i64 k)) :=
  token_end w W R Q s k c T2 kd er en kdI erI tx _ _ _ h.t2 h.n2 h.r2.1 h.r2.2 h.g h.r hF hkd her tmps h2 h3

set_option maxHeartbeats 1000000 in
theorem token_mark (R Q k : Nat) (s : ByteArray) (w : World) (h : Rdr w R Q s k) (hk : k < s.size) (hs : s.size ≤ 16384)
    (hc : isLow s[k] = false) (hq : (s[k] == 63 || s[k] == 39) = true) :
    Calls Tryd.prog 26 #[.pointer (some ⟨R, 0, none⟩)] w (TokPost w R Q s k s[k]) := by
  have HC := Lib.hid hc
  have HQ := Lib.hid hq
  clear hc hq
  go_enter Tryd.func26, Tryd.ntmps26
  go_wp2_with fail
  refine (at_b R Q k s _ (h.keep ((Below.refl _ w).alloc (Nat.le_refl _) _)) (by omega) hs).mono ?_; rintro e w1 ⟨rfl, hb1⟩
  have S1 := TS.start h hb1
  go_wp2_with fail
  refine (one_at R Q k s _ S1.r hk hs [lettersB] false (by rw [← HC.out]; exact congrFun any_letters s[k]) _ rfl 1 1 rfl (by omega) _ (by simp)).mono ?_
  rintro e w3 ⟨rfl, hb3⟩
  have S3 := S1.below hb3
  clear S1 hb3
  generalize w1.heap.size = T4 at *
  generalize w.heap.size = T2 at S3 ⊢
  go_wp2_with fail
  refine (one_at R Q k s _ S3.r hk hs [⟨#[63, 39]⟩] true (by rw [any_quotes]; exact HQ.out) _ rfl 1 1 rfl (by omega) _ rfl).mono ?_
  rintro e w4 ⟨rfl, hb4⟩
  have S4 := S3.below hb4
  clear S3 hb4
  obtain ⟨c0, c1, c2, f0, f1, f2⟩ := S4.c4
  have S4' := S4.kind 3
  go_wp2_with fail
  have hz := Lib.hid (show (w4.setCell ⟨T4, 0, none⟩ (.int .u8 3)).heap.size = w4.heap.size by simp)
  generalize w4.setCell ⟨T4, 0, none⟩ (.int .u8 3) = w5 at *
  clear c0 c1 c2 f0 f1 f2 S4
  cases h39 : s[k] == 39
  · refine (one_at R Q k s _ S4'.r hk hs [⟨#[39]⟩] false (by rw [any_quote]; exact h39) _ rfl 1 1 rfl (by omega) _ hz.out).mono ?_
    rintro e w6 ⟨rfl, hb6⟩
    have S6 := S4'.below hb6
    have H39 := Lib.hid h39
    clear S4' hb6 h39
    obtain ⟨c0, c1, c2, f0, f1, f2⟩ := S6.c4
    obtain ⟨r0, r1, q0, q1, ⟨p, q2⟩, _⟩ := S6.r.cells
    obtain ⟨p', hQ2⟩ := S6.r.q
    have HQ2 := Lib.hid hQ2
    clear hQ2
    go_wp2_with fail
    refine (readb_any Q k _ s _ HQ2.out hk hs).mono ?_; rintro e w7 ⟨rfl, hg7, hQ7⟩
    have S7 := S6.grown hg7 (S6.r.grown hg7 hQ7)
    clear S6 hg7 hQ7 c0 c1 c2 f0 f1 f2 r0 r1 q0 q1 q2
    go_wp2_with fail
    refine (take_at R Q (k + 1) s _ S7.r (by omega) hs [moreB] isOn any_more _ rfl 1 1 rfl (by omega) _ rfl).mono ?_
    rintro e w8 ⟨rfl, hg8, hr8⟩
    have S8 := S7.grown hg8 hr8
    clear S7 hg8 hr8
    have hle1 := scanTo_le isOn s (k + 1) (by omega)
    have htx : (s.extract (k + 1) (scanTo isOn s (k + 1))).size ≤ 16384 := by rw [ext_size s _ _ hle1]; omega
    have HTA : Hid (tokenAt s k s[k] = (3, s.extract (k + 1) (scanTo isOn s (k + 1)), if namedB (s.extract (k + 1) (scanTo isOn s (k + 1))).data.toList then 0 else 201, scanTo isOn s (k + 1))) := by
      show tokenAt s k s[k] = _
      unfold tokenAt; rw [if_neg (by rw [HC.out]; simp), if_pos HQ.out, if_neg (by rw [H39.out]; simp)]
    generalize scanTo isOn s (k + 1) = en at *
    generalize s.extract (k + 1) en = tx at *
    obtain ⟨c0, c1, c2, f0, f1, f2⟩ := S8.c4
    have S9 := S8.text tx
    obtain ⟨d0, d1, d2, e0, e1, e2⟩ := S9.c4
    obtain ⟨d0', d1', d2', e0', e1', e2'⟩ := S9.c2
    cases hn : namedB tx.data.toList
    · have HF : Hid (tokenAt s k s[k] = (3, tx, 201, en)) := by
        show tokenAt s k s[k] = _
        rw [HTA.out, hn]; rfl
      have HN := Lib.hid hn
      clear HTA hn
      go_wp2_with (first
        | (go_at_call 42; refine (named_any tx _ htx).mono ?_; rintro e w9 ⟨rfl, rfl⟩; rw [HN.out]))
      exact S9.fin HF.out rfl rfl _ rfl rfl
    · have HF : Hid (tokenAt s k s[k] = (3, tx, 0, en)) := by
        show tokenAt s k s[k] = _
        rw [HTA.out, hn]; rfl
      have HN := Lib.hid hn
      clear HTA hn
      go_wp2_with (first
        | (go_at_call 42; refine (named_any tx _ htx).mono ?_; rintro e w9 ⟨rfl, rfl⟩; rw [HN.out]))
      exact S9.fin HF.out rfl rfl _ rfl rfl
  · refine (one_at R Q k s _ S4'.r hk hs [⟨#[39]⟩] true (by rw [any_quote]; exact h39) _ rfl 1 1 rfl (by omega) _ hz.out).mono ?_
    rintro e w6 ⟨rfl, hb6⟩
    have S6' := S4'.below hb6
    have H39 := Lib.hid h39
    clear S4' hb6 h39
    obtain ⟨c0, c1, c2, f0, f1, f2⟩ := S6'.c4
    have S6 := S6'.kind 5
    obtain ⟨r0, r1, q0, q1, ⟨p, q2⟩, _⟩ := S6.r.cells
    obtain ⟨p', hQ2⟩ := S6.r.q
    have HQ2 := Lib.hid hQ2
    clear hQ2
    go_wp2_with fail
    generalize w6.setCell ⟨T4, 0, none⟩ (.int .u8 5) = w6b at *
    refine (readb_any Q k _ s _ HQ2.out hk hs).mono ?_; rintro e w7 ⟨rfl, hg7, hQ7⟩
    have S7 := S6.grown hg7 (S6.r.grown hg7 hQ7)
    clear S6 S6' hg7 hQ7 c0 c1 c2 f0 f1 f2 r0 r1 q0 q1 q2
    go_wp2_with fail
    refine (take_at R Q (k + 1) s _ S7.r (by omega) hs [moreB] isOn any_more _ rfl 1 1 rfl (by omega) _ rfl).mono ?_
    rintro e w8 ⟨rfl, hg8, hr8⟩
    have S8 := S7.grown hg8 hr8
    clear S7 hg8 hr8
    have hle1 := scanTo_le isOn s (k + 1) (by omega)
    have htx : (s.extract (k + 1) (scanTo isOn s (k + 1))).size ≤ 16384 := by rw [ext_size s _ _ hle1]; omega
    have HTA : Hid (tokenAt s k s[k] = (5, s.extract (k + 1) (scanTo isOn s (k + 1)), if namedB (s.extract (k + 1) (scanTo isOn s (k + 1))).data.toList then 0 else 201, scanTo isOn s (k + 1))) := by
      show tokenAt s k s[k] = _
      unfold tokenAt; rw [if_neg (by rw [HC.out]; simp), if_pos HQ.out, if_pos H39.out]
    generalize scanTo isOn s (k + 1) = en at *
    generalize s.extract (k + 1) en = tx at *
    obtain ⟨c0, c1, c2, f0, f1, f2⟩ := S8.c4
    have S9 := S8.text tx
    obtain ⟨d0, d1, d2, e0, e1, e2⟩ := S9.c4
    obtain ⟨d0', d1', d2', e0', e1', e2'⟩ := S9.c2
    cases hn : namedB tx.data.toList
    · have HF : Hid (tokenAt s k s[k] = (5, tx, 201, en)) := by
        show tokenAt s k s[k] = _
        rw [HTA.out, hn]; rfl
      have HN := Lib.hid hn
      clear HTA hn
      go_wp2_with (first
        | (go_at_call 42; refine (named_any tx _ htx).mono ?_; rintro e w9 ⟨rfl, rfl⟩; rw [HN.out]))
      exact S9.fin HF.out rfl rfl _ rfl rfl
    · have HF : Hid (tokenAt s k s[k] = (5, tx, 0, en)) := by
        show tokenAt s k s[k] = _
        rw [HTA.out, hn]; rfl
      have HN := Lib.hid hn
      clear HTA hn
      go_wp2_with (first
        | (go_at_call 42; refine (named_any tx _ htx).mono ?_; rintro e w9 ⟨rfl, rfl⟩; rw [HN.out]))
      exact S9.fin HF.out rfl rfl _ rfl rfl
end Go.Proofs.YtondgnefggglcaaDoor
