/- Several texts joined, each with its own sentence and conditions ahead of it: RdD, RdE. -/
import Derived.Test.YtfpohaipmnjflaaGreatDoorMRA
import Derived.Test.YtfpohaipmnjflaaGreatDoorMZK
/- The document's reader: an expression where something was told; a number, an atom, a variable, an expression in brackets; by contract, given expressions of less fuel. Condition: at most 16385 tokens, each of at most 16384 bytes. (Printed by tools/genRd.py.) -/
namespace Go.Proofs.YtfpohaipmnjflaaGreatDoor
open Go.RowKit

theorem is_kind {ts : List Tok} {σ : PS} {texts : List ByteArray} (h : isM ts σ texts = true) : kdM ts σ = 6 ∨ kdM ts σ = 1 := by
  unfold isM isT at h
  unfold kdM
  simp only [Bool.and_eq_true, Bool.or_eq_true, beq_iff_eq] at h
  exact h.2.1
theorem not_open {ts : List Tok} {σ : PS} {texts : List ByteArray} (h6 : kdM ts σ ≠ 6) (h1 : kdM ts σ ≠ 1) : isM ts σ texts = false := by
  cases h : isM ts σ texts
  · rfl
  · rcases is_kind h with h | h
    · exact absurd h h6
    · exact absurd h h1
theorem want_yes {ts : List Tok} {σ : PS} {x : ByteArray} (hi : isM ts σ [x] = true) : wantM ts σ x = nextM ts σ := by
  have hb : σ.2 = false := by unfold isM at hi; cases hs : σ.2 <;> simp [hs] at hi ⊢
  unfold wantM wantK wantB skipK nextM
  have hi' : (!σ.2 && isT (tokM ts σ.1) [x]) = true := hi
  rw [if_pos hi', hi', hb]; rfl
theorem want_no6 {ts : List Tok} {σ : PS} {x : ByteArray} (hi : isM ts σ [x] = false) : wantM ts σ x = (σ.1, true) := by
  unfold wantM wantK wantB skipK
  have hi' : (!σ.2 && isT (tokM ts σ.1) [x]) = false := hi
  rw [if_neg (by rw [hi']; decide), hi']; rfl
theorem fits_zero6 : Fits zeroT := fits_mk (by omega) (by show (0 : Nat) ≤ 16384; omega) (by omega) (by omega)
set_option maxHeartbeats 1000000 in
theorem rexbad_any {w : World} {P L cap : Nat} {ts : List Tok} {k : Nat} (h : RAt w P L cap ts k true) (lvl : Nat) :
    Calls Tryz.prog 145 #[.pointer (some ⟨P, 0, none⟩), .int .i64 lvl] w (RRes w P L cap ts (zeroT, (k, true))) := by
  obtain ⟨W0, hW0⟩ : ∃ W0, W0 = w.alloc (.cells zeroN 25) := ⟨_, rfl⟩
  have hb0 : Below w.heap.size w W0 := by rw [hW0]; exact (Below.refl _ w).alloc (Nat.le_refl _) _
  have hx : W0.heap[w.heap.size]? = some (.cells zeroN 25 (0, 0)) := by rw [hW0]; exact heap_alloc_new w _
  have H0 := Lib.hid (h.turns hb0)
  have hP := h.lt.1
  have HL := Lib.hid h.lt.2
  have HX := Lib.hid hx
  obtain ⟨_, _, c2, _, _, _⟩ := H0.out.2.cells
  have hl0 : w.heap.size < W0.heap.size := (Array.getElem?_eq_some_iff.1 hx).1
  obtain ⟨a0, a1, a2, a3, a4⟩ := cells5 hx
  have z0 := frozen5 hx 0
  have z1 := frozen5 hx 1
  have z2 := frozen5 hx 2
  have z3 := frozen5 hx 3
  have z4 := frozen5 hx 4
  clear h hb0 hx
  go_enter Tryz.func145, Tryz.ntmps145
  go_upto_region 1 with fail
  change Code.wp _ _ _ _ (w.alloc (.cells zeroN 25))
  rw [← hW0]
  clear hW0
  go_wp2_with fail
  refine ret_node Tryz.results145 rfl (heap_set5 HX.out _ _ _ _ _) rfl ?_
  exact RRes.stored (r := (zeroT, (k, true))) (T := zeroT) (B := W0.heap.size) hP HL.out H0.out (fun _ => rfl) (own_nil _ _) fits_zero6 (Nat.le_refl _) hl0 _ _ _ _ _
/-- expressions at a level, told by the model at a fuel -/
def REx (ts : List Tok) (f : Nat) : Prop := ∀ (lvl : Nat) (σ : PS) (w : World) (P L cap : Nat), lvl ≤ 5 → RAt w P L cap ts σ.1 σ.2 → (ts.length - σ.1) * 7 + (6 - lvl) ≤ f →
  Calls Tryz.prog 145 #[.pointer (some ⟨P, 0, none⟩), .int .i64 lvl] w (RRes w P L cap ts (exM ts f lvl σ))
def RPr (ts : List Tok) (f : Nat) : Prop := ∀ (σ : PS) (w : World) (P L cap : Nat), σ.2 = false → isM ts σ [tMinus, tNot] = false → RAt w P L cap ts σ.1 σ.2 → (ts.length - σ.1) * 7 + 1 ≤ f →
  Calls Tryz.prog 160 #[.pointer (some ⟨P, 0, none⟩)] w (RRes w P L cap ts (exM ts f 5 σ))
set_option maxRecDepth 100000 in
set_option maxHeartbeats 2000000 in
theorem rprim_of {ts : List Tok} (hts : TsOk ts) {f : Nat} (hE : REx ts f) : RPr ts (f + 1) := by
  intro σ w P L cap hb hmn h hf
  have hb0 : Below w.heap.size w (w.alloc (.cells zeroN 25)) := (Below.refl _ w).alloc (Nat.le_refl _) _
  have HC := Lib.hid (rnow6_res (h.below hb0))
  have H0 := Lib.hid (h.turns hb0)
  have hP := h.lt.1
  have HL := Lib.hid h.lt.2
  have HX := Lib.hid (heap_alloc_new w (.cells zeroN 25))
  have HK := Lib.hid h.k
  have HTS := Lib.hid hts
  have HEx := Lib.hid hE
  have HFu := Lib.hid hf
  have hR : exM ts (f + 1) 5 σ = (if isM ts σ [tOpen] = true then ((exM ts f 0 (nextM ts σ)).1, wantM ts (exM ts f 0 (nextM ts σ)).2 tShut)
      else if kdM ts σ = 5 then ofM ts σ 5 15
      else if kdM ts σ = 3 then ofM ts σ 3 13
      else ofM ts σ 4 14) := by
    conv => lhs; unfold exM
    rw [if_neg (by rw [hb]; decide), if_pos rfl, if_neg (by rw [hmn]; decide)]
  obtain ⟨R, hRR⟩ : ∃ R, exM ts (f + 1) 5 σ = R := ⟨_, rfl⟩
  rw [hRR]
  rw [hRR] at hR
  have HR := Lib.hid hR
  have HBad := Lib.hid hb
  clear h hb0 hts hE hf hRR hR hb hmn
  obtain ⟨kd, hkd⟩ : ∃ kd, kdM ts σ = kd := ⟨_, rfl⟩
  rw [hkd] at HC HR
  have HKd := Lib.hid hkd
  clear hkd
  generalize txM ts σ = tx at HC
  generalize atM ts σ = at_ at HC
  go_enter Tryz.func160, Tryz.ntmps160
  go_wp2_with fail
  refine Calls.mono HC.out ?_
  rintro e w1 ⟨rfl, hb1⟩
  have HT1 := Lib.hid (H0.out.of_below hb1)
  have HX1 := Lib.hid (heap_below hb1 HX.out (by simp))
  have hl1 : w.heap.size < w1.heap.size := (Array.getElem?_eq_some_iff.1 HX1.out).1
  clear hb1
  by_cases hk4 : kd = 4
  · subst hk4
    have hRR : R = ofM ts σ 4 14 := by
      rw [HR.out]
      rw [if_neg (by rw [not_open (by rw [HKd.out]; decide) (by rw [HKd.out]; decide)]; decide), if_neg (by decide), if_neg (by decide)]
    have HRR := Lib.hid hRR
    have HCall := Lib.hid (rof6_any HTS.out HT1.out.2 4 14 (by omega))
    have hF := rlex_kind 4 tx at_ w1
    clear hRR
    go_wp2_with fail
    refine Calls.mono HCall.out ?_
    rintro e wZ ⟨TZ, dZ, sZ, rfl, hq, hT, ho, hf⟩
    obtain ⟨pZ, cZ, rfl⟩ := ho.shape
    have HTZ := Lib.hid (HT1.out.trans hT)
    have y0 := hT.box HX1.out hP (Nat.le_refl _)
    have HY0 := Lib.hid y0
    obtain ⟨a0, a1, a2, a3, a4⟩ := cells5 y0
    have z0 := frozen5 y0 0
    have z1 := frozen5 y0 1
    have z2 := frozen5 y0 2
    have z3 := frozen5 y0 3
    have z4 := frozen5 y0 4
    have HO := Lib.hid ho
    have HF := Lib.hid hf
    have HQ := Lib.hid hq
    clear hT y0 ho hf hq
    go_wp2_with fail
    refine ret_node Tryz.results160 rfl (heap_set5 HY0.out _ _ _ _ _) rfl ?_
    rw [HRR.out]
    exact RRes.stored hP HL.out HTZ.out HQ.out HO.out HF.out (Nat.le_refl _) hl1 _ _ _ _ _
  by_cases hk5 : kd = 5
  · subst hk5
    have hRR : R = ofM ts σ 5 15 := by
      rw [HR.out]
      rw [if_neg (by rw [not_open (by rw [HKd.out]; decide) (by rw [HKd.out]; decide)]; decide), if_pos rfl]
    have HRR := Lib.hid hRR
    have HCall := Lib.hid (rof6_any HTS.out HT1.out.2 5 15 (by omega))
    have hF := rlex_kind 5 tx at_ w1
    clear hRR
    go_wp2_with fail
    refine Calls.mono HCall.out ?_
    rintro e wZ ⟨TZ, dZ, sZ, rfl, hq, hT, ho, hf⟩
    obtain ⟨pZ, cZ, rfl⟩ := ho.shape
    have HTZ := Lib.hid (HT1.out.trans hT)
    have y0 := hT.box HX1.out hP (Nat.le_refl _)
    have HY0 := Lib.hid y0
    obtain ⟨a0, a1, a2, a3, a4⟩ := cells5 y0
    have z0 := frozen5 y0 0
    have z1 := frozen5 y0 1
    have z2 := frozen5 y0 2
    have z3 := frozen5 y0 3
    have z4 := frozen5 y0 4
    have HO := Lib.hid ho
    have HF := Lib.hid hf
    have HQ := Lib.hid hq
    clear hT y0 ho hf hq
    go_wp2_with fail
    refine ret_node Tryz.results160 rfl (heap_set5 HY0.out _ _ _ _ _) rfl ?_
    rw [HRR.out]
    exact RRes.stored hP HL.out HTZ.out HQ.out HO.out HF.out (Nat.le_refl _) hl1 _ _ _ _ _
  by_cases hk3 : kd = 3
  · subst hk3
    have hRR : R = ofM ts σ 3 13 := by
      rw [HR.out]
      rw [if_neg (by rw [not_open (by rw [HKd.out]; decide) (by rw [HKd.out]; decide)]; decide), if_neg (by decide), if_pos rfl]
    have HRR := Lib.hid hRR
    have HCall := Lib.hid (rof6_any HTS.out HT1.out.2 3 13 (by omega))
    have hF := rlex_kind 3 tx at_ w1
    clear hRR
    go_wp2_with fail
    refine Calls.mono HCall.out ?_
    rintro e wZ ⟨TZ, dZ, sZ, rfl, hq, hT, ho, hf⟩
    obtain ⟨pZ, cZ, rfl⟩ := ho.shape
    have HTZ := Lib.hid (HT1.out.trans hT)
    have y0 := hT.box HX1.out hP (Nat.le_refl _)
    have HY0 := Lib.hid y0
    obtain ⟨a0, a1, a2, a3, a4⟩ := cells5 y0
    have z0 := frozen5 y0 0
    have z1 := frozen5 y0 1
    have z2 := frozen5 y0 2
    have z3 := frozen5 y0 3
    have z4 := frozen5 y0 4
    have HO := Lib.hid ho
    have HF := Lib.hid hf
    have HQ := Lib.hid hq
    clear hT y0 ho hf hq
    go_wp2_with fail
    refine ret_node Tryz.results160 rfl (heap_set5 HY0.out _ _ _ _ _) rfl ?_
    rw [HRR.out]
    exact RRes.stored hP HL.out HTZ.out HQ.out HO.out HF.out (Nat.le_refl _) hl1 _ _ _ _ _
  have hR := HR.out
  rw [if_neg hk5, if_neg hk3] at hR
  have k4 : ((kd : Int) == 4) = false := by simp; omega
  have k5 : ((kd : Int) == 5) = false := by simp; omega
  have k3 : ((kd : Int) == 3) = false := by simp; omega
  have hF := rlex_kind kd tx at_ w1
  have HW := Lib.hid (rwant6_any HT1.out.2 tOpen (by rw [ByteArray.toList_eq]; decide))
  have key : ∃ r : Tree × PS, (∀ w2, RAt w2 P L cap ts (wantM ts σ tOpen).1 (wantM ts σ tOpen).2 → Calls Tryz.prog 145 #[.pointer (some ⟨P, 0, none⟩), .int .i64 ((0 : Nat) : Int)] w2 (RRes w2 P L cap ts r)) ∧ R.2 = wantM ts r.2 tShut ∧ (R.2.2 = false → r.2.2 = false ∧ R.1 = r.1) := by
    by_cases hi : isM ts σ [tOpen] = true
    · rw [if_pos hi] at hR
      obtain ⟨q1, q2, q3⟩ := next_on HTS.out HK.out hi
      refine ⟨exM ts f 0 (nextM ts σ), fun w2 h2 => ?_, by rw [hR], fun hb => ?_⟩
      · rw [want_yes hi] at h2
        exact HEx.out 0 _ w2 P L cap (by omega) h2 (by rw [q1]; have := HFu.out; omega)
      · rw [hR] at hb ⊢
        exact ⟨want_ok hb, rfl⟩
    · rw [if_neg hi] at hR
      have hi' : isM ts σ [tOpen] = false := by simpa using hi
      have h4 : (ofM ts σ 4 14).2 = (σ.1, true) := by
        have h5 : (σ.2 || (tokM ts σ.1).1 != 4) = true := by
          have : (tokM ts σ.1).1 ≠ 4 := fun h => hk4 (by rw [← HKd.out]; exact h)
          simp [this]
        show (nextK ts.length σ.1 (σ.2 || (tokM ts σ.1).1 != 4), (σ.2 || (tokM ts σ.1).1 != 4)) = _
        rw [h5, nextK_bad]
      refine ⟨(zeroT, (σ.1, true)), fun w2 h2 => ?_, ?_, fun hb => ?_⟩
      · rw [want_no6 hi'] at h2
        exact rexbad_any h2 0
      · rw [hR, h4]
        rw [want_no6 (isM_bad rfl _)]
      · rw [hR, h4] at hb; cases hb
  obtain ⟨r, k1, k2, k6⟩ := key
  have HK1 := Lib.hid k1
  have HK2 := Lib.hid k2
  have HK3 := Lib.hid k6
  clear hR HR k1 k2 k6 hk3 hk4 hk5
  go_wp2_with fail
  refine Calls.mono HW.out ?_
  rintro e w2 ⟨rfl, hT2⟩
  have HT2 := Lib.hid (HT1.out.trans hT2)
  have HX2 := Lib.hid (hT2.box HX1.out hP (Nat.le_refl _))
  have hl2 : w.heap.size < w2.heap.size := (Array.getElem?_eq_some_iff.1 HX2.out).1
  have HCall := Lib.hid (HK1.out w2 HT2.out.2)
  clear hT2 hF
  go_wp2_with fail
  refine Calls.mono HCall.out ?_
  rintro e w3 ⟨T3, d, s, rfl, hq, hT3, ho, hf⟩
  obtain ⟨p, c, rfl⟩ := ho.shape
  have HT3 := Lib.hid (HT2.out.trans hT3)
  have HX3 := Lib.hid (hT3.box HX2.out hP (Nat.le_refl _))
  have hTD := HT3.out.alloc (.cells #[.int .u8 T3.kind, .string T3.text, .int .i64 T3.num, .int .i64 T3.place, .slice p T3.kids.length c] 25)
  have HTD := Lib.hid hTD
  have HN3 := Lib.hid (heap_alloc_new w3 (.cells #[.int .u8 T3.kind, .string T3.text, .int .i64 T3.num, .int .i64 T3.place, .slice p T3.kids.length c] 25))
  have HXD := Lib.hid ((Below.heap_alloc w3 (.cells #[.int .u8 T3.kind, .string T3.text, .int .i64 T3.num, .int .i64 T3.place, .slice p T3.kids.length c] 25) _ (Array.getElem?_eq_some_iff.1 HX3.out).1).trans HX3.out)
  have HOD := Lib.hid (ho.below (fun b hb => hb.2) ((Below.refl _ w3).alloc (Nat.le_refl _) (.cells #[.int .u8 T3.kind, .string T3.text, .int .i64 T3.num, .int .i64 T3.place, .slice p T3.kids.length c] 25)))
  have HW2 := Lib.hid (rwant6_any hTD.2 tShut (by rw [ByteArray.toList_eq]; decide))
  have HF := Lib.hid hf
  have HQ := Lib.hid hq
  have hb23 : w2.heap.size ≤ w3.heap.size := hT3.1.size
  clear hTD hT3 ho hf hq
  go_wp2_with fail
  refine Calls.mono HW2.out ?_
  rintro e w5 ⟨rfl, ht5⟩
  have HT5 := Lib.hid (HTD.out.trans ht5)
  have y0 := ht5.box HXD.out hP (Nat.le_refl _)
  have HY0 := Lib.hid y0
  obtain ⟨a0, a1, a2, a3, a4⟩ := cells5 y0
  have z0 := frozen5 y0 0
  have z1 := frozen5 y0 1
  have z2 := frozen5 y0 2
  have z3 := frozen5 y0 3
  have z4 := frozen5 y0 4
  obtain ⟨m0, m1, m2, m3, m4⟩ := cells5 (ht5.box HN3.out hP (by omega))
  have hO5 : OwnAt w5 d T3.kids (.slice p T3.kids.length c) (Between w2.heap.size w5.heap.size) :=
    (HOD.out.keep fun b o hb ho => grownBy_keep ht5.1 ho (by have := hb.1; omega)).sub fun b hb => ⟨hb.1, Nat.lt_of_lt_of_le hb.2 (by have := ht5.1.size; rw [World.size_alloc] at this; omega)⟩
  have HO5 := Lib.hid hO5
  clear ht5 y0 hO5
  go_wp2_with fail
  refine ret_node Tryz.results160 rfl (heap_set5 HY0.out _ _ _ _ _) rfl ?_
  have hT9 := HT5.out
  rw [← HK2.out] at hT9
  exact RRes.stored hP HL.out hT9 (fun hb => by obtain ⟨x1, x2⟩ := HK3.out hb; rw [x2]; exact HQ.out x1) HO5.out HF.out (Nat.le_refl _) hl2 _ _ _ _ _
end Go.Proofs.YtfpohaipmnjflaaGreatDoor
/- The document's reader: expressions, level by level; by contract. Condition: at most 16385 tokens, each of at most 16384 bytes. (Printed by tools/genRd.py.) -/
namespace Go.Proofs.YtfpohaipmnjflaaGreatDoor
open Go.RowKit

theorem is_two {ts : List Tok} {σ : PS} (a b : ByteArray) : isM ts σ [a, b] = (isM ts σ [a] || isM ts σ [b]) := by
  unfold isM isT
  simp only [List.any_cons, List.any_nil, Bool.or_false]
  cases σ.2 <;> simp [Bool.and_or_distrib_left]
/-- how many tokens are left -/
def leftR (n P : Nat) (w : World) : Nat := match w.cell? ⟨P, 1, none⟩ with | some (.int _ k) => n - k.toNat | _ => 0
theorem RAt.left {w : World} {P L cap : Nat} {ts : List Tok} {k : Nat} {bad : Bool} (h : RAt w P L cap ts k bad) : leftR ts.length P w = ts.length - k := by
  obtain ⟨_, c1, _⟩ := h.cells
  unfold leftR
  rw [c1]
  rfl
/-- of a node that a call has read, while the region goes on -/
def GotR (L0 : Nat) (q : Tree → Prop) (W : World) (xs : List Value) : Prop := ∃ (T : Tree) (d : Nat) (s : Value), xs = [.int .u8 T.kind, .string T.text, .int .i64 T.num, .int .i64 T.place, s] ∧ q T ∧ OwnAt W d T.kids s (Between L0 W.heap.size) ∧ Fits T
theorem GotR.grown {L0 Q : Nat} {q : Tree → Prop} {W W' : World} {xs : List Value} (h : GotR L0 q W xs) (hQ : Q < L0) (hg : W.grownBy W' (some Q)) : GotR L0 q W' xs := by
  obtain ⟨T, d, s, h1, hq, h2, h3⟩ := h
  exact ⟨T, d, s, h1, hq, (h2.keep fun b o hb ho => grownBy_keep hg ho (by have := hb.1; omega)).sub (fun b hb => ⟨hb.1, Nat.lt_of_lt_of_le hb.2 hg.size⟩), h3⟩
/-- of a list of two nodes, in a block of its own -/
def GotR2 (L0 : Nat) (T1 : Tree) (s1 : Value) (q : Tree → Prop) (W : World) (xs : List Value) : Prop := ∃ (T2 : Tree) (d g N : Nat) (s : Value), xs = [.int .i64 g] ∧ q T2 ∧ W.heap[g]? = some (.cells (nodeCells T1 s1 ++ nodeCells T2 s).toArray 25 (0, 0)) ∧ OwnAt W d T2.kids s (Between L0 N) ∧ Fits T2 ∧ L0 ≤ N ∧ N ≤ g
theorem GotR2.grown {L0 Q : Nat} {T1 : Tree} {q : Tree → Prop} {s1 : Value} {W W' : World} {xs : List Value} (h : GotR2 L0 T1 s1 q W xs) (hQ : Q < L0) (hg : W.grownBy W' (some Q)) : GotR2 L0 T1 s1 q W' xs := by
  obtain ⟨T2, d, g, N, s, h1, hq, h2, h3, h4, h5, h6⟩ := h
  exact ⟨T2, d, g, N, s, h1, hq, grownBy_keep hg h2 (by omega), h3.keep fun b o hb ho => grownBy_keep hg ho (by have := hb.1; omega), h4, h5, h6⟩
/-- ahead of a round of the operators of a level -/
def RTwoRel (w : World) (P L cap : Nat) (ts : List Tok) (ex : PS → Tree × PS) (lvl : Nat) (pl : Int) (R : Tree × PS) (b0 b3 k0 : Nat) (wr : World) : Prop :=
  ∃ (g : Nat) (T U : Tree) (σ : PS) (d : Nat) (s : Value), loopM ts ex lvl pl g T σ = R ∧ (σ.2 = false → U = T) ∧ ts.length - σ.1 ≤ g ∧ k0 ≤ σ.1 ∧ RTurns w P L cap ts σ.1 σ.2 wr ∧ wr.heap[b0]? = some (.cells zeroN 25 (0, 0)) ∧
    wr.heap[b3]? = some (.cells (nodeCells U s).toArray 25 (0, 0)) ∧ OwnAt wr d U.kids s (fun b => b0 < b ∧ b < wr.heap.size ∧ b ≠ b3) ∧ Fits U
set_option maxRecDepth 100000 in
set_option maxHeartbeats 4000000 in
theorem rex_of {ts : List Tok} (hts : TsOk ts) {f : Nat} (hPr : RPr ts (f + 1)) (hE : REx ts f) : REx ts (f + 1) := by
  intro lvl σ w P L cap hlvl h hf
  cases hbad : σ.2 with
  | true =>
    have e : exM ts (f + 1) lvl σ = (zeroT, (σ.1, true)) := by
      unfold exM
      rw [if_pos hbad, ← hbad]
    rw [e]
    rw [hbad] at h
    exact rexbad_any h lvl
  | false =>
  obtain ⟨W0, hW0⟩ : ∃ W0, W0 = w.alloc (.cells zeroN 25) := ⟨_, rfl⟩
  have hb0 : Below w.heap.size w W0 := by rw [hW0]; exact (Below.refl _ w).alloc (Nat.le_refl _) _
  have hx : W0.heap[w.heap.size]? = some (.cells zeroN 25 (0, 0)) := by rw [hW0]; exact heap_alloc_new w _
  have H0 := Lib.hid (h.turns hb0)
  have hP := h.lt.1
  have HL := Lib.hid h.lt.2
  have HX := Lib.hid hx
  have HTS := Lib.hid hts
  have HPr := Lib.hid hPr
  have HEx := Lib.hid hE
  have HFu := Lib.hid hf
  have HK := Lib.hid h.k
  have HLv : Hid (lvl ≤ 5) := hlvl
  obtain ⟨R, hRR⟩ : ∃ R, exM ts (f + 1) lvl σ = R := ⟨_, rfl⟩
  rw [hRR]
  have HR := Lib.hid hRR
  obtain ⟨_, _, c2, _, _, _⟩ := H0.out.2.cells
  rw [hbad] at c2
  have hl0 : w.heap.size < W0.heap.size := (Array.getElem?_eq_some_iff.1 hx).1
  have HC := Lib.hid (rnow6_res H0.out.2)
  have hat : 0 ≤ atM ts σ ∧ atM ts σ ≤ 16384 := by
    obtain ⟨_, _, g3⟩ := tokM_ok HTS.out σ.1
    unfold atM
    omega
  have HBad := Lib.hid hbad
  obtain ⟨at_, hatE⟩ : ∃ a, atM ts σ = a := ⟨_, rfl⟩
  obtain ⟨kd, hkd⟩ : ∃ x, kdM ts σ = x := ⟨_, rfl⟩
  obtain ⟨tx, htx⟩ : ∃ x, txM ts σ = x := ⟨_, rfl⟩
  rw [hatE] at hat
  rw [hatE, hkd, htx] at HC
  have HAt := Lib.hid hat
  have HAtE := Lib.hid hatE
  have HTx := Lib.hid htx
  have HNow := Lib.hid (fun W (hW : Below W0.heap.size W0 W) => (rnow6_res (H0.out.2.below hW)).mono fun e w' hh => by rw [hatE, hkd, htx] at hh; exact hh)
  have htxs : tx.size ≤ 16384 := by rw [← htx]; exact (tokM_ok HTS.out σ.1).2.1
  have HTxS := Lib.hid htxs
  clear h hb0 hx hts hPr hE hf hRR hat hatE hkd htx hbad hlvl htxs
  go_enter Tryz.func145, Tryz.ntmps145
  go_upto_region 1 with fail
  change Code.wp _ _ _ _ (w.alloc (.cells zeroN 25))
  rw [← hW0]
  clear hW0
  go_wp2_with fail
  refine Calls.mono HC.out ?_
  rintro e w1 ⟨rfl, hb1⟩
  have HB1 := Lib.hid hb1
  have HT1 := Lib.hid (H0.out.of_below hb1)
  have HX1 := Lib.hid (heap_below hb1 HX.out hl0)
  have hl1 : w.heap.size < w1.heap.size := (Array.getElem?_eq_some_iff.1 HX1.out).1
  have hF := run_lexAt kd tx at_ w1
  clear hb1 c2
  by_cases hl5 : lvl = 5
  · subst hl5
    have HM1 := Lib.hid (ris6_any HT1.out.2 tMinus (by rw [ByteArray.toList_eq]; decide))
    obtain ⟨m1, hm1⟩ : ∃ x, isM ts σ [tMinus] = x := ⟨_, rfl⟩
    obtain ⟨m2, hm2⟩ : ∃ x, isM ts σ [tNot] = x := ⟨_, rfl⟩
    rw [hm1] at HM1
    have HM2 := Lib.hid (fun W (hW : Below w1.heap.size w1 W) => (ris6_any (HT1.out.2.below hW) tNot (by rw [ByteArray.toList_eq]; decide)).mono fun e w' hh => by rw [hm2] at hh; exact hh)
    have h12 : isM ts σ [tMinus, tNot] = (m1 || m2) := by rw [is_two, hm1, hm2]
    have H12 := Lib.hid h12
    clear hm1 hm2 h12
    go_upto_region 5 with fail
    go_cut [24] from 19 to 24 (fun v wx => v = .bool (m1 || m2) ∧ Below w1.heap.size w1 wx)
    case first =>
      go_wp2_with fail
      refine Calls.mono HM1.out ?_
      rintro e w2 ⟨rfl, hb2⟩
      have HB2 := Lib.hid hb2
      clear hb2
      cases m1 with
      | true =>
        go_wp2_with fail
        go_meet
        case rel => exact ⟨rfl, HB2.out⟩
      | false =>
        go_wp2_with fail
        refine Calls.mono (HM2.out w2 HB2.out) ?_
        rintro e w3 ⟨rfl, hb3⟩
        have HB3 := Lib.hid (HB2.out.trans (hb3.mono HB2.out.size))
        clear hb3
        go_wp2_with fail
        go_meet
        case rel => exact ⟨rfl, HB3.out⟩
    case rest =>
      obtain ⟨rfl, hbx⟩ := hcut
      have HTx2 := Lib.hid (HT1.out.of_below hbx)
      have HXx := Lib.hid (heap_below hbx HX1.out hl1)
      have hlx : w.heap.size < wc.heap.size := (Array.getElem?_eq_some_iff.1 HXx.out).1
      have HNx := Lib.hid (HNow.out wc (HB1.out.trans (hbx.mono HB1.out.size)))
      obtain ⟨m, hm⟩ : ∃ x, (m1 || m2) = x := ⟨_, rfl⟩
      rw [hm] at H12 ⊢
      clear hbx hm HM1 HM2 hF
      cases m with
      | true =>
        obtain ⟨q1, q2, q3⟩ := next_on HTS.out HK.out H12.out
        have hR : (.mk 16 tx 0 at_ [(exM ts f 5 (nextM ts σ)).1], (exM ts f 5 (nextM ts σ)).2) = R := by
          rw [← HR.out]
          conv => rhs; unfold exM
          rw [if_neg (by rw [HBad.out]; decide), if_pos rfl, if_pos H12.out, HTx.out, HAtE.out]
        have HR' := Lib.hid hR
        have HCall := Lib.hid (fun W (hW : RAt W P L cap ts (nextM ts σ).1 (nextM ts σ).2) => HEx.out 5 (nextM ts σ) W P L cap (by omega) hW (by rw [q1]; have := HFu.out; omega))
        clear hR HR q1 q2 q3
        generalize exM ts f 5 (nextM ts σ) = r at *
        go_wp2_with fail
        refine Calls.mono HNx.out ?_
        rintro e w3 ⟨rfl, hb3⟩
        have hF := run_lexText kd tx at_ w3
        obtain ⟨W3, hW3⟩ : ∃ W3, W3 = w3.alloc (.cells #[.int .u8 16, .string tx, .int .i64 0, .int .i64 at_, .slice none 0 0] 25) := ⟨_, rfl⟩
        have hbW : Below w3.heap.size w3 W3 := by rw [hW3]; exact (Below.refl _ w3).alloc (Nat.le_refl _) _
        have hx3 : W3.heap[w3.heap.size]? = some (.cells #[.int .u8 16, .string tx, .int .i64 0, .int .i64 at_, .slice none 0 0] 25 (0, 0)) := by rw [hW3]; exact heap_alloc_new w3 _
        have hbb := hb3.trans (hbW.mono hb3.size)
        have HT3 := Lib.hid (HTx2.out.of_below hbb)
        have HX3 := Lib.hid (heap_below hbb HXx.out hlx)
        have HO3 := Lib.hid hx3
        have hl3 : w.heap.size < w3.heap.size := Nat.lt_of_lt_of_le hlx hb3.size
        have HNxt := Lib.hid (rnext6_res HT3.out.2)
        clear hb3 hbW hx3 hbb
        go_upto_region 7 with fail
        change Code.wp _ _ _ _ (w3.alloc (.cells #[.int .u8 16, .string tx, .int .i64 0, .int .i64 at_, .slice none 0 0] 25))
        rw [← hW3]
        clear hW3 hF
        go_wp2_with fail
        refine Calls.mono HNxt.out ?_
        rintro e w4 ⟨rfl, hT4⟩
        have HT4 := Lib.hid (HT3.out.trans hT4)
        have HX4 := Lib.hid (hT4.box HX3.out hP (Nat.le_refl _))
        have HO4 := Lib.hid (hT4.box HO3.out hP (Nat.le_of_lt hl3))
        have hl4 : w3.heap.size < w4.heap.size := (Array.getElem?_eq_some_iff.1 HO4.out).1
        have HCl := Lib.hid (HCall.out w4 HT4.out.2)
        clear hT4
        go_wp2_with fail
        refine Calls.mono HCl.out ?_
        rintro e w5 ⟨T5, d, s, rfl, hq, hT5, ho, hf⟩
        obtain ⟨p, c, rfl⟩ := ho.shape
        have HT5 := Lib.hid (HT4.out.trans hT5)
        have hl5 : w4.heap.size ≤ w5.heap.size := hT5.1.size
        have hX5 := hT5.box HX4.out hP (Nat.le_refl _)
        have hO5 := hT5.box HO4.out hP (Nat.le_of_lt hl3)
        have hl35 : w3.heap.size < w5.heap.size := by omega
        obtain ⟨WA, hWA⟩ : ∃ WA, WA = w5.setCell ⟨w3.heap.size, 4, none⟩ (.slice (some ⟨w5.heap.size, 0, none⟩) 1 1) := ⟨_, rfl⟩
        have hsA : WA.heap.size = w5.heap.size := by rw [hWA]; simp [World.setCell]
        have hA : ∀ b, b ≠ w3.heap.size → WA.heap[b]? = w5.heap[b]? := fun b hb => by rw [hWA]; exact Below.heap_setCell w5 ⟨w3.heap.size, 4, none⟩ _ b hb
        obtain ⟨W6, hW6⟩ : ∃ W6, W6 = WA.alloc (.cells (nodeCells T5 (.slice p T5.kids.length c)).toArray 25) := ⟨_, rfl⟩
        have hbW : Below WA.heap.size WA W6 := by rw [hW6]; exact (Below.refl _ WA).alloc (Nat.le_refl _) _
        have hx6 : W6.heap[w5.heap.size]? = some (.cells (nodeCells T5 (.slice p T5.kids.length c)).toArray 25 (0, 0)) := by rw [hW6, ← hsA]; exact heap_alloc_new WA _
        have hTA : RTurns w P L cap ts r.2.1 r.2.2 WA := by rw [hWA]; exact HT5.out.setCell hP HL.out (Nat.le_of_lt hl3) 4 _
        have HT7 := Lib.hid (hTA.of_below hbW)
        have y0 := heap_below hbW ((hA w.heap.size (by omega)).trans hX5) (by omega)
        have y1 : W6.heap[w3.heap.size]? = some (.cells #[.int .u8 16, .string tx, .int .i64 0, .int .i64 at_, .slice (some ⟨w5.heap.size, 0, none⟩) 1 1] 25 (0, 0)) := heap_below hbW (by rw [hWA]; exact heap_set hO5 4 _) (by omega)
        have hoA := ho.keep fun b o hb ho => (hA b (by have := hb.1; omega)).trans ho
        have hL : GotL w4.heap.size T5 W6 [.int .i64 w5.heap.size] := ⟨d, w5.heap.size, w5.heap.size, _, rfl, hx6, hoA.below (fun b hb => by rw [hsA]; exact hb.2) hbW, hf, hl5, Nat.le_refl _⟩
        obtain ⟨d6, g6, hg6, ho6⟩ := hL.own
        have h9 : (w5.heap.size : Int) = g6 := by simpa using hg6
        obtain rfl : w5.heap.size = g6 := by omega
        have HK7 := Lib.hid ho6
        have HQ := Lib.hid hq
        obtain ⟨e0, e1, e2, e3, e4⟩ := cells5 hO5
        have x4 := frozen5 hO5 4
        have HF := Lib.hid hf
        have HY0 := Lib.hid y0
        have HY1 := Lib.hid y1
        have HW6 := Lib.hid hW6
        have HWA := Lib.hid hWA
        clear hT5 ho hf hX5 hO5 hbW hx6 hL hg6 ho6 hq hA hsA hTA y0 y1 hoA hW6 hWA h9
        go_upto_region 9 with fail
        change Code.wp _ _ _ _ ((w5.setCell ⟨w3.heap.size, 4, none⟩ (.slice (some ⟨w5.heap.size, 0, none⟩) 1 1)).alloc (.cells (nodeCells T5 (.slice p T5.kids.length c)).toArray 25))
        rw [← HWA.out, ← HW6.out]
        clear HWA HW6 e0 e1 e2 e3 e4 x4
        obtain ⟨a0, a1, a2, a3, a4⟩ := cells5 HY0.out
        have z0 := frozen5 HY0.out 0
        have z1 := frozen5 HY0.out 1
        have z2 := frozen5 HY0.out 2
        have z3 := frozen5 HY0.out 3
        have z4 := frozen5 HY0.out 4
        obtain ⟨e0, e1, e2, e3, e4⟩ := cells5 HY1.out
        go_wp2_with fail
        refine ret_node Tryz.results145 rfl (heap_set5 HY0.out _ _ _ _ _) rfl ?_
        rw [← HR'.out]
        exact RRes.stored (r := (.mk 16 tx 0 at_ [r.1], r.2)) (T := .mk 16 tx 0 at_ [T5]) hP HL.out HT7.out (fun hb => by rw [HQ.out hb]) HK7.out (fits_mk (by omega) HTxS.out HAt.out.1 HAt.out.2) (Nat.le_refl _) (Nat.lt_of_lt_of_le hl3 (Nat.le_of_lt hl4)) _ _ _ _ _
      | false =>
        have hR : exM ts (f + 1) 5 σ = R := HR.out
        have HPc := Lib.hid (HPr.out σ wc P L cap HBad.out H12.out HTx2.out.2 (by have := HFu.out; omega))
        rw [hR] at HPc
        go_wp2_with fail
        refine Calls.mono HPc.out ?_
        rintro e wZ ⟨TZ, dZ, sZ, rfl, hq, hT, ho, hf⟩
        obtain ⟨pZ, cZ, rfl⟩ := ho.shape
        have HTZ := Lib.hid (HTx2.out.trans hT)
        have y0 := hT.box HXx.out hP (Nat.le_refl _)
        have HY0 := Lib.hid y0
        obtain ⟨a0, a1, a2, a3, a4⟩ := cells5 y0
        have z0 := frozen5 y0 0
        have z1 := frozen5 y0 1
        have z2 := frozen5 y0 2
        have z3 := frozen5 y0 3
        have z4 := frozen5 y0 4
        have HO := Lib.hid ho
        have HF := Lib.hid hf
        have HQ := Lib.hid hq
        clear hT y0 ho hf hq
        go_wp2_with fail
        refine ret_node Tryz.results145 rfl (heap_set5 HY0.out _ _ _ _ _) rfl ?_
        exact RRes.stored hP HL.out HTZ.out HQ.out HO.out HF.out (Nat.le_refl _) hlx _ _ _ _ _
  have hR : loopM ts (exM ts f (lvl + 1)) lvl at_ ts.length (exM ts f (lvl + 1) σ).1 (exM ts f (lvl + 1) σ).2 = R := by
    rw [← HR.out]
    conv => rhs; unfold exM
    rw [if_neg (by rw [HBad.out]; decide), if_neg hl5, HAtE.out]
  have hlt : lvl < 5 := by have := HLv.out; omega
  have hl5' : ((lvl : Int) == 5) = false := by simp; omega
  have HLt := Lib.hid hlt
  have HCall0 := Lib.hid (HEx.out (lvl + 1) σ w1 P L cap (by omega) HT1.out.2 (by have := HFu.out; omega))
  rw [Int.natCast_succ] at HCall0
  have HCall : Hid (∀ (σ : PS) (W : World), RAt W P L cap ts σ.1 σ.2 → (ts.length - σ.1) * 7 + (6 - (lvl + 1)) ≤ f → Calls Tryz.prog 145 #[.pointer (some ⟨P, 0, none⟩), .int .i64 (lvl + 1)] W (RRes W P L cap ts (exM ts f (lvl + 1) σ))) := by
    intro σ W h1 h2
    have := HEx.out (lvl + 1) σ W P L cap (by omega) h1 h2
    rw [Int.natCast_succ] at this
    exact this
  have HGe : Hid (∀ σ, σ.1 ≤ (exM ts f (lvl + 1) σ).2.1) := fun σ => exM_ge ts f (lvl + 1) σ
  have HFu' : Hid ((ts.length - σ.1) * 7 + (6 - (lvl + 1)) ≤ f) := by show _ ≤ _; have := HFu.out; omega
  have HSt : Hid (σ.1 ≤ (exM ts f (lvl + 1) σ).2.1) := HGe.out σ
  have HR' := Lib.hid hR
  clear hR hl5 HR HEx HPr HFu HNow HAtE HTx HBad
  generalize exM ts f (lvl + 1) = ex at *
  generalize ex σ = r at *
  go_wp2_with fail
  refine Calls.mono HCall0.out ?_
  rintro e w4 ⟨U4, d, s, rfl, hq, hT4, ho, hf⟩
  obtain ⟨p, c, rfl⟩ := ho.shape
  obtain ⟨W4, hW4⟩ : ∃ W4, W4 = w4.alloc (.cells (nodeCells U4 (.slice p U4.kids.length c)).toArray 25) := ⟨_, rfl⟩
  have hBW : Below w4.heap.size w4 W4 := by rw [hW4]; exact (Below.refl _ w4).alloc (Nat.le_refl _) _
  have hNW : W4.heap[w4.heap.size]? = some (.cells (nodeCells U4 (.slice p U4.kids.length c)).toArray 25 (0, 0)) := by rw [hW4]; exact heap_alloc_new w4 _
  have hl4 : w1.heap.size ≤ w4.heap.size := hT4.1.size
  have hX4 := hT4.box HX1.out hP (Nat.le_refl _)
  have HRel : Hid (RTwoRel w P L cap ts ex lvl at_ R w.heap.size w4.heap.size σ.1 W4) := by
    refine ⟨ts.length, r.1, U4, r.2, d, .slice p U4.kids.length c, HR'.out, hq, Nat.sub_le _ _, HSt.out, (HT1.out.trans hT4).of_below hBW, heap_below hBW hX4 (by omega), hNW, ?_, hf⟩
    refine (ho.below (fun b hb => hb.2) hBW).sub fun b hb => ?_
    have h1 := hb.1
    have h2 := hb.2
    have h3 : w4.heap.size < W4.heap.size := (Array.getElem?_eq_some_iff.1 hNW).1
    exact ⟨by omega, by omega, by omega⟩
  have hl14 : w.heap.size < w4.heap.size := by omega
  have HWd := Lib.hid hW4
  clear hBW hNW hX4 hT4 ho hf hl4 hq hW4 HR' HX1 HT1 HCall0 HB1 hF hl5'
  go_upto_region 12 with fail
  change Code.wp _ _ _ _ (w4.alloc (.cells (nodeCells U4 (.slice p U4.kids.length c)).toArray 25))
  rw [← HWd.out]
  clear HWd
  go_loopw [] (fun wr => RTwoRel w P L cap ts ex lvl at_ R w.heap.size w4.heap.size σ.1 wr) (fun wr => leftR ts.length P wr)
  case atStart => exact HRel.out
  case round =>
    clear HRel W4
    obtain ⟨g, T, U, σ1, d1, s1, hloop, hU, hg, hk0, hT, hx0, hx3, ho, hf⟩ := hrel
    obtain ⟨p1, c1, rfl⟩ := ho.shape
    have HT := Lib.hid hT
    have HO := Lib.hid ho
    have HF := Lib.hid hf
    have HU := Lib.hid hU
    have HX0 := Lib.hid hx0
    have HX3 := Lib.hid hx3
    have HLoop := Lib.hid hloop
    have HG := Lib.hid hg
    have HK0 := Lib.hid hk0
    have hb3l : w4.heap.size < wr.heap.size := (Array.getElem?_eq_some_iff.1 hx3).1
    clear hT ho hf hU hx0 hx3 hloop hg hk0
    have HOp := Lib.hid (roper6_any HT.out.2 lvl hlt)
    obtain ⟨b, hb⟩ : ∃ b, isM ts σ1 (lvl6 lvl) = b := ⟨_, rfl⟩
    rw [hb] at HOp
    have HB := Lib.hid hb
    clear hb
    go_wp2_with fail
    refine Calls.mono HOp.out ?_
    rintro e W2 ⟨rfl, hb2⟩
    have HB2 := Lib.hid hb2
    have hlW : wr.heap.size ≤ W2.heap.size := hb2.size
    have HT2 := Lib.hid (HT.out.of_below hb2)
    have HY0 := Lib.hid (heap_below hb2 HX0.out (by omega))
    have HY3 := Lib.hid (heap_below hb2 HX3.out hb3l)
    have HO2 := Lib.hid (HO.out.below (fun b hb => hb.2.1) hb2)
    clear hb2
    cases b with
    | false =>
      have hRR : (T, σ1) = R := by
        rw [← HLoop.out]
        cases g with
        | zero => rfl
        | succ g => unfold loopM; rw [if_neg (by rw [HB.out]; decide)]
      have HRR := Lib.hid hRR
      obtain ⟨a0, a1, a2, a3, a4⟩ := cells5 HY0.out
      have z0 := frozen5 HY0.out 0
      have z1 := frozen5 HY0.out 1
      have z2 := frozen5 HY0.out 2
      have z3 := frozen5 HY0.out 3
      have z4 := frozen5 HY0.out 4
      obtain ⟨d0, d1', d2, d3, d4⟩ := cells5 HY3.out
      clear hRR
      go_wp2_with fail
      refine ret_node Tryz.results145 rfl (heap_set5 HY0.out _ _ _ _ _) rfl ?_
      rw [← HRR.out]
      exact RRes.stored (r := (T, σ1)) (B := w.heap.size + 1) hP HL.out HT2.out HU.out (HO2.out.sub (fun b hb => ⟨hb.1, Nat.lt_of_lt_of_le hb.2.1 hlW⟩)) HF.out (Nat.le_refl _) (by omega) _ _ _ _ _
    | true =>
      obtain ⟨q1, q2, q3⟩ := next_on HTS.out HT.out.2.k HB.out
      obtain rfl : U = T := HU.out q2
      have HNow2 := Lib.hid (rnow6_res HT2.out.2)
      obtain ⟨tx2, htx2⟩ : ∃ t, txM ts σ1 = t := ⟨_, rfl⟩
      rw [htx2] at HNow2
      have HTx := Lib.hid htx2
      generalize kdM ts σ1 = kd2 at HNow2
      generalize atM ts σ1 = at2 at HNow2
      clear htx2
      go_wp2_with fail
      refine Calls.mono HNow2.out ?_
      rintro e w5 ⟨rfl, hb5⟩
      have hFT := run_lexText kd2 tx2 at2 w5
      have hl5' : W2.heap.size ≤ w5.heap.size := hb5.size
      obtain ⟨w6, hw6⟩ : ∃ w6, w6 = w5.alloc (.cells #[.int .u8 16, .string tx2, .int .i64 0, .int .i64 at_, .slice none 0 0] 25) := ⟨_, rfl⟩
      have hb6 : Below w5.heap.size w5 w6 := by rw [hw6]; exact (Below.refl _ w5).alloc (Nat.le_refl _) _
      have HN6 : Hid (w6.heap[w5.heap.size]? = some (.cells #[.int .u8 16, .string tx2, .int .i64 0, .int .i64 at_, .slice none 0 0] 25 (0, 0))) := by show _ = _; rw [hw6]; exact heap_alloc_new w5 _
      have hb26 : Below W2.heap.size W2 w6 := hb5.trans (hb6.mono hb5.size)
      have hl6 : w5.heap.size < w6.heap.size := (Array.getElem?_eq_some_iff.1 HN6.out).1
      have HT6 := Lib.hid (HT2.out.of_below hb26)
      have HZ0 := Lib.hid (heap_below hb26 HY0.out (by omega))
      have HZ3 := Lib.hid (heap_below hb26 HY3.out (by omega))
      have HO6 := Lib.hid (HO2.out.below (fun b hb => Nat.lt_of_lt_of_le hb.2.1 hlW) hb26)
      have HNx := Lib.hid (rnext6_res HT6.out.2)
      have HW6 := Lib.hid hw6
      clear hb5 hb6 hb26 hw6
      go_upto_region 14 with fail
      change Code.wp _ _ _ _ (w5.alloc (.cells #[.int .u8 16, .string tx2, .int .i64 0, .int .i64 at_, .slice none 0 0] 25))
      rw [← HW6.out]
      clear HW6
      go_wp2_with fail
      refine Calls.mono HNx.out ?_
      rintro e w7 ⟨rfl, hT7⟩
      have HT7 := Lib.hid (HT6.out.trans hT7)
      have hl7 : w6.heap.size ≤ w7.heap.size := hT7.1.size
      have HU0 := Lib.hid (hT7.box HZ0.out hP (Nat.le_refl _))
      have HU3 := Lib.hid (hT7.box HZ3.out hP (by omega))
      have HU8 := Lib.hid (hT7.box HN6.out hP (by omega))
      have HO7 := Lib.hid (HO6.out.keep fun b o hb ho => grownBy_keep hT7.1 ho (by have := hb.1; omega))
      have HC2 := Lib.hid (HCall.out (nextM ts σ1) w7.drew HT7.out.2.drew (by rw [q1]; have := HFu'.out; have := HK0.out; omega))
      have hge := HGe.out (nextM ts σ1)
      rw [q1] at hge
      have HGt := Lib.hid hge
      have HK1 := Lib.hid (show σ.1 ≤ (ex (nextM ts σ1)).2.1 by have := HK0.out; omega)
      obtain ⟨g', hg', hR2⟩ : ∃ g', ts.length - (ex (nextM ts σ1)).2.1 ≤ g' ∧ (if lvl = 2 then (.mk 16 tx2 0 at_ [U, (ex (nextM ts σ1)).1], (ex (nextM ts σ1)).2) else loopM ts ex lvl at_ g' (.mk 16 tx2 0 at_ [U, (ex (nextM ts σ1)).1]) (ex (nextM ts σ1)).2) = R := by
        have h1 := HLoop.out
        have h2 := HG.out
        cases g with
        | zero => omega
        | succ g =>
          refine ⟨g, by omega, ?_⟩
          unfold loopM at h1
          rw [if_pos HB.out, HTx.out] at h1
          exact h1
      have HG' := Lib.hid hg'
      have HR2 := Lib.hid hR2
      clear hg' hR2 hge q1 q2 q3 hT7
      generalize ex (nextM ts σ1) = r2 at *
      have HTxS2 : Hid (tx2.size ≤ 16384) := by show _ ≤ _; rw [← HTx.out]; exact (tokM_ok HTS.out σ1.1).2.1
      obtain ⟨d0, d1', d2, d3, d4⟩ := cells5 HU3.out
      have hbP : w4.heap.size ≠ P := by omega
      have C0 := fun x : RE.Gr w7 P => x.cell d0 hbP
      have C1 := fun x : RE.Gr w7 P => x.cell d1' hbP
      have C2 := fun x : RE.Gr w7 P => x.cell d2 hbP
      have C3 := fun x : RE.Gr w7 P => x.cell d3 hbP
      have C4 := fun x : RE.Gr w7 P => x.cell d4 hbP
      have hP7 : P < w7.heap.size := by omega
      clear d0 d1' d2 d3 d4 hFT
      go_wp2_with fail
      refine RE.wp_region_eff (by kernel_rfl) 6 [4, 5] [4, 5] (fun s W => if s = 0 then W = w7.drew else RTurns w7 P L cap ts r2.2.1 r2.2.2 W) (fun W W' => W.grownBy W' (some P))
        (fun i xs => if i = 4 then .agg #[xs.getD 0 undef, xs.getD 1 undef, xs.getD 2 undef, xs.getD 3 undef, xs.getD 4 undef] else .slice (some ⟨RE.natOf xs, 0, none⟩) 2 2)
        (fun i W xs => if i = 4 then GotR w7.heap.size (fun V => r2.2.2 = false → V = r2.1) W xs else GotR2 w7.heap.size U (.slice p1 U.kids.length c1) (fun V => r2.2.2 = false → V = r2.1) W xs) (by kernel_rfl) (fun i h1 h2 => by rw [h1] at h2; cases h2) ?_ rfl ?_
      · intro k W W' xs h _ hg
        split at h
        · rw [if_pos (by assumption)]; exact h.grown hP7 hg
        · rw [if_neg (by assumption)]; exact h.grown hP7 hg
      simp only [List.take_succ_cons, List.take_zero, List.drop_succ_cons, List.drop_zero, List.length_cons, List.length_nil, Nat.reduceAdd]
      have hcl : ∀ (n s : Nat) (W : World), s ≤ n → (if s = 0 then W = w7.drew else RTurns w7 P L cap ts r2.2.1 r2.2.2 W) → ∃ x : RE.Gr w7 P, W = x.1 := fun n s W _ h => by
        split at h
        · exact ⟨⟨W, by rw [h]; exact grown_drewN (World.grownBy.refl w7 _) 1⟩, rfl⟩
        · exact ⟨⟨W, h.1⟩, rfl⟩
      have HCl := Lib.hid hcl
      clear hcl
      repeat (refine RE.wpE_read (fun W => ∃ x : RE.Gr w7 P, W = x.1) (HCl.out _) rfl rfl rfl rfl ?_; go_big_quiet_step (fail); refine wpQuiet_nil ?_)
      refine RE.wpE_turn rfl rfl ?_ (fun xs4 => ?_)
      · intro W _ hS _
        obtain rfl : W = w7.drew := hS rfl
        refine RE.upon_call 145 _ _ rfl (enters_of Tryz.func145 (by kernel_rfl) rfl) #[.pointer (some ⟨P, 0, none⟩), .int .i64 (lvl + 1)] (by simp [Act.eval]) (HC2.out.mono ?_)
        rintro e W' ⟨V, d, s, rfl, hq, hT, ho, hf⟩
        exact ⟨_, rfl, [.int .u8 V.kind, .string V.text, .int .i64 V.num, .int .i64 V.place, s], rfl, hT.of_drew, hT.1, ⟨V, d, s, rfl, hq, ho, hf⟩⟩
      simp only [Act.put, List.setIfInBounds_toArray, List.set_cons_zero, List.set_cons_succ]
      refine RE.wpE_turn rfl rfl ?_ (fun xs5 => ?_)
      · intro W _ hS hφ
        have hT : RTurns w7 P L cap ts r2.2.1 r2.2.2 W := hS rfl
        obtain ⟨V, d, s, rfl, hq, ho, hf⟩ : GotR w7.heap.size (fun V => r2.2.2 = false → V = r2.1) W xs4 := hφ 4 xs4 (by kernel_rfl) rfl
        obtain ⟨p, c, rfl⟩ := ho.shape
        refine RE.Upon.told (v := .slice (some ⟨W.heap.size, 0, none⟩) 2 2) (w' := W.alloc (.cells (nodeCells U (.slice p1 U.kids.length c1) ++ nodeCells V (.slice p V.kids.length c)).toArray 25)) ?_ ⟨[.int .i64 W.heap.size], rfl, hT.alloc _, ?_, ?_⟩
        · unfold RE.Upon
          go_simp
          rfl
        · exact grown_of_below ((Below.refl _ W).alloc (Nat.le_refl _) _) _
        · refine ⟨V, d, W.heap.size, W.heap.size, _, rfl, hq, heap_alloc_new W _, ?_, hf, hT.1.size, Nat.le_refl _⟩
          exact ho.below (fun b hb => hb.2) ((Below.refl _ W).alloc (Nat.le_refl _) _)
      simp only [Act.put, List.setIfInBounds_toArray, List.set_cons_zero, List.set_cons_succ]
      refine RE.wpE_nil ?_
      intro W3 hS hE
      have hT3 : RTurns w7 P L cap ts r2.2.1 r2.2.2 W3 := hS
      obtain ⟨V, d, gg, N, s2, rfl, hq2, hgg, ho2, hf2, hN1, hN2⟩ := (show GotR2 w7.heap.size U (.slice p1 U.kids.length c1) (fun V => r2.2.2 = false → V = r2.1) W3 xs5 from hE 5 xs5 rfl)
      have hggl : gg < W3.heap.size := (Array.getElem?_eq_some_iff.1 hgg).1
      have hle3 : w7.heap.size ≤ W3.heap.size := hT3.1.size
      have HT3 := Lib.hid (HT7.out.trans hT3)
      have HV0 := Lib.hid (hT3.box HU0.out hP (Nat.le_refl _))
      have HV3 := Lib.hid (hT3.box HU3.out hP (by omega))
      have HV8 := Lib.hid (hT3.box HU8.out hP (by omega))
      have hO3 := HO7.out.keep fun b o hb ho => grownBy_keep hT3.1 ho (by have := hb.1; omega)
      have HTwo : Hid (OwnAt W3 (d1 + d + 1) [U, V] (.slice (some ⟨gg, 0, none⟩) 2 2) (fun b => w.heap.size < b ∧ b < W3.heap.size ∧ b ≠ w4.heap.size ∧ b ≠ w5.heap.size)) := by
        refine own_two hO3 ho2 HF.out hf2 hgg ⟨by omega, hggl, by omega, by omega⟩ (fun b hb => ?_) (fun b hb => ?_) (fun b hb hb2 => ?_)
        · exact ⟨⟨hb.1, by have := hb.2.1; omega, hb.2.2, by have := hb.2.1; omega⟩, by have := hb.2.1; omega⟩
        · exact ⟨⟨by have := hb.1; omega, by have := hb.2; omega, by have := hb.1; omega, by have := hb.1; omega⟩, by have := hb.2; omega⟩
        · have := hb.2.1; have := hb2.1; omega
      obtain ⟨sl, hsl⟩ : ∃ sl, sl = Value.slice (some ⟨gg, 0, none⟩) 2 2 := ⟨_, rfl⟩
      obtain ⟨Wn, hWn⟩ : ∃ Wn, Wn = set5 (W3.setCell ⟨w5.heap.size, 4, none⟩ sl) w4.heap.size (.int .u8 16) (.string tx2) (.int .i64 0) (.int .i64 at_) sl := ⟨_, rfl⟩
      have hszN : Wn.heap.size = W3.heap.size := by rw [hWn, set5_size]; simp [World.setCell]
      have hother : ∀ b, b ≠ w4.heap.size → b ≠ w5.heap.size → Wn.heap[b]? = W3.heap[b]? := fun b h1 h2 => by rw [hWn, set5_other h1]; exact Below.heap_setCell _ _ _ b h2
      have HTn := Lib.hid (show RTurns w P L cap ts r2.2.1 r2.2.2 Wn by rw [hWn]; exact (HT3.out.setCell hP HL.out (by omega) 4 sl).set5 hP HL.out (by omega) _ _ _ _ _)
      have HNn0 := Lib.hid ((hother w.heap.size (by omega) (by omega)).trans HV0.out)
      have HNn3 : Hid (Wn.heap[w4.heap.size]? = some (.cells (nodeCells (.mk 16 tx2 0 at_ [U, V]) sl).toArray 25 (0, 0))) := by
        show _ = _
        rw [hWn]
        exact heap_set5 ((Below.heap_setCell _ _ _ _ (show w4.heap.size ≠ w5.heap.size by omega)).trans HV3.out) _ _ _ _ _
      have HOn : Hid (OwnAt Wn (d1 + d + 1) [U, V] sl (fun b => w.heap.size < b ∧ b < Wn.heap.size ∧ b ≠ w4.heap.size)) := by
        rw [hsl]
        exact (HTwo.out.keep fun b o hb ho => (hother b hb.2.2.1 hb.2.2.2).trans ho).sub fun b hb => ⟨hb.1, by rw [hszN]; exact hb.2.1, hb.2.2.1⟩
      have hfn : Fits (.mk 16 tx2 0 at_ [U, V]) := fits_mk (by omega) HTxS2.out HAt.out.1 HAt.out.2
      have HFn := Lib.hid hfn
      have hmeas : leftR ts.length P Wn < leftR ts.length P wr := by
        rw [HTn.out.2.left, HT.out.2.left]
        have := HGt.out
        have := HTn.out.2.k
        omega
      have HMeas := Lib.hid hmeas
      have HQ2 : Hid (r2.2.2 = false → Tree.mk 16 tx2 0 at_ [U, V] = .mk 16 tx2 0 at_ [U, r2.1]) := fun hb => by rw [hq2 hb]
      have y3 := HV3.out
      have y8 := HV8.out
      obtain ⟨d0, d1', d2, d3, d4⟩ := cells5 y3
      have z0 := frozen5 y3 0
      have z1 := frozen5 y3 1
      have z2 := frozen5 y3 2
      have z3 := frozen5 y3 3
      have z4 := frozen5 y3 4
      obtain ⟨e0, e1, e2, e3, e4⟩ := cells5 y8
      have x4 := frozen5 y8 4
      have hne : (w4.heap.size = w5.heap.size) = False := by simp; omega
      have hne2 : (w5.heap.size = w4.heap.size) = False := by simp; omega
      clear C0 C1 C2 C3 C4 hE hS hT3 hO3 ho2 hf2 hgg y3 y8 hother hmeas hfn hszN hq2
      subst hsl
      have HWn := Lib.hid hWn
      clear hWn hne hne2
      go_upto_region 17 with fail
      change Code.wp _ _ _ _ (set5 (W3.setCell ⟨w5.heap.size, 4, none⟩ (.slice (some ⟨gg, 0, none⟩) 2 2)) w4.heap.size (.int .u8 16) (.string tx2) (.int .i64 0) (.int .i64 at_) (.slice (some ⟨gg, 0, none⟩) 2 2))
      rw [← HWn.out]
      clear HWn d0 d1' d2 d3 d4 z0 z1 z2 z3 z4 e0 e1 e2 e3 e4 x4
      by_cases hl2 : lvl = 2
      · have hR := HR2.out
        rw [if_pos hl2] at hR
        have HRR := Lib.hid hR
        have hl2b : ((lvl : Int) == 2) = true := by simp; omega
        obtain ⟨a0, a1, a2, a3, a4⟩ := cells5 HNn0.out
        have z0 := frozen5 HNn0.out 0
        have z1 := frozen5 HNn0.out 1
        have z2 := frozen5 HNn0.out 2
        have z3 := frozen5 HNn0.out 3
        have z4 := frozen5 HNn0.out 4
        obtain ⟨d0, d1', d2, d3, d4⟩ := cells5 HNn3.out
        clear hR hl2
        go_wp2_with fail
        refine ret_node Tryz.results145 rfl (heap_set5 HNn0.out _ _ _ _ _) rfl ?_
        rw [← HRR.out]
        exact RRes.stored (r := (.mk 16 tx2 0 at_ [U, r2.1], r2.2)) (T := .mk 16 tx2 0 at_ [U, V]) (B := w.heap.size + 1) hP HL.out HTn.out HQ2.out (HOn.out.sub (fun b hb => ⟨hb.1, hb.2.1⟩)) HFn.out (Nat.le_refl _) (by omega) _ _ _ _ _
      · have hR := HR2.out
        rw [if_neg hl2] at hR
        have hRel : RTwoRel w P L cap ts ex lvl at_ R w.heap.size w4.heap.size σ.1 Wn :=
          ⟨g', _, _, r2.2, _, _, hR, HQ2.out, HG'.out, HK1.out, HTn.out, HNn0.out, HNn3.out, HOn.out, HFn.out⟩
        have HRel := Lib.hid hRel
        have hl2b : ((lvl : Int) == 2) = false := by simp; omega
        clear hR hl2 hRel
        go_wp2_with fail
        exact ⟨HRel.out, HMeas.out⟩
theorem rex_all {ts : List Tok} (hts : TsOk ts) : ∀ f, RPr ts f ∧ REx ts f := by
  intro f
  induction f with
  | zero => exact ⟨fun σ w P L cap _ _ _ hf => by omega, fun lvl σ w P L cap hl _ hf => by omega⟩
  | succ f ih =>
    have h1 := rprim_of hts ih.2
    exact ⟨h1, rex_of hts h1 ih.2⟩
theorem rexpr_all {w : World} {P L cap : Nat} {ts : List Tok} (hts : TsOk ts) {σ : PS} (h : RAt w P L cap ts σ.1 σ.2) : Calls Tryz.prog 145 #[.pointer (some ⟨P, 0, none⟩), .int .i64 ((0 : Nat) : Int)] w (RRes w P L cap ts (exprM ts σ)) :=
  (rex_all hts _).2 0 σ w P L cap (by omega) h (by have : (ts.length - σ.1) * 7 ≤ ts.length * 7 := Nat.mul_le_mul_right _ (Nat.sub_le _ _); omega)
end Go.Proofs.YtfpohaipmnjflaaGreatDoor
