/- The document's reader: a type, a rule; by contract. Condition: at most 16385 tokens, each of at most 16384 bytes. (Printed by tools/genRd.py.) -/
import Derived.Test.YtfpohaipmnjflaaGreatDoorMRE
import Derived.Test.YtfpohaipmnjflaaGreatDoorMXN
namespace Go.Proofs.YtfpohaipmnjflaaGreatDoor
open Go.RowKit

def stepsR (n P : Nat) (W : World) : Nat := leftR n P W * 2 + (match W.cell? ⟨P, 2, none⟩ with | some (.bool true) => 0 | _ => 1)
theorem RAt.steps {w : World} {P L cap : Nat} {ts : List Tok} {k : Nat} {bad : Bool} (h : RAt w P L cap ts k bad) : stepsR ts.length P w = (ts.length - k) * 2 + (if bad = true then 0 else 1) := by
  unfold stepsR
  rw [h.left]
  obtain ⟨_, _, c2, _, _, _⟩ := h.cells
  rw [c2]
  cases bad <;> rfl
/-- behind the salience: the box bears name and salience -/
def RSal6 (w : World) (P L cap : Nat) (ts : List Tok) (tx : ByteArray) (a : Int) (r : Int × PS) (nb : Nat) (W : World) : Prop :=
  RTurns w P L cap ts r.2.1 r.2.2 W ∧ W.heap[nb]? = some (.cells #[.int .u8 4, .string tx, .int .i64 r.1, .int .i64 a, .slice none 0 0] 25 (0, 0)) ∧ W.heap[w.heap.size]? = some (.cells zeroN 25 (0, 0))
/-- ahead of a round of parts up to a sign -/
def RUpRel (w : World) (P L cap : Nat) (ts : List Tok) (one : PS → Tree × PS) (stop : ByteArray) (R : List Tree × PS) (tx : ByteArray) (num a : Int) (nb : Nat) (W : World) : Prop :=
  ∃ (g : Nat) (KS ks : List Tree) (σ : PS) (d : Nat) (rows : List (List Value)) (Fs : Nat → Nat → Prop) (o : Value), upTo ts one stop g KS σ = R ∧ (σ.2 = false → ks = KS) ∧ (σ.2 = true ∨ ts.length - σ.1 + 1 ≤ g) ∧ ks.length ≤ σ.1 + (if σ.2 = true then 1 else 0) ∧
    RTurns w P L cap ts σ.1 σ.2 W ∧ W.heap[w.heap.size]? = some (.cells zeroN 25 (0, 0)) ∧ W.heap[nb]? = some (.cells #[.int .u8 4, .string tx, .int .i64 num, .int .i64 a, o] 25 (0, 0)) ∧ W.ownsRow (nb + 1) 25 5 o ks.length rows.flatten ∧ RowsOwn W (nb + 1) d ks ks.length o.ownBlock rows Fs
set_option maxRecDepth 100000 in
set_option maxHeartbeats 8000000 in
theorem rdecl6_any {ts : List Tok} (hts : TsOk ts) {w : World} {P L cap : Nat} {σ : PS} (h : RAt w P L cap ts σ.1 σ.2) :
    Calls Tryz.prog 66 #[.pointer (some ⟨P, 0, none⟩)] w (RRes w P L cap ts (declM ts (ruleM ts) σ)) := by
  have hb0 : Below w.heap.size w (w.alloc (.cells zeroN 25)) := (Below.refl _ w).alloc (Nat.le_refl _) _
  have HC := Lib.hid (rnow6_res (h.below hb0))
  have H0 := Lib.hid (h.turns hb0)
  have hP := h.lt.1
  have HL := Lib.hid h.lt.2
  have HX := Lib.hid (heap_alloc_new w (.cells zeroN 25))
  have HTS := Lib.hid hts
  obtain ⟨R, hRR⟩ : ∃ R, declM ts (ruleM ts) σ = R := ⟨_, rfl⟩
  rw [hRR]
  have HR := Lib.hid hRR
  have hat : 0 ≤ atM ts σ ∧ atM ts σ ≤ 16384 := by
    obtain ⟨_, _, g3⟩ := tokM_ok hts σ.1
    unfold atM
    omega
  obtain ⟨kd, hkd⟩ : ∃ kd, kdM ts σ = kd := ⟨_, rfl⟩
  obtain ⟨tx, htx⟩ : ∃ kd, txM ts σ = kd := ⟨_, rfl⟩
  obtain ⟨at_, hatE⟩ : ∃ kd, atM ts σ = kd := ⟨_, rfl⟩
  rw [hatE] at hat
  rw [hkd, hatE, htx] at HC
  have HAt := Lib.hid hat
  have HAtE := Lib.hid hatE
  clear h hb0 hts hRR hkd hatE hat htx
  go_enter Tryz.func66, Tryz.ntmps66
  go_wp2_with fail
  refine Calls.mono HC.out ?_
  rintro e w1 ⟨rfl, hb1⟩
  have hx1 := heap_below hb1 HX.out (by simp)
  have HT1 := Lib.hid (H0.out.of_below hb1)
  have HX1 := Lib.hid hx1
  have hl1 : w.heap.size < w1.heap.size := (Array.getElem?_eq_some_iff.1 hx1).1
  have hF := run_lexAt kd tx at_ w1
  clear hb1 hx1
  obtain ⟨i0, hi0, hz0, hz1, hz2⟩ := info_parts infoNode
  obtain ⟨m1, hm1⟩ : ∃ x, isM ts σ [tFact] = x := ⟨_, rfl⟩
  have hR := HR.out
  unfold declM at hR
  rw [hm1, HAtE.out] at hR
  have HRR := Lib.hid hR
  have HM1 := Lib.hid hm1
  clear hR HR hm1
  obtain ⟨w2, hw2⟩ : ∃ x, x = w1.alloc (.cells #[.int .u8 0, .string ⟨#[]⟩, .int .i64 0, .int .i64 at_, .slice none 0 0] 25) := ⟨_, rfl⟩
  have hT := HT1.out.2.turns ((Below.refl _ w1).alloc (Nat.le_refl _) (.cells #[.int .u8 0, .string ⟨#[]⟩, .int .i64 0, .int .i64 at_, .slice none 0 0] 25))
  rw [← hw2] at hT
  have hnw : w2.heap[w1.heap.size]? = some (.cells #[.int .u8 0, .string ⟨#[]⟩, .int .i64 0, .int .i64 at_, .slice none 0 0] 25 (0, 0)) := by rw [hw2]; exact heap_alloc_new w1 _
  have HN2 := Lib.hid hnw
  have hnb : w.heap.size < w1.heap.size := hl1
  have HT2 := Lib.hid (HT1.out.trans hT)
  have HX2 := Lib.hid (hT.box HX1.out hP (Nat.le_refl _))
  have hl2 : w.heap.size < w2.heap.size := (Array.getElem?_eq_some_iff.1 HX2.out).1
  have hn2 : w1.heap.size < w2.heap.size := (Array.getElem?_eq_some_iff.1 hnw).1
  have HW2 := Lib.hid hw2
  clear hT hnw hw2 
  go_upto_region 2 with fail
  change Code.wp _ _ _ _ (w1.alloc (.cells #[.int .u8 0, .string ⟨#[]⟩, .int .i64 0, .int .i64 at_, .slice none 0 0] 25))
  rw [← HW2.out]
  clear HW2
  have HI1 := Lib.hid (ris6_any HT2.out.2 tFact (by rw [ByteArray.toList_eq]; decide))
  rw [HM1.out] at HI1
  go_wp2_with fail
  refine Calls.mono (HI1.out) ?_
  rintro e w3 ⟨rfl, hb⟩
  have hT := HT2.out.2.turns hb
  have HT3 := Lib.hid (HT2.out.trans hT)
  have HX3 := Lib.hid (hT.box HX2.out hP (Nat.le_refl _))
  have hl3 : w.heap.size < w3.heap.size := (Array.getElem?_eq_some_iff.1 HX3.out).1
  have HN3 := Lib.hid (hT.box HN2.out hP (Nat.le_of_lt hnb))
  have hn3 : w1.heap.size < w3.heap.size := (Array.getElem?_eq_some_iff.1 HN3.out).1
  clear hT hb
  cases m1 with
  | true =>
    have HRe : Hid ((.mk 2 (ofM ts (nextM ts σ) 2 2).1.text 0 at_ (listM ts (fun σ => ofM ts σ 2 3) (ofM ts (nextM ts σ) 2 2).2).1, wantM ts (listM ts (fun σ => ofM ts σ 2 3) (ofM ts (nextM ts σ) 2 2).2).2 tSemi) = R) := HRR.out
    clear HRR HI1
    obtain ⟨e0, e1, e2, e3, e4⟩ := cells5 HN3.out
    have f0 := frozen5 HN3.out 0
    obtain ⟨w4, hw4⟩ : ∃ x, x = w3.setCell ⟨w1.heap.size, 0, none⟩ (.int .u8 2) := ⟨_, rfl⟩
    have hTs := HT3.out.setCell hP HL.out (Nat.le_of_lt hnb) 0 (.int .u8 2)
    rw [← hw4] at hTs
    have HT4 := Lib.hid hTs
    clear hTs
    have hoth : ∀ b, b ≠ w1.heap.size → w4.heap[b]? = w3.heap[b]? := fun b hb => by rw [hw4]; exact Below.heap_setCell w3 ⟨w1.heap.size, 0, none⟩ _ b hb
    have hsz : w4.heap.size = w3.heap.size := by rw [hw4]; simp [World.setCell]
    have HX4 := Lib.hid ((hoth w.heap.size (by omega)).trans HX3.out)
    have HN4 : Hid (w4.heap[w1.heap.size]? = some (.cells #[.int .u8 2, .string ⟨#[]⟩, .int .i64 0, .int .i64 at_, .slice none 0 0] 25 (0, 0))) := by show _ = _; rw [hw4]; exact heap_set HN3.out 0 _
    have hl4 : w.heap.size < w4.heap.size := by omega
    have hn4 : w1.heap.size < w4.heap.size := by omega
    have HW4 := Lib.hid hw4
    clear hw4 hoth hsz
    go_upto_region 4 with fail
    change Code.wp _ _ _ _ (w3.setCell ⟨w1.heap.size, 0, none⟩ (.int .u8 2))
    rw [← HW4.out]
    clear HW4 e0 e1 e2 e3 e4 f0 
    go_wp2_with fail
    refine Calls.mono (rnext6_res HT4.out.2) ?_
    rintro e w5 ⟨rfl, hT⟩
    have HT5 := Lib.hid (HT4.out.trans hT)
    have HX5 := Lib.hid (hT.box HX4.out hP (Nat.le_refl _))
    have hl5 : w.heap.size < w5.heap.size := (Array.getElem?_eq_some_iff.1 HX5.out).1
    have HN5 := Lib.hid (hT.box HN4.out hP (Nat.le_of_lt hnb))
    have hn5 : w1.heap.size < w5.heap.size := (Array.getElem?_eq_some_iff.1 HN5.out).1
    clear hT
    obtain ⟨k2, x2, p2, ht2⟩ : ∃ a b c, tokM ts (nextM ts σ).1 = (a, b, c) := ⟨_, _, _, rfl⟩
    have hxs : x2.size ≤ 16384 := by have := (tokM_ok HTS.out (nextM ts σ).1).2.1; rw [ht2] at this; exact this
    have hC := rof6_raw HT5.out.2 (tokM_at HT5.out.2.k) 2 2
    rw [ht2] at hC
    have HCo := Lib.hid hC
    have hof : (ofM ts (nextM ts σ) 2 2).2 = (nextK ts.length (nextM ts σ).1 ((nextM ts σ).2 || k2 != 2), ((nextM ts σ).2 || k2 != 2)) := by
      show (nextK ts.length (nextM ts σ).1 ((nextM ts σ).2 || (tokM ts (nextM ts σ).1).1 != 2), ((nextM ts σ).2 || (tokM ts (nextM ts σ).1).1 != 2)) = _
      rw [ht2]
    have htx2 : (ofM ts (nextM ts σ) 2 2).1.text = x2 := by show (tokM ts (nextM ts σ).1).2.1 = x2; rw [ht2]
    have HRe2 := HRe.out
    rw [htx2] at HRe2
    obtain ⟨σ3, hσ3⟩ : ∃ x, (ofM ts (nextM ts σ) 2 2).2 = x := ⟨_, rfl⟩
    rw [hσ3] at HRe2 hof
    have HRf := Lib.hid HRe2
    have HOf := Lib.hid hof
    have HXs := Lib.hid hxs
    clear hC hof htx2 HRe2 HRe hσ3 hxs ht2
    go_wp2_with fail
    refine Calls.mono (HCo.out) ?_
    rintro e w6 ⟨rfl, hT⟩
    have HT6 := Lib.hid (HT5.out.trans hT)
    have HX6 := Lib.hid (hT.box HX5.out hP (Nat.le_refl _))
    have hl6 : w.heap.size < w6.heap.size := (Array.getElem?_eq_some_iff.1 HX6.out).1
    have HN6 := Lib.hid (hT.box HN5.out hP (Nat.le_of_lt hnb))
    have hn6 : w1.heap.size < w6.heap.size := (Array.getElem?_eq_some_iff.1 HN6.out).1
    rw [show nextK ts.length (nextM ts σ).1 ((nextM ts σ).2 || k2 != 2) = σ3.1 by rw [HOf.out], show ((nextM ts σ).2 || k2 != 2) = σ3.2 by rw [HOf.out]] at HT6
    have hTa := run_nodeText ((2 : Nat) : Int) x2 0 p2 0 none 0 w6
    have hTb := run_nodeText 2 x2 0 p2 0 none 0 w6
    clear hT
    obtain ⟨e0, e1, e2, e3, e4⟩ := cells5 HN6.out
    have f1 := frozen5 HN6.out 1
    obtain ⟨w7, hw7⟩ : ∃ x, x = w6.setCell ⟨w1.heap.size, 1, none⟩ (.string x2) := ⟨_, rfl⟩
    have hTs := HT6.out.setCell hP HL.out (Nat.le_of_lt hnb) 1 (.string x2)
    rw [← hw7] at hTs
    have HT7 := Lib.hid hTs
    clear hTs
    have hoth : ∀ b, b ≠ w1.heap.size → w7.heap[b]? = w6.heap[b]? := fun b hb => by rw [hw7]; exact Below.heap_setCell w6 ⟨w1.heap.size, 1, none⟩ _ b hb
    have hsz : w7.heap.size = w6.heap.size := by rw [hw7]; simp [World.setCell]
    have HX7 := Lib.hid ((hoth w.heap.size (by omega)).trans HX6.out)
    have HN7 : Hid (w7.heap[w1.heap.size]? = some (.cells #[.int .u8 2, .string x2, .int .i64 0, .int .i64 at_, .slice none 0 0] 25 (0, 0))) := by show _ = _; rw [hw7]; exact heap_set HN6.out 1 _
    have hl7 : w.heap.size < w7.heap.size := by omega
    have hn7 : w1.heap.size < w7.heap.size := by omega
    have HW7 := Lib.hid hw7
    clear hw7 hoth hsz
    go_upto_region 6 with fail
    change Code.wp _ _ _ _ (w6.setCell ⟨w1.heap.size, 1, none⟩ (.string x2))
    rw [← HW7.out]
    clear HW7 e0 e1 e2 e3 e4 f1 hTa hTb
    have HLs := Lib.hid (rrow6_any HTS.out 0 (by omega) σ3 w7 P L cap HT7.out.2)
    rw [rOne0] at HLs
    generalize listM ts (fun σ => ofM ts σ 2 3) σ3 = r at *
    go_wp2_with fail
    refine Calls.mono (HLs.out) ?_
    rintro e w8 ⟨ks, d, s, rfl, hq, hT, ho⟩
    obtain ⟨p, c, rfl⟩ := ho.shape
    have HQ := Lib.hid hq
    have HO8 := Lib.hid ho
    have HT8 := Lib.hid (HT7.out.trans hT)
    have HX8 := Lib.hid (hT.box HX7.out hP (Nat.le_refl _))
    have hl8 : w.heap.size < w8.heap.size := (Array.getElem?_eq_some_iff.1 HX8.out).1
    have HN8 := Lib.hid (hT.box HN7.out hP (Nat.le_of_lt hnb))
    have hn8 : w1.heap.size < w8.heap.size := (Array.getElem?_eq_some_iff.1 HN8.out).1
    clear hT hq ho HLs
    obtain ⟨e0, e1, e2, e3, e4⟩ := cells5 HN8.out
    have f4 := frozen5 HN8.out 4
    obtain ⟨w9, hw9⟩ : ∃ x, x = w8.setCell ⟨w1.heap.size, 4, none⟩ (.slice p ks.length c) := ⟨_, rfl⟩
    have hTs := HT8.out.setCell hP HL.out (Nat.le_of_lt hnb) 4 (.slice p ks.length c)
    rw [← hw9] at hTs
    have HT9 := Lib.hid hTs
    clear hTs
    have hoth : ∀ b, b ≠ w1.heap.size → w9.heap[b]? = w8.heap[b]? := fun b hb => by rw [hw9]; exact Below.heap_setCell w8 ⟨w1.heap.size, 4, none⟩ _ b hb
    have hsz : w9.heap.size = w8.heap.size := by rw [hw9]; simp [World.setCell]
    have HX9 := Lib.hid ((hoth w.heap.size (by omega)).trans HX8.out)
    have HN9 : Hid (w9.heap[w1.heap.size]? = some (.cells #[.int .u8 2, .string x2, .int .i64 0, .int .i64 at_, .slice p ks.length c] 25 (0, 0))) := by show _ = _; rw [hw9]; exact heap_set HN8.out 4 _
    have hl9 : w.heap.size < w9.heap.size := by omega
    have hn9 : w1.heap.size < w9.heap.size := by omega
    have HO9 := Lib.hid (show OwnAt w9 d ks (.slice p ks.length c) (Between w7.heap.size w9.heap.size) from (HO8.out.keep fun b o hb ho => (hoth b (by have := hb.1; omega)).trans ho).sub fun b hb => ⟨hb.1, by rw [hsz]; exact hb.2⟩)
    have HW9 := Lib.hid hw9
    clear hw9 hoth hsz
    go_upto_region 7 with fail
    change Code.wp _ _ _ _ (w8.setCell ⟨w1.heap.size, 4, none⟩ (.slice p ks.length c))
    rw [← HW9.out]
    clear HW9 e0 e1 e2 e3 e4 f4 
    go_wp2_with fail
    refine Calls.mono (rwant6_any HT9.out.2 tSemi (by rw [ByteArray.toList_eq]; decide)) ?_
    rintro e w10 ⟨rfl, hT⟩
    have HT10 := Lib.hid (HT9.out.trans hT)
    have HX10 := Lib.hid (hT.box HX9.out hP (Nat.le_refl _))
    have hl10 : w.heap.size < w10.heap.size := (Array.getElem?_eq_some_iff.1 HX10.out).1
    have HN10 := Lib.hid (hT.box HN9.out hP (Nat.le_of_lt hnb))
    have HO10 := Lib.hid (show OwnAt w10 d ks (.slice p ks.length c) (Between w7.heap.size w10.heap.size) from (HO9.out.keep fun b o hb ho => grownBy_keep hT.1 ho (by have := hb.1; omega)).sub fun b hb => ⟨hb.1, Nat.lt_of_lt_of_le hb.2 hT.1.size⟩)
    have hn10 : w1.heap.size < w10.heap.size := (Array.getElem?_eq_some_iff.1 HN10.out).1
    clear hT
    obtain ⟨a0, a1, a2, a3, a4⟩ := cells5 HX10.out
    have z0 := frozen5 HX10.out 0
    have z1 := frozen5 HX10.out 1
    have z2 := frozen5 HX10.out 2
    have z3 := frozen5 HX10.out 3
    have z4 := frozen5 HX10.out 4
    obtain ⟨e0, e1, e2, e3, e4⟩ := cells5 HN10.out
    go_wp2_with fail
    refine ret_node Tryz.results66 rfl (heap_set5 HX10.out _ _ _ _ _) rfl ?_
    rw [← HRf.out]
    exact RRes.stored (r := (.mk 2 x2 0 at_ r.1, wantM ts r.2 tSemi)) (T := .mk 2 x2 0 at_ ks) hP HL.out HT10.out (fun hb => by rw [HQ.out (want_ok hb)]) HO10.out (fits_mk (by omega) HXs.out HAt.out.1 HAt.out.2) (Nat.le_refl _) (by omega) _ _ _ _ _
  | false =>
  obtain ⟨σ1, hσ1⟩ : ∃ x, wantM ts σ tRule = x := ⟨_, rfl⟩
  have HRe : Hid (ruleM ts at_ σ1 = R) := by
    show _ = _
    rw [← hσ1]
    exact HRR.out
  have HS1 := Lib.hid hσ1
  clear HRR HI1 hσ1
  obtain ⟨e0, e1, e2, e3, e4⟩ := cells5 HN3.out
  have f0 := frozen5 HN3.out 0
  obtain ⟨w4, hw4⟩ : ∃ x, x = w3.setCell ⟨w1.heap.size, 0, none⟩ (.int .u8 4) := ⟨_, rfl⟩
  have hTs := HT3.out.setCell hP HL.out (Nat.le_of_lt hnb) 0 (.int .u8 4)
  rw [← hw4] at hTs
  have HT4 := Lib.hid hTs
  clear hTs
  have hoth : ∀ b, b ≠ w1.heap.size → w4.heap[b]? = w3.heap[b]? := fun b hb => by rw [hw4]; exact Below.heap_setCell w3 ⟨w1.heap.size, 0, none⟩ _ b hb
  have hsz : w4.heap.size = w3.heap.size := by rw [hw4]; simp [World.setCell]
  have HX4 := Lib.hid ((hoth w.heap.size (by omega)).trans HX3.out)
  have HN4 : Hid (w4.heap[w1.heap.size]? = some (.cells #[.int .u8 4, .string ⟨#[]⟩, .int .i64 0, .int .i64 at_, .slice none 0 0] 25 (0, 0))) := by show _ = _; rw [hw4]; exact heap_set HN3.out 0 _
  have hl4 : w.heap.size < w4.heap.size := by omega
  have hn4 : w1.heap.size < w4.heap.size := by omega
  have HW4 := Lib.hid hw4
  clear hw4 hoth hsz
  go_upto_region 10 with fail
  change Code.wp _ _ _ _ (w3.setCell ⟨w1.heap.size, 0, none⟩ (.int .u8 4))
  rw [← HW4.out]
  clear HW4 e0 e1 e2 e3 e4 f0 
  go_wp2_with fail
  refine Calls.mono (rwant6_any HT4.out.2 tRule (by rw [ByteArray.toList_eq]; decide)) ?_
  rintro e w5 ⟨rfl, hT⟩
  have HT5 := Lib.hid (HT4.out.trans hT)
  have HX5 := Lib.hid (hT.box HX4.out hP (Nat.le_refl _))
  have hl5 : w.heap.size < w5.heap.size := (Array.getElem?_eq_some_iff.1 HX5.out).1
  have HN5 := Lib.hid (hT.box HN4.out hP (Nat.le_of_lt hnb))
  have hn5 : w1.heap.size < w5.heap.size := (Array.getElem?_eq_some_iff.1 HN5.out).1
  rw [HS1.out] at HT5
  clear hT HS1
  obtain ⟨k2, x2, p2, ht2⟩ : ∃ a b c, tokM ts σ1.1 = (a, b, c) := ⟨_, _, _, rfl⟩
  have hxs : x2.size ≤ 16384 := by have := (tokM_ok HTS.out σ1.1).2.1; rw [ht2] at this; exact this
  have hC := rof6_raw HT5.out.2 (tokM_at HT5.out.2.k) 2 4
  rw [ht2] at hC
  have HCo := Lib.hid hC
  have hof : (ofM ts σ1 2 4).2 = (nextK ts.length σ1.1 (σ1.2 || k2 != 2), (σ1.2 || k2 != 2)) := by
    show (nextK ts.length σ1.1 (σ1.2 || (tokM ts σ1.1).1 != 2), (σ1.2 || (tokM ts σ1.1).1 != 2)) = _
    rw [ht2]
  have htx2 : (ofM ts σ1 2 4).1.text = x2 := by show (tokM ts σ1.1).2.1 = x2; rw [ht2]
  have HRe2 := HRe.out
  unfold ruleM at HRe2
  dsimp only at HRe2
  rw [htx2] at HRe2
  obtain ⟨σ3, hσ3⟩ : ∃ x, (ofM ts σ1 2 4).2 = x := ⟨_, rfl⟩
  rw [hσ3] at HRe2 hof
  obtain ⟨sa, hsa⟩ : ∃ x, salM ts σ3 = x := ⟨_, rfl⟩
  rw [hsa] at HRe2
  have HSm : Hid (-2147483647 ≤ sa.1 ∧ sa.1 ≤ 2147483647) := by rw [← hsa]; exact salM_small ts σ3
  unfold salM at hsa
  have HSa := Lib.hid hsa
  obtain ⟨σd, hσd⟩ : ∃ x, wantM ts sa.2 tLeft = x := ⟨_, rfl⟩
  rw [hσd] at HRe2
  obtain ⟨Rc, hRc⟩ : ∃ x, upTo ts (condM ts (argM ts)) tTo (ts.length + 1) [] σd = x := ⟨_, rfl⟩
  rw [hRc] at HRe2
  have HRf := Lib.hid HRe2
  have HOf := Lib.hid hof
  have HXs := Lib.hid hxs
  have HSd := Lib.hid hσd
  have HRc := Lib.hid hRc
  clear hC hof htx2 HRe2 HRe hσ3 hxs ht2 hsa hσd hRc
  go_wp2_with fail
  refine Calls.mono (HCo.out) ?_
  rintro e w6 ⟨rfl, hT⟩
  have HT6 := Lib.hid (HT5.out.trans hT)
  have HX6 := Lib.hid (hT.box HX5.out hP (Nat.le_refl _))
  have hl6 : w.heap.size < w6.heap.size := (Array.getElem?_eq_some_iff.1 HX6.out).1
  have HN6 := Lib.hid (hT.box HN5.out hP (Nat.le_of_lt hnb))
  have hn6 : w1.heap.size < w6.heap.size := (Array.getElem?_eq_some_iff.1 HN6.out).1
  rw [show nextK ts.length σ1.1 (σ1.2 || k2 != 2) = σ3.1 by rw [HOf.out], show (σ1.2 || k2 != 2) = σ3.2 by rw [HOf.out]] at HT6
  have hTa := run_nodeText ((4 : Nat) : Int) x2 0 p2 0 none 0 w6
  have hTb := run_nodeText 4 x2 0 p2 0 none 0 w6
  clear hT
  obtain ⟨e0, e1, e2, e3, e4⟩ := cells5 HN6.out
  have f1 := frozen5 HN6.out 1
  obtain ⟨w7, hw7⟩ : ∃ x, x = w6.setCell ⟨w1.heap.size, 1, none⟩ (.string x2) := ⟨_, rfl⟩
  have hTs := HT6.out.setCell hP HL.out (Nat.le_of_lt hnb) 1 (.string x2)
  rw [← hw7] at hTs
  have HT7 := Lib.hid hTs
  clear hTs
  have hoth : ∀ b, b ≠ w1.heap.size → w7.heap[b]? = w6.heap[b]? := fun b hb => by rw [hw7]; exact Below.heap_setCell w6 ⟨w1.heap.size, 1, none⟩ _ b hb
  have hsz : w7.heap.size = w6.heap.size := by rw [hw7]; simp [World.setCell]
  have HX7 := Lib.hid ((hoth w.heap.size (by omega)).trans HX6.out)
  have HN7 : Hid (w7.heap[w1.heap.size]? = some (.cells #[.int .u8 4, .string x2, .int .i64 0, .int .i64 at_, .slice none 0 0] 25 (0, 0))) := by show _ = _; rw [hw7]; exact heap_set HN6.out 1 _
  have hl7 : w.heap.size < w7.heap.size := by omega
  have hn7 : w1.heap.size < w7.heap.size := by omega
  have HW7 := Lib.hid hw7
  clear hw7 hoth hsz
  go_upto_region 12 with fail
  change Code.wp _ _ _ _ (w6.setCell ⟨w1.heap.size, 1, none⟩ (.string x2))
  rw [← HW7.out]
  clear HW7 e0 e1 e2 e3 e4 f1 hTa hTb
  obtain ⟨m3, hm3⟩ : ∃ x, isM ts σ3 [tSal] = x := ⟨_, rfl⟩
  have HM3 := Lib.hid hm3
  have HI3 := Lib.hid (ris6_any HT7.out.2 tSal (by rw [ByteArray.toList_eq]; decide))
  rw [hm3] at HI3
  clear hm3
  go_wp2_with fail
  refine Calls.mono (HI3.out) ?_
  rintro e w8 ⟨rfl, hb⟩
  have hT := HT7.out.2.turns hb
  have HT8 := Lib.hid (HT7.out.trans hT)
  have HX8 := Lib.hid (hT.box HX7.out hP (Nat.le_refl _))
  have hl8 : w.heap.size < w8.heap.size := (Array.getElem?_eq_some_iff.1 HX8.out).1
  have HN8 := Lib.hid (hT.box HN7.out hP (Nat.le_of_lt hnb))
  have hn8 : w1.heap.size < w8.heap.size := (Array.getElem?_eq_some_iff.1 HN8.out).1
  clear hT hb
  clear HI3
  go_upto_if 32 with fail
  go_cut [4] from 33 to 43 (fun _ wx => RSal6 w P L cap ts x2 at_ sa w1.heap.size wx)
  case first =>
    cases m3 with
    | false =>
      have hsa : sa = (0, σ3) := by rw [← HSa.out, if_neg (by rw [HM3.out]; decide)]
      have HS := Lib.hid hsa
      clear hsa
      go_wp2_with fail
      go_meet
      case rel =>
        rw [HS.out]
        exact ⟨HT8.out, HN8.out, HX8.out⟩
    | true =>
      have hsa0 := HSa.out
      rw [if_pos HM3.out] at hsa0
      have HSb := Lib.hid hsa0
      obtain ⟨σ4, hσ4⟩ : ∃ x, nextM ts σ3 = x := ⟨_, rfl⟩
      rw [hσ4] at HSb
      have HS4 := Lib.hid hσ4
      clear hσ4 hsa0
      go_wp2_with fail
      refine Calls.mono (rnext6_res HT8.out.2) ?_
      rintro e w9 ⟨rfl, hT⟩
      have HT9 := Lib.hid (HT8.out.trans hT)
      have HX9 := Lib.hid (hT.box HX8.out hP (Nat.le_refl _))
      have hl9 : w.heap.size < w9.heap.size := (Array.getElem?_eq_some_iff.1 HX9.out).1
      have HN9 := Lib.hid (hT.box HN8.out hP (Nat.le_of_lt hnb))
      have hn9 : w1.heap.size < w9.heap.size := (Array.getElem?_eq_some_iff.1 HN9.out).1
      rw [HS4.out] at HT9
      clear hT
      obtain ⟨m4, hm4⟩ : ∃ x, isM ts σ4 [tMinus] = x := ⟨_, rfl⟩
      have HM4 := Lib.hid hm4
      have HI4 := Lib.hid (ris6_any HT9.out.2 tMinus (by rw [ByteArray.toList_eq]; decide))
      rw [hm4] at HI4
      clear hm4
      go_wp2_with fail
      refine Calls.mono (HI4.out) ?_
      rintro e w10 ⟨rfl, hb⟩
      have hT := HT9.out.2.turns hb
      have HT10 := Lib.hid (HT9.out.trans hT)
      have HX10 := Lib.hid (hT.box HX9.out hP (Nat.le_refl _))
      have hl10 : w.heap.size < w10.heap.size := (Array.getElem?_eq_some_iff.1 HX10.out).1
      have HN10 := Lib.hid (hT.box HN9.out hP (Nat.le_of_lt hnb))
      have hn10 : w1.heap.size < w10.heap.size := (Array.getElem?_eq_some_iff.1 HN10.out).1
      clear hT hb
      cases m4 with
      | true =>
        have hsa0 := HSb.out
        rw [if_pos HM4.out] at hsa0
        have HSc := Lib.hid hsa0
        clear hsa0
        go_wp2_with fail
        refine Calls.mono (rnext6_res HT10.out.2) ?_
        rintro e w11 ⟨rfl, hT⟩
        have HT11 := Lib.hid (HT10.out.trans hT)
        have HX11 := Lib.hid (hT.box HX10.out hP (Nat.le_refl _))
        have hl11 : w.heap.size < w11.heap.size := (Array.getElem?_eq_some_iff.1 HX11.out).1
        have HN11 := Lib.hid (hT.box HN10.out hP (Nat.le_of_lt hnb))
        have hn11 : w1.heap.size < w11.heap.size := (Array.getElem?_eq_some_iff.1 HN11.out).1
        clear hT
        have HNu := Lib.hid (rsmall6_any HTS.out (σ := nextM ts σ4) HT11.out.2)
        have hsm := numM_small ts (nextM ts σ4)
        generalize numM ts (nextM ts σ4) = nu at *
        have hsm2 : (nu.1 : Int) ≤ 2147483647 := by omega
        go_wp2_with fail
        refine Calls.mono (HNu.out) ?_
        rintro e w12 ⟨rfl, hT⟩
        have HT12 := Lib.hid (HT11.out.trans hT)
        have HX12 := Lib.hid (hT.box HX11.out hP (Nat.le_refl _))
        have hl12 : w.heap.size < w12.heap.size := (Array.getElem?_eq_some_iff.1 HX12.out).1
        have HN12 := Lib.hid (hT.box HN11.out hP (Nat.le_of_lt hnb))
        have hn12 : w1.heap.size < w12.heap.size := (Array.getElem?_eq_some_iff.1 HN12.out).1
        clear hT
        obtain ⟨e0, e1, e2, e3, e4⟩ := cells5 HN12.out
        have f2 := frozen5 HN12.out 2
        have hTs := HT12.out.setCell hP HL.out (Nat.le_of_lt hnb) 2 (.int .i64 (-(nu.1 : Int)))
        have hNs := heap_set HN12.out 2 (.int .i64 (-(nu.1 : Int)))
        have hXs := (Below.heap_setCell w12 ⟨w1.heap.size, 2, none⟩ (.int .i64 (-(nu.1 : Int))) w.heap.size (by show w.heap.size ≠ w1.heap.size; omega)).trans HX12.out
        have HRel : Hid (RSal6 w P L cap ts x2 at_ sa w1.heap.size (w12.setCell ⟨w1.heap.size, 2, none⟩ (.int .i64 (-(nu.1 : Int))))) := by
          rw [← HSc.out]
          exact ⟨hTs, hNs, hXs⟩
        clear hTs hNs hXs
        go_wp2_with fail
        go_meet
        case rel => exact HRel.out
      | false =>
        have hsa0 := HSb.out
        rw [if_neg (by rw [HM4.out]; decide)] at hsa0
        have HSc := Lib.hid hsa0
        clear hsa0
        have HNu := Lib.hid (rsmall6_any HTS.out (σ := σ4) HT10.out.2)
        have hsm := numM_small ts (σ4)
        generalize numM ts (σ4) = nu at *
        have hsm2 : (nu.1 : Int) ≤ 2147483647 := by omega
        go_wp2_with fail
        refine Calls.mono (HNu.out) ?_
        rintro e w11 ⟨rfl, hT⟩
        have HT11 := Lib.hid (HT10.out.trans hT)
        have HX11 := Lib.hid (hT.box HX10.out hP (Nat.le_refl _))
        have hl11 : w.heap.size < w11.heap.size := (Array.getElem?_eq_some_iff.1 HX11.out).1
        have HN11 := Lib.hid (hT.box HN10.out hP (Nat.le_of_lt hnb))
        have hn11 : w1.heap.size < w11.heap.size := (Array.getElem?_eq_some_iff.1 HN11.out).1
        clear hT
        obtain ⟨e0, e1, e2, e3, e4⟩ := cells5 HN11.out
        have f2 := frozen5 HN11.out 2
        have hTs := HT11.out.setCell hP HL.out (Nat.le_of_lt hnb) 2 (.int .i64 ((nu.1 : Nat) : Int))
        have hNs := heap_set HN11.out 2 (.int .i64 ((nu.1 : Nat) : Int))
        have hXs := (Below.heap_setCell w11 ⟨w1.heap.size, 2, none⟩ (.int .i64 ((nu.1 : Nat) : Int)) w.heap.size (by show w.heap.size ≠ w1.heap.size; omega)).trans HX11.out
        have HRel : Hid (RSal6 w P L cap ts x2 at_ sa w1.heap.size (w11.setCell ⟨w1.heap.size, 2, none⟩ (.int .i64 ((nu.1 : Nat) : Int)))) := by
          rw [← HSc.out]
          exact ⟨hTs, hNs, hXs⟩
        clear hTs hNs hXs
        go_wp2_with fail
        go_meet
        case rel => exact HRel.out
  case rest =>
    obtain ⟨hTc, hNc, hXc⟩ := hcut
    obtain ⟨w9, rfl⟩ : ∃ x, x = wc := ⟨_, rfl⟩
    have HT9 := Lib.hid hTc
    have HN9 := Lib.hid hNc
    have HX9 := Lib.hid hXc
    have hl9 : w.heap.size < w9.heap.size := (Array.getElem?_eq_some_iff.1 hXc).1
    clear hTc hNc hXc
    go_wp2_with fail
    refine Calls.mono (rwant6_any HT9.out.2 tLeft (by rw [ByteArray.toList_eq]; decide)) ?_
    rintro e w10 ⟨rfl, hT⟩
    have HT10 := Lib.hid (HT9.out.trans hT)
    have HX10 := Lib.hid (hT.box HX9.out hP (Nat.le_refl _))
    have hl10 : w.heap.size < w10.heap.size := (Array.getElem?_eq_some_iff.1 HX10.out).1
    have HN10 := Lib.hid (hT.box HN9.out hP (Nat.le_of_lt hnb))
    have hn10 : w1.heap.size < w10.heap.size := (Array.getElem?_eq_some_iff.1 HN10.out).1
    rw [HSd.out] at HT10
    clear hT
    have HRel : Hid (RUpRel w P L cap ts (condM ts (argM ts)) tTo Rc x2 sa.1 at_ w1.heap.size w10) :=
      ⟨ts.length + 1, [], [], σd, 0, [], fun _ _ => False, .slice none 0 0, HRc.out, fun _ => rfl, Or.inr (by omega), Nat.zero_le _, HT10.out, HX10.out, HN10.out, ⟨rfl, Or.inl ⟨rfl, rfl⟩⟩, rows_none w10 (w1.heap.size + 1) 0 []⟩
    go_wp2_with fail
    go_loopw [] (fun wr => RUpRel w P L cap ts (condM ts (argM ts)) tTo Rc x2 sa.1 at_ w1.heap.size wr) (fun wr => stepsR ts.length P wr)
    case atStart => exact HRel.out
    case round =>
      clear HRel
      obtain ⟨g, KS, ks, σc, dd, rows, Fs, o, hup, hK, hg, hlen, hT, hx, hn, hown, hrows⟩ := hrel
      have HTr := Lib.hid hT
      have HUp := Lib.hid hup
      have HK := Lib.hid hK
      have HG := Lib.hid hg
      have HLen := Lib.hid hlen
      have HXr := Lib.hid hx
      have HNr := Lib.hid hn
      have HOwn := Lib.hid hown
      have HRows := Lib.hid hrows
      have HSt := Lib.hid hT.2.steps
      have HIs := Lib.hid (ris6_any hT.2 tTo (by rw [ByteArray.toList_eq]; decide))
      obtain ⟨_, _, c2, _, _, _⟩ := hT.2.cells
      obtain ⟨bs, hbs⟩ : ∃ x, isM ts σc [tTo] = x := ⟨_, rfl⟩
      rw [hbs] at HIs
      have HBs := Lib.hid hbs
      clear hup hg hlen hT hx hn hown hrows hK hbs
      go_upto_region 20 with fail
      go_cut [55] from 46 to 55 (fun v wx => v = .bool (!σc.2 && !bs) ∧ Below wr.heap.size wr wx)
      case first =>
        obtain ⟨kc, bc⟩ := σc
        dsimp only at c2 HIs ⊢
        cases bc with
        | true =>
          go_wp2_with fail
          go_meet
          case rel => exact ⟨rfl, Below.refl _ _⟩
        | false =>
          go_wp2_with fail
          refine Calls.mono HIs.out ?_
          rintro e wx ⟨rfl, hbx⟩
          have HBx := Lib.hid hbx
          clear hbx
          go_wp2_with fail
          go_meet
          case rel => exact ⟨by cases bs <;> rfl, HBx.out⟩
      case rest =>
        obtain ⟨rfl, hbx⟩ := hcut
        have HTx := Lib.hid (HTr.out.of_below hbx)
        have HXx := Lib.hid (heap_below hbx HXr.out (Array.getElem?_eq_some_iff.1 HXr.out).1)
        have HNx := Lib.hid (heap_below hbx HNr.out (Array.getElem?_eq_some_iff.1 HNr.out).1)
        have HOwnx := Lib.hid (ownsRow_turn HOwn.out (grown_of_below hbx (some P)) (by omega))
        have HRowsx := Lib.hid (HRows.out.turn (grown_of_below hbx (some P)) (by omega))
        have hlx : w1.heap.size < wc.heap.size := (Array.getElem?_eq_some_iff.1 HNx.out).1
        clear hbx HTr HXr HNr HOwn HRows c2 HIs
        obtain ⟨b, hb⟩ : ∃ b, (!σc.2 && !bs) = b := ⟨_, rfl⟩
        rw [hb]
        have HB := Lib.hid hb
        clear hb
        cases b with
        | true =>
          have hnb2 : σc.2 = false := by have := HB.out; cases h : σc.2 <;> simp [h] at this ⊢
          have hns : isM ts σc [tTo] = false := by have := HB.out; rw [hnb2] at this; rw [HBs.out]; simpa using this
          have hks := HK.out hnb2
          subst hks
          have hkc := HTx.out.2.k
          have hkn := HTx.out.2.n
          have hll := HLen.out
          rw [hnb2] at hll
          simp only [Bool.false_eq_true, if_false, Nat.add_zero] at hll
          obtain ⟨g', hg', hR2⟩ : ∃ g', (((condM ts (argM ts)) σc).2.2 = true ∨ ts.length - ((condM ts (argM ts)) σc).2.1 + 1 ≤ g') ∧ upTo ts (condM ts (argM ts)) tTo g' (ks ++ [((condM ts (argM ts)) σc).1]) ((condM ts (argM ts)) σc).2 = Rc := by
            have h1 := HUp.out
            have h2 := HG.out
            rw [hnb2] at h2
            have h2' : ts.length - σc.1 + 1 ≤ g := by rcases h2 with h | h; cases h; exact h
            cases g with
            | zero => omega
            | succ g =>
              unfold upTo at h1
              rw [if_neg (by rw [hnb2]; decide), if_neg (by rw [hns]; decide)] at h1
              refine ⟨g, ?_, h1⟩
              rcases (condM_on HTS.out (argM_ge ts) (fun _ h => argM_bad h) hkc) with h | h
              · exact Or.inl h
              · exact Or.inr (by omega)
          have hon := (condM_on HTS.out (argM_ge ts) (fun _ h => argM_bad h) hkc)
          have HGe1 : Hid (σc.1 ≤ ((condM ts (argM ts)) σc).2.1) := condM_ge (argM_ge ts) σc
          have HCall := Lib.hid (rcond6_any HTS.out HTx.out.2.drew)
          have HG' := Lib.hid hg'
          have HR2 := Lib.hid hR2
          have HOn := Lib.hid hon
          have HNb := Lib.hid hnb2
          clear hg' hR2 hon hns hnb2
          generalize (condM ts (argM ts)) σc = r at *
          obtain ⟨d0, d1', d2', d3, d4⟩ := cells5 HNx.out
          have hbP : w1.heap.size ≠ P := by omega
          have C4 := fun x : RE.Gr wc P => x.cell d4 hbP
          have hPx : P < wc.heap.size := HTx.out.2.lt.1
          clear d0 d1' d2' d3 d4
          go_wp2_with fail
          refine RE.wp_region_eff (by kernel_rfl) 5 [3, 4] [3, 4] (fun s W => if s = 0 then W = wc.drew else RTurns wc P L cap ts r.2.1 r.2.2 W) (fun W W' => W.grownBy W' (some P))
            (fun i xs => if i = 3 then .agg #[xs.getD 0 undef, xs.getD 1 undef, xs.getD 2 undef, xs.getD 3 undef, xs.getD 4 undef] else .slice (some ⟨RE.natOf xs, 0, none⟩) 1 1)
            (fun i W xs => if i = 3 then GotR wc.heap.size (fun V => r.2.2 = false → V = r.1) W xs else GotRL wc.heap.size (fun V => r.2.2 = false → V = r.1) W xs) (by kernel_rfl) (fun i h1 h2 => by rw [h1] at h2; cases h2) ?_ rfl ?_
          · intro k W W' xs h _ hg
            split at h
            · rw [if_pos (by assumption)]; exact h.grown hPx hg
            · rw [if_neg (by assumption)]; exact h.grown hPx hg
          simp only [List.take_succ_cons, List.take_zero, List.drop_succ_cons, List.drop_zero, List.length_cons, List.length_nil, Nat.reduceAdd]
          have hcl : ∀ (n s : Nat) (W : World), s ≤ n → (if s = 0 then W = wc.drew else RTurns wc P L cap ts r.2.1 r.2.2 W) → ∃ x : RE.Gr wc P, W = x.1 := fun n s W _ h => by
            split at h
            · exact ⟨⟨W, by rw [h]; exact grown_drewN (World.grownBy.refl wc _) 1⟩, rfl⟩
            · exact ⟨⟨W, h.1⟩, rfl⟩
          have HCl := Lib.hid hcl
          clear hcl
          repeat (refine RE.wpE_read (fun W => ∃ x : RE.Gr wc P, W = x.1) (HCl.out _) rfl rfl rfl rfl ?_; go_big_quiet_step (fail); refine wpQuiet_nil ?_)
          refine RE.wpE_turn rfl rfl ?_ (fun xs3 => ?_)
          · intro W _ hS _
            obtain rfl : W = wc.drew := hS rfl
            refine RE.upon_call 112 _ _ rfl (enters_of Tryz.func112 (by kernel_rfl) rfl) #[.pointer (some ⟨P, 0, none⟩)] (by simp [Act.eval]) (HCall.out.mono ?_)
            rintro e W' ⟨V, d, s, rfl, hq, hT, ho, hf⟩
            exact ⟨_, rfl, [.int .u8 V.kind, .string V.text, .int .i64 V.num, .int .i64 V.place, s], rfl, hT.of_drew, hT.1, ⟨V, d, s, rfl, hq, ho, hf⟩⟩
          simp only [Act.put, List.setIfInBounds_toArray, List.set_cons_zero, List.set_cons_succ]
          refine RE.wpE_turn rfl rfl ?_ (fun xs4 => ?_)
          · intro W _ hS hφ
            have hT : RTurns wc P L cap ts r.2.1 r.2.2 W := hS rfl
            obtain ⟨V, d, s, rfl, hq, ho, hf⟩ : GotR wc.heap.size (fun V => r.2.2 = false → V = r.1) W xs3 := hφ 3 xs3 (by kernel_rfl) rfl
            obtain ⟨p, c, rfl⟩ := ho.shape
            refine RE.Upon.told (v := .slice (some ⟨W.heap.size, 0, none⟩) 1 1) (w' := W.alloc (.cells (nodeCells V (.slice p V.kids.length c)).toArray 25)) ?_ ⟨[.int .i64 W.heap.size], rfl, hT.alloc _, ?_, ?_⟩
            · unfold RE.Upon
              go_simp
              rfl
            · exact grown_of_below ((Below.refl _ W).alloc (Nat.le_refl _) _) _
            · refine ⟨V, d, W.heap.size, W.heap.size, _, rfl, hq, heap_alloc_new W _, ?_, hf, hT.1.size, Nat.le_refl _⟩
              exact ho.below (fun b hb => hb.2) ((Below.refl _ W).alloc (Nat.le_refl _) _)
          simp only [Act.put, List.setIfInBounds_toArray, List.set_cons_zero, List.set_cons_succ]
          refine RE.wpE_nil ?_
          intro W3 hS hE
          have hT3 : RTurns wc P L cap ts r.2.1 r.2.2 W3 := hS
          obtain ⟨V, d2, gg, N, s2, rfl, hq2, hgg, ho2, hf2, hN1, hN2⟩ := (show GotRL wc.heap.size (fun V => r.2.2 = false → V = r.1) W3 xs4 from hE 4 xs4 rfl)
          have hl3 : wc.heap.size ≤ W3.heap.size := hT3.1.size
          have hown3 := ownsRow_turn HOwnx.out hT3.1 (by omega)
          refine wpList_append_lies W3 rfl (.tmp 57) (.tmp 60) 23 rfl (w1.heap.size + 1) 25 i0 _ 5 64 Tryz.underlying23 hi0 hz0 hz1 hz2 rfl (by decide) o ks.length rows.flatten rfl hown3 ⟨gg, 0, none⟩ 1 1 (nodeCells V s2) rfl rfl
            (fun j u hu => by rw [Addr.add_mid, cell_of_row _ _ _ _ _ _ hgg, Nat.zero_add]; simpa using hu) (by have := ho2.shape; obtain ⟨p, c, rfl⟩ := this; simp [Value.oneCell', nodeCells]) (by decide) (by unfold maxLen; omega) (by omega) (by omega) _ rfl ?_
          intro g7 cap7 w7 happ hgrow hlies _
          obtain ⟨d', rows', Fs', u1, u2, u3, u4, u5, u6⟩ := rup_next (w := w) hP HL.out (Nat.le_of_lt hnb) (show w1.heap.size < w1.heap.size + 1 by omega) (by omega) HTx.out HNx.out HOwnx.out HRowsx.out hT3 hgg ho2 hf2 hN1 hN2 happ hgrow hlies
          have x4 := frozen5 u6 4
          obtain ⟨d0, d1', d2', d3, d4⟩ := cells5 u6
          obtain ⟨Wn, hWn⟩ : ∃ Wn, Wn = w7.setCell ⟨w1.heap.size, 4, none⟩ (.slice (some ⟨g7, 0, none⟩) (ks.length + 1) cap7) := ⟨_, rfl⟩
          rw [← hWn] at u1 u2 u3 u4 u5
          have hlen' : (ks ++ [V]).length ≤ r.2.1 + (if r.2.2 = true then 1 else 0) := by
            have h1 := u1.2.k
            rw [List.length_append, List.length_singleton]
            rcases HOn.out with h | h
            · rw [if_pos h]
              have := HGe1.out
              omega
            · split <;> omega
          have HRel2 : Hid (RUpRel w P L cap ts (condM ts (argM ts)) tTo Rc x2 sa.1 at_ w1.heap.size Wn) :=
            ⟨g', _, ks ++ [V], r.2, d', rows', Fs', _, HR2.out, fun hb => by rw [hq2 hb], HG'.out, hlen', u1, (u2 w.heap.size (by omega) (by omega) (by omega)).trans HXx.out, u3, u4, u5⟩
          have HMeas : Hid (stepsR ts.length P Wn < stepsR ts.length P wr) := by
            show _ < _
            rw [u1.2.steps, HSt.out, if_neg (show ¬ σc.2 = true by rw [HNb.out]; decide)]
            have h1 := u1.2.k
            have h3 := HGe1.out
            rcases HOn.out with h | h
            · rw [if_pos h]; omega
            · split <;> omega
          have HWn := Lib.hid hWn
          clear u1 u2 u3 u4 u5 hlen' hlies hgrow happ hE hS hT3 hown3 hgg ho2 C4 hq2
          go_wp2_with fail
          rw [← HWn.out]
          exact ⟨HRel2.out, HMeas.out⟩
        | false =>
          have hRR : Rc = (KS, σc) := by
            rw [← HUp.out]
            have h2 := HB.out
            cases g with
            | zero => rfl
            | succ g =>
              unfold upTo
              by_cases hbb : σc.2 = true
              · rw [if_pos hbb]
              · rw [if_neg hbb, if_pos (by rw [HBs.out]; simpa [hbb] using h2)]
          have HE := Lib.hid hRR
          clear hRR HUp HG HSt HB
          go_wp2_with fail
          refine Calls.mono (rwant6_any HTx.out.2 tTo (by rw [ByteArray.toList_eq]; decide)) ?_
          rintro e we ⟨rfl, hT⟩
          have HTe := Lib.hid (HTx.out.trans hT)
          have HXe := Lib.hid (hT.box HXx.out hP (Nat.le_refl _))
          have HNe := Lib.hid (hT.box HNx.out hP (Nat.le_of_lt hnb))
          have HOwne := Lib.hid (ownsRow_turn HOwnx.out hT.1 (by omega))
          have HRowse := Lib.hid (HRowsx.out.turn hT.1 (by omega))
          obtain ⟨σe, hσe⟩ : ∃ x, wantM ts σc tTo = x := ⟨_, rfl⟩
          have hRf := HRf.out
          rw [HE.out] at hRf
          dsimp only at hRf
          rw [hσe] at hRf
          obtain ⟨Rz, hRz⟩ : ∃ x, upTo ts (actM ts) tRight (ts.length + 1) KS σe = x := ⟨_, rfl⟩
          rw [hRz] at hRf
          have hwge := wantM_ge ts σc tTo
          have hwb : σc.2 = true → (wantM ts σc tTo).2 = true := fun h => wantM_bad h tTo
          rw [hσe] at HTe hwge hwb
          have hlene : ks.length ≤ σe.1 + (if σe.2 = true then 1 else 0) := by
            have h1 := HLen.out
            by_cases h : σc.2 = true
            · rw [if_pos h] at h1; rw [if_pos (hwb h)]; omega
            · rw [if_neg h] at h1; omega
          have hKe : σe.2 = false → ks = KS := fun h => HK.out (by cases hc : σc.2 with | false => rfl | true => rw [hwb hc] at h; cases h)
          have HRel : Hid (RUpRel w P L cap ts (actM ts) tRight Rz x2 sa.1 at_ w1.heap.size we) :=
            ⟨ts.length + 1, KS, ks, σe, dd, rows, Fs, o, hRz, hKe, Or.inr (by omega), hlene, HTe.out, HXe.out, HNe.out, HOwne.out, HRowse.out⟩
          clear HRf HRc
          have HRf := Lib.hid hRf
          clear hσe hRz hlene hwge hwb hRf hKe hT HOwne HRowse HOwnx HRowsx HNx HXx HTx HNe HXe HTe HK HE HLen HBs hlx
          go_wp2_with fail
          go_loopw [] (fun wr => RUpRel w P L cap ts (actM ts) tRight Rz x2 sa.1 at_ w1.heap.size wr) (fun wr => stepsR ts.length P wr)
          case atStart => exact HRel.out
          case round =>
            clear HRel
            obtain ⟨g, KS, ks, σc, dd, rows, Fs, o, hup, hK, hg, hlen, hT, hx, hn, hown, hrows⟩ := hrel
            have HTr := Lib.hid hT
            have HUp := Lib.hid hup
            have HK := Lib.hid hK
            have HG := Lib.hid hg
            have HLen := Lib.hid hlen
            have HXr := Lib.hid hx
            have HNr := Lib.hid hn
            have HOwn := Lib.hid hown
            have HRows := Lib.hid hrows
            have HSt := Lib.hid hT.2.steps
            have HIs := Lib.hid (ris6_any hT.2 tRight (by rw [ByteArray.toList_eq]; decide))
            obtain ⟨_, _, c2, _, _, _⟩ := hT.2.cells
            obtain ⟨bs, hbs⟩ : ∃ x, isM ts σc [tRight] = x := ⟨_, rfl⟩
            rw [hbs] at HIs
            have HBs := Lib.hid hbs
            clear hup hg hlen hT hx hn hown hrows hK hbs
            go_upto_region 23 with fail
            go_cut [74] from 65 to 74 (fun v wx => v = .bool (!σc.2 && !bs) ∧ Below wr.heap.size wr wx)
            case first =>
              obtain ⟨kc, bc⟩ := σc
              dsimp only at c2 HIs ⊢
              cases bc with
              | true =>
                go_wp2_with fail
                go_meet
                case rel => exact ⟨rfl, Below.refl _ _⟩
              | false =>
                go_wp2_with fail
                refine Calls.mono HIs.out ?_
                rintro e wx ⟨rfl, hbx⟩
                have HBx := Lib.hid hbx
                clear hbx
                go_wp2_with fail
                go_meet
                case rel => exact ⟨by cases bs <;> rfl, HBx.out⟩
            case rest =>
              obtain ⟨rfl, hbx⟩ := hcut
              have HTx := Lib.hid (HTr.out.of_below hbx)
              have HXx := Lib.hid (heap_below hbx HXr.out (Array.getElem?_eq_some_iff.1 HXr.out).1)
              have HNx := Lib.hid (heap_below hbx HNr.out (Array.getElem?_eq_some_iff.1 HNr.out).1)
              have HOwnx := Lib.hid (ownsRow_turn HOwn.out (grown_of_below hbx (some P)) (by omega))
              have HRowsx := Lib.hid (HRows.out.turn (grown_of_below hbx (some P)) (by omega))
              have hlx : w1.heap.size < wc.heap.size := (Array.getElem?_eq_some_iff.1 HNx.out).1
              clear hbx HTr HXr HNr HOwn HRows c2 HIs
              obtain ⟨b, hb⟩ : ∃ b, (!σc.2 && !bs) = b := ⟨_, rfl⟩
              rw [hb]
              have HB := Lib.hid hb
              clear hb
              cases b with
              | true =>
                have hnb2 : σc.2 = false := by have := HB.out; cases h : σc.2 <;> simp [h] at this ⊢
                have hns : isM ts σc [tRight] = false := by have := HB.out; rw [hnb2] at this; rw [HBs.out]; simpa using this
                have hks := HK.out hnb2
                subst hks
                have hkc := HTx.out.2.k
                have hkn := HTx.out.2.n
                have hll := HLen.out
                rw [hnb2] at hll
                simp only [Bool.false_eq_true, if_false, Nat.add_zero] at hll
                obtain ⟨g', hg', hR2⟩ : ∃ g', (((actM ts) σc).2.2 = true ∨ ts.length - ((actM ts) σc).2.1 + 1 ≤ g') ∧ upTo ts (actM ts) tRight g' (ks ++ [((actM ts) σc).1]) ((actM ts) σc).2 = Rz := by
                  have h1 := HUp.out
                  have h2 := HG.out
                  rw [hnb2] at h2
                  have h2' : ts.length - σc.1 + 1 ≤ g := by rcases h2 with h | h; cases h; exact h
                  cases g with
                  | zero => omega
                  | succ g =>
                    unfold upTo at h1
                    rw [if_neg (by rw [hnb2]; decide), if_neg (by rw [hns]; decide)] at h1
                    refine ⟨g, ?_, h1⟩
                    rcases (actM_on HTS.out hkc) with h | h
                    · exact Or.inl h
                    · exact Or.inr (by omega)
                have hon := (actM_on HTS.out hkc)
                have HGe1 : Hid (σc.1 ≤ ((actM ts) σc).2.1) := actM_ge ts σc
                have HCall := Lib.hid (ract6_any HTS.out HTx.out.2.drew)
                have HG' := Lib.hid hg'
                have HR2 := Lib.hid hR2
                have HOn := Lib.hid hon
                have HNb := Lib.hid hnb2
                clear hg' hR2 hon hns hnb2
                generalize (actM ts) σc = r at *
                obtain ⟨d0, d1', d2', d3, d4⟩ := cells5 HNx.out
                have hbP : w1.heap.size ≠ P := by omega
                have C4 := fun x : RE.Gr wc P => x.cell d4 hbP
                have hPx : P < wc.heap.size := HTx.out.2.lt.1
                clear d0 d1' d2' d3 d4
                go_wp2_with fail
                refine RE.wp_region_eff (by kernel_rfl) 5 [3, 4] [3, 4] (fun s W => if s = 0 then W = wc.drew else RTurns wc P L cap ts r.2.1 r.2.2 W) (fun W W' => W.grownBy W' (some P))
                  (fun i xs => if i = 3 then .agg #[xs.getD 0 undef, xs.getD 1 undef, xs.getD 2 undef, xs.getD 3 undef, xs.getD 4 undef] else .slice (some ⟨RE.natOf xs, 0, none⟩) 1 1)
                  (fun i W xs => if i = 3 then GotR wc.heap.size (fun V => r.2.2 = false → V = r.1) W xs else GotRL wc.heap.size (fun V => r.2.2 = false → V = r.1) W xs) (by kernel_rfl) (fun i h1 h2 => by rw [h1] at h2; cases h2) ?_ rfl ?_
                · intro k W W' xs h _ hg
                  split at h
                  · rw [if_pos (by assumption)]; exact h.grown hPx hg
                  · rw [if_neg (by assumption)]; exact h.grown hPx hg
                simp only [List.take_succ_cons, List.take_zero, List.drop_succ_cons, List.drop_zero, List.length_cons, List.length_nil, Nat.reduceAdd]
                have hcl : ∀ (n s : Nat) (W : World), s ≤ n → (if s = 0 then W = wc.drew else RTurns wc P L cap ts r.2.1 r.2.2 W) → ∃ x : RE.Gr wc P, W = x.1 := fun n s W _ h => by
                  split at h
                  · exact ⟨⟨W, by rw [h]; exact grown_drewN (World.grownBy.refl wc _) 1⟩, rfl⟩
                  · exact ⟨⟨W, h.1⟩, rfl⟩
                have HCl := Lib.hid hcl
                clear hcl
                repeat (refine RE.wpE_read (fun W => ∃ x : RE.Gr wc P, W = x.1) (HCl.out _) rfl rfl rfl rfl ?_; go_big_quiet_step (fail); refine wpQuiet_nil ?_)
                refine RE.wpE_turn rfl rfl ?_ (fun xs3 => ?_)
                · intro W _ hS _
                  obtain rfl : W = wc.drew := hS rfl
                  refine RE.upon_call 113 _ _ rfl (enters_of Tryz.func113 (by kernel_rfl) rfl) #[.pointer (some ⟨P, 0, none⟩)] (by simp [Act.eval]) (HCall.out.mono ?_)
                  rintro e W' ⟨V, d, s, rfl, hq, hT, ho, hf⟩
                  exact ⟨_, rfl, [.int .u8 V.kind, .string V.text, .int .i64 V.num, .int .i64 V.place, s], rfl, hT.of_drew, hT.1, ⟨V, d, s, rfl, hq, ho, hf⟩⟩
                simp only [Act.put, List.setIfInBounds_toArray, List.set_cons_zero, List.set_cons_succ]
                refine RE.wpE_turn rfl rfl ?_ (fun xs4 => ?_)
                · intro W _ hS hφ
                  have hT : RTurns wc P L cap ts r.2.1 r.2.2 W := hS rfl
                  obtain ⟨V, d, s, rfl, hq, ho, hf⟩ : GotR wc.heap.size (fun V => r.2.2 = false → V = r.1) W xs3 := hφ 3 xs3 (by kernel_rfl) rfl
                  obtain ⟨p, c, rfl⟩ := ho.shape
                  refine RE.Upon.told (v := .slice (some ⟨W.heap.size, 0, none⟩) 1 1) (w' := W.alloc (.cells (nodeCells V (.slice p V.kids.length c)).toArray 25)) ?_ ⟨[.int .i64 W.heap.size], rfl, hT.alloc _, ?_, ?_⟩
                  · unfold RE.Upon
                    go_simp
                    rfl
                  · exact grown_of_below ((Below.refl _ W).alloc (Nat.le_refl _) _) _
                  · refine ⟨V, d, W.heap.size, W.heap.size, _, rfl, hq, heap_alloc_new W _, ?_, hf, hT.1.size, Nat.le_refl _⟩
                    exact ho.below (fun b hb => hb.2) ((Below.refl _ W).alloc (Nat.le_refl _) _)
                simp only [Act.put, List.setIfInBounds_toArray, List.set_cons_zero, List.set_cons_succ]
                refine RE.wpE_nil ?_
                intro W3 hS hE
                have hT3 : RTurns wc P L cap ts r.2.1 r.2.2 W3 := hS
                obtain ⟨V, d2, gg, N, s2, rfl, hq2, hgg, ho2, hf2, hN1, hN2⟩ := (show GotRL wc.heap.size (fun V => r.2.2 = false → V = r.1) W3 xs4 from hE 4 xs4 rfl)
                have hl3 : wc.heap.size ≤ W3.heap.size := hT3.1.size
                have hown3 := ownsRow_turn HOwnx.out hT3.1 (by omega)
                refine wpList_append_lies W3 rfl (.tmp 76) (.tmp 79) 23 rfl (w1.heap.size + 1) 25 i0 _ 5 64 Tryz.underlying23 hi0 hz0 hz1 hz2 rfl (by decide) o ks.length rows.flatten rfl hown3 ⟨gg, 0, none⟩ 1 1 (nodeCells V s2) rfl rfl
                  (fun j u hu => by rw [Addr.add_mid, cell_of_row _ _ _ _ _ _ hgg, Nat.zero_add]; simpa using hu) (by have := ho2.shape; obtain ⟨p, c, rfl⟩ := this; simp [Value.oneCell', nodeCells]) (by decide) (by unfold maxLen; omega) (by omega) (by omega) _ rfl ?_
                intro g7 cap7 w7 happ hgrow hlies _
                obtain ⟨d', rows', Fs', u1, u2, u3, u4, u5, u6⟩ := rup_next (w := w) hP HL.out (Nat.le_of_lt hnb) (show w1.heap.size < w1.heap.size + 1 by omega) (by omega) HTx.out HNx.out HOwnx.out HRowsx.out hT3 hgg ho2 hf2 hN1 hN2 happ hgrow hlies
                have x4 := frozen5 u6 4
                obtain ⟨d0, d1', d2', d3, d4⟩ := cells5 u6
                obtain ⟨Wn, hWn⟩ : ∃ Wn, Wn = w7.setCell ⟨w1.heap.size, 4, none⟩ (.slice (some ⟨g7, 0, none⟩) (ks.length + 1) cap7) := ⟨_, rfl⟩
                rw [← hWn] at u1 u2 u3 u4 u5
                have hlen' : (ks ++ [V]).length ≤ r.2.1 + (if r.2.2 = true then 1 else 0) := by
                  have h1 := u1.2.k
                  rw [List.length_append, List.length_singleton]
                  rcases HOn.out with h | h
                  · rw [if_pos h]
                    have := HGe1.out
                    omega
                  · split <;> omega
                have HRel2 : Hid (RUpRel w P L cap ts (actM ts) tRight Rz x2 sa.1 at_ w1.heap.size Wn) :=
                  ⟨g', _, ks ++ [V], r.2, d', rows', Fs', _, HR2.out, fun hb => by rw [hq2 hb], HG'.out, hlen', u1, (u2 w.heap.size (by omega) (by omega) (by omega)).trans HXx.out, u3, u4, u5⟩
                have HMeas : Hid (stepsR ts.length P Wn < stepsR ts.length P wr) := by
                  show _ < _
                  rw [u1.2.steps, HSt.out, if_neg (show ¬ σc.2 = true by rw [HNb.out]; decide)]
                  have h1 := u1.2.k
                  have h3 := HGe1.out
                  rcases HOn.out with h | h
                  · rw [if_pos h]; omega
                  · split <;> omega
                have HWn := Lib.hid hWn
                clear u1 u2 u3 u4 u5 hlen' hlies hgrow happ hE hS hT3 hown3 hgg ho2 C4 hq2
                go_wp2_with fail
                rw [← HWn.out]
                exact ⟨HRel2.out, HMeas.out⟩
              | false =>
                have hRR : Rz = (KS, σc) := by
                  rw [← HUp.out]
                  have h2 := HB.out
                  cases g with
                  | zero => rfl
                  | succ g =>
                    unfold upTo
                    by_cases hbb : σc.2 = true
                    · rw [if_pos hbb]
                    · rw [if_neg hbb, if_pos (by rw [HBs.out]; simpa [hbb] using h2)]
                have HE := Lib.hid hRR
                clear hRR HUp HG HSt HB
                go_wp2_with fail
                refine Calls.mono (rwant6_any HTx.out.2 tRight (by rw [ByteArray.toList_eq]; decide)) ?_
                rintro e wf ⟨rfl, hT⟩
                have HTf := Lib.hid (HTx.out.trans hT)
                have y0 := hT.box HXx.out hP (Nat.le_refl _)
                have yn := hT.box HNx.out hP (Nat.le_of_lt hnb)
                have hO7 : OwnAt wf (dd + 1) ks o (Between (w1.heap.size + 1) wf.heap.size) := own_fin (d := dd + 1) rfl (ownsRow_turn HOwnx.out hT.1 (by omega)) (HRowsx.out.turn hT.1 (by omega)) (fun h => by omega)
                obtain ⟨pf, cf, ho⟩ := hO7.shape
                subst ho
                have HO7 := Lib.hid hO7
                have HY0 := Lib.hid y0
                obtain ⟨a0, a1, a2, a3, a4⟩ := cells5 y0
                have z0 := frozen5 y0 0
                have z1 := frozen5 y0 1
                have z2 := frozen5 y0 2
                have z3 := frozen5 y0 3
                have z4 := frozen5 y0 4
                obtain ⟨e0, e1, e2, e3, e4⟩ := cells5 yn
                clear hT y0 yn hO7
                go_wp2_with fail
                refine ret_node Tryz.results66 rfl (heap_set5 HY0.out _ _ _ _ _) rfl ?_
                rw [← HRf.out, HE.out]
                exact RRes.stored (r := (.mk 4 x2 sa.1 at_ KS, wantM ts σc tRight)) (T := .mk 4 x2 sa.1 at_ ks) hP HL.out HTf.out (fun hb => by rw [HK.out (want_ok hb)]) HO7.out ⟨by show (4 : Nat) < 256; omega, by show x2.size ≤ maxLen; have := HXs.out; unfold maxLen; omega, by show (-9223372036854775808 : Int) ≤ sa.1; have := HSm.out; omega, by show sa.1 < 9223372036854775808; have := HSm.out; omega, by show (-9223372036854775808 : Int) ≤ at_; have := HAt.out; omega, by show at_ < 9223372036854775808; have := HAt.out; omega⟩ (Nat.le_refl _) (by omega) _ _ _ _ _
end Go.Proofs.YtfpohaipmnjflaaGreatDoor
