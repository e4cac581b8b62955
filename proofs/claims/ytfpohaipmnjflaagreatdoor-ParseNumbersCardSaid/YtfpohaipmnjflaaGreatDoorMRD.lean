/- Several texts joined, each with its own sentence and conditions ahead of it: RdF, RdG, RdH. -/
import Derived.Test.YtfpohaipmnjflaaGreatDoorMRC
import Derived.Test.YtfpohaipmnjflaaGreatDoorMX
/- The document's reader: an argument; by contract. Condition: at most 16385 tokens, each of at most 16384 bytes. (Printed by tools/genRd.py.) -/
namespace Go.Proofs.YtfpohaipmnjflaaGreatDoor
open Go.RowKit
set_option maxRecDepth 100000 in
set_option maxHeartbeats 4000000 in
theorem rarg6_any {ts : List Tok} (hts : TsOk ts) {w : World} {P L cap : Nat} {σ : PS} (h : RAt w P L cap ts σ.1 σ.2) :
    Calls Tryz.prog 144 #[.pointer (some ⟨P, 0, none⟩)] w (RRes w P L cap ts (argM ts σ)) := by
  have hb0 : Below w.heap.size w (w.alloc (.cells zeroN 25)) := (Below.refl _ w).alloc (Nat.le_refl _) _
  have HC := Lib.hid (rnow6_res (h.below hb0))
  have H0 := Lib.hid (h.turns hb0)
  have hP := h.lt.1
  have HL := Lib.hid h.lt.2
  have HX := Lib.hid (heap_alloc_new w (.cells zeroN 25))
  have HTS := Lib.hid hts
  have hR : argM ts σ = (if isM ts σ [tAny] = true then (.mk 12 ⟨#[]⟩ 0 (atM ts σ) [], nextM ts σ)
    else if isM ts σ [tMinus] = true then (.mk 14 (tMinus ++ txM ts (nextM ts σ)) 0 (atM ts σ) [], (ofM ts (nextM ts σ) 4 14).2)
    else if kdM ts σ = 5 then ofM ts σ 5 15 else if kdM ts σ = 3 then ofM ts σ 3 13 else ofM ts σ 4 14) := rfl
  obtain ⟨R, hRR⟩ : ∃ R, argM ts σ = R := ⟨_, rfl⟩
  rw [hRR]
  rw [hRR] at hR
  have HR := Lib.hid hR
  have hat : 0 ≤ atM ts σ ∧ atM ts σ ≤ 16384 := by
    obtain ⟨_, _, g3⟩ := tokM_ok hts σ.1
    unfold atM
    omega
  obtain ⟨kd, hkd⟩ : ∃ kd, kdM ts σ = kd := ⟨_, rfl⟩
  obtain ⟨at_, hatE⟩ : ∃ kd, atM ts σ = kd := ⟨_, rfl⟩
  rw [hatE] at hat
  rw [hkd, hatE] at HC HR
  have HKd := Lib.hid hkd
  have HAt := Lib.hid hat
  clear h hb0 hts hRR hR hkd hatE hat
  generalize txM ts σ = tx at HC
  go_enter Tryz.func144, Tryz.ntmps144
  go_wp2_with fail
  refine Calls.mono HC.out ?_
  rintro e w0 ⟨rfl, hb1⟩
  obtain ⟨w1, hw1⟩ : ∃ w1, w1 = w0.alloc (.cells #[.int .u8 kd, .string tx, .int .i64 at_] 67) := ⟨_, rfl⟩
  have hb2 : Below w0.heap.size w0 w1 := by rw [hw1]; exact (Below.refl _ w0).alloc (Nat.le_refl _) _
  have hxm : w1.heap[w0.heap.size]? = some (.cells #[.int .u8 kd, .string tx, .int .i64 at_] 67 (0, 0)) := by rw [hw1]; exact heap_alloc_new w0 _
  have hx0 := heap_below hb1 HX.out (by simp)
  have hl0 : w.heap.size < w0.heap.size := (Array.getElem?_eq_some_iff.1 hx0).1
  have HT1 := Lib.hid (H0.out.of_below (hb1.trans (hb2.mono hb1.size)))
  have HX1 := Lib.hid (heap_below hb2 hx0 hl0)
  have HM1 := Lib.hid hxm
  have hl1 : w.heap.size < w1.heap.size := (Array.getElem?_eq_some_iff.1 HX1.out).1
  have HI1 := Lib.hid (ris6_any HT1.out.2 tAny (by rw [ByteArray.toList_eq]; decide))
  have HW := Lib.hid hw1
  clear hb1 hb2 hxm hx0 hw1
  obtain ⟨m1, hm1⟩ : ∃ x, isM ts σ [tAny] = x := ⟨_, rfl⟩
  obtain ⟨m2, hm2⟩ : ∃ x, isM ts σ [tMinus] = x := ⟨_, rfl⟩
  rw [hm1] at HI1
  rw [hm1, hm2] at HR
  have HM := Lib.hid hm2
  clear hm1 hm2
  go_upto_region 2 with fail
  change Code.wp _ _ _ _ (w0.alloc (.cells #[.int .u8 kd, .string tx, .int .i64 at_] 67))
  rw [← HW.out]
  clear HW
  go_wp2_with fail
  refine Calls.mono HI1.out ?_
  rintro e w2 ⟨rfl, hb2⟩
  have HT2 := Lib.hid (HT1.out.of_below hb2)
  have HX2 := Lib.hid (heap_below hb2 HX1.out hl1)
  have HM2 := Lib.hid (heap_below hb2 HM1.out (Array.getElem?_eq_some_iff.1 HM1.out).1)
  have hl2 : w.heap.size < w2.heap.size := (Array.getElem?_eq_some_iff.1 HX2.out).1
  clear hb2
  cases m1 with
  | true =>
    have hR : (.mk 12 ⟨#[]⟩ 0 at_ [], nextM ts σ) = R := HR.out.symm
    have HRR := Lib.hid hR
    clear hR HR
    go_wp2_with fail
    refine Calls.mono (rnext6_res HT2.out.2) ?_
    rintro e w3 ⟨rfl, hT3⟩
    have HT3 := Lib.hid (HT2.out.trans hT3)
    have y0 := hT3.box HX2.out hP (Nat.le_refl _)
    have HY0 := Lib.hid y0
    obtain ⟨a0, a1, a2, a3, a4⟩ := cells5 y0
    have z0 := frozen5 y0 0
    have z1 := frozen5 y0 1
    have z2 := frozen5 y0 2
    have z3 := frozen5 y0 3
    have z4 := frozen5 y0 4
    obtain ⟨b0, b1, b2, _, _, _⟩ := cells3 (hT3.box HM2.out hP (Nat.le_of_lt hl0))
    clear hT3 y0
    go_wp2_with fail
    refine ret_node Tryz.results144 rfl (heap_set5 HY0.out _ _ _ _ _) rfl ?_
    rw [← HRR.out]
    exact RRes.stored (r := (.mk 12 ⟨#[]⟩ 0 at_ [], nextM ts σ)) (T := .mk 12 ⟨#[]⟩ 0 at_ []) (B := w.heap.size + 1) hP HL.out HT3.out (fun _ => rfl) (own_nil _ _) (fits_mk (by omega) (by show (0 : Nat) ≤ 16384; omega) HAt.out.1 HAt.out.2) (Nat.le_refl _) (by omega) _ _ _ _ _
  | false =>
  have HI2 := Lib.hid (ris6_any HT2.out.2 tMinus (by rw [ByteArray.toList_eq]; decide))
  rw [HM.out] at HI2
  go_wp2_with fail
  refine Calls.mono HI2.out ?_
  rintro e w3 ⟨rfl, hb3⟩
  have HT3 := Lib.hid (HT2.out.of_below hb3)
  have HX3 := Lib.hid (heap_below hb3 HX2.out hl2)
  have HM3 := Lib.hid (heap_below hb3 HM2.out (Array.getElem?_eq_some_iff.1 HM2.out).1)
  have hl3 : w.heap.size < w3.heap.size := (Array.getElem?_eq_some_iff.1 HX3.out).1
  clear hb3
  cases m2 with
  | true =>
    obtain ⟨k2, x2, p2, ht2⟩ : ∃ a b c, tokM ts (nextM ts σ).1 = (a, b, c) := ⟨_, _, _, rfl⟩
    have hxs : x2.size ≤ 16384 := by have := (tokM_ok HTS.out (nextM ts σ).1).2.1; rw [ht2] at this; exact this
    have hR : (.mk 14 (tMinus ++ x2) 0 at_ [], (ofM ts (nextM ts σ) 4 14).2) = R := by
      rw [HR.out]
      show _ = (Tree.mk 14 (tMinus ++ txM ts (nextM ts σ)) 0 at_ [], (ofM ts (nextM ts σ) 4 14).2)
      unfold txM
      rw [ht2]
    have HRR := Lib.hid hR
    clear hR HR
    go_wp2_with fail
    refine Calls.mono (rnext6_res HT3.out.2) ?_
    rintro e w4 ⟨rfl, hT4⟩
    have HT4 := Lib.hid (HT3.out.trans hT4)
    have HX4 := Lib.hid (hT4.box HX3.out hP (Nat.le_refl _))
    have HM4 := Lib.hid (hT4.box HM3.out hP (Nat.le_of_lt hl0))
    have hC4 := rof6_raw HT4.out.2 (tokM_at HT4.out.2.k) 4 14
    rw [ht2] at hC4
    have HC4 := Lib.hid hC4
    have hof : ((ofM ts (nextM ts σ) 4 14).2.1, (ofM ts (nextM ts σ) 4 14).2.2) = (nextK ts.length (nextM ts σ).1 ((nextM ts σ).2 || k2 != 4), ((nextM ts σ).2 || k2 != 4)) := by
      show (nextK ts.length (nextM ts σ).1 ((nextM ts σ).2 || (tokM ts (nextM ts σ).1).1 != 4), ((nextM ts σ).2 || (tokM ts (nextM ts σ).1).1 != 4)) = _
      rw [ht2]
    have HOf := Lib.hid hof
    clear hT4 hC4 hof ht2
    go_wp2_with fail
    refine Calls.mono HC4.out ?_
    rintro e w5 ⟨rfl, hT5⟩
    have HT5 := Lib.hid (HT4.out.trans hT5)
    have y0 := hT5.box HX4.out hP (Nat.le_refl _)
    have HY0 := Lib.hid y0
    have ym := hT5.box HM4.out hP (Nat.le_of_lt hl0)
    have HYm := Lib.hid ym
    have hl5 : w.heap.size < w5.heap.size := (Array.getElem?_eq_some_iff.1 y0).1
    have hl05 : w0.heap.size < w5.heap.size := (Array.getElem?_eq_some_iff.1 ym).1
    have hcat : (tMinus ++ x2).size ≤ 16385 := by
      have : (tMinus ++ x2).size = 1 + x2.size := by rw [ByteArray.size_append]; rfl
      omega
    have hcat' : ((⟨#[45]⟩ : ByteArray) ++ x2).size ≤ 16385 := hcat
    clear hT5
    go_upto_region 8 with fail
    obtain ⟨w6, hw6⟩ : ∃ w6, w6 = w5.alloc (.cells #[.int .u8 ((14 : Nat) : Int), .string x2, .int .i64 0, .int .i64 p2, .slice none 0 0] 25) := ⟨_, rfl⟩
    have hb6 : Below w5.heap.size w5 w6 := by rw [hw6]; exact (Below.refl _ w5).alloc (Nat.le_refl _) _
    have hx6 : w6.heap[w5.heap.size]? = some (.cells #[.int .u8 ((14 : Nat) : Int), .string x2, .int .i64 0, .int .i64 p2, .slice none 0 0] 25 (0, 0)) := by rw [hw6]; exact heap_alloc_new w5 _
    change Code.wp _ _ _ _ (w5.alloc (.cells #[.int .u8 ((14 : Nat) : Int), .string x2, .int .i64 0, .int .i64 p2, .slice none 0 0] 25))
    rw [← hw6]
    clear hw6
    have HX6 := Lib.hid hx6
    have HT6 := Lib.hid (HT5.out.of_below hb6)
    have HY6 := Lib.hid (heap_below hb6 y0 hl5)
    have HYm6 := Lib.hid (heap_below hb6 ym hl05)
    clear hb6 y0 ym
    obtain ⟨e0, e1, e2, e3, e4⟩ := cells5 hx6
    have f1 := frozen5 hx6 1
    have f3 := frozen5 hx6 3
    obtain ⟨b0, b1, b2, _, _, _⟩ := cells3 HYm6.out
    have hl6 : w5.heap.size < w6.heap.size := (Array.getElem?_eq_some_iff.1 hx6).1
    clear hx6
    have hne : w0.heap.size ≠ w5.heap.size := by omega
    go_upto_region 10 with fail
    obtain ⟨w7, hw7⟩ : ∃ w7, w7 = (w6.setCell ⟨w5.heap.size, 1, none⟩ (.string (tMinus ++ x2))).setCell ⟨w5.heap.size, 3, none⟩ (.int .i64 at_) := ⟨_, rfl⟩
    have hx7 := heap_set (heap_set HX6.out 1 (.string (tMinus ++ x2))) 3 (.int .i64 at_)
    have hy7 : w7.heap[w.heap.size]? = some (.cells zeroN 25 (0, 0)) := by rw [hw7]; exact (Below.heap_setCell _ _ _ w.heap.size (by show w.heap.size ≠ w5.heap.size; omega)).trans ((Below.heap_setCell _ _ _ w.heap.size (by show w.heap.size ≠ w5.heap.size; omega)).trans HY6.out)
    have HT7 : Hid (RTurns w P L cap ts (nextK ts.length (nextM ts σ).1 ((nextM ts σ).2 || k2 != 4)) ((nextM ts σ).2 || k2 != 4) w7) := by show RTurns _ _ _ _ _ _ _ _; rw [hw7]; exact (HT6.out.setCell hP HL.out (Nat.le_of_lt hl5) 1 _).setCell hP HL.out (Nat.le_of_lt hl5) 3 _
    change Code.wp _ _ _ _ ((w6.setCell ⟨w5.heap.size, 1, none⟩ (.string (tMinus ++ x2))).setCell ⟨w5.heap.size, 3, none⟩ (.int .i64 at_))
    rw [← hw7] at hx7 ⊢
    clear hw7 e0 e1 e2 e3 e4 f1 f3 b0 b1 b2
    have HY7 := Lib.hid hy7
    obtain ⟨e0, e1, e2, e3, e4⟩ := cells5 hx7
    obtain ⟨a0, a1, a2, a3, a4⟩ := cells5 hy7
    have z0 := frozen5 hy7 0
    have z1 := frozen5 hy7 1
    have z2 := frozen5 hy7 2
    have z3 := frozen5 hy7 3
    have z4 := frozen5 hy7 4
    clear hx7 hy7
    go_wp2_with fail
    refine ret_node Tryz.results144 rfl (heap_set5 HY7.out _ _ _ _ _) rfl ?_
    have hT9 := HT7.out
    rw [← (Prod.mk.inj HOf.out).1, ← (Prod.mk.inj HOf.out).2] at hT9
    rw [← HRR.out]
    exact RRes.stored (r := (.mk 14 (tMinus ++ x2) 0 at_ [], (ofM ts (nextM ts σ) 4 14).2)) (T := .mk 14 (tMinus ++ x2) 0 at_ []) (B := w.heap.size + 1) hP HL.out hT9 (fun _ => rfl) (own_nil _ _) ⟨by show (14 : Nat) < 256; omega, by show (tMinus ++ x2).size ≤ maxLen; unfold maxLen; omega, by show (-9223372036854775808 : Int) ≤ 0; omega, by show (0 : Int) < 9223372036854775808; omega, by show (-9223372036854775808 : Int) ≤ at_; have := HAt.out; omega, by show at_ < 9223372036854775808; have := HAt.out; omega⟩ (Nat.le_refl _) (by omega) _ _ _ _ _
  | false =>
  have hR : R = if kd = 5 then ofM ts σ 5 15 else if kd = 3 then ofM ts σ 3 13 else ofM ts σ 4 14 := HR.out
  have HRR := Lib.hid hR
  obtain ⟨b0, b1, b2, _, _, _⟩ := cells3 HM3.out
  clear hR HR
  by_cases hk3 : kd = 3
  · subst hk3
    have hR : R = ofM ts σ 3 13 := by rw [HRR.out]; rw [if_neg (by decide), if_pos rfl]
    have HRE := Lib.hid hR
    have HCall := Lib.hid (rof6_any HTS.out HT3.out.2 3 13 (by omega))
    clear hR
    go_wp2_with fail
    refine Calls.mono HCall.out ?_
    rintro e wZ ⟨TZ, dZ, sZ, rfl, hq, hT, ho, hf⟩
    obtain ⟨pZ, cZ, rfl⟩ := ho.shape
    have HTZ := Lib.hid (HT3.out.trans hT)
    have y0 := hT.box HX3.out hP (Nat.le_refl _)
    have HY0 := Lib.hid y0
    obtain ⟨a0, a1, a2, a3, a4⟩ := cells5 y0
    have z0 := frozen5 y0 0
    have z1 := frozen5 y0 1
    have z2 := frozen5 y0 2
    have z3 := frozen5 y0 3
    have z4 := frozen5 y0 4
    have HO := Lib.hid ho
    have HF := Lib.hid hf
    have HQ := Lib.hid hq
    clear hT y0 ho hf hq
    go_wp2_with fail
    refine ret_node Tryz.results144 rfl (heap_set5 HY0.out _ _ _ _ _) rfl ?_
    rw [HRE.out]
    exact RRes.stored hP HL.out HTZ.out HQ.out HO.out HF.out (Nat.le_refl _) hl3 _ _ _ _ _
  have k3 : ((kd : Int) == 3) = false := by simp; omega
  by_cases hk5 : kd = 5
  · subst hk5
    have hR : R = ofM ts σ 5 15 := by rw [HRR.out]; rw [if_pos rfl]
    have HRE := Lib.hid hR
    have HCall := Lib.hid (rof6_any HTS.out HT3.out.2 5 15 (by omega))
    clear hR
    go_wp2_with fail
    refine Calls.mono HCall.out ?_
    rintro e wZ ⟨TZ, dZ, sZ, rfl, hq, hT, ho, hf⟩
    obtain ⟨pZ, cZ, rfl⟩ := ho.shape
    have HTZ := Lib.hid (HT3.out.trans hT)
    have y0 := hT.box HX3.out hP (Nat.le_refl _)
    have HY0 := Lib.hid y0
    obtain ⟨a0, a1, a2, a3, a4⟩ := cells5 y0
    have z0 := frozen5 y0 0
    have z1 := frozen5 y0 1
    have z2 := frozen5 y0 2
    have z3 := frozen5 y0 3
    have z4 := frozen5 y0 4
    have HO := Lib.hid ho
    have HF := Lib.hid hf
    have HQ := Lib.hid hq
    clear hT y0 ho hf hq
    go_wp2_with fail
    refine ret_node Tryz.results144 rfl (heap_set5 HY0.out _ _ _ _ _) rfl ?_
    rw [HRE.out]
    exact RRes.stored hP HL.out HTZ.out HQ.out HO.out HF.out (Nat.le_refl _) hl3 _ _ _ _ _
  have k5 : ((kd : Int) == 5) = false := by simp; omega
  have hR : R = ofM ts σ 4 14 := by rw [HRR.out, if_neg hk5, if_neg hk3]
  have HRE := Lib.hid hR
  have HCall := Lib.hid (rof6_any HTS.out HT3.out.2 4 14 (by omega))
  clear hR hk3 hk5
  go_wp2_with fail
  refine Calls.mono HCall.out ?_
  rintro e wZ ⟨TZ, dZ, sZ, rfl, hq, hT, ho, hf⟩
  obtain ⟨pZ, cZ, rfl⟩ := ho.shape
  have HTZ := Lib.hid (HT3.out.trans hT)
  have y0 := hT.box HX3.out hP (Nat.le_refl _)
  have HY0 := Lib.hid y0
  obtain ⟨a0, a1, a2, a3, a4⟩ := cells5 y0
  have z0 := frozen5 y0 0
  have z1 := frozen5 y0 1
  have z2 := frozen5 y0 2
  have z3 := frozen5 y0 3
  have z4 := frozen5 y0 4
  have HO := Lib.hid ho
  have HF := Lib.hid hf
  have HQ := Lib.hid hq
  clear hT y0 ho hf hq
  go_wp2_with fail
  refine ret_node Tryz.results144 rfl (heap_set5 HY0.out _ _ _ _ _) rfl ?_
  rw [HRE.out]
  exact RRes.stored hP HL.out HTZ.out HQ.out HO.out HF.out (Nat.le_refl _) hl3 _ _ _ _ _
end Go.Proofs.YtfpohaipmnjflaaGreatDoor
/- The document's reader: a row in brackets; by contract. Condition: at most 16385 tokens, each of at most 16384 bytes. (Printed by tools/genRd.py.) -/
namespace Go.Proofs.YtfpohaipmnjflaaGreatDoor
open Go.RowKit

/-- what a call of the reader that reads a list hands back -/
def RLst (w : World) (P L cap : Nat) (ts : List Tok) (r : List Tree × PS) (e : Ending) (w' : World) : Prop :=
  ∃ (ks : List Tree) (d : Nat) (s : Value), e = .returned s ∧ (r.2.2 = false → ks = r.1) ∧ RTurns w P L cap ts r.2.1 r.2.2 w' ∧ OwnAt w' d ks s (Between w.heap.size w'.heap.size)
theorem RTurns.grownO {w W W' : World} {P L cap : Nat} {ts : List Tok} {k : Nat} {bad : Bool} (h : RTurns w P L cap ts k bad W) (hP : P < w.heap.size) (hL : L < w.heap.size) {row : Option Nat} (hg : W.grownBy W' row) (hrow : ∀ g, row = some g → w.heap.size ≤ g) : RTurns w P L cap ts k bad W' := by
  have hk : ∀ i, i < w.heap.size → W'.heap[i]? = W.heap[i]? := fun i hi => hg.block i (Nat.lt_of_lt_of_le hi h.1.size) (fun e => by have := hrow i e.symm; omega)
  exact ⟨⟨hg.os.trans h.1.os, hg.tape.trans h.1.tape, hg.output.trans h.1.output, Nat.le_trans h.1.size hg.size, fun i hi hne => (hk i hi).trans (h.1.block i hi hne)⟩, h.2.keep (hk P hP) (hk L hL)⟩
/-- the parts of a row -/
def rOne (ts : List Tok) (wh : Nat) : PS → Tree × PS := if wh = 0 then fun σ => ofM ts σ 2 3 else if wh = 1 then argM ts else exprM ts
theorem rOne_ge (ts : List Tok) (wh : Nat) (σ : PS) : σ.1 ≤ (rOne ts wh σ).2.1 := by
  unfold rOne
  split
  · exact ofM_ge ts σ 2 3
  · split
    · exact argM_ge ts σ
    · exact exprM_ge ts σ
theorem ofM_stay {ts : List Tok} {σ : PS} (h : σ.2 = true) (a b : Nat) : (ofM ts σ a b).2 = σ := by
  show (nextK ts.length σ.1 (σ.2 || (tokM ts σ.1).1 != a), (σ.2 || (tokM ts σ.1).1 != a)) = σ
  rw [h, Bool.true_or, nextK_bad, ← h]
theorem argM_stay {ts : List Tok} {σ : PS} (h : σ.2 = true) : (argM ts σ).2 = σ := by
  unfold argM
  rw [if_neg (by rw [isM_bad h]; decide), if_neg (by rw [isM_bad h]; decide)]
  split
  · exact ofM_stay h _ _
  · split
    · exact ofM_stay h _ _
    · exact ofM_stay h _ _
theorem exprM_stay {ts : List Tok} {σ : PS} (h : σ.2 = true) : (exprM ts σ).2 = σ := by
  show (exM ts (ts.length * 7 + 5 + 1) 0 σ).2 = σ
  unfold exM
  rw [if_pos h]
theorem rOne_stay {ts : List Tok} (wh : Nat) {σ : PS} (h : σ.2 = true) : (rOne ts wh σ).2 = σ := by
  unfold rOne
  split
  · exact ofM_stay h 2 3
  · split
    · exact argM_stay h
    · exact exprM_stay h
def lenOf (v : Value) : Nat := match v with | .slice _ n _ => n | _ => 0
def rowMs (n P : Nat) (o : Value) (W : World) : Nat := 2 * leftR n P W + (if lenOf o = 0 then 1 else 0)
theorem rowMs_lt {n P k : Nat} {W W' : World} {p q : Option Addr} {c c' : Nat} (h : 2 * leftR n P W' + 0 < 2 * leftR n P W + (if k = 0 then 1 else 0)) : rowMs n P (.slice p (k + 1) c') W' < rowMs n P (.slice q k c) W := by
  show 2 * leftR n P W' + (if k + 1 = 0 then 1 else 0) < 2 * leftR n P W + (if k = 0 then 1 else 0)
  rw [if_neg (Nat.succ_ne_zero _)]
  exact h
/-- ahead of a round of a row -/
def RRow6Rel (w : World) (P L cap : Nat) (ts : List Tok) (one : PS → Tree × PS) (σ0 : PS) (R : List Tree × PS) (o m : Value) (W : World) : Prop :=
  ∃ (KS ks : List Tree) (σ : PS) (d : Nat) (rows : List (List Value)) (Fs : Nat → Nat → Prop) (b : Bool), m = .bool b ∧
    ((ks = [] ∧ σ = σ0 ∧ b = !isM ts σ0 [tShut]) ∨ (ks ≠ [] ∧ b = isM ts σ [tComma] ∧ isM ts σ0 [tShut] = false ∧ ∃ g, rowLoop ts one g KS σ = R ∧ ts.length - σ.1 ≤ g)) ∧ (σ.2 = false → ks = KS) ∧ ks.length ≤ σ.1 + 1 ∧
    RTurns w P L cap ts σ.1 σ.2 W ∧ W.ownsRow w.heap.size 25 5 o ks.length rows.flatten ∧ RowsOwn W w.heap.size d ks ks.length o.ownBlock rows Fs
theorem RRow6Rel.of {w W : World} {P L cap : Nat} {ts : List Tok} {one : PS → Tree × PS} {σ0 σ : PS} {R : List Tree × PS} {o : Value} {m : Bool} {KS ks : List Tree} {d g : Nat} {rows : List (List Value)} {Fs : Nat → Nat → Prop} (hns : isM ts σ0 [tShut] = false) (hm : m = isM ts σ [tComma])
    (h1 : rowLoop ts one g KS σ = R) (h2 : ts.length - σ.1 ≤ g) (hne : ks ≠ []) (hk : σ.2 = false → ks = KS) (hl : ks.length ≤ σ.1 + 1) (hT : RTurns w P L cap ts σ.1 σ.2 W) (ho : W.ownsRow w.heap.size 25 5 o ks.length rows.flatten) (hr : RowsOwn W w.heap.size d ks ks.length o.ownBlock rows Fs) : RRow6Rel w P L cap ts one σ0 R o (.bool m) W :=
  ⟨KS, ks, σ, d, rows, Fs, m, rfl, Or.inr ⟨hne, hm, hns, g, h1, h2⟩, hk, hl, hT, ho, hr⟩
set_option maxRecDepth 100000 in
set_option maxHeartbeats 8000000 in
theorem rrow6_any {ts : List Tok} (hts : TsOk ts) (wh : Nat) (hwh : wh ≤ 2) (σ : PS) (w : World) (P L cap : Nat) (h : RAt w P L cap ts σ.1 σ.2) : Calls Tryz.prog 109 #[.pointer (some ⟨P, 0, none⟩), .int .i64 wh] w (RLst w P L cap ts (listM ts (rOne ts wh) σ)) := by
  have HTS := Lib.hid hts
  have HGe := Lib.hid (rOne_ge ts wh)
  have HStay := Lib.hid (fun σ h => @rOne_stay ts wh σ h)
  have HOf := Lib.hid (fun (e : wh = 0) σ W (hh : RAt W P L cap ts σ.1 σ.2) => (show Calls Tryz.prog 108 #[.pointer (some ⟨P, 0, none⟩), .int .u8 2, .int .u8 3] W (RRes W P L cap ts (rOne ts wh σ)) by rw [show rOne ts wh = fun σ => ofM ts σ 2 3 by unfold rOne; rw [if_pos e]]; exact rof6_any hts hh 2 3 (by omega)))
  have HArg := Lib.hid (fun (e : wh = 1) σ W (hh : RAt W P L cap ts σ.1 σ.2) => (show Calls Tryz.prog 144 #[.pointer (some ⟨P, 0, none⟩)] W (RRes W P L cap ts (rOne ts wh σ)) by rw [show rOne ts wh = argM ts by unfold rOne; rw [if_neg (by omega), if_pos e]]; exact rarg6_any hts hh))
  have HExp := Lib.hid (fun (e : wh = 2) σ W (hh : RAt W P L cap ts σ.1 σ.2) => (show Calls Tryz.prog 145 #[.pointer (some ⟨P, 0, none⟩), .int .i64 ((0 : Nat) : Int)] W (RRes W P L cap ts (rOne ts wh σ)) by rw [show rOne ts wh = exprM ts by unfold rOne; rw [if_neg (by omega), if_neg (by omega)]]; exact rexpr_all hts hh))
  have HWh := Lib.hid hwh
  have hP := h.lt.1
  have HL := Lib.hid h.lt.2
  have hn := h.n
  have HW0 := Lib.hid (rwant6_any h tOpen (by rw [ByteArray.toList_eq]; decide))
  obtain ⟨σ0, hσ0⟩ : ∃ σ0, wantM ts σ tOpen = σ0 := ⟨_, rfl⟩
  have hLst : listM ts (rOne ts wh) σ = if isM ts σ0 [tShut] = true then ([], nextM ts σ0) else ((rowM ts (rOne ts wh) σ0).1, wantM ts (rowM ts (rOne ts wh) σ0).2 tShut) := by unfold listM; rw [hσ0]
  rw [hLst]
  rw [hσ0] at HW0
  obtain ⟨i0, hi0, hz0, hz1, hz2⟩ := info_parts infoNode
  generalize rOne ts wh = one at *
  obtain ⟨R, hR⟩ : ∃ R, rowM ts one σ0 = R := ⟨_, rfl⟩
  have HR := Lib.hid hR
  rw [hR]
  obtain ⟨RR, hRR⟩ : ∃ x, (if isM ts σ0 [tShut] = true then ([], nextM ts σ0) else (R.1, wantM ts R.2 tShut)) = x := ⟨_, rfl⟩
  rw [hRR]
  have HRR := Lib.hid hRR
  clear h hts hwh hσ0 hLst hR hRR
  go_enter Tryz.func109, Tryz.ntmps109
  go_wp2_with fail
  refine Calls.mono HW0.out ?_
  rintro e w1 ⟨rfl, hT1⟩
  have HT1 := Lib.hid hT1
  have HI := Lib.hid (ris6_any hT1.2 tShut (by rw [ByteArray.toList_eq]; decide))
  clear hT1
  go_wp2_with fail
  refine Calls.mono HI.out ?_
  rintro e w2 ⟨rfl, hb2⟩
  have HRel : Hid (RRow6Rel w P L cap ts one σ0 R (.slice none 0 0) (.bool (!isM ts σ0 [tShut])) w2) :=
    ⟨[], [], σ0, 0, [], fun _ _ => False, _, rfl, Or.inl ⟨rfl, rfl, rfl⟩, fun _ => rfl, Nat.zero_le _, HT1.out.of_below hb2, ⟨rfl, Or.inl ⟨rfl, rfl⟩⟩, rows_none w2 w.heap.size 0 []⟩
  clear hb2 HT1 HI HW0
  go_wp2_with fail
  go_loopw [5, 6] (fun o m wr => RRow6Rel w P L cap ts one σ0 R o m wr) (fun o _ wr => rowMs ts.length P o wr)
  case atStart => exact HRel.out
  case round =>
    clear HRel w2 w1
    obtain ⟨KS, ks, σ1, d1, rows, Fs, b, rfl, hph, hK, hlen, hT, hown, hrows⟩ := hrel
    have HPh := Lib.hid hph
    have HK := Lib.hid hK
    have HLen := Lib.hid hlen
    have HT := Lib.hid hT
    have HOwn := Lib.hid hown
    have HRows := Lib.hid hrows
    obtain ⟨g0, cap0, hu⟩ : ∃ g cap, u5 = .slice g ks.length cap := by
      rcases hown with ⟨_, ⟨e1, e2⟩ | ⟨g, cap, cur, e1, _⟩⟩
      · exact ⟨none, 0, by rw [e1, e2]⟩
      · exact ⟨_, _, e1⟩
    subst hu
    obtain ⟨_, _, c2, _, _, _⟩ := hT.2.cells
    have hlw : w.heap.size ≤ wr.heap.size := hT.1.size
    clear hph hK hlen hT hown hrows
    have hend : (b = false ∨ σ1.2 = true) → RR.2 = wantM ts σ1 tShut ∧ (RR.2.2 = false → ks = RR.1) := by
      intro hbb
      rcases HPh.out with ⟨k1, k2, k3⟩ | ⟨k1, k2, k3, g, k4, k5⟩
      · subst k1 k2
        cases hs : isM ts σ1 [tShut] with
        | true =>
          rw [← HRR.out, if_pos hs]
          exact ⟨(want_yes hs).symm, fun _ => rfl⟩
        | false =>
          have hb1 : σ1.2 = true := by
            rcases hbb with h | h
            · rw [k3, hs] at h; cases h
            · exact h
          have hRs : R.2 = σ1 := by
            rw [← HR.out]
            unfold rowM
            rw [HStay.out σ1 hb1, rowLoop_bad hb1]
          rw [← HRR.out, if_neg (by rw [hs]; decide), hRs]
          exact ⟨rfl, fun h => by rw [wantM_bad hb1] at h; cases h⟩
      · have hi : isM ts σ1 [tComma] = false := by
          rcases hbb with h | h
          · rw [← k2]; exact h
          · exact isM_bad h _
        have hRs : R = (KS, σ1) := by
          rw [← k4]
          cases g with
          | zero => rfl
          | succ g => rw [rowLoop_succ, if_neg (by rw [hi]; decide)]
        rw [← HRR.out, if_neg (by rw [k3]; decide), hRs]
        exact ⟨rfl, fun h => HK.out (want_ok h)⟩
    have HEnd := Lib.hid hend
    clear hend
    have fin : ∀ wf, RTurns w P L cap ts (wantM ts σ1 tShut).1 (wantM ts σ1 tShut).2 wf → wr.grownBy wf (some P) → (b = false ∨ σ1.2 = true) → RLst w P L cap ts RR (.returned (.slice g0 ks.length cap0)) wf := by
      intro wf hT hg hbb
      obtain ⟨e1, e2⟩ := HEnd.out hbb
      rw [← e1] at hT
      exact ⟨ks, d1 + 1, _, rfl, e2, hT, own_fin (d := d1 + 1) rfl (ownsRow_turn HOwn.out hg hP) (HRows.out.turn hg hP) (fun h => by omega)⟩
    have HFin := Lib.hid fin
    have HWs := Lib.hid (rwant6_any HT.out.2 tShut (by rw [ByteArray.toList_eq]; decide))
    clear fin
    cases b with
    | false =>
      go_wp2_with fail
      refine Calls.mono HWs.out ?_
      rintro e w3 ⟨rfl, hT3⟩
      have HT3 := Lib.hid (HT.out.trans hT3)
      have HG3 := Lib.hid hT3.1
      clear hT3
      go_wp2_with fail
      go_ret
      exact HFin.out w3 HT3.out HG3.out (Or.inl (by trivial))
    | true =>
    cases hb1 : σ1.2 with
    | true =>
      rw [hb1] at c2
      have HB1 := Lib.hid hb1
      clear hb1
      go_wp2_with fail
      refine Calls.mono HWs.out ?_
      rintro e w3 ⟨rfl, hT3⟩
      have HT3 := Lib.hid (HT.out.trans hT3)
      have HG3 := Lib.hid hT3.1
      clear hT3
      go_wp2_with fail
      go_ret
      exact HFin.out w3 HT3.out HG3.out (Or.inr HB1.out)
    | false =>
    rw [hb1] at c2
    have HB1 := Lib.hid hb1
    have hks := HK.out hb1
    subst hks
    clear hb1 HFin HWs HEnd
    obtain ⟨bl, hbl⟩ : ∃ x, decide ((0 : Int) < ks.length) = x := ⟨_, rfl⟩
    have hbn : decide (0 < ks.length) = bl := by rw [← hbl]; simp
    have HBl := Lib.hid hbl
    go_upto_if 24 with fail
    go_cut [] from 25 to 26 (fun wx => ∃ σ2 : PS, RTurns wr P L cap ts σ2.1 σ2.2 wx ∧ (∃ g, rowLoop ts one g (ks ++ [(one σ2).1]) (one σ2).2 = R ∧ ts.length - (one σ2).2.1 ≤ g) ∧ isM ts σ0 [tShut] = false ∧ ks.length ≤ σ2.1 ∧ (σ1.1 + (if ks.length = 0 then 0 else 1) ≤ σ2.1))
    case first =>
      rcases HPh.out with ⟨k1, k2, k3⟩ | ⟨k1, k2, k3, g, k4, k5⟩
      · have hl0 : ks.length = 0 := by rw [k1]; rfl
        have hs : isM ts σ0 [tShut] = false := by simpa using k3.symm
        obtain rfl : bl = false := by rw [← HBl.out, hl0]; rfl
        have HRel2 : Hid (∃ σ2 : PS, RTurns wr P L cap ts σ2.1 σ2.2 wr ∧ (∃ g, rowLoop ts one g (ks ++ [(one σ2).1]) (one σ2).2 = R ∧ ts.length - (one σ2).2.1 ≤ g) ∧ isM ts σ0 [tShut] = false ∧ ks.length ≤ σ2.1 ∧ (σ1.1 + (if ks.length = 0 then 0 else 1) ≤ σ2.1)) := by
          refine ⟨σ1, HT.out.2.turns (Below.refl _ wr), ⟨ts.length, ?_, Nat.sub_le _ _⟩, hs, by omega, by rw [if_pos hl0]; omega⟩
          rw [k1, k2, ← HR.out]; rfl
        clear k1 k2 k3 hs hl0
        go_wp2_with fail
        go_meet
        case rel => exact HRel2.out
      · have hl0 : 0 < ks.length := List.length_pos_iff.2 k1
        obtain rfl : bl = true := by rw [← HBl.out]; simp; exact hl0
        obtain ⟨q1, q2, q3⟩ := next_on HTS.out HT.out.2.k k2.symm
        have HWc := Lib.hid (rwant6_any HT.out.2 tComma (by rw [ByteArray.toList_eq]; decide))
        rw [want_yes k2.symm] at HWc
        have hge := HGe.out (nextM ts σ1)
        have HRel2 : Hid (∀ wx, RTurns wr P L cap ts (nextM ts σ1).1 (nextM ts σ1).2 wx → ∃ σ2 : PS, RTurns wr P L cap ts σ2.1 σ2.2 wx ∧ (∃ g, rowLoop ts one g (ks ++ [(one σ2).1]) (one σ2).2 = R ∧ ts.length - (one σ2).2.1 ≤ g) ∧ isM ts σ0 [tShut] = false ∧ ks.length ≤ σ2.1 ∧ (σ1.1 + (if ks.length = 0 then 0 else 1) ≤ σ2.1)) := by
          intro wx hx
          have hlen := HLen.out
          refine ⟨nextM ts σ1, hx, ?_, k3, by omega, by rw [if_neg (by omega)]; omega⟩
          cases g with
          | zero => omega
          | succ g =>
            refine ⟨g, ?_, by omega⟩
            rw [rowLoop_succ, if_pos k2.symm] at k4
            exact k4
        clear k1 k2 k3 k4 k5 q1 q2 q3 hge hl0
        go_wp2_with fail
        refine Calls.mono HWc.out ?_
        rintro e w3 ⟨rfl, hT3⟩
        have HT3 := Lib.hid hT3
        clear hT3
        go_wp2_with fail
        go_meet
        case rel => exact HRel2.out w3 HT3.out
    case rest =>
      obtain ⟨σ2, hT2, ⟨g2, hg2⟩, hns, hkl2, hmeas⟩ := hcut
      have HTc := Lib.hid (HT.out.trans hT2)
      have HG2 := Lib.hid hg2
      have HNs := Lib.hid hns
      have HMeas := Lib.hid hmeas
      have HLen := Lib.hid hkl2
      have HOwnc := Lib.hid (ownsRow_turn HOwn.out hT2.1 hP)
      have HRowsc := Lib.hid (HRows.out.turn hT2.1 hP)
      have hlwc : w.heap.size ≤ wc.heap.size := HTc.out.1.size
      have hk2 := HTc.out.2.k
      have hlm := HT.out.2.left
      clear hT2 hg2 hns hkl2 hmeas hbl hbn
      obtain ⟨KS, hKSe⟩ : ∃ KS, KS = ks := ⟨_, rfl⟩
      rw [← hKSe] at HG2
      have HKS := Lib.hid hKSe.symm
      clear hKSe
      by_cases h0 : wh = 0
      · have hw0 : ((wh : Int) == 0) = true := by simp; omega
        have HH0 := Lib.hid h0
        clear h0
        have HC2 := Lib.hid (HOf.out HH0.out σ2 wc HTc.out.2)
        go_wp2_with fail
        refine Calls.mono HC2.out ?_
        rintro e w3 ⟨V, d2, s2, rfl, hq2, hT3, ho2, hf2⟩
        obtain ⟨p2, c2, rfl⟩ := ho2.shape
        have HT3 := Lib.hid (HTc.out.trans hT3)
        have HG3 := Lib.hid hT3.1
        have HO2 := Lib.hid ho2
        have HF2 := Lib.hid hf2
        have HQ2 := Lib.hid hq2
        have hown3 := ownsRow_turn HOwnc.out hT3.1 hP
        have hl3 : wc.heap.size ≤ w3.heap.size := hT3.1.size
        have hkl : ks.length + 1 ≤ 16386 := by have := HLen.out; omega
        clear hT3 ho2 hf2 hq2
        go_wp2_with (at_builtin; go_must (refine wpList_append_lies _ rfl (.tmp 35) (.tmp 38) 23 rfl w.heap.size 25 i0 _ 5 64 Tryz.underlying23 hi0 hz0 hz1 hz2 rfl (by decide) (.slice g0 ks.length cap0) ks.length rows.flatten rfl (ownsRow_below hown3 ((Below.refl _ w3).alloc (Nat.le_refl _) _)) ⟨w3.heap.size, 0, none⟩ 1 1 (nodeCells V (.slice p2 V.kids.length c2)) rfl rfl (by exact news_one w3 (nodeCells V (.slice p2 V.kids.length c2)) 25) (by simp [Value.oneCell', nodeCells]) (by decide) (by unfold maxLen; omega) (by omega) (by simp; omega) (w3.heap.size + 1) (by simp) ?_); intro g7 cap7 w7 hown' hgrow hlies hlt7)
        have hob := own_block HOwnc.out
        obtain ⟨w4, hw4⟩ : ∃ w4, w4 = w3.alloc (.cells (nodeCells V (.slice p2 V.kids.length c2)).toArray 25) := ⟨_, rfl⟩
        have hg4 : w4.grownBy w7 (Value.slice g0 ks.length cap0).ownBlock := by rw [hw4]; exact hgrow
        have hb4 : Below w3.heap.size w3 w4 := by rw [hw4]; exact (Below.refl _ w3).alloc (Nat.le_refl _) _
        have hsz4 : w4.heap.size = w3.heap.size + 1 := by rw [hw4]; simp
        have hs7 := hg4.size
        have hT7 := (HT3.out.of_below hb4).grownO hP HL.out hg4 (fun x hx => (hob x hx).1)
        have hk3 : ∀ b, b < w3.heap.size → (Value.slice g0 ks.length cap0).ownBlock ≠ some b → w7.heap[b]? = w3.heap[b]? := fun b h1 h2 => (hg4.block b (by omega) (fun e => h2 e.symm)).trans (hb4.block b h1)
        have e2 := HO2.out.mores d1
        rw [Nat.add_comm d2 d1] at e2
        obtain ⟨Fs', hnext⟩ := RowsOwn.nextT (W' := w7) (N := w3.heap.size) (own' := some g7) (t := V) ((HRowsc.out.deeper d2).longer rfl [V]) (by simp) HF2.out
          (e2.keep fun x o hx ho => (hk3 x hx.2 (fun e => by have := (hob x e).2; have := hx.1; omega)).trans ho) hl3 (by omega) (by omega) (by omega)
          (fun x h1 h2 hne => (hk3 x (by omega) hne).trans (HG3.out.block x h2 (fun e => by injection e with e; omega))) (fun x hx => by
            injection hx with hx
            subst hx
            rcases hlies with h | h
            · exact Or.inl ⟨h, by have := (hob _ h).2; omega⟩
            · right; omega)
        have HT7 := Lib.hid hT7
        have HNext := Lib.hid hnext
        have HOwn7 := Lib.hid hown'
        have HIs := Lib.hid (ris6_any hT7.2 tComma (by rw [ByteArray.toList_eq]; decide))
        clear hT7 hnext hown' hgrow hlies hlt7 hob hg4 hb4 hsz4 hk3 e2 hown3 hw4
        go_wp2_with fail
        refine Calls.mono HIs.out ?_
        rintro e w8 ⟨rfl, hb8⟩
        have hg8 := grown_of_below hb8 (some P)
        have HRel := Lib.hid (RRow6Rel.of (w := w) (m := isM ts (one σ2).2 [tComma]) (ks := ks ++ [V]) (KS := KS ++ [(one σ2).1]) HNs.out rfl HG2.out.1 HG2.out.2 (by simp) (fun hb => by rw [HQ2.out hb, HKS.out]) (by rw [List.length_append, List.length_singleton]; have := HLen.out; have := HGe.out σ2; omega) (HT7.out.of_below hb8) (rows := rows ++ [nodeCells V (.slice p2 V.kids.length c2)])
          (by rw [List.flatten_append, List.length_append, List.length_singleton]; simpa using ownsRow_turn HOwn7.out hg8 hP) (by rw [List.length_append, List.length_singleton]; exact HNext.out.turn hg8 hP))
        have hm1 := (HT7.out.of_below hb8).2.left
        have hm2 := HMeas.out
        have hm3 := HGe.out σ2
        have hm4 := HT7.out.2.k
        have HMs : Hid (2 * leftR ts.length P w8 + 0 < 2 * leftR ts.length P wr + (if ks.length = 0 then 1 else 0)) := by
          show _ < _
          rw [hm1]
          by_cases hz : ks.length = 0
          · rw [if_pos hz] at hm2 ⊢
            omega
          · rw [if_neg hz] at hm2 ⊢
            omega
        clear hb8 hg8 hm1 hm2 hm3 hm4
        go_wp2_with fail
        exact ⟨HRel.out, rowMs_lt HMs.out⟩
      have hw0 : ((wh : Int) == 0) = false := by simp; omega
      by_cases h1 : wh = 1
      · have hw1 : ((wh : Int) == 1) = true := by simp; omega
        have HH1 := Lib.hid h1
        clear h0 h1
        have HC2 := Lib.hid (HArg.out HH1.out σ2 wc HTc.out.2)
        go_wp2_with fail
        refine Calls.mono HC2.out ?_
        rintro e w3 ⟨V, d2, s2, rfl, hq2, hT3, ho2, hf2⟩
        obtain ⟨p2, c2, rfl⟩ := ho2.shape
        have HT3 := Lib.hid (HTc.out.trans hT3)
        have HG3 := Lib.hid hT3.1
        have HO2 := Lib.hid ho2
        have HF2 := Lib.hid hf2
        have HQ2 := Lib.hid hq2
        have hown3 := ownsRow_turn HOwnc.out hT3.1 hP
        have hl3 : wc.heap.size ≤ w3.heap.size := hT3.1.size
        have hkl : ks.length + 1 ≤ 16386 := by have := HLen.out; omega
        clear hT3 ho2 hf2 hq2
        go_wp2_with (at_builtin; go_must (refine wpList_append_lies _ rfl (.tmp 42) (.tmp 45) 23 rfl w.heap.size 25 i0 _ 5 64 Tryz.underlying23 hi0 hz0 hz1 hz2 rfl (by decide) (.slice g0 ks.length cap0) ks.length rows.flatten rfl (ownsRow_below hown3 ((Below.refl _ w3).alloc (Nat.le_refl _) _)) ⟨w3.heap.size, 0, none⟩ 1 1 (nodeCells V (.slice p2 V.kids.length c2)) rfl rfl (by exact news_one w3 (nodeCells V (.slice p2 V.kids.length c2)) 25) (by simp [Value.oneCell', nodeCells]) (by decide) (by unfold maxLen; omega) (by omega) (by simp; omega) (w3.heap.size + 1) (by simp) ?_); intro g7 cap7 w7 hown' hgrow hlies hlt7)
        have hob := own_block HOwnc.out
        obtain ⟨w4, hw4⟩ : ∃ w4, w4 = w3.alloc (.cells (nodeCells V (.slice p2 V.kids.length c2)).toArray 25) := ⟨_, rfl⟩
        have hg4 : w4.grownBy w7 (Value.slice g0 ks.length cap0).ownBlock := by rw [hw4]; exact hgrow
        have hb4 : Below w3.heap.size w3 w4 := by rw [hw4]; exact (Below.refl _ w3).alloc (Nat.le_refl _) _
        have hsz4 : w4.heap.size = w3.heap.size + 1 := by rw [hw4]; simp
        have hs7 := hg4.size
        have hT7 := (HT3.out.of_below hb4).grownO hP HL.out hg4 (fun x hx => (hob x hx).1)
        have hk3 : ∀ b, b < w3.heap.size → (Value.slice g0 ks.length cap0).ownBlock ≠ some b → w7.heap[b]? = w3.heap[b]? := fun b h1 h2 => (hg4.block b (by omega) (fun e => h2 e.symm)).trans (hb4.block b h1)
        have e2 := HO2.out.mores d1
        rw [Nat.add_comm d2 d1] at e2
        obtain ⟨Fs', hnext⟩ := RowsOwn.nextT (W' := w7) (N := w3.heap.size) (own' := some g7) (t := V) ((HRowsc.out.deeper d2).longer rfl [V]) (by simp) HF2.out
          (e2.keep fun x o hx ho => (hk3 x hx.2 (fun e => by have := (hob x e).2; have := hx.1; omega)).trans ho) hl3 (by omega) (by omega) (by omega)
          (fun x h1 h2 hne => (hk3 x (by omega) hne).trans (HG3.out.block x h2 (fun e => by injection e with e; omega))) (fun x hx => by
            injection hx with hx
            subst hx
            rcases hlies with h | h
            · exact Or.inl ⟨h, by have := (hob _ h).2; omega⟩
            · right; omega)
        have HT7 := Lib.hid hT7
        have HNext := Lib.hid hnext
        have HOwn7 := Lib.hid hown'
        have HIs := Lib.hid (ris6_any hT7.2 tComma (by rw [ByteArray.toList_eq]; decide))
        clear hT7 hnext hown' hgrow hlies hlt7 hob hg4 hb4 hsz4 hk3 e2 hown3 hw4
        go_wp2_with fail
        refine Calls.mono HIs.out ?_
        rintro e w8 ⟨rfl, hb8⟩
        have hg8 := grown_of_below hb8 (some P)
        have HRel := Lib.hid (RRow6Rel.of (w := w) (m := isM ts (one σ2).2 [tComma]) (ks := ks ++ [V]) (KS := KS ++ [(one σ2).1]) HNs.out rfl HG2.out.1 HG2.out.2 (by simp) (fun hb => by rw [HQ2.out hb, HKS.out]) (by rw [List.length_append, List.length_singleton]; have := HLen.out; have := HGe.out σ2; omega) (HT7.out.of_below hb8) (rows := rows ++ [nodeCells V (.slice p2 V.kids.length c2)])
          (by rw [List.flatten_append, List.length_append, List.length_singleton]; simpa using ownsRow_turn HOwn7.out hg8 hP) (by rw [List.length_append, List.length_singleton]; exact HNext.out.turn hg8 hP))
        have hm1 := (HT7.out.of_below hb8).2.left
        have hm2 := HMeas.out
        have hm3 := HGe.out σ2
        have hm4 := HT7.out.2.k
        have HMs : Hid (2 * leftR ts.length P w8 + 0 < 2 * leftR ts.length P wr + (if ks.length = 0 then 1 else 0)) := by
          show _ < _
          rw [hm1]
          by_cases hz : ks.length = 0
          · rw [if_pos hz] at hm2 ⊢
            omega
          · rw [if_neg hz] at hm2 ⊢
            omega
        clear hb8 hg8 hm1 hm2 hm3 hm4
        go_wp2_with fail
        exact ⟨HRel.out, rowMs_lt HMs.out⟩
      have hw1 : ((wh : Int) == 1) = false := by simp; omega
      have HH2 : Hid (wh = 2) := by show _ = _; have := HWh.out; omega
      clear h0 h1
      have HC2 := Lib.hid (HExp.out HH2.out σ2 wc HTc.out.2)
      go_wp2_with fail
      refine Calls.mono HC2.out ?_
      rintro e w3 ⟨V, d2, s2, rfl, hq2, hT3, ho2, hf2⟩
      obtain ⟨p2, c2, rfl⟩ := ho2.shape
      have HT3 := Lib.hid (HTc.out.trans hT3)
      have HG3 := Lib.hid hT3.1
      have HO2 := Lib.hid ho2
      have HF2 := Lib.hid hf2
      have HQ2 := Lib.hid hq2
      have hown3 := ownsRow_turn HOwnc.out hT3.1 hP
      have hl3 : wc.heap.size ≤ w3.heap.size := hT3.1.size
      have hkl : ks.length + 1 ≤ 16386 := by have := HLen.out; omega
      clear hT3 ho2 hf2 hq2
      go_wp2_with (at_builtin; go_must (refine wpList_append_lies _ rfl (.tmp 28) (.tmp 31) 23 rfl w.heap.size 25 i0 _ 5 64 Tryz.underlying23 hi0 hz0 hz1 hz2 rfl (by decide) (.slice g0 ks.length cap0) ks.length rows.flatten rfl (ownsRow_below hown3 ((Below.refl _ w3).alloc (Nat.le_refl _) _)) ⟨w3.heap.size, 0, none⟩ 1 1 (nodeCells V (.slice p2 V.kids.length c2)) rfl rfl (by exact news_one w3 (nodeCells V (.slice p2 V.kids.length c2)) 25) (by simp [Value.oneCell', nodeCells]) (by decide) (by unfold maxLen; omega) (by omega) (by simp; omega) (w3.heap.size + 1) (by simp) ?_); intro g7 cap7 w7 hown' hgrow hlies hlt7)
      have hob := own_block HOwnc.out
      obtain ⟨w4, hw4⟩ : ∃ w4, w4 = w3.alloc (.cells (nodeCells V (.slice p2 V.kids.length c2)).toArray 25) := ⟨_, rfl⟩
      have hg4 : w4.grownBy w7 (Value.slice g0 ks.length cap0).ownBlock := by rw [hw4]; exact hgrow
      have hb4 : Below w3.heap.size w3 w4 := by rw [hw4]; exact (Below.refl _ w3).alloc (Nat.le_refl _) _
      have hsz4 : w4.heap.size = w3.heap.size + 1 := by rw [hw4]; simp
      have hs7 := hg4.size
      have hT7 := (HT3.out.of_below hb4).grownO hP HL.out hg4 (fun x hx => (hob x hx).1)
      have hk3 : ∀ b, b < w3.heap.size → (Value.slice g0 ks.length cap0).ownBlock ≠ some b → w7.heap[b]? = w3.heap[b]? := fun b h1 h2 => (hg4.block b (by omega) (fun e => h2 e.symm)).trans (hb4.block b h1)
      have e2 := HO2.out.mores d1
      rw [Nat.add_comm d2 d1] at e2
      obtain ⟨Fs', hnext⟩ := RowsOwn.nextT (W' := w7) (N := w3.heap.size) (own' := some g7) (t := V) ((HRowsc.out.deeper d2).longer rfl [V]) (by simp) HF2.out
        (e2.keep fun x o hx ho => (hk3 x hx.2 (fun e => by have := (hob x e).2; have := hx.1; omega)).trans ho) hl3 (by omega) (by omega) (by omega)
        (fun x h1 h2 hne => (hk3 x (by omega) hne).trans (HG3.out.block x h2 (fun e => by injection e with e; omega))) (fun x hx => by
          injection hx with hx
          subst hx
          rcases hlies with h | h
          · exact Or.inl ⟨h, by have := (hob _ h).2; omega⟩
          · right; omega)
      have HT7 := Lib.hid hT7
      have HNext := Lib.hid hnext
      have HOwn7 := Lib.hid hown'
      have HIs := Lib.hid (ris6_any hT7.2 tComma (by rw [ByteArray.toList_eq]; decide))
      clear hT7 hnext hown' hgrow hlies hlt7 hob hg4 hb4 hsz4 hk3 e2 hown3 hw4
      go_wp2_with fail
      refine Calls.mono HIs.out ?_
      rintro e w8 ⟨rfl, hb8⟩
      have hg8 := grown_of_below hb8 (some P)
      have HRel := Lib.hid (RRow6Rel.of (w := w) (m := isM ts (one σ2).2 [tComma]) (ks := ks ++ [V]) (KS := KS ++ [(one σ2).1]) HNs.out rfl HG2.out.1 HG2.out.2 (by simp) (fun hb => by rw [HQ2.out hb, HKS.out]) (by rw [List.length_append, List.length_singleton]; have := HLen.out; have := HGe.out σ2; omega) (HT7.out.of_below hb8) (rows := rows ++ [nodeCells V (.slice p2 V.kids.length c2)])
        (by rw [List.flatten_append, List.length_append, List.length_singleton]; simpa using ownsRow_turn HOwn7.out hg8 hP) (by rw [List.length_append, List.length_singleton]; exact HNext.out.turn hg8 hP))
      have hm1 := (HT7.out.of_below hb8).2.left
      have hm2 := HMeas.out
      have hm3 := HGe.out σ2
      have hm4 := HT7.out.2.k
      have HMs : Hid (2 * leftR ts.length P w8 + 0 < 2 * leftR ts.length P wr + (if ks.length = 0 then 1 else 0)) := by
        show _ < _
        rw [hm1]
        by_cases hz : ks.length = 0
        · rw [if_pos hz] at hm2 ⊢
          omega
        · rw [if_neg hz] at hm2 ⊢
          omega
      clear hb8 hg8 hm1 hm2 hm3 hm4
      go_wp2_with fail
      exact ⟨HRel.out, rowMs_lt HMs.out⟩
end Go.Proofs.YtfpohaipmnjflaaGreatDoor
/- The document's reader: a condition; by contract. Condition: at most 16385 tokens, each of at most 16384 bytes. (Printed by tools/genRd.py.) -/
namespace Go.Proofs.YtfpohaipmnjflaaGreatDoor
open Go.RowKit

theorem rOne1 (ts : List Tok) : rOne ts 1 = argM ts := rfl
theorem rOne2 (ts : List Tok) : rOne ts 2 = exprM ts := rfl
theorem rOne0 (ts : List Tok) : rOne ts 0 = fun σ => ofM ts σ 2 3 := rfl
set_option maxRecDepth 100000 in
set_option maxHeartbeats 8000000 in
theorem rcond6_any {ts : List Tok} (hts : TsOk ts) {w : World} {P L cap : Nat} {σ : PS} (h : RAt w P L cap ts σ.1 σ.2) :
    Calls Tryz.prog 112 #[.pointer (some ⟨P, 0, none⟩)] w (RRes w P L cap ts (condM ts (argM ts) σ)) := by
  have hb0 : Below w.heap.size w (w.alloc (.cells zeroN 25)) := (Below.refl _ w).alloc (Nat.le_refl _) _
  have HC := Lib.hid (rnow6_res (h.below hb0))
  have H0 := Lib.hid (h.turns hb0)
  have hP := h.lt.1
  have HL := Lib.hid h.lt.2
  have HX := Lib.hid (heap_alloc_new w (.cells zeroN 25))
  have HTS := Lib.hid hts
  obtain ⟨R, hRR⟩ : ∃ R, condM ts (argM ts) σ = R := ⟨_, rfl⟩
  rw [hRR]
  have HR := Lib.hid hRR
  have hat : 0 ≤ atM ts σ ∧ atM ts σ ≤ 16384 := by
    obtain ⟨_, _, g3⟩ := tokM_ok hts σ.1
    unfold atM
    omega
  obtain ⟨kd, hkd⟩ : ∃ kd, kdM ts σ = kd := ⟨_, rfl⟩
  obtain ⟨tx, htx⟩ : ∃ kd, txM ts σ = kd := ⟨_, rfl⟩
  obtain ⟨at_, hatE⟩ : ∃ kd, atM ts σ = kd := ⟨_, rfl⟩
  rw [hatE] at hat
  rw [hkd, hatE, htx] at HC
  have HAt := Lib.hid hat
  have HAtE := Lib.hid hatE
  clear h hb0 hts hRR hkd hatE hat htx
  go_enter Tryz.func112, Tryz.ntmps112
  go_wp2_with fail
  refine Calls.mono HC.out ?_
  rintro e w1 ⟨rfl, hb1⟩
  have hx1 := heap_below hb1 HX.out (by simp)
  have HT1 := Lib.hid (H0.out.of_below hb1)
  have HX1 := Lib.hid hx1
  have hl1 : w.heap.size < w1.heap.size := (Array.getElem?_eq_some_iff.1 hx1).1
  have hF := run_lexAt kd tx at_ w1
  clear hb1 hx1
  obtain ⟨m1, hm1⟩ : ∃ x, isM ts σ [tTest] = x := ⟨_, rfl⟩
  obtain ⟨m2, hm2⟩ : ∃ x, isM ts σ [tNot] = x := ⟨_, rfl⟩
  have hR := HR.out
  unfold condM at hR
  rw [hm1, hm2, HAtE.out] at hR
  have HM2 := Lib.hid hm2
  have HI1 := Lib.hid (ris6_any HT1.out.2 tTest (by rw [ByteArray.toList_eq]; decide))
  rw [hm1] at HI1
  have HRR := Lib.hid hR
  clear hR HR hm1 hm2
  go_wp2_with fail
  refine Calls.mono (HI1.out) ?_
  rintro e w2 ⟨rfl, hb⟩
  have hT := HT1.out.2.turns hb
  have HT2 := Lib.hid (HT1.out.trans hT)
  have HX2 := Lib.hid (hT.box HX1.out hP (Nat.le_refl _))
  have hl2 : w.heap.size < w2.heap.size := (Array.getElem?_eq_some_iff.1 HX2.out).1
  clear hT hb
  cases m1 with
  | true =>
    have HRe : Hid ((.mk 7 ⟨#[]⟩ 0 at_ [(exprM ts (nextM ts σ)).1], wantM ts (exprM ts (nextM ts σ)).2 tSemi) = R) := HRR.out
    clear HRR
    go_wp2_with fail
    refine Calls.mono (rnext6_res HT2.out.2) ?_
    rintro e w3 ⟨rfl, hT⟩
    have HT3 := Lib.hid (HT2.out.trans hT)
    have HX3 := Lib.hid (hT.box HX2.out hP (Nat.le_refl _))
    have hl3 : w.heap.size < w3.heap.size := (Array.getElem?_eq_some_iff.1 HX3.out).1
    clear hT
    have HCe := Lib.hid (rexpr_all HTS.out HT3.out.2)
    generalize exprM ts (nextM ts σ) = r at *
    go_wp2_with fail
    refine Calls.mono (HCe.out) ?_
    rintro e w4 ⟨V, d, s, rfl, hq, hT, ho, hf⟩
    obtain ⟨p, c, rfl⟩ := ho.shape
    have HQ := Lib.hid hq
    have HF := Lib.hid hf
    have HT4 := Lib.hid (HT3.out.trans hT)
    have HX4 := Lib.hid (hT.box HX3.out hP (Nat.le_refl _))
    have hl4 : w.heap.size < w4.heap.size := (Array.getElem?_eq_some_iff.1 HX4.out).1
    obtain ⟨wA, hwA⟩ : ∃ x, x = w4.alloc (.cells (nodeCells V (.slice p V.kids.length c)).toArray 25) := ⟨_, rfl⟩
    have hsA : wA.heap.size = w4.heap.size + 1 := by rw [hwA]; exact World.size_alloc _ _
    obtain ⟨wB, hwB⟩ : ∃ x, x = wA.alloc (.cells #[.int .u8 7, .string ⟨#[]⟩, .int .i64 0, .int .i64 at_, .slice (some ⟨w4.heap.size, 0, none⟩) 1 1] 25) := ⟨_, rfl⟩
    have hbA : Below w4.heap.size w4 wA := by rw [hwA]; exact (Below.refl _ w4).alloc (Nat.le_refl _) _
    have hbB : Below wA.heap.size wA wB := by rw [hwB]; exact (Below.refl _ wA).alloc (Nat.le_refl _) _
    have hbAB := hbA.trans (hbB.mono hbA.size)
    have hxA : wA.heap[w4.heap.size]? = some (.cells (nodeCells V (.slice p V.kids.length c)).toArray 25 (0, 0)) := by rw [hwA]; exact heap_alloc_new w4 _
    have hxB : wB.heap[w4.heap.size + 1]? = some (.cells #[.int .u8 7, .string ⟨#[]⟩, .int .i64 0, .int .i64 at_, .slice (some ⟨w4.heap.size, 0, none⟩) 1 1] 25 (0, 0)) := by rw [hwB, ← hsA]; exact heap_alloc_new wA _
    have hGL : GotL w3.heap.size V wB [.int .i64 w4.heap.size] := ⟨d, w4.heap.size, w4.heap.size, _, rfl, heap_below hbB hxA (by omega), ho.below (fun b hb => hb.2) hbAB, hf, hT.1.size, Nat.le_refl _⟩
    obtain ⟨d6, g6, hg6, ho6⟩ := hGL.own
    have h9 : (w4.heap.size : Int) = g6 := by simpa using hg6
    obtain rfl : w4.heap.size = g6 := by omega
    have HTB := Lib.hid (HT4.out.of_below hbAB)
    have HXB := Lib.hid (heap_below hbAB HX4.out hl4)
    have HNB := Lib.hid hxB
    have HWA := Lib.hid hwA
    have HWB := Lib.hid hwB
    have HO6 := Lib.hid ho6
    have hij : w3.heap.size ≤ w4.heap.size := hT.1.size
    clear hwA hwB hsA hbA hbB hbAB hxA hxB hGL hg6 h9 ho6 hT ho hf hq
    go_upto_region 5 with fail
    change Code.wp _ _ _ _ ((w4.alloc (.cells (nodeCells V (.slice p V.kids.length c)).toArray 25)).alloc (.cells #[.int .u8 7, .string ⟨#[]⟩, .int .i64 0, .int .i64 at_, .slice (some ⟨w4.heap.size, 0, none⟩) 1 1] 25))
    rw [← HWA.out, ← HWB.out]
    clear HWA HWB
    go_wp2_with fail
    refine Calls.mono (rwant6_any HTB.out.2 tSemi (by rw [ByteArray.toList_eq]; decide)) ?_
    rintro e wC ⟨rfl, hT⟩
    have HTC := Lib.hid (HTB.out.trans hT)
    have y0 := hT.box HXB.out hP (Nat.le_refl _)
    have yn := hT.box HNB.out hP (by omega)
    have hO7 : OwnAt wC (d6 + 1) [V] (.slice (some ⟨w4.heap.size, 0, none⟩) 1 1) (Between w3.heap.size wC.heap.size) := (HO6.out.keep fun b o hb ho => grownBy_keep hT.1 ho (by have := hb.1; omega)).sub fun b hb => ⟨hb.1, Nat.lt_of_lt_of_le hb.2 hT.1.size⟩
    have HO7 := Lib.hid hO7
    have HY0 := Lib.hid y0
    obtain ⟨a0, a1, a2, a3, a4⟩ := cells5 y0
    have z0 := frozen5 y0 0
    have z1 := frozen5 y0 1
    have z2 := frozen5 y0 2
    have z3 := frozen5 y0 3
    have z4 := frozen5 y0 4
    obtain ⟨e0, e1, e2, e3, e4⟩ := cells5 yn
    clear hT y0 yn hO7
    go_wp2_with fail
    refine ret_node Tryz.results112 rfl (heap_set5 HY0.out _ _ _ _ _) rfl ?_
    rw [← HRe.out]
    exact RRes.stored (r := (.mk 7 ⟨#[]⟩ 0 at_ [r.1], wantM ts r.2 tSemi)) (T := .mk 7 ⟨#[]⟩ 0 at_ [V]) hP HL.out HTC.out (fun hb => by rw [HQ.out (want_ok hb)]) HO7.out (fits_mk (by omega) (by show (0 : Nat) ≤ 16384; omega) HAt.out.1 HAt.out.2) (Nat.le_refl _) (by omega) _ _ _ _ _
  | false =>
  obtain ⟨kk, hkk⟩ : ∃ x : Nat, (if m2 = true then 6 else 5) = x := ⟨_, rfl⟩
  obtain ⟨σ2, hσ2⟩ : ∃ x, (if m2 = true then nextM ts σ else σ) = x := ⟨_, rfl⟩
  have HRe : Hid ((.mk kk (ofM ts σ2 2 kk).1.text 0 at_ (listM ts (argM ts) (ofM ts σ2 2 kk).2).1, wantM ts (listM ts (argM ts) (ofM ts σ2 2 kk).2).2 tSemi) = R) := by
    show _ = _
    rw [← HRR.out, ← hkk, ← hσ2]
    cases m2 <;> rfl
  have hk2 : kk < 256 := by rw [← hkk]; split <;> omega
  have HKk := Lib.hid hkk
  have HS2 := Lib.hid hσ2
  have HI2 := Lib.hid (ris6_any HT2.out.2 tNot (by rw [ByteArray.toList_eq]; decide))
  rw [HM2.out] at HI2
  clear HRR hkk hσ2
  go_wp2_with fail
  refine Calls.mono (HI2.out) ?_
  rintro e w3 ⟨rfl, hb⟩
  have hT := HT2.out.2.turns hb
  have HT3 := Lib.hid (HT2.out.trans hT)
  have HX3 := Lib.hid (hT.box HX2.out hP (Nat.le_refl _))
  have hl3 : w.heap.size < w3.heap.size := (Array.getElem?_eq_some_iff.1 HX3.out).1
  clear hT hb
  go_upto_if 23 with fail
  go_cut [5] from 24 to 25 (fun v wx => v = .int .u8 kk ∧ RTurns w3 P L cap ts σ2.1 σ2.2 wx)
  case first =>
    cases m2 with
    | true =>
      go_wp2_with fail
      refine Calls.mono (rnext6_res HT3.out.2) ?_
      rintro e wn ⟨rfl, hTn⟩
      have HTn := Lib.hid hTn
      clear hTn
      go_wp2_with fail
      go_meet
      case rel => exact ⟨by rw [← HKk.out]; rfl, by rw [← HS2.out]; exact HTn.out⟩
    | false =>
      go_wp2_with fail
      go_meet
      case rel => exact ⟨by rw [← HKk.out]; rfl, by rw [← HS2.out]; exact HT3.out.2.turns (Below.refl _ _)⟩
  case rest =>
    obtain ⟨rfl, hT⟩ := hcut
    obtain ⟨w4, rfl⟩ : ∃ x, x = wc := ⟨_, rfl⟩
    have HT4 := Lib.hid (HT3.out.trans hT)
    have HX4 := Lib.hid (hT.box HX3.out hP (Nat.le_refl _))
    have hl4 : w.heap.size < w4.heap.size := (Array.getElem?_eq_some_iff.1 HX4.out).1
    obtain ⟨k2, x2, p2, ht2⟩ : ∃ a b c, tokM ts σ2.1 = (a, b, c) := ⟨_, _, _, rfl⟩
    have hxs : x2.size ≤ 16384 := by have := (tokM_ok HTS.out σ2.1).2.1; rw [ht2] at this; exact this
    have hC := rof6_raw HT4.out.2 (tokM_at HT4.out.2.k) 2 kk
    rw [ht2] at hC
    have HCo := Lib.hid hC
    have hof : (ofM ts σ2 2 kk).2 = (nextK ts.length σ2.1 (σ2.2 || k2 != 2), (σ2.2 || k2 != 2)) := by
      show (nextK ts.length σ2.1 (σ2.2 || (tokM ts σ2.1).1 != 2), (σ2.2 || (tokM ts σ2.1).1 != 2)) = _
      rw [ht2]
    have htx2 : (ofM ts σ2 2 kk).1.text = x2 := by show (tokM ts σ2.1).2.1 = x2; rw [ht2]
    have HRe2 := HRe.out
    rw [htx2] at HRe2
    obtain ⟨σ3, hσ3⟩ : ∃ x, (ofM ts σ2 2 kk).2 = x := ⟨_, rfl⟩
    rw [hσ3] at HRe2 hof
    have HRf := Lib.hid HRe2
    have HOf := Lib.hid hof
    have HXs := Lib.hid hxs
    clear hT hC hof htx2 HRe2 HRe hσ3 hxs ht2 HI1 HI2 HKk HS2
    go_wp2_with fail
    refine Calls.mono (HCo.out) ?_
    rintro e w5 ⟨rfl, hT⟩
    have HT5 := Lib.hid (HT4.out.trans hT)
    have HX5 := Lib.hid (hT.box HX4.out hP (Nat.le_refl _))
    have hl5 : w.heap.size < w5.heap.size := (Array.getElem?_eq_some_iff.1 HX5.out).1
    rw [show nextK ts.length σ2.1 (σ2.2 || k2 != 2) = σ3.1 by rw [HOf.out], show (σ2.2 || k2 != 2) = σ3.2 by rw [HOf.out]] at HT5
    clear hT
    obtain ⟨w6, hw6⟩ : ∃ x, x = w5.alloc (.cells #[.int .u8 kk, .string x2, .int .i64 0, .int .i64 p2, .slice none 0 0] 25) := ⟨_, rfl⟩
    have hT := HT5.out.2.turns ((Below.refl _ w5).alloc (Nat.le_refl _) (.cells #[.int .u8 kk, .string x2, .int .i64 0, .int .i64 p2, .slice none 0 0] 25))
    rw [← hw6] at hT
    have hnw : w6.heap[w5.heap.size]? = some (.cells #[.int .u8 kk, .string x2, .int .i64 0, .int .i64 p2, .slice none 0 0] 25 (0, 0)) := by rw [hw6]; exact heap_alloc_new w5 _
    have HN6 := Lib.hid hnw
    have hnb : w.heap.size < w5.heap.size := hl5
    have HT6 := Lib.hid (HT5.out.trans hT)
    have HX6 := Lib.hid (hT.box HX5.out hP (Nat.le_refl _))
    have hl6 : w.heap.size < w6.heap.size := (Array.getElem?_eq_some_iff.1 HX6.out).1
    have hn6 : w5.heap.size < w6.heap.size := (Array.getElem?_eq_some_iff.1 hnw).1
    have HW6 := Lib.hid hw6
    clear hT hnw hw6 
    go_upto_region 12 with fail
    change Code.wp _ _ _ _ (w5.alloc (.cells #[.int .u8 kk, .string x2, .int .i64 0, .int .i64 p2, .slice none 0 0] 25))
    rw [← HW6.out]
    clear HW6
    obtain ⟨e0, e1, e2, e3, e4⟩ := cells5 HN6.out
    have f3 := frozen5 HN6.out 3
    obtain ⟨w7, hw7⟩ : ∃ x, x = w6.setCell ⟨w5.heap.size, 3, none⟩ (.int .i64 at_) := ⟨_, rfl⟩
    have hTs := HT6.out.setCell hP HL.out (Nat.le_of_lt hnb) 3 (.int .i64 at_)
    rw [← hw7] at hTs
    have HT7 := Lib.hid hTs
    clear hTs
    have hoth : ∀ b, b ≠ w5.heap.size → w7.heap[b]? = w6.heap[b]? := fun b hb => by rw [hw7]; exact Below.heap_setCell w6 ⟨w5.heap.size, 3, none⟩ _ b hb
    have hsz : w7.heap.size = w6.heap.size := by rw [hw7]; simp [World.setCell]
    have HX7 := Lib.hid ((hoth w.heap.size (by omega)).trans HX6.out)
    have HN7 : Hid (w7.heap[w5.heap.size]? = some (.cells #[.int .u8 kk, .string x2, .int .i64 0, .int .i64 at_, .slice none 0 0] 25 (0, 0))) := by show _ = _; rw [hw7]; exact heap_set HN6.out 3 _
    have hl7 : w.heap.size < w7.heap.size := by omega
    have hn7 : w5.heap.size < w7.heap.size := by omega
    have HW7 := Lib.hid hw7
    clear hw7 hoth hsz
    go_upto_region 13 with fail
    change Code.wp _ _ _ _ (w6.setCell ⟨w5.heap.size, 3, none⟩ (.int .i64 at_))
    rw [← HW7.out]
    clear HW7 e0 e1 e2 e3 e4 f3 
    have HLs := Lib.hid (rrow6_any HTS.out 1 (by omega) σ3 w7 P L cap HT7.out.2)
    rw [rOne1] at HLs
    generalize listM ts (argM ts) σ3 = r at *
    go_wp2_with fail
    refine Calls.mono (HLs.out) ?_
    rintro e w8 ⟨ks, d, s, rfl, hq, hT, ho⟩
    obtain ⟨p, c, rfl⟩ := ho.shape
    have HQ := Lib.hid hq
    have HO8 := Lib.hid ho
    have HT8 := Lib.hid (HT7.out.trans hT)
    have HX8 := Lib.hid (hT.box HX7.out hP (Nat.le_refl _))
    have hl8 : w.heap.size < w8.heap.size := (Array.getElem?_eq_some_iff.1 HX8.out).1
    have HN8 := Lib.hid (hT.box HN7.out hP (Nat.le_of_lt hnb))
    have hn8 : w5.heap.size < w8.heap.size := (Array.getElem?_eq_some_iff.1 HN8.out).1
    clear hT hq ho HLs
    obtain ⟨e0, e1, e2, e3, e4⟩ := cells5 HN8.out
    have f4 := frozen5 HN8.out 4
    obtain ⟨w9, hw9⟩ : ∃ x, x = w8.setCell ⟨w5.heap.size, 4, none⟩ (.slice p ks.length c) := ⟨_, rfl⟩
    have hTs := HT8.out.setCell hP HL.out (Nat.le_of_lt hnb) 4 (.slice p ks.length c)
    rw [← hw9] at hTs
    have HT9 := Lib.hid hTs
    clear hTs
    have hoth : ∀ b, b ≠ w5.heap.size → w9.heap[b]? = w8.heap[b]? := fun b hb => by rw [hw9]; exact Below.heap_setCell w8 ⟨w5.heap.size, 4, none⟩ _ b hb
    have hsz : w9.heap.size = w8.heap.size := by rw [hw9]; simp [World.setCell]
    have HX9 := Lib.hid ((hoth w.heap.size (by omega)).trans HX8.out)
    have HN9 : Hid (w9.heap[w5.heap.size]? = some (.cells #[.int .u8 kk, .string x2, .int .i64 0, .int .i64 at_, .slice p ks.length c] 25 (0, 0))) := by show _ = _; rw [hw9]; exact heap_set HN8.out 4 _
    have hl9 : w.heap.size < w9.heap.size := by omega
    have hn9 : w5.heap.size < w9.heap.size := by omega
    have HO9 := Lib.hid (show OwnAt w9 d ks (.slice p ks.length c) (Between w7.heap.size w9.heap.size) from (HO8.out.keep fun b o hb ho => (hoth b (by have := hb.1; omega)).trans ho).sub fun b hb => ⟨hb.1, by rw [hsz]; exact hb.2⟩)
    have HW9 := Lib.hid hw9
    clear hw9 hoth hsz
    go_upto_region 14 with fail
    change Code.wp _ _ _ _ (w8.setCell ⟨w5.heap.size, 4, none⟩ (.slice p ks.length c))
    rw [← HW9.out]
    clear HW9 e0 e1 e2 e3 e4 f4 
    go_wp2_with fail
    refine Calls.mono (rwant6_any HT9.out.2 tSemi (by rw [ByteArray.toList_eq]; decide)) ?_
    rintro e w10 ⟨rfl, hT⟩
    have HT10 := Lib.hid (HT9.out.trans hT)
    have HX10 := Lib.hid (hT.box HX9.out hP (Nat.le_refl _))
    have hl10 : w.heap.size < w10.heap.size := (Array.getElem?_eq_some_iff.1 HX10.out).1
    have HN10 := Lib.hid (hT.box HN9.out hP (Nat.le_of_lt hnb))
    have HO10 := Lib.hid (show OwnAt w10 d ks (.slice p ks.length c) (Between w7.heap.size w10.heap.size) from (HO9.out.keep fun b o hb ho => grownBy_keep hT.1 ho (by have := hb.1; omega)).sub fun b hb => ⟨hb.1, Nat.lt_of_lt_of_le hb.2 hT.1.size⟩)
    have hn10 : w5.heap.size < w10.heap.size := (Array.getElem?_eq_some_iff.1 HN10.out).1
    clear hT
    obtain ⟨a0, a1, a2, a3, a4⟩ := cells5 HX10.out
    have z0 := frozen5 HX10.out 0
    have z1 := frozen5 HX10.out 1
    have z2 := frozen5 HX10.out 2
    have z3 := frozen5 HX10.out 3
    have z4 := frozen5 HX10.out 4
    obtain ⟨e0, e1, e2, e3, e4⟩ := cells5 HN10.out
    go_wp2_with fail
    refine ret_node Tryz.results112 rfl (heap_set5 HX10.out _ _ _ _ _) rfl ?_
    rw [← HRf.out]
    exact RRes.stored (r := (.mk kk x2 0 at_ r.1, wantM ts r.2 tSemi)) (T := .mk kk x2 0 at_ ks) hP HL.out HT10.out (fun hb => by rw [HQ.out (want_ok hb)]) HO10.out (fits_mk hk2 HXs.out HAt.out.1 HAt.out.2) (Nat.le_refl _) (by omega) _ _ _ _ _
end Go.Proofs.YtfpohaipmnjflaaGreatDoor
