/- ParseTells: what is parsed of any source is what the document's reader tells, and lies apart. -/
import Derived.Test.YtoekldhdojpceaaGreatDoorMFG
import Derived.Test.YtoekldhdojpceaaGreatDoorMRK
import Derived.Test.YtoekldhdojpceaaGreatDoorMRB
import Derived.Test.YtoekldhdojpceaaGreatDoorMLA
namespace Go.Proofs.YtoekldhdojpceaaGreatDoor
open Go.RowKit

theorem progM_many (s : ByteArray) : manyF 30 (progM s).1 ≤ 16386 := by
  have hz : manyF 30 zeroT ≤ 16386 := by
    have h : manyF 30 zeroT = 1 := by rw [manyF_sum]; rfl
    omega
  unfold progM
  by_cases h1 : 16384 < s.size
  · rw [if_pos h1]; exact hz
  · rw [if_neg h1]
    cases (toksFrom s 0).2 with
    | some p => exact hz
    | none =>
      show manyF 30 (progR (allTk s) (progD (allTk s)) (progT s)).1 ≤ 16386
      unfold progR
      by_cases hb : (progD (allTk s)).2.2 = true
      · rw [if_pos hb]; exact hz
      · rw [if_neg hb]
        cases dpM 30 (progT s) with
        | some p => exact hz
        | none =>
          show manyF 30 (if rightF 30 (progT s) = true then (progT s, (0 : Int), (0 : Int)) else (zeroT, 204, 0)).1 ≤ 16386
          split
          · exact prog_many (by omega) (by simpa using hb) 30
          · exact hz
/-- a list of one node, in a block that was just made -/
theorem own_one {W : World} {g d : Nat} {T : Tree} {s : Value} {F : Nat → Prop} (hg : W.heap[g]? = some (.cells #[.int .u8 T.kind, .string T.text, .int .i64 T.num, .int .i64 T.place, s] 25 (0, 0))) (hf : Fits T) (ho : OwnAt W d T.kids s F) (hF : ∀ b, F b → b ≠ g) :
    OwnAt W (d + 1) [T] (.slice (some ⟨g, 0, none⟩) 1 1) (fun b => b = g ∨ F b) := by
  refine Or.inr ⟨g, 1, _, fun i b => i = 0 ∧ F b, by simp, Or.inl rfl, Nat.le_refl _, by unfold maxLen; omega, rfl, hg, rfl, fun i t hi => ?_, fun i b hb => ⟨Or.inr hb.2, hF b hb.2⟩, fun i j b hij hi hj => hij (hi.1.trans hj.1.symm)⟩
  match i, hi with
  | 0, hi =>
    simp only [List.getElem?_cons_zero, Option.some.injEq] at hi
    subst hi
    refine ⟨hf, s, fun m u hm => ?_, ho.sub fun b hb => ⟨rfl, hb⟩⟩
    rw [Nat.zero_mul, Nat.zero_add]
    simpa [nodeCells] using hm
  | i + 1, hi => simp at hi
theorem three_news6 (w : World) (o p q : Obj) : ∃ W, W = ((w.alloc o).alloc p).alloc q ∧ Below w.heap.size w W ∧ W.heap[w.heap.size]? = some o ∧ W.heap[w.heap.size + 1]? = some p ∧ W.heap[w.heap.size + 1 + 1]? = some q := by
  have s1 : (w.alloc o).heap.size = w.heap.size + 1 := by simp
  have s2 : ((w.alloc o).alloc p).heap.size = w.heap.size + 1 + 1 := by simp
  refine ⟨_, rfl, (((Below.refl _ w).alloc (Nat.le_refl _) _).alloc (by omega) _).alloc (by omega) _, ?_, ?_, ?_⟩
  · rw [heap_alloc_old _ _ (by omega), heap_alloc_old _ _ (by omega)]; exact heap_alloc_new w o
  · rw [heap_alloc_old _ _ (by omega), ← s1]; exact heap_alloc_new _ p
  · rw [← s2]; exact heap_alloc_new _ q
set_option maxRecDepth 100000 in
set_option maxHeartbeats 4000000 in
theorem law_parseTells (s : ByteArray) (w : World) (ht : AsciiTab w) : Calls Tryz.prog 4 #[.string s] w (BoolPost true w) := by
  have HTab := Lib.hid (fun W (hW : Below w.heap.size w W) => ht.below hW)
  have HA := Lib.hid (fun W (hW : Below w.heap.size w W) => awake6_any W (ht.below hW))
  have HPr := Lib.hid (fun W (hW : Below w.heap.size w W) => program_any s W (ht.below hW))
  have HSm := Lib.hid (fun W (hW : Below w.heap.size w W) => same6_any s W (ht.below hW))
  have HMy := Lib.hid (progM_many s)
  obtain ⟨T, hT⟩ : ∃ x, (progM s).1 = x := ⟨_, rfl⟩
  obtain ⟨er, her⟩ : ∃ x, (progM s).2.1 = x := ⟨_, rfl⟩
  obtain ⟨pl, hpl⟩ : ∃ x, (progM s).2.2 = x := ⟨_, rfl⟩
  rw [hT] at HMy
  have HT := Lib.hid hT
  have HEr := Lib.hid her
  have HPl := Lib.hid hpl
  clear ht hT her hpl
  by_cases hs : 17000 < s.size
  · have hs1 : (17000 : Int) < s.size := by omega
    have HA0 := Lib.hid (HA.out w (Below.refl _ _))
    go_enter Tryz.func4, Tryz.ntmps4
    go_wp2_with fail
    refine Calls.mono HA0.out ?_
    rintro e w1 ⟨rfl, hb1⟩
    go_wp2_with fail
    go_ret
    exact ⟨rfl, hb1⟩
  · have hs1 : decide ((17000 : Int) < s.size) = false := by simp; omega
    have HP0 := Lib.hid (HPr.out w (Below.refl _ _))
    go_enter Tryz.func4, Tryz.ntmps4
    go_wp2_with fail
    refine Calls.mono HP0.out ?_
    rintro e w2 ⟨sl, rfl, hb2, ho, hf, _, _⟩
    rw [HT.out] at ho hf ⊢
    rw [HEr.out, HPl.out]
    obtain ⟨p, c, rfl⟩ := ho.shape
    obtain ⟨w3, hw3, hb23, hb3, X0, X1, hl3⟩ := boxes6 T (.slice p T.kids.length c) er pl hb2
    have HO3 := Lib.hid (ho.below (fun b hb => hb.2) hb23)
    have HB3 := Lib.hid hb3
    have HX0 := Lib.hid X0
    have HW3 := Lib.hid hw3
    have hz2 := hb2.size
    have hz3 := hb23.size
    clear hb2 ho hb23 hb3 X0 X1 hw3
    go_upto_region 4 with fail
    change Code.wp _ _ _ _ ((w2.alloc (.cells #[.int .u8 T.kind, .string T.text, .int .i64 T.num, .int .i64 T.place, .slice p T.kids.length c] 25)).alloc (.cells #[.int .i64 er, .int .i64 pl] 40))
    rw [← HW3.out]
    clear HW3
    go_wp2_with fail
    refine Calls.mono (HPr.out w3 HB3.out) ?_
    rintro e w4 ⟨sl4, rfl, hb4, ho4, hf4, _, _⟩
    rw [HT.out] at ho4 hf4 ⊢
    rw [HEr.out, HPl.out]
    obtain ⟨p4, c4, rfl⟩ := ho4.shape
    obtain ⟨w5, hw5, hb45, hb5, Y0, Y1, hl5⟩ := boxes6 T (.slice p4 T.kids.length c4) er pl (HB3.out.trans (hb4.mono HB3.out.size))
    have hb35 := hb4.trans (hb45.mono hb4.size)
    have HO5 := Lib.hid (HO3.out.below (fun b hb => Nat.lt_of_lt_of_le hb.2 hz3) hb35)
    have HO5' := Lib.hid (ho4.below (fun b hb => hb.2) hb45)
    have HB5 := Lib.hid hb5
    have HX5 := Lib.hid (heap_below hb35 HX0.out (by omega))
    have HY5 := Lib.hid Y0
    have HW5 := Lib.hid hw5
    have hz4 := hb4.size
    have hz5 := hb45.size
    clear hb4 ho4 hb45 hb5 Y0 Y1 hb35 hw5 HO3 HX0 hf4
    go_upto_region 5 with fail
    change Code.wp _ _ _ _ ((w4.alloc (.cells #[.int .u8 T.kind, .string T.text, .int .i64 T.num, .int .i64 T.place, .slice p4 T.kids.length c4] 25)).alloc (.cells #[.int .i64 er, .int .i64 pl] 40))
    rw [← HW5.out]
    clear HW5
    go_wp2_with fail
    refine Calls.mono (HSm.out w5 HB5.out) ?_
    rintro e w6 ⟨rfl, hb6⟩
    have x6 := heap_below hb6 HX5.out (by omega)
    have y6 := heap_below hb6 HY5.out (by omega)
    obtain ⟨a0, a1, a2, a3, a4⟩ := cells5 x6
    obtain ⟨d0, d1, d2, d3, d4⟩ := cells5 y6
    have HB6 := Lib.hid (HB5.out.trans (hb6.mono HB5.out.size))
    have HO6 := Lib.hid (HO5.out.below (fun b hb => by have := hb.2; omega) hb6)
    have HO6' := Lib.hid (HO5'.out.below (fun b hb => by have := hb.2; omega) hb6)
    have hz6 := hb6.size
    have hz46 : w4.heap.size < w6.heap.size := by omega
    obtain ⟨wA, hwA⟩ : ∃ wA, wA = w6.alloc (.cells #[.int .u8 T.kind, .string T.text, .int .i64 T.num, .int .i64 T.place, .slice p T.kids.length c] 25) := ⟨_, rfl⟩
    have hbA : Below w6.heap.size w6 wA := by rw [hwA]; exact (Below.refl _ _).alloc (Nat.le_refl _) _
    have yA := heap_below hbA y6 hz46
    obtain ⟨e0, e1, e2, e3, e4⟩ := cells5 yA
    rw [hwA] at e0 e1 e2 e3 e4
    clear hb6 x6 y6 HO5 HO5' HX5 HY5 hwA hbA yA
    go_wp2_with fail
    obtain ⟨w9, hw9, hb9, n0, n1, n2⟩ := three_news6 w6 (.cells #[.int .u8 T.kind, .string T.text, .int .i64 T.num, .int .i64 T.place, .slice p T.kids.length c] 25) (.cells #[.int .u8 T.kind, .string T.text, .int .i64 T.num, .int .i64 T.place, .slice p4 T.kids.length c4] 25) (.cells #[.slice (some ⟨w6.heap.size, 0, none⟩) 1 1, .slice (some ⟨w6.heap.size + 1, 0, none⟩) 1 1] 23)
    have oa := own_one n0 hf (HO6.out.below (fun b hb => by have := hb.2; omega) hb9) (fun b hb => by have := hb.2; omega)
    have ob := own_one n1 hf (HO6'.out.below (fun b hb => by have := hb.2; omega) hb9) (fun b hb => by have := hb.2; omega)
    have hz9 := hb9.size
    have hz3' := HB3.out.size
    have hap := apartNodes_any (w := w9) (Bt := w.heap.size) (o := w6.heap.size + 1 + 1) (c := 2) (d := 30) oa ob
      (fun b hb => by rcases hb with rfl | hb; · omega
                      · exact hb.1)
      (fun b hb => by rcases hb with rfl | hb; · omega
                      · have := hb.1; omega)
      (fun b hb hb' => by
        rcases hb with rfl | hb
        · rcases hb' with hb' | hb'
          · omega
          · have := hb'.2; omega
        · rcases hb' with rfl | hb'
          · have := hb.2; omega
          · have := hb.2; have := hb'.1; omega) (by have := HMy.out; omega) (by have := HMy.out; omega)
      (by rw [cell_of_row _ _ _ _ _ _ n2]; rfl) (by rw [cell_of_row _ _ _ _ _ _ n2]; rfl) (by omega)
    have HAp := Lib.hid hap
    have HB9 := Lib.hid (HB6.out.trans (hb9.mono HB6.out.size))
    clear a0 a1 a2 a3 a4 d0 d1 d2 d3 d4 e0 e1 e2 e3 e4 oa ob n0 n1 n2 hap hb9 HO6 HO6'
    rw [← hw9]
    refine Calls.mono HAp.out ?_
    rintro e w10 ⟨rfl, hb10⟩
    have HB10 := Lib.hid (HB9.out.trans hb10)
    clear hb10
    go_wp2_with fail
    refine Calls.mono (HA.out w10 HB10.out) ?_
    rintro e w11 ⟨rfl, hb11⟩
    have HB11 := Lib.hid (HB10.out.trans (hb11.mono HB10.out.size))
    clear hb11
    go_wp2_with fail
    go_ret
    exact ⟨rfl, HB11.out⟩
end Go.Proofs.YtoekldhdojpceaaGreatDoor
