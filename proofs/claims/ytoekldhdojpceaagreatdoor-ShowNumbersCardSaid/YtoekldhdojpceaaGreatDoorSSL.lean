/- Several texts joined, each with its own sentence and conditions ahead of it: LawShow, RowL. -/
import Derived.Test.YtoekldhdojpceaaGreatDoorSSW
import Derived.Test.YtoekldhdojpceaaGreatDoorSSC
import Derived.Test.YtoekldhdojpceaaGreatDoorSF
import Derived.Test.YtoekldhdojpceaaGreatDoorSL
import Derived.Test.YtoekldhdojpceaaGreatDoorSO
import Derived.Test.YtoekldhdojpceaaGreatDoorSSB
/- ShowTells, the law's walk: it answers true. Condition: the library's tables lie as laid. -/
namespace Go.Proofs.YtoekldhdojpceaaGreatDoor
open Go.RowKit

set_option maxRecDepth 100000 in
set_option maxHeartbeats 2000000 in
theorem law_showTells (d0 : Nat) (T : Tree) (v : Value) (B : Nat) (w : World) (hv0 : NodeAt w B d0 T v) (hB : B ≤ w.heap.size) (ht : AsciiTab w) (hp : Lib.TabIs Tryz.prog w "internal/strconv.uint64pow10" .u64 Lib.pow10Tab) :
    Calls Tryz.prog 26 #[v] w (BoolPost true w) := by
  obtain ⟨d, hd⟩ : ∃ d, d = d0 + 3 := ⟨_, rfl⟩
  have hv : NodeAt w B d T v := by rw [hd]; exact hv0.deeper (by omega)
  have hv' := hv
  obtain ⟨hf, s, rfl, hks⟩ := hv
  obtain ⟨p, c, rfl, _, _⟩ := hks.rows
  have hb0 : Below w.heap.size w (w.alloc (.cells #[.int .u8 T.kind, .string T.text, .int .i64 T.num, .int .i64 T.place, .slice p T.kids.length c] 25)) := (Below.refl _ w).alloc (Nat.le_refl _) _
  have hx := heap_alloc_new w (.cells #[.int .u8 T.kind, .string T.text, .int .i64 T.num, .int .i64 T.place, .slice p T.kids.length c] 25)
  obtain ⟨b0, b1, b2, b3, b4⟩ := cells5 hx
  have HX := Lib.hid hx
  have HB := Lib.hid hb0
  have HV := Lib.hid (fun W (hW : Below w.heap.size w W) => hv'.below (hW.mono hB))
  have HBW := Lib.hid (fun W (hW : Below w.heap.size w W) => Nat.le_trans hB hW.size)
  have HT := Lib.hid (fun W (hW : Below w.heap.size w W) => ht.below hW)
  have HP := Lib.hid (fun W (hW : Below w.heap.size w W) => (pow_here hp) W hW)
  have HN := Lib.hid (fun W (hW : Below w.heap.size w W) => nodesOf_any d T _ B W 9000 (HV.out W hW) (HBW.out W hW) (by omega) (by omega))
  have HSl := Lib.hid (slim_of d T 9000 (by omega))
  have HF := Lib.hid hf
  have HD := Lib.hid hd
  clear hb0 hx hks hv' ht hf hp hd
  generalize nodesF d T 9000 = nd at *
  go_enter Tryz.func26, Tryz.ntmps26
  go_wp2_with fail
  refine Calls.mono (HN.out _ HB.out) ?_
  rintro e w1 ⟨rfl, hb1⟩
  have HB1 := Lib.hid (HB.out.trans (hb1.mono HB.out.size))
  have HX1 := Lib.hid (heap_below hb1 HX.out (by simp))
  clear b0 b1 b2 b3 b4 hb1
  by_cases h9 : nd ≤ 9000
  · obtain ⟨hmany, hslim⟩ := HSl.out h9
    have hm : manyF d T ≤ 100000 := by omega
    have HSm := Lib.hid hslim
    have HM := Lib.hid hm
    have hx1 := HX1.out
    obtain ⟨b0, b1, b2, b3, b4⟩ := cells5 hx1
    clear hmany hslim hm hx1
    go_wp2_with fail
    refine Calls.mono (lentN_any d T _ B w1 (HV.out _ HB1.out) (HBW.out _ HB1.out) HSm.out.kids) ?_
    intro e w2 hpost
    obtain ⟨g, rfl, hb2, hl⟩ := hpost.node
    clear hpost
    have HB2 := Lib.hid (HB1.out.trans (hb2.mono HB1.out.size))
    have x2 := heap_below hb2 HX1.out (Array.getElem?_eq_some_iff.1 HX1.out).1
    have HX2 := Lib.hid x2
    have HL := Lib.hid hl
    clear b0 b1 b2 b3 b4 hb2 x2 hl
    obtain ⟨w3, hw3⟩ : ∃ w3, w3 = w2.alloc (.cells #[.int .u8 T.kind, .string T.text, .int .i64 T.num, .int .i64 T.place, .slice (some ⟨g, 0, none⟩) T.kids.length (T.kids.length + 12)] 25) := ⟨_, rfl⟩
    have hba : Below w2.heap.size w2 w3 := by rw [hw3]; exact (Below.refl _ w2).alloc (Nat.le_refl _) _
    have y3 : w3.heap[w2.heap.size]? = some (.cells #[.int .u8 T.kind, .string T.text, .int .i64 T.num, .int .i64 T.place, .slice (some ⟨g, 0, none⟩) T.kids.length (T.kids.length + 12)] 25 (0, 0)) := by rw [hw3]; exact heap_alloc_new w2 _
    have x3 := heap_below hba HX2.out (Array.getElem?_eq_some_iff.1 HX2.out).1
    have HB3 := Lib.hid (HB2.out.trans (hba.mono HB2.out.size))
    have HL3 := Lib.hid (HL.out.below hba)
    have HS3 := Lib.hid hba.size
    have HX3 := Lib.hid x3
    have HY3 := Lib.hid y3
    have HIn := Lib.hid (fun W (hW : Below w3.heap.size w3 W) => (⟨HF.out, _, rfl, (HL3.out.below (hW.mono hba.size)).kids HSm.out.kids⟩ : NodeAt W w2.heap.size d T (.agg #[.int .u8 T.kind, .string T.text, .int .i64 T.num, .int .i64 T.place, .slice (some ⟨g, 0, none⟩) T.kids.length (T.kids.length + 12)])))
    have hS : Calls Tryz.prog 51 #[.agg #[.int .u8 T.kind, .string T.text, .int .i64 T.num, .int .i64 T.place, .slice (some ⟨g, 0, none⟩) T.kids.length (T.kids.length + 12)]] w3 fun e w' => e = .returned (.tuple #[.string (showM d0 T).1, .int .i64 (showM d0 T).2]) ∧ Below w3.heap.size w3 w' := by
      have h1 := HIn.out w3 (Below.refl _ _)
      have h2 := HSm.out
      rw [HD.out] at h1 h2
      exact sprog_any d0 T _ _ w3 h1 hba.size h2 (HT.out w3 HB3.out) (HP.out w3 HB3.out)
    have hR : ∀ W, Below w.heap.size w W → Calls Tryz.prog 52 #[.agg #[.int .u8 T.kind, .string T.text, .int .i64 T.num, .int .i64 T.place, .slice p T.kids.length c]] W fun e w' => e = .returned (.tuple #[.string (showM d0 T).1, .int .i64 (showM d0 T).2]) ∧ Below W.heap.size W w' := fun W hW => by
      have h1 := HV.out W hW
      have h2 := HSm.out
      have h3 := HM.out
      rw [HD.out] at h1 h2 h3
      exact rprog_any d0 T _ _ W h1 (HBW.out W hW) h2 h3 (HP.out W hW)
    have HS := Lib.hid hS
    have HR := Lib.hid hR
    clear hba hS hR x3 y3
    generalize (showM d0 T).1 = rs at *
    generalize (showM d0 T).2 = re at *
    go_upto_region 4 with fail
    change Code.wp _ _ _ _ (w2.alloc (.cells #[.int .u8 T.kind, .string T.text, .int .i64 T.num, .int .i64 T.place, .slice (some ⟨g, 0, none⟩) T.kids.length (T.kids.length + 12)] 25))
    rw [← hw3]
    clear hw3
    obtain ⟨m0, m1, m2, m3, m4⟩ := cells5 HY3.out
    go_wp2_with fail
    refine Calls.mono HS.out ?_
    rintro e w4 ⟨rfl, hb4⟩
    have HB34 := Lib.hid hb4
    have HB4 := Lib.hid (HB3.out.trans (hb4.mono HB3.out.size))
    have HX4 := Lib.hid (heap_below hb4 HX3.out (Array.getElem?_eq_some_iff.1 HX3.out).1)
    have HY4 := Lib.hid (heap_below hb4 HY3.out (Array.getElem?_eq_some_iff.1 HY3.out).1)
    clear m0 m1 m2 m3 m4 hb4
    obtain ⟨b0, b1, b2, b3, b4⟩ := cells5 HX4.out
    go_wp2_with fail
    refine Calls.mono (HR.out w4 HB4.out) ?_
    rintro e w5 ⟨rfl, hb5⟩
    have HB35 := Lib.hid (HB34.out.trans (hb5.mono HB34.out.size))
    have HB5 := Lib.hid (HB4.out.trans (hb5.mono HB4.out.size))
    have HX5 := Lib.hid (heap_below hb5 HX4.out (Array.getElem?_eq_some_iff.1 HX4.out).1)
    have HY5 := Lib.hid (heap_below hb5 HY4.out (Array.getElem?_eq_some_iff.1 HY4.out).1)
    clear b0 b1 b2 b3 b4 hb5
    obtain ⟨b0, b1, b2, b3, b4⟩ := cells5 HX5.out
    obtain ⟨m0, m1, m2, m3, m4⟩ := cells5 HY5.out
    have HK := Lib.hid (keptN_any d T _ _ _ _ B w5 HF.out (HL3.out.below (HB35.out.mono HS3.out)) (HV.out _ HB5.out) (Nat.le_trans HS3.out HB35.out.size) (HBW.out _ HB5.out) HSm.out.kids)
    go_wp2_with fail
    refine Calls.mono HK.out ?_
    rintro e w6 ⟨rfl, hb6⟩
    have HB6 := Lib.hid (HB5.out.trans (hb6.mono HB5.out.size))
    have HAw := Lib.hid (awake7_any w6 (HT.out w6 HB6.out) (HP.out w6 HB6.out))
    clear hb6 b0 b1 b2 b3 b4 m0 m1 m2 m3 m4
    go_wp2_with fail
    refine Calls.mono HAw.out ?_
    rintro e w7 ⟨rfl, hb7⟩
    have HB7 := Lib.hid (HB6.out.trans (hb7.mono HB6.out.size))
    clear hb7
    go_wp2_with fail
    go_ret
    exact ⟨rfl, HB7.out⟩
  · have h9' : 9000 < nd := by omega
    have HAw := Lib.hid (awake7_any w1 (HT.out w1 HB1.out) (HP.out w1 HB1.out))
    clear h9
    go_wp2_with fail
    refine Calls.mono HAw.out ?_
    rintro e w2 ⟨rfl, hb2⟩
    have HB2 := Lib.hid (HB1.out.trans (hb2.mono HB1.out.size))
    clear hb2
    go_wp2_with fail
    go_ret
    exact ⟨rfl, HB2.out⟩
end Go.Proofs.YtoekldhdojpceaaGreatDoor
/- The rows' frame where the library's table of powers of ten is listed, too. No condition. -/
namespace Go.Proofs.YtoekldhdojpceaaGreatDoor
open Go.ChangeShapes Go.WideShapes Go.ChangeAt Go.RowKit

/-- what the rows of chapter 07 list -/
noncomputable def laidL7 : List (String × DataW Unit) := [("math/bits.deBruijn32tab", Rows.laid_math_bits_deBruijn32tab), ("math/bits.deBruijn64tab", Rows.laid_math_bits_deBruijn64tab), ("internal/strconv.uint64pow10", Rows.laid_internal_strconv_uint64pow10), ("io.EOF", Rows.laid_io_EOF), ("unicode.White_Space", Rows.laid_unicode_White_Space), ("strings.asciiSpace", Rows.laid_strings_asciiSpace)]
theorem ascii_of_laid7 {w : World} (h : laidMetH Tryz.prog laidL7 w) : AsciiTab w := by
  have h1 : laidMetH Tryz.prog [("strings.asciiSpace", Lib.tabData .u8 Lib.asciiSpaceTab)] w := by
    have h2 := h.filter (fun x => x.1 == "strings.asciiSpace")
    have e : laidL7.filter (fun x => x.1 == "strings.asciiSpace") = [("strings.asciiSpace", Lib.tabData .u8 Lib.asciiSpaceTab)] := by kernel_rfl
    rw [e] at h2
    exact h2
  rw [MakeChecks.laidMetH_plain _ _ _ (by kernel_rfl)] at h1
  have ht : Lib.TabIs Tryz.prog w "strings.asciiSpace" .u8 Lib.asciiSpaceTab := Lib.tabIs_of_head gAscii (t := 373) (by kernel_rfl) Tryz.underlying373 Tryz.underlying5 (by kernel_rfl) (by kernel_rfl) h1
  intro c hc
  have := ht.cell gAscii c (by rw [Lib.asciiSpaceTab_length]; exact hc)
  rw [Lib.asciiSpaceTab_at c hc] at this
  exact this
theorem gPow : Tryz.prog.globalNamed "internal/strconv.uint64pow10" = some 6 := by kernel_rfl
theorem pow_of_laid7 {w : World} (h : laidMetH Tryz.prog laidL7 w) : Lib.TabIs Tryz.prog w "internal/strconv.uint64pow10" .u64 Lib.pow10Tab := by
  have h1 : laidMetH Tryz.prog [("internal/strconv.uint64pow10", Lib.tabData .u64 Lib.pow10Tab)] w := by
    have h2 := h.filter (fun x => x.1 == "internal/strconv.uint64pow10")
    have e : laidL7.filter (fun x => x.1 == "internal/strconv.uint64pow10") = [("internal/strconv.uint64pow10", Lib.tabData .u64 Lib.pow10Tab)] := by kernel_rfl
    rw [e] at h2
    exact h2
  rw [MakeChecks.laidMetH_plain _ _ _ (by kernel_rfl)] at h1
  exact Lib.tabIs_of_head gPow (t := 411) (by kernel_rfl) Tryz.underlying411 Tryz.underlying191 (by kernel_rfl) (by kernel_rfl) h1
/-- The door's own heap meets the condition. -/
theorem door_met7 (os : Os) (args : Array Value) : laidMetH Tryz.prog laidL7 ((World.doorLaid Tryz.prog 400 os).forCall (fun _ _ => 0) ⟨#[], args, []⟩).memory :=
  laidMetH_of_parts3 (fuel := 8) (laidMet_of_run' 8 (by kernel_rfl) (by kernel_rfl)) (by kernel_rfl) (by kernel_rfl)
end Go.Proofs.YtoekldhdojpceaaGreatDoor
