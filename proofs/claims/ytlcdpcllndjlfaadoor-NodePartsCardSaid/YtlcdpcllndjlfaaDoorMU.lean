/- NodeParts, the law's walk: it answers true. Condition: the library's table of blanks lies as laid. -/
import Derived.Test.YtlcdpcllndjlfaaDoorMS
import Derived.Test.YtlcdpcllndjlfaaDoorMT
import Derived.Test.YtlcdpcllndjlfaaDoorMN
import Derived.Test.YtlcdpcllndjlfaaDoorMP
import Derived.BigRegion
import Derived.Deep.Cut
import Derived.Deep.CutRange
namespace Go.Proofs.YtlcdpcllndjlfaaDoor
open Go.RowKit

def pickZ (x n : Int) : Int := if x.tmod n < 0 then x.tmod n + n else x.tmod n
theorem pickZ_in (x n : Int) (hn : 1 ≤ n) : 0 ≤ pickZ x n ∧ pickZ x n < n := by
  have hlt := Int.tmod_lt_of_pos x (b := n) (by omega)
  have hgt : -n < x.tmod n := Int.lt_tmod_of_pos x (b := n) (by omega)
  unfold pickZ
  split <;> omega
def PickQ (x n : Int) (w : World) (e : Ending) (w' : World) : Prop := e = .returned (.int .i64 (pickZ x n)) ∧ Below w.heap.size w w'
theorem pick_at (x n : Int) (w : World) (hn : 1 ≤ n) (hn2 : n ≤ 1000000) :
    Calls Tryd.prog 10 #[.int .i64 x, .int .i64 n] w (PickQ x n w) := by
  have hlt := Int.tmod_lt_of_pos x (b := n) (by omega)
  have hgt : -n < x.tmod n := Int.lt_tmod_of_pos x (b := n) (by omega)
  go_enter Tryd.func10, Tryd.ntmps10
  by_cases hneg : x.tmod n < 0
  · have e : pickZ x n = x.tmod n + n := by unfold pickZ; rw [if_pos hneg]
    have HE := Lib.hid e
    clear e
    go_wp2
    go_ret
    exact ⟨by rw [HE.out]; rfl, Below.refl _ _⟩
  · have e : pickZ x n = x.tmod n := by unfold pickZ; rw [if_neg hneg]
    have HE := Lib.hid e
    clear e
    go_wp2
    go_ret
    exact ⟨by rw [HE.out]; rfl, Below.refl _ _⟩
theorem fits_prog (t : Tree) : Fits (.mk 1 ⟨#[]⟩ 0 0 [t]) := ⟨by show 1 < 256; omega, by show 0 ≤ maxLen; omega, by show (-9223372036854775808 : Int) ≤ 0; omega, by show (0 : Int) < 9223372036854775808; omega, by show (-9223372036854775808 : Int) ≤ 0; omega, by show (0 : Int) < 9223372036854775808; omega⟩
theorem kids_slim {w : World} {B d : Nat} {T : Tree} {v : Value} (h : NodeAt w B d T v) (hs : Slim d T) : T.kids.length ≤ 20000 := by
  obtain ⟨_, s, _, hk⟩ := h
  cases d with
  | zero => rw [hk.1]; exact Nat.zero_le _
  | succ d => exact hs.2.1
def PartsRel (w : World) (cs : Array Value) (n : Nat) (i : Value) (W : World) : Prop :=
  ∃ (W1 : World) (j : Nat), W1 = W ∧ j ≤ n ∧ i = .int .i64 j ∧ Below w.heap.size w W1 ∧ W1.heap[w.heap.size]? = some (.cells cs 25 (0, 0))
set_option maxRecDepth 100000 in
set_option maxHeartbeats 2000000 in
theorem law_nodeParts (hA : Awake) (d : Nat) (T : Tree) (v : Value) (i k b : Int) (B : Nat) (w : World) (hv : NodeAt w B d T v) (hB : B ≤ w.heap.size) (ht : AsciiTab w) :
    Calls Tryd.prog 3 #[v, .int .i64 i, .int .i64 k, .int .i64 b] w (BoolPost true w) := by
  have hv' := hv
  obtain ⟨hf, s, rfl, hks⟩ := hv
  obtain ⟨p, c, rfl, hlen, hrow⟩ := hks.rows
  have HLen := Lib.hid hlen
  have HRow := Lib.hid hrow
  clear hlen hrow
  have hb0 : Below w.heap.size w (w.alloc (.cells #[.int .u8 T.kind, .string T.text, .int .i64 T.num, .int .i64 T.place, .slice p T.kids.length c] 25)) := (Below.refl _ w).alloc (Nat.le_refl _) _
  have hx := heap_alloc_new w (.cells #[.int .u8 T.kind, .string T.text, .int .i64 T.num, .int .i64 T.place, .slice p T.kids.length c] 25)
  have HX := Lib.hid hx
  have HB := Lib.hid hb0
  have HV := Lib.hid (fun W (hW : Below w.heap.size w W) => hv'.below (hW.mono hB))
  have HBW := Lib.hid (fun W (hW : Below w.heap.size w W) => Nat.le_trans hB hW.size)
  have HT := Lib.hid (fun W (hW : Below w.heap.size w W) => ht.below hW)
  have HA := Lib.hid hA
  have HN := Lib.hid (fun W (hW : Below w.heap.size w W) => nodesOf_any d T _ B W 9000 (HV.out W hW) (HBW.out W hW) (by omega) (by omega))
  have HSl := Lib.hid (slim_of d T 9000 (by omega))
  have HF := Lib.hid hf
  clear hb0 hx hks hv' ht hA hf
  generalize nodesF d T 9000 = nd at *
  go_enter Tryd.func3, Tryd.ntmps3
  go_wp2_with fail
  refine Calls.mono (HA.out _ (HT.out _ HB.out)) ?_
  rintro e w1 ⟨rfl, hb1⟩
  have HB1 := Lib.hid (HB.out.trans (hb1.mono HB.out.size))
  have HX1 := Lib.hid (heap_below hb1 HX.out (by simp))
  have hx1 := HX1.out
  obtain ⟨b0, b1, b2, b3, b4⟩ := cells5 hx1
  clear hb1 hx1
  go_wp2_with fail
  refine Calls.mono (HN.out _ HB1.out) ?_
  rintro e w2 ⟨rfl, hb2⟩
  have HB2 := Lib.hid (HB1.out.trans (hb2.mono HB1.out.size))
  have HX2 := Lib.hid (heap_below hb2 HX1.out (Array.getElem?_eq_some_iff.1 HX1.out).1)
  have hx2 := HX2.out
  clear b0 b1 b2 b3 b4 hb2
  obtain ⟨b0, b1, b2, b3, b4⟩ := cells5 hx2
  clear hx2
  by_cases h9 : nd ≤ 9000
  · have e1 : decide ((9000 : Int) < nd) = false := by simp; omega
    obtain ⟨hmany, hslim⟩ := HSl.out h9
    have hm : manyF d T ≤ 100000 := by omega
    have HSm := Lib.hid hslim
    have HM := Lib.hid hm
    clear hmany hslim hm
    by_cases hk1 : T.kind = 1
    · have hk1' : ((T.kind : Int) != 1) = false := by simp; omega
      have HK1 := Lib.hid hk1
      clear hk1
      go_wp2_with fail
      refine Calls.mono (copyN_any d T _ B w2 (HV.out _ HB2.out) (HBW.out _ HB2.out) HSm.out.kids) ?_
      rintro e w3 ⟨s3, rfl, hb3, ho3⟩
      have HB3 := Lib.hid (HB2.out.trans (hb3.mono HB2.out.size))
      have x3 := heap_below hb3 HX2.out (Array.getElem?_eq_some_iff.1 HX2.out).1
      have HX3 := Lib.hid x3
      have HO3 := Lib.hid ho3
      have hs23 := hb3.size
      clear b0 b1 b2 b3 b4 hb3 ho3
      obtain ⟨b0, b1, b2, b3, b4⟩ := cells5 x3
      clear x3
      go_wp2_with fail
      refine Calls.mono (pick_at _ _ w3 (by omega) (by omega)) ?_
      rintro e w3' ⟨rfl, hb3'⟩
      obtain ⟨hby0, hby⟩ := pickZ_in b 1000 (by omega)
      generalize pickZ b 1000 = by_ at *
      have HO3' := Lib.hid (HO3.out.below (fun b hb => hb.2) hb3')
      have HB3' := Lib.hid (HB3.out.trans (hb3'.mono HB3.out.size))
      have HX3' := Lib.hid (heap_below hb3' HX3.out (Array.getElem?_eq_some_iff.1 HX3.out).1)
      have hs33 := hb3'.size
      clear hb3' HO3 HB3 HX3
      go_wp2_with fail
      refine Calls.mono (movedN_any d T s3 by_ (Between w2.heap.size w3.heap.size) w3' HF.out HO3'.out (fun b hb => Nat.lt_of_lt_of_le hb.2 hs33) hby0 (by have := deepF_le d T; have := HM.out; omega)) ?_
      rintro e w4 ⟨rfl, hch, ho4⟩
      obtain ⟨p4, c4, rfl⟩ := ho4.shape
      have hFw : ∀ i, Between w2.heap.size w3.heap.size i → w2.heap.size ≤ i := fun i hi => hi.1
      have HB4 := Lib.hid (hch.below HB3'.out (fun i hi => Nat.le_trans HB2.out.size (hFw i hi)) HB3'.out.size)
      have x4 := (hch.block _ (Array.getElem?_eq_some_iff.1 HX3'.out).1 (fun h => by have := hFw _ h; have := (Array.getElem?_eq_some_iff.1 HX2.out).1; omega)).trans HX3'.out
      have HX4 := Lib.hid x4
      have HO4 := Lib.hid ho4
      have HS4 := Lib.hid hch.size
      clear b0 b1 b2 b3 b4 hch ho4 hFw
      obtain ⟨b0, b1, b2, b3, b4⟩ := cells5 x4
      clear x4
      go_wp2_with fail
      clear b0 b1 b2 b3 b4
      have hba : Below w4.heap.size w4 (w4.alloc (.cells #[.int .u8 T.kind, .string T.text, .int .i64 T.num, .int .i64 (max T.place 0 % 1000 + by_), .slice p4 (movedT d by_ T).kids.length c4] 25)) := (Below.refl _ w4).alloc (Nat.le_refl _) _
      have y5 := heap_alloc_new w4 (.cells #[.int .u8 T.kind, .string T.text, .int .i64 T.num, .int .i64 (max T.place 0 % 1000 + by_), .slice p4 (movedT d by_ T).kids.length c4] 25)
      have x5 := heap_below hba HX4.out (Array.getElem?_eq_some_iff.1 HX4.out).1
      have HB5 := Lib.hid (HB4.out.trans (hba.mono HB4.out.size))
      have HX5 := Lib.hid x5
      have HY5 := Lib.hid y5
      have hmv := movedT_kind d by_ T
      have hMd := deepF_moved d by_ T
      have HMK := Lib.hid (HO4.out.kids (B := w4.heap.size) (fun b hb => Nat.lt_of_lt_of_le hb.2 (Nat.le_trans hs33 HS4.out)))
      have HMA := Lib.hid (show NodeAt w4 w4.heap.size d (movedT d by_ T) (.agg #[.int .u8 T.kind, .string T.text, .int .i64 T.num, .int .i64 (max T.place 0 % 1000 + by_), .slice p4 (movedT d by_ T).kids.length c4]) from
        ⟨fits_moved d by_ T HF.out hby0 (by omega), _, by rw [hmv.1, hmv.2.1, hmv.2.2.1, hmv.2.2.2], HMK.out⟩)
      have HBA := Lib.hid hba
      have hsm := sameF_moved d by_ T
      have HSM := Lib.hid (slim_moved d by_ T HSm.out)
      have HRM := Lib.hid (rightF_moved d by_ T hby0)
      clear hmv HO4 HMK
      generalize (w4.alloc (.cells #[.int .u8 T.kind, .string T.text, .int .i64 T.num, .int .i64 (max T.place 0 % 1000 + by_), .slice p4 (movedT d by_ T).kids.length c4] 25)) = w5 at *
      generalize (max T.place 0 % 1000 + by_) = mpl at *
      generalize hMM : movedT d by_ T = M at *
      clear hMM
      have HC0 := Lib.hid (show NodeAt w w.heap.size d T (.agg #[.int .u8 T.kind, .string T.text, .int .i64 T.num, .int .i64 T.place, .slice p T.kids.length c]) from (HV.out w (Below.refl _ _)).up hB)
      obtain ⟨b0, b1, b2, b3, b4⟩ := cells5 x5
      obtain ⟨m0, m1, m2, m3, m4⟩ := cells5 y5
      have C0 := fun x : Wb w5 => x.cell b0
      have C1 := fun x : Wb w5 => x.cell b1
      have C2 := fun x : Wb w5 => x.cell b2
      have C3 := fun x : Wb w5 => x.cell b3
      have C4 := fun x : Wb w5 => x.cell b4
      have D0 := fun x : Wb w5 => x.cell m0
      have D1 := fun x : Wb w5 => x.cell m1
      have D2 := fun x : Wb w5 => x.cell m2
      have D3 := fun x : Wb w5 => x.cell m3
      have D4 := fun x : Wb w5 => x.cell m4
      have HBx := Lib.hid (fun x : Wb w5 => HB5.out.trans (x.2.mono HB5.out.size))
      have HMx := Lib.hid (fun x : Wb w5 => HMA.out.below (HBA.out.trans (x.2.mono HBA.out.size)))
      have HMs := Lib.hid (fun x : Wb w5 => Nat.le_trans HBA.out.size x.2.size)
      have HR1 := Lib.hid (fun x : Wb w5 => same_any d T M _ _ _ _ x.1 (HV.out _ (HBx.out x)) (HMx.out x) (HBW.out _ (HBx.out x)) (HMs.out x))
      have HR2 := Lib.hid (fun x : Wb w5 => same_any d M T _ _ _ _ x.1 (HMx.out x) (HV.out _ (HBx.out x)) (HMs.out x) (HBW.out _ (HBx.out x)))
      have HD1 := Lib.hid (fun x : Wb w5 => deep_any d M _ _ x.1 (HMx.out x) (HMs.out x) (by rw [hMd.2]; exact HM.out))
      have HD2 := Lib.hid (fun x : Wb w5 => deep_any d T _ _ x.1 (HV.out _ (HBx.out x)) (HBW.out _ (HBx.out x)) HM.out)
      have HRT := Lib.hid (fun W (hW : Below w.heap.size w W) => nodeRight_any d T _ B W (HV.out W hW) (HBW.out W hW) HSm.out (HT.out W hW))
      have HD2' := Lib.hid (fun W (hW : Below w.heap.size w W) => deep_any d T _ _ W (HV.out W hW) (HBW.out W hW) HM.out)
      have HRM1 := Lib.hid (fun W (hW : Below w.heap.size w W) (hB : Below w4.heap.size w4 W) => nodeRight_any d M _ w4.heap.size W (HMA.out.below hB) hB.size HSM.out (HT.out W hW))
      rw [hsm.1] at HR1
      rw [hsm.2] at HR2
      rw [hMd.1] at HD1
      clear b0 b1 b2 b3 b4 m0 m1 m2 m3 m4 x5 y5 hsm hMd hba
      have HDp := Lib.hid (show rightF d T = true → deepF d T ≤ 30 from fun h => (rightF_top h).2.2.2.2)
      generalize hdp : deepF d T = dp at *
      have ed : ((dp : Int) != (dp : Int)) = false := by simp
      refine wp_region_below (by kernel_rfl) (by kernel_rfl) ?_
      repeat (go_big_quiet_step (fail))
      go_big_quiet_step ((go_at_call 11; exact Calls.below_of (HR1.out _)))
      repeat (go_big_quiet_step (fail))
      go_big_quiet_step ((go_at_call 11; exact Calls.below_of (HR2.out _)))
      repeat (go_big_quiet_step (fail))
      go_big_quiet_step ((go_at_call 12; exact Calls.below_of (HD1.out _)))
      repeat (go_big_quiet_step (fail))
      go_big_quiet_step ((go_at_call 12; exact Calls.below_of (HD2.out _)))
      repeat (go_big_quiet_step (fail))
      refine wpQuiet_nil ?_
      intro w6 hw'
      have hb6 := wb_below hw'
      have HB6 := Lib.hid (HB5.out.trans (hb6.mono HB5.out.size))
      have HA6 := Lib.hid (HBA.out.trans (hb6.mono HBA.out.size))
      have x6 := heap_below hb6 HX5.out (Array.getElem?_eq_some_iff.1 HX5.out).1
      have y6 := heap_below hb6 HY5.out (Array.getElem?_eq_some_iff.1 HY5.out).1
      have HX6 := Lib.hid x6
      have HY6 := Lib.hid y6
      clear C0 C1 C2 C3 C4 D0 D1 D2 D3 D4 HBx HMx HMs HR1 HR2 HD1 ed hw' hb6
      obtain ⟨b0, b1, b2, b3, b4⟩ := cells5 x6
      clear x6 y6
      go_wp2_with fail
      refine Calls.mono (HRT.out _ HB6.out) ?_
      rintro e w7 ⟨rfl, hb7⟩
      have HB7 := Lib.hid (HB6.out.trans (hb7.mono HB6.out.size))
      have HA7 := Lib.hid (HA6.out.trans (hb7.mono HA6.out.size))
      have x7 := heap_below hb7 HX6.out (Array.getElem?_eq_some_iff.1 HX6.out).1
      have y7 := heap_below hb7 HY6.out (Array.getElem?_eq_some_iff.1 HY6.out).1
      have HX7 := Lib.hid x7
      have HY7 := Lib.hid y7
      clear b0 b1 b2 b3 b4 hb7
      obtain ⟨b0, b1, b2, b3, b4⟩ := cells5 x7
      obtain ⟨m0, m1, m2, m3, m4⟩ := cells5 y7
      clear x7 y7
      by_cases hrt : rightF d T = true
      · have HRt := Lib.hid hrt
        have hrm := HRM.out hrt
        have hdp30 := HDp.out hrt
        have hdp30' : decide ((30 : Int) < dp) = false := by simp; omega
        rw [hrt]
        rw [hrm] at HRM1
        clear hrt hrm
        go_wp2_with fail
        refine Calls.mono (HRM1.out _ HB7.out HA7.out) ?_
        rintro e w8 ⟨rfl, hb8⟩
        have HB8 := Lib.hid (HB7.out.trans (hb8.mono HB7.out.size))
        have x8 := heap_below hb8 HX7.out (Array.getElem?_eq_some_iff.1 HX7.out).1
        have HX8 := Lib.hid x8
        clear b0 b1 b2 b3 b4 m0 m1 m2 m3 m4 hb8
        obtain ⟨b0, b1, b2, b3, b4⟩ := cells5 x8
        clear x8
        go_wp2_with fail
        refine Calls.mono (HD2'.out _ HB8.out) ?_
        rintro e w9 ⟨rfl, hb9⟩
        have HB9 := Lib.hid (HB8.out.trans (hb9.mono HB8.out.size))
        have x9 := heap_below hb9 HX8.out (Array.getElem?_eq_some_iff.1 HX8.out).1
        have HX9 := Lib.hid x9
        clear b0 b1 b2 b3 b4 hb9
        obtain ⟨b0, b1, b2, b3, b4⟩ := cells5 x9
        clear x9
        go_wp2_with fail
        clear b0 b1 b2 b3 b4
        go_loopw [10] (PartsRel w #[.int .u8 T.kind, .string T.text, .int .i64 T.num, .int .i64 T.place, .slice p T.kids.length c] T.kids.length) (fun i _ => T.kids.length - (intOf i).toNat)
        case atStart => exact ⟨_, 0, rfl, Nat.zero_le _, rfl, HB9.out, HX9.out⟩
        case round =>
          obtain ⟨W, j, rfl, hj, rfl, hb, hx⟩ := hrel
          have HBj := Lib.hid hb
          have HXj := Lib.hid hx
          have hj0 : (0 : Int) ≤ j := by omega
          obtain ⟨b0, b1, b2, b3, b4⟩ := cells5 hx
          clear hb hx
          by_cases hlt : j < T.kids.length
          · have hlt' : (j : Int) < T.kids.length := by omega
            have hjm : (j : Int) + 1 < 9223372036854775808 := by have := HLen.out; unfold maxLen at this; omega
            obtain ⟨t, ht⟩ : ∃ t, T.kids[j]? = some t := ⟨T.kids[j], List.getElem?_eq_getElem hlt⟩
            obtain ⟨hd, g, off, rfl, hgB, hkid⟩ := HRow.out j t ht
            obtain ⟨p', l', c', d0, d1, d2, d3, d4, hnode⟩ := hkid.node (HBj.out.mono hB) hgB
            have HNd := Lib.hid hnode
            have HTk := Lib.hid ht
            have HDd := Lib.hid hd
            clear hkid hd ht hnode
            go_wp2_with fail
            refine Calls.mono (lawProg_any _ _ _ _) ?_
            rintro e w11 ⟨rfl, hb11⟩
            have hbk : Below W.heap.size W (W.alloc (.cells #[.int .u8 t.kind, .string t.text, .int .i64 t.num, .int .i64 t.place, .slice p' l' c'] 25)) := (Below.refl _ W).alloc (Nat.le_refl _) _
            have hWs : B ≤ W.heap.size := Nat.le_trans hB HBj.out.size
            have hkl := kids_lit W (d - 1) [t] [.slice p' l' c'] rfl (by show 1 ≤ 100; omega) _ rfl 1 rfl (fun i' T' s' h1 h2 => by
              match i' with
              | 0 =>
                injection h1 with h1
                injection h2 with h2
                subst h1 h2
                obtain ⟨q1, s, q2, q3⟩ := HNd.out
                injection q2 with q2
                have q2' := congrArg (fun a : Array Value => a.toList) q2
                simp at q2'
                rw [q2']
                exact ⟨q1, q3.up hWs⟩
              | i' + 1 => simp at h1)
            have hnk : NodeAt (W.alloc (.cells #[.int .u8 t.kind, .string t.text, .int .i64 t.num, .int .i64 t.place, .slice p' l' c'] 25)) (W.heap.size + 1) d (.mk 1 ⟨#[]⟩ 0 0 [t]) (.agg #[.int .u8 1, .string ⟨#[]⟩, .int .i64 0, .int .i64 0, .slice (some ⟨W.heap.size, 0, none⟩) 1 1]) :=
              ⟨fits_prog t, _, rfl, by rw [HDd.out]; exact hkl⟩
            have hszk : (W.alloc (.cells #[.int .u8 t.kind, .string t.text, .int .i64 t.num, .int .i64 t.place, .slice p' l' c'] 25)).heap.size = W.heap.size + 1 := World.size_alloc _ _
            rw [hszk] at hb11
            have HB11 := Lib.hid (HBj.out.trans ((hbk.trans (hb11.mono (Nat.le_succ _))).mono HBj.out.size))
            have x11 := heap_below (hbk.trans (hb11.mono (Nat.le_succ _))) HXj.out (Array.getElem?_eq_some_iff.1 HXj.out).1
            have HX11 := Lib.hid x11
            have htm : t ∈ T.kids := List.mem_of_getElem? HTk.out
            have hslk : Slim d (.mk 1 ⟨#[]⟩ 0 0 [t]) := by
              have h1 := HSm.out
              rw [HDd.out] at h1 ⊢
              refine ⟨by show 0 ≤ 72007; omega, by show 1 ≤ 20000; omega, fun u hu => ?_⟩
              have : u = t := List.mem_singleton.1 hu
              rw [this]
              exact h1.2.2 t htm
            have hral : rightF d (.mk 1 ⟨#[]⟩ 0 0 [t]) = true := by
              have h1 := HRt.out
              rw [HDd.out] at h1 ⊢
              exact right_alone _ T t h1 htm
            have HRk := Lib.hid (nodeRight_any d (.mk 1 ⟨#[]⟩ 0 0 [t]) _ (W.heap.size + 1) w11 (hnk.below hb11) (by have := hb11.size; rw [hszk] at this; exact this) hslk (HT.out _ HB11.out))
            rw [hral] at HRk
            clear hral hslk htm x11 hszk hnk hkl hWs hbk hb11 d0 d1 d2 d3 d4 b0 b1 b2 b3 b4
            go_wp2_with fail
            refine Calls.mono HRk.out ?_
            rintro e w12 ⟨rfl, hb12⟩
            have HB12 := Lib.hid (HB11.out.trans (hb12.mono HB11.out.size))
            have x12 := heap_below hb12 HX11.out (Array.getElem?_eq_some_iff.1 HX11.out).1
            have HX12 := Lib.hid x12
            clear hb12 x12
            go_wp2_with fail
            go_roundw
            case rel => exact ⟨w12, j + 1, rfl, by omega, by go_num, HB12.out, HX12.out⟩
            case measure => simp [intOf]; omega
          · obtain rfl : j = T.kids.length := by omega
            have hjm : (T.kids.length : Int) < 9223372036854775808 := by have := HLen.out; unfold maxLen at this; omega
            clear hj hlt hj0
            by_cases h0 : T.kids.length = 0
            · have h0' : ((T.kids.length : Int) == 0) = true := by rw [h0]; rfl
              have HH0 := Lib.hid h0
              clear h0
              go_wp2_with fail
              go_ret
              exact ⟨rfl, HBj.out⟩
            · have h0' : ((T.kids.length : Int) == 0) = false := beq_false_of_ne (by omega)
              have h9k : (T.kids.length : Int) ≤ 20000 := by have := kids_slim (HV.out w (Below.refl _ _)) HSm.out; omega
              have h1 : (1 : Int) ≤ T.kids.length := by omega
              clear h0
              go_wp2_with fail
              have K0 := fun x : Wb W => x.cell b0
              have K4 := fun x : Wb W => x.cell b4
              have HP1 := Lib.hid (fun x : Wb W => pick_at i T.kids.length x.1 h1 (by omega))
              have HP2 := Lib.hid (fun x : Wb W => pick_at k T.kids.length x.1 h1 (by omega))
              obtain ⟨hi0, hi1⟩ := pickZ_in i T.kids.length h1
              obtain ⟨hk0, hk1⟩ := pickZ_in k T.kids.length h1
              refine wp_region_below (by kernel_rfl) (by kernel_rfl) ?_
              repeat (go_big_quiet_step (fail))
              go_big_quiet_step ((go_at_call 10; exact Calls.below_of (HP1.out _)))
              repeat (go_big_quiet_step (fail))
              go_big_quiet_step ((go_at_call 10; exact Calls.below_of (HP2.out _)))
              repeat (go_big_quiet_step (fail))
              generalize pickZ i T.kids.length = ii at *
              generalize pickZ k T.kids.length = kk at *
              obtain ⟨ii, rfl⟩ := Int.eq_ofNat_of_zero_le hi0
              obtain ⟨kk, rfl⟩ := Int.eq_ofNat_of_zero_le hk0
              refine wpQuiet_nil ?_
              intro w10 hw'
              have hb10 := wb_below hw'
              have HB10 := Lib.hid (HBj.out.trans (hb10.mono HBj.out.size))
              have x10 := heap_below hb10 HXj.out (Array.getElem?_eq_some_iff.1 HXj.out).1
              have HX10 := Lib.hid x10
              clear K0 K4 HP1 HP2 hw' hb10 b0 b1 b2 b3 b4
              obtain ⟨b0, b1, b2, b3, b4⟩ := cells5 x10
              clear x10
              go_wp2_with fail
              refine Calls.mono (copyN_any d T _ B w10 (HV.out _ HB10.out) (HBW.out _ HB10.out) HSm.out.kids) ?_
              rintro e w11 ⟨s11, rfl, hb11, ho11⟩
              have HB11 := Lib.hid (HB10.out.trans (hb11.mono HB10.out.size))
              have x11 := heap_below hb11 HX10.out (Array.getElem?_eq_some_iff.1 HX10.out).1
              have HX11 := Lib.hid x11
              have hs1011 := hb11.size
              clear b0 b1 b2 b3 b4 hb11 x11
              obtain ⟨i1, hT1, hT2⟩ : ∃ t : Tree, T.kids[ii]? = some t ∧ True := ⟨T.kids[ii]'(by omega), List.getElem?_eq_getElem (by omega), trivial⟩
              obtain ⟨k1, hU1, hU2⟩ : ∃ t : Tree, T.kids[kk]? = some t ∧ True := ⟨T.kids[kk]'(by omega), List.getElem?_eq_getElem (by omega), trivial⟩
              cases d with
              | zero => have := ho11.1; rw [this] at hT1; simp at hT1
              | succ d =>
              rcases ho11 with ⟨hn0, _⟩ | ⟨g, cg, cs, Fs, q0, q1, q2, q3, rfl, q5, q6, q7, q8, q9⟩
              · rw [hn0] at hT1; simp at hT1
              go_wp2_with fail
              have hba12 : Below w11.heap.size w11 (w11.alloc (.cells #[.int .u8 T.kind, .string T.text, .int .i64 T.num, .int .i64 T.place, .slice (some ⟨g, 0, none⟩) T.kids.length cg] 25)) := (Below.refl _ w11).alloc (Nat.le_refl _) _
              have y12 := heap_alloc_new w11 (.cells #[.int .u8 T.kind, .string T.text, .int .i64 T.num, .int .i64 T.place, .slice (some ⟨g, 0, none⟩) T.kids.length cg] 25)
              have x12 := heap_below hba12 HX11.out (Array.getElem?_eq_some_iff.1 HX11.out).1
              have g12 := heap_below hba12 q5 (Array.getElem?_eq_some_iff.1 q5).1
              have HB12 := Lib.hid (HB11.out.trans (hba12.mono HB11.out.size))
              have HX12 := Lib.hid x12
              have HY12 := Lib.hid y12
              have HG12 := Lib.hid g12
              obtain ⟨hfi, si, hci, hoi⟩ := q7 ii i1 hT1
              obtain ⟨hfk, sk, hck, hok⟩ := q7 kk k1 hU1
              obtain ⟨spi, sci, rfl⟩ := hoi.shape
              obtain ⟨spk, sck, rfl⟩ := hok.shape
              have hat : ∀ (j m : Nat) (u : Value), cs[j * 5 + m]? = some u → (w11.alloc (.cells #[.int .u8 T.kind, .string T.text, .int .i64 T.num, .int .i64 T.place, .slice (some ⟨g, 0, none⟩) T.kids.length cg] 25)).cell? ⟨g, j * 5 + m, none⟩ = some u := fun j m u hu => by rw [cell_of_row _ _ _ _ _ _ g12]; exact hu
              have d0 := hat ii 0 _ (hci 0 _ rfl)
              have d1 := hat ii 1 _ (hci 1 _ rfl)
              have d2 := hat ii 2 _ (hci 2 _ rfl)
              have d3 := hat ii 3 _ (hci 3 _ rfl)
              have d4 := hat ii 4 _ (hci 4 _ rfl)
              have e0 := hat kk 0 _ (hck 0 _ rfl)
              have e1 := hat kk 1 _ (hck 1 _ rfl)
              have e2 := hat kk 2 _ (hck 2 _ rfl)
              have e3 := hat kk 3 _ (hck 3 _ rfl)
              have e4 := hat kk 4 _ (hck 4 _ rfl)
              rw [Nat.add_zero] at d0 e0
              obtain ⟨m0, m1, m2, m3, m4⟩ := cells5 y12
              have HQ7 := Lib.hid q7
              have HQ9 := Lib.hid q9
              have HQ8 := Lib.hid q8
              have HCI := Lib.hid hci
              have HCK := Lib.hid hck
              have HBA12 := Lib.hid hba12
              have fz := frozen5 g12
              have hgw : ¬ (g = w11.heap.size) := by have := (Array.getElem?_eq_some_iff.1 q5).1; omega
              have hwg : ¬ (w11.heap.size = g) := fun h => hgw h.symm
              have HCS6 := Lib.hid q6
              clear hat q5 q6 q7 q8 q9 hci hck y12 x12 g12 hba12
              generalize (w11.alloc (.cells #[.int .u8 T.kind, .string T.text, .int .i64 T.num, .int .i64 T.place, .slice (some ⟨g, 0, none⟩) T.kids.length cg] 25)) = w12 at *
              have hgB : w.heap.size ≤ g := Nat.le_trans HB10.out.size q1.1
              have HAB := Lib.hid (fun (W2 : World) (hW2 : W2 = ((w12.setCells g (ii * 5) (nodeCells k1 (.slice spk k1.kids.length sck))).setCells g (kk * 5) (nodeCells i1 (.slice spi i1.kids.length sci))).drew) => about_mem (W := w12) (w0 := w) HB12.out hgB HG12.out HCS6.out (fun i T hT => by obtain ⟨f1, s, f2, f3⟩ := HQ7.out i T hT; exact ⟨f1, s, f2, f3.below (fun b hb => (HQ8.out i b hb).1.2) HBA12.out⟩) HQ8.out (fun b hb => Nat.lt_of_lt_of_le hb.2 HBA12.out.size) q2 q3 hT1 hU1 HCI.out HCK.out hW2)
              have HHT := Lib.hid hT1
              have HHU := Lib.hid hU1
              obtain ⟨wc, hcut⟩ : ∃ wc, wc = ((w12.setCells g (ii * 5) (nodeCells k1 (.slice spk k1.kids.length sck))).setCells g (kk * 5) (nodeCells i1 (.slice spi i1.kids.length sci))).drew := ⟨_, rfl⟩
              obtain ⟨Wa, hWa⟩ : ∃ Wa, Wa = w12.drew.setCells g (ii * 5) (nodeCells k1 (.slice spk k1.kids.length sck)) := ⟨_, rfl⟩
              have D : ∀ {p : Addr} {v : Value}, w12.cell? p = some v → ∀ x : RE.Two w12.drew w12.drew, x.1.cell? p = some v := fun h x => RE.Two.cell (show w12.drew.cell? _ = _ from h) (show w12.drew.cell? _ = _ from h) x
              have D0 := D d0
              have D1 := D d1
              have D2 := D d2
              have D3 := D d3
              have D4 := D d4
              have E0 := D e0
              have E1 := D e1
              have E2 := D e2
              have E3 := D e3
              have E4 := D e4
              have n4a : Wa.cell? ⟨w11.heap.size, 4, none⟩ = some (.slice (some ⟨g, 0, none⟩) T.kids.length cg) := by rw [hWa, World.cell?_setCells_out _ _ _ _ _ (fun e _ => absurd e hwg)]; exact m4
              have N4 := fun x : RE.Two w12.drew Wa => RE.Two.cell (show w12.drew.cell? _ = _ from m4) n4a x
              have N4' := D m4
              have HWa := Lib.hid hWa
              have hth : ∀ j, j < T.kids.length → w12.drew.there g (j * 5) 5 := fun j hj q hq => by
                refine ⟨?_, fz _⟩
                show (w12.cell? _).isSome = true
                rw [cell_of_row _ _ _ _ _ _ HG12.out, Array.getElem?_eq_getElem (by rw [HCS6.out]; omega)]
                rfl
              have HTH := Lib.hid hth
              have hi1' : ii < T.kids.length := by omega
              have hk1' : kk < T.kids.length := by omega
              have HCut := Lib.hid hcut
              clear D hth hcut hWa n4a
              refine RE.wp_region_eff (by kernel_rfl) 19 [17] [17] (fun s W => if s = 0 then W = w12.drew else W = Wa) (fun _ _ => True) (fun _ _ => undef) (fun _ _ _ => True) (by kernel_rfl) (fun i h1 h2 => by rw [h1] at h2; cases h2) (fun _ _ _ _ _ _ _ => trivial) rfl ?_
              simp only [List.take_succ_cons, List.take_zero, List.drop_succ_cons, List.drop_zero, List.length_cons, List.length_nil, Nat.reduceAdd]
              repeat (first
                | (refine RE.wpE_read (fun W => ∃ x : RE.Two w12.drew Wa, W = x.1) RE.two_class rfl rfl rfl rfl ?_; go_big_quiet_step (fail); refine wpQuiet_nil ?_)
                | (refine RE.wpE_read (fun W => ∃ x : RE.Two w12.drew w12.drew, W = x.1) (RE.one_class (by kernel_rfl)) rfl rfl rfl rfl ?_; go_big_quiet_step (fail); refine wpQuiet_nil ?_))
              refine RE.wpE_turn rfl rfl ?_ (fun xs => ?_)
              · intro W hC hS _
                obtain rfl : W = w12.drew := hS rfl
                refine RE.upon_skip (w' := w12.drew.setCells g (ii * 5) (nodeCells k1 (.slice spk k1.kids.length sck))) ?_ ⟨[], rfl, HWa.out.symm, trivial, trivial⟩
                exact RE.run_store_agg 25 (.tmp 104) (.tmp 98) rfl g (ii * 5) (nodeCells k1 (.slice spk k1.kids.length sck)).toArray rfl rfl (HTH.out ii hi1') (by kernel_rfl) (by simp [nodeCells, Value.oneCell'])
              simp only [Act.put]
              repeat (refine RE.wpE_read (fun W => ∃ x : RE.Two w12.drew Wa, W = x.1) RE.two_class rfl rfl rfl rfl ?_; go_big_quiet_step (fail); refine wpQuiet_nil ?_)
              refine RE.wpE_nil ?_
              intro W hS _
              obtain rfl : W = Wa := hS
              clear D0 D1 D2 D3 D4 E0 E1 E2 E3 E4 N4 N4'
              have hWa := HWa.out
              refine wpList_store_mid rfl 25 (.tmp 105) (.tmp 103) rfl g (kk * 5) (nodeCells i1 (.slice spi i1.kids.length sci)).toArray rfl rfl (by rw [hWa]; exact World.there_setCells (HTH.out kk hk1') g (ii * 5) _) (by kernel_rfl) (by simp [nodeCells, Value.oneCell']) ?_
              simp only [Act.put]
              rw [hWa]
              clear hWa HWa
              have hwc : ((w12.drew.setCells g (ii * 5) (nodeCells k1 (.slice spk k1.kids.length sck))).setCells g (kk * 5) (nodeCells i1 (.slice spi i1.kids.length sci)).toArray.toList) = wc := by rw [HCut.out, setCells_drewC, setCells_drewC]
              rw [hwc]
              have hcut := HCut.out
              clear hwc HCut
              obtain ⟨hbc, hkc, hsc, hoc⟩ := HAB.out _ hcut
              have hgn : w.heap.size ≠ g := by have := (Array.getElem?_eq_some_iff.1 HX10.out).1; have := q1.1; omega
              have xc := hoc _ _ hgn HX12.out
              have yc := hoc _ _ hwg HY12.out
              have HBc := Lib.hid hbc
              have HKc := Lib.hid hkc
              have HXc := Lib.hid xc
              have HYc := Lib.hid yc
              have hs1112 := HBA12.out.size
              clear HAB hcut hbc hkc hoc hgn d0 d1 d2 d3 d4 e0 e1 e2 e3 e4 m0 m1 m2 m3 m4 fz hgw hwg HCS6 HQ7 HQ8 HQ9 HCI HCK HBA12 HG12 HX12 HY12 HB12
              obtain ⟨b0, b1, b2, b3, b4⟩ := cells5 xc
              clear xc yc
              go_wp2_with fail
              refine Calls.mono (copyN_any (d + 1) T _ B wc (HV.out _ HBc.out) (HBW.out _ HBc.out) HSm.out.kids) ?_
              rintro e w13 ⟨s13, rfl, hb13, ho13⟩
              have HB13 := Lib.hid (HBc.out.trans (hb13.mono HBc.out.size))
              have HXd := Lib.hid (heap_below hb13 HXc.out (Array.getElem?_eq_some_iff.1 HXc.out).1)
              have HYd := Lib.hid (heap_below hb13 HYc.out (Array.getElem?_eq_some_iff.1 HYc.out).1)
              have HKd := Lib.hid (HKc.out.below (hb13.mono (Nat.le_of_eq hsc.symm)))
              have hs13 := hb13.size
              clear hb13 b0 b1 b2 b3 b4
              rcases ho13 with ⟨hn0, _⟩ | ⟨g2, cg2, cs2, Fs2, p0, p1, p2, p3, rfl, p5, p6, p7, p8, p9⟩
              · rw [hn0] at hT1; simp at hT1
              have hba14 : Below w13.heap.size w13 (w13.alloc (.cells #[.int .u8 T.kind, .string T.text, .int .i64 T.num, .int .i64 T.place, .slice (some ⟨g2, 0, none⟩) T.kids.length cg2] 25)) := (Below.refl _ w13).alloc (Nat.le_refl _) _
              have y14 := heap_alloc_new w13 (.cells #[.int .u8 T.kind, .string T.text, .int .i64 T.num, .int .i64 T.place, .slice (some ⟨g2, 0, none⟩) T.kids.length cg2] 25)
              have g14 := heap_below hba14 p5 (Array.getElem?_eq_some_iff.1 p5).1
              have HB14 := Lib.hid (HB13.out.trans (hba14.mono HB13.out.size))
              have HXe := Lib.hid (heap_below hba14 HXd.out (Array.getElem?_eq_some_iff.1 HXd.out).1)
              have HYe := Lib.hid (heap_below hba14 HYd.out (Array.getElem?_eq_some_iff.1 HYd.out).1)
              have HKe := Lib.hid (HKd.out.below (hba14.mono (by rw [← hsc]; exact hs13)))
              go_wp2_with fail
              obtain ⟨i0, hi0, hz0, hz1, hz2⟩ := info_parts infoNode
              obtain ⟨n, hn⟩ : ∃ n, T.kids.length = n := ⟨_, rfl⟩
              have hii : ii < T.kids.length := (List.getElem?_eq_some_iff.1 HHT.out).1
              have hin : ii < n := by rw [← hn]; exact hii
              have hncap : n ≤ cg2 := by rw [← hn]; exact p2
              obtain ⟨news, hnews0⟩ : ∃ news : List Value, news = (cs2.toList.drop ((ii + 1) * 5)).take ((n - (ii + 1)) * 5) := ⟨_, rfl⟩
              have hnl : news.length = (n - (ii + 1)) * 5 := by rw [hnews0, List.length_take, List.length_drop, Array.length_toList, p6]; omega
              have hnat : ∀ q, q < (n - (ii + 1)) * 5 → news[q]? = cs2[(ii + 1) * 5 + q]? := fun q hq => by rw [hnews0, List.getElem?_take, if_pos hq, List.getElem?_drop, Array.getElem?_toList]
              have hg2x : ¬ (g2 = w13.heap.size) := by have := (Array.getElem?_eq_some_iff.1 p5).1; omega
              have hg2w : w.heap.size ≤ g2 := Nat.le_trans HBc.out.size p1.1
              obtain ⟨m0, m1, m2, m3, m4⟩ := cells5 y14
              obtain ⟨b0, b1, b2, b3, b4⟩ := cells5 HXe.out
              have HY14 := Lib.hid y14
              have HG14 := Lib.hid g14
              have hsz14 : (w13.alloc (.cells #[.int .u8 T.kind, .string T.text, .int .i64 T.num, .int .i64 T.place, .slice (some ⟨g2, 0, none⟩) T.kids.length cg2] 25)).heap.size = w13.heap.size + 1 := World.size_alloc _ _
              generalize hw14 : (w13.alloc (.cells #[.int .u8 T.kind, .string T.text, .int .i64 T.num, .int .i64 T.place, .slice (some ⟨g2, 0, none⟩) T.kids.length cg2] 25)) = w14 at *
              clear hw14 y14 g14
              rw [hn] at m4 HY14
              have hcell : ∀ q, w14.drew.cell? ⟨g2, q, none⟩ = cs2[q]? := fun q => cell_of_row _ _ _ _ _ _ (show w14.drew.heap[g2]? = _ from HG14.out)
              have hfz : ∀ q, w14.drew.frozen? ⟨g2, q, none⟩ = false := fun q => frozen5 (show w14.drew.heap[g2]? = _ from HG14.out) q
              obtain ⟨A, hA, hnews⟩ : ∃ A : Addr, (if cg2 = ii + 1 then some (⟨g2, 0, none⟩ : Addr) else some ⟨g2, (ii + 1) * 5, none⟩) = some A ∧ Hid (∀ j u, news[j]? = some u → w14.drew.cell? (A.add j) = some u) := by
                by_cases h : cg2 = ii + 1
                · refine ⟨⟨g2, 0, none⟩, by simp [h], fun j u hu => ?_⟩
                  have h0 : news.length = 0 := by rw [hnl]; omega
                  rw [List.length_eq_zero_iff.1 h0] at hu
                  simp at hu
                · refine ⟨⟨g2, (ii + 1) * 5, none⟩, by simp [h], fun j u hu => ?_⟩
                  have hj : j < (n - (ii + 1)) * 5 := by have := (List.getElem?_eq_some_iff.1 hu).1; omega
                  rw [Addr.add_lit, hcell, ← hnat j hj]; exact hu
              have s2 : Hid (∀ u ∈ news, u.oneCell' = true) := by
                intro u hu
                obtain ⟨q, hq⟩ := List.getElem?_of_mem hu
                have hql : q < (n - (ii + 1)) * 5 := by have := (List.getElem?_eq_some_iff.1 hq).1; omega
                have hq' := hnat q hql
                rw [hq] at hq'
                obtain ⟨t, ht⟩ : ∃ t, T.kids[ii + 1 + q / 5]? = some t := ⟨T.kids[ii + 1 + q / 5]'(by omega), List.getElem?_eq_getElem _⟩
                obtain ⟨_, s, hc, ho⟩ := p7 _ t ht
                obtain ⟨sp, sc, rfl⟩ := ho.shape
                have hm5 : q % 5 < 5 := Nat.mod_lt _ (by omega)
                have hlen5 : (nodeCells t (.slice sp t.kids.length sc)).length = 5 := rfl
                have := hc (q % 5) _ (List.getElem?_eq_getElem (by rw [hlen5]; exact hm5))
                rw [show (ii + 1 + q / 5) * 5 + q % 5 = (ii + 1) * 5 + q by omega, ← hq'] at this
                injection this with this
                subst this
                match h : q % 5, hm5 with
                | 0, _ => rfl
                | 1, _ => rfl
                | 2, _ => rfl
                | 3, _ => rfl
                | 4, _ => rfl
              have s3 : Hid (∀ j, j < news.length → (w14.drew.cell? ⟨g2, 0 + ii * 5 + j, none⟩).isSome = true ∧ w14.drew.frozen? ⟨g2, 0 + ii * 5 + j, none⟩ = false) := by
                intro j hj
                refine ⟨?_, hfz _⟩
                rw [hcell, Array.getElem?_eq_getElem (by rw [p6]; omega)]; rfl
              have hic : (ii : Int) ≤ cg2 := by omega
              have hwr : IntKind.i64.wrap ((ii : Int) + 1) = (ii : Int) + 1 := IntWalk.i64_in _ (by have := HLen.out; unfold maxLen at this; omega)
              have hp0 : (0 : Int) ≤ (ii : Int) + 1 := by omega
              have hp1 : (ii : Int) + 1 ≤ (n : Int) := by omega
              have hp2 : ((ii : Int) + 1).toNat = ii + 1 := by omega
              have hn0 : (0 : Int) ≤ ii := by omega
              obtain ⟨W2, hW2⟩ : ∃ W2, W2 = w14.drew.setCells g2 (0 + ii * 5) news := ⟨_, rfl⟩
              have hbox : w14.drew.heap[w13.heap.size]? = W2.heap[w13.heap.size]? := by rw [hW2, setCells_other (fun e => hg2x e.symm)]
              have hy2 := hbox.symm.trans (show w14.drew.heap[w13.heap.size]? = _ from HY14.out)
              obtain ⟨_, _, _, _, n4⟩ := cells5 hy2
              have M4 := fun x : RE.Two w14.drew W2 => RE.Two.cell (show w14.drew.cell? ⟨w13.heap.size, 4, none⟩ = _ from m4) n4 x
              have HW2 := Lib.hid hW2
              have HY2 := Lib.hid hy2
              have HNL := Lib.hid hnl
              have HNA := Lib.hid hnat
              have HCe := Lib.hid hcell
              clear hW2 hbox hy2 m0 m1 m2 m3 m4 n4 hnl hnat hcell hfz hnews0
              refine RE.wp_region_eff (by kernel_rfl) 11 [9] [9] (fun s W => if s = 0 then W = w14.drew else W = W2) (fun _ _ => True) (fun _ _ => .slice (some ⟨g2, 0, none⟩) (n - 1) cg2) (fun _ _ _ => True) (by kernel_rfl) ?_ ?_ rfl ?_
              · intro i h1 h2; rw [h1] at h2; cases h2
              · intro _ _ _ _ _ _ _; trivial
              simp only [List.take_succ_cons, List.take_zero, List.drop_succ_cons, List.drop_zero, List.length_cons, List.length_nil, Nat.reduceAdd]
              repeat (refine RE.wpE_read (fun W => ∃ x : RE.Two w14.drew W2, W = x.1) RE.two_class rfl rfl rfl rfl ?_; go_big_quiet_step (fail); refine wpQuiet_nil ?_)
              refine RE.wpE_turn rfl rfl ?_ (fun xs => ?_)
              · intro W hC hS _
                obtain rfl : W = w14.drew := hS rfl
                refine RE.upon_append_room (.tmp 111) (.tmp 116) 23 rfl 25 i0 5 Tryd.underlying23 hi0 hz1 g2 0 ii cg2 rfl A (n - (ii + 1)) (cg2 - (ii + 1)) news rfl HNL.out hnews.out s2.out (by omega) s3.out ?_
                exact ⟨[], by rw [show n - 1 = ii + (n - (ii + 1)) by omega], HW2.out.symm, trivial, trivial⟩
              simp only [Act.put, List.setIfInBounds_toArray, List.set_cons_zero, List.set_cons_succ]
              repeat (refine RE.wpE_read (fun W => ∃ x : RE.Two w14.drew W2, W = x.1) RE.two_class rfl rfl rfl rfl ?_; go_big_quiet_step (fail); refine wpQuiet_nil ?_)
              refine RE.wpE_nil ?_
              intro W hS _
              obtain rfl : W = W2 := hS
              have h7' : ∀ i T', T.kids[i]? = some T' → Fits T' ∧ ∃ s, (∀ m u, (nodeCells T' s)[m]? = some u → cs2[i * 5 + m]? = some u) ∧ OwnAt w14.drew d T'.kids s (Fs2 i) := fun i T' hT' => by
                obtain ⟨f1, s, f2, f3⟩ := p7 i T' hT'
                have f4 := f3.below (fun b hb => (p8 i b hb).1.2) hba14
                exact ⟨f1, s, f2, OwnAt.keep (w := w14) (w' := w14.drew) (fun b o _ h => (h : w14.drew.heap[b]? = some o)) f4⟩
              have hF' : ∀ b, Between wc.heap.size w13.heap.size b → b < w13.heap.size := fun b hb => hb.2
              have hless := less_mem (W := w14.drew) (W2 := W) (w0 := w) HB14.out.drew hg2w (show w14.drew.heap[g2]? = _ from HG14.out) p6 h7' p8 p1.2 hF' p2 p3 hii news (by rw [hn]; exact HNL.out) (by rw [hn]; exact HNA.out) (by rw [HW2.out, Nat.zero_add])
              obtain ⟨l1, l2, l3, l4⟩ := hless
              have hkA : KidsAt W w12.heap.size (d + 1) (aboutL T.kids ii kk i1 k1) (.slice (some ⟨g, 0, none⟩) T.kids.length cg) := by
                rw [HW2.out]
                exact HKe.out.below (below_setCells (Below.refl _ _).drew (by rw [← hsc]; exact p1.1) _ _)
              have z0 := frozen5 HY2.out 4
              obtain ⟨_, _, _, _, n4⟩ := cells5 HY2.out
              go_upto_region 24 with (fail)
              have hsW : w14.drew.heap.size = W.heap.size := l3.symm
              have hs14 : w13.heap.size < w14.drew.heap.size := (Array.getElem?_eq_some_iff.1 HY14.out).1
              obtain ⟨W3, hW3⟩ : ∃ W3, W3 = W.setCell ⟨w13.heap.size, 4, none⟩ (.slice (some ⟨g2, 0, none⟩) (n - 1) cg2) := ⟨_, rfl⟩
              have hws13 : w.heap.size ≤ w13.heap.size := HB13.out.size
              have hw12s : w12.heap.size ≤ w13.heap.size := by rw [← hsc]; exact hs13
              have hb3 : Below w.heap.size w W3 := by rw [hW3]; exact l1.setCell hws13 _
              have hbw : Below w13.heap.size W W3 := by rw [hW3]; exact (Below.refl w13.heap.size W).setCell (p := ⟨w13.heap.size, 4, none⟩) (Nat.le_refl _) _
              have hxn : w.heap.size ≠ g2 := by have := (Array.getElem?_eq_some_iff.1 HXd.out).1; have := (Array.getElem?_eq_some_iff.1 HXc.out).1; have := p1.1; omega
              have hyn : w11.heap.size ≠ g2 := by have := (Array.getElem?_eq_some_iff.1 HYc.out).1; have := p1.1; omega
              have hx3 := heap_below hbw (l4 _ _ hxn (show w14.drew.heap[w.heap.size]? = _ from HXe.out)) (Array.getElem?_eq_some_iff.1 HXd.out).1
              have hy3 := heap_below hbw (l4 _ _ hyn (show w14.drew.heap[w11.heap.size]? = _ from HYe.out)) (Array.getElem?_eq_some_iff.1 HYd.out).1
              have hz3 : W3.heap[w13.heap.size]? = some (.cells #[.int .u8 T.kind, .string T.text, .int .i64 T.num, .int .i64 T.place, .slice (some ⟨g2, 0, none⟩) (n - 1) cg2] 25 (0, 0)) := by rw [hW3, heap_set HY2.out 4]; rfl
              have hkA3 := hkA.below (hbw.mono hw12s)
              have hkL3 : KidsAt W3 w13.heap.size (d + 1) (lessL T.kids ii) (.slice (some ⟨g2, 0, none⟩) (n - 1) cg2) := by
                have h6 : KidsAt W w13.heap.size (d + 1) (lessL T.kids ii) (.slice (some ⟨g2, 0, none⟩) (n - 1) cg2) := by rw [← hn]; exact l2
                exact h6.below hbw
              have hsz3 : w13.heap.size ≤ W3.heap.size := Nat.le_trans (by rw [← hsW]; exact Nat.le_of_lt hs14) hbw.size
              have hslA : Slim (d + 1) (.mk T.kind T.text T.num T.place (aboutL T.kids ii kk i1 k1)) := ⟨HSm.out.1, by show (aboutL T.kids ii kk i1 k1).length ≤ 20000; unfold aboutL; rw [List.length_set, List.length_set]; exact HSm.out.2.1, fun t ht => HSm.out.2.2 t (mem_about HHT.out HHU.out ht)⟩
              have hslL : Slim (d + 1) (.mk T.kind T.text T.num T.place (lessL T.kids ii)) := ⟨HSm.out.1, Nat.le_trans (show (lessL T.kids ii).length ≤ T.kids.length from by have := lessL_len T.kids ii hii; omega) HSm.out.2.1, fun t ht => HSm.out.2.2 t (mem_less ht)⟩
              have hNA : NodeAt W3 w12.heap.size (d + 1) (.mk T.kind T.text T.num T.place (aboutL T.kids ii kk i1 k1)) (.agg #[.int .u8 T.kind, .string T.text, .int .i64 T.num, .int .i64 T.place, .slice (some ⟨g, 0, none⟩) T.kids.length cg]) := ⟨HF.out, _, rfl, hkA3⟩
              have hNL : NodeAt W3 w13.heap.size (d + 1) (.mk T.kind T.text T.num T.place (lessL T.kids ii)) (.agg #[.int .u8 T.kind, .string T.text, .int .i64 T.num, .int .i64 T.place, .slice (some ⟨g2, 0, none⟩) (n - 1) cg2]) := ⟨HF.out, _, rfl, hkL3⟩
              have HRA := Lib.hid (fun V (hV : Below w.heap.size w V) (hB : Below W3.heap.size W3 V) => nodeRight_any (d + 1) _ _ w12.heap.size V (hNA.below (hB.mono (Nat.le_trans hw12s hsz3))) (Nat.le_trans (Nat.le_trans hw12s hsz3) hB.size) hslA (HT.out V hV))
              have HRL := Lib.hid (fun V (hV : Below w.heap.size w V) (hB : Below W3.heap.size W3 V) => nodeRight_any (d + 1) _ _ w13.heap.size V (hNL.below (hB.mono hsz3)) (Nat.le_trans hsz3 hB.size) hslL (HT.out V hV))
              have HSN := Lib.hid (fun V (hV : Below w.heap.size w V) (hB : Below W3.heap.size W3 V) => same_any (d + 1) T _ _ _ _ _ V (HV.out V hV) (hNL.below (hB.mono hsz3)) (HBW.out V hV) (Nat.le_trans hsz3 hB.size))
              rw [right_about d T ii kk i1 k1 HRt.out HHT.out HHU.out] at HRA
              rw [right_less d T ii HRt.out hii] at HRL
              rw [same_less (d + 1) T ii hii] at HSN
              have HX3 := Lib.hid hx3
              have HY3 := Lib.hid hy3
              have HZ3 := Lib.hid hz3
              have HB3' := Lib.hid hb3
              rw [← hW3]
              clear hW3 hx3 hy3 hz3 hb3 hbw hkA3 hkL3 hNA hNL hslA hslL hkA l1 l2 l3 l4
              clear z0 n4 b0 b1 b2 b3 b4 M4 hn hin hncap hii
              obtain ⟨b0, b1, b2, b3, b4⟩ := cells5 HX3.out
              obtain ⟨m0, m1, m2, m3, m4⟩ := cells5 HY3.out
              go_wp2_with fail
              refine Calls.mono (HRA.out _ HB3'.out (Below.refl _ _)) ?_
              rintro e v1 ⟨rfl, hv1⟩
              have HV1 := Lib.hid hv1
              clear b0 b1 b2 b3 b4 m0 m1 m2 m3 m4 hv1
              obtain ⟨b0, b1, b2, b3, b4⟩ := cells5 (heap_below HV1.out HX3.out (Array.getElem?_eq_some_iff.1 HX3.out).1)
              obtain ⟨m0, m1, m2, m3, m4⟩ := cells5 (heap_below HV1.out HZ3.out (Array.getElem?_eq_some_iff.1 HZ3.out).1)
              go_wp2_with fail
              refine Calls.mono (HRL.out _ (HB3'.out.trans (HV1.out.mono HB3'.out.size)) HV1.out) ?_
              rintro e v2 ⟨rfl, hv2⟩
              have HV2 := Lib.hid (HV1.out.trans (hv2.mono HV1.out.size))
              clear b0 b1 b2 b3 b4 m0 m1 m2 m3 m4 hv2
              obtain ⟨b0, b1, b2, b3, b4⟩ := cells5 (heap_below HV2.out HX3.out (Array.getElem?_eq_some_iff.1 HX3.out).1)
              obtain ⟨m0, m1, m2, m3, m4⟩ := cells5 (heap_below HV2.out HZ3.out (Array.getElem?_eq_some_iff.1 HZ3.out).1)
              go_wp2_with fail
              refine Calls.mono (HSN.out _ (HB3'.out.trans (HV2.out.mono HB3'.out.size)) HV2.out) ?_
              rintro e v3 ⟨rfl, hv3⟩
              have HV3 := Lib.hid (HB3'.out.trans ((HV2.out.trans (hv3.mono HV2.out.size)).mono HB3'.out.size))
              clear b0 b1 b2 b3 b4 m0 m1 m2 m3 m4 hv3
              go_wp2_with fail
              go_ret
              exact ⟨rfl, HV3.out⟩
      · have hrt' : rightF d T = false := by simpa using hrt
        rw [hrt']
        clear hrt hrt'
        go_wp2_with fail
        go_ret
        exact ⟨rfl, HB7.out⟩
    · have hk1' : ((T.kind : Int) != 1) = true := by simp; omega
      go_wp2_with fail
      go_ret
      exact ⟨rfl, HB2.out⟩
  · have h9' : 9000 < nd := by omega
    have e1 : decide ((9000 : Int) < nd) = true := by simp; omega
    clear h9
    go_wp2_with fail
    go_ret
    exact ⟨rfl, HB2.out⟩
end Go.Proofs.YtlcdpcllndjlfaaDoor
