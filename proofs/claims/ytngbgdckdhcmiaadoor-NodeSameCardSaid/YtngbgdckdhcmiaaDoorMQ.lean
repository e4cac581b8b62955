/- NodeSame, the law's walk: it answers true. Condition: the library's table of blanks lies as laid. -/
import Derived.Test.YtngbgdckdhcmiaaDoorMN
import Derived.Test.YtngbgdckdhcmiaaDoorMP
namespace Go.Proofs.YtngbgdckdhcmiaaDoor
open Go.RowKit

theorem frame45 (a : Act) (h : a.tmps.size = 45) (hd : a.defers = []) : ∃ y0 y1 y2 y3 y4 y5 y6 y7 y8 y9 y10 y11 y12 y13 y14 y15 y16 y17 y18 y19 y20 y21 y22 y23 y24 y25 y26 y27 y28 y29 y30 y31 y32 y33 y34 y35 y36 y37 y38 y39 y40 y41 y42 y43 y44 : Value, a = ⟨#[y0, y1, y2, y3, y4, y5, y6, y7, y8, y9, y10, y11, y12, y13, y14, y15, y16, y17, y18, y19, y20, y21, y22, y23, y24, y25, y26, y27, y28, y29, y30, y31, y32, y33, y34, y35, y36, y37, y38, y39, y40, y41, y42, y43, y44], []⟩ := by
  obtain ⟨⟨L⟩, D⟩ := a
  have hd' : D = [] := hd
  subst hd'
  have k0 : L.length = 45 := h
  clear h hd
  obtain ⟨y0, L0, rfl, k1⟩ := cons_of_len k0
  obtain ⟨y1, L1, rfl, k2⟩ := cons_of_len k1
  obtain ⟨y2, L2, rfl, k3⟩ := cons_of_len k2
  obtain ⟨y3, L3, rfl, k4⟩ := cons_of_len k3
  obtain ⟨y4, L4, rfl, k5⟩ := cons_of_len k4
  obtain ⟨y5, L5, rfl, k6⟩ := cons_of_len k5
  obtain ⟨y6, L6, rfl, k7⟩ := cons_of_len k6
  obtain ⟨y7, L7, rfl, k8⟩ := cons_of_len k7
  obtain ⟨y8, L8, rfl, k9⟩ := cons_of_len k8
  obtain ⟨y9, L9, rfl, k10⟩ := cons_of_len k9
  obtain ⟨y10, L10, rfl, k11⟩ := cons_of_len k10
  obtain ⟨y11, L11, rfl, k12⟩ := cons_of_len k11
  obtain ⟨y12, L12, rfl, k13⟩ := cons_of_len k12
  obtain ⟨y13, L13, rfl, k14⟩ := cons_of_len k13
  obtain ⟨y14, L14, rfl, k15⟩ := cons_of_len k14
  obtain ⟨y15, L15, rfl, k16⟩ := cons_of_len k15
  obtain ⟨y16, L16, rfl, k17⟩ := cons_of_len k16
  obtain ⟨y17, L17, rfl, k18⟩ := cons_of_len k17
  obtain ⟨y18, L18, rfl, k19⟩ := cons_of_len k18
  obtain ⟨y19, L19, rfl, k20⟩ := cons_of_len k19
  obtain ⟨y20, L20, rfl, k21⟩ := cons_of_len k20
  obtain ⟨y21, L21, rfl, k22⟩ := cons_of_len k21
  obtain ⟨y22, L22, rfl, k23⟩ := cons_of_len k22
  obtain ⟨y23, L23, rfl, k24⟩ := cons_of_len k23
  obtain ⟨y24, L24, rfl, k25⟩ := cons_of_len k24
  obtain ⟨y25, L25, rfl, k26⟩ := cons_of_len k25
  obtain ⟨y26, L26, rfl, k27⟩ := cons_of_len k26
  obtain ⟨y27, L27, rfl, k28⟩ := cons_of_len k27
  obtain ⟨y28, L28, rfl, k29⟩ := cons_of_len k28
  obtain ⟨y29, L29, rfl, k30⟩ := cons_of_len k29
  obtain ⟨y30, L30, rfl, k31⟩ := cons_of_len k30
  obtain ⟨y31, L31, rfl, k32⟩ := cons_of_len k31
  obtain ⟨y32, L32, rfl, k33⟩ := cons_of_len k32
  obtain ⟨y33, L33, rfl, k34⟩ := cons_of_len k33
  obtain ⟨y34, L34, rfl, k35⟩ := cons_of_len k34
  obtain ⟨y35, L35, rfl, k36⟩ := cons_of_len k35
  obtain ⟨y36, L36, rfl, k37⟩ := cons_of_len k36
  obtain ⟨y37, L37, rfl, k38⟩ := cons_of_len k37
  obtain ⟨y38, L38, rfl, k39⟩ := cons_of_len k38
  obtain ⟨y39, L39, rfl, k40⟩ := cons_of_len k39
  obtain ⟨y40, L40, rfl, k41⟩ := cons_of_len k40
  obtain ⟨y41, L41, rfl, k42⟩ := cons_of_len k41
  obtain ⟨y42, L42, rfl, k43⟩ := cons_of_len k42
  obtain ⟨y43, L43, rfl, k44⟩ := cons_of_len k43
  obtain ⟨y44, L44, rfl, k45⟩ := cons_of_len k44
  obtain rfl : L44 = [] := List.eq_nil_of_length_eq_zero k45
  exact ⟨y0, y1, y2, y3, y4, y5, y6, y7, y8, y9, y10, y11, y12, y13, y14, y15, y16, y17, y18, y19, y20, y21, y22, y23, y24, y25, y26, y27, y28, y29, y30, y31, y32, y33, y34, y35, y36, y37, y38, y39, y40, y41, y42, y43, y44, rfl⟩
theorem putNone (a : Act) (v : Value) : a.put none v = a := rfl
theorem sameF_refl : ∀ (d : Nat) (T : Tree), sameF d T T = true := by
  intro d
  induction d with
  | zero => intro T; unfold sameF; simp
  | succ d ih =>
    intro T
    unfold sameF
    simp only [beq_self_eq_true, Bool.true_and, List.all_eq_true]
    intro x hx
    obtain ⟨i, hi⟩ := List.getElem?_of_mem hx
    obtain ⟨h1, h2⟩ := List.getElem?_zip_eq_some.1 hi
    rw [h1] at h2
    injection h2 with h2
    rw [← h2]
    exact ih x.1
def tyS (L d : Nat) (T U : Tree) (va vu : Value) : Nat → World → Value → Prop
  | 0 => fun _ v => v = va
  | 1 => lentTy L d T
  | 2 => fun _ v => v = vu
  | 3 => lentTy L d U
  | 4 => boxTy L
  | 5 => boxTy L
  | _ => fun _ _ => True
theorem tyS_mono {L d : Nat} {T U : Tree} {va vu : Value} : ∀ (i : Nat) (v : Value) (W W' : World), tyS L d T U va vu i W v → Below W.heap.size W W' → tyS L d T U va vu i W' v
  | 0, _, _, _, h, _ => h
  | 1, _, _, _, h, hb => lentTy.mono h hb
  | 2, _, _, _, h, _ => h
  | 3, _, _, _, h, hb => lentTy.mono h hb
  | 4, _, _, _, h, hb => boxTy.mono h hb
  | 5, _, _, _, h, hb => boxTy.mono h hb
  | _ + 6, _, _, _, _, _ => trivial
def frS : Nat → Bool := fun i => i == 4 || i == 5
theorem tyS_fr {L d : Nat} {T U : Tree} {va vu : Value} : ∀ (i : Nat) (W : World) (v : Value), frS i = true → tyS L d T U va vu i W v → ∃ g, v = .pointer (some ⟨g, 0, none⟩) ∧ g < W.heap.size
  | 4, _, _, _, ⟨g, h1, _, h3, _⟩ => ⟨g, h1, h3⟩
  | 5, _, _, _, ⟨g, h1, _, h3, _⟩ => ⟨g, h1, h3⟩
  | 0, _, _, h, _ => by cases h
  | 1, _, _, h, _ => by cases h
  | 2, _, _, h, _ => by cases h
  | 3, _, _, h, _ => by cases h
  | _ + 6, _, _, h, _ => by cases h
set_option maxRecDepth 100000 in
set_option maxHeartbeats 1000000 in
theorem law_nodeSame (hA : Awake) (d : Nat) (T U : Tree) (v u : Value) (B : Nat) (w : World) (hv : NodeAt w B d T v) (hu : NodeAt w B d U u) (hB : B ≤ w.heap.size) (ht : AsciiTab w) :
    Calls Tryd.prog 4 #[v, u] w (BoolPost true w) := by
  have hv' := hv
  obtain ⟨hf, s, rfl, hks⟩ := hv
  obtain ⟨p, c, rfl, _, _⟩ := hks.rows
  have hu' := hu
  obtain ⟨hfu, su, rfl, hku⟩ := hu
  obtain ⟨pu, cu, rfl, _, _⟩ := hku.rows
  obtain ⟨x1, x2, xb⟩ := heap_two w (.cells #[.int .u8 T.kind, .string T.text, .int .i64 T.num, .int .i64 T.place, .slice p T.kids.length c] 25) (.cells #[.int .u8 U.kind, .string U.text, .int .i64 U.num, .int .i64 U.place, .slice pu U.kids.length cu] 25)
  obtain ⟨b0, b1, b2, b3, b4⟩ := cells5 x1
  have HX := Lib.hid x1
  have HY := Lib.hid x2
  have HB := Lib.hid xb
  have HV := Lib.hid (fun W (hW : Below w.heap.size w W) => hv'.below (hW.mono hB))
  have HU := Lib.hid (fun W (hW : Below w.heap.size w W) => hu'.below (hW.mono hB))
  have HBW := Lib.hid (fun W (hW : Below w.heap.size w W) => Nat.le_trans hB hW.size)
  have HT := Lib.hid (fun W (hW : Below w.heap.size w W) => ht.below hW)
  have HA := Lib.hid hA
  have HN := Lib.hid (fun W (hW : Below w.heap.size w W) => nodesOf_any d T _ B W 9000 (HV.out W hW) (HBW.out W hW) (by omega) (by omega))
  have HM := Lib.hid (fun W (hW : Below w.heap.size w W) => nodesOf_any d U _ B W 9000 (HU.out W hW) (HBW.out W hW) (by omega) (by omega))
  have HSl := Lib.hid (slim_of d T 9000 (by omega))
  have HSm := Lib.hid (slim_of d U 9000 (by omega))
  have HF := Lib.hid hf
  have HG := Lib.hid hfu
  clear hks hku hv' hu' ht hA hf hfu x1 x2 xb
  generalize nodesF d T 9000 = nd at *
  generalize nodesF d U 9000 = ne at *
  go_enter Tryd.func4, Tryd.ntmps4
  go_wp2_with fail
  generalize ((w.alloc (.cells #[.int .u8 T.kind, .string T.text, .int .i64 T.num, .int .i64 T.place, .slice p T.kids.length c] 25)).alloc (.cells #[.int .u8 U.kind, .string U.text, .int .i64 U.num, .int .i64 U.place, .slice pu U.kids.length cu] 25)) = w0 at *
  refine Calls.mono (HN.out _ HB.out) ?_
  rintro e w1 ⟨rfl, hb1⟩
  have HB1 := Lib.hid (HB.out.trans (hb1.mono HB.out.size))
  have HX1 := Lib.hid (heap_below hb1 HX.out (Array.getElem?_eq_some_iff.1 HX.out).1)
  have HY1 := Lib.hid (heap_below hb1 HY.out (Array.getElem?_eq_some_iff.1 HY.out).1)
  clear b0 b1 b2 b3 b4 hb1
  by_cases h9 : nd ≤ 9000
  · have e1 : decide ((9000 : Int) < nd) = false := by simp; omega
    have y1 := HY1.out
    obtain ⟨b0, b1, b2, b3, b4⟩ := cells5 y1
    clear y1
    go_wp2_with fail
    refine Calls.mono (HM.out _ HB1.out) ?_
    rintro e w2 ⟨rfl, hb2⟩
    have HB2 := Lib.hid (HB1.out.trans (hb2.mono HB1.out.size))
    have HX2 := Lib.hid (heap_below hb2 HX1.out (Array.getElem?_eq_some_iff.1 HX1.out).1)
    have HY2 := Lib.hid (heap_below hb2 HY1.out (Array.getElem?_eq_some_iff.1 HY1.out).1)
    clear b0 b1 b2 b3 b4 hb2
    by_cases h8 : ne ≤ 9000
    · have e2 : decide ((9000 : Int) < ne) = false := by simp; omega
      go_wp2_with fail
      obtain ⟨hmany, hslim⟩ := HSl.out h9
      have hm : manyF d T ≤ 100000 := by omega
      obtain ⟨hmanyU, hslimU⟩ := HSm.out h8
      have hmU : manyF d U ≤ 100000 := by omega
      have HS1 := Lib.hid hslim
      have HS2 := Lib.hid hslimU
      have HM1 := Lib.hid hm
      have HM2 := Lib.hid hmU
      clear hmany hslim hm hmanyU hslimU hmU
      refine wp_region_pred (by kernel_rfl) (tyS w2.heap.size d T U (.agg #[.int .u8 T.kind, .string T.text, .int .i64 T.num, .int .i64 T.place, .slice p T.kids.length c]) (.agg #[.int .u8 U.kind, .string U.text, .int .i64 U.num, .int .i64 U.place, .slice pu U.kids.length cu])) (fun _ => none) frS 6 45 tyS_mono (fun _ _ _ _ h => by cases h) tyS_fr rfl (by kernel_rfl) (by kernel_rfl) ?_ ?_ ?_
      · intro i o hi ho hon
        match i, hi with
        | 0, _ =>
          obtain rfl := Option.some.inj ho
          exact opP_load 2 _ _ rfl rfl (by kernel_rfl) rfl HX2.out (by kernel_rfl) (fun W => rfl)
        | 1, _ =>
          obtain rfl := Option.some.inj ho
          refine opP_call 8 _ _ rfl rfl (enters_of Tryd.func8 (by kernel_rfl) rfl) fun a W hbW _ hv => ⟨_, rfl, ?_⟩
          have h0 : a.eval (.tmp 16) = .agg #[.int .u8 T.kind, .string T.text, .int .i64 T.num, .int .i64 T.place, .slice p T.kids.length c] := hv (.tmp 16) 0 ⟨by decide, _, _, rfl, by kernel_rfl, rfl, rfl⟩
          rw [show (#[Operand.tmp 16].map a.eval) = #[.agg #[.int .u8 T.kind, .string T.text, .int .i64 T.num, .int .i64 T.place, .slice p T.kids.length c]] by simp only [List.map_toArray, List.map_cons, List.map_nil, h0]]
          have HBx := HB2.out.trans (hbW.mono HB2.out.size)
          refine Calls.mono (lentN_any d T _ B W (HV.out _ HBx) (HBW.out _ HBx) HS1.out.kids) ?_
          intro e W' hpost
          obtain ⟨g, rfl, hb', hl⟩ := hpost.node
          exact ⟨_, rfl, hb', W.heap.size, g, hbW.size, rfl, hl⟩
        | 2, _ =>
          obtain rfl := Option.some.inj ho
          exact opP_load 3 _ _ rfl rfl (by kernel_rfl) rfl HY2.out (by kernel_rfl) (fun W => rfl)
        | 3, _ =>
          obtain rfl := Option.some.inj ho
          refine opP_call 8 _ _ rfl rfl (enters_of Tryd.func8 (by kernel_rfl) rfl) fun a W hbW _ hv => ⟨_, rfl, ?_⟩
          have h0 : a.eval (.tmp 18) = .agg #[.int .u8 U.kind, .string U.text, .int .i64 U.num, .int .i64 U.place, .slice pu U.kids.length cu] := hv (.tmp 18) 2 ⟨by decide, _, _, rfl, by kernel_rfl, rfl, rfl⟩
          rw [show (#[Operand.tmp 18].map a.eval) = #[.agg #[.int .u8 U.kind, .string U.text, .int .i64 U.num, .int .i64 U.place, .slice pu U.kids.length cu]] by simp only [List.map_toArray, List.map_cons, List.map_nil, h0]]
          have HBx := HB2.out.trans (hbW.mono HB2.out.size)
          refine Calls.mono (lentN_any d U _ B W (HU.out _ HBx) (HBW.out _ HBx) HS2.out.kids) ?_
          intro e W' hpost
          obtain ⟨g, rfl, hb', hl⟩ := hpost.node
          exact ⟨_, rfl, hb', W.heap.size, g, hbW.size, rfl, hl⟩
        | 4, _ =>
          obtain rfl := Option.some.inj ho
          exact opP_alloc rfl (fun _ _ h => h)
        | 5, _ =>
          obtain rfl := Option.some.inj ho
          exact opP_alloc rfl (fun _ _ h => h)
      · intro i o hi ho hon
        match i, hi with
        | 0, _ => obtain rfl := Option.some.inj ho; cases hon
        | 1, _ => obtain rfl := Option.some.inj ho; cases hon
        | 2, _ => obtain rfl := Option.some.inj ho; cases hon
        | 3, _ => obtain rfl := Option.some.inj ho; cases hon
        | 4, _ => obtain rfl := Option.some.inj ho; cases hon
        | 5, _ => obtain rfl := Option.some.inj ho; cases hon
      · intro a W hbW hd hsz hold hv hap
        obtain ⟨L1, k1, hL1, h17, hl1⟩ := hv 1 _ 17 (by decide) rfl rfl
        obtain ⟨L2, k2, hL2, h19, hl2⟩ := hv 3 _ 19 (by decide) rfl rfl
        obtain ⟨g5, h5, hg5, hs5, hz5⟩ := hv 4 _ 5 (by decide) rfl rfl
        obtain ⟨g6, h6, hg6, hs6, hz6⟩ := hv 5 _ 6 (by decide) rfl rfl
        have hne := hap 4 5 _ _ 5 6 (by decide) (by decide) (by decide) rfl rfl rfl rfl rfl rfl
        have o2 : a.tmps.getD 2 undef = .pointer (some ⟨w.heap.size, 0, none⟩) := hold 2 (oldP_at (by kernel_rfl))
        have o3 : a.tmps.getD 3 undef = .pointer (some ⟨w.heap.size + 1, 0, none⟩) := hold 3 (oldP_at (by kernel_rfl))
        obtain ⟨y0, y1, y2, y3, y4, y5, y6, y7, y8, y9, y10, y11, y12, y13, y14, y15, y16, y17, y18, y19, y20, y21, y22, y23, y24, y25, y26, y27, y28, y29, y30, y31, y32, y33, y34, y35, y36, y37, y38, y39, y40, y41, y42, y43, y44, rfl⟩ := frame45 a hsz hd
        obtain rfl : y2 = _ := o2
        obtain rfl : y3 = _ := o3
        obtain rfl : y17 = _ := h17
        obtain rfl : y19 = _ := h19
        obtain rfl : y5 = _ := h5
        obtain rfl : y6 = _ := h6
        have hg56 : g5 ≠ g6 := fun e => hne (by subst e; rfl)
        clear hd hsz hold hv hap hne
        change wpList Tryd.prog _ _ [_, _] _ _
        refine wpList_plain rfl fun _ hK => wp_store_row 25 _ _ rfl g5 _ rfl rfl 25 _ hz5 (by kernel_rfl) rfl (by kernel_rfl) (hK _ _ ?_)
        have hz6' := (setRow_other W g5 g6 #[.int .u8 T.kind, .string T.text, .int .i64 T.num, .int .i64 T.place, .slice (some ⟨k1, 0, none⟩) T.kids.length (T.kids.length + 12)] hg56.symm).trans hz6
        refine wpList_plain rfl fun _ hK => wp_store_row 25 _ _ rfl g6 _ rfl rfl 25 _ hz6' (by kernel_rfl) rfl (by kernel_rfl) (hK _ _ ?_)
        have hz5' := setRow_heap W g5 _ #[.int .u8 T.kind, .string T.text, .int .i64 T.num, .int .i64 T.place, .slice (some ⟨k1, 0, none⟩) T.kids.length (T.kids.length + 12)] 25 (0, 0) hz5
        have hx5 := (setRow_other (W.setRow g5 #[.int .u8 T.kind, .string T.text, .int .i64 T.num, .int .i64 T.place, .slice (some ⟨k1, 0, none⟩) T.kids.length (T.kids.length + 12)]) g6 g5 #[.int .u8 U.kind, .string U.text, .int .i64 U.num, .int .i64 U.place, .slice (some ⟨k2, 0, none⟩) U.kids.length (U.kids.length + 12)] hg56).trans hz5'
        have hx6 := setRow_heap (W.setRow g5 #[.int .u8 T.kind, .string T.text, .int .i64 T.num, .int .i64 T.place, .slice (some ⟨k1, 0, none⟩) T.kids.length (T.kids.length + 12)]) g6 _ #[.int .u8 U.kind, .string U.text, .int .i64 U.num, .int .i64 U.place, .slice (some ⟨k2, 0, none⟩) U.kids.length (U.kids.length + 12)] 25 (0, 0) hz6'
        have HB3 := Lib.hid (below_setRow (below_setRow (HB2.out.trans (hbW.mono HB2.out.size)) (Nat.le_trans HB2.out.size hg5) #[.int .u8 T.kind, .string T.text, .int .i64 T.num, .int .i64 T.place, .slice (some ⟨k1, 0, none⟩) T.kids.length (T.kids.length + 12)]) (Nat.le_trans HB2.out.size hg6) #[.int .u8 U.kind, .string U.text, .int .i64 U.num, .int .i64 U.place, .slice (some ⟨k2, 0, none⟩) U.kids.length (U.kids.length + 12)])
        have hbn := below_setRow (below_setRow hbW hg5 #[.int .u8 T.kind, .string T.text, .int .i64 T.num, .int .i64 T.place, .slice (some ⟨k1, 0, none⟩) T.kids.length (T.kids.length + 12)]) hg6 #[.int .u8 U.kind, .string U.text, .int .i64 U.num, .int .i64 U.place, .slice (some ⟨k2, 0, none⟩) U.kids.length (U.kids.length + 12)]
        have x3 := heap_below hbn HX2.out (Array.getElem?_eq_some_iff.1 HX2.out).1
        have y3 := heap_below hbn HY2.out (Array.getElem?_eq_some_iff.1 HY2.out).1
        have HL1 := Lib.hid ((hl1.stored hz5 rfl (fun b hb => setRow_other W g5 b #[.int .u8 T.kind, .string T.text, .int .i64 T.num, .int .i64 T.place, .slice (some ⟨k1, 0, none⟩) T.kids.length (T.kids.length + 12)] hb)).stored hz6' rfl (fun b hb => setRow_other (W.setRow g5 #[.int .u8 T.kind, .string T.text, .int .i64 T.num, .int .i64 T.place, .slice (some ⟨k1, 0, none⟩) T.kids.length (T.kids.length + 12)]) g6 b #[.int .u8 U.kind, .string U.text, .int .i64 U.num, .int .i64 U.place, .slice (some ⟨k2, 0, none⟩) U.kids.length (U.kids.length + 12)] hb))
        have HL2 := Lib.hid ((hl2.stored hz5 rfl (fun b hb => setRow_other W g5 b #[.int .u8 T.kind, .string T.text, .int .i64 T.num, .int .i64 T.place, .slice (some ⟨k1, 0, none⟩) T.kids.length (T.kids.length + 12)] hb)).stored hz6' rfl (fun b hb => setRow_other (W.setRow g5 #[.int .u8 T.kind, .string T.text, .int .i64 T.num, .int .i64 T.place, .slice (some ⟨k1, 0, none⟩) T.kids.length (T.kids.length + 12)]) g6 b #[.int .u8 U.kind, .string U.text, .int .i64 U.num, .int .i64 U.place, .slice (some ⟨k2, 0, none⟩) U.kids.length (U.kids.length + 12)] hb))
        have HSz := Lib.hid (show W.heap.size ≤ ((W.setRow g5 #[.int .u8 T.kind, .string T.text, .int .i64 T.num, .int .i64 T.place, .slice (some ⟨k1, 0, none⟩) T.kids.length (T.kids.length + 12)]).setRow g6 #[.int .u8 U.kind, .string U.text, .int .i64 U.num, .int .i64 U.place, .slice (some ⟨k2, 0, none⟩) U.kids.length (U.kids.length + 12)]).heap.size by simp)
        rw [putNone, putNone]
        generalize W.heap.size = ws at *
        clear hz5' hz6' hbn hz5 hz6 hbW hl1 hl2
        generalize ((W.setRow g5 #[.int .u8 T.kind, .string T.text, .int .i64 T.num, .int .i64 T.place, .slice (some ⟨k1, 0, none⟩) T.kids.length (T.kids.length + 12)]).setRow g6 #[.int .u8 U.kind, .string U.text, .int .i64 U.num, .int .i64 U.place, .slice (some ⟨k2, 0, none⟩) U.kids.length (U.kids.length + 12)]) = w3 at *
        obtain ⟨b0, b1, b2, b3, b4⟩ := cells5 x3
        obtain ⟨c0, c1, c2, c3, c4⟩ := cells5 y3
        obtain ⟨m0, m1, m2, m3, m4⟩ := cells5 hx5
        obtain ⟨n0, n1, n2, n3, n4⟩ := cells5 hx6
        have Xb0 := fun x : Wb w3 => x.cell b0
        have Xb1 := fun x : Wb w3 => x.cell b1
        have Xb2 := fun x : Wb w3 => x.cell b2
        have Xb3 := fun x : Wb w3 => x.cell b3
        have Xb4 := fun x : Wb w3 => x.cell b4
        have Xc0 := fun x : Wb w3 => x.cell c0
        have Xc1 := fun x : Wb w3 => x.cell c1
        have Xc2 := fun x : Wb w3 => x.cell c2
        have Xc3 := fun x : Wb w3 => x.cell c3
        have Xc4 := fun x : Wb w3 => x.cell c4
        have Xm0 := fun x : Wb w3 => x.cell m0
        have Xm1 := fun x : Wb w3 => x.cell m1
        have Xm2 := fun x : Wb w3 => x.cell m2
        have Xm3 := fun x : Wb w3 => x.cell m3
        have Xm4 := fun x : Wb w3 => x.cell m4
        have Xn0 := fun x : Wb w3 => x.cell n0
        have Xn1 := fun x : Wb w3 => x.cell n1
        have Xn2 := fun x : Wb w3 => x.cell n2
        have Xn3 := fun x : Wb w3 => x.cell n3
        have Xn4 := fun x : Wb w3 => x.cell n4
        have HBx := Lib.hid (fun x : Wb w3 => HB3.out.trans (x.2.mono HB3.out.size))
        have HSx := Lib.hid (fun x : Wb w3 => Nat.le_trans HSz.out x.2.size)
        have HI1 := Lib.hid (fun x : Wb w3 => (⟨HF.out, _, rfl, (HL1.out.below (x.2.mono HSz.out)).kids HS1.out.kids⟩ : NodeAt x.1 ws d T (.agg #[.int .u8 T.kind, .string T.text, .int .i64 T.num, .int .i64 T.place, .slice (some ⟨k1, 0, none⟩) T.kids.length (T.kids.length + 12)])))
        have HI2 := Lib.hid (fun x : Wb w3 => (⟨HG.out, _, rfl, (HL2.out.below (x.2.mono HSz.out)).kids HS2.out.kids⟩ : NodeAt x.1 ws d U (.agg #[.int .u8 U.kind, .string U.text, .int .i64 U.num, .int .i64 U.place, .slice (some ⟨k2, 0, none⟩) U.kids.length (U.kids.length + 12)])))
        have HR1 := Lib.hid (fun x : Wb w3 => same_any d T U _ _ _ _ x.1 (HI1.out x) (HI2.out x) (HSx.out x) (HSx.out x))
        have HR2 := Lib.hid (fun x : Wb w3 => rsame_any d T U _ _ _ _ x.1 (HV.out _ (HBx.out x)) (HU.out _ (HBx.out x)) (HBW.out _ (HBx.out x)) (HBW.out _ (HBx.out x)))
        have HR3 := Lib.hid (fun x : Wb w3 => same_any d T T _ _ _ _ x.1 (HV.out _ (HBx.out x)) (HV.out _ (HBx.out x)) (HBW.out _ (HBx.out x)) (HBW.out _ (HBx.out x)))
        have HK1 := Lib.hid (fun x : Wb w3 => keptN_any d T _ _ _ _ B x.1 HF.out (HL1.out.below (x.2.mono HSz.out)) (HV.out _ (HBx.out x)) (HSx.out x) (HBW.out _ (HBx.out x)) HS1.out.kids)
        have HK2 := Lib.hid (fun x : Wb w3 => keptN_any d U _ _ _ _ B x.1 HG.out (HL2.out.below (x.2.mono HSz.out)) (HU.out _ (HBx.out x)) (HSx.out x) (HBW.out _ (HBx.out x)) HS2.out.kids)
        have HAw := Lib.hid (fun x : Wb w3 => HA.out x.1 (HT.out _ (HBx.out x)))
        rw [sameF_refl] at HR3
        clear b0 b1 b2 b3 b4 c0 c1 c2 c3 c4 m0 m1 m2 m3 m4 n0 n1 n2 n3 n4 x3 y3 hx5 hx6
        generalize sameF d T U = sm at *
        have er : (sm == sm) = true := by simp
        go_wp2_with fail
        refine wp_region_below (by kernel_rfl) (by kernel_rfl) ?_
        repeat (go_big_quiet_step (fail))
        go_big_quiet_step ((go_at_call 14; exact Calls.below_of (HR1.out _)))
        repeat (go_big_quiet_step (fail))
        go_big_quiet_step ((go_at_call 15; exact Calls.below_of (HR2.out _)))
        repeat (go_big_quiet_step (fail))
        go_big_quiet_step ((go_at_call 13; exact Calls.below_of (HK1.out _)))
        repeat (go_big_quiet_step (fail))
        go_big_quiet_step ((go_at_call 13; exact Calls.below_of (HK2.out _)))
        repeat (go_big_quiet_step (fail))
        go_big_quiet_step ((go_at_call 14; exact Calls.below_of (HR3.out _)))
        repeat (go_big_quiet_step (fail))
        go_big_quiet_step ((go_at_call 7; exact Calls.below_of (HAw.out _)))
        repeat (go_big_quiet_step (fail))
        refine wpQuiet_nil ?_
        intro W9 hw'
        have HBB := Lib.hid (HB3.out.trans ((wb_below hw').mono HB3.out.size))
        clear hw'
        clear Xb0 Xb1 Xb2 Xb3 Xb4 Xc0 Xc1 Xc2 Xc3 Xc4 Xm0 Xm1 Xm2 Xm3 Xm4 Xn0 Xn1 Xn2 Xn3 Xn4
        go_wp2_with fail
        go_ret
        exact ⟨rfl, HBB.out⟩
    · have h8' : 9000 < ne := by omega
      have e2 : decide ((9000 : Int) < ne) = true := by simp; omega
      have HAw := Lib.hid (HA.out w2 (HT.out _ HB2.out))
      clear h8
      go_wp2_with fail
      refine Calls.mono HAw.out ?_
      rintro e w3 ⟨rfl, hb3⟩
      have HB3 := Lib.hid (HB2.out.trans (hb3.mono HB2.out.size))
      clear hb3
      go_wp2_with fail
      go_ret
      exact ⟨rfl, HB3.out⟩
  · have h9' : 9000 < nd := by omega
    have e1 : decide ((9000 : Int) < nd) = true := by simp; omega
    have HAw := Lib.hid (HA.out w1 (HT.out _ HB1.out))
    clear h9
    go_wp2_with fail
    refine Calls.mono HAw.out ?_
    rintro e w2 ⟨rfl, hb2⟩
    have HB2 := Lib.hid (HB1.out.trans (hb2.mono HB1.out.size))
    clear hb2
    go_wp2_with fail
    go_ret
    exact ⟨rfl, HB2.out⟩
end Go.Proofs.YtngbgdckdhcmiaaDoor
