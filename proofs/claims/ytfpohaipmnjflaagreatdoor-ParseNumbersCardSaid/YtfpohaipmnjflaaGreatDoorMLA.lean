/- Several texts joined, each with its own sentence and conditions ahead of it: LawOnly, LawAwk6. -/
import Derived.Test.YtfpohaipmnjflaaGreatDoorMZK
import Derived.Test.YtfpohaipmnjflaaGreatDoorME
/- The statements' only and fault; by contract. Condition: the library's table of blanks lies as laid. -/
namespace Go.Proofs.YtfpohaipmnjflaaGreatDoor
open Go.RowKit

/-- of a node with one kid, so many times: that kid -/
def onlyM : Nat → Tree → Option Tree
  | 0, T => some T
  | n + 1, T => match T.kids with | [k] => onlyM n k | _ => none
def OnlyPost (x : Option Tree) (d B : Nat) (w : World) (e : Ending) (w' : World) : Prop :=
  Below w.heap.size w w' ∧ ((x = none ∧ e = .returned (.tuple #[.agg zeroN, .bool false])) ∨
    ∃ T' s', x = some T' ∧ e = .returned (.tuple #[.agg #[.int .u8 T'.kind, .string T'.text, .int .i64 T'.num, .int .i64 T'.place, s'], .bool true]) ∧ Fits T' ∧ KidsAt w' B d T'.kids s')
def OnlyRel (w : World) (B d : Nat) (x : Option Tree) (i : Value) (W : World) : Prop :=
  ∃ (k : Nat) (T : Tree) (s : Value), k ≤ 3 ∧ i = .int .i64 k ∧ onlyM (3 - k) T = x ∧ Fits T ∧ KidsAt W B (d + (3 - k)) T.kids s ∧ Below w.heap.size w W ∧ W.heap[w.heap.size]? = some (.cells #[.int .u8 T.kind, .string T.text, .int .i64 T.num, .int .i64 T.place, s] 25 (0, 0)) ∧ W.heap[w.heap.size + 1]? = some (.cells zeroN 25 (0, 0))
theorem ret_two {W : World} {fn : Func} {R : Ending → World → Prop} {a : Act} {slot sb T : Nat} {v0 v1 v2 v3 v4 b : Value} (hr : fn.results = #[.cell slot 25, .tmp sb]) (hs : a.tmps.getD slot undef = .pointer (some ⟨T, 0, none⟩)) (hb : a.tmps.getD sb undef = b)
    (hT : W.heap[T]? = some (.cells #[v0, v1, v2, v3, v4] 25 (0, 0))) (hd : a.defers = []) (hR : R (.returned (.tuple #[.agg #[v0, v1, v2, v3, v4], b])) W) : bodyPost Tryz.prog fn R .ret a W := by
  obtain ⟨c0, c1, c2, c3, c4⟩ := cells5 hT
  have hs' : a.tmps[slot]?.getD undef = .pointer (some ⟨T, 0, none⟩) := by simpa using hs
  have hb' : a.tmps[sb]?.getD undef = b := by simpa using hb
  refine bodyPost_ret (v := .tuple #[.agg #[v0, v1, v2, v3, v4], b]) ?_ hd hR
  simp [results, hr, go_sem, hs', hb', c0, c1, c2, c3, c4]
set_option maxRecDepth 100000 in
set_option maxHeartbeats 2000000 in
theorem only_any (d : Nat) (T : Tree) (s : Value) (B : Nat) (w : World) (hf : Fits T) (hk : KidsAt w B (d + 3) T.kids s) (hB : B ≤ w.heap.size) :
    Calls Tryz.prog 46 #[.agg #[.int .u8 T.kind, .string T.text, .int .i64 T.num, .int .i64 T.place, s]] w (OnlyPost (onlyM 3 T) d B w) := by
  obtain ⟨wA, hwA⟩ : ∃ wA, wA = (w.alloc (.cells #[.int .u8 T.kind, .string T.text, .int .i64 T.num, .int .i64 T.place, s] 25)).alloc (.cells zeroN 25) := ⟨_, rfl⟩
  have hbA : Below w.heap.size w wA := by rw [hwA]; exact below_two w _ _
  obtain ⟨X0, X1, _⟩ := two_new' w (.cells #[.int .u8 T.kind, .string T.text, .int .i64 T.num, .int .i64 T.place, s] 25) (.cells zeroN 25)
  rw [← hwA] at X0 X1
  have HRel : Hid (OnlyRel w B d (onlyM 3 T) (.int .i64 (0 : Nat)) wA) := ⟨0, T, s, by omega, rfl, rfl, hf, hk.below (hbA.mono hB), hbA, X0, X1⟩
  have HBw : Hid (B ≤ w.heap.size) := hB
  obtain ⟨p, l, c, rfl⟩ := hk.shape
  clear X0 X1 hbA hk hf hB
  generalize onlyM 3 T = x at *
  go_enter Tryz.func46, Tryz.ntmps46
  go_upto_region 1 with fail
  change Code.wp _ _ _ _ ((w.alloc (.cells #[.int .u8 T.kind, .string T.text, .int .i64 T.num, .int .i64 T.place, .slice p l c] 25)).alloc (.cells zeroN 25))
  rw [← hwA]
  clear hwA
  go_wp2_with fail
  go_loopw [4] (fun i wr => OnlyRel w B d x i wr) (fun i _ => 3 - (intOf i).toNat)
  case atStart => exact HRel.out
  case round =>
    clear HRel
    obtain ⟨k, T1, s1, hk3, rfl, hx, hf, hkids, hb, x0, x1⟩ := hrel
    obtain ⟨p1, c1, rfl, _, hrow⟩ := hkids.rows
    obtain ⟨l1, hl1⟩ : ∃ l, T1.kids.length = l := ⟨_, rfl⟩
    rw [hl1] at x0 hkids
    have HX := Lib.hid hx
    have HF := Lib.hid hf
    have HK := Lib.hid hkids
    have HL := Lib.hid hl1
    have HRow := Lib.hid hrow
    have HBr := Lib.hid hb
    have HX0 := Lib.hid x0
    have HX1 := Lib.hid x1
    have hsz : w.heap.size + 1 < wr.heap.size := (Array.getElem?_eq_some_iff.1 x1).1
    obtain ⟨a0, a1, a2, a3, a4⟩ := cells5 x0
    clear hx hf hkids hb x0 x1 hl1 hrow
    by_cases hk : k < 3
    · have hk1 : (k : Int) < 3 := by omega
      by_cases h1 : l1 = 1
      · subst h1
        obtain ⟨t, ht⟩ : ∃ t, T1.kids = [t] := by
          have := HL.out
          match hq : T1.kids, this with
          | [t], _ => exact ⟨t, rfl⟩
        obtain ⟨hd, b, off, rfl, hbB, hkid⟩ := HRow.out 0 t (by rw [ht]; rfl)
        obtain ⟨p', l', c', d0, d1, d2, d3, d4, hnode⟩ := hkid.node (Below.refl _ _) hbB
        rw [show off + 0 * 5 = off by omega] at d0 d1 d2 d3 d4
        have hxt : onlyM (3 - (k + 1)) t = x := by
          rw [← HX.out]
          obtain ⟨j, hj⟩ : ∃ j, 3 - k = j + 1 := ⟨2 - k, by omega⟩
          rw [show 3 - (k + 1) = j by omega, hj]
          show onlyM j t = (match T1.kids with | [k] => onlyM j k | _ => none)
          rw [ht]
        have hbw : b ≠ w.heap.size := by have := HBw.out; omega
        have z0 := frozen5 HX0.out 0
        have z1 := frozen5 HX0.out 1
        have z2 := frozen5 HX0.out 2
        have z3 := frozen5 HX0.out 3
        have z4 := frozen5 HX0.out 4
        obtain ⟨Wn, hWn⟩ : ∃ Wn, Wn = set5 wr w.heap.size (.int .u8 t.kind) (.string t.text) (.int .i64 t.num) (.int .i64 t.place) (.slice p' l' c') := ⟨_, rfl⟩
        have hbn : Below w.heap.size wr Wn := by
          rw [hWn]; unfold set5
          exact (((((Below.refl w.heap.size wr).setCell (p := ⟨w.heap.size, 0, none⟩) (Nat.le_refl _) _).setCell (p := ⟨w.heap.size, 1, none⟩) (Nat.le_refl _) _).setCell (p := ⟨w.heap.size, 2, none⟩) (Nat.le_refl _) _).setCell (p := ⟨w.heap.size, 3, none⟩) (Nat.le_refl _) _).setCell (p := ⟨w.heap.size, 4, none⟩) (Nat.le_refl _) _
        obtain ⟨hft, s9, hs9, hk9⟩ := hnode
        have hsl : s9 = .slice p' l' c' := by injection hs9 with h; injection h with h; simp at h; exact h.symm
        subst hsl
        have hRel : OnlyRel w B d x (.int .i64 ((k : Int) + 1)) Wn := by
          refine ⟨k + 1, t, .slice p' l' c', by omega, by go_num, hxt, hft, ?_, ?_, ?_, ?_⟩
          · have hk8 := hk9.below (hbn.mono HBw.out)
            rw [show d + (3 - (k + 1)) = d + (3 - k) - 1 by omega]
            exact hk8
          · exact ⟨hbn.os.trans HBr.out.os, hbn.tape.trans HBr.out.tape, hbn.output.trans HBr.out.output, Nat.le_trans HBr.out.size hbn.size, fun i hi => (hbn.block i hi).trans (HBr.out.block i hi)⟩
          · rw [hWn]; exact heap_set5 HX0.out _ _ _ _ _
          · rw [hWn]; exact (set5_other (show w.heap.size + 1 ≠ w.heap.size by omega) _ _ _ _ _).trans HX1.out
        have HRel := Lib.hid hRel
        have HWn := Lib.hid hWn
        clear hRel hWn hbn hft hs9 hk9 hxt hkid hd ht
        go_wp2_with fail
        rw [show ((((((wr.setCell ⟨w.heap.size, 0, none⟩ (.int .u8 t.kind)).setCell ⟨w.heap.size, 1, none⟩ (.string t.text)).setCell ⟨w.heap.size, 2, none⟩ (.int .i64 t.num)).setCell ⟨w.heap.size, 3, none⟩ (.int .i64 t.place)).setCell ⟨w.heap.size, 4, none⟩ (.slice p' l' c'))) = Wn from HWn.out.symm]
        exact ⟨HRel.out, by simp [intOf]; omega⟩
      · have h1' : ((l1 : Int) != 1) = true := by simp; omega
        have hxn : x = none := by
          rw [← HX.out]
          obtain ⟨j, hj⟩ : ∃ j, 3 - k = j + 1 := ⟨2 - k, by omega⟩
          rw [hj]
          have hl := HL.out
          show (match T1.kids with | [k] => onlyM j k | _ => none) = none
          split
          · rename_i q hq; rw [hq] at hl; simp at hl; omega
          · rfl
        have HXn := Lib.hid hxn
        clear hxn
        have z0 := frozen5 HX1.out 0
        have z1 := frozen5 HX1.out 1
        have z2 := frozen5 HX1.out 2
        have z3 := frozen5 HX1.out 3
        have z4 := frozen5 HX1.out 4
        obtain ⟨b0, b1, b2, b3, b4⟩ := cells5 HX1.out
        have hbz : Below w.heap.size w (set5 wr (w.heap.size + 1) (.int .u8 0) (.string ⟨#[]⟩) (.int .i64 0) (.int .i64 0) (.slice none 0 0)) := by
          unfold set5
          exact ((((HBr.out.setCell (p := ⟨w.heap.size + 1, 0, none⟩) (Nat.le_succ _) _).setCell (p := ⟨w.heap.size + 1, 1, none⟩) (Nat.le_succ _) _).setCell (p := ⟨w.heap.size + 1, 2, none⟩) (Nat.le_succ _) _).setCell (p := ⟨w.heap.size + 1, 3, none⟩) (Nat.le_succ _) _).setCell (p := ⟨w.heap.size + 1, 4, none⟩) (Nat.le_succ _) _
        have HBz := Lib.hid hbz
        clear hbz
        go_wp2_with fail
        refine ret_two Tryz.results46 rfl rfl (heap_set5 HX1.out _ _ _ _ _) rfl ⟨HBz.out, Or.inl ⟨HXn.out, rfl⟩⟩
    · have hk1 : decide ((k : Int) < 3) = false := by simp; omega
      obtain rfl : k = 3 := by omega
      have z0 := frozen5 HX1.out 0
      have z1 := frozen5 HX1.out 1
      have z2 := frozen5 HX1.out 2
      have z3 := frozen5 HX1.out 3
      have z4 := frozen5 HX1.out 4
      obtain ⟨b0, b1, b2, b3, b4⟩ := cells5 HX1.out
      have hbz : ∀ v0 v1 v2 v3 v4, Below w.heap.size w (set5 wr (w.heap.size + 1) v0 v1 v2 v3 v4) ∧ Below w.heap.size wr (set5 wr (w.heap.size + 1) v0 v1 v2 v3 v4) := fun v0 v1 v2 v3 v4 => by
        have h1 : Below w.heap.size wr (set5 wr (w.heap.size + 1) v0 v1 v2 v3 v4) := by
          unfold set5
          exact (((((Below.refl w.heap.size wr).setCell (p := ⟨w.heap.size + 1, 0, none⟩) (Nat.le_succ _) _).setCell (p := ⟨w.heap.size + 1, 1, none⟩) (Nat.le_succ _) _).setCell (p := ⟨w.heap.size + 1, 2, none⟩) (Nat.le_succ _) _).setCell (p := ⟨w.heap.size + 1, 3, none⟩) (Nat.le_succ _) _).setCell (p := ⟨w.heap.size + 1, 4, none⟩) (Nat.le_succ _) _
        exact ⟨⟨h1.os.trans HBr.out.os, h1.tape.trans HBr.out.tape, h1.output.trans HBr.out.output, Nat.le_trans HBr.out.size h1.size, fun i hi => (h1.block i hi).trans (HBr.out.block i hi)⟩, h1⟩
      have HBz := Lib.hid hbz
      have HXt : Hid (some T1 = x) := HX.out
      clear hbz hk
      go_wp2_with fail
      refine ret_two Tryz.results46 rfl rfl (heap_set5 HX1.out _ _ _ _ _) rfl ⟨(HBz.out _ _ _ _ _).1, Or.inr ⟨T1, _, HXt.out.symm, rfl, HF.out, ?_⟩⟩
      exact HK.out.below ((HBz.out _ _ _ _ _).2.mono HBw.out)
end Go.Proofs.YtfpohaipmnjflaaGreatDoor
/- The statements of chapter 06 are awake; by contract. Condition: the library's table of blanks lies as laid. -/
namespace Go.Proofs.YtfpohaipmnjflaaGreatDoor
open Go.RowKit

theorem zero_node (w : World) (B d : Nat) : NodeAt w B d zeroT (.agg #[.int .u8 0, .string ⟨#[]⟩, .int .i64 0, .int .i64 0, .slice none 0 0]) := by
  refine ⟨fits_zero, .slice none 0 0, rfl, ?_⟩
  cases d with
  | zero => exact ⟨rfl, none, 0, rfl⟩
  | succ d => exact Or.inl ⟨rfl, none, 0, rfl⟩
theorem zero_slice {w : World} {d : Nat} {sl : Value} {F : Nat → Prop} (h : OwnAt w d zeroT.kids sl F) : ∃ p c, sl = .slice p 0 c ∧ ∀ (W : World) (B d' : Nat), NodeAt W B d' zeroT (.agg #[.int .u8 0, .string ⟨#[]⟩, .int .i64 0, .int .i64 0, sl]) := by
  obtain ⟨p, c, rfl⟩ := h.shape
  refine ⟨p, c, rfl, fun W B d' => ⟨fits_zero, .slice p 0 c, rfl, ?_⟩⟩
  cases d' with
  | zero => exact ⟨rfl, p, c, rfl⟩
  | succ d => exact Or.inl ⟨rfl, p, c, rfl⟩
set_option maxRecDepth 100000 in
set_option maxHeartbeats 2000000 in
theorem fault_any (s : ByteArray) (er pl : Int) (hm : progM s = (zeroT, er, pl)) (w : World) (ht : AsciiTab w) : Calls Tryz.prog 47 #[.string s, .int .i64 er, .int .i64 pl] w (BoolPost true w) := by
  have HP := Lib.hid (program_any s w ht)
  rw [hm] at HP
  clear hm ht
  go_enter Tryz.func47, Tryz.ntmps47
  go_wp2_with fail
  refine Calls.mono HP.out ?_
  rintro e w1 ⟨sl, rfl, hb1, ho, _, _⟩
  obtain ⟨p, c, rfl, hz⟩ := zero_slice ho
  have HZ := Lib.hid hz
  have HB1 := Lib.hid hb1
  have hsz1 := hb1.size
  clear ho hz hb1
  go_wp2_with fail
  obtain ⟨wz, hwz⟩ : ∃ wz, wz = ((w1.alloc (.cells #[.int .u8 zeroT.kind, .string zeroT.text, .int .i64 zeroT.num, .int .i64 zeroT.place, .slice p 0 c] 25)).alloc (.cells #[.int .i64 er, .int .i64 pl] 42)) := ⟨_, rfl⟩
  have hbz : Below w.heap.size w wz := by rw [hwz]; exact (HB1.out.alloc HB1.out.size _).alloc (by rw [World.size_alloc]; omega) _
  have HBz := Lib.hid hbz
  rw [← hwz]
  refine (sameNode_of 30 (sameNodes_holds 30) zeroT _ _ wz.heap.size wz.heap.size wz (HZ.out wz wz.heap.size 30) (zero_node wz wz.heap.size 30) (Nat.le_refl _) (Nat.le_refl _)).mono ?_
  rintro e w2 ⟨rfl, hb2⟩
  have HB2 := Lib.hid (HBz.out.trans (hb2.mono HBz.out.size))
  clear hwz hbz hb2
  go_wp2_with fail
  go_ret
  exact ⟨rfl, HB2.out⟩
/-- a kid of a list, in memory -/
theorem kid_cells {w : World} {B d : Nat} {ks : List Tree} {s : Value} (h : KidsAt w B d ks s) {i : Nat} {t : Tree} (hi : ks[i]? = some t) : ∃ b off c, s = .slice (some ⟨b, off, none⟩) ks.length c ∧ b < B ∧ w.cell? ⟨b, off + i * 5, none⟩ = some (.int .u8 t.kind) ∧ w.cell? ⟨b, off + i * 5 + 1, none⟩ = some (.string t.text) ∧
    w.cell? ⟨b, off + i * 5 + 2, none⟩ = some (.int .i64 t.num) ∧ w.cell? ⟨b, off + i * 5 + 3, none⟩ = some (.int .i64 t.place) := by
  obtain ⟨p, c, rfl, _, hrow⟩ := h.rows
  obtain ⟨_, b, off, rfl, hb, hf, s, c0, c1, c2, c3, _⟩ := hrow i t hi
  exact ⟨b, off, c, rfl, hb, c0, c1, c2, c3⟩
def src1 : ByteArray := ⟨#[114, 117, 108, 101, 32, 114, 32, 123, 32, 61, 62, 32, 115, 97, 121, 32, 49, 32, 43, 32, 50, 32, 42, 32, 63, 120, 59, 32, 125]⟩
def tr1 : Tree := .mk 1 ⟨#[]⟩ 0 0 [.mk 4 ⟨#[114]⟩ 0 0 [.mk 10 ⟨#[]⟩ 0 12 [.mk 16 ⟨#[43]⟩ 0 16 [.mk 14 ⟨#[49]⟩ 0 16 [], .mk 16 ⟨#[42]⟩ 0 20 [.mk 14 ⟨#[50]⟩ 0 20 [], .mk 13 ⟨#[120]⟩ 0 24 []]]]]]
theorem src1_is : progM src1 = (tr1, 0, 0) := by kernel_rfl
def src2 : ByteArray := ⟨#[114, 117, 108, 101, 32, 114, 32, 115, 97, 108, 105, 101, 110, 99, 101, 32, 45, 51, 32, 123, 32, 104, 105, 118, 101, 40, 45, 53, 41, 59, 32, 61, 62, 32, 125]⟩
def tr2 : Tree := .mk 1 ⟨#[]⟩ 0 0 [.mk 4 ⟨#[114]⟩ (-3) 0 [.mk 5 ⟨#[104, 105, 118, 101]⟩ 0 21 [.mk 14 ⟨#[45, 53]⟩ 0 26 []]]]
theorem src2_is : progM src2 = (tr2, 0, 0) := by kernel_rfl
def src3 : ByteArray := ⟨#[102, 97, 99, 116, 32, 97, 40, 98, 32, 99, 41, 59]⟩
theorem src3_is : progM src3 = (zeroT, 202, 9) := by kernel_rfl
def src4 : ByteArray := ⟨#[114, 117, 108, 101, 32, 114, 32, 123, 32, 104, 97, 108, 116, 59, 32, 125]⟩
theorem src4_is : progM src4 = (zeroT, 202, 9) := by kernel_rfl
def src5 : ByteArray := ⟨#[114, 117, 108, 101, 32, 114, 32, 123, 32, 61, 62, 32, 114, 101, 116, 114, 97, 99, 116, 32, 50, 49, 52, 55, 52, 56, 51, 54, 52, 56, 59, 32, 125]⟩
theorem src5_is : progM src5 = (zeroT, 202, 20) := by kernel_rfl
def src6 : ByteArray := ⟨#[114, 117, 108, 101, 32, 114, 32, 123, 32, 61, 62, 32, 115, 97, 121, 32, 49, 32, 61, 32, 50, 32, 61, 32, 51, 59, 32, 125]⟩
theorem src6_is : progM src6 = (zeroT, 202, 22) := by kernel_rfl
set_option maxRecDepth 100000 in
set_option maxHeartbeats 4000000 in
theorem awake6_any (w : World) (ht : AsciiTab w) : Calls Tryz.prog 23 #[] w (BoolPost true w) := by
  have HT := Lib.hid (fun W (hW : Below w.heap.size w W) => ht.below hW)
  have HP1 := Lib.hid (program_any src1 w ht)
  rw [src1_is] at HP1
  obtain ⟨T, hT⟩ : ∃ T, tr1 = T := ⟨_, rfl⟩
  obtain ⟨S, hS⟩ : ∃ S, Tree.mk 16 ⟨#[43]⟩ 0 16 [.mk 14 ⟨#[49]⟩ 0 16 [], .mk 16 ⟨#[42]⟩ 0 20 [.mk 14 ⟨#[50]⟩ 0 20 [], .mk 13 ⟨#[120]⟩ 0 24 []]] = S := ⟨_, rfl⟩
  have HO1 : Hid (onlyM 3 T = some S) := by show _ = _; rw [← hT, ← hS]; rfl
  have HSt : Hid (S.text = ⟨#[43]⟩ ∧ S.place = 16 ∧ S.kids.length = 2) := by show _ ∧ _; rw [← hS]; exact ⟨rfl, rfl, rfl⟩
  have HSk : Hid (∃ M, S.kids[1]? = some M ∧ M.text = ⟨#[42]⟩) := by show ∃ M, _; rw [← hS]; exact ⟨_, rfl, rfl⟩
  have HTk : Hid (T.kids.length = 1 ∧ ∃ M, T.kids[0]? = some M ∧ M.text = ⟨#[114]⟩) := by show _ ∧ _; rw [← hT]; exact ⟨rfl, _, rfl, rfl⟩
  rw [hT] at HP1
  unfold src1 at HP1
  clear hT hS ht
  go_enter Tryz.func23, Tryz.ntmps23
  go_wp2_with fail
  refine Calls.mono HP1.out ?_
  rintro e w1 ⟨sl, rfl, hb1, ho, hf, _⟩
  have hK := ho.kids (B := w1.heap.size) fun b hb => hb.2
  obtain ⟨hl, M, hM, hMt⟩ := HTk.out
  obtain ⟨b, off, c, rfl, hbB, d0, d1, d2, d3⟩ := kid_cells hK hM
  rw [hl] at hK
  rw [hMt] at d1
  simp only [hl]
  obtain ⟨wA, hwA⟩ : ∃ wA, wA = ((w1.alloc (.cells #[.int .u8 T.kind, .string T.text, .int .i64 T.num, .int .i64 T.place, .slice (some ⟨b, off, none⟩) 1 c] 25)).alloc (.cells #[.int .i64 0, .int .i64 0] 42)) := ⟨_, rfl⟩
  have hbA : Below w1.heap.size w1 wA := by rw [hwA]; exact below_two w1 _ _
  obtain ⟨X0, X1, _⟩ := two_new' w1 (.cells #[.int .u8 T.kind, .string T.text, .int .i64 T.num, .int .i64 T.place, .slice (some ⟨b, off, none⟩) 1 c] 25) (.cells #[.int .i64 0, .int .i64 0] 42)
  rw [← hwA] at X0 X1
  have hszA : w1.heap.size + 1 < wA.heap.size := (Array.getElem?_eq_some_iff.1 X1).1
  have HBA := Lib.hid (hb1.trans (hbA.mono hb1.size))
  have HOn := Lib.hid (only_any 27 T (.slice (some ⟨b, off, none⟩) 1 c) w1.heap.size wA hf (hK.below hbA) hbA.size)
  rw [HO1.out] at HOn
  have HKid := Lib.hid ((hbA.cell (p := ⟨b, off + 0 * 5 + 1, none⟩) hbB).trans d1)
  have HX0 := Lib.hid X0
  have HX1 := Lib.hid X1
  have HBl := Lib.hid hbB
  clear hb1 ho hf hK hl hM hMt d0 d1 d2 d3 hbA
  go_upto_region 2 with fail
  change Code.wp _ _ _ _ ((w1.alloc (.cells #[.int .u8 T.kind, .string T.text, .int .i64 T.num, .int .i64 T.place, .slice (some ⟨b, off, none⟩) 1 c] 25)).alloc (.cells #[.int .i64 0, .int .i64 0] 42))
  rw [← hwA]
  clear hwA
  obtain ⟨a0, a1, a2, a3, a4⟩ := cells5 X0
  clear X0 X1
  go_wp2_with fail
  refine Calls.mono HOn.out ?_
  rintro e w2 ⟨hb2, ⟨hx, _⟩ | ⟨S', s', hx, rfl, hfS, hKS⟩⟩
  · cases hx
  injection hx with hx
  subst hx
  obtain ⟨M2, hM2, hM2t⟩ := HSk.out
  obtain ⟨bS, offS, cS, rfl, hbS, q0, q1, q2, q3⟩ := kid_cells hKS hM2
  obtain ⟨hS1, hS2, hS3⟩ := HSt.out
  rw [hM2t] at q1
  simp only [hS1, hS2, hS3]
  have hb12 := HBA.out.trans (hb2.mono HBA.out.size)
  obtain ⟨w3, hw3⟩ : ∃ w3, w3 = w2.alloc (.cells #[.int .u8 S.kind, .string ⟨#[43]⟩, .int .i64 S.num, .int .i64 16, .slice (some ⟨bS, offS, none⟩) 2 cS] 25) := ⟨_, rfl⟩
  have hb3 : Below w2.heap.size w2 w3 := by rw [hw3]; exact (Below.refl _ w2).alloc (Nat.le_refl _) _
  have Y3 : w3.heap[w2.heap.size]? = some (.cells #[.int .u8 S.kind, .string ⟨#[43]⟩, .int .i64 S.num, .int .i64 16, .slice (some ⟨bS, offS, none⟩) 2 cS] 25 (0, 0)) := by rw [hw3]; exact heap_alloc_new w2 _
  have hb23 := hb2.trans (hb3.mono hb2.size)
  have hszB : wA.heap.size ≤ w2.heap.size := hb2.size
  have hszC : w2.heap.size < w3.heap.size := (Array.getElem?_eq_some_iff.1 Y3).1
  have HB3 := Lib.hid (hb12.trans (hb3.mono hb12.size))
  have HZ0 := Lib.hid (heap_below hb23 HX0.out (by omega))
  have HZ1 := Lib.hid (heap_below hb23 HX1.out (by omega))
  have HZk := Lib.hid ((hb23.cell (p := ⟨b, off + 0 * 5 + 1, none⟩) (by have := HBl.out; show b < _; omega)).trans HKid.out)
  have HMk := Lib.hid ((hb3.cell (p := ⟨bS, offS + 1 * 5 + 1, none⟩) (by show bS < _; omega)).trans q1)
  have HbS : Hid (bS < w1.heap.size) := hbS
  have HY3 := Lib.hid Y3
  have hP2 := program_any src2 w3 (HT.out w3 HB3.out)
  rw [src2_is] at hP2
  unfold src2 at hP2
  obtain ⟨T2, hT2⟩ : ∃ T, tr2 = T := ⟨_, rfl⟩
  obtain ⟨S2, hSS⟩ : ∃ S, Tree.mk 14 ⟨#[45, 53]⟩ 0 26 [] = S := ⟨_, rfl⟩
  have HO2 : Hid (onlyM 3 T2 = some S2) := by show _ = _; rw [← hT2, ← hSS]; rfl
  have HSt2 : Hid (S2.text = ⟨#[45, 53]⟩) := by show _ = _; rw [← hSS]; rfl
  have HTk2 : Hid (T2.kids.length = 1 ∧ ∃ M, T2.kids[0]? = some M ∧ M.num = -3) := by show _ ∧ _; rw [← hT2]; exact ⟨rfl, _, rfl, rfl⟩
  rw [hT2] at hP2
  have HP2 := Lib.hid hP2
  clear hT2 hSS hP2 a0 a1 a2 a3 a4 hb2 hb3 hb12 hb23 hfS hKS hM2 hM2t hbS q0 q1 q2 q3 hS1 hS2 hS3 HX0 HX1 HKid
  go_upto_region 3 with fail
  change Code.wp _ _ _ _ (w2.alloc (.cells #[.int .u8 S.kind, .string ⟨#[43]⟩, .int .i64 S.num, .int .i64 16, .slice (some ⟨bS, offS, none⟩) 2 cS] 25))
  rw [← hw3]
  clear hw3
  obtain ⟨a0, a1, a2, a3, a4⟩ := cells5 HZ0.out
  obtain ⟨b0, b1, _, _⟩ := cells2p HZ1.out
  obtain ⟨c0, c1, c2, c3, c4⟩ := cells5 Y3
  have zk := HZk.out
  rw [show off + 0 * 5 + 1 = off + 1 by omega] at zk
  clear Y3
  go_wp2_with fail
  refine Calls.mono HP2.out ?_
  rintro e w4 ⟨sl, rfl, hb4, ho, hf, _⟩
  have hK := ho.kids (B := w4.heap.size) fun b hb => hb.2
  obtain ⟨hl, M, hM, hMt⟩ := HTk2.out
  obtain ⟨g, og, cg, rfl, hgB, d0, d1, d2, d3⟩ := kid_cells hK hM
  rw [hl] at hK
  rw [hMt] at d2
  simp only [hl]
  obtain ⟨w5, hw5⟩ : ∃ w5, w5 = ((w4.alloc (.cells #[.int .u8 T2.kind, .string T2.text, .int .i64 T2.num, .int .i64 T2.place, .slice (some ⟨g, og, none⟩) 1 cg] 25)).alloc (.cells #[.int .i64 0, .int .i64 0] 42)) := ⟨_, rfl⟩
  have hb5 : Below w4.heap.size w4 w5 := by rw [hw5]; exact below_two w4 _ _
  obtain ⟨X0, X1, _⟩ := two_new' w4 (.cells #[.int .u8 T2.kind, .string T2.text, .int .i64 T2.num, .int .i64 T2.place, .slice (some ⟨g, og, none⟩) 1 cg] 25) (.cells #[.int .i64 0, .int .i64 0] 42)
  rw [← hw5] at X0 X1
  have hsz5 : w4.heap.size + 1 < w5.heap.size := (Array.getElem?_eq_some_iff.1 X1).1
  have hsz4 : w3.heap.size ≤ w4.heap.size := hb4.size
  have hb35 := hb4.trans (hb5.mono hb4.size)
  have HB5 := Lib.hid (HB3.out.trans (hb35.mono HB3.out.size))
  have HOn2 := Lib.hid (only_any 27 T2 (.slice (some ⟨g, og, none⟩) 1 cg) w4.heap.size w5 hf (hK.below hb5) hb5.size)
  rw [HO2.out] at HOn2
  have HKid2 := Lib.hid ((hb5.cell (p := ⟨g, og + 0 * 5 + 2, none⟩) hgB).trans d2)
  have HgB : Hid (g < w4.heap.size) := hgB
  have HX0 := Lib.hid X0
  have HX1 := Lib.hid X1
  have HW3 := Lib.hid (heap_below hb35 HY3.out (by omega))
  have HWm := Lib.hid ((hb35.cell (p := ⟨bS, offS + 1 * 5 + 1, none⟩) (by have := HbS.out; show bS < _; omega)).trans HMk.out)
  clear hb4 ho hf hK hl hM hMt d0 d1 d2 d3 hb5 hb35 hgB a0 a1 a2 a3 a4 b0 b1 c0 c1 c2 c3 c4 zk
  go_upto_region 6 with fail
  change Code.wp _ _ _ _ ((w4.alloc (.cells #[.int .u8 T2.kind, .string T2.text, .int .i64 T2.num, .int .i64 T2.place, .slice (some ⟨g, og, none⟩) 1 cg] 25)).alloc (.cells #[.int .i64 0, .int .i64 0] 42))
  rw [← hw5]
  clear hw5
  obtain ⟨a0, a1, a2, a3, a4⟩ := cells5 X0
  clear X0 X1
  go_wp2_with fail
  refine Calls.mono HOn2.out ?_
  rintro e w6 ⟨hb6, ⟨hx, _⟩ | ⟨S', s', hx, rfl, hfS, hKS⟩⟩
  · cases hx
  injection hx with hx
  subst hx
  obtain ⟨pS, lS, cS2, rfl⟩ := hKS.shape
  have hS1 := HSt2.out
  simp only [hS1]
  obtain ⟨w7, hw7⟩ : ∃ w7, w7 = w6.alloc (.cells #[.int .u8 S2.kind, .string ⟨#[45, 53]⟩, .int .i64 S2.num, .int .i64 S2.place, .slice pS lS cS2] 25) := ⟨_, rfl⟩
  have hb7 : Below w6.heap.size w6 w7 := by rw [hw7]; exact (Below.refl _ w6).alloc (Nat.le_refl _) _
  have Y7 : w7.heap[w6.heap.size]? = some (.cells #[.int .u8 S2.kind, .string ⟨#[45, 53]⟩, .int .i64 S2.num, .int .i64 S2.place, .slice pS lS cS2] 25 (0, 0)) := by rw [hw7]; exact heap_alloc_new w6 _
  have hb57 := hb6.trans (hb7.mono hb6.size)
  have hsz6 : w5.heap.size ≤ w6.heap.size := hb6.size
  have hsz7 : w6.heap.size < w7.heap.size := (Array.getElem?_eq_some_iff.1 Y7).1
  have HB7 := Lib.hid (HB5.out.trans (hb57.mono HB5.out.size))
  have HV5 := Lib.hid (heap_below hb57 HX0.out (by omega))
  have HV6 := Lib.hid (heap_below hb57 HX1.out (by omega))
  have HVk := Lib.hid ((hb57.cell (p := ⟨g, og + 0 * 5 + 2, none⟩) (by have := HgB.out; show g < _; omega)).trans HKid2.out)
  have HV3 := Lib.hid (heap_below hb57 HW3.out (by omega))
  have HVm := Lib.hid ((hb57.cell (p := ⟨bS, offS + 1 * 5 + 1, none⟩) (by have := HbS.out; show bS < _; omega)).trans HWm.out)
  have hF3 := fun W (hW : Below w.heap.size w W) => fault_any src3 202 9 src3_is W (HT.out W hW)
  have hF4 := fun W (hW : Below w.heap.size w W) => fault_any src4 202 9 src4_is W (HT.out W hW)
  have hF5 := fun W (hW : Below w.heap.size w W) => fault_any src5 202 20 src5_is W (HT.out W hW)
  have hF6 := fun W (hW : Below w.heap.size w W) => fault_any src6 202 22 src6_is W (HT.out W hW)
  unfold src3 at hF3
  unfold src4 at hF4
  unfold src5 at hF5
  unfold src6 at hF6
  have HF3 := Lib.hid hF3
  have HF4 := Lib.hid hF4
  have HF5 := Lib.hid hF5
  have HF6 := Lib.hid hF6
  clear hb6 hb7 hb57 hfS hKS hS1 a0 a1 a2 a3 a4 hF3 hF4 hF5 hF6
  go_upto_region 7 with fail
  change Code.wp _ _ _ _ (w6.alloc (.cells #[.int .u8 S2.kind, .string ⟨#[45, 53]⟩, .int .i64 S2.num, .int .i64 S2.place, .slice pS lS cS2] 25))
  rw [← hw7]
  clear hw7
  obtain ⟨a0, a1, a2, a3, a4⟩ := cells5 HV3.out
  obtain ⟨b0, b1, b2, b3, b4⟩ := cells5 HV5.out
  obtain ⟨c0, c1, _, _⟩ := cells2p HV6.out
  obtain ⟨e0, e1, e2, e3, e4⟩ := cells5 Y7
  have zk := HVk.out
  have zm := HVm.out
  rw [show og + 0 * 5 + 2 = og + 2 by omega] at zk
  rw [show offS + 1 * 5 + 1 = offS + 6 by omega] at zm
  clear Y7
  go_wp2_with fail
  refine Calls.mono (HF3.out _ HB7.out) ?_
  rintro e w8 ⟨rfl, hb8⟩
  have HB8 := Lib.hid (HB7.out.trans (hb8.mono HB7.out.size))
  clear hb8 a0 a1 a2 a3 a4 b0 b1 b2 b3 b4 c0 c1 e0 e1 e2 e3 e4 zk zm
  go_wp2_with fail
  refine Calls.mono (HF4.out _ HB8.out) ?_
  rintro e w9 ⟨rfl, hb9⟩
  have HB9 := Lib.hid (HB8.out.trans (hb9.mono HB8.out.size))
  clear hb9
  go_wp2_with fail
  refine Calls.mono (HF5.out _ HB9.out) ?_
  rintro e w10 ⟨rfl, hb10⟩
  have HB10 := Lib.hid (HB9.out.trans (hb10.mono HB9.out.size))
  clear hb10
  go_wp2_with fail
  refine Calls.mono (HF6.out _ HB10.out) ?_
  rintro e w11 ⟨rfl, hb11⟩
  have HB11 := Lib.hid (HB10.out.trans (hb11.mono HB10.out.size))
  clear hb11
  go_wp2_with fail
  go_ret
  exact ⟨rfl, HB11.out⟩
end Go.Proofs.YtfpohaipmnjflaaGreatDoor
