/- ParseParts, the law's walk: it answers true for every two sources. Condition: the library's table of blanks lies as laid. -/
import Derived.Test.YtgifapamogbkeaaDoorMXP
import Derived.Test.YtgifapamogbkeaaDoorMXJ
import Derived.BigQuiet
namespace Go.Proofs.YtgifapamogbkeaaDoor
open Go.RowKit

theorem prog_box {w w1 : World} {r : Tree × Int × Int} {sl : Value} (hb : Below w.heap.size w w1) : ∃ W, W = ((w1.alloc (.cells #[.int .u8 r.1.kind, .string r.1.text, .int .i64 r.1.num, .int .i64 r.1.place, sl] 26)).alloc (.cells #[.int .i64 r.2.1, .int .i64 r.2.2] 29)) ∧ Below w1.heap.size w1 W ∧ Below w.heap.size w W ∧
    W.heap[w1.heap.size]? = some (.cells #[.int .u8 r.1.kind, .string r.1.text, .int .i64 r.1.num, .int .i64 r.1.place, sl] 26 (0, 0)) ∧ W.heap[w1.heap.size + 1]? = some (.cells #[.int .i64 r.2.1, .int .i64 r.2.2] 29 (0, 0)) ∧ w1.heap.size + 1 < W.heap.size := by
  obtain ⟨X0, X1, _⟩ := two_new' w1 (.cells #[.int .u8 r.1.kind, .string r.1.text, .int .i64 r.1.num, .int .i64 r.1.place, sl] 26) (.cells #[.int .i64 r.2.1, .int .i64 r.2.2] 29)
  have h := below_two w1 (.cells #[.int .u8 r.1.kind, .string r.1.text, .int .i64 r.1.num, .int .i64 r.1.place, sl] 26) (.cells #[.int .i64 r.2.1, .int .i64 r.2.2] 29)
  exact ⟨_, rfl, h, hb.trans (h.mono hb.size), X0, X1, (Array.getElem?_eq_some_iff.1 X1).1⟩
/-- behind the first half: the two boxes of faults are there -/
def HalfRel (w : World) (f g : Nat) (W : World) : Prop := Below w.heap.size w W ∧ (∃ x y : Int, W.heap[f]? = some (.cells #[.int .i64 x, .int .i64 y] 29 (0, 0))) ∧ ∃ x y : Int, W.heap[g]? = some (.cells #[.int .i64 x, .int .i64 y] 29 (0, 0))
/-- worlds in which some blocks are as they were -/
def KeepB (w : World) (p : Nat → Prop) := {W : World // ∀ b, p b → W.heap[b]? = w.heap[b]?}
instance (w : World) (p : Nat → Prop) : Nonempty (KeepB w p) := ⟨⟨w, fun _ _ => rfl⟩⟩
theorem KeepB.cell {w : World} {p : Nat → Prop} (x : KeepB w p) {q : Addr} {v : Value} (h : w.cell? q = some v) (hp : p q.block) : x.1.cell? q = some v := by
  have e : x.1.cell? q = w.cell? q := by unfold World.cell?; rw [x.2 _ hp]
  rw [e]; exact h
def preB : ByteArray := ⟨#[114, 117, 108, 101, 32, 114, 32, 123, 32, 61, 62, 32, 115, 97, 121, 32]⟩
def pre2B : ByteArray := ⟨#[114, 117, 108, 101, 32, 114, 32, 123, 32, 61, 62, 32, 115, 97, 121, 32, 40, 32, 35, 32, 99, 10]⟩
theorem one_list (a : ByteArray) : (preB ++ a ++ ⟨#[10, 59, 32, 125]⟩).data.toList = preL ++ (a.data.toList ++ [10, 59, 32, 125]) := by simp [ByteArray.data_append, preB, preL]
theorem two_list (a : ByteArray) : (pre2B ++ a ++ ⟨#[10, 41, 32, 59, 32, 125]⟩).data.toList = preL ++ ([40, 32, 35, 32, 99, 10] ++ (a.data.toList ++ [10, 41, 32, 59, 32, 125])) := by simp [ByteArray.data_append, pre2B, preL]
theorem only_trim : ∀ (n : Nat) {d : Nat} {T p : Tree}, onlyM n T = some p → Trim (d + n) T → Trim d p := by
  intro n
  induction n with
  | zero => intro d T p h ht; injection h with h; rw [← h]; exact ht
  | succ n ih =>
    intro d T p h ht
    unfold onlyM at h
    split at h
    · rename_i k hk
      exact ih h (ht.2.2.2 k (by rw [hk]; exact List.mem_singleton.2 rfl))
    · cases h
/-- a fault's box is no list of nodes: it may be stored into -/
theorem KidsAt.past {W W' : World} {B g : Nat} {x y : Int} (hg : W.heap[g]? = some (.cells #[.int .i64 x, .int .i64 y] 29 (0, 0))) (hk : ∀ b, b < B → b ≠ g → W'.heap[b]? = W.heap[b]?) : ∀ {d : Nat} {ks : List Tree} {s : Value}, KidsAt W B d ks s → KidsAt W' B d ks s := by
  intro d
  induction d with
  | zero => intro ks s h; exact h
  | succ d ih =>
    intro ks s h
    rcases h with h | ⟨b, off, cap, h1, h2, h3, h4, h5, h6⟩
    · exact Or.inl h
    · have hbg : b ≠ g := by
        rintro rfl
        obtain ⟨T, hT⟩ : ∃ T, ks[0]? = some T := by
          cases ks with
          | nil => exact absurd rfl h1
          | cons a l => exact ⟨a, rfl⟩
        obtain ⟨_, _, c0, _⟩ := h6 0 T hT
        rw [cell_of_row _ _ _ _ _ _ hg] at c0
        rcases off with _ | _ | n
        · simp at c0
        · simp at c0
        · simp at c0
      refine Or.inr ⟨b, off, cap, h1, h2, h3, h4, h5, fun i T hT => ?_⟩
      obtain ⟨hf, s', c0, c1, c2, c3, c4, hr⟩ := h6 i T hT
      have e : ∀ j, W'.cell? ⟨b, j, none⟩ = W.cell? ⟨b, j, none⟩ := fun j => by unfold World.cell?; rw [hk b h2 hbg]
      exact ⟨hf, s', (e _).trans c0, (e _).trans c1, (e _).trans c2, (e _).trans c3, (e _).trans c4, ih hr⟩
/-- of a moved tree, while the region goes on -/
def GotSh (L d : Nat) (T : Tree) (W : World) (xs : List Value) : Prop := ∃ s, xs = [s] ∧ OwnAt W d (T.kids.map (shT 6)) s (Between L W.heap.size)
theorem GotSh.below {L d : Nat} {T : Tree} {W W' : World} {xs : List Value} (h : GotSh L d T W xs) (hb : Below W.heap.size W W') : GotSh L d T W' xs := by
  obtain ⟨s, h1, h2⟩ := h
  exact ⟨s, h1, (h2.below (fun b hb => hb.2) hb).sub fun b hx => ⟨hx.1, Nat.lt_of_lt_of_le hx.2 hb.size⟩⟩
theorem join_list (a b : ByteArray) : (a ++ ⟨#[10]⟩ ++ b).data.toList = a.data.toList ++ 10 :: b.data.toList := by simp [ByteArray.data_append]
set_option maxRecDepth 100000 in
set_option maxHeartbeats 8000000 in
theorem law_parseParts (a b : ByteArray) (w : World) (ht : AsciiTab w) : Calls Tryd.prog 3 #[.string a, .string b] w (BoolPost true w) := by
  have HT := Lib.hid (fun W (hW : Below w.heap.size w W) => ht.below hW)
  have HA := Lib.hid (awake6_any w ht)
  have HPr := Lib.hid (fun (x : ByteArray) W (hW : Below w.heap.size w W) => program_any x W (ht.below hW))
  clear ht
  go_enter Tryd.func3, Tryd.ntmps3
  go_wp2_with fail
  refine Calls.mono HA.out ?_
  rintro e w1 ⟨rfl, hb1⟩
  have HB1 := Lib.hid hb1
  clear hb1
  by_cases hs : 8000 < a.size
  · have hs1 : (8000 : Int) < a.size := by omega
    go_wp2_with fail
    go_ret
    exact ⟨rfl, HB1.out⟩
  have hs1 : decide ((8000 : Int) < a.size) = false := by simp; omega
  by_cases hs2 : 8000 < b.size
  · have hs3 : (8000 : Int) < b.size := by omega
    go_wp2_with fail
    go_ret
    exact ⟨rfl, HB1.out⟩
  have hs3 : decide ((8000 : Int) < b.size) = false := by simp; omega
  go_wp2_with fail
  refine Calls.mono (HPr.out a _ HB1.out) ?_
  rintro e w2 ⟨sa, rfl, hb2, hoa, hfa, hta, hla⟩
  obtain ⟨ra, hra⟩ : ∃ r, progM a = r := ⟨_, rfl⟩
  rw [hra] at hoa hfa hta hla ⊢
  obtain ⟨pa, ca, rfl⟩ := hoa.shape
  have hlw2 : w1.heap.size ≤ w2.heap.size := hb2.size
  obtain ⟨w3, hw3, hb23, hb3, X0, X1, hl3⟩ := prog_box (r := ra) (sl := .slice pa ra.1.kids.length ca) (HB1.out.trans (hb2.mono HB1.out.size))
  have HRa := Lib.hid hra
  have HB3 := Lib.hid hb3
  have HX0 := Lib.hid X0
  have HX1 := Lib.hid X1
  have HLa2 := Lib.hid hla
  have HTa := Lib.hid hta
  have HB23 := Lib.hid hb23
  have HSa := Lib.hid hl3
  have Hw3 := Lib.hid hw3
  have HblA : Hid (∀ g, (Value.slice pa ra.1.kids.length ca).ownBlock = some g → g < w2.heap.size) := by
    obtain ⟨_, _, h, _⟩ := hla
    exact fun g hg => (own_block h g hg).2
  have HblB : Hid (∀ g, (Value.slice pa ra.1.kids.length ca).ownBlock = some g → w1.heap.size ≤ g) := by
    obtain ⟨_, _, h, _⟩ := hla
    exact fun g hg => (own_block h g hg).1
  clear hb2 hoa hfa hta hla hb23 hb3 X0 X1 hw3 hra
  go_upto_region 6 with fail
  change Code.wp _ _ _ _ ((w2.alloc (.cells #[.int .u8 ra.1.kind, .string ra.1.text, .int .i64 ra.1.num, .int .i64 ra.1.place, .slice pa ra.1.kids.length ca] 26)).alloc (.cells #[.int .i64 ra.2.1, .int .i64 ra.2.2] 29))
  rw [← Hw3.out]
  go_wp2_with fail
  refine Calls.mono (HPr.out b _ HB3.out) ?_
  rintro e w4 ⟨sb, rfl, hb4, hob, hfb, htb, hlb⟩
  obtain ⟨rb, hrb⟩ : ∃ r, progM b = r := ⟨_, rfl⟩
  rw [hrb] at hob hfb htb hlb ⊢
  obtain ⟨pb, cb, rfl⟩ := hob.shape
  obtain ⟨w5, hw5, hb45, hb5, Y0, Y1, hl5⟩ := prog_box (r := rb) (sl := .slice pb rb.1.kids.length cb) (HB3.out.trans (hb4.mono HB3.out.size))
  have hb35 := hb4.trans (hb45.mono hb4.size)
  have hl34 : w3.heap.size ≤ w4.heap.size := hb4.size
  have HRb := Lib.hid hrb
  have HB5 := Lib.hid hb5
  have HY0 := Lib.hid Y0
  have HY1 := Lib.hid Y1
  have HZ0 := Lib.hid (heap_below hb35 HX0.out (by omega))
  have HZ1 := Lib.hid (heap_below hb35 HX1.out hl3)
  have HB35 := Lib.hid hb35
  have HOb5 := Lib.hid (hob.below (fun b hb => hb.2) hb45)
  have HFb := Lib.hid hfb
  have HTb := Lib.hid htb
  have Hw5 := Lib.hid hw5
  clear hb4 hob hfb htb hlb hb45 hb5 Y0 Y1 hw5 hrb hb35
  go_upto_region 7 with fail
  change Code.wp _ _ _ _ ((w4.alloc (.cells #[.int .u8 rb.1.kind, .string rb.1.text, .int .i64 rb.1.num, .int .i64 rb.1.place, .slice pb rb.1.kids.length cb] 26)).alloc (.cells #[.int .i64 rb.2.1, .int .i64 rb.2.2] 29))
  rw [← Hw5.out]
  go_cut [44] from 37 to 44 (fun v wx => v = .bool (ra.2.1 == 0 && rb.2.1 == 0) ∧ wx = w5)
  case first =>
    obtain ⟨f0, f1, _, _⟩ := cells2 HZ1.out
    obtain ⟨g0, g1, _, _⟩ := cells2 HY1.out
    cases hea : (ra.2.1 == 0) with
    | false =>
      go_wp2_with fail
      go_meet
      case rel => exact ⟨by rw [hea]; rfl, rfl⟩
    | true =>
      go_wp2_with fail
      go_meet
      case rel => exact ⟨by rw [hea, Bool.true_and], rfl⟩
  case rest =>
    obtain ⟨rfl, hwx⟩ := hcut
    have hwx := hwx.symm
    subst hwx
    obtain ⟨bo, hbo⟩ : ∃ x, (ra.2.1 == 0 && rb.2.1 == 0) = x := ⟨_, rfl⟩
    rw [hbo]
    have HBo := Lib.hid hbo
    have haz : a.size ≤ 8000 := by omega
    have hbz : b.size ≤ 8000 := by omega
    have hl1 : w.heap.size ≤ w1.heap.size := HB1.out.size
    have hl12 : w1.heap.size ≤ w2.heap.size := hlw2
    have hl45 : w4.heap.size + 1 < w5.heap.size := hl5
    clear hbo
    go_upto_if 44 with fail
    go_cut [] from 45 to 76 (fun wx => HalfRel w (w2.heap.size + 1) (w4.heap.size + 1) wx)
    case first =>
      cases bo with
      | false =>
        go_wp2_with fail
        go_meet
        case rel => exact ⟨HB5.out, ⟨_, _, HZ1.out⟩, ⟨_, _, HY1.out⟩⟩
      | true =>
        obtain ⟨Ta, ea, xa⟩ := ra
        obtain ⟨Tb, eb, xb⟩ := rb
        have h0 := HBo.out
        rw [Bool.and_eq_true, beq_iff_eq, beq_iff_eq] at h0
        obtain ⟨h0a, h0b⟩ := h0
        dsimp only at h0a h0b
        subst h0a h0b
        have HJ := Lib.hid (join_told (S := a ++ ⟨#[10]⟩ ++ b) (join_list a b) (by simp only [ByteArray.size_append]; show a.size + 1 + b.size ≤ _; omega) HRa.out HRb.out)
        have hz1 : (a ++ (⟨#[10]⟩ : ByteArray)).size ≤ 8001 := by simp only [ByteArray.size_append]; show a.size + 1 ≤ _; omega
        have HS := Lib.hid (HPr.out (a ++ ⟨#[10]⟩ ++ b) w5 HB5.out)
        dsimp only at HZ0 HZ1 HY0 HY1 HLa2 HTa HOb5 HFb HTb HblA HblB
        have HMv := Lib.hid (shN_any (a.size + 1) (by omega) 30)
        go_wp2_with fail
        refine Calls.mono HS.out ?_
        rintro e w6 ⟨ss, rfl, hb6, hos, hfs, hts, hls⟩
        obtain ⟨rs, hrs⟩ : ∃ r, progM (a ++ ⟨#[10]⟩ ++ b) = r := ⟨_, rfl⟩
        have hJ := HJ.out
        rw [hrs] at hos hfs hts hls hJ ⊢
        obtain ⟨ps, cs, rfl⟩ := hos.shape
        obtain ⟨w7, hw7, hb67, hb7, V0, V1, hl7⟩ := prog_box (r := rs) (sl := .slice ps rs.1.kids.length cs) (HB5.out.trans (hb6.mono HB5.out.size))
        have hb57 := hb6.trans (hb67.mono hb6.size)
        have hl56 : w5.heap.size ≤ w6.heap.size := hb6.size
        have HB7 := Lib.hid hb7
        have HV0 := Lib.hid V0
        have HV1 := Lib.hid V1
        have HU0 := Lib.hid (heap_below hb57 HZ0.out (by omega))
        have HU1 := Lib.hid (heap_below hb57 HZ1.out (by omega))
        have HT0 := Lib.hid (heap_below hb57 HY0.out (by omega))
        have HT1 := Lib.hid (heap_below hb57 HY1.out hl5)
        have HB57 := Lib.hid hb57
        have hob7 := HOb5.out.below (fun b hb => by have := hb.2; omega) hb57
        have HOs7 := Lib.hid (hos.below (fun b hb => hb.2) hb67)
        have HJr := Lib.hid hJ
        have Hw7 := Lib.hid hw7
        have HCall := Lib.hid (HMv.out Tb (.agg #[.int .u8 Tb.kind, .string Tb.text, .int .i64 Tb.num, .int .i64 Tb.place, .slice pb Tb.kids.length cb]) w5.heap.size w7 ⟨HFb.out, _, rfl, hob7.kids fun b hb => by have := hb.2; omega⟩ hb57.size (HTb.out 30))
        obtain ⟨m0, m1, m2, m3, m4⟩ := cells5 HT0.out
        rw [Int.natCast_succ] at HCall
        clear hb6 hos hfs hts hls hb67 hb7 V0 V1 hb57 hob7 hJ hrs hw7
        go_upto_region 9 with fail
        change Code.wp _ _ _ _ ((w6.alloc (.cells #[.int .u8 rs.1.kind, .string rs.1.text, .int .i64 rs.1.num, .int .i64 rs.1.place, .slice ps rs.1.kids.length cs] 26)).alloc (.cells #[.int .i64 rs.2.1, .int .i64 rs.2.2] 29))
        rw [← Hw7.out]
        go_wp2_with fail
        refine Calls.mono HCall.out ?_
        rintro e w8 ⟨sm, rfl, hb8, hom, hlm⟩
        obtain ⟨pm, cm, rfl⟩ := hom.shape
        rw [List.length_map] at hom hlm
        simp only [List.length_map]
        obtain ⟨plm, hplm⟩ : ∃ x, Tb.place + ((a.size + 1 : Nat) : Int) = x := ⟨_, rfl⟩
        rw [hplm]
        obtain ⟨w9, hw9⟩ : ∃ w9, w9 = set5 w8 w4.heap.size (.int .u8 Tb.kind) (.string Tb.text) (.int .i64 Tb.num) (.int .i64 plm) (.slice pm Tb.kids.length cm) := ⟨_, rfl⟩
        have hl34 : w3.heap.size ≤ w4.heap.size := hl34
        have hl23 : w2.heap.size ≤ w3.heap.size := HB23.out.size
        have hl67 : w6.heap.size + 1 < w7.heap.size := hl7
        have hl78 : w7.heap.size ≤ w8.heap.size := hb8.size
        have hb25 : Below w2.heap.size w2 w5 := HB23.out.trans (HB35.out.mono HB23.out.size)
        have hb27 : Below w2.heap.size w2 w7 := hb25.trans (HB57.out.mono hb25.size)
        have hb28 : Below w2.heap.size w2 w8 := hb27.trans (hb8.mono hb27.size)
        have hs9 : w9.heap.size = w8.heap.size := by rw [hw9, set5_size]
        have ho9 : ∀ b, b ≠ w4.heap.size → w9.heap[b]? = w8.heap[b]? := fun b hb => by rw [hw9]; exact set5_other hb _ _ _ _ _
        have hLa9 : ListOwn w9.drew w1.heap.size 29 Ta.kids (.slice pa Ta.kids.length ca) := HLa2.out.keep (by show w2.heap.size ≤ w9.heap.size; omega) (fun b _ hb => (ho9 b (by omega)).trans (hb28.block b hb))
        have hLm9 : ListOwn w9.drew w7.heap.size 29 (Tb.kids.map (shT (a.size + 1))) (.slice pm Tb.kids.length cm) := hlm.keep (by show w8.heap.size ≤ w9.heap.size; omega) (fun b hb _ => ho9 b (by omega))
        have hkl := (HTa.out 1).2.2.1
        have hkm := (HTb.out 1).2.2.1
        obtain ⟨v', wq, hrun, hKq, hgq⟩ := append_lists hLa9 hLm9 (fun g hg => by have := HblA.out g hg; omega) (by omega) (by show w7.heap.size ≤ w9.heap.size; omega) (by rw [List.length_map]; omega) 24
        have X5 := (ho9 w2.heap.size (by omega)).trans (heap_below hb8 HU0.out (by omega))
        have X6 := (ho9 (w2.heap.size + 1) (by omega)).trans (heap_below hb8 HU1.out (by omega))
        have X7 : w9.heap[w4.heap.size]? = some (.cells #[.int .u8 Tb.kind, .string Tb.text, .int .i64 Tb.num, .int .i64 plm, .slice pm Tb.kids.length cm] 26 (0, 0)) := by rw [hw9]; exact heap_set5 (heap_below hb8 HT0.out (by omega)) _ _ _ _ _
        have X8 := (ho9 (w4.heap.size + 1) (by omega)).trans (heap_below hb8 HT1.out (by omega))
        have X9 := (ho9 w6.heap.size (by omega)).trans (heap_below hb8 HV0.out (by omega))
        have X10 := (ho9 (w6.heap.size + 1) (by omega)).trans (heap_below hb8 HV1.out hl7)
        have HX5 := Lib.hid X5
        have HX6 := Lib.hid X6
        have HX7 := Lib.hid X7
        have HX8 := Lib.hid X8
        have HX9 := Lib.hid X9
        have HX10 := Lib.hid X10
        have hB9 : Below w.heap.size w w9 := by
          rw [hw9]; unfold set5
          exact (((((HB7.out.trans (hb8.mono HB7.out.size)).setCell (p := ⟨w4.heap.size, 0, none⟩) (by show w.heap.size ≤ w4.heap.size; omega) _).setCell (p := ⟨w4.heap.size, 1, none⟩) (by show w.heap.size ≤ w4.heap.size; omega) _).setCell (p := ⟨w4.heap.size, 2, none⟩) (by show w.heap.size ≤ w4.heap.size; omega) _).setCell (p := ⟨w4.heap.size, 3, none⟩) (by show w.heap.size ≤ w4.heap.size; omega) _).setCell (p := ⟨w4.heap.size, 4, none⟩) (by show w.heap.size ≤ w4.heap.size; omega) _
        have HB9 := Lib.hid hB9
        have HOs9 := Lib.hid (HOs7.out.keep fun b o hb ho => (ho9 b (by have := hb.1; omega)).trans (heap_below hb8 ho (by have := hb.2; omega)))
        have HRun := Lib.hid hrun
        have HKq := Lib.hid hKq
        have HGq := Lib.hid hgq
        have Hw9 := Lib.hid hw9
        obtain ⟨m0, m1, m2, m3, m4⟩ := cells5 (heap_below hb8 HT0.out (show w4.heap.size < w7.heap.size by omega))
        have f0 := frozen5 (heap_below hb8 HT0.out (show w4.heap.size < w7.heap.size by omega)) 0
        have f1 := frozen5 (heap_below hb8 HT0.out (show w4.heap.size < w7.heap.size by omega)) 1
        have f2 := frozen5 (heap_below hb8 HT0.out (show w4.heap.size < w7.heap.size by omega)) 2
        have f3 := frozen5 (heap_below hb8 HT0.out (show w4.heap.size < w7.heap.size by omega)) 3
        have f4 := frozen5 (heap_below hb8 HT0.out (show w4.heap.size < w7.heap.size by omega)) 4
        have HL89 : Hid (w7.heap.size ≤ w9.heap.size) := by show _ ≤ _; omega
        clear hb8 hom hlm hw9 hb25 hb27 hb28 hs9 ho9 hLa9 hLm9 hkl hkm hrun hKq hgq X5 X6 X7 X8 X9 X10 hB9 hplm
        go_upto_region 10 with fail
        change Code.wp _ _ _ _ (set5 w8 w4.heap.size (.int .u8 Tb.kind) (.string Tb.text) (.int .i64 Tb.num) (.int .i64 plm) (.slice pm Tb.kids.length cm))
        rw [← Hw9.out]
        clear m0 m1 m2 m3 m4 f0 f1 f2 f3 f4
        rcases HJr.out with h | h
        · subst h
          have hmu : w9.heap.size = w9.drew.heap.size := rfl
          have hl89 : w7.heap.size ≤ w9.heap.size := by have := (Array.getElem?_eq_some_iff.1 HX10.out).1; have := HL89.out; omega
          have hkq : ∀ b, w2.heap.size ≤ b ∧ b < w9.heap.size → wq.heap[b]? = w9.heap[b]? := fun b hb => HGq.out.block b (by show b < w9.heap.size; exact hb.2) (fun e => by have := HblA.out b e.symm; omega)
          have HKeep := Lib.hid hkq
          have hKs : KidsAt wq wq.heap.size 30 (Ta.kids ++ Tb.kids.map (shT (a.size + 1))) (.slice ps (Ta.kids ++ Tb.kids.map (shT (a.size + 1))).length cs) :=
            (HOs9.out.keep fun b o hb ho => (hkq b ⟨by have := hb.1; omega, by have := hb.2; omega⟩).trans ho).kids fun b hb => by have := hb.2; have := HGq.out.size; have h9 : w9.drew.heap.size = w9.heap.size := rfl; omega
          have HSame := Lib.hid (sameNodes_holds 30 _ _ v' wq.heap.size wq.heap.size wq hKs HKq.out (Nat.le_refl _) (Nat.le_refl _))
          obtain ⟨g0, g1, _, _⟩ := cells2 HX10.out
          obtain ⟨n0, n1, n2, n3, n4⟩ := cells5 HX9.out
          obtain ⟨a0, a1, a2, a3, a4⟩ := cells5 HX5.out
          obtain ⟨b0, b1, b2, b3, b4⟩ := cells5 HX7.out
          have k10 : w2.heap.size ≤ w6.heap.size + 1 ∧ w6.heap.size + 1 < w9.heap.size := ⟨by omega, by omega⟩
          have k9 : w2.heap.size ≤ w6.heap.size ∧ w6.heap.size < w9.heap.size := ⟨by omega, by omega⟩
          have k5 : w2.heap.size ≤ w2.heap.size ∧ w2.heap.size < w9.heap.size := ⟨by omega, by omega⟩
          have k7 : w2.heap.size ≤ w4.heap.size ∧ w4.heap.size < w9.heap.size := ⟨by omega, by omega⟩
          have C10 := fun x : KeepB w9 (fun b => w2.heap.size ≤ b ∧ b < w9.heap.size) => x.cell g0 k10
          have C9 := fun x : KeepB w9 (fun b => w2.heap.size ≤ b ∧ b < w9.heap.size) => x.cell n4 k9
          have C5 := fun x : KeepB w9 (fun b => w2.heap.size ≤ b ∧ b < w9.heap.size) => x.cell a4 k5
          have C7 := fun x : KeepB w9 (fun b => w2.heap.size ≤ b ∧ b < w9.heap.size) => x.cell b4 k7
          clear g0 g1 n0 n1 n2 n3 n4 a0 a1 a2 a3 a4 b0 b1 b2 b3 b4 hkq hKs k10 k9 k5 k7 hmu
          go_wp2_with fail
          refine RE.wp_region_eff (by kernel_rfl) 19 [14, 15] [14, 15] (fun s W => if s = 0 then W = w9.drew else if s = 1 then W = wq else Below wq.heap.size wq W) (fun _ _ => True) (fun i _ => if i = 14 then v' else .bool true) (fun _ _ _ => True) (by kernel_rfl) (fun i h1 h2 => by rw [h1] at h2; cases h2)
            (fun _ _ _ _ _ _ _ => trivial) rfl ?_
          simp only [List.take_succ_cons, List.take_zero, List.drop_succ_cons, List.drop_zero, List.length_cons, List.length_nil, Nat.reduceAdd]
          have hcl : ∀ (n s : Nat) (W : World), s ≤ n → (if s = 0 then W = w9.drew else if s = 1 then W = wq else Below wq.heap.size wq W) → ∃ x : KeepB w9 (fun b => w2.heap.size ≤ b ∧ b < w9.heap.size), W = x.1 := fun n s W _ h => by
            split at h
            · exact ⟨⟨W, fun b _ => by rw [h]; rfl⟩, rfl⟩
            · split at h
              · exact ⟨⟨W, fun b hb => by rw [h]; exact HKeep.out b hb⟩, rfl⟩
              · exact ⟨⟨W, fun b hb => (h.block b (by have := HGq.out.size; have h9 : w9.drew.heap.size = w9.heap.size := rfl; have := hb.2; omega)).trans (HKeep.out b hb)⟩, rfl⟩
          have HCl := Lib.hid hcl
          clear hcl
          repeat (refine RE.wpE_read (fun W => ∃ x : KeepB w9 (fun b => w2.heap.size ≤ b ∧ b < w9.heap.size), W = x.1) (HCl.out _) rfl rfl rfl rfl ?_; go_big_quiet_step (fail); refine wpQuiet_nil ?_)
          refine RE.wpE_turn rfl rfl ?_ (fun xs14 => ?_)
          · intro W _ hS _
            obtain rfl : W = w9.drew := hS rfl
            exact upon_append_run (.tmp 69) (.tmp 71) rfl rfl rfl HRun.out ⟨[], rfl, rfl, trivial, trivial⟩
          simp only [Act.put, List.setIfInBounds_toArray, List.set_cons_zero, List.set_cons_succ]
          refine RE.wpE_turn rfl rfl ?_ (fun xs15 => ?_)
          · intro W _ hS _
            obtain rfl : W = wq := hS rfl
            refine RE.upon_call 7 _ _ rfl (enters_of Tryd.func7 (by kernel_rfl) rfl) #[.slice ps (Ta.kids ++ Tb.kids.map (shT (a.size + 1))).length cs, v'] (by simp [Act.eval]; show (Ta.kids ++ Tb.kids.map (shT (a.size + 1))).length = _; rw [List.length_append, List.length_map]) (HSame.out.mono ?_)
            rintro e W' ⟨rfl, hb⟩
            exact ⟨_, rfl, [], rfl, hb, trivial, trivial⟩
          simp only [Act.put, List.setIfInBounds_toArray, List.set_cons_zero, List.set_cons_succ]
          repeat (refine RE.wpE_read (fun W => ∃ x : KeepB w9 (fun b => w2.heap.size ≤ b ∧ b < w9.heap.size), W = x.1) (HCl.out _) rfl rfl rfl rfl ?_; go_big_quiet_step (fail); refine wpQuiet_nil ?_)
          refine RE.wpE_nil ?_
          intro W3 hS hE
          have hb3 : Below wq.heap.size wq W3 := hS
          have hbq : Below w.heap.size w wq := below_grownO (HB9.out.drew) (by show w.heap.size ≤ w9.heap.size; omega) HGq.out (fun g hg => by have := HblB.out g hg; omega)
          have HBq := Lib.hid (hbq.trans (hb3.mono hbq.size))
          have h6 := (heap_below hb3 ((HKeep.out (w2.heap.size + 1) ⟨by omega, by omega⟩).trans HX6.out) (by have := HGq.out.size; have h9 : w9.drew.heap.size = w9.heap.size := rfl; omega))
          have h8 := (heap_below hb3 ((HKeep.out (w4.heap.size + 1) ⟨by omega, by omega⟩).trans HX8.out) (by have := HGq.out.size; have h9 : w9.drew.heap.size = w9.heap.size := rfl; omega))
          have H6 := Lib.hid h6
          have H8 := Lib.hid h8
          clear hS hE hb3 hbq h6 h8 C10 C9 C5 C7
          go_wp2_with fail
          go_meet
          case rel => exact ⟨HBq.out, ⟨_, _, H6.out⟩, ⟨_, _, H8.out⟩⟩
        · subst h
          obtain ⟨g0, g1, _, _⟩ := cells2 HX10.out
          dsimp only at g0 g1
          go_quiet (fail)
          go_wp2_with fail
          go_meet
          case rel => exact ⟨below_drewN HB9.out _, ⟨_, _, HX6.out⟩, ⟨_, _, HX8.out⟩⟩
    case rest =>
      obtain ⟨hbc, ⟨x6, y6, h6⟩, ⟨x8, y8, h8⟩⟩ := hcut
      have hlc6 : w2.heap.size + 1 < wc.heap.size := (Array.getElem?_eq_some_iff.1 h6).1
      have hlc8 : w4.heap.size + 1 < wc.heap.size := (Array.getElem?_eq_some_iff.1 h8).1
      have hne68 : w2.heap.size + 1 ≠ w4.heap.size + 1 := by have := HB23.out.size; omega
      have hl24 : w2.heap.size ≤ w4.heap.size := by have := HB23.out.size; omega
      have hz1 : (preB ++ a).size ≤ 8016 := by rw [ByteArray.size_append]; show 16 + a.size ≤ _; omega
      have hz2 : (pre2B ++ a).size ≤ 8022 := by rw [ByteArray.size_append]; show 22 + a.size ≤ _; omega
      have hz3 : (pre2B ++ a ++ ⟨#[10, 41, 32, 59, 32, 125]⟩).size ≤ 16384 := by rw [ByteArray.size_append]; show (pre2B ++ a).size + 6 ≤ _; omega
      have hS := HPr.out (preB ++ a ++ ⟨#[10, 59, 32, 125]⟩) wc hbc
      obtain ⟨rs, hrs⟩ : ∃ r, progM (preB ++ a ++ ⟨#[10, 59, 32, 125]⟩) = r := ⟨_, rfl⟩
      rw [hrs] at hS
      have HRs := Lib.hid hrs
      have HZ3 := Lib.hid hz3
      unfold preB at hS hz1
      unfold pre2B at hz2
      have HS := Lib.hid hS
      have H6 := Lib.hid h6
      have H8 := Lib.hid h8
      have HBc := Lib.hid hbc
      clear hS hrs hz3 h6 h8 hbc HZ0 HZ1 HY0 HY1 HOb5 HFb HTb HLa2 HTa HX0 HX1 HRa HRb HB3 HB23 HB35 HblA HblB
      go_wp2_with fail
      refine Calls.mono HS.out ?_
      rintro e w6 ⟨ss, rfl, hb6, hos, hfs, hts, _⟩
      obtain ⟨ps, cs, rfl⟩ := hos.shape
      have hl6 : wc.heap.size ≤ w6.heap.size := hb6.size
      obtain ⟨w7, hw7⟩ : ∃ w7, w7 = ((w6.alloc (.cells #[.int .u8 rs.1.kind, .string rs.1.text, .int .i64 rs.1.num, .int .i64 rs.1.place, .slice ps rs.1.kids.length cs] 26)).setCell ⟨w2.heap.size + 1, 0, none⟩ (.int .i64 rs.2.1)).setCell ⟨w2.heap.size + 1, 1, none⟩ (.int .i64 rs.2.2) := ⟨_, rfl⟩
      have hs7 : w7.heap.size = w6.heap.size + 1 := by rw [hw7]; simp [World.setCell]
      have ho7 : ∀ b, b ≠ w2.heap.size + 1 → b < w6.heap.size → w7.heap[b]? = w6.heap[b]? := fun b h1 h2 => by
        rw [hw7]
        exact (Below.heap_setCell _ _ _ _ h1).trans ((Below.heap_setCell _ _ _ _ h1).trans (Below.heap_alloc _ _ _ h2))
      have X7 : w7.heap[w6.heap.size]? = some (.cells #[.int .u8 rs.1.kind, .string rs.1.text, .int .i64 rs.1.num, .int .i64 rs.1.place, .slice ps rs.1.kids.length cs] 26 (0, 0)) := by
        rw [hw7]
        exact (Below.heap_setCell _ _ _ _ (show w6.heap.size ≠ w2.heap.size + 1 by omega)).trans ((Below.heap_setCell _ _ _ _ (show w6.heap.size ≠ w2.heap.size + 1 by omega)).trans (heap_alloc_new w6 _))
      have F7 : w7.heap[w2.heap.size + 1]? = some (.cells #[.int .i64 rs.2.1, .int .i64 rs.2.2] 29 (0, 0)) := by
        rw [hw7]
        exact heap_set2 ((Below.heap_alloc _ _ _ (by omega)).trans (heap_below hb6 H6.out hlc6)) _ _
      have G7 := (ho7 (w4.heap.size + 1) (by omega) (by omega)).trans (heap_below hb6 H8.out hlc8)
      have hB7 : Below w.heap.size w w7 := by
        rw [hw7]
        exact (((HBc.out.trans (hb6.mono HBc.out.size)).alloc (by omega) _).setCell (p := ⟨w2.heap.size + 1, 0, none⟩) (by show w.heap.size ≤ w2.heap.size + 1; omega) _).setCell (p := ⟨w2.heap.size + 1, 1, none⟩) (by show w.heap.size ≤ w2.heap.size + 1; omega) _
      have hK7 : KidsAt w7 w6.heap.size 30 rs.1.kids (.slice ps rs.1.kids.length cs) := (hos.keep (w' := w7) fun b o hb ho => (ho7 b (by have := hb.1; omega) hb.2).trans ho).kids fun b hb => hb.2
      have HOn := Lib.hid (only_any 27 rs.1 _ w6.heap.size w7 hfs hK7 (by omega))
      obtain ⟨f0, f1, ff0, ff1⟩ := cells2 ((Below.heap_alloc w6 (.cells #[.int .u8 rs.1.kind, .string rs.1.text, .int .i64 rs.1.num, .int .i64 rs.1.place, .slice ps rs.1.kids.length cs] 26) _ (show w2.heap.size + 1 < w6.heap.size by omega)).trans (heap_below hb6 H6.out hlc6))
      have HX7 := Lib.hid X7
      have HF7 := Lib.hid F7
      have HG7 := Lib.hid G7
      have HB7 := Lib.hid hB7
      have HTs := Lib.hid hts
      have Hw7 := Lib.hid hw7
      obtain ⟨r0, r1, r2, r3, r4⟩ := cells5 X7
      clear hb6 hos hfs hts hw7 ho7 X7 F7 G7 hB7 hK7
      go_upto_region 13 with fail
      change Code.wp _ _ _ _ (((w6.alloc (.cells #[.int .u8 rs.1.kind, .string rs.1.text, .int .i64 rs.1.num, .int .i64 rs.1.place, .slice ps rs.1.kids.length cs] 26)).setCell ⟨w2.heap.size + 1, 0, none⟩ (.int .i64 rs.2.1)).setCell ⟨w2.heap.size + 1, 1, none⟩ (.int .i64 rs.2.2))
      rw [← Hw7.out]
      clear f0 f1 ff0 ff1
      have hs7' : w6.heap.size < w7.heap.size := by omega
      clear hs7
      go_wp2_with fail
      refine Calls.mono HOn.out ?_
      rintro e w8 ⟨hb8, hon⟩
      have HB8 := Lib.hid (HB7.out.trans (hb8.mono HB7.out.size))
      have HF8 := Lib.hid (heap_below hb8 HF7.out (by omega))
      have HG8 := Lib.hid (heap_below hb8 HG7.out (by omega))
      have hl8 : w7.heap.size ≤ w8.heap.size := hb8.size
      clear r0 r1 r2 r3 r4 hb8
      obtain ⟨e0, he0⟩ : ∃ x, (rs.2.1 != 0) = x := ⟨_, rfl⟩
      have HE0 := Lib.hid he0
      rcases hon with ⟨hx, rfl⟩ | ⟨p1, s1, hx, rfl, hf1, hk1⟩
      · obtain ⟨w9, hw9⟩ : ∃ w9, w9 = w8.alloc (.cells zeroN 26) := ⟨_, rfl⟩
        have hb9 : Below w8.heap.size w8 w9 := by rw [hw9]; exact (Below.refl _ w8).alloc (Nat.le_refl _) _
        have HB9 := Lib.hid (HB8.out.trans (hb9.mono HB8.out.size))
        obtain ⟨f0, f1, _, _⟩ := cells2 (heap_below hb9 HF8.out (by omega))
        clear hb9
        unfold zeroN
        go_upto_region 14 with fail
        change Code.wp _ _ _ _ (w8.alloc (.cells zeroN 26))
        rw [← hw9]
        clear hw9
        cases e0 with
        | true =>
          go_wp2_with fail
          go_ret
          exact ⟨rfl, HB9.out⟩
        | false =>
          go_wp2_with fail
          go_ret
          exact ⟨rfl, HB9.out⟩
      · obtain ⟨p9, l9, c9, rfl⟩ := hk1.shape
        obtain ⟨w9, hw9⟩ : ∃ w9, w9 = w8.alloc (.cells #[.int .u8 p1.kind, .string p1.text, .int .i64 p1.num, .int .i64 p1.place, .slice p9 l9 c9] 26) := ⟨_, rfl⟩
        have hb9 : Below w8.heap.size w8 w9 := by rw [hw9]; exact (Below.refl _ w8).alloc (Nat.le_refl _) _
        have HB9 := Lib.hid (HB8.out.trans (hb9.mono HB8.out.size))
        have hF9 := heap_below hb9 HF8.out (by omega)
        have HG9 := Lib.hid (heap_below hb9 HG8.out (by omega))
        have hX9 : w9.heap[w8.heap.size]? = some (.cells #[.int .u8 p1.kind, .string p1.text, .int .i64 p1.num, .int .i64 p1.place, .slice p9 l9 c9] 26 (0, 0)) := by rw [hw9]; exact heap_alloc_new w8 _
        have HX9 := Lib.hid hX9
        have hl9 : w8.heap.size < w9.heap.size := (Array.getElem?_eq_some_iff.1 hX9).1
        have HK9 := Lib.hid (hk1.below (hb9.mono (show w6.heap.size ≤ w8.heap.size by omega)))
        have HF1 := Lib.hid hf1
        have HX := Lib.hid hx
        obtain ⟨f0, f1, _, _⟩ := cells2 hF9
        clear hb9 hF9 hX9 hf1 hk1 hx
        go_upto_region 14 with fail
        change Code.wp _ _ _ _ (w8.alloc (.cells #[.int .u8 p1.kind, .string p1.text, .int .i64 p1.num, .int .i64 p1.place, .slice p9 l9 c9] 26))
        rw [← hw9]
        clear hw9
        cases e0 with
        | true =>
          go_wp2_with fail
          go_ret
          exact ⟨rfl, HB9.out⟩
        | false =>
          obtain ⟨T1, er, xr⟩ := rs
          have h0 := HE0.out
          dsimp only at h0 HX HTs
          have h0' : er = 0 := by simpa using h0
          subst h0'
          obtain ⟨T2, hm2, hon2⟩ := brack_told HZ3.out (one_list a) (two_list a) HRs.out HX.out
          have hTr : Trim 27 p1 := only_trim 3 HX.out (HTs.out 30)
          have hS := HPr.out (pre2B ++ a ++ ⟨#[10, 41, 32, 59, 32, 125]⟩) w9 HB9.out
          rw [hm2] at hS
          unfold pre2B at hS
          have HS2 := Lib.hid hS
          have HOn2 := Lib.hid hon2
          have HTr := Lib.hid hTr
          clear hS hm2 hon2 hTr h0
          go_wp2_with fail
          refine Calls.mono HS2.out ?_
          rintro e wa ⟨st, rfl, hba, hot, hft, _, _⟩
          obtain ⟨pt, ct, rfl⟩ := hot.shape
          have hla : w9.heap.size ≤ wa.heap.size := hba.size
          obtain ⟨wb, hwb⟩ : ∃ wb, wb = ((wa.alloc (.cells #[.int .u8 T2.kind, .string T2.text, .int .i64 T2.num, .int .i64 T2.place, .slice pt T2.kids.length ct] 26)).setCell ⟨w4.heap.size + 1, 0, none⟩ (.int .i64 0)).setCell ⟨w4.heap.size + 1, 1, none⟩ (.int .i64 0) := ⟨_, rfl⟩
          have hsb : wb.heap.size = wa.heap.size + 1 := by rw [hwb]; simp [World.setCell]
          have hob : ∀ b, b ≠ w4.heap.size + 1 → b < wa.heap.size → wb.heap[b]? = wa.heap[b]? := fun b h1 h2 => by
            rw [hwb]
            exact (Below.heap_setCell _ _ _ _ h1).trans ((Below.heap_setCell _ _ _ _ h1).trans (Below.heap_alloc _ _ _ h2))
          have hXb : wb.heap[wa.heap.size]? = some (.cells #[.int .u8 T2.kind, .string T2.text, .int .i64 T2.num, .int .i64 T2.place, .slice pt T2.kids.length ct] 26 (0, 0)) := by
            rw [hwb]
            exact (Below.heap_setCell _ _ _ _ (show wa.heap.size ≠ w4.heap.size + 1 by omega)).trans ((Below.heap_setCell _ _ _ _ (show wa.heap.size ≠ w4.heap.size + 1 by omega)).trans (heap_alloc_new wa _))
          have hGa := (Below.heap_alloc wa (.cells #[.int .u8 T2.kind, .string T2.text, .int .i64 T2.num, .int .i64 T2.place, .slice pt T2.kids.length ct] 26) (w4.heap.size + 1) (by omega)).trans (heap_below hba HG9.out (by omega))
          have hGb : wb.heap[w4.heap.size + 1]? = some (.cells #[.int .i64 0, .int .i64 0] 29 (0, 0)) := by
            rw [hwb]
            exact heap_set2 hGa _ _
          have hBb : Below w.heap.size w wb := by
            rw [hwb]
            exact (((HB9.out.trans (hba.mono HB9.out.size)).alloc (by omega) _).setCell (p := ⟨w4.heap.size + 1, 0, none⟩) (by show w.heap.size ≤ w4.heap.size + 1; omega) _).setCell (p := ⟨w4.heap.size + 1, 1, none⟩) (by show w.heap.size ≤ w4.heap.size + 1; omega) _
          have hXb9 := (hob w8.heap.size (by omega) (by omega)).trans (heap_below hba HX9.out hl9)
          have hKb : KidsAt wb wa.heap.size 30 T2.kids (.slice pt T2.kids.length ct) := (hot.keep (w' := wb) fun b o hb ho => (hob b (by have := hb.1; omega) hb.2).trans ho).kids fun b hb => hb.2
          have HKb9 := Lib.hid (HK9.out.past HG9.out (fun b hb hne => (hob b hne (by omega)).trans (hba.block b (by omega))))
          have HOn3 := Lib.hid (only_any 27 T2 _ wa.heap.size wb hft hKb (by omega))
          obtain ⟨f2, f3, ff2, ff3⟩ := cells2 hGa
          have HXb9 := Lib.hid hXb9
          have HGb := Lib.hid hGb
          have HBb := Lib.hid hBb
          have Hwb := Lib.hid hwb
          obtain ⟨r0, r1, r2, r3, r4⟩ := cells5 hXb
          have hsb' : wa.heap.size < wb.heap.size := by omega
          clear hba hot hft hwb hob hXb hGa hGb hBb hXb9 hKb hsb f0 f1
          go_upto_region 17 with fail
          change Code.wp _ _ _ _ (((wa.alloc (.cells #[.int .u8 T2.kind, .string T2.text, .int .i64 T2.num, .int .i64 T2.place, .slice pt T2.kids.length ct] 26)).setCell ⟨w4.heap.size + 1, 0, none⟩ (.int .i64 0)).setCell ⟨w4.heap.size + 1, 1, none⟩ (.int .i64 0))
          rw [← Hwb.out]
          clear f2 f3 ff2 ff3
          go_wp2_with fail
          refine Calls.mono HOn3.out ?_
          rintro e we ⟨hbe, ⟨hx3, _⟩ | ⟨p2, s2, hx3, rfl, hf2, hk2⟩⟩
          · rw [HOn2.out] at hx3; cases hx3
          rw [HOn2.out] at hx3
          have hp2 : p2 = shT 6 p1 := by injection hx3 with hx3; exact hx3.symm
          obtain ⟨pq, lq, cq, rfl⟩ := hk2.shape
          obtain ⟨wf, hwf⟩ : ∃ wf, wf = we.alloc (.cells #[.int .u8 p2.kind, .string p2.text, .int .i64 p2.num, .int .i64 p2.place, .slice pq lq cq] 26) := ⟨_, rfl⟩
          have hbf : Below we.heap.size we wf := by rw [hwf]; exact (Below.refl _ we).alloc (Nat.le_refl _) _
          have hXf : wf.heap[we.heap.size]? = some (.cells #[.int .u8 p2.kind, .string p2.text, .int .i64 p2.num, .int .i64 p2.place, .slice pq lq cq] 26 (0, 0)) := by rw [hwf]; exact heap_alloc_new we _
          have hle : wb.heap.size ≤ we.heap.size := hbe.size
          have hbef := hbe.trans (hbf.mono hbe.size)
          have hlf : we.heap.size < wf.heap.size := (Array.getElem?_eq_some_iff.1 hXf).1
          have HBf := Lib.hid (HBb.out.trans (hbef.mono HBb.out.size))
          have hX12 := heap_below hbef HXb9.out (by omega)
          have hG18 := heap_below hbef HGb.out (by omega)
          have HKp := Lib.hid (HKb9.out.below (hbef.mono (show w6.heap.size ≤ wb.heap.size by omega)))
          have HKq := Lib.hid (hk2.below (hbf.mono (show wa.heap.size ≤ we.heap.size by omega)))
          have HF2 := Lib.hid hf2
          have HP2 := Lib.hid hp2
          have hMv : ∀ (T : Tree) (u : Value) (B : Nat) (W : World), NodeAt W B 27 T u → B ≤ W.heap.size → Trim 27 T → Calls Tryd.prog 6 #[u, .int .i64 6] W (ShPost 27 6 T W) := shN_any 6 (by omega) 27
          have HMv := Lib.hid hMv
          obtain ⟨d0, d1, d2, d3, d4⟩ := cells5 hX12
          obtain ⟨q0, q1, q2, q3, q4⟩ := cells5 hXf
          obtain ⟨g0, g1, _, _⟩ := cells2 hG18
          have D0 := fun x : Wb wf => x.cell d0
          have D1 := fun x : Wb wf => x.cell d1
          have D2 := fun x : Wb wf => x.cell d2
          have D3 := fun x : Wb wf => x.cell d3
          have D4 := fun x : Wb wf => x.cell d4
          have Q0 := fun x : Wb wf => x.cell q0
          have Q1 := fun x : Wb wf => x.cell q1
          have Q2 := fun x : Wb wf => x.cell q2
          have Q3 := fun x : Wb wf => x.cell q3
          have Q4 := fun x : Wb wf => x.cell q4
          have G0 := fun x : Wb wf => x.cell g0
          clear hbe hbf hXf hbef hX12 hG18 hk2 hf2 hp2 hx3 hMv d0 d1 d2 d3 d4 q0 q1 q2 q3 q4 g0 g1 r0 r1 r2 r3 r4
          go_upto_region 18 with fail
          change Code.wp _ _ _ _ (we.alloc (.cells #[.int .u8 p2.kind, .string p2.text, .int .i64 p2.num, .int .i64 p2.place, .slice pq lq cq] 26))
          rw [← hwf]
          clear hwf
          refine RE.wp_region_eff (by kernel_rfl) 12 [9, 10] [9, 10] (fun s W => if s = 0 then W = wf.drew else Below wf.heap.size wf W) (fun W W' => Below W.heap.size W W')
            (fun i xs => if i = 9 then .agg #[.int .u8 p1.kind, .string p1.text, .int .i64 p1.num, .int .i64 (p1.place + 6), xs.getD 0 undef] else .bool true) (fun i W xs => if i = 9 then GotSh wf.heap.size 27 p1 W xs else True) (by kernel_rfl) (fun i h1 h2 => by rw [h1] at h2; cases h2) ?_ rfl ?_
          · intro k W W' xs h _ hg
            split at h
            · rw [if_pos (by assumption)]; exact h.below hg
            · rw [if_neg (by assumption)]; trivial
          simp only [List.take_succ_cons, List.take_zero, List.drop_succ_cons, List.drop_zero, List.length_cons, List.length_nil, Nat.reduceAdd]
          have hcl : ∀ (n s : Nat) (W : World), s ≤ n → (if s = 0 then W = wf.drew else Below wf.heap.size wf W) → ∃ x : Wb wf, W = x.1 := fun n s W _ h => by
            split at h
            · exact ⟨⟨W, by rw [h]; exact (Below.refl _ wf).drew⟩, rfl⟩
            · exact ⟨⟨W, h⟩, rfl⟩
          have HCl := Lib.hid hcl
          clear hcl
          repeat (refine RE.wpE_read (fun W => ∃ x : Wb wf, W = x.1) (HCl.out _) rfl rfl rfl rfl ?_; go_big_quiet_step (fail); refine wpQuiet_nil ?_)
          refine RE.wpE_turn rfl rfl ?_ (fun xs9 => ?_)
          · intro W _ hS _
            obtain rfl : W = wf.drew := hS rfl
            have hbd : Below wf.heap.size wf wf.drew := (Below.refl _ wf).drew
            refine RE.upon_call 6 _ _ rfl (enters_of Tryd.func6 (by kernel_rfl) rfl) #[.agg #[.int .u8 p1.kind, .string p1.text, .int .i64 p1.num, .int .i64 p1.place, .slice p9 l9 c9], .int .i64 6] (by simp [Act.eval])
              ((HMv.out p1 _ w6.heap.size wf.drew ⟨HF1.out, _, rfl, HKp.out.below (hbd.mono (show w6.heap.size ≤ wf.heap.size by omega))⟩ (by show w6.heap.size ≤ wf.heap.size; omega) HTr.out).mono ?_)
            rintro e W' ⟨s, rfl, hb, ho, _⟩
            exact ⟨_, rfl, [s], rfl, hbd.trans hb, hb, ⟨s, rfl, ho⟩⟩
          simp only [Act.put, List.setIfInBounds_toArray, List.set_cons_zero, List.set_cons_succ]
          refine RE.wpE_turn rfl rfl ?_ (fun xs10 => ?_)
          · intro W _ hS hφ
            have hW : Below wf.heap.size wf W := hS rfl
            obtain ⟨s, rfl, ho⟩ : GotSh wf.heap.size 27 p1 W xs9 := hφ 9 xs9 (by kernel_rfl) rfl
            have hWs := hW.size
            have n1 : NodeAt W W.heap.size 27 p2 (.agg #[.int .u8 p2.kind, .string p2.text, .int .i64 p2.num, .int .i64 p2.place, .slice pq lq cq]) := ⟨HF2.out, _, rfl, (HKq.out.below (hW.mono (show wa.heap.size ≤ wf.heap.size by omega))).up (by omega)⟩
            have n2 : NodeAt W W.heap.size 27 p2 (.agg #[.int .u8 p1.kind, .string p1.text, .int .i64 p1.num, .int .i64 (p1.place + 6), s]) := by
              obtain ⟨e1, e2, e3, e4, e5⟩ := shT_parts 6 p1
              refine ⟨HF2.out, s, ?_, ?_⟩
              · rw [HP2.out, e1, e2, e3, e4]; rfl
              · rw [HP2.out, e5]; exact ho.kids fun b hb => hb.2
            refine RE.upon_call 9 _ _ rfl (enters_of Tryd.func9 (by kernel_rfl) rfl) #[.agg #[.int .u8 p2.kind, .string p2.text, .int .i64 p2.num, .int .i64 p2.place, .slice pq lq cq], .agg #[.int .u8 p1.kind, .string p1.text, .int .i64 p1.num, .int .i64 (p1.place + 6), s]] (by simp [Act.eval])
              ((sameNode_of 27 (sameNodes_holds 27) p2 _ _ W.heap.size W.heap.size W n1 n2 (Nat.le_refl _) (Nat.le_refl _)).mono ?_)
            rintro e W' ⟨rfl, hb⟩
            exact ⟨_, rfl, [], rfl, hW.trans (hb.mono hWs), hb, trivial⟩
          simp only [Act.put, List.setIfInBounds_toArray, List.set_cons_zero, List.set_cons_succ]
          repeat (refine RE.wpE_read (fun W => ∃ x : Wb wf, W = x.1) (HCl.out _) rfl rfl rfl rfl ?_; go_big_quiet_step (fail); refine wpQuiet_nil ?_)
          refine RE.wpE_nil ?_
          intro W3 hS hE
          have hW3 : Below wf.heap.size wf W3 := hS
          have HB3 := Lib.hid (HBf.out.trans (hW3.mono HBf.out.size))
          clear hS hE hW3
          go_wp2_with fail
          go_ret
          exact ⟨rfl, HB3.out⟩
end Go.Proofs.YtgifapamogbkeaaDoor
