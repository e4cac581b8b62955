/- The statements' own nodes of chapter 07: of, two, says, shown; by contract; as operations of a region. Condition: the library's tables lie as laid. -/
import Derived.Test.YtoekldhdojpceaaGreatDoorSSB
import Derived.Test.YtoekldhdojpceaaGreatDoorSN
namespace Go.Proofs.YtoekldhdojpceaaGreatDoor
open Go.RowKit

theorem cell_ret {f : Func} {slot : Nat} (hr : f.results = #[.cell slot 25]) (W : World) (Rp : Ending → World → Prop) (T : Nat) (a b c d e : Value) (hT : W.heap[T]? = some (.cells #[a, b, c, d, e] 25 (0, 0)))
    (tmps : Array Value) (h4 : tmps.getD slot undef = .pointer (some ⟨T, 0, none⟩)) (hR : Rp (.returned (.agg #[a, b, c, d, e])) W) : bodyPost Tryz.prog f Rp .ret ⟨tmps, []⟩ W := by
  obtain ⟨c0, c1, c2, c3, c4⟩ := cells5 hT
  have h4' : tmps[slot]?.getD undef = .pointer (some ⟨T, 0, none⟩) := by simpa using h4
  refine bodyPost_ret (v := .agg #[a, b, c, d, e]) ?_ rfl hR
  simp [results, hr, go_sem, h4', c0, c1, c2, c3, c4]
theorem law7of_any (k : Nat) (t : ByteArray) (p : Option Addr) (n c : Nat) (w : World) :
    Calls Tryz.prog 24 #[.int .u8 k, .string t, .slice p n c] w fun e w' => e = .returned (.agg #[.int .u8 k, .string t, .int .i64 0, .int .i64 0, .slice p n c]) ∧ Below w.heap.size w w' := by
  go_enter Tryz.func24, Tryz.ntmps24
  go_wp2_with fail
  exact cell_ret Tryz.results24 _ _ w.heap.size _ _ _ _ _ (heap_alloc_new w _) _ rfl ⟨rfl, (Below.refl _ w).alloc (Nat.le_refl _) _⟩
/-- what a call that makes a node leaves -/
def MadeN (d : Nat) (T : Tree) (w : World) (e : Ending) (w' : World) : Prop := ∃ v, e = .returned v ∧ Below w.heap.size w w' ∧ NodeAt w' w'.heap.size d T v
theorem made_fin {w W : World} {g d : Nat} {T : Tree} {s : Value} (hz : W.heap[g]? = some (.cells zeroNode 25 (0, 0))) (hf : Fits T) (hk : KidsAt W W.heap.size d T.kids s) (hkb : kindsB d T.kids = true) (hb : Below w.heap.size w W) (hg : w.heap.size ≤ g) :
    MadeN d T w (.returned (.agg #[.int .u8 T.kind, .string T.text, .int .i64 T.num, .int .i64 T.place, s])) (storeNode W g (.int .u8 T.kind) (.string T.text) (.int .i64 T.num) (.int .i64 T.place) s) := by
  refine ⟨_, rfl, storeNode_below hb hg _ _ _ _ _, hf, _, rfl, ?_⟩
  rw [storeNode_size]
  exact KidsAt.stored hz (fun b hb => storeNode_other _ _ _ _ _ b hb) hkb hk
theorem law7two_any (d : Nat) (t : ByteArray) (T U : Tree) (u v : Value) (w : World) (hu : NodeAt w w.heap.size d T u) (hv : NodeAt w w.heap.size d U v) (hkb : kindsB (d + 1) [T, U] = true) (ht : t.size ≤ 1000) :
    Calls Tryz.prog 25 #[.string t, u, v] w (MadeN (d + 1) (.mk 16 t 0 0 [T, U]) w) := by
  have HU := Lib.hid hu
  have HV := Lib.hid hv
  obtain ⟨hf, s, rfl, hk⟩ := hu
  obtain ⟨p, n, c, rfl⟩ := hk.shape
  obtain ⟨hf2, s2, rfl, hk2⟩ := hv
  obtain ⟨p2, n2, c2, rfl⟩ := hk2.shape
  obtain ⟨w3, hw3⟩ : ∃ w3, w3 = ((w.alloc (.cells #[.int .u8 T.kind, .string T.text, .int .i64 T.num, .int .i64 T.place, .slice p n c] 25)).alloc (.cells #[.int .u8 U.kind, .string U.text, .int .i64 U.num, .int .i64 U.place, .slice p2 n2 c2] 25)).alloc (.cells #[.int .u8 0, .string ⟨#[]⟩, .int .i64 0, .int .i64 0, .slice none 0 0] 25) := ⟨_, rfl⟩
  obtain ⟨X0, X1, XB⟩ := heap_two w (.cells #[.int .u8 T.kind, .string T.text, .int .i64 T.num, .int .i64 T.place, .slice p n c] 25) (.cells #[.int .u8 U.kind, .string U.text, .int .i64 U.num, .int .i64 U.place, .slice p2 n2 c2] 25)
  have hsz2 : ((w.alloc (.cells #[.int .u8 T.kind, .string T.text, .int .i64 T.num, .int .i64 T.place, .slice p n c] 25)).alloc (.cells #[.int .u8 U.kind, .string U.text, .int .i64 U.num, .int .i64 U.place, .slice p2 n2 c2] 25)).heap.size = w.heap.size + 1 + 1 := by simp
  have hsz3 : w3.heap.size = w.heap.size + 1 + 1 + 1 := by rw [hw3]; simp
  have hb3 : Below w.heap.size w w3 := by rw [hw3]; exact XB.alloc (by rw [hsz2]; omega) _
  have HX0 : Hid (w3.heap[w.heap.size]? = some (.cells #[.int .u8 T.kind, .string T.text, .int .i64 T.num, .int .i64 T.place, .slice p n c] 25 (0, 0))) := by show _ = _; rw [hw3]; exact (Below.heap_alloc _ _ _ (by rw [hsz2]; omega)).trans X0
  have HX1 : Hid (w3.heap[w.heap.size + 1]? = some (.cells #[.int .u8 U.kind, .string U.text, .int .i64 U.num, .int .i64 U.place, .slice p2 n2 c2] 25 (0, 0))) := by show _ = _; rw [hw3]; exact (Below.heap_alloc _ _ _ (by rw [hsz2]; omega)).trans X1
  have HX2 : Hid (w3.heap[w.heap.size + 1 + 1]? = some (.cells zeroNode 25 (0, 0))) := by
    show _ = _
    rw [hw3, ← hsz2]
    exact heap_alloc_new _ _
  have hkl := kids_lit w3 d [T, U] [.slice p n c, .slice p2 n2 c2] rfl (by simp) (nodeCells T (.slice p n c) ++ nodeCells U (.slice p2 n2 c2)).toArray (by simp) 2 rfl (fun i T' s' hT hs => by
    match i with
    | 0 =>
      simp only [List.getElem?_cons_zero, Option.some.injEq] at hT hs
      subst hT; subst hs
      exact ⟨hf, (hk.below hb3).up hb3.size⟩
    | 1 =>
      simp only [List.getElem?_cons_succ, List.getElem?_cons_zero, Option.some.injEq] at hT hs
      subst hT; subst hs
      exact ⟨hf2, (hk2.below hb3).up hb3.size⟩
    | i + 2 => simp at hT)
  obtain ⟨w4, hw4⟩ : ∃ w4, w4 = w3.alloc (.cells (nodeCells T (.slice p n c) ++ nodeCells U (.slice p2 n2 c2)).toArray 25) := ⟨_, rfl⟩
  have hsz4 : w4.heap.size = w3.heap.size + 1 := by rw [hw4]; simp
  have hb34 : Below w3.heap.size w3 w4 := by rw [hw4]; exact (Below.refl _ w3).alloc (Nat.le_refl _) _
  rw [← hw4, ← hsz4] at hkl
  have HK := Lib.hid hkl
  have HB3 := Lib.hid hb3
  have HB34 := Lib.hid hb34
  have HKB := Lib.hid hkb
  have HC := Lib.hid (law7of_any 16 t (some ⟨w3.heap.size, 0, none⟩) 2 2 w4)
  have HF : Hid (Fits (.mk 16 t 0 0 [T, U])) := fits_lit 16 t [T, U] (by simp [ht])
  clear hkl hb3 hb34 hkb hk hk2 hf hf2 X0 X1 XB hsz2 hsz4 HU HV
  go_enter Tryz.func25, Tryz.ntmps25
  go_upto_region 1 with fail
  change Code.wp _ _ _ _ (((w.alloc (.cells #[.int .u8 T.kind, .string T.text, .int .i64 T.num, .int .i64 T.place, .slice p n c] 25)).alloc (.cells #[.int .u8 U.kind, .string U.text, .int .i64 U.num, .int .i64 U.place, .slice p2 n2 c2] 25)).alloc (.cells #[.int .u8 0, .string ⟨#[]⟩, .int .i64 0, .int .i64 0, .slice none 0 0] 25))
  rw [← hw3]
  clear hw3
  obtain ⟨x0, x1, x2, x3, x4⟩ := cells5 HX0.out
  obtain ⟨y0, y1, y2, y3, y4⟩ := cells5 HX1.out
  have HS3 := Lib.hid hsz3
  clear hsz3
  go_wp2_with fail
  change Calls _ _ _ (w3.alloc (.cells (nodeCells T (.slice p n c) ++ nodeCells U (.slice p2 n2 c2)).toArray 25)) _
  rw [← hw4]
  refine Calls.mono HC.out ?_
  rintro e w5 ⟨rfl, hb5⟩
  have hb35 := HB34.out.trans (hb5.mono HB34.out.size)
  have HZ := Lib.hid (heap_below hb35 HX2.out (Array.getElem?_eq_some_iff.1 HX2.out).1)
  have HK5 := Lib.hid ((HK.out.below hb5).up hb5.size)
  have HB5 := Lib.hid (HB3.out.trans (hb35.mono HB3.out.size))
  clear hb35 hb5 x0 x1 x2 x3 x4 y0 y1 y2 y3 y4 hw4
  obtain ⟨z0, z1, z2, z3, z4⟩ := cells5 HZ.out
  have q0 := frozen5 HZ.out 0
  have q1 := frozen5 HZ.out 1
  have q2 := frozen5 HZ.out 2
  have q3 := frozen5 HZ.out 3
  have q4 := frozen5 HZ.out 4
  go_wp2_with fail
  refine cell_ret Tryz.results25 _ _ (w.heap.size + 1 + 1) _ _ _ _ _ (storeNode_at HZ.out _ _ _ _ _) _ rfl ?_
  exact made_fin (T := .mk 16 t 0 0 [T, U]) (d := d + 1) HZ.out HF.out HK5.out HKB.out HB5.out (by omega)
/-- a program of a rule that says an expression -/
def saysT (x : Tree) : Tree := .mk 1 ⟨#[]⟩ 0 0 [.mk 4 ⟨#[114]⟩ 0 0 [.mk 10 ⟨#[]⟩ 0 0 [x]]]
/-- one kid more around -/
theorem kid_one {w W : World} {d : Nat} {T : Tree} {p : Option Addr} {n c : Nat} (hf : Fits T) (hk : KidsAt W W.heap.size d T.kids (.slice p n c)) (hb : Below w.heap.size w W) :
    ∃ W2, W2 = W.alloc (.cells #[.int .u8 T.kind, .string T.text, .int .i64 T.num, .int .i64 T.place, .slice p n c] 25) ∧ KidsAt W2 W2.heap.size (d + 1) [T] (.slice (some ⟨W.heap.size, 0, none⟩) 1 1) ∧ Below w.heap.size w W2 ∧ Below W.heap.size W W2 := by
  have h := kids_lit W d [T] [.slice p n c] rfl (by simp) (nodeCells T (.slice p n c)).toArray (by simp) 1 rfl (fun i T' s' hT hs => by
    match i with
    | 0 =>
      simp only [List.getElem?_cons_zero, Option.some.injEq] at hT hs
      subst hT; subst hs
      exact ⟨hf, hk⟩
    | i + 1 => simp at hT)
  refine ⟨_, rfl, ?_, hb.alloc hb.size _, (Below.refl _ W).alloc (Nat.le_refl _) _⟩
  rw [World.size_alloc]
  exact h
set_option maxHeartbeats 1000000 in
theorem law7says_any (d : Nat) (T : Tree) (u : Value) (w : World) (hu : NodeAt w w.heap.size d T u) (hkb : kindsB (d + 3) (saysT T).kids = true) :
    Calls Tryz.prog 27 #[u] w (MadeN (d + 3) (saysT T) w) := by
  obtain ⟨hf, s, rfl, hk⟩ := hu
  obtain ⟨p, n, c, rfl⟩ := hk.shape
  obtain ⟨w2, hw2⟩ : ∃ w2, w2 = (w.alloc (.cells #[.int .u8 T.kind, .string T.text, .int .i64 T.num, .int .i64 T.place, .slice p n c] 25)).alloc (.cells #[.int .u8 0, .string ⟨#[]⟩, .int .i64 0, .int .i64 0, .slice none 0 0] 25) := ⟨_, rfl⟩
  obtain ⟨X0, X1, XB⟩ := heap_two w (.cells #[.int .u8 T.kind, .string T.text, .int .i64 T.num, .int .i64 T.place, .slice p n c] 25) (.cells #[.int .u8 0, .string ⟨#[]⟩, .int .i64 0, .int .i64 0, .slice none 0 0] 25)
  rw [← hw2] at X0 X1 XB
  obtain ⟨w3, hw3, hk3, hb3, hb23⟩ := kid_one hf ((hk.below XB).up XB.size) XB
  have HX0 := Lib.hid X0
  have HX1 : Hid (w2.heap[w.heap.size + 1]? = some (.cells zeroNode 25 (0, 0))) := X1
  have HK3 := Lib.hid hk3
  have HB3 := Lib.hid hb3
  have HB23 := Lib.hid hb23
  have HKB := Lib.hid hkb
  clear X0 X1 XB hk3 hb3 hb23 hk hf hkb
  go_enter Tryz.func27, Tryz.ntmps27
  go_upto_region 1 with fail
  change Code.wp _ _ _ _ ((w.alloc (.cells #[.int .u8 T.kind, .string T.text, .int .i64 T.num, .int .i64 T.place, .slice p n c] 25)).alloc (.cells #[.int .u8 0, .string ⟨#[]⟩, .int .i64 0, .int .i64 0, .slice none 0 0] 25))
  rw [← hw2]
  clear hw2
  obtain ⟨x0, x1, x2, x3, x4⟩ := cells5 HX0.out
  go_wp2_with fail
  change Calls _ _ _ (w2.alloc (.cells #[.int .u8 T.kind, .string T.text, .int .i64 T.num, .int .i64 T.place, .slice p n c] 25)) _
  rw [← hw3]
  refine Calls.mono (law7of_any 10 ⟨#[]⟩ (some ⟨w2.heap.size, 0, none⟩) 1 1 w3) ?_
  rintro e w4 ⟨rfl, hb4⟩
  clear x0 x1 x2 x3 x4 hw3
  obtain ⟨w5, hw5, hk5, hb5, hb45⟩ := kid_one (T := .mk 10 ⟨#[]⟩ 0 0 [T]) (fits_lit 10 ⟨#[]⟩ [T] rfl) ((HK3.out.below hb4).up hb4.size) (HB3.out.trans (hb4.mono HB3.out.size))
  have HK5 := Lib.hid hk5
  have HB5 := Lib.hid hb5
  have HB25 := Lib.hid (HB23.out.trans ((hb4.trans (hb45.mono hb4.size)).mono HB23.out.size))
  clear hk5 hb5 hb45 hb4
  go_wp2_with fail
  change Calls _ _ _ (w4.alloc (.cells #[.int .u8 10, .string ⟨#[]⟩, .int .i64 0, .int .i64 0, .slice (some ⟨w2.heap.size, 0, none⟩) 1 1] 25)) _
  rw [show w4.alloc (.cells #[.int .u8 10, .string ⟨#[]⟩, .int .i64 0, .int .i64 0, .slice (some ⟨w2.heap.size, 0, none⟩) 1 1] 25) = w5 from hw5.symm]
  refine Calls.mono (law7of_any 4 ⟨#[114]⟩ (some ⟨w4.heap.size, 0, none⟩) 1 1 w5) ?_
  rintro e w6 ⟨rfl, hb6⟩
  clear hw5
  obtain ⟨w7, hw7, hk7, hb7, hb67⟩ := kid_one (T := .mk 4 ⟨#[114]⟩ 0 0 [.mk 10 ⟨#[]⟩ 0 0 [T]]) (fits_lit 4 ⟨#[114]⟩ _ rfl) ((HK5.out.below hb6).up hb6.size) (HB5.out.trans (hb6.mono HB5.out.size))
  have HK7 := Lib.hid hk7
  have HB7 := Lib.hid hb7
  have HB27 := Lib.hid (HB25.out.trans ((hb6.trans (hb67.mono hb6.size)).mono HB25.out.size))
  clear hk7 hb7 hb67 hb6
  go_wp2_with fail
  change Calls _ _ _ (w6.alloc (.cells #[.int .u8 4, .string ⟨#[114]⟩, .int .i64 0, .int .i64 0, .slice (some ⟨w4.heap.size, 0, none⟩) 1 1] 25)) _
  rw [show w6.alloc (.cells #[.int .u8 4, .string ⟨#[114]⟩, .int .i64 0, .int .i64 0, .slice (some ⟨w4.heap.size, 0, none⟩) 1 1] 25) = w7 from hw7.symm]
  refine Calls.mono (law7of_any 1 ⟨#[]⟩ (some ⟨w6.heap.size, 0, none⟩) 1 1 w7) ?_
  rintro e w8 ⟨rfl, hb8⟩
  clear hw7
  have hb28 := HB27.out.trans (hb8.mono HB27.out.size)
  have HZ := Lib.hid (heap_below hb28 HX1.out (Array.getElem?_eq_some_iff.1 HX1.out).1)
  have HK8 := Lib.hid ((HK7.out.below hb8).up hb8.size)
  have HB8 := Lib.hid (HB7.out.trans (hb8.mono HB7.out.size))
  clear hb28 hb8
  obtain ⟨z0, z1, z2, z3, z4⟩ := cells5 HZ.out
  have q0 := frozen5 HZ.out 0
  have q1 := frozen5 HZ.out 1
  have q2 := frozen5 HZ.out 2
  have q3 := frozen5 HZ.out 3
  have q4 := frozen5 HZ.out 4
  go_wp2_with fail
  refine cell_ret Tryz.results27 _ _ (w.heap.size + 1) _ _ _ _ _ (storeNode_at HZ.out _ _ _ _ _) _ rfl ?_
  exact made_fin (T := saysT T) (d := d + 3) HZ.out (fits_lit 1 ⟨#[]⟩ _ rfl) HK8.out HKB.out HB8.out (by omega)
set_option maxHeartbeats 1000000 in
theorem law7shown_any (d : Nat) (T : Tree) (u : Value) (want : ByteArray) (w : World) (hu : NodeAt w w.heap.size (d + 3) T u) (hs : Slim (d + 3) T) (hw : showM d T = (want, 0)) (ha : AsciiTab w) (ht : Lib.TabIs Tryz.prog w "internal/strconv.uint64pow10" .u64 Lib.pow10Tab) :
    Calls Tryz.prog 53 #[u, .string want] w (BoolPost true w) := by
  have HU := Lib.hid hu
  obtain ⟨hf, s, rfl, hk⟩ := hu
  obtain ⟨p, n, c, rfl⟩ := hk.shape
  obtain ⟨w0, hw0⟩ : ∃ w0, w0 = w.alloc (.cells #[.int .u8 T.kind, .string T.text, .int .i64 T.num, .int .i64 T.place, .slice p n c] 25) := ⟨_, rfl⟩
  have hb0 : Below w.heap.size w w0 := by rw [hw0]; exact (Below.refl _ w).alloc (Nat.le_refl _) _
  have HX0 : Hid (w0.heap[w.heap.size]? = some (.cells #[.int .u8 T.kind, .string T.text, .int .i64 T.num, .int .i64 T.place, .slice p n c] 25 (0, 0))) := by show _ = _; rw [hw0]; exact heap_alloc_new w _
  have HC := Lib.hid (sprog_any d T _ w.heap.size w0 (HU.out.below hb0) hb0.size hs (ha.below hb0) ((pow_here ht) w0 hb0))
  rw [hw] at HC
  have HB0 := Lib.hid hb0
  clear hb0 hk hf hw ha ht
  go_enter Tryz.func53, Tryz.ntmps53
  go_upto_region 1 with fail
  change Code.wp _ _ _ _ (w.alloc (.cells #[.int .u8 T.kind, .string T.text, .int .i64 T.num, .int .i64 T.place, .slice p n c] 25))
  rw [← hw0]
  clear hw0
  obtain ⟨x0, x1, x2, x3, x4⟩ := cells5 HX0.out
  go_wp2_with fail
  refine Calls.mono HC.out ?_
  rintro e w1 ⟨rfl, hb1⟩
  have HB1 := Lib.hid (HB0.out.trans (hb1.mono HB0.out.size))
  clear hb1
  go_wp2_with fail
  go_ret
  exact ⟨by simp, HB1.out⟩
section
variable {l : List Oper} {a0 : Act} {w0 : World} {ty : Nat → RTy} {i : Nat} {o : Oper}
theorem opW_of (k : Nat) (t : ByteArray) (x : Operand) (tys : Array TypeId) (d : Nat) (Ts : List Tree) (ho : o.op = .call { callee := .value (.func 24), args := #[.const (.int .u8 k), .const (.string t), x], argTypes := tys })
    (hx : KidsOp l o ty x d Ts) (hf : (decide (k < 256) && decide (t.size ≤ 1000)) = true) (hty : ty i = .node d (.mk k t 0 0 Ts)) : OpTy l a0 w0 ty i o := by
  intro a W Q' _ _ hv
  have hk := hx.has hv
  obtain ⟨p, n, c, hs⟩ := hk.shape
  rw [hs] at hk
  refine step_call 24 _ tys ho #[.int .u8 k, .string t, .slice p n c] (by rw [← hs]; simp [Act.eval]) (enters_of Tryz.func24 (by kernel_rfl) rfl) ?_
  refine (law7of_any k t p n c W).mono ?_
  rintro e W' ⟨rfl, hb⟩
  refine ⟨_, rfl, _, rfl, hb, ?_⟩
  rw [hty]
  exact ⟨fits_lit k t Ts hf, _, rfl, (hk.below hb).up hb.size⟩
theorem opW_two (t : ByteArray) (x y : Operand) (tys : Array TypeId) (d dx dy : Nat) (T U : Tree) (ho : o.op = .call { callee := .value (.func 25), args := #[.const (.string t), x, y], argTypes := tys })
    (hx : Waits l o ty x (.node dx T)) (hy : Waits l o ty y (.node dy U)) (hdx : dx ≤ d) (hdy : dy ≤ d) (ht : decide (t.size ≤ 1000) = true) (hkb : kindsB (d + 1) [T, U] = true) (hty : ty i = .node (d + 1) (.mk 16 t 0 0 [T, U])) : OpTy l a0 w0 ty i o := by
  intro a W Q' _ _ hv
  have h1 : NodeAt W W.heap.size dx T (a.eval x) := hx.has hv
  have h2 : NodeAt W W.heap.size dy U (a.eval y) := hy.has hv
  refine step_call 25 _ tys ho #[.string t, a.eval x, a.eval y] (by simp [Act.eval]) (enters_of Tryz.func25 (by kernel_rfl) rfl) ?_
  refine (law7two_any d t T U _ _ W (h1.deeper hdx) (h2.deeper hdy) hkb (of_decide_eq_true ht)).mono ?_
  rintro e W' ⟨v, rfl, hb, hn⟩
  exact ⟨_, rfl, _, rfl, hb, by rw [hty]; exact hn⟩
theorem opW_says (x : Operand) (tys : Array TypeId) (d : Nat) (T : Tree) (ho : o.op = .call { callee := .value (.func 27), args := #[x], argTypes := tys })
    (hx : Waits l o ty x (.node d T)) (hkb : kindsB (d + 3) (saysT T).kids = true) (hty : ty i = .node (d + 3) (saysT T)) : OpTy l a0 w0 ty i o := by
  intro a W Q' _ _ hv
  have h1 : NodeAt W W.heap.size d T (a.eval x) := hx.has hv
  refine step_call 27 _ tys ho #[a.eval x] (by simp [Act.eval]) (enters_of Tryz.func27 (by kernel_rfl) rfl) ?_
  refine (law7says_any d T _ W h1 hkb).mono ?_
  rintro e W' ⟨v, rfl, hb, hn⟩
  exact ⟨_, rfl, _, rfl, hb, by rw [hty]; exact hn⟩
theorem opW_shown (x y : Operand) (tys : Array TypeId) (d : Nat) (T : Tree) (want : ByteArray) (ho : o.op = .call { callee := .value (.func 53), args := #[x, y], argTypes := tys }) (ha : AsciiTab w0) (ht : PowTab w0.heap.size w0)
    (hx : Waits l o ty x (.node (d + 3) T)) (hy : y = .const (.string want) ∨ Waits l o ty y (.val (.string want))) (hs : slimB (d + 3) T = true) (hw : showM d T = (want, 0)) (hty : ty i = .val (.bool true)) : OpTy l a0 w0 ty i o := by
  intro a W Q' hb0 _ hv
  have h1 : NodeAt W W.heap.size (d + 3) T (a.eval x) := hx.has hv
  have h2 : a.eval y = .string want := by
    rcases hy with rfl | hy
    · rfl
    · exact hy.val hv
  refine step_call 53 _ tys ho #[a.eval x, .string want] (by rw [← h2]; simp) (enters_of Tryz.func53 (by kernel_rfl) rfl) ?_
  refine (law7shown_any d T _ want W h1 (slim_of_b _ T hs) hw (ha.below hb0) (ht W hb0)).mono ?_
  rintro e W' ⟨rfl, hb⟩
  exact ⟨_, rfl, _, rfl, hb, by rw [hty]; rfl⟩
/-- a slot that was there -/
theorem opW_old (t : Nat) (u : Value) (ho : o.op = .move (.tmp t)) (hold : (l.all fun o' => decide (o'.dst ≠ some t)) = true) (hp : a0.tmps.getD t undef = u) (hty : ty i = .val u) : OpTy l a0 w0 ty i o := by
  intro a W Q' _ hold' _
  have h : a.eval (.tmp t) = u := by
    show a.tmps.getD t undef = _
    rw [hold' t (fun j o' hj => by
      have := List.all_eq_true.1 hold o' (List.mem_of_getElem? hj)
      simpa using this), hp]
  have hrun : (execOp a.eval o).run Tryz.prog W = .ok (.value u) W := by
    unfold execOp
    simp only [ho, h]
    rfl
  unfold Oper.wp
  rw [hrun, Oper.upon_value]
  exact ⟨_, rfl, Below.refl _ _, by rw [hty]; rfl⟩
end
end Go.Proofs.YtoekldhdojpceaaGreatDoor
