/- Several texts joined, each with its own sentence and conditions ahead of it: AwkC, RegTw, AwkD. -/
import Derived.Test.YtfpohaipmnjflaaGreatDoorMM
import Derived.Test.YtfpohaipmnjflaaGreatDoorML
/- The statements' program with a node of each kind; by contract. No condition. -/
namespace Go.Proofs.YtfpohaipmnjflaaGreatDoor
open Go.RowKit

def numT (t : ByteArray) : Tree := .mk 14 t 0 0 []
def xT : Tree := .mk 13 ⟨#[120]⟩ 0 0 []
def bT : Tree := .mk 15 ⟨#[114, 117, 108, 101]⟩ 0 0 []
def minusT : Tree := .mk 16 ⟨#[45]⟩ 0 0 [numT ⟨#[48, 55]⟩]
def notT : Tree := .mk 16 ⟨#[110, 111, 116]⟩ 0 0 [xT]
def sumT : Tree := .mk 16 ⟨#[43]⟩ 0 0 [minusT, notT]
def anyT : Tree := .mk 12 ⟨#[]⟩ 0 0 []
def factT : Tree := .mk 5 ⟨#[104, 105, 118, 101]⟩ 0 0 [anyT, xT, numT ⟨#[45, 53]⟩, bT]
def noneT : Tree := .mk 6 ⟨#[104, 105, 118, 101]⟩ 0 0 []
def leT : Tree := .mk 16 ⟨#[60, 61]⟩ 0 0 [xT, sumT]
def testT : Tree := .mk 7 ⟨#[]⟩ 0 0 [leT]
def assertT : Tree := .mk 8 ⟨#[104, 105, 118, 101]⟩ 0 0 [sumT, bT]
def retractT : Tree := .mk 9 ⟨#[]⟩ 0 0 []
def sayT : Tree := .mk 10 ⟨#[]⟩ 0 0 [numT ⟨#[57, 50, 50, 51, 51, 55, 50, 48, 51, 54, 56, 53, 52, 55, 55, 53, 56, 48, 55]⟩]
def haltT : Tree := .mk 11 ⟨#[]⟩ 0 0 []
def ruleK : List Tree := [factT, noneT, testT, assertT, retractT, sayT, haltT]
def ruleT : Tree := .mk 4 ⟨#[114]⟩ 0 0 ruleK
def allT : Tree := .mk 4 ⟨#[114]⟩ (-7) 0 ruleK
def fieldA : Tree := .mk 3 ⟨#[97]⟩ 0 0 []
def fieldB : Tree := .mk 3 ⟨#[98]⟩ 0 0 []
def typeT : Tree := .mk 2 ⟨#[104, 105, 118, 101]⟩ 0 0 [fieldA, fieldB]
def lastT : Tree := .mk 4 ⟨#[110, 111, 110, 101]⟩ 0 0 []
def fullT : Tree := .mk 1 ⟨#[]⟩ 0 0 [typeT, allT, lastT]
def ty2 : Nat → RTy
  | 0 => .node 0 (numT ⟨#[48, 55]⟩)
  | 1 => .kids 1 [(numT ⟨#[48, 55]⟩)]
  | 2 => .node 1 minusT
  | 3 => .node 0 xT
  | 4 => .kids 1 [xT]
  | 5 => .node 1 notT
  | 6 => .kids 2 [minusT, notT]
  | 7 => .node 2 sumT
  | 8 => .box
  | _ => .raw
def ty3 : Nat → RTy
  | 0 => .node 0 anyT
  | 1 => .node 0 xT
  | 2 => .node 0 (numT ⟨#[45, 53]⟩)
  | 3 => .node 0 bT
  | 4 => .kids 1 [anyT, xT, (numT ⟨#[45, 53]⟩), bT]
  | 5 => .node 1 factT
  | 6 => .node 0 noneT
  | 7 => .node 0 xT
  | 8 => .node 2 sumT
  | 9 => .kids 3 [xT, sumT]
  | 10 => .node 3 leT
  | 11 => .kids 4 [leT]
  | 12 => .node 4 testT
  | 13 => .node 2 sumT
  | 14 => .node 0 bT
  | 15 => .kids 3 [sumT, bT]
  | 16 => .node 3 assertT
  | 17 => .node 0 retractT
  | 18 => .node 0 (numT ⟨#[57, 50, 50, 51, 51, 55, 50, 48, 51, 54, 56, 53, 52, 55, 55, 53, 56, 48, 55]⟩)
  | 19 => .kids 1 [(numT ⟨#[57, 50, 50, 51, 51, 55, 50, 48, 51, 54, 56, 53, 52, 55, 55, 53, 56, 48, 55]⟩)]
  | 20 => .node 1 sayT
  | 21 => .node 0 haltT
  | 22 => .kids 5 [factT, noneT, testT, assertT, retractT, sayT, haltT]
  | 23 => .node 5 ruleT
  | 24 => .box
  | _ => .raw
def ty5 : Nat → RTy
  | 0 => .node 0 fieldA
  | 1 => .node 0 fieldB
  | 2 => .kids 1 [fieldA, fieldB]
  | 3 => .node 1 typeT
  | 4 => .node 5 allT
  | 5 => .node 0 lastT
  | 6 => .kids 6 [typeT, allT, lastT]
  | 7 => .node 6 fullT
  | _ => .raw
/-- a box of nodes that was there -/
def BoxAt (w : World) (g d : Nat) (T : Tree) : Prop := ∃ s, w.heap[g]? = some (.cells (nodeCells T s).toArray 25 (0, 0)) ∧ NodeAt w w.heap.size d T (.agg (nodeCells T s).toArray)
theorem BoxAt.below {w w' : World} {g d : Nat} {T : Tree} (h : BoxAt w g d T) (hb : Below w.heap.size w w') : BoxAt w' g d T := by
  obtain ⟨s, h1, h2⟩ := h
  exact ⟨s, heap_below hb h1 (Array.getElem?_eq_some_iff.1 h1).1, (h2.below hb).up hb.size⟩
theorem BoxAt.lt {w : World} {g d : Nat} {T : Tree} (h : BoxAt w g d T) : g < w.heap.size := by
  obtain ⟨s, h1, _⟩ := h
  exact (Array.getElem?_eq_some_iff.1 h1).1
theorem box_stored {W : World} {g d : Nat} {T : Tree} {s : Value} (hz : W.heap[g]? = some (.cells zeroNode 25 (0, 0))) (hf : Fits T) (hk : KidsAt W W.heap.size d T.kids s) (hkb : kindsB d T.kids = true) :
    BoxAt (storeNode W g (.int .u8 T.kind) (.string T.text) (.int .i64 T.num) (.int .i64 T.place) s) g d T := by
  refine ⟨s, storeNode_at hz _ _ _ _ _, hf, _, rfl, ?_⟩
  rw [storeNode_size]
  exact KidsAt.stored hz (fun b hb => storeNode_other _ _ _ _ _ b hb) hkb hk
theorem BoxAt.stored {W : World} {g g' d : Nat} {T : Tree} (h : BoxAt W g' d T) (hz : W.heap[g]? = some (.cells zeroNode 25 (0, 0))) (hne : g' ≠ g) (hkb : kindsB d T.kids = true) (a b c e f : Value) : BoxAt (storeNode W g a b c e f) g' d T := by
  obtain ⟨s, h1, hf, s', h2, hk⟩ := h
  refine ⟨s, (storeNode_other _ _ _ _ _ _ hne).trans h1, hf, s', h2, ?_⟩
  rw [storeNode_size]
  exact KidsAt.stored hz (fun b hb => storeNode_other _ _ _ _ _ b hb) hkb hk
theorem box_gen {W W' : World} {g d : Nat} {T : Tree} {s : Value} (hz : W.heap[g]? = some (.cells zeroNode 25 (0, 0))) (hf : Fits T) (hk : KidsAt W W.heap.size d T.kids s) (hkb : kindsB d T.kids = true) (ho : ∀ b, b ≠ g → W'.heap[b]? = W.heap[b]?) (hs : W'.heap.size = W.heap.size)
    (hg : W'.heap[g]? = some (.cells (nodeCells T s).toArray 25 (0, 0))) : BoxAt W' g d T := by
  refine ⟨s, hg, hf, _, rfl, ?_⟩
  rw [hs]
  exact KidsAt.stored hz ho hkb hk
theorem cons_of_len {n : Nat} {L : List Value} (h : L.length = n + 1) : ∃ x L', L = x :: L' ∧ L'.length = n := by
  cases L with
  | nil => simp at h
  | cons x L => exact ⟨x, L, rfl, by simpa using h⟩
theorem frame48 (a : Act) (h : a.tmps.size = 48) (hd : a.defers = []) : ∃ y0 y1 y2 y3 y4 y5 y6 y7 y8 y9 y10 y11 y12 y13 y14 y15 y16 y17 y18 y19 y20 y21 y22 y23 y24 y25 y26 y27 y28 y29 y30 y31 y32 y33 y34 y35 y36 y37 y38 y39 y40 y41 y42 y43 y44 y45 y46 y47 : Value, a = ⟨#[y0, y1, y2, y3, y4, y5, y6, y7, y8, y9, y10, y11, y12, y13, y14, y15, y16, y17, y18, y19, y20, y21, y22, y23, y24, y25, y26, y27, y28, y29, y30, y31, y32, y33, y34, y35, y36, y37, y38, y39, y40, y41, y42, y43, y44, y45, y46, y47], []⟩ := by
  obtain ⟨⟨L⟩, D⟩ := a
  have hd' : D = [] := hd
  subst hd'
  have k0 : L.length = 48 := h
  clear h hd
  obtain ⟨y0, L0, rfl, k1⟩ := cons_of_len k0
  obtain ⟨y1, L1, rfl, k2⟩ := cons_of_len k1
  obtain ⟨y2, L2, rfl, k3⟩ := cons_of_len k2
  obtain ⟨y3, L3, rfl, k4⟩ := cons_of_len k3
  obtain ⟨y4, L4, rfl, k5⟩ := cons_of_len k4
  obtain ⟨y5, L5, rfl, k6⟩ := cons_of_len k5
  obtain ⟨y6, L6, rfl, k7⟩ := cons_of_len k6
  obtain ⟨y7, L7, rfl, k8⟩ := cons_of_len k7
  obtain ⟨y8, L8, rfl, k9⟩ := cons_of_len k8
  obtain ⟨y9, L9, rfl, k10⟩ := cons_of_len k9
  obtain ⟨y10, L10, rfl, k11⟩ := cons_of_len k10
  obtain ⟨y11, L11, rfl, k12⟩ := cons_of_len k11
  obtain ⟨y12, L12, rfl, k13⟩ := cons_of_len k12
  obtain ⟨y13, L13, rfl, k14⟩ := cons_of_len k13
  obtain ⟨y14, L14, rfl, k15⟩ := cons_of_len k14
  obtain ⟨y15, L15, rfl, k16⟩ := cons_of_len k15
  obtain ⟨y16, L16, rfl, k17⟩ := cons_of_len k16
  obtain ⟨y17, L17, rfl, k18⟩ := cons_of_len k17
  obtain ⟨y18, L18, rfl, k19⟩ := cons_of_len k18
  obtain ⟨y19, L19, rfl, k20⟩ := cons_of_len k19
  obtain ⟨y20, L20, rfl, k21⟩ := cons_of_len k20
  obtain ⟨y21, L21, rfl, k22⟩ := cons_of_len k21
  obtain ⟨y22, L22, rfl, k23⟩ := cons_of_len k22
  obtain ⟨y23, L23, rfl, k24⟩ := cons_of_len k23
  obtain ⟨y24, L24, rfl, k25⟩ := cons_of_len k24
  obtain ⟨y25, L25, rfl, k26⟩ := cons_of_len k25
  obtain ⟨y26, L26, rfl, k27⟩ := cons_of_len k26
  obtain ⟨y27, L27, rfl, k28⟩ := cons_of_len k27
  obtain ⟨y28, L28, rfl, k29⟩ := cons_of_len k28
  obtain ⟨y29, L29, rfl, k30⟩ := cons_of_len k29
  obtain ⟨y30, L30, rfl, k31⟩ := cons_of_len k30
  obtain ⟨y31, L31, rfl, k32⟩ := cons_of_len k31
  obtain ⟨y32, L32, rfl, k33⟩ := cons_of_len k32
  obtain ⟨y33, L33, rfl, k34⟩ := cons_of_len k33
  obtain ⟨y34, L34, rfl, k35⟩ := cons_of_len k34
  obtain ⟨y35, L35, rfl, k36⟩ := cons_of_len k35
  obtain ⟨y36, L36, rfl, k37⟩ := cons_of_len k36
  obtain ⟨y37, L37, rfl, k38⟩ := cons_of_len k37
  obtain ⟨y38, L38, rfl, k39⟩ := cons_of_len k38
  obtain ⟨y39, L39, rfl, k40⟩ := cons_of_len k39
  obtain ⟨y40, L40, rfl, k41⟩ := cons_of_len k40
  obtain ⟨y41, L41, rfl, k42⟩ := cons_of_len k41
  obtain ⟨y42, L42, rfl, k43⟩ := cons_of_len k42
  obtain ⟨y43, L43, rfl, k44⟩ := cons_of_len k43
  obtain ⟨y44, L44, rfl, k45⟩ := cons_of_len k44
  obtain ⟨y45, L45, rfl, k46⟩ := cons_of_len k45
  obtain ⟨y46, L46, rfl, k47⟩ := cons_of_len k46
  obtain ⟨y47, L47, rfl, k48⟩ := cons_of_len k47
  obtain rfl : L47 = [] := List.eq_nil_of_length_eq_zero k48
  exact ⟨y0, y1, y2, y3, y4, y5, y6, y7, y8, y9, y10, y11, y12, y13, y14, y15, y16, y17, y18, y19, y20, y21, y22, y23, y24, y25, y26, y27, y28, y29, y30, y31, y32, y33, y34, y35, y36, y37, y38, y39, y40, y41, y42, y43, y44, y45, y46, y47, rfl⟩
theorem old_of {l : List Oper} {t : Nat} (h : (l.all fun o' => decide (o'.dst ≠ some t)) = true) : ∀ (j : Nat) (o' : Oper), l[j]? = some o' → o'.dst ≠ some t := fun j o' hj => by
  have := List.all_eq_true.1 h o' (List.mem_of_getElem? hj)
  simpa using this

theorem box_val {w : World} {g d : Nat} {T : Tree} {s : Value} (h : BoxAt w g d T) (hg : w.heap[g]? = some (.cells #[.int .u8 T.kind, .string T.text, .int .i64 T.num, .int .i64 T.place, s] 25 (0, 0))) : NodeAt w w.heap.size d T (.agg #[.int .u8 T.kind, .string T.text, .int .i64 T.num, .int .i64 T.place, s]) := by
  obtain ⟨s', h1, h2⟩ := h
  have := h1.symm.trans hg
  simp only [nodeCells, Option.some.injEq, Obj.cells.injEq, Array.mk.injEq, List.cons.injEq, and_true, true_and] at this
  rw [← this]
  exact h2
def FullPost (w : World) (e : Ending) (w' : World) : Prop := ∃ p n c, e = .returned (.agg #[.int .u8 fullT.kind, .string fullT.text, .int .i64 fullT.num, .int .i64 fullT.place, .slice p n c]) ∧ Below w.heap.size w w' ∧ NodeAt w' w'.heap.size 6 fullT (.agg #[.int .u8 fullT.kind, .string fullT.text, .int .i64 fullT.num, .int .i64 fullT.place, .slice p n c])
theorem full_fin (W : World) (Rp : Ending → World → Prop) (T : Nat) (a b c d e : Value) (hT : W.heap[T]? = some (.cells #[a, b, c, d, e] 25 (0, 0)))
    (tmps : Array Value) (h4 : tmps.getD 0 undef = .pointer (some ⟨T, 0, none⟩)) (hR : Rp (.returned (.agg #[a, b, c, d, e])) W) :
    bodyPost Tryz.prog Tryz.f6 Rp .ret ⟨tmps, []⟩ W := by
  obtain ⟨c0, c1, c2, c3, c4⟩ := cells5 hT
  have h4' : tmps[0]?.getD undef = .pointer (some ⟨T, 0, none⟩) := by simpa using h4
  refine bodyPost_ret (v := .agg #[a, b, c, d, e]) ?_ rfl hR
  simp [results, Tryz.results6, go_sem, h4', c0, c1, c2, c3, c4]
set_option maxRecDepth 100000 in
set_option maxHeartbeats 4000000 in
theorem full_any (w : World) : Calls Tryz.prog 6 #[] w (FullPost w) := by
  go_enter Tryz.func6, Tryz.ntmps6
  go_wp2_with fail
  refine Calls.mono (lawOf_any 13 ⟨#[120]⟩ none 0 0 _) ?_
  rintro e w1 ⟨rfl, hb1⟩
  go_wp2_with fail
  refine Calls.mono (lawOf_any 15 ⟨#[114, 117, 108, 101]⟩ none 0 0 _) ?_
  rintro e w2 ⟨rfl, hb2⟩
  go_wp2_with fail
  obtain ⟨X1, X2, XB⟩ := heap_two w2 (.cells #[.int .u8 13, .string ⟨#[120]⟩, .int .i64 0, .int .i64 0, .slice none 0 0] 25) (.cells #[.int .u8 15, .string ⟨#[114, 117, 108, 101]⟩, .int .i64 0, .int .i64 0, .slice none 0 0] 25)
  have hx : BoxAt _ w2.heap.size 0 xT := ⟨.slice none 0 0, X1, ⟨fits_lit 13 ⟨#[120]⟩ [] rfl, _, rfl, KidsAt.nil _ _ _⟩⟩
  have hbx : BoxAt _ (w2.heap.size + 1) 0 bT := ⟨.slice none 0 0, X2, ⟨fits_lit 15 ⟨#[114, 117, 108, 101]⟩ [] rfl, _, rfl, KidsAt.nil _ _ _⟩⟩
  have HX := Lib.hid hx
  have HBx := Lib.hid hbx
  have HB2 := Lib.hid ((hb1.trans (hb2.mono hb1.size)).trans (XB.mono (Nat.le_trans hb1.size hb2.size)))
  have hr0 := heap_alloc_new w (.cells #[.int .u8 0, .string ⟨#[]⟩, .int .i64 0, .int .i64 0, .slice none 0 0] 25)
  have HR3 := Lib.hid (heap_below HB2.out hr0 (by simp))
  clear X1 X2 hx hbx hb1 hb2 hr0
  generalize ((w2.alloc (.cells #[.int .u8 13, .string ⟨#[120]⟩, .int .i64 0, .int .i64 0, .slice none 0 0] 25)).alloc (.cells #[.int .u8 15, .string ⟨#[114, 117, 108, 101]⟩, .int .i64 0, .int .i64 0, .slice none 0 0] 25)) = w3 at *
  clear XB
  obtain ⟨sx, hx1, hx2⟩ := HX.out
  refine wp_region_typed (by kernel_rfl) ty2 48 rfl (by kernel_rfl) (by kernel_rfl) (by kernel_rfl) (by decide) (hop_list ?_) ?_
  · refine allOps_cons (opTy_num ⟨#[48, 55]⟩ _ 0 rfl rfl rfl) ?_
    refine allOps_cons (opTy_build1 _ _ 0 rfl ⟨⟨0, by decide, 0, _, _, rfl, by kernel_rfl, rfl, rfl, rfl⟩, trivial⟩ rfl) ?_
    refine allOps_cons (opTy_of 16 ⟨#[45]⟩ _ _ 1 [numT ⟨#[48, 55]⟩] rfl (Or.inr ⟨1, _, _, rfl, by kernel_rfl, rfl, rfl, rfl⟩) rfl rfl) ?_
    refine allOps_cons (opTy_load 1 _ 0 xT sx rfl (by kernel_rfl) rfl hx1 hx2 rfl) ?_
    refine allOps_cons (opTy_build1 _ _ 0 rfl ⟨⟨0, by decide, 3, _, _, rfl, by kernel_rfl, rfl, rfl, rfl⟩, trivial⟩ rfl) ?_
    refine allOps_cons (opTy_of 16 ⟨#[110, 111, 116]⟩ _ _ 1 [xT] rfl (Or.inr ⟨4, _, _, rfl, by kernel_rfl, rfl, rfl, rfl⟩) rfl rfl) ?_
    refine allOps_cons (opTy_build2 _ _ _ _ 1 rfl ⟨⟨1, by decide, 2, _, _, rfl, by kernel_rfl, rfl, rfl, rfl⟩, ⟨1, by decide, 5, _, _, rfl, by kernel_rfl, rfl, rfl, rfl⟩, trivial⟩ rfl) ?_
    refine allOps_cons (opTy_of 16 ⟨#[43]⟩ _ _ 2 [minusT, notT] rfl (Or.inr ⟨6, _, _, rfl, by kernel_rfl, rfl, rfl, rfl⟩) rfl rfl) ?_
    refine allOps_cons (opTy_alloc rfl rfl) ?_
    exact allOps_one
  · intro o a W ho hbW hd hsz hold hv
    have ho' := Option.some.inj ho
    subst ho'
    obtain ⟨g3, hg3, hL3, hW3⟩ := hv 8 _ 3 (by decide) rfl rfl
    obtain ⟨hfs, ss, hs14, hks⟩ := hv 7 _ 14 (by decide) rfl rfl
    have o0 := hold 0 (old_of (by kernel_rfl))
    have o1 := hold 1 (old_of (by kernel_rfl))
    have o2 := hold 2 (old_of (by kernel_rfl))
    obtain ⟨y0, y1, y2, y3, y4, y5, y6, y7, y8, y9, y10, y11, y12, y13, y14, y15, y16, y17, y18, y19, y20, y21, y22, y23, y24, y25, y26, y27, y28, y29, y30, y31, y32, y33, y34, y35, y36, y37, y38, y39, y40, y41, y42, y43, y44, y45, y46, y47, rfl⟩ := frame48 a hsz hd
    obtain rfl : y0 = _ := o0
    obtain rfl : y1 = _ := o1
    obtain rfl : y2 = _ := o2
    obtain rfl : y3 = _ := hg3
    obtain rfl : y14 = _ := hs14
    obtain ⟨p3, n3, c3, rfl⟩ := hks.shape
    clear ho hd hsz hold hv hx1 hx2
    obtain ⟨z0, z1, z2, z3, z4⟩ := cells5 hW3
    have q0 := frozen5 hW3 0
    have q1 := frozen5 hW3 1
    have q2 := frozen5 hW3 2
    have q3 := frozen5 hW3 3
    have q4 := frozen5 hW3 4
    have hlx := HX.out.lt
    have hlb := HBx.out.lt
    have HS4 := Lib.hid (box_stored hW3 hfs hks (by kernel_rfl))
    have HX4 := Lib.hid ((HX.out.below hbW).stored hW3 (by omega) rfl (.int .u8 sumT.kind) (.string sumT.text) (.int .i64 sumT.num) (.int .i64 sumT.place) (.slice p3 n3 c3))
    have HBx4 := Lib.hid ((HBx.out.below hbW).stored hW3 (by omega) rfl (.int .u8 sumT.kind) (.string sumT.text) (.int .i64 sumT.num) (.int .i64 sumT.place) (.slice p3 n3 c3))
    have HR4 := Lib.hid ((storeNode_other (.int .u8 sumT.kind) (.string sumT.text) (.int .i64 sumT.num) (.int .i64 sumT.place) (.slice p3 n3 c3) w.heap.size (show w.heap.size ≠ g3 by have := (Array.getElem?_eq_some_iff.1 HR3.out).1; omega)).trans (heap_below hbW HR3.out (Array.getElem?_eq_some_iff.1 HR3.out).1))
    have HB4 := Lib.hid (storeNode_below (HB2.out.trans (hbW.mono HB2.out.size)) (Nat.le_trans (by simp) (Nat.le_trans HB2.out.size hL3)) (.int .u8 sumT.kind) (.string sumT.text) (.int .i64 sumT.num) (.int .i64 sumT.place) (.slice p3 n3 c3))
    clear hW3 hbW hks hfs
    go_wp2_with fail
    change Code.wp _ _ _ _ (storeNode W g3 (.int .u8 sumT.kind) (.string sumT.text) (.int .i64 sumT.num) (.int .i64 sumT.place) (.slice p3 n3 c3))
    clear z0 z1 z2 z3 z4 q0 q1 q2 q3 q4
    generalize storeNode W g3 (.int .u8 sumT.kind) (.string sumT.text) (.int .i64 sumT.num) (.int .i64 sumT.place) (.slice p3 n3 c3) = w4 at *
    obtain ⟨sx, hx1, hx2⟩ := HX4.out
    obtain ⟨sb, hb1, hb2⟩ := HBx4.out
    obtain ⟨ss, hs1, hs2⟩ := HS4.out
    refine wp_region_typed (by kernel_rfl) ty3 48 rfl (by kernel_rfl) (by kernel_rfl) (by kernel_rfl) (by decide) (hop_list ?_) ?_
    · refine allOps_cons (opTy_of 12 ⟨#[]⟩ _ _ 0 [] rfl (Or.inl ⟨rfl, rfl⟩) rfl rfl) ?_
      refine allOps_cons (opTy_load 1 _ 0 xT sx rfl (by kernel_rfl) rfl hx1 hx2 rfl) ?_
      refine allOps_cons (opTy_num ⟨#[45, 53]⟩ _ 0 rfl rfl rfl) ?_
      refine allOps_cons (opTy_load 2 _ 0 bT sb rfl (by kernel_rfl) rfl hb1 hb2 rfl) ?_
      refine allOps_cons (opTy_build4 _ _ _ _ _ _ _ _ 0 rfl ⟨⟨0, by decide, 0, _, _, rfl, by kernel_rfl, rfl, rfl, rfl⟩, ⟨0, by decide, 1, _, _, rfl, by kernel_rfl, rfl, rfl, rfl⟩, ⟨0, by decide, 2, _, _, rfl, by kernel_rfl, rfl, rfl, rfl⟩, ⟨0, by decide, 3, _, _, rfl, by kernel_rfl, rfl, rfl, rfl⟩, trivial⟩ rfl) ?_
      refine allOps_cons (opTy_of 5 ⟨#[104, 105, 118, 101]⟩ _ _ 1 [anyT, xT, numT ⟨#[45, 53]⟩, bT] rfl (Or.inr ⟨4, _, _, rfl, by kernel_rfl, rfl, rfl, rfl⟩) rfl rfl) ?_
      refine allOps_cons (opTy_of 6 ⟨#[104, 105, 118, 101]⟩ _ _ 0 [] rfl (Or.inl ⟨rfl, rfl⟩) rfl rfl) ?_
      refine allOps_cons (opTy_load 1 _ 0 xT sx rfl (by kernel_rfl) rfl hx1 hx2 rfl) ?_
      refine allOps_cons (opTy_load 3 _ 2 sumT ss rfl (by kernel_rfl) rfl hs1 hs2 rfl) ?_
      refine allOps_cons (opTy_build2 _ _ _ _ 2 rfl ⟨⟨0, by decide, 7, _, _, rfl, by kernel_rfl, rfl, rfl, rfl⟩, ⟨2, by decide, 8, _, _, rfl, by kernel_rfl, rfl, rfl, rfl⟩, trivial⟩ rfl) ?_
      refine allOps_cons (opTy_of 16 ⟨#[60, 61]⟩ _ _ 3 [xT, sumT] rfl (Or.inr ⟨9, _, _, rfl, by kernel_rfl, rfl, rfl, rfl⟩) rfl rfl) ?_
      refine allOps_cons (opTy_build1 _ _ 3 rfl ⟨⟨3, by decide, 10, _, _, rfl, by kernel_rfl, rfl, rfl, rfl⟩, trivial⟩ rfl) ?_
      refine allOps_cons (opTy_of 7 ⟨#[]⟩ _ _ 4 [leT] rfl (Or.inr ⟨11, _, _, rfl, by kernel_rfl, rfl, rfl, rfl⟩) rfl rfl) ?_
      refine allOps_cons (opTy_load 3 _ 2 sumT ss rfl (by kernel_rfl) rfl hs1 hs2 rfl) ?_
      refine allOps_cons (opTy_load 2 _ 0 bT sb rfl (by kernel_rfl) rfl hb1 hb2 rfl) ?_
      refine allOps_cons (opTy_build2 _ _ _ _ 2 rfl ⟨⟨2, by decide, 13, _, _, rfl, by kernel_rfl, rfl, rfl, rfl⟩, ⟨0, by decide, 14, _, _, rfl, by kernel_rfl, rfl, rfl, rfl⟩, trivial⟩ rfl) ?_
      refine allOps_cons (opTy_of 8 ⟨#[104, 105, 118, 101]⟩ _ _ 3 [sumT, bT] rfl (Or.inr ⟨15, _, _, rfl, by kernel_rfl, rfl, rfl, rfl⟩) rfl rfl) ?_
      refine allOps_cons (opTy_of 9 ⟨#[]⟩ _ _ 0 [] rfl (Or.inl ⟨rfl, rfl⟩) rfl rfl) ?_
      refine allOps_cons (opTy_num ⟨#[57, 50, 50, 51, 51, 55, 50, 48, 51, 54, 56, 53, 52, 55, 55, 53, 56, 48, 55]⟩ _ 0 rfl rfl rfl) ?_
      refine allOps_cons (opTy_build1 _ _ 0 rfl ⟨⟨0, by decide, 18, _, _, rfl, by kernel_rfl, rfl, rfl, rfl⟩, trivial⟩ rfl) ?_
      refine allOps_cons (opTy_of 10 ⟨#[]⟩ _ _ 1 [numT ⟨#[57, 50, 50, 51, 51, 55, 50, 48, 51, 54, 56, 53, 52, 55, 55, 53, 56, 48, 55]⟩] rfl (Or.inr ⟨19, _, _, rfl, by kernel_rfl, rfl, rfl, rfl⟩) rfl rfl) ?_
      refine allOps_cons (opTy_of 11 ⟨#[]⟩ _ _ 0 [] rfl (Or.inl ⟨rfl, rfl⟩) rfl rfl) ?_
      refine allOps_cons (opTy_build7 _ _ _ _ _ _ _ _ _ _ _ _ _ _ 4 rfl ⟨⟨1, by decide, 5, _, _, rfl, by kernel_rfl, rfl, rfl, rfl⟩, ⟨0, by decide, 6, _, _, rfl, by kernel_rfl, rfl, rfl, rfl⟩, ⟨4, by decide, 12, _, _, rfl, by kernel_rfl, rfl, rfl, rfl⟩, ⟨3, by decide, 16, _, _, rfl, by kernel_rfl, rfl, rfl, rfl⟩, ⟨0, by decide, 17, _, _, rfl, by kernel_rfl, rfl, rfl, rfl⟩, ⟨1, by decide, 20, _, _, rfl, by kernel_rfl, rfl, rfl, rfl⟩, ⟨0, by decide, 21, _, _, rfl, by kernel_rfl, rfl, rfl, rfl⟩, trivial⟩ rfl) ?_
      refine allOps_cons (opTy_of 4 ⟨#[114]⟩ _ _ 5 ruleK rfl (Or.inr ⟨22, _, _, rfl, by kernel_rfl, rfl, rfl, rfl⟩) rfl rfl) ?_
      refine allOps_cons (opTy_alloc rfl rfl) ?_
      exact allOps_one
    · intro o a W2 ho hbW hd hsz hold hv
      have ho' := Option.some.inj ho
      subst ho'
      obtain ⟨g4, hg4, hL4, hW4⟩ := hv 24 _ 4 (by decide) rfl rfl
      obtain ⟨hfs, ss, hs38, hks⟩ := hv 23 _ 38 (by decide) rfl rfl
      have o0 := hold 0 (old_of (by kernel_rfl))
      have o1 := hold 1 (old_of (by kernel_rfl))
      have o2 := hold 2 (old_of (by kernel_rfl))
      have o3 := hold 3 (old_of (by kernel_rfl))
      obtain ⟨y0, y1, y2, y3, y4, y5, y6, y7, y8, y9, y10, y11, y12, y13, y14, y15, y16, y17, y18, y19, y20, y21, y22, y23, y24, y25, y26, y27, y28, y29, y30, y31, y32, y33, y34, y35, y36, y37, y38, y39, y40, y41, y42, y43, y44, y45, y46, y47, rfl⟩ := frame48 a hsz hd
      obtain rfl : y0 = _ := o0
      obtain rfl : y1 = _ := o1
      obtain rfl : y2 = _ := o2
      obtain rfl : y3 = _ := o3
      obtain rfl : y4 = _ := hg4
      obtain rfl : y38 = _ := hs38
      obtain ⟨p4, n4, c4, rfl⟩ := hks.shape
      clear ho hd hsz hold hv hx1 hx2 hb1 hb2 hs1 hs2
      obtain ⟨z0, z1, z2, z3, z4⟩ := cells5 hW4
      have q0 := frozen5 hW4 0
      have q1 := frozen5 hW4 1
      have q2 := frozen5 hW4 2
      have q3 := frozen5 hW4 3
      have q4 := frozen5 hW4 4
      have hr4 := heap_below hbW HR4.out (Array.getElem?_eq_some_iff.1 HR4.out).1
      have hlr := (Array.getElem?_eq_some_iff.1 HR4.out).1
      have hoth : ∀ b, b ≠ g4 → ((storeNode W2 g4 (.int .u8 ruleT.kind) (.string ruleT.text) (.int .i64 ruleT.num) (.int .i64 ruleT.place) (.slice p4 n4 c4)).setCell ⟨g4, 2, none⟩ (.int .i64 (-7))).heap[b]? = W2.heap[b]? := fun b hb =>
        (Below.heap_setCell _ ⟨g4, 2, none⟩ _ b hb).trans (storeNode_other _ _ _ _ _ b hb)
      have hsame : ((storeNode W2 g4 (.int .u8 ruleT.kind) (.string ruleT.text) (.int .i64 ruleT.num) (.int .i64 ruleT.place) (.slice p4 n4 c4)).setCell ⟨g4, 2, none⟩ (.int .i64 (-7))).heap.size = W2.heap.size := by
        simp [storeNode, World.setCell]
      have hfl : Fits allT := ⟨by decide, by show (1 : Nat) ≤ maxLen; unfold maxLen; omega, by show -9223372036854775808 ≤ (-7 : Int); omega, by show (-7 : Int) < _; omega, by show -9223372036854775808 ≤ (0 : Int); omega, by show (0 : Int) < _; omega⟩
      have HAll := Lib.hid (box_gen (T := allT) (d := 5) hW4 hfl hks (by kernel_rfl) hoth hsame (heap_set (storeNode_at hW4 _ _ _ _ _) 2 (.int .i64 (-7))))
      have HR5 := Lib.hid ((hoth w.heap.size (by omega)).trans hr4)
      have HB5 := Lib.hid ((storeNode_below (HB4.out.trans (hbW.mono HB4.out.size)) (Nat.le_trans HB4.out.size hL4) (.int .u8 ruleT.kind) (.string ruleT.text) (.int .i64 ruleT.num) (.int .i64 ruleT.place) (.slice p4 n4 c4)).setCell (p := ⟨g4, 2, none⟩) (Nat.le_trans HB4.out.size hL4) (.int .i64 (-7)))
      clear hr4 hlr hoth hsame hfl hW4 hfs hks hbW
      go_wp2_with fail
      change Code.wp _ _ _ _ ((storeNode W2 g4 (.int .u8 ruleT.kind) (.string ruleT.text) (.int .i64 ruleT.num) (.int .i64 ruleT.place) (.slice p4 n4 c4)).setCell ⟨g4, 2, none⟩ (.int .i64 (-7)))
      clear z0 z1 z2 z3 z4 q0 q1 q2 q3 q4
      generalize ((storeNode W2 g4 (.int .u8 ruleT.kind) (.string ruleT.text) (.int .i64 ruleT.num) (.int .i64 ruleT.place) (.slice p4 n4 c4)).setCell ⟨g4, 2, none⟩ (.int .i64 (-7))) = w5 at *
      obtain ⟨sl, hl1, hl2⟩ := HAll.out
      refine wp_region_typed (by kernel_rfl) ty5 48 rfl (by kernel_rfl) (by kernel_rfl) (by kernel_rfl) (by decide) (hop_list ?_) ?_
      · refine allOps_cons (opTy_of 3 ⟨#[97]⟩ _ _ 0 [] rfl (Or.inl ⟨rfl, rfl⟩) rfl rfl) ?_
        refine allOps_cons (opTy_of 3 ⟨#[98]⟩ _ _ 0 [] rfl (Or.inl ⟨rfl, rfl⟩) rfl rfl) ?_
        refine allOps_cons (opTy_build2 _ _ _ _ 0 rfl ⟨⟨0, by decide, 0, _, _, rfl, by kernel_rfl, rfl, rfl, rfl⟩, ⟨0, by decide, 1, _, _, rfl, by kernel_rfl, rfl, rfl, rfl⟩, trivial⟩ rfl) ?_
        refine allOps_cons (opTy_of 2 ⟨#[104, 105, 118, 101]⟩ _ _ 1 [fieldA, fieldB] rfl (Or.inr ⟨2, _, _, rfl, by kernel_rfl, rfl, rfl, rfl⟩) rfl rfl) ?_
        refine allOps_cons (opTy_load 4 _ 5 allT sl rfl (by kernel_rfl) rfl hl1 hl2 rfl) ?_
        refine allOps_cons (opTy_of 4 ⟨#[110, 111, 110, 101]⟩ _ _ 0 [] rfl (Or.inl ⟨rfl, rfl⟩) rfl rfl) ?_
        refine allOps_cons (opTy_build3 _ _ _ _ _ _ 5 rfl ⟨⟨1, by decide, 3, _, _, rfl, by kernel_rfl, rfl, rfl, rfl⟩, ⟨5, by decide, 4, _, _, rfl, by kernel_rfl, rfl, rfl, rfl⟩, ⟨0, by decide, 5, _, _, rfl, by kernel_rfl, rfl, rfl, rfl⟩, trivial⟩ rfl) ?_
        refine allOps_cons (opTy_prog _ _ 6 [typeT, allT, lastT] rfl (Or.inr ⟨6, _, _, rfl, by kernel_rfl, rfl, rfl, rfl⟩) rfl) ?_
        exact allOps_one
      · intro o a W3 ho hbW hd hsz hold hv
        have ho' := Option.some.inj ho
        subst ho'
        obtain ⟨hfs, ss, hs47, hks⟩ := hv 7 _ 47 (by decide) rfl rfl
        have o0 := hold 0 (old_of (by kernel_rfl))
        obtain ⟨y0, y1, y2, y3, y4, y5, y6, y7, y8, y9, y10, y11, y12, y13, y14, y15, y16, y17, y18, y19, y20, y21, y22, y23, y24, y25, y26, y27, y28, y29, y30, y31, y32, y33, y34, y35, y36, y37, y38, y39, y40, y41, y42, y43, y44, y45, y46, y47, rfl⟩ := frame48 a hsz hd
        obtain rfl : y0 = _ := o0
        obtain rfl : y47 = _ := hs47
        obtain ⟨p5, n5, c5, rfl⟩ := hks.shape
        clear ho hd hsz hold hv hl1 hl2
        have hr6 := heap_below hbW HR5.out (Array.getElem?_eq_some_iff.1 HR5.out).1
        obtain ⟨z0, z1, z2, z3, z4⟩ := cells5 hr6
        have q0 := frozen5 hr6 0
        have q1 := frozen5 hr6 1
        have q2 := frozen5 hr6 2
        have q3 := frozen5 hr6 3
        have q4 := frozen5 hr6 4
        have HFin := Lib.hid (box_stored hr6 hfs hks (by kernel_rfl))
        have HAt := Lib.hid (storeNode_at hr6 (.int .u8 fullT.kind) (.string fullT.text) (.int .i64 fullT.num) (.int .i64 fullT.place) (.slice p5 n5 c5))
        have hb00 : Below w.heap.size w (w.alloc (.cells #[.int .u8 0, .string ⟨#[]⟩, .int .i64 0, .int .i64 0, .slice none 0 0] 25)) := (Below.refl _ w).alloc (Nat.le_refl _) _
        have HBd := Lib.hid (storeNode_below (hb00.trans ((HB5.out.trans (hbW.mono HB5.out.size)).mono hb00.size)) (Nat.le_refl _) (.int .u8 fullT.kind) (.string fullT.text) (.int .i64 fullT.num) (.int .i64 fullT.place) (.slice p5 n5 c5))
        clear hr6 hfs hks hbW hb00
        go_wp2_with fail
        change bodyPost _ _ _ _ _ (storeNode W3 w.heap.size (.int .u8 fullT.kind) (.string fullT.text) (.int .i64 fullT.num) (.int .i64 fullT.place) (.slice p5 n5 c5))
        generalize storeNode W3 w.heap.size (.int .u8 fullT.kind) (.string fullT.text) (.int .i64 fullT.num) (.int .i64 fullT.place) (.slice p5 n5 c5) = w6 at *
        have HNd := Lib.hid (box_val HFin.out HAt.out)
        clear z0 z1 z2 z3 z4 q0 q1 q2 q3 q4
        exact full_fin w6 _ w.heap.size _ _ _ _ _ HAt.out _ rfl ⟨_, _, _, rfl, HBd.out, HNd.out⟩
end Go.Proofs.YtfpohaipmnjflaaGreatDoor
/- What operations on truths are, and the looks at nodes: is it right, how deep, the same. Condition: the library's table of blanks lies as laid. -/
namespace Go.Proofs.YtfpohaipmnjflaaGreatDoor
open Go.RowKit

def slimB : Nat → Tree → Bool
  | 0, T => decide (T.text.size ≤ 72007)
  | d + 1, T => decide (T.text.size ≤ 72007) && decide (T.kids.length ≤ 20000) && T.kids.all (slimB d)
theorem slim_of_b : ∀ (d : Nat) (T : Tree), slimB d T = true → Slim d T := by
  intro d
  induction d with
  | zero => intro T h; unfold slimB at h; unfold Slim; exact of_decide_eq_true h
  | succ d ih =>
    intro T h
    unfold slimB at h
    simp only [Bool.and_eq_true, decide_eq_true_eq, List.all_eq_true] at h
    exact ⟨h.1.1, h.1.2, fun k hk => ih k (h.2 k hk)⟩
section
variable {l : List Oper} {a0 : Act} {w0 : World} {ty : Nat → RTy} {i : Nat} {o : Oper}
theorem Waits.val {x : Operand} {u : Value} {L : Nat} {a : Act} {W : World} (h : Waits l o ty x (.val u))
    (hv : ∀ (j : Nat) (oj : Oper) (t : Tmp), (∃ e ∈ o.after, Region.binds .any e = true ∧ e.on = j) → l[j]? = some oj → oj.dst = some t → HasTy L W (ty j) (a.tmps.getD t undef)) : a.eval x = u := h.has hv
theorem opTy_move (x : Operand) (u : Value) (ho : o.op = .move x) (hx : Waits l o ty x (.val u)) (hty : ty i = .val u) : OpTy l a0 w0 ty i o := by
  intro a W Q' _ _ hv
  have h := hx.val hv
  have hrun : (execOp a.eval o).run Tryz.prog W = .ok (.value u) W := by
    unfold execOp
    simp only [ho, h]
    rfl
  unfold Oper.wp
  rw [hrun, Oper.upon_value]
  exact ⟨_, rfl, Below.refl _ _, by rw [hty]; rfl⟩
theorem opTy_pick (c x y : Operand) (u : Value) (ho : o.op = .pick c x y) (hc : Waits l o ty c (.val (.bool true))) (hx : Waits l o ty x (.val u)) (hty : ty i = .val u) : OpTy l a0 w0 ty i o := by
  intro a W Q' _ _ hv
  have h1 := hc.val hv
  have h2 := hx.val hv
  have hrun : (execOp a.eval o).run Tryz.prog W = .ok (.value u) W := by
    unfold execOp
    simp only [ho, h1, h2]
    rfl
  unfold Oper.wp
  rw [hrun, Oper.upon_value]
  exact ⟨u, rfl, Below.refl _ _, by rw [hty]; rfl⟩
theorem opTy_not (x : Operand) (t : TypeId) (b c : Bool) (ho : o.op = .unOp .not t x) (hx : Waits l o ty x (.val (.bool b))) (hc : (!b) = c) (hty : ty i = .val (.bool c)) : OpTy l a0 w0 ty i o := by
  intro a W Q' _ _ hv
  have h1 := hx.val hv
  have hrun : (execOp a.eval o).run Tryz.prog W = .ok (.value (.bool (!b))) W := by
    unfold execOp
    simp only [ho, h1]
    rfl
  unfold Oper.wp
  rw [hrun, Oper.upon_value]
  exact ⟨_, rfl, Below.refl _ _, by rw [hty, hc]; rfl⟩
theorem opTy_right (x : Operand) (tys : Array TypeId) (d : Nat) (T : Tree) (b : Bool) (ho : o.op = .call { callee := .value (.func 8), args := #[x], argTypes := tys }) (ht : AsciiTab w0)
    (hx : Waits l o ty x (.node d T)) (hs : slimB d T = true) (hb : rightF d T = b) (hty : ty i = .val (.bool b)) : OpTy l a0 w0 ty i o := by
  intro a W Q' hbw _ hv
  have hn : NodeAt W W.heap.size d T (a.eval x) := hx.has hv
  refine step_call 8 _ tys ho #[a.eval x] (by simp) (enters_of Tryz.func8 (by kernel_rfl) rfl) ?_
  refine (nodeRight_any d T _ _ W hn (Nat.le_refl _) (slim_of_b d T hs) (ht.below hbw)).mono ?_
  rintro e W' ⟨rfl, hb'⟩
  exact ⟨_, rfl, _, rfl, hb', by rw [hty, hb]; rfl⟩
theorem opTy_deep (x : Operand) (tys : Array TypeId) (d : Nat) (T : Tree) (n : Int) (ho : o.op = .call { callee := .value (.func 15), args := #[x], argTypes := tys })
    (hx : Waits l o ty x (.node d T)) (hs : decide (manyF d T ≤ 100000) = true) (hb : (deepF d T : Int) = n) (hty : ty i = .val (.int .i64 n)) : OpTy l a0 w0 ty i o := by
  intro a W Q' hbw _ hv
  have hn : NodeAt W W.heap.size d T (a.eval x) := hx.has hv
  refine step_call 15 _ tys ho #[a.eval x] (by simp) (enters_of Tryz.func15 (by kernel_rfl) rfl) ?_
  refine (deep_any d T _ _ W hn (Nat.le_refl _) (of_decide_eq_true hs)).mono ?_
  rintro e W' ⟨rfl, hb'⟩
  exact ⟨_, rfl, _, rfl, hb', by rw [hty, ← hb]; rfl⟩
theorem opTy_same (x y : Operand) (tys : Array TypeId) (d : Nat) (T U : Tree) (b : Bool) (ho : o.op = .call { callee := .value (.func 10), args := #[x, y], argTypes := tys })
    (hx : Waits l o ty x (.node d T)) (hy : Waits l o ty y (.node d U)) (hb : sameF d T U = b) (hty : ty i = .val (.bool b)) : OpTy l a0 w0 ty i o := by
  intro a W Q' hbw _ hv
  have hn : NodeAt W W.heap.size d T (a.eval x) := hx.has hv
  have hm : NodeAt W W.heap.size d U (a.eval y) := hy.has hv
  refine step_call 10 _ tys ho #[a.eval x, a.eval y] (by simp) (enters_of Tryz.func10 (by kernel_rfl) rfl) ?_
  refine (same_any d T U _ _ _ _ W hn hm (Nat.le_refl _) (Nat.le_refl _)).mono ?_
  rintro e W' ⟨rfl, hb'⟩
  exact ⟨_, rfl, _, rfl, hb', by rw [hty, hb]; rfl⟩
theorem opTy_full (tys : Array TypeId) (ho : o.op = .call { callee := .value (.func 6), args := #[], argTypes := tys }) (hty : ty i = .node 6 fullT) : OpTy l a0 w0 ty i o := by
  intro a W Q' hbw _ hv
  refine step_call 6 _ tys ho #[] (by simp) (enters_of Tryz.func6 (by kernel_rfl) rfl) ?_
  refine (full_any W).mono ?_
  rintro e W' ⟨p, n, c, rfl, hb', hn⟩
  exact ⟨_, rfl, _, rfl, hb', by rw [hty]; exact hn⟩
theorem opTy_eql (x : Operand) (t u : TypeId) (n m : Int) (c : Bool) (ho : o.op = .binOp .eql t x (.const (.int .i64 m)) u) (hx : Waits l o ty x (.val (.int .i64 n))) (hc : (n == m) = c) (hty : ty i = .val (.bool c)) : OpTy l a0 w0 ty i o := by
  intro a W Q' _ _ hv
  have h1 := hx.val hv
  have hrun : (execOp a.eval o).run Tryz.prog W = .ok (.value (.bool (n == m))) W := by
    unfold execOp
    simp only [ho, h1]
    rfl
  unfold Oper.wp
  rw [hrun, Oper.upon_value]
  exact ⟨_, rfl, Below.refl _ _, by rw [hty, hc]; rfl⟩
end
end Go.Proofs.YtfpohaipmnjflaaGreatDoor
/- The statements of chapter 05 are awake; by contract. Condition: the library's table of blanks lies as laid. -/
namespace Go.Proofs.YtfpohaipmnjflaaGreatDoor
open Go.RowKit

def xField : Tree := .mk 3 ⟨#[120]⟩ 0 0 []
def hiveT : Tree := .mk 2 ⟨#[104, 105, 118, 101]⟩ 0 0 [xField]
def aFact : Tree := .mk 5 ⟨#[97]⟩ 0 0 []
def haltA : Tree := .mk 11 ⟨#[]⟩ 0 0 []
def lateT : Tree := .mk 4 ⟨#[114]⟩ 0 0 [haltA, aFact]
def tyA : Nat → RTy
  | 0 => .node 0 (.mk 1 ⟨#[]⟩ 0 0 [])
  | 1 => .val (.bool true)
  | 2 => .val (.bool true)
  | 3 => .node 1 hiveT
  | 4 => .kids 2 [hiveT]
  | 5 => .node 2 (.mk 1 ⟨#[]⟩ 0 0 [hiveT])
  | 6 => .val (.bool true)
  | 7 => .val (.bool true)
  | 8 => .val (.bool true)
  | 9 => .node 6 fullT
  | 10 => .val (.bool true)
  | 11 => .val (.bool true)
  | 12 => .val (.bool true)
  | 13 => .node 1 hiveT
  | 14 => .val (.bool false)
  | 15 => .val (.bool true)
  | 16 => .val (.bool true)
  | 17 => .val (.bool true)
  | 18 => .node 1 lateT
  | 19 => .kids 2 [lateT]
  | 20 => .node 2 (.mk 1 ⟨#[]⟩ 0 0 [lateT])
  | 21 => .val (.bool false)
  | 22 => .val (.bool true)
  | 23 => .val (.bool true)
  | 24 => .val (.bool true)
  | 25 => .node 0 (.mk 10 ⟨#[]⟩ 0 0 [])
  | 26 => .kids 1 [(.mk 10 ⟨#[]⟩ 0 0 [])]
  | 27 => .node 1 (.mk 4 ⟨#[114]⟩ 0 0 [(.mk 10 ⟨#[]⟩ 0 0 [])])
  | 28 => .kids 2 [(.mk 4 ⟨#[114]⟩ 0 0 [(.mk 10 ⟨#[]⟩ 0 0 [])])]
  | 29 => .node 2 (.mk 1 ⟨#[]⟩ 0 0 [(.mk 4 ⟨#[114]⟩ 0 0 [(.mk 10 ⟨#[]⟩ 0 0 [])])])
  | 30 => .val (.bool false)
  | 31 => .val (.bool true)
  | 32 => .val (.bool true)
  | 33 => .val (.bool true)
  | 34 => .node 0 (.mk 14 ⟨#[45, 49]⟩ 0 0 [])
  | 35 => .kids 1 [(.mk 14 ⟨#[45, 49]⟩ 0 0 [])]
  | 36 => .node 1 (.mk 7 ⟨#[]⟩ 0 0 [(.mk 14 ⟨#[45, 49]⟩ 0 0 [])])
  | 37 => .kids 2 [(.mk 7 ⟨#[]⟩ 0 0 [(.mk 14 ⟨#[45, 49]⟩ 0 0 [])])]
  | 38 => .node 2 (.mk 4 ⟨#[114]⟩ 0 0 [(.mk 7 ⟨#[]⟩ 0 0 [(.mk 14 ⟨#[45, 49]⟩ 0 0 [])])])
  | 39 => .kids 3 [(.mk 4 ⟨#[114]⟩ 0 0 [(.mk 7 ⟨#[]⟩ 0 0 [(.mk 14 ⟨#[45, 49]⟩ 0 0 [])])])]
  | 40 => .node 3 (.mk 1 ⟨#[]⟩ 0 0 [(.mk 4 ⟨#[114]⟩ 0 0 [(.mk 7 ⟨#[]⟩ 0 0 [(.mk 14 ⟨#[45, 49]⟩ 0 0 [])])])])
  | 41 => .val (.bool false)
  | 42 => .val (.bool true)
  | 43 => .val (.bool true)
  | 44 => .val (.bool true)
  | 45 => .node 1 hiveT
  | 46 => .kids 2 [hiveT]
  | 47 => .node 2 (.mk 1 ⟨#[]⟩ 0 0 [hiveT])
  | 48 => .val (.int .i64 3)
  | 49 => .val (.bool true)
  | 50 => .val (.bool true)
  | 51 => .val (.bool true)
  | 52 => .node 1 hiveT
  | 53 => .kids 2 [hiveT]
  | 54 => .node 2 (.mk 1 ⟨#[]⟩ 0 0 [hiveT])
  | 55 => .node 1 hiveT
  | 56 => .kids 2 [hiveT]
  | 57 => .node 2 (.mk 1 ⟨#[]⟩ 0 0 [hiveT])
  | 58 => .val (.bool true)
  | 59 => .val (.bool true)
  | _ => .raw
theorem frame70 (a : Act) (h : a.tmps.size = 70) (hd : a.defers = []) : ∃ y0 y1 y2 y3 y4 y5 y6 y7 y8 y9 y10 y11 y12 y13 y14 y15 y16 y17 y18 y19 y20 y21 y22 y23 y24 y25 y26 y27 y28 y29 y30 y31 y32 y33 y34 y35 y36 y37 y38 y39 y40 y41 y42 y43 y44 y45 y46 y47 y48 y49 y50 y51 y52 y53 y54 y55 y56 y57 y58 y59 y60 y61 y62 y63 y64 y65 y66 y67 y68 y69 : Value, a = ⟨#[y0, y1, y2, y3, y4, y5, y6, y7, y8, y9, y10, y11, y12, y13, y14, y15, y16, y17, y18, y19, y20, y21, y22, y23, y24, y25, y26, y27, y28, y29, y30, y31, y32, y33, y34, y35, y36, y37, y38, y39, y40, y41, y42, y43, y44, y45, y46, y47, y48, y49, y50, y51, y52, y53, y54, y55, y56, y57, y58, y59, y60, y61, y62, y63, y64, y65, y66, y67, y68, y69], []⟩ := by
  obtain ⟨⟨L⟩, D⟩ := a
  have hd' : D = [] := hd
  subst hd'
  have k0 : L.length = 70 := h
  clear h hd
  obtain ⟨y0, L0, rfl, k1⟩ := cons_of_len k0
  obtain ⟨y1, L1, rfl, k2⟩ := cons_of_len k1
  obtain ⟨y2, L2, rfl, k3⟩ := cons_of_len k2
  obtain ⟨y3, L3, rfl, k4⟩ := cons_of_len k3
  obtain ⟨y4, L4, rfl, k5⟩ := cons_of_len k4
  obtain ⟨y5, L5, rfl, k6⟩ := cons_of_len k5
  obtain ⟨y6, L6, rfl, k7⟩ := cons_of_len k6
  obtain ⟨y7, L7, rfl, k8⟩ := cons_of_len k7
  obtain ⟨y8, L8, rfl, k9⟩ := cons_of_len k8
  obtain ⟨y9, L9, rfl, k10⟩ := cons_of_len k9
  obtain ⟨y10, L10, rfl, k11⟩ := cons_of_len k10
  obtain ⟨y11, L11, rfl, k12⟩ := cons_of_len k11
  obtain ⟨y12, L12, rfl, k13⟩ := cons_of_len k12
  obtain ⟨y13, L13, rfl, k14⟩ := cons_of_len k13
  obtain ⟨y14, L14, rfl, k15⟩ := cons_of_len k14
  obtain ⟨y15, L15, rfl, k16⟩ := cons_of_len k15
  obtain ⟨y16, L16, rfl, k17⟩ := cons_of_len k16
  obtain ⟨y17, L17, rfl, k18⟩ := cons_of_len k17
  obtain ⟨y18, L18, rfl, k19⟩ := cons_of_len k18
  obtain ⟨y19, L19, rfl, k20⟩ := cons_of_len k19
  obtain ⟨y20, L20, rfl, k21⟩ := cons_of_len k20
  obtain ⟨y21, L21, rfl, k22⟩ := cons_of_len k21
  obtain ⟨y22, L22, rfl, k23⟩ := cons_of_len k22
  obtain ⟨y23, L23, rfl, k24⟩ := cons_of_len k23
  obtain ⟨y24, L24, rfl, k25⟩ := cons_of_len k24
  obtain ⟨y25, L25, rfl, k26⟩ := cons_of_len k25
  obtain ⟨y26, L26, rfl, k27⟩ := cons_of_len k26
  obtain ⟨y27, L27, rfl, k28⟩ := cons_of_len k27
  obtain ⟨y28, L28, rfl, k29⟩ := cons_of_len k28
  obtain ⟨y29, L29, rfl, k30⟩ := cons_of_len k29
  obtain ⟨y30, L30, rfl, k31⟩ := cons_of_len k30
  obtain ⟨y31, L31, rfl, k32⟩ := cons_of_len k31
  obtain ⟨y32, L32, rfl, k33⟩ := cons_of_len k32
  obtain ⟨y33, L33, rfl, k34⟩ := cons_of_len k33
  obtain ⟨y34, L34, rfl, k35⟩ := cons_of_len k34
  obtain ⟨y35, L35, rfl, k36⟩ := cons_of_len k35
  obtain ⟨y36, L36, rfl, k37⟩ := cons_of_len k36
  obtain ⟨y37, L37, rfl, k38⟩ := cons_of_len k37
  obtain ⟨y38, L38, rfl, k39⟩ := cons_of_len k38
  obtain ⟨y39, L39, rfl, k40⟩ := cons_of_len k39
  obtain ⟨y40, L40, rfl, k41⟩ := cons_of_len k40
  obtain ⟨y41, L41, rfl, k42⟩ := cons_of_len k41
  obtain ⟨y42, L42, rfl, k43⟩ := cons_of_len k42
  obtain ⟨y43, L43, rfl, k44⟩ := cons_of_len k43
  obtain ⟨y44, L44, rfl, k45⟩ := cons_of_len k44
  obtain ⟨y45, L45, rfl, k46⟩ := cons_of_len k45
  obtain ⟨y46, L46, rfl, k47⟩ := cons_of_len k46
  obtain ⟨y47, L47, rfl, k48⟩ := cons_of_len k47
  obtain ⟨y48, L48, rfl, k49⟩ := cons_of_len k48
  obtain ⟨y49, L49, rfl, k50⟩ := cons_of_len k49
  obtain ⟨y50, L50, rfl, k51⟩ := cons_of_len k50
  obtain ⟨y51, L51, rfl, k52⟩ := cons_of_len k51
  obtain ⟨y52, L52, rfl, k53⟩ := cons_of_len k52
  obtain ⟨y53, L53, rfl, k54⟩ := cons_of_len k53
  obtain ⟨y54, L54, rfl, k55⟩ := cons_of_len k54
  obtain ⟨y55, L55, rfl, k56⟩ := cons_of_len k55
  obtain ⟨y56, L56, rfl, k57⟩ := cons_of_len k56
  obtain ⟨y57, L57, rfl, k58⟩ := cons_of_len k57
  obtain ⟨y58, L58, rfl, k59⟩ := cons_of_len k58
  obtain ⟨y59, L59, rfl, k60⟩ := cons_of_len k59
  obtain ⟨y60, L60, rfl, k61⟩ := cons_of_len k60
  obtain ⟨y61, L61, rfl, k62⟩ := cons_of_len k61
  obtain ⟨y62, L62, rfl, k63⟩ := cons_of_len k62
  obtain ⟨y63, L63, rfl, k64⟩ := cons_of_len k63
  obtain ⟨y64, L64, rfl, k65⟩ := cons_of_len k64
  obtain ⟨y65, L65, rfl, k66⟩ := cons_of_len k65
  obtain ⟨y66, L66, rfl, k67⟩ := cons_of_len k66
  obtain ⟨y67, L67, rfl, k68⟩ := cons_of_len k67
  obtain ⟨y68, L68, rfl, k69⟩ := cons_of_len k68
  obtain ⟨y69, L69, rfl, k70⟩ := cons_of_len k69
  obtain rfl : L69 = [] := List.eq_nil_of_length_eq_zero k70
  exact ⟨y0, y1, y2, y3, y4, y5, y6, y7, y8, y9, y10, y11, y12, y13, y14, y15, y16, y17, y18, y19, y20, y21, y22, y23, y24, y25, y26, y27, y28, y29, y30, y31, y32, y33, y34, y35, y36, y37, y38, y39, y40, y41, y42, y43, y44, y45, y46, y47, y48, y49, y50, y51, y52, y53, y54, y55, y56, y57, y58, y59, y60, y61, y62, y63, y64, y65, y66, y67, y68, y69, rfl⟩
theorem box_of (w : World) (k : Nat) (t : ByteArray) (Ts : List Tree) (s : Value) (d : Nat) (hf : Fits (.mk k t 0 0 Ts)) (hk : KidsAt w w.heap.size d Ts s) :
    BoxAt (w.alloc (.cells #[.int .u8 k, .string t, .int .i64 0, .int .i64 0, s] 25)) w.heap.size d (.mk k t 0 0 Ts) := by
  have hb : Below w.heap.size w (w.alloc (.cells #[.int .u8 k, .string t, .int .i64 0, .int .i64 0, s] 25)) := (Below.refl _ w).alloc (Nat.le_refl _) _
  exact ⟨s, heap_alloc_new w _, hf, s, rfl, (hk.below hb).up hb.size⟩
set_option maxRecDepth 100000 in
set_option maxHeartbeats 8000000 in
theorem awake_any : Awake := by
  intro w ht
  go_enter Tryz.func17, Tryz.ntmps17
  go_wp2_with fail
  refine Calls.mono (lawOf_any 3 ⟨#[120]⟩ none 0 0 _) ?_
  rintro e w1 ⟨rfl, hb1⟩
  go_wp2_with fail
  have hk1 := kids_lit w1 0 [xField] [.slice none 0 0] rfl (by simp) (nodeCells xField (.slice none 0 0)).toArray (by simp) 1 rfl (fun i T s hT hs => by
    match i with
    | 0 =>
      simp only [List.getElem?_cons_zero, Option.some.injEq] at hT hs
      subst hT; subst hs
      exact ⟨fits_lit 3 ⟨#[120]⟩ [] rfl, KidsAt.nil _ _ _⟩
    | i + 1 => simp at hT)
  have hb1' := hb1.trans (((Below.refl _ w1).alloc (Nat.le_refl _) (.cells (nodeCells xField (.slice none 0 0)).toArray 25)).mono hb1.size)
  rw [show w1.heap.size + 1 = (w1.alloc (.cells (nodeCells xField (.slice none 0 0)).toArray 25)).heap.size by rw [World.size_alloc]] at hk1
  have HK1 := Lib.hid hk1
  have HB1 := Lib.hid hb1'
  clear hb1 hb1' hk1
  change Calls Tryz.prog 13 #[.int .u8 2, .string ⟨#[104, 105, 118, 101]⟩, .slice (some ⟨w1.heap.size, 0, none⟩) 1 1] (w1.alloc (.cells (nodeCells xField (.slice none 0 0)).toArray 25)) _
  generalize w1.alloc (.cells (nodeCells xField (.slice none 0 0)).toArray 25) = v1 at *
  generalize w1.heap.size = g1 at *
  refine Calls.mono (lawOf_any 2 ⟨#[104, 105, 118, 101]⟩ (some ⟨g1, 0, none⟩) 1 1 v1) ?_
  rintro e w2 ⟨rfl, hb2⟩
  have hx := box_of w2 2 ⟨#[104, 105, 118, 101]⟩ [xField] (.slice (some ⟨g1, 0, none⟩) 1 1) 1 (fits_lit 2 ⟨#[104, 105, 118, 101]⟩ [xField] rfl) ((HK1.out.below hb2).up hb2.size)
  have hb2' := (HB1.out.trans (hb2.mono HB1.out.size)).trans (((Below.refl _ w2).alloc (Nat.le_refl _) (.cells #[.int .u8 2, .string ⟨#[104, 105, 118, 101]⟩, .int .i64 0, .int .i64 0, .slice (some ⟨g1, 0, none⟩) 1 1] 25)).mono (Nat.le_trans HB1.out.size hb2.size))
  have HX := Lib.hid hx
  have HB2 := Lib.hid hb2'
  clear hb2 hb2' hx
  go_wp2_with fail
  generalize w2.alloc (.cells #[.int .u8 2, .string ⟨#[104, 105, 118, 101]⟩, .int .i64 0, .int .i64 0, .slice (some ⟨g1, 0, none⟩) 1 1] 25) = v2 at *
  generalize w2.heap.size = g2 at *
  refine Calls.mono (lawOf_any 11 ⟨#[]⟩ none 0 0 _) ?_
  rintro e w3 ⟨rfl, hb3⟩
  have HX3 := Lib.hid (HX.out.below hb3)
  have HB3 := Lib.hid (HB2.out.trans (hb3.mono HB2.out.size))
  clear hb3
  go_wp2_with fail
  refine Calls.mono (lawOf_any 5 ⟨#[97]⟩ none 0 0 _) ?_
  rintro e w4 ⟨rfl, hb4⟩
  have HX4 := Lib.hid (HX3.out.below hb4)
  have HB4 := Lib.hid (HB3.out.trans (hb4.mono HB3.out.size))
  clear hb4
  go_wp2_with fail
  have hk5 := kids_lit w4 0 [haltA, aFact] [.slice none 0 0, .slice none 0 0] rfl (by simp) (nodeCells haltA (.slice none 0 0) ++ nodeCells aFact (.slice none 0 0)).toArray (by simp) 2 rfl (fun i T s hT hs => by
    match i with
    | 0 =>
      simp only [List.getElem?_cons_zero, Option.some.injEq] at hT hs
      subst hT; subst hs
      exact ⟨fits_lit 11 ⟨#[]⟩ [] rfl, KidsAt.nil _ _ _⟩
    | 1 =>
      simp only [List.getElem?_cons_succ, List.getElem?_cons_zero, Option.some.injEq] at hT hs
      subst hT; subst hs
      exact ⟨fits_lit 5 ⟨#[97]⟩ [] rfl, KidsAt.nil _ _ _⟩
    | i + 2 => simp at hT)
  have hba : Below w4.heap.size w4 (w4.alloc (.cells (nodeCells haltA (.slice none 0 0) ++ nodeCells aFact (.slice none 0 0)).toArray 25)) := (Below.refl _ w4).alloc (Nat.le_refl _) _
  rw [show w4.heap.size + 1 = (w4.alloc (.cells (nodeCells haltA (.slice none 0 0) ++ nodeCells aFact (.slice none 0 0)).toArray 25)).heap.size by rw [World.size_alloc]] at hk5
  have HK5 := Lib.hid hk5
  have HX5 := Lib.hid (HX4.out.below hba)
  have HB5 := Lib.hid (HB4.out.trans (hba.mono HB4.out.size))
  clear hba hk5
  change Calls Tryz.prog 13 #[.int .u8 4, .string ⟨#[114]⟩, .slice (some ⟨w4.heap.size, 0, none⟩) 2 2] (w4.alloc (.cells (nodeCells haltA (.slice none 0 0) ++ nodeCells aFact (.slice none 0 0)).toArray 25)) _
  generalize w4.alloc (.cells (nodeCells haltA (.slice none 0 0) ++ nodeCells aFact (.slice none 0 0)).toArray 25) = v5 at *
  generalize w4.heap.size = g5 at *
  refine Calls.mono (lawOf_any 4 ⟨#[114]⟩ (some ⟨g5, 0, none⟩) 2 2 v5) ?_
  rintro e w6 ⟨rfl, hb6⟩
  have hx6 := box_of w6 4 ⟨#[114]⟩ [haltA, aFact] (.slice (some ⟨g5, 0, none⟩) 2 2) 1 (fits_lit 4 ⟨#[114]⟩ [haltA, aFact] rfl) ((HK5.out.below hb6).up hb6.size)
  have hba : Below w6.heap.size w6 (w6.alloc (.cells #[.int .u8 4, .string ⟨#[114]⟩, .int .i64 0, .int .i64 0, .slice (some ⟨g5, 0, none⟩) 2 2] 25)) := (Below.refl _ w6).alloc (Nat.le_refl _) _
  have HX6 := Lib.hid ((HX5.out.below hb6).below hba)
  have HL6 := Lib.hid hx6
  have HB6 := Lib.hid ((HB5.out.trans (hb6.mono HB5.out.size)).trans (hba.mono (Nat.le_trans HB5.out.size hb6.size)))
  clear hb6 hba hx6
  go_wp2_with fail
  generalize w6.alloc (.cells #[.int .u8 4, .string ⟨#[114]⟩, .int .i64 0, .int .i64 0, .slice (some ⟨g5, 0, none⟩) 2 2] 25) = v6 at *
  generalize w6.heap.size = g6 at *
  have HT3 := Lib.hid (ht.below HB6.out)
  obtain ⟨sh, hh1, hh2⟩ := HX6.out
  obtain ⟨sl, hl1, hl2⟩ := HL6.out
  change BoxAt v6 g6 1 lateT at HL6
  refine wp_region_typed (by kernel_rfl) tyA 70 rfl (by kernel_rfl) (by kernel_rfl) (by kernel_rfl) (by decide) (hop_list ?_) ?_
  · refine allOps_cons (opTy_prog _ _ 0 [] rfl (Or.inl ⟨rfl, rfl⟩) rfl) ?_
    refine allOps_cons (opTy_right _ _ 0 (.mk 1 ⟨#[]⟩ 0 0 []) true rfl HT3.out ⟨0, _, _, rfl, by kernel_rfl, rfl, rfl, rfl⟩ (by kernel_rfl) (by kernel_rfl) rfl) ?_
    refine allOps_cons (opTy_move _ _ rfl ⟨1, _, _, rfl, by kernel_rfl, rfl, rfl, rfl⟩ rfl) ?_
    refine allOps_cons (opTy_load 1 _ 1 hiveT sh rfl (by kernel_rfl) rfl hh1 hh2 rfl) ?_
    refine allOps_cons (opTy_build1 _ _ 1 rfl ⟨⟨1, by decide, 3, _, _, rfl, by kernel_rfl, rfl, rfl, rfl⟩, trivial⟩ rfl) ?_
    refine allOps_cons (opTy_prog _ _ 2 [hiveT] rfl (Or.inr ⟨4, _, _, rfl, by kernel_rfl, rfl, rfl, rfl⟩) rfl) ?_
    refine allOps_cons (opTy_right _ _ 2 (.mk 1 ⟨#[]⟩ 0 0 [hiveT]) true rfl HT3.out ⟨5, _, _, rfl, by kernel_rfl, rfl, rfl, rfl⟩ (by kernel_rfl) (by kernel_rfl) rfl) ?_
    refine allOps_cons (opTy_pick _ _ _ _ rfl ⟨2, _, _, rfl, by kernel_rfl, rfl, rfl, rfl⟩ ⟨6, _, _, rfl, by kernel_rfl, rfl, rfl, rfl⟩ rfl) ?_
    refine allOps_cons (opTy_move _ _ rfl ⟨7, _, _, rfl, by kernel_rfl, rfl, rfl, rfl⟩ rfl) ?_
    refine allOps_cons (opTy_full _ rfl rfl) ?_
    refine allOps_cons (opTy_right _ _ 6 fullT true rfl HT3.out ⟨9, _, _, rfl, by kernel_rfl, rfl, rfl, rfl⟩ (by kernel_rfl) (by kernel_rfl) rfl) ?_
    refine allOps_cons (opTy_pick _ _ _ _ rfl ⟨8, _, _, rfl, by kernel_rfl, rfl, rfl, rfl⟩ ⟨10, _, _, rfl, by kernel_rfl, rfl, rfl, rfl⟩ rfl) ?_
    refine allOps_cons (opTy_move _ _ rfl ⟨11, _, _, rfl, by kernel_rfl, rfl, rfl, rfl⟩ rfl) ?_
    refine allOps_cons (opTy_load 1 _ 1 hiveT sh rfl (by kernel_rfl) rfl hh1 hh2 rfl) ?_
    refine allOps_cons (opTy_right _ _ 1 hiveT false rfl HT3.out ⟨13, _, _, rfl, by kernel_rfl, rfl, rfl, rfl⟩ (by kernel_rfl) (by kernel_rfl) rfl) ?_
    refine allOps_cons (opTy_not _ _ false true rfl ⟨14, _, _, rfl, by kernel_rfl, rfl, rfl, rfl⟩ rfl rfl) ?_
    refine allOps_cons (opTy_pick _ _ _ _ rfl ⟨12, _, _, rfl, by kernel_rfl, rfl, rfl, rfl⟩ ⟨15, _, _, rfl, by kernel_rfl, rfl, rfl, rfl⟩ rfl) ?_
    refine allOps_cons (opTy_move _ _ rfl ⟨16, _, _, rfl, by kernel_rfl, rfl, rfl, rfl⟩ rfl) ?_
    refine allOps_cons (opTy_load 2 _ 1 lateT sl rfl (by kernel_rfl) rfl hl1 hl2 rfl) ?_
    refine allOps_cons (opTy_build1 _ _ 1 rfl ⟨⟨1, by decide, 18, _, _, rfl, by kernel_rfl, rfl, rfl, rfl⟩, trivial⟩ rfl) ?_
    refine allOps_cons (opTy_prog _ _ 2 [lateT] rfl (Or.inr ⟨19, _, _, rfl, by kernel_rfl, rfl, rfl, rfl⟩) rfl) ?_
    refine allOps_cons (opTy_right _ _ 2 (.mk 1 ⟨#[]⟩ 0 0 [lateT]) false rfl HT3.out ⟨20, _, _, rfl, by kernel_rfl, rfl, rfl, rfl⟩ (by kernel_rfl) (by kernel_rfl) rfl) ?_
    refine allOps_cons (opTy_not _ _ false true rfl ⟨21, _, _, rfl, by kernel_rfl, rfl, rfl, rfl⟩ rfl rfl) ?_
    refine allOps_cons (opTy_pick _ _ _ _ rfl ⟨17, _, _, rfl, by kernel_rfl, rfl, rfl, rfl⟩ ⟨22, _, _, rfl, by kernel_rfl, rfl, rfl, rfl⟩ rfl) ?_
    refine allOps_cons (opTy_move _ _ rfl ⟨23, _, _, rfl, by kernel_rfl, rfl, rfl, rfl⟩ rfl) ?_
    refine allOps_cons (opTy_of 10 ⟨#[]⟩ _ _ 0 [] rfl (Or.inl ⟨rfl, rfl⟩) rfl rfl) ?_
    refine allOps_cons (opTy_build1 _ _ 0 rfl ⟨⟨0, by decide, 25, _, _, rfl, by kernel_rfl, rfl, rfl, rfl⟩, trivial⟩ rfl) ?_
    refine allOps_cons (opTy_of 4 ⟨#[114]⟩ _ _ 1 [(.mk 10 ⟨#[]⟩ 0 0 [])] rfl (Or.inr ⟨26, _, _, rfl, by kernel_rfl, rfl, rfl, rfl⟩) rfl rfl) ?_
    refine allOps_cons (opTy_build1 _ _ 1 rfl ⟨⟨1, by decide, 27, _, _, rfl, by kernel_rfl, rfl, rfl, rfl⟩, trivial⟩ rfl) ?_
    refine allOps_cons (opTy_prog _ _ 2 [(.mk 4 ⟨#[114]⟩ 0 0 [(.mk 10 ⟨#[]⟩ 0 0 [])])] rfl (Or.inr ⟨28, _, _, rfl, by kernel_rfl, rfl, rfl, rfl⟩) rfl) ?_
    refine allOps_cons (opTy_right _ _ 2 (.mk 1 ⟨#[]⟩ 0 0 [(.mk 4 ⟨#[114]⟩ 0 0 [(.mk 10 ⟨#[]⟩ 0 0 [])])]) false rfl HT3.out ⟨29, _, _, rfl, by kernel_rfl, rfl, rfl, rfl⟩ (by kernel_rfl) (by kernel_rfl) rfl) ?_
    refine allOps_cons (opTy_not _ _ false true rfl ⟨30, _, _, rfl, by kernel_rfl, rfl, rfl, rfl⟩ rfl rfl) ?_
    refine allOps_cons (opTy_pick _ _ _ _ rfl ⟨24, _, _, rfl, by kernel_rfl, rfl, rfl, rfl⟩ ⟨31, _, _, rfl, by kernel_rfl, rfl, rfl, rfl⟩ rfl) ?_
    refine allOps_cons (opTy_move _ _ rfl ⟨32, _, _, rfl, by kernel_rfl, rfl, rfl, rfl⟩ rfl) ?_
    refine allOps_cons (opTy_num ⟨#[45, 49]⟩ _ 0 rfl rfl rfl) ?_
    refine allOps_cons (opTy_build1 _ _ 0 rfl ⟨⟨0, by decide, 34, _, _, rfl, by kernel_rfl, rfl, rfl, rfl⟩, trivial⟩ rfl) ?_
    refine allOps_cons (opTy_of 7 ⟨#[]⟩ _ _ 1 [(.mk 14 ⟨#[45, 49]⟩ 0 0 [])] rfl (Or.inr ⟨35, _, _, rfl, by kernel_rfl, rfl, rfl, rfl⟩) rfl rfl) ?_
    refine allOps_cons (opTy_build1 _ _ 1 rfl ⟨⟨1, by decide, 36, _, _, rfl, by kernel_rfl, rfl, rfl, rfl⟩, trivial⟩ rfl) ?_
    refine allOps_cons (opTy_of 4 ⟨#[114]⟩ _ _ 2 [(.mk 7 ⟨#[]⟩ 0 0 [(.mk 14 ⟨#[45, 49]⟩ 0 0 [])])] rfl (Or.inr ⟨37, _, _, rfl, by kernel_rfl, rfl, rfl, rfl⟩) rfl rfl) ?_
    refine allOps_cons (opTy_build1 _ _ 2 rfl ⟨⟨2, by decide, 38, _, _, rfl, by kernel_rfl, rfl, rfl, rfl⟩, trivial⟩ rfl) ?_
    refine allOps_cons (opTy_prog _ _ 3 [(.mk 4 ⟨#[114]⟩ 0 0 [(.mk 7 ⟨#[]⟩ 0 0 [(.mk 14 ⟨#[45, 49]⟩ 0 0 [])])])] rfl (Or.inr ⟨39, _, _, rfl, by kernel_rfl, rfl, rfl, rfl⟩) rfl) ?_
    refine allOps_cons (opTy_right _ _ 3 (.mk 1 ⟨#[]⟩ 0 0 [(.mk 4 ⟨#[114]⟩ 0 0 [(.mk 7 ⟨#[]⟩ 0 0 [(.mk 14 ⟨#[45, 49]⟩ 0 0 [])])])]) false rfl HT3.out ⟨40, _, _, rfl, by kernel_rfl, rfl, rfl, rfl⟩ (by kernel_rfl) (by kernel_rfl) rfl) ?_
    refine allOps_cons (opTy_not _ _ false true rfl ⟨41, _, _, rfl, by kernel_rfl, rfl, rfl, rfl⟩ rfl rfl) ?_
    refine allOps_cons (opTy_pick _ _ _ _ rfl ⟨33, _, _, rfl, by kernel_rfl, rfl, rfl, rfl⟩ ⟨42, _, _, rfl, by kernel_rfl, rfl, rfl, rfl⟩ rfl) ?_
    refine allOps_cons (opTy_move _ _ rfl ⟨43, _, _, rfl, by kernel_rfl, rfl, rfl, rfl⟩ rfl) ?_
    refine allOps_cons (opTy_load 1 _ 1 hiveT sh rfl (by kernel_rfl) rfl hh1 hh2 rfl) ?_
    refine allOps_cons (opTy_build1 _ _ 1 rfl ⟨⟨1, by decide, 45, _, _, rfl, by kernel_rfl, rfl, rfl, rfl⟩, trivial⟩ rfl) ?_
    refine allOps_cons (opTy_prog _ _ 2 [hiveT] rfl (Or.inr ⟨46, _, _, rfl, by kernel_rfl, rfl, rfl, rfl⟩) rfl) ?_
    refine allOps_cons (opTy_deep _ _ 2 (.mk 1 ⟨#[]⟩ 0 0 [hiveT]) 3 rfl ⟨47, _, _, rfl, by kernel_rfl, rfl, rfl, rfl⟩ (by kernel_rfl) (by kernel_rfl) rfl) ?_
    refine allOps_cons (opTy_eql _ _ _ 3 3 true rfl ⟨48, _, _, rfl, by kernel_rfl, rfl, rfl, rfl⟩ (by kernel_rfl) rfl) ?_
    refine allOps_cons (opTy_pick _ _ _ _ rfl ⟨44, _, _, rfl, by kernel_rfl, rfl, rfl, rfl⟩ ⟨49, _, _, rfl, by kernel_rfl, rfl, rfl, rfl⟩ rfl) ?_
    refine allOps_cons (opTy_move _ _ rfl ⟨50, _, _, rfl, by kernel_rfl, rfl, rfl, rfl⟩ rfl) ?_
    refine allOps_cons (opTy_load 1 _ 1 hiveT sh rfl (by kernel_rfl) rfl hh1 hh2 rfl) ?_
    refine allOps_cons (opTy_build1 _ _ 1 rfl ⟨⟨1, by decide, 52, _, _, rfl, by kernel_rfl, rfl, rfl, rfl⟩, trivial⟩ rfl) ?_
    refine allOps_cons (opTy_prog _ _ 2 [hiveT] rfl (Or.inr ⟨53, _, _, rfl, by kernel_rfl, rfl, rfl, rfl⟩) rfl) ?_
    refine allOps_cons (opTy_load 1 _ 1 hiveT sh rfl (by kernel_rfl) rfl hh1 hh2 rfl) ?_
    refine allOps_cons (opTy_build1 _ _ 1 rfl ⟨⟨1, by decide, 55, _, _, rfl, by kernel_rfl, rfl, rfl, rfl⟩, trivial⟩ rfl) ?_
    refine allOps_cons (opTy_prog _ _ 2 [hiveT] rfl (Or.inr ⟨56, _, _, rfl, by kernel_rfl, rfl, rfl, rfl⟩) rfl) ?_
    refine allOps_cons (opTy_same _ _ _ 2 (.mk 1 ⟨#[]⟩ 0 0 [hiveT]) (.mk 1 ⟨#[]⟩ 0 0 [hiveT]) true rfl ⟨54, _, _, rfl, by kernel_rfl, rfl, rfl, rfl⟩ ⟨57, _, _, rfl, by kernel_rfl, rfl, rfl, rfl⟩ (by kernel_rfl) rfl) ?_
    refine allOps_cons (opTy_pick _ _ _ _ rfl ⟨51, _, _, rfl, by kernel_rfl, rfl, rfl, rfl⟩ ⟨58, _, _, rfl, by kernel_rfl, rfl, rfl, rfl⟩ rfl) ?_
    exact allOps_one
  · intro o a W ho hbW hd hsz hold hv
    have ho' := Option.some.inj ho
    subst ho'
    have h69 := hv 59 _ 69 (by decide) rfl rfl
    obtain ⟨y0, y1, y2, y3, y4, y5, y6, y7, y8, y9, y10, y11, y12, y13, y14, y15, y16, y17, y18, y19, y20, y21, y22, y23, y24, y25, y26, y27, y28, y29, y30, y31, y32, y33, y34, y35, y36, y37, y38, y39, y40, y41, y42, y43, y44, y45, y46, y47, y48, y49, y50, y51, y52, y53, y54, y55, y56, y57, y58, y59, y60, y61, y62, y63, y64, y65, y66, y67, y68, y69, rfl⟩ := frame70 a hsz hd
    obtain rfl : y69 = _ := h69
    have HBd := Lib.hid (HB6.out.trans (hbW.mono HB6.out.size))
    clear ho hd hsz hold hv hh1 hh2 hl1 hl2 hbW
    go_wp2_with fail
    go_ret
    exact ⟨rfl, HBd.out⟩
end Go.Proofs.YtfpohaipmnjflaaGreatDoor
