/- Several texts joined, each with its own sentence and conditions ahead of it: AwkC, RegTw. -/
import Derived.Test.YtineejjdbjdliaaGreatDoorMM
/- The statements' program with a node of each kind; by contract. No condition. -/
namespace Go.Proofs.YtineejjdbjdliaaGreatDoor
open Go.RowKit

def numT (t : ByteArray) : Tree := .mk 14 t 0 0 []
def xT : Tree := .mk 13 ⟨#[120]⟩ 0 0 []
def bT : Tree := .mk 15 ⟨#[114, 117, 108, 101]⟩ 0 0 []
def minusT : Tree := .mk 16 ⟨#[45]⟩ 0 0 [numT ⟨#[48, 55]⟩]
def notT : Tree := .mk 16 ⟨#[110, 111, 116]⟩ 0 0 [xT]
def sumT : Tree := .mk 16 ⟨#[43]⟩ 0 0 [minusT, notT]
def anyT : Tree := .mk 12 ⟨#[]⟩ 0 0 []
def factT : Tree := .mk 5 ⟨#[104, 105, 118, 101]⟩ 0 0 [anyT, xT, numT ⟨#[45, 53]⟩, bT]
def noneT : Tree := .mk 6 ⟨#[104, 105, 118, 101]⟩ 0 0 []
def leT : Tree := .mk 16 ⟨#[60, 61]⟩ 0 0 [xT, sumT]
def testT : Tree := .mk 7 ⟨#[]⟩ 0 0 [leT]
def assertT : Tree := .mk 8 ⟨#[104, 105, 118, 101]⟩ 0 0 [sumT, bT]
def retractT : Tree := .mk 9 ⟨#[]⟩ 0 0 []
def sayT : Tree := .mk 10 ⟨#[]⟩ 0 0 [numT ⟨#[57, 50, 50, 51, 51, 55, 50, 48, 51, 54, 56, 53, 52, 55, 55, 53, 56, 48, 55]⟩]
def haltT : Tree := .mk 11 ⟨#[]⟩ 0 0 []
def ruleK : List Tree := [factT, noneT, testT, assertT, retractT, sayT, haltT]
def ruleT : Tree := .mk 4 ⟨#[114]⟩ 0 0 ruleK
def allT : Tree := .mk 4 ⟨#[114]⟩ (-7) 0 ruleK
def fieldA : Tree := .mk 3 ⟨#[97]⟩ 0 0 []
def fieldB : Tree := .mk 3 ⟨#[98]⟩ 0 0 []
def typeT : Tree := .mk 2 ⟨#[104, 105, 118, 101]⟩ 0 0 [fieldA, fieldB]
def lastT : Tree := .mk 4 ⟨#[110, 111, 110, 101]⟩ 0 0 []
def fullT : Tree := .mk 1 ⟨#[]⟩ 0 0 [typeT, allT, lastT]
def ty2 : Nat → RTy
  | 0 => .node 0 (numT ⟨#[48, 55]⟩)
  | 1 => .kids 1 [(numT ⟨#[48, 55]⟩)]
  | 2 => .node 1 minusT
  | 3 => .node 0 xT
  | 4 => .kids 1 [xT]
  | 5 => .node 1 notT
  | 6 => .kids 2 [minusT, notT]
  | 7 => .node 2 sumT
  | 8 => .box
  | _ => .raw
def ty3 : Nat → RTy
  | 0 => .node 0 anyT
  | 1 => .node 0 xT
  | 2 => .node 0 (numT ⟨#[45, 53]⟩)
  | 3 => .node 0 bT
  | 4 => .kids 1 [anyT, xT, (numT ⟨#[45, 53]⟩), bT]
  | 5 => .node 1 factT
  | 6 => .node 0 noneT
  | 7 => .node 0 xT
  | 8 => .node 2 sumT
  | 9 => .kids 3 [xT, sumT]
  | 10 => .node 3 leT
  | 11 => .kids 4 [leT]
  | 12 => .node 4 testT
  | 13 => .node 2 sumT
  | 14 => .node 0 bT
  | 15 => .kids 3 [sumT, bT]
  | 16 => .node 3 assertT
  | 17 => .node 0 retractT
  | 18 => .node 0 (numT ⟨#[57, 50, 50, 51, 51, 55, 50, 48, 51, 54, 56, 53, 52, 55, 55, 53, 56, 48, 55]⟩)
  | 19 => .kids 1 [(numT ⟨#[57, 50, 50, 51, 51, 55, 50, 48, 51, 54, 56, 53, 52, 55, 55, 53, 56, 48, 55]⟩)]
  | 20 => .node 1 sayT
  | 21 => .node 0 haltT
  | 22 => .kids 5 [factT, noneT, testT, assertT, retractT, sayT, haltT]
  | 23 => .node 5 ruleT
  | 24 => .box
  | _ => .raw
def ty5 : Nat → RTy
  | 0 => .node 0 fieldA
  | 1 => .node 0 fieldB
  | 2 => .kids 1 [fieldA, fieldB]
  | 3 => .node 1 typeT
  | 4 => .node 5 allT
  | 5 => .node 0 lastT
  | 6 => .kids 6 [typeT, allT, lastT]
  | 7 => .node 6 fullT
  | _ => .raw
/-- a box of nodes that was there -/
def BoxAt (w : World) (g d : Nat) (T : Tree) : Prop := ∃ s, w.heap[g]? = some (.cells (nodeCells T s).toArray 26 (0, 0)) ∧ NodeAt w w.heap.size d T (.agg (nodeCells T s).toArray)
theorem BoxAt.below {w w' : World} {g d : Nat} {T : Tree} (h : BoxAt w g d T) (hb : Below w.heap.size w w') : BoxAt w' g d T := by
  obtain ⟨s, h1, h2⟩ := h
  exact ⟨s, heap_below hb h1 (Array.getElem?_eq_some_iff.1 h1).1, (h2.below hb).up hb.size⟩
theorem BoxAt.lt {w : World} {g d : Nat} {T : Tree} (h : BoxAt w g d T) : g < w.heap.size := by
  obtain ⟨s, h1, _⟩ := h
  exact (Array.getElem?_eq_some_iff.1 h1).1
theorem box_stored {W : World} {g d : Nat} {T : Tree} {s : Value} (hz : W.heap[g]? = some (.cells zeroNode 26 (0, 0))) (hf : Fits T) (hk : KidsAt W W.heap.size d T.kids s) (hkb : kindsB d T.kids = true) :
    BoxAt (storeNode W g (.int .u8 T.kind) (.string T.text) (.int .i64 T.num) (.int .i64 T.place) s) g d T := by
  refine ⟨s, storeNode_at hz _ _ _ _ _, hf, _, rfl, ?_⟩
  rw [storeNode_size]
  exact KidsAt.stored hz (fun b hb => storeNode_other _ _ _ _ _ b hb) hkb hk
theorem BoxAt.stored {W : World} {g g' d : Nat} {T : Tree} (h : BoxAt W g' d T) (hz : W.heap[g]? = some (.cells zeroNode 26 (0, 0))) (hne : g' ≠ g) (hkb : kindsB d T.kids = true) (a b c e f : Value) : BoxAt (storeNode W g a b c e f) g' d T := by
  obtain ⟨s, h1, hf, s', h2, hk⟩ := h
  refine ⟨s, (storeNode_other _ _ _ _ _ _ hne).trans h1, hf, s', h2, ?_⟩
  rw [storeNode_size]
  exact KidsAt.stored hz (fun b hb => storeNode_other _ _ _ _ _ b hb) hkb hk
theorem box_gen {W W' : World} {g d : Nat} {T : Tree} {s : Value} (hz : W.heap[g]? = some (.cells zeroNode 26 (0, 0))) (hf : Fits T) (hk : KidsAt W W.heap.size d T.kids s) (hkb : kindsB d T.kids = true) (ho : ∀ b, b ≠ g → W'.heap[b]? = W.heap[b]?) (hs : W'.heap.size = W.heap.size)
    (hg : W'.heap[g]? = some (.cells (nodeCells T s).toArray 26 (0, 0))) : BoxAt W' g d T := by
  refine ⟨s, hg, hf, _, rfl, ?_⟩
  rw [hs]
  exact KidsAt.stored hz ho hkb hk
theorem cons_of_len {n : Nat} {L : List Value} (h : L.length = n + 1) : ∃ x L', L = x :: L' ∧ L'.length = n := by
  cases L with
  | nil => simp at h
  | cons x L => exact ⟨x, L, rfl, by simpa using h⟩
theorem frame48 (a : Act) (h : a.tmps.size = 48) (hd : a.defers = []) : ∃ y0 y1 y2 y3 y4 y5 y6 y7 y8 y9 y10 y11 y12 y13 y14 y15 y16 y17 y18 y19 y20 y21 y22 y23 y24 y25 y26 y27 y28 y29 y30 y31 y32 y33 y34 y35 y36 y37 y38 y39 y40 y41 y42 y43 y44 y45 y46 y47 : Value, a = ⟨#[y0, y1, y2, y3, y4, y5, y6, y7, y8, y9, y10, y11, y12, y13, y14, y15, y16, y17, y18, y19, y20, y21, y22, y23, y24, y25, y26, y27, y28, y29, y30, y31, y32, y33, y34, y35, y36, y37, y38, y39, y40, y41, y42, y43, y44, y45, y46, y47], []⟩ := by
  obtain ⟨⟨L⟩, D⟩ := a
  have hd' : D = [] := hd
  subst hd'
  have k0 : L.length = 48 := h
  clear h hd
  obtain ⟨y0, L0, rfl, k1⟩ := cons_of_len k0
  obtain ⟨y1, L1, rfl, k2⟩ := cons_of_len k1
  obtain ⟨y2, L2, rfl, k3⟩ := cons_of_len k2
  obtain ⟨y3, L3, rfl, k4⟩ := cons_of_len k3
  obtain ⟨y4, L4, rfl, k5⟩ := cons_of_len k4
  obtain ⟨y5, L5, rfl, k6⟩ := cons_of_len k5
  obtain ⟨y6, L6, rfl, k7⟩ := cons_of_len k6
  obtain ⟨y7, L7, rfl, k8⟩ := cons_of_len k7
  obtain ⟨y8, L8, rfl, k9⟩ := cons_of_len k8
  obtain ⟨y9, L9, rfl, k10⟩ := cons_of_len k9
  obtain ⟨y10, L10, rfl, k11⟩ := cons_of_len k10
  obtain ⟨y11, L11, rfl, k12⟩ := cons_of_len k11
  obtain ⟨y12, L12, rfl, k13⟩ := cons_of_len k12
  obtain ⟨y13, L13, rfl, k14⟩ := cons_of_len k13
  obtain ⟨y14, L14, rfl, k15⟩ := cons_of_len k14
  obtain ⟨y15, L15, rfl, k16⟩ := cons_of_len k15
  obtain ⟨y16, L16, rfl, k17⟩ := cons_of_len k16
  obtain ⟨y17, L17, rfl, k18⟩ := cons_of_len k17
  obtain ⟨y18, L18, rfl, k19⟩ := cons_of_len k18
  obtain ⟨y19, L19, rfl, k20⟩ := cons_of_len k19
  obtain ⟨y20, L20, rfl, k21⟩ := cons_of_len k20
  obtain ⟨y21, L21, rfl, k22⟩ := cons_of_len k21
  obtain ⟨y22, L22, rfl, k23⟩ := cons_of_len k22
  obtain ⟨y23, L23, rfl, k24⟩ := cons_of_len k23
  obtain ⟨y24, L24, rfl, k25⟩ := cons_of_len k24
  obtain ⟨y25, L25, rfl, k26⟩ := cons_of_len k25
  obtain ⟨y26, L26, rfl, k27⟩ := cons_of_len k26
  obtain ⟨y27, L27, rfl, k28⟩ := cons_of_len k27
  obtain ⟨y28, L28, rfl, k29⟩ := cons_of_len k28
  obtain ⟨y29, L29, rfl, k30⟩ := cons_of_len k29
  obtain ⟨y30, L30, rfl, k31⟩ := cons_of_len k30
  obtain ⟨y31, L31, rfl, k32⟩ := cons_of_len k31
  obtain ⟨y32, L32, rfl, k33⟩ := cons_of_len k32
  obtain ⟨y33, L33, rfl, k34⟩ := cons_of_len k33
  obtain ⟨y34, L34, rfl, k35⟩ := cons_of_len k34
  obtain ⟨y35, L35, rfl, k36⟩ := cons_of_len k35
  obtain ⟨y36, L36, rfl, k37⟩ := cons_of_len k36
  obtain ⟨y37, L37, rfl, k38⟩ := cons_of_len k37
  obtain ⟨y38, L38, rfl, k39⟩ := cons_of_len k38
  obtain ⟨y39, L39, rfl, k40⟩ := cons_of_len k39
  obtain ⟨y40, L40, rfl, k41⟩ := cons_of_len k40
  obtain ⟨y41, L41, rfl, k42⟩ := cons_of_len k41
  obtain ⟨y42, L42, rfl, k43⟩ := cons_of_len k42
  obtain ⟨y43, L43, rfl, k44⟩ := cons_of_len k43
  obtain ⟨y44, L44, rfl, k45⟩ := cons_of_len k44
  obtain ⟨y45, L45, rfl, k46⟩ := cons_of_len k45
  obtain ⟨y46, L46, rfl, k47⟩ := cons_of_len k46
  obtain ⟨y47, L47, rfl, k48⟩ := cons_of_len k47
  obtain rfl : L47 = [] := List.eq_nil_of_length_eq_zero k48
  exact ⟨y0, y1, y2, y3, y4, y5, y6, y7, y8, y9, y10, y11, y12, y13, y14, y15, y16, y17, y18, y19, y20, y21, y22, y23, y24, y25, y26, y27, y28, y29, y30, y31, y32, y33, y34, y35, y36, y37, y38, y39, y40, y41, y42, y43, y44, y45, y46, y47, rfl⟩
theorem old_of {l : List Oper} {t : Nat} (h : (l.all fun o' => decide (o'.dst ≠ some t)) = true) : ∀ (j : Nat) (o' : Oper), l[j]? = some o' → o'.dst ≠ some t := fun j o' hj => by
  have := List.all_eq_true.1 h o' (List.mem_of_getElem? hj)
  simpa using this

theorem box_val {w : World} {g d : Nat} {T : Tree} {s : Value} (h : BoxAt w g d T) (hg : w.heap[g]? = some (.cells #[.int .u8 T.kind, .string T.text, .int .i64 T.num, .int .i64 T.place, s] 26 (0, 0))) : NodeAt w w.heap.size d T (.agg #[.int .u8 T.kind, .string T.text, .int .i64 T.num, .int .i64 T.place, s]) := by
  obtain ⟨s', h1, h2⟩ := h
  have := h1.symm.trans hg
  simp only [nodeCells, Option.some.injEq, Obj.cells.injEq, Array.mk.injEq, List.cons.injEq, and_true, true_and] at this
  rw [← this]
  exact h2
def FullPost (w : World) (e : Ending) (w' : World) : Prop := ∃ p n c, e = .returned (.agg #[.int .u8 fullT.kind, .string fullT.text, .int .i64 fullT.num, .int .i64 fullT.place, .slice p n c]) ∧ Below w.heap.size w w' ∧ NodeAt w' w'.heap.size 6 fullT (.agg #[.int .u8 fullT.kind, .string fullT.text, .int .i64 fullT.num, .int .i64 fullT.place, .slice p n c])
end Go.Proofs.YtineejjdbjdliaaGreatDoor
/- What operations on truths are, and the looks at nodes: is it right, how deep, the same. Condition: the library's table of blanks lies as laid. -/
namespace Go.Proofs.YtineejjdbjdliaaGreatDoor
open Go.RowKit

def slimB : Nat → Tree → Bool
  | 0, T => decide (T.text.size ≤ 72007)
  | d + 1, T => decide (T.text.size ≤ 72007) && decide (T.kids.length ≤ 20000) && T.kids.all (slimB d)
theorem slim_of_b : ∀ (d : Nat) (T : Tree), slimB d T = true → Slim d T := by
  intro d
  induction d with
  | zero => intro T h; unfold slimB at h; unfold Slim; exact of_decide_eq_true h
  | succ d ih =>
    intro T h
    unfold slimB at h
    simp only [Bool.and_eq_true, decide_eq_true_eq, List.all_eq_true] at h
    exact ⟨h.1.1, h.1.2, fun k hk => ih k (h.2 k hk)⟩
section
variable {l : List Oper} {a0 : Act} {w0 : World} {ty : Nat → RTy} {i : Nat} {o : Oper}
theorem Waits.val {x : Operand} {u : Value} {L : Nat} {a : Act} {W : World} (h : Waits l o ty x (.val u))
    (hv : ∀ (j : Nat) (oj : Oper) (t : Tmp), (∃ e ∈ o.after, Region.binds .any e = true ∧ e.on = j) → l[j]? = some oj → oj.dst = some t → HasTy L W (ty j) (a.tmps.getD t undef)) : a.eval x = u := h.has hv
theorem opTy_move (x : Operand) (u : Value) (ho : o.op = .move x) (hx : Waits l o ty x (.val u)) (hty : ty i = .val u) : OpTy l a0 w0 ty i o := by
  intro a W Q' _ _ hv
  have h := hx.val hv
  have hrun : (execOp a.eval o).run Tryz.prog W = .ok (.value u) W := by
    unfold execOp
    simp only [ho, h]
    rfl
  unfold Oper.wp
  rw [hrun, Oper.upon_value]
  exact ⟨_, rfl, Below.refl _ _, by rw [hty]; rfl⟩
theorem opTy_pick (c x y : Operand) (u : Value) (ho : o.op = .pick c x y) (hc : Waits l o ty c (.val (.bool true))) (hx : Waits l o ty x (.val u)) (hty : ty i = .val u) : OpTy l a0 w0 ty i o := by
  intro a W Q' _ _ hv
  have h1 := hc.val hv
  have h2 := hx.val hv
  have hrun : (execOp a.eval o).run Tryz.prog W = .ok (.value u) W := by
    unfold execOp
    simp only [ho, h1, h2]
    rfl
  unfold Oper.wp
  rw [hrun, Oper.upon_value]
  exact ⟨u, rfl, Below.refl _ _, by rw [hty]; rfl⟩
theorem opTy_not (x : Operand) (t : TypeId) (b c : Bool) (ho : o.op = .unOp .not t x) (hx : Waits l o ty x (.val (.bool b))) (hc : (!b) = c) (hty : ty i = .val (.bool c)) : OpTy l a0 w0 ty i o := by
  intro a W Q' _ _ hv
  have h1 := hx.val hv
  have hrun : (execOp a.eval o).run Tryz.prog W = .ok (.value (.bool (!b))) W := by
    unfold execOp
    simp only [ho, h1]
    rfl
  unfold Oper.wp
  rw [hrun, Oper.upon_value]
  exact ⟨_, rfl, Below.refl _ _, by rw [hty, hc]; rfl⟩
theorem opTy_right (x : Operand) (tys : Array TypeId) (d : Nat) (T : Tree) (b : Bool) (ho : o.op = .call { callee := .value (.func 13), args := #[x], argTypes := tys }) (ht : AsciiTab w0)
    (hx : Waits l o ty x (.node d T)) (hs : slimB d T = true) (hb : rightF d T = b) (hty : ty i = .val (.bool b)) : OpTy l a0 w0 ty i o := by
  intro a W Q' hbw _ hv
  have hn : NodeAt W W.heap.size d T (a.eval x) := hx.has hv
  refine step_call 13 _ tys ho #[a.eval x] (by simp) (enters_of Tryz.func13 (by kernel_rfl) rfl) ?_
  refine (nodeRight_any d T _ _ W hn (Nat.le_refl _) (slim_of_b d T hs) (ht.below hbw)).mono ?_
  rintro e W' ⟨rfl, hb'⟩
  exact ⟨_, rfl, _, rfl, hb', by rw [hty, hb]; rfl⟩
theorem opTy_same (x y : Operand) (tys : Array TypeId) (d : Nat) (T U : Tree) (b : Bool) (ho : o.op = .call { callee := .value (.func 14), args := #[x, y], argTypes := tys })
    (hx : Waits l o ty x (.node d T)) (hy : Waits l o ty y (.node d U)) (hb : sameF d T U = b) (hty : ty i = .val (.bool b)) : OpTy l a0 w0 ty i o := by
  intro a W Q' hbw _ hv
  have hn : NodeAt W W.heap.size d T (a.eval x) := hx.has hv
  have hm : NodeAt W W.heap.size d U (a.eval y) := hy.has hv
  refine step_call 14 _ tys ho #[a.eval x, a.eval y] (by simp) (enters_of Tryz.func14 (by kernel_rfl) rfl) ?_
  refine (same_any d T U _ _ _ _ W hn hm (Nat.le_refl _) (Nat.le_refl _)).mono ?_
  rintro e W' ⟨rfl, hb'⟩
  exact ⟨_, rfl, _, rfl, hb', by rw [hty, hb]; rfl⟩
theorem opTy_eql (x : Operand) (t u : TypeId) (n m : Int) (c : Bool) (ho : o.op = .binOp .eql t x (.const (.int .i64 m)) u) (hx : Waits l o ty x (.val (.int .i64 n))) (hc : (n == m) = c) (hty : ty i = .val (.bool c)) : OpTy l a0 w0 ty i o := by
  intro a W Q' _ _ hv
  have h1 := hx.val hv
  have hrun : (execOp a.eval o).run Tryz.prog W = .ok (.value (.bool (n == m))) W := by
    unfold execOp
    simp only [ho, h1]
    rfl
  unfold Oper.wp
  rw [hrun, Oper.upon_value]
  exact ⟨_, rfl, Below.refl _ _, by rw [hty, hc]; rfl⟩
end
end Go.Proofs.YtineejjdbjdliaaGreatDoor
