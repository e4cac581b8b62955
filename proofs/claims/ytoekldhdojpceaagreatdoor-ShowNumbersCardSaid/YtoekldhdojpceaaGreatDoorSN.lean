/- Several texts joined, each with its own sentence and conditions ahead of it: AwkC, RegTw. -/
import Derived.Test.YtoekldhdojpceaaGreatDoorSM
/- The statements' program with a node of each kind; by contract. No condition. -/
namespace Go.Proofs.YtoekldhdojpceaaGreatDoor
open Go.RowKit
/-- a box of nodes that was there -/
def BoxAt (w : World) (g d : Nat) (T : Tree) : Prop := ∃ s, w.heap[g]? = some (.cells (nodeCells T s).toArray 25 (0, 0)) ∧ NodeAt w w.heap.size d T (.agg (nodeCells T s).toArray)
theorem BoxAt.below {w w' : World} {g d : Nat} {T : Tree} (h : BoxAt w g d T) (hb : Below w.heap.size w w') : BoxAt w' g d T := by
  obtain ⟨s, h1, h2⟩ := h
  exact ⟨s, heap_below hb h1 (Array.getElem?_eq_some_iff.1 h1).1, (h2.below hb).up hb.size⟩
theorem BoxAt.lt {w : World} {g d : Nat} {T : Tree} (h : BoxAt w g d T) : g < w.heap.size := by
  obtain ⟨s, h1, _⟩ := h
  exact (Array.getElem?_eq_some_iff.1 h1).1
theorem BoxAt.stored {W : World} {g g' d : Nat} {T : Tree} (h : BoxAt W g' d T) (hz : W.heap[g]? = some (.cells zeroNode 25 (0, 0))) (hne : g' ≠ g) (hkb : kindsB d T.kids = true) (a b c e f : Value) : BoxAt (storeNode W g a b c e f) g' d T := by
  obtain ⟨s, h1, hf, s', h2, hk⟩ := h
  refine ⟨s, (storeNode_other _ _ _ _ _ _ hne).trans h1, hf, s', h2, ?_⟩
  rw [storeNode_size]
  exact KidsAt.stored hz (fun b hb => storeNode_other _ _ _ _ _ b hb) hkb hk
theorem box_gen {W W' : World} {g d : Nat} {T : Tree} {s : Value} (hz : W.heap[g]? = some (.cells zeroNode 25 (0, 0))) (hf : Fits T) (hk : KidsAt W W.heap.size d T.kids s) (hkb : kindsB d T.kids = true) (ho : ∀ b, b ≠ g → W'.heap[b]? = W.heap[b]?) (hs : W'.heap.size = W.heap.size)
    (hg : W'.heap[g]? = some (.cells (nodeCells T s).toArray 25 (0, 0))) : BoxAt W' g d T := by
  refine ⟨s, hg, hf, _, rfl, ?_⟩
  rw [hs]
  exact KidsAt.stored hz ho hkb hk
theorem cons_of_len {n : Nat} {L : List Value} (h : L.length = n + 1) : ∃ x L', L = x :: L' ∧ L'.length = n := by
  cases L with
  | nil => simp at h
  | cons x L => exact ⟨x, L, rfl, by simpa using h⟩
end Go.Proofs.YtoekldhdojpceaaGreatDoor
/- What operations on truths are, and the looks at nodes: is it right, how deep, the same. Condition: the library's table of blanks lies as laid. -/
namespace Go.Proofs.YtoekldhdojpceaaGreatDoor
open Go.RowKit

def slimB : Nat → Tree → Bool
  | 0, T => decide (T.text.size ≤ 72007)
  | d + 1, T => decide (T.text.size ≤ 72007) && decide (T.kids.length ≤ 20000) && T.kids.all (slimB d)
theorem slim_of_b : ∀ (d : Nat) (T : Tree), slimB d T = true → Slim d T := by
  intro d
  induction d with
  | zero => intro T h; unfold slimB at h; unfold Slim; exact of_decide_eq_true h
  | succ d ih =>
    intro T h
    unfold slimB at h
    simp only [Bool.and_eq_true, decide_eq_true_eq, List.all_eq_true] at h
    exact ⟨h.1.1, h.1.2, fun k hk => ih k (h.2 k hk)⟩
section
variable {l : List Oper} {a0 : Act} {w0 : World} {ty : Nat → RTy} {i : Nat} {o : Oper}
theorem Waits.val {x : Operand} {u : Value} {L : Nat} {a : Act} {W : World} (h : Waits l o ty x (.val u))
    (hv : ∀ (j : Nat) (oj : Oper) (t : Tmp), (∃ e ∈ o.after, Region.binds .any e = true ∧ e.on = j) → l[j]? = some oj → oj.dst = some t → HasTy L W (ty j) (a.tmps.getD t undef)) : a.eval x = u := h.has hv
theorem opTy_move (x : Operand) (u : Value) (ho : o.op = .move x) (hx : Waits l o ty x (.val u)) (hty : ty i = .val u) : OpTy l a0 w0 ty i o := by
  intro a W Q' _ _ hv
  have h := hx.val hv
  have hrun : (execOp a.eval o).run Tryz.prog W = .ok (.value u) W := by
    unfold execOp
    simp only [ho, h]
    rfl
  unfold Oper.wp
  rw [hrun, Oper.upon_value]
  exact ⟨_, rfl, Below.refl _ _, by rw [hty]; rfl⟩
theorem opTy_pick (c x y : Operand) (u : Value) (ho : o.op = .pick c x y) (hc : Waits l o ty c (.val (.bool true))) (hx : Waits l o ty x (.val u)) (hty : ty i = .val u) : OpTy l a0 w0 ty i o := by
  intro a W Q' _ _ hv
  have h1 := hc.val hv
  have h2 := hx.val hv
  have hrun : (execOp a.eval o).run Tryz.prog W = .ok (.value u) W := by
    unfold execOp
    simp only [ho, h1, h2]
    rfl
  unfold Oper.wp
  rw [hrun, Oper.upon_value]
  exact ⟨u, rfl, Below.refl _ _, by rw [hty]; rfl⟩
theorem opTy_eql (x : Operand) (t u : TypeId) (n m : Int) (c : Bool) (ho : o.op = .binOp .eql t x (.const (.int .i64 m)) u) (hx : Waits l o ty x (.val (.int .i64 n))) (hc : (n == m) = c) (hty : ty i = .val (.bool c)) : OpTy l a0 w0 ty i o := by
  intro a W Q' _ _ hv
  have h1 := hx.val hv
  have hrun : (execOp a.eval o).run Tryz.prog W = .ok (.value (.bool (n == m))) W := by
    unfold execOp
    simp only [ho, h1]
    rfl
  unfold Oper.wp
  rw [hrun, Oper.upon_value]
  exact ⟨_, rfl, Below.refl _ _, by rw [hty, hc]; rfl⟩
end
end Go.Proofs.YtoekldhdojpceaaGreatDoor
