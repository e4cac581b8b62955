/- Several texts joined, each with its own sentence and conditions ahead of it: AwkC, RegTw, AwkD. -/
import Derived.Test.YtfpohaipmnjflaaGreatDoorMM
import Derived.Test.YtfpohaipmnjflaaGreatDoorML
/- The statements' program with a node of each kind; by contract. No condition. -/
namespace Go.Proofs.YtfpohaipmnjflaaGreatDoor
open Go.RowKit
/-- a box of nodes that was there -/
def BoxAt (w : World) (g d : Nat) (T : Tree) : Prop := ∃ s, w.heap[g]? = some (.cells (nodeCells T s).toArray 25 (0, 0)) ∧ NodeAt w w.heap.size d T (.agg (nodeCells T s).toArray)
theorem BoxAt.below {w w' : World} {g d : Nat} {T : Tree} (h : BoxAt w g d T) (hb : Below w.heap.size w w') : BoxAt w' g d T := by
  obtain ⟨s, h1, h2⟩ := h
  exact ⟨s, heap_below hb h1 (Array.getElem?_eq_some_iff.1 h1).1, (h2.below hb).up hb.size⟩
theorem BoxAt.lt {w : World} {g d : Nat} {T : Tree} (h : BoxAt w g d T) : g < w.heap.size := by
  obtain ⟨s, h1, _⟩ := h
  exact (Array.getElem?_eq_some_iff.1 h1).1
theorem BoxAt.stored {W : World} {g g' d : Nat} {T : Tree} (h : BoxAt W g' d T) (hz : W.heap[g]? = some (.cells zeroNode 25 (0, 0))) (hne : g' ≠ g) (hkb : kindsB d T.kids = true) (a b c e f : Value) : BoxAt (storeNode W g a b c e f) g' d T := by
  obtain ⟨s, h1, hf, s', h2, hk⟩ := h
  refine ⟨s, (storeNode_other _ _ _ _ _ _ hne).trans h1, hf, s', h2, ?_⟩
  rw [storeNode_size]
  exact KidsAt.stored hz (fun b hb => storeNode_other _ _ _ _ _ b hb) hkb hk
end Go.Proofs.YtfpohaipmnjflaaGreatDoor
/- What operations on truths are, and the looks at nodes: is it right, how deep, the same. Condition: the library's table of blanks lies as laid. -/
namespace Go.Proofs.YtfpohaipmnjflaaGreatDoor
open Go.RowKit
section
variable {l : List Oper} {a0 : Act} {w0 : World} {ty : Nat → RTy} {i : Nat} {o : Oper}
theorem Waits.val {x : Operand} {u : Value} {L : Nat} {a : Act} {W : World} (h : Waits l o ty x (.val u))
    (hv : ∀ (j : Nat) (oj : Oper) (t : Tmp), (∃ e ∈ o.after, Region.binds .any e = true ∧ e.on = j) → l[j]? = some oj → oj.dst = some t → HasTy L W (ty j) (a.tmps.getD t undef)) : a.eval x = u := h.has hv
end
end Go.Proofs.YtfpohaipmnjflaaGreatDoor
/- The statements of chapter 05 are awake; by contract. Condition: the library's table of blanks lies as laid. -/
namespace Go.Proofs.YtfpohaipmnjflaaGreatDoor
open Go.RowKit
end Go.Proofs.YtfpohaipmnjflaaGreatDoor
