/- The statements' program with a node of each kind; by contract. No condition. -/
import Derived.Test.YtoekldhdojpceaaGreatDoorMM
namespace Go.Proofs.YtoekldhdojpceaaGreatDoor
open Go.RowKit
/-- a box of nodes that was there -/
def BoxAt (w : World) (g d : Nat) (T : Tree) : Prop := ∃ s, w.heap[g]? = some (.cells (nodeCells T s).toArray 25 (0, 0)) ∧ NodeAt w w.heap.size d T (.agg (nodeCells T s).toArray)
theorem BoxAt.below {w w' : World} {g d : Nat} {T : Tree} (h : BoxAt w g d T) (hb : Below w.heap.size w w') : BoxAt w' g d T := by
  obtain ⟨s, h1, h2⟩ := h
  exact ⟨s, heap_below hb h1 (Array.getElem?_eq_some_iff.1 h1).1, (h2.below hb).up hb.size⟩
theorem BoxAt.lt {w : World} {g d : Nat} {T : Tree} (h : BoxAt w g d T) : g < w.heap.size := by
  obtain ⟨s, h1, _⟩ := h
  exact (Array.getElem?_eq_some_iff.1 h1).1
theorem BoxAt.stored {W : World} {g g' d : Nat} {T : Tree} (h : BoxAt W g' d T) (hz : W.heap[g]? = some (.cells zeroNode 25 (0, 0))) (hne : g' ≠ g) (hkb : kindsB d T.kids = true) (a b c e f : Value) : BoxAt (storeNode W g a b c e f) g' d T := by
  obtain ⟨s, h1, hf, s', h2, hk⟩ := h
  refine ⟨s, (storeNode_other _ _ _ _ _ _ hne).trans h1, hf, s', h2, ?_⟩
  rw [storeNode_size]
  exact KidsAt.stored hz (fun b hb => storeNode_other _ _ _ _ _ b hb) hkb hk
end Go.Proofs.YtoekldhdojpceaaGreatDoor
