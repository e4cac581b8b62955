/- Several texts joined, each with its own sentence and conditions ahead of it: BackA, BackB, BackC, BackD, BackE. -/
import Derived.Test.YtfpohaipmnjflaaGreatDoorMZM
import Derived.Test.YtfpohaipmnjflaaGreatDoorMZL
import Derived.Test.YtfpohaipmnjflaaGreatDoorMZK
/- The parser reads a tree's tokens as the tree: expressions; with no program in sight. Condition: the tree is right. -/
namespace Go.Proofs.YtfpohaipmnjflaaGreatDoor
open Go.RowKit
/-- these tokens stand from a place on -/
def Has (ts : List Tok) (k : Nat) (l : List KT) : Prop := ∀ i t, l[i]? = some t → ∃ pl, ts[k + i]? = some (t.1, t.2, pl)
section
variable {ts : List Tok}
theorem Has.left {k : Nat} {a b : List KT} (h : Has ts k (a ++ b)) : Has ts k a := fun i t hi => h i t (by rw [List.getElem?_append_left (List.getElem?_eq_some_iff.1 hi).1]; exact hi)
theorem Has.right {k : Nat} {a b : List KT} (h : Has ts k (a ++ b)) : Has ts (k + a.length) b := fun i t hi => by
  rw [Nat.add_assoc]
  exact h (a.length + i) t (by rw [List.getElem?_append_right (by omega)]; simpa using hi)
theorem Has.one {k : Nat} {t : KT} (h : Has ts k [t]) : ∃ pl, ts[k]? = some (t.1, t.2, pl) := h 0 t rfl
theorem Has.lt {k : Nat} {l : List KT} (h : Has ts k l) (hl : l ≠ []) : k + l.length ≤ ts.length := by
  obtain ⟨t, q, rfl⟩ := List.exists_cons_of_ne_nil hl
  obtain ⟨u, hu⟩ : ∃ u, (t :: q)[q.length]? = some u := ⟨_, List.getElem?_eq_getElem (by simp)⟩
  obtain ⟨pl, hp⟩ := h q.length u hu
  have := (List.getElem?_eq_some_iff.1 hp).1
  simp only [List.length_cons]
  omega
/-- no operator of these levels stands there -/
def NoOp (ts : List Tok) (lvl k : Nat) : Prop := ∀ j, lvl ≤ j → j < 5 → isM ts (k, false) (lvl6 j) = false
theorem NoOp.up {lvl lvl' k : Nat} (h : NoOp ts lvl k) (hl : lvl ≤ lvl') : NoOp ts lvl' k := fun j h1 h2 => h j (by omega) h2
end
end Go.Proofs.YtfpohaipmnjflaaGreatDoor
/- The parser reads an expression's tokens as the expression; with no program in sight. Condition: the tree is right. -/
namespace Go.Proofs.YtfpohaipmnjflaaGreatDoor
open Go.RowKit
section
variable (ts : List Tok)
end
section
variable {ts : List Tok}
end
end Go.Proofs.YtfpohaipmnjflaaGreatDoor
/- The parser reads a tree's tokens as the tree: arguments, rows, lists, conditions, actions, rules, types, programs; with no program in sight. Condition: the tree is right. -/
namespace Go.Proofs.YtfpohaipmnjflaaGreatDoor
open Go.RowKit

section
variable {ts : List Tok}
/-- behind a part: a sign that ends it -/
def EndAt (ts : List Tok) (k : Nat) : Prop := ∃ pl x, ts[k]? = some (6, x, pl) ∧ x.data.toList ∈ [[41], [44], [59]]
theorem EndAt.of {k : Nat} {c : UInt8} (h : Has ts k [sgT c]) (hc : c ∈ [41, 44, 59]) : EndAt ts k := by
  obtain ⟨pl, h1⟩ := h.one
  refine ⟨pl, mkB [c], h1, ?_⟩
  show [c] ∈ _
  simp only [List.mem_cons, List.not_mem_nil, or_false] at hc ⊢
  rcases hc with rfl | rfl | rfl <;> simp
/-- what stands behind a whole row: an end that is no comma -/
def EndRow (ts : List Tok) (k : Nat) : Prop := ∃ pl x, ts[k]? = some (6, x, pl) ∧ x.data.toList ∈ [[41], [59]]
theorem EndRow.of {k : Nat} {c : UInt8} (h : Has ts k [sgT c]) (hc : c ∈ [41, 59]) : EndRow ts k := by
  obtain ⟨pl, h1⟩ := h.one
  refine ⟨pl, mkB [c], h1, ?_⟩
  show [c] ∈ _
  simp only [List.mem_cons, List.not_mem_nil, or_false] at hc ⊢
  rcases hc with rfl | rfl <;> simp
end
end Go.Proofs.YtfpohaipmnjflaaGreatDoor
/- The parser reads a tree's tokens as the tree: rules, types, programs; with no program in sight. Condition: the tree is right. -/
namespace Go.Proofs.YtfpohaipmnjflaaGreatDoor
open Go.RowKit

section
variable {ts : List Tok}
end
end Go.Proofs.YtfpohaipmnjflaaGreatDoor
/- A right tree's text, parsed, is the tree, but for places; with no program in sight. Condition: at most 16384 bytes. -/
namespace Go.Proofs.YtfpohaipmnjflaaGreatDoor
open Go.RowKit
/-! at another depth -/
theorem foldl_max_le {l : List Nat} {a n : Nat} (ha : a ≤ n) (h : ∀ x ∈ l, x ≤ n) : l.foldl Nat.max a ≤ n := by
  induction l generalizing a with
  | nil => exact ha
  | cons x l ih =>
    rw [List.foldl_cons]
    exact ih (Nat.max_le.2 ⟨ha, h x (by simp)⟩) fun y hy => h y (List.mem_cons_of_mem _ hy)
end Go.Proofs.YtfpohaipmnjflaaGreatDoor
