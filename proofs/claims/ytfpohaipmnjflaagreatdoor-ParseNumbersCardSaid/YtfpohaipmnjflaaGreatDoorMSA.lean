/- Several texts joined, each with its own sentence and conditions ahead of it: ShowM, ShowN. -/
import Derived.Test.YtfpohaipmnjflaaGreatDoorME
import Derived.Lib.ItoaNum
/- A tree's text, as the document says it, and how long it is; with no program in sight. No condition. -/
namespace Go.Proofs.YtfpohaipmnjflaaGreatDoor
open Go.RowKit

def txL (T : Tree) : List UInt8 := T.text.data.toList
/-! how long -/
theorem manyF_pos (d : Nat) (T : Tree) : 1 ≤ manyF d T := by
  cases d with
  | zero => exact Nat.le_refl _
  | succ d => show 1 ≤ (T.kids.map (manyF d)).foldl (· + ·) 1; rw [foldl_add]; omega
def sumN (d : Nat) (l : List Tree) : Nat := (l.map (manyF d)).foldl (· + ·) 0
theorem sumN_cons (d : Nat) (x : Tree) (l : List Tree) : sumN d (x :: l) = manyF d x + sumN d l := by
  unfold sumN; rw [List.map_cons, List.foldl_cons, foldl_add]; omega
theorem manyF_succ (d : Nat) (T : Tree) : manyF (d + 1) T = 1 + sumN d T.kids := by
  show (T.kids.map (manyF d)).foldl (· + ·) 1 = _; rw [foldl_add]; rfl
end Go.Proofs.YtfpohaipmnjflaaGreatDoor
/- What the document's table says of expressions, of rules and of types in a tree that is right; with no program in sight. No condition. -/
namespace Go.Proofs.YtfpohaipmnjflaaGreatDoor
open Go.RowKit
end Go.Proofs.YtfpohaipmnjflaaGreatDoor
