/- Several texts joined, each with its own sentence and conditions ahead of it: RefNA, RefNB, RefNC, RefND. -/
import Derived.Test.YtineejjdbjdliaaGreatDoorMJ
/- The reference's looks at texts: among some, an operator, a name, a number; by contract. Condition: texts of at most 72007 bytes. -/
namespace Go.Proofs.YtineejjdbjdliaaGreatDoor
open Go.RowKit
theorem number_strip (x : ByteArray) (h : negB x.data.toList = true) : ∃ r, x.data.toList = 45 :: r ∧ strip x.data.toList = r := by
  cases hx : x.data.toList with
  | nil => rw [hx] at h; cases h
  | cons c r =>
    by_cases hc : c = 45
    · subst hc; exact ⟨r, rfl, rfl⟩
    · rw [hx, negB_no c r hc] at h; cases h
theorem strip_same (x : ByteArray) (h : negB x.data.toList = false) : strip x.data.toList = x.data.toList := by
  cases hx : x.data.toList with
  | nil => rfl
  | cons c r =>
    by_cases hc : c = 45
    · subst hc; rw [hx] at h; cases h
    · exact strip_no c r hc
theorem neg_at (x : ByteArray) (h : 0 < x.size) : negB x.data.toList = decide (x[0].toNat = 45) := by
  have e : x.data.toList = x[0] :: x.data.toList.drop 1 := by
    have := drop_cons x 0 h
    simpa using this
  rw [e]
  by_cases hc : x[0] = 45
  · rw [hc]; rfl
  · rw [negB_no _ _ hc]
    symm
    rw [decide_eq_false_iff_not]
    intro h2
    exact hc (UInt8.toNat_inj.1 h2)
end Go.Proofs.YtineejjdbjdliaaGreatDoor
/- The reference's looks at kids: all of some kinds, and right; by contract, given the look at a kid. Condition: at most 20000 kids a list. -/
namespace Go.Proofs.YtineejjdbjdliaaGreatDoor
open Go.RowKit
def kidOk (d : Nat) (S : List Nat) (t : Tree) : Bool := S.contains t.kind && okF d t
def allF (d : Nat) (S : List Nat) (l : List Tree) : Bool := l.all (kidOk d S)
/-- the loops' states -/
def OuterRel (w : World) (d : Nat) (S : List Nat) (ks : List Tree) (fr en : Nat) (i : Value) (W : World) : Prop :=
  ∃ (W1 : World) (k : Nat), W1 = W ∧ fr ≤ k ∧ k ≤ en ∧ i = .int .i64 k ∧ Below w.heap.size w W1 ∧ allF d S ((ks.take k).drop fr) = true
def InnerRel (w : World) (S : List Nat) (m x : Nat) (ok i : Value) (W : World) : Prop :=
  ∃ (W1 : World) (j : Nat), W1 = W ∧ j ≤ m ∧ ok = .bool ((S.take j).any (· == x)) ∧ i = .int .i64 j ∧ Below w.heap.size w W1
theorem take_drop_snoc (ks : List Tree) (fr k : Nat) (t : Tree) (h : ks[k]? = some t) (hf : fr ≤ k) : (ks.take (k + 1)).drop fr = (ks.take k).drop fr ++ [t] := by
  rw [List.take_add_one, h, List.drop_append]
  have hk : k < ks.length := (List.getElem?_eq_some_iff.1 h).1
  have : fr - (ks.take k).length = 0 := by rw [List.length_take]; omega
  rw [this]
  rfl
theorem any_succ (S : List Nat) (j x y : Nat) (h : S[j]? = some y) : (S.take (j + 1)).any (· == x) = ((S.take j).any (· == x) || (y == x)) := by
  rw [List.take_add_one, h, List.any_append]
  simp

end Go.Proofs.YtineejjdbjdliaaGreatDoor
/- The reference's looks at kids: expressions, a rule's; by contract, given the look at a kid. Condition: at most 20000 kids a list. -/
namespace Go.Proofs.YtineejjdbjdliaaGreatDoor
open Go.RowKit

theorem swap3 (x y z : Bool) : (x && (y && z)) = (y && (x && z)) := by cases x <;> cases y <;> rfl
theorem allF_split (d : Nat) (S : List Nat) (l : List Tree) : allF d S l = (among S l && l.all (okF d)) := by
  unfold allF among kidOk
  induction l with
  | nil => rfl
  | cons x l ih =>
    rw [List.all_cons, List.all_cons, List.all_cons, ih]
    cases S.contains x.kind <;> cases okF d x <;> simp
theorem SlimK.nine {d : Nat} {ks : List Tree} {w : World} {B : Nat} {u : Value} (h : SlimK d ks) (hk : KidsAt w B d ks u) : ks.length ≤ 20000 := by
  cases d with
  | zero => rw [hk.1]; exact Nat.zero_le _
  | succ d => exact h.1

end Go.Proofs.YtineejjdbjdliaaGreatDoor
/- The reference's look at a node, kind by kind; by contract, given the looks at kids. Conditions: at most 20000 kids a list, texts of at most 72007 bytes. -/
namespace Go.Proofs.YtineejjdbjdliaaGreatDoor
open Go.RowKit

/-- a node as its kind has it, its kids right -/
def okK (k : Nat) (t : ByteArray) (nm pl : Int) (ks : List Tree) (d : Nat) : Bool := textOk k t.data.toList ks.length && numOk k nm && decide (0 ≤ pl) && kidsOk k ks && ks.all (okF (d - 1))
theorem okK_no (k : Nat) (t : ByteArray) (nm pl : Int) (ks : List Tree) (d : Nat) (h : (numOk k nm && decide (0 ≤ pl)) = false) : okK k t nm pl ks d = false := by
  unfold okK
  rw [Bool.and_assoc (textOk _ _ _), h]; simp
theorem okK_yes (k : Nat) (t : ByteArray) (nm pl : Int) (ks : List Tree) (d : Nat) (h1 : numOk k nm = true) (h2 : decide (0 ≤ pl) = true) : okK k t nm pl ks d = (textOk k t.data.toList ks.length && (kidsOk k ks && ks.all (okF (d - 1)))) := by
  unfold okK
  rw [h1, h2, Bool.and_true, Bool.and_true, Bool.and_assoc]
theorem kids_empty (d : Nat) (ks : List Tree) (n : Nat) (hn : ks.length = n) : (ks.isEmpty && ks.all (okF d)) = (n == 0) := by
  subst hn
  cases ks with
  | nil => rfl
  | cons x l => rfl
theorem all_all (d : Nat) (S : List Nat) (ks : List Tree) (n : Nat) (hn : ks.length = n) : allF d S ((ks.take n).drop 0) = (among S ks && ks.all (okF d)) := by
  rw [List.take_of_length_le (by omega), List.drop_zero, allF_split]
theorem empty_text (t : ByteArray) : t.data.toList.isEmpty = t.toList.isEmpty := by rw [ByteArray.toList_eq]
theorem nat_eq_int (n k : Nat) : (n == k) = ((n : Int) == (k : Int)) := by rw [Bool.eq_iff_iff]; simp; omega
theorem one_texts (t : ByteArray) : amongB oneL t.data.toList = ((t.toList == [45]) || (t.toList == [110, 111, 116])) := by
  unfold amongB oneL
  simp only [List.any_cons, List.any_nil, Bool.or_false, ByteArray.toList_eq]
  congr 1 <;> (rw [Bool.beq_comm])
theorem ge_one (n : Nat) : decide (0 < n) = decide ((1 : Int) ≤ n) := by rw [Bool.eq_iff_iff]; simp; omega

end Go.Proofs.YtineejjdbjdliaaGreatDoor
