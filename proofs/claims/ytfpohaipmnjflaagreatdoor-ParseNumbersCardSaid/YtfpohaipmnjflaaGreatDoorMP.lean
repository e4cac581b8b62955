/- Several texts joined, each with its own sentence and conditions ahead of it: RegP, RegQ. -/
import Derived.Test.YtfpohaipmnjflaaGreatDoorMM
import Derived.Test.YtfpohaipmnjflaaGreatDoorMN
/- A region that draws its order, each operation with a property of its value that lasts while memory grows, whatever the order; its last operations in the text's order. No condition. -/
namespace Go.Proofs.YtfpohaipmnjflaaGreatDoor
open Go.RowKit

section
variable {P : Program} {l : List Oper} {a0 : Act} {w0 : World} {ty : Nat → World → Value → Prop} {val : Nat → Option Bool} {fr : Nat → Bool} {m : Nat}
/-- an operation waits for another, perhaps by way of others -/
def reachB (l : List Oper) : Nat → Nat → Nat → Bool
  | 0, _, _ => false
  | f + 1, j, i => match l[j]? with
    | some o => o.after.any fun e => Region.binds .any e && (decide (e.on = i) || reachB l f e.on i)
    | none => false
/-- an operation's value, whatever the frame, where those that it waits for have theirs -/
def OpP (P : Program) (l : List Oper) (m : Nat) (a0 : Act) (w0 : World) (ty : Nat → World → Value → Prop) (fr : Nat → Bool) (i : Nat) (o : Oper) : Prop :=
  ∀ (a : Act) (W : World) (Q' : Exit → Act → World → Prop), Below w0.heap.size w0 W → (∀ t, (∀ (j : Nat) (o' : Oper), j < m → l[j]? = some o' → o'.dst ≠ some t) → a.tmps.getD t undef = a0.tmps.getD t undef) →
    (∀ (j : Nat) (oj : Oper) (t : Tmp), j < m → (∃ e ∈ o.after, Region.binds .any e = true ∧ e.on = j) → l[j]? = some oj → oj.dst = some t → ty j W (a.tmps.getD t undef)) →
    o.wp P a W (fun a' W' => ∃ v, a' = a.put o.dst v ∧ Below W.heap.size W W' ∧ ty i W' v ∧ (fr i = true → ∃ g, v = .pointer (some ⟨g, 0, none⟩) ∧ W.heap.size ≤ g)) Q'
/-- .. of an operation whose value is no new block -/
theorem OpP.of {i : Nat} {o : Oper} (hf : fr i = false) (h : ∀ (a : Act) (W : World) (Q' : Exit → Act → World → Prop), Below w0.heap.size w0 W → (∀ t, (∀ (j : Nat) (o' : Oper), j < m → l[j]? = some o' → o'.dst ≠ some t) → a.tmps.getD t undef = a0.tmps.getD t undef) →
    (∀ (j : Nat) (oj : Oper) (t : Tmp), j < m → (∃ e ∈ o.after, Region.binds .any e = true ∧ e.on = j) → l[j]? = some oj → oj.dst = some t → ty j W (a.tmps.getD t undef)) →
    o.wp P a W (fun a' W' => ∃ v, a' = a.put o.dst v ∧ Below W.heap.size W W' ∧ ty i W' v) Q') : OpP P l m a0 w0 ty fr i o := by
  intro a W Q' h1 h2 h3
  refine Oper.wp_mono (fun a' W' hq => ?_) (h a W Q' h1 h2 h3)
  obtain ⟨v, e1, e2, e3⟩ := hq
  exact ⟨v, e1, e2, e3, fun h => by rw [hf] at h; cases h⟩
/-- what has been carried out bears with it all that it waits for -/
def Closed (l : List Oper) (listed : Array Bool) : Prop := ∀ (i : Nat) (o : Oper), l[i]? = some o → listed.getD i false = true → ∀ e ∈ o.after, Region.binds .any e = true → listed.getD e.on false = true
theorem reach_listed {listed : Array Bool} (hc : Closed l listed) : ∀ (f j i : Nat) (o : Oper), l[j]? = some o → (∀ e ∈ o.after, Region.binds .any e = true → listed.getD e.on false = true) → reachB l f j i = true → listed.getD i false = true := by
  intro f
  induction f with
  | zero => intro j i o _ _ h; cases h
  | succ f ih =>
    intro j i o ho ha h
    unfold reachB at h
    rw [ho] at h
    obtain ⟨e, he, h2⟩ := Array.any_eq_true'.1 h
    simp only [Bool.and_eq_true, Bool.or_eq_true, decide_eq_true_eq] at h2
    have hl := ha e he h2.1
    rcases h2.2 with h3 | h3
    · rw [← h3]; exact hl
    · cases f with
      | zero => cases h3
      | succ f =>
        cases hoe : l[e.on]? with
        | none => unfold reachB at h3; rw [hoe] at h3; cases h3
        | some oe => exact ih e.on i oe hoe (hc e.on oe hoe hl) h3
end
end Go.Proofs.YtfpohaipmnjflaaGreatDoor
/- Single operations for regions by predicates: a load, a call, a new node; stores of whole nodes. No condition. -/
namespace Go.Proofs.YtfpohaipmnjflaaGreatDoor
open Go.RowKit
section
variable {l : List Oper} {m : Nat} {a0 : Act} {w0 : World} {ty : Nat → World → Value → Prop} {fr : Nat → Bool} {i : Nat} {o : Oper}
/-- a value that an operation waits for -/
def WaitsP (l : List Oper) (m : Nat) (o : Oper) (x : Operand) (j : Nat) : Prop :=
  j < m ∧ ∃ (oj : Oper) (t : Tmp), x = .tmp t ∧ (o.after.any fun e => Region.binds .any e && e.on == j) = true ∧ l[j]? = some oj ∧ oj.dst = some t
theorem WaitsP.has {x : Operand} {j : Nat} {a : Act} {W : World} (h : WaitsP l m o x j)
    (hv : ∀ (j : Nat) (oj : Oper) (t : Tmp), j < m → (∃ e ∈ o.after, Region.binds .any e = true ∧ e.on = j) → l[j]? = some oj → oj.dst = some t → ty j W (a.tmps.getD t undef)) : ty j W (a.eval x) := by
  obtain ⟨hm, oj, t, rfl, hw, hj, hd⟩ := h
  obtain ⟨e, he, h1⟩ := Array.any_eq_true'.1 hw
  simp only [Bool.and_eq_true, beq_iff_eq] at h1
  exact hv j oj t hm ⟨e, he, h1⟩ hj hd
/-- a new box, and that it holds the zero node -/
def boxTy (L : Nat) (W : World) (v : Value) : Prop := ∃ g, v = .pointer (some ⟨g, 0, none⟩) ∧ L ≤ g ∧ g < W.heap.size ∧ W.heap[g]? = some (.cells zeroNode 25 (0, 0))
theorem boxTy.mono {L : Nat} {W W' : World} {v : Value} (h : boxTy L W v) (hb : Below W.heap.size W W') : boxTy L W' v := by
  obtain ⟨g, h1, h2, h3, h4⟩ := h
  exact ⟨g, h1, h2, Nat.lt_of_lt_of_le h3 hb.size, heap_below hb h4 h3⟩
end
/-- a node that was lent -/
def lentTy (L d : Nat) (T : Tree) (W : World) (v : Value) : Prop := ∃ L' g, L ≤ L' ∧ v = .agg #[.int .u8 T.kind, .string T.text, .int .i64 T.num, .int .i64 T.place, .slice (some ⟨g, 0, none⟩) T.kids.length (T.kids.length + 12)] ∧
  LentAt W L' W.heap.size d T.kids (.slice (some ⟨g, 0, none⟩) T.kids.length (T.kids.length + 12))
theorem lentTy.mono {L d : Nat} {T : Tree} {W W' : World} {v : Value} (h : lentTy L d T W v) (hb : Below W.heap.size W W') : lentTy L d T W' v := by
  obtain ⟨L', g, h1, h2, h3⟩ := h
  exact ⟨L', g, h1, h2, (h3.below hb).up (Nat.le_refl _) hb.size⟩
end Go.Proofs.YtfpohaipmnjflaaGreatDoor
