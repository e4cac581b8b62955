/- Several texts joined, each with its own sentence and conditions ahead of it: RegInv, AwkA, AwkB, RegTy, RegTz, RegTx, RegBox. -/
import Derived.Test.YtoekldhdojpceaaGreatDoorMF
import Derived.Test.YtoekldhdojpceaaGreatDoorMJ
import Derived.Great.BuildSlice
import Derived.Laws.Rows
/- A region that draws its order, by an invariant over what has been carried out: whatever the order. No condition. -/
namespace Go.Proofs.YtoekldhdojpceaaGreatDoor
open Go.RowKit

def unlisted (listed : Array Bool) : Nat := (listed.toList.filter (!·)).length
theorem unlisted_set : ∀ (l : List Bool) (i : Nat), l[i]? = some false → ((l.set i true).filter (!·)).length + 1 = (l.filter (!·)).length := by
  intro l
  induction l with
  | nil => intro i h; simp at h
  | cons x l ih =>
    intro i h
    cases i with
    | zero =>
      simp only [List.getElem?_cons_zero, Option.some.injEq] at h
      subst h
      simp
    | succ i =>
      rw [List.getElem?_cons_succ] at h
      have := ih i h
      rw [List.set_cons_succ]
      cases x <;> simp at this ⊢ <;> omega
theorem wpAny_inv {P : Program} {ops : Array Oper} {Q : Exit → Act → World → Prop} (I : Array Bool → Act → World → Prop)
    (hstep : ∀ (listed : Array Bool) (a : Act) (W : World) (i : Nat), I listed a W → listed.size = ops.size → i ∈ Region.ready .any ops listed → wpOp P ops Q i (fun a' W' => I (listed.setIfInBounds i true) a' W') a W)
    (hend : ∀ (listed : Array Bool) (a : Act) (W : World), I listed a W → listed.size = ops.size → Region.ready .any ops listed = [] → Q .normal a W) :
    ∀ (fuel : Nat) (listed : Array Bool) (a : Act) (W : World), unlisted listed = fuel → listed.size = ops.size → I listed a W → wpAny P .any ops Q fuel listed a W := by
  intro fuel
  induction fuel with
  | zero =>
    intro listed a W hu hsz hI
    have hr : Region.ready .any ops listed = [] := by
      rw [List.eq_nil_iff_forall_not_mem]
      intro i hi
      have h1 := (mem_ready.1 hi).1
      have hi' : i < listed.size := by
        rcases Nat.lt_or_ge i listed.size with h | h
        · exact h
        · simp [Array.getElem?_eq_none h] at h1
      have h2 : listed.toList[i]? = some false := by
        simp [hi'] at h1 ⊢; exact h1
      have := unlisted_set listed.toList i h2
      unfold unlisted at hu
      omega
    exact ⟨hr, hend listed a W hI hsz hr⟩
  | succ fuel ih =>
    intro listed a W hu hsz hI
    refine ⟨fun hr => hend listed a W hI hsz hr, fun i hi => ?_⟩
    have h1 := (mem_ready.1 hi).1
    have hi' : i < listed.size := by
      rcases Nat.lt_or_ge i listed.size with h | h
      · exact h
      · simp [Array.getElem?_eq_none h] at h1
    have h2 : listed.toList[i]? = some false := by
      simp [hi'] at h1 ⊢; exact h1
    refine wpOp_mono (fun a' W' h => ih _ a' W' ?_ (by simp [hsz]) h) (hstep listed a W i hI hsz hi)
    have := unlisted_set listed.toList i h2
    unfold unlisted at hu ⊢
    rw [Array.toList_setIfInBounds]
    omega
theorem wp_region_inv {P : Program} {id : Nat} {Q : Exit → Act → World → Prop} {a : Act} {w : World} {l : List Oper} (hm : P.follows .mixedOrders = true) (I : Array Bool → Act → World → Prop)
    (h0 : I (Array.replicate l.length false) a w.drew)
    (hstep : ∀ (listed : Array Bool) (a : Act) (W : World) (i : Nat), I listed a W → listed.size = l.toArray.size → i ∈ Region.ready .any l.toArray listed → wpOp P l.toArray Q i (fun a' W' => I (listed.setIfInBounds i true) a' W') a W)
    (hend : ∀ (listed : Array Bool) (a : Act) (W : World), I listed a W → listed.size = l.toArray.size → Region.ready .any l.toArray listed = [] → Q .normal a W) :
    (Code.region id l.toArray true).wp P Q a w := by
  refine wp_region_any hm (wpAny_inv I hstep hend _ _ _ _ ?_ (by simp) ?_)
  · unfold unlisted; simp
  · simpa using h0
end Go.Proofs.YtoekldhdojpceaaGreatDoor
/- The statements' own nodes: of, num, program; kids written out; by contract. No condition. -/
namespace Go.Proofs.YtoekldhdojpceaaGreatDoor
open Go.RowKit

theorem KidsAt.more {w : World} {B : Nat} : ∀ {d : Nat} {ks : List Tree} {sl : Value}, KidsAt w B d ks sl → KidsAt w B (d + 1) ks sl := by
  intro d
  induction d with
  | zero =>
    rintro ks sl ⟨h0, sp, cap, h1⟩
    exact Or.inl ⟨h0, sp, cap, h1⟩
  | succ d ih =>
    rintro ks sl (h | ⟨b, off, cap, h1, h2, h3, h4, h5, h6⟩)
    · exact Or.inl h
    · refine Or.inr ⟨b, off, cap, h1, h2, h3, h4, h5, fun i T hT => ?_⟩
      obtain ⟨hf, s, c0, c1, c2, c3, c4, hk⟩ := h6 i T hT
      exact ⟨hf, s, c0, c1, c2, c3, c4, ih hk⟩
theorem KidsAt.deeper {w : World} {B d d' : Nat} (hd : d ≤ d') {ks : List Tree} {sl : Value} (h : KidsAt w B d ks sl) : KidsAt w B d' ks sl := by
  induction hd with
  | refl => exact h
  | step _ ih => exact ih.more
theorem NodeAt.deeper {w : World} {B d d' : Nat} (hd : d ≤ d') {T : Tree} {v : Value} (h : NodeAt w B d T v) : NodeAt w B d' T v := by
  obtain ⟨hf, s, hv, hk⟩ := h
  exact ⟨hf, s, hv, hk.deeper hd⟩
theorem KidsAt.nil (w : World) (B d : Nat) : KidsAt w B d [] (.slice none 0 0) := by
  cases d with
  | zero => exact ⟨rfl, _, _, rfl⟩
  | succ d => exact Or.inl ⟨rfl, _, _, rfl⟩
end Go.Proofs.YtoekldhdojpceaaGreatDoor
/- One operation of a region, its frame a letter: a call, a load, a slice of nodes. No condition. -/
namespace Go.Proofs.YtoekldhdojpceaaGreatDoor
open Go.RowKit
end Go.Proofs.YtoekldhdojpceaaGreatDoor
/- A region that draws its order, each operation with what its value is, whatever the order; its last operation a store. No condition. -/
namespace Go.Proofs.YtoekldhdojpceaaGreatDoor
open Go.RowKit

/-- the zero node's cells -/
def zeroNode : Array Value := #[.int .u8 0, .string ⟨#[]⟩, .int .i64 0, .int .i64 0, .slice none 0 0]
/-- what an operation's value is -/
inductive RTy where
  | node (d : Nat) (T : Tree)
  | kids (d : Nat) (Ts : List Tree)
  | box
  | val (v : Value)
  | raw
def HasTy (L : Nat) (W : World) : RTy → Value → Prop
  | .node d T, v => NodeAt W W.heap.size d T v
  | .kids d Ts, v => KidsAt W W.heap.size d Ts v
  | .box, v => ∃ g, v = .pointer (some ⟨g, 0, none⟩) ∧ L ≤ g ∧ W.heap[g]? = some (.cells zeroNode 25 (0, 0))
  | .val u, v => v = u
  | .raw, _ => True
theorem HasTy.below {L : Nat} {W W' : World} {ty : RTy} {v : Value} (h : HasTy L W ty v) (hb : Below W.heap.size W W') : HasTy L W' ty v := by
  cases ty with
  | node d T => exact (NodeAt.below h hb).up hb.size
  | kids d Ts => exact (KidsAt.below hb h).up hb.size
  | box =>
    obtain ⟨g, h1, h2, h3⟩ := h
    exact ⟨g, h1, h2, heap_below hb h3 (Array.getElem?_eq_some_iff.1 h3).1⟩
  | val u => exact h
  | raw => trivial

/-- the list is in order, no guards, no slot written twice; every operation but the last writes a slot that is there -/
def tidy (l : List Oper) (slots : Nat) : Bool :=
  (List.range l.length).all fun i => match l[i]? with
    | none => true
    | some o => o.after.all (fun e => decide (e.on < i)) &&
        (decide (i + 1 = l.length) || match o.dst with
          | some t => decide (t < slots) && (List.range l.length).all (fun j => decide (j = i) || (match l[j]? with | some o' => decide (o'.dst ≠ some t) | none => true))
          | none => false)
theorem tidy_at {l : List Oper} {slots i : Nat} {o : Oper} (h : tidy l slots = true) (ho : l[i]? = some o) :
    (∀ e ∈ o.after, e.on < i) ∧ (i + 1 < l.length → ∃ t, o.dst = some t ∧ t < slots ∧ ∀ (j : Nat) (o' : Oper), j ≠ i → l[j]? = some o' → o'.dst ≠ some t) := by
  have hi : i < l.length := (List.getElem?_eq_some_iff.1 ho).1
  have h1 := List.all_eq_true.1 h i (List.mem_range.2 hi)
  simp only [ho, Bool.and_eq_true, Bool.or_eq_true, decide_eq_true_eq] at h1
  obtain ⟨ha, hd⟩ := h1
  refine ⟨fun e he => ?_, fun hlt => ?_⟩
  · have := Array.all_eq_true_iff_forall_mem.1 ha e he
    simpa using this
  · rcases hd with hd | hd
    · omega
    · cases hdst : o.dst with
      | none => rw [hdst] at hd; cases hd
      | some t =>
        rw [hdst] at hd
        simp only [Bool.and_eq_true, decide_eq_true_eq, List.all_eq_true, List.mem_range, Bool.or_eq_true] at hd
        refine ⟨t, rfl, hd.1, fun j o' hj ho' => ?_⟩
        have hjl : j < l.length := (List.getElem?_eq_some_iff.1 ho').1
        rcases hd.2 j hjl with h2 | h2
        · exact absurd h2 hj
        · rw [ho'] at h2; simpa using h2
theorem all_listed {l : List Oper} {slots : Nat} (h : tidy l slots = true) {listed : Array Bool} (hsz : listed.size = l.toArray.size) (hr : Region.ready .any l.toArray listed = []) : ∀ i, i < l.length → listed.getD i false = true := by
  intro i
  induction i using Nat.strongRecOn with
  | _ i ih =>
    intro hi
    cases hc : listed.getD i false with
    | true => rfl
    | false =>
      exfalso
      obtain ⟨o, ho⟩ : ∃ o, l[i]? = some o := ⟨l[i], List.getElem?_eq_getElem hi⟩
      obtain ⟨ha, _⟩ := tidy_at h ho
      have hsz' : listed.size = l.length := by simpa using hsz
      have : i ∈ Region.ready .any l.toArray listed := by
        refine mem_ready.2 ⟨?_, o, by simpa using ho, fun e he _ => ?_⟩
        · have hi2 : i < listed.size := by omega
          simp [hi2] at hc ⊢; exact hc
        · have h1 := ha e he
          exact ih e.on h1 (by omega)
      rw [hr] at this
      cases this
theorem getD_listed {listed : Array Bool} {i : Nat} (h : i < listed.size) : (listed.setIfInBounds i true).getD i false = true := by
  simp [h]
theorem getD_listed_other {listed : Array Bool} {i j : Nat} (h : i ≠ j) : (listed.setIfInBounds i true).getD j false = listed.getD j false := by
  simp [h]

end Go.Proofs.YtoekldhdojpceaaGreatDoor
/- What the statements' own nodes' operations are: of, num, program, a slice of nodes, a load, a new box. No condition. -/
namespace Go.Proofs.YtoekldhdojpceaaGreatDoor
open Go.RowKit

section
variable {l : List Oper} {a0 : Act} {w0 : World} {ty : Nat → RTy} {i : Nat} {o : Oper}
end
end Go.Proofs.YtoekldhdojpceaaGreatDoor
/- What the statements' own nodes' operations are: a slice of nodes, a load, a new box. No condition. -/
namespace Go.Proofs.YtoekldhdojpceaaGreatDoor
open Go.RowKit

section
variable {l : List Oper} {a0 : Act} {w0 : World} {ty : Nat → RTy} {i : Nat} {o : Oper}
end
end Go.Proofs.YtoekldhdojpceaaGreatDoor
/- A box that held the zero node, stored into: trees read as they read. Condition: no kind is 0. -/
namespace Go.Proofs.YtoekldhdojpceaaGreatDoor
open Go.RowKit

def kindsB : Nat → List Tree → Bool
  | 0, _ => true
  | d + 1, ks => ks.all fun t => t.kind != 0 && kindsB d t.kids
theorem zero_cell {W : World} {g o k : Nat} (hz : W.heap[g]? = some (.cells zeroNode 25 (0, 0))) (hc : W.cell? ⟨g, o, none⟩ = some (.int .u8 (k : Int))) : k = 0 := by
  rw [cell_of_row _ _ _ _ _ _ hz] at hc
  match o with
  | 0 =>
    have : (Value.int .u8 0) = .int .u8 (k : Int) := by simpa [zeroNode] using hc
    injection this with _ h
    omega
  | 1 => simp [zeroNode] at hc
  | 2 => simp [zeroNode] at hc
  | 3 => simp [zeroNode] at hc
  | 4 => simp [zeroNode] at hc
  | o + 5 => simp [zeroNode] at hc
theorem KidsAt.stored {W W' : World} {g B : Nat} (hz : W.heap[g]? = some (.cells zeroNode 25 (0, 0))) (hk : ∀ b, b ≠ g → W'.heap[b]? = W.heap[b]?) : ∀ {d : Nat} {ks : List Tree} {s : Value}, kindsB d ks = true → KidsAt W B d ks s → KidsAt W' B d ks s := by
  intro d
  induction d with
  | zero => intro ks s _ h; exact h
  | succ d ih =>
    intro ks s hkb h
    rcases h with h | ⟨b, off, cap, h1, h2, h3, h4, h5, h6⟩
    · exact Or.inl h
    · have hbg : b ≠ g := by
        intro e
        subst e
        cases ks with
        | nil => exact h1 rfl
        | cons T ks =>
          obtain ⟨_, _, c0, _⟩ := h6 0 T rfl
          have := zero_cell hz c0
          unfold kindsB at hkb
          simp [this] at hkb
      have e : ∀ j, W'.cell? ⟨b, j, none⟩ = W.cell? ⟨b, j, none⟩ := fun j => World.cell?_of_block (hk b hbg)
      refine Or.inr ⟨b, off, cap, h1, h2, h3, h4, h5, fun i T hT => ?_⟩
      obtain ⟨hf, s', c0, c1, c2, c3, c4, hkk⟩ := h6 i T hT
      have hkT : kindsB d T.kids = true := by
        unfold kindsB at hkb
        have := List.all_eq_true.1 hkb T (List.mem_of_getElem? hT)
        rw [Bool.and_eq_true] at this
        exact this.2
      exact ⟨hf, s', (e _).trans c0, (e _).trans c1, (e _).trans c2, (e _).trans c3, (e _).trans c4, ih hkT hkk⟩
/-- the five stores -/
def storeNode (W : World) (g : Nat) (a b c d e : Value) : World := ((((W.setCell ⟨g, 0, none⟩ a).setCell ⟨g, 1, none⟩ b).setCell ⟨g, 2, none⟩ c).setCell ⟨g, 3, none⟩ d).setCell ⟨g, 4, none⟩ e
theorem storeNode_other {W : World} {g : Nat} (a b c d e : Value) (k : Nat) (h : k ≠ g) : (storeNode W g a b c d e).heap[k]? = W.heap[k]? := by
  have hh : ∀ (V : World) (i : Nat) (u : Value), (V.setCell ⟨g, i, none⟩ u).heap[k]? = V.heap[k]? := fun V i u => Below.heap_setCell V ⟨g, i, none⟩ u k h
  unfold storeNode
  rw [hh, hh, hh, hh, hh]
theorem storeNode_size {W : World} {g : Nat} (a b c d e : Value) : (storeNode W g a b c d e).heap.size = W.heap.size := by
  simp [storeNode, World.setCell]
end Go.Proofs.YtoekldhdojpceaaGreatDoor
