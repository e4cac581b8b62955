/- Several texts joined, each with its own sentence and conditions ahead of it: TreeK, TreeL, TreeN, QuietB, TreeO, NumRow. -/
import Derived.Test.YtoekldhdojpceaaGreatDoorME
import Derived.Laws.OwnMore
import Derived.Deep.DeepAppendRoom
import Derived.Test.YtoekldhdojpceaaGreatDoorMA
import Derived.Deep.QuietTactic
import Derived.BigQuiet
/- What the statements lend: a tree copied, with marks behind each list's end; by contract. Condition: at most 100000 kids a list. -/
namespace Go.Proofs.YtoekldhdojpceaaGreatDoor
open Go.RowKit

/-- the cells of a node whose kids' slice is s -/
def nodeCells (T : Tree) (s : Value) : List Value := [.int .u8 T.kind, .string T.text, .int .i64 T.num, .int .i64 T.place, s]
/-- a mark's node -/
def markT' (j : Nat) : Tree := .mk 0 ⟨#[]⟩ 0 (8000024 + j) []
/-- rows of five cells, one behind the other -/
theorem flat5 : ∀ (rows : List (List Value)), (∀ r ∈ rows, r.length = 5) → ∀ (i m : Nat) (r : List Value) (u : Value), rows[i]? = some r → r[m]? = some u → rows.flatten[i * 5 + m]? = some u := by
  intro rows
  induction rows with
  | nil => intro _ i m r u h _; simp at h
  | cons x rows ih =>
    intro h5 i m r u hi hm
    have hx : x.length = 5 := h5 x (List.mem_cons_self ..)
    rw [List.flatten_cons]
    cases i with
    | zero =>
      simp only [List.getElem?_cons_zero, Option.some.injEq] at hi
      subst hi
      have : m < x.length := (List.getElem?_eq_some_iff.1 hm).1
      rw [Nat.zero_mul, Nat.zero_add, List.getElem?_append_left this]
      exact hm
    | succ i =>
      rw [List.getElem?_cons_succ] at hi
      have := ih (fun r hr => h5 r (List.mem_cons_of_mem _ hr)) i m r u hi hm
      rw [List.getElem?_append_right (by omega)]
      rw [← this]
      congr 1
      omega
/-- a slice that was lent: room for twelve more, marks in it; its blocks lie from L to ahead of B -/
def LentAt (w : World) (L B : Nat) : Nat → List Tree → Value → Prop
  | 0, ks, sl => ks = [] ∧ ∃ g, L ≤ g ∧ g < B ∧ sl = .slice (some ⟨g, 0, none⟩) 0 12 ∧ ∀ j, j < 12 → ∀ i u, (nodeCells (markT' j) (.slice none 0 0))[i]? = some u → w.cell? ⟨g, j * 5 + i, none⟩ = some u
  | d + 1, ks, sl => ∃ g, L ≤ g ∧ g < B ∧ sl = .slice (some ⟨g, 0, none⟩) ks.length (ks.length + 12) ∧
      (∀ j, j < 12 → ∀ i u, (nodeCells (markT' j) (.slice none 0 0))[i]? = some u → w.cell? ⟨g, (ks.length + j) * 5 + i, none⟩ = some u) ∧
      ∀ i T, ks[i]? = some T → Fits T ∧ ∃ s, (∀ m u, (nodeCells T s)[m]? = some u → w.cell? ⟨g, i * 5 + m, none⟩ = some u) ∧ LentAt w L B d T.kids s

/-- a block of five cells -/
theorem cells5 {w : World} {T : Nat} {a b c d e : Value} {t : TypeId} (h : w.heap[T]? = some (.cells #[a, b, c, d, e] t (0, 0))) :
    w.cell? ⟨T, 0, none⟩ = some a ∧ w.cell? ⟨T, 1, none⟩ = some b ∧ w.cell? ⟨T, 2, none⟩ = some c ∧ w.cell? ⟨T, 3, none⟩ = some d ∧ w.cell? ⟨T, 4, none⟩ = some e := by
  simp [World.cell?, h]
theorem markNode_fin (W : World) (Rp : Ending → World → Prop) (T : Nat) (a b c d e : Value) (hT : W.heap[T]? = some (.cells #[a, b, c, d, e] 25 (0, 0)))
    (tmps : Array Value) (h4 : tmps.getD 4 undef = .pointer (some ⟨T, 0, none⟩)) (hR : Rp (.returned (.agg #[a, b, c, d, e])) W) :
    bodyPost Tryz.prog Tryz.f136 Rp .ret ⟨tmps, []⟩ W := by
  obtain ⟨c0, c1, c2, c3, c4⟩ := cells5 hT
  have h4' : tmps[4]?.getD undef = .pointer (some ⟨T, 0, none⟩) := by simpa using h4
  refine bodyPost_ret (v := .agg #[a, b, c, d, e]) ?_ rfl hR
  simp [results, Tryz.results136, go_sem, h4', c0, c1, c2, c3, c4]
theorem LentAt.keep {w w' : World} {L B : Nat} (hb : ∀ b i u, L ≤ b → b < B → w.cell? ⟨b, i, none⟩ = some u → w'.cell? ⟨b, i, none⟩ = some u) : ∀ {d : Nat} {ks : List Tree} {sl : Value}, LentAt w L B d ks sl → LentAt w' L B d ks sl := by
  intro d
  induction d with
  | zero =>
    rintro ks sl ⟨h0, g, hl, hg, h1, h2⟩
    exact ⟨h0, g, hl, hg, h1, fun j hj i u hu => hb _ _ _ hl hg (h2 j hj i u hu)⟩
  | succ d ih =>
    rintro ks sl ⟨g, hl, hg, h1, h2, h3⟩
    refine ⟨g, hl, hg, h1, fun j hj i u hu => hb _ _ _ hl hg (h2 j hj i u hu), fun i T hT => ?_⟩
    obtain ⟨hf, s, hc, hk⟩ := h3 i T hT
    exact ⟨hf, s, fun m u hu => hb _ _ _ hl hg (hc m u hu), ih hk⟩
theorem LentAt.below {w w' : World} {L B : Nat} (hb : Below B w w') {d : Nat} {ks : List Tree} {sl : Value} (h : LentAt w L B d ks sl) : LentAt w' L B d ks sl :=
  h.keep fun b i _ _ hB hc => (hb.cell (p := ⟨b, i, none⟩) hB).trans hc
theorem LentAt.grown {w w' : World} {L B g : Nat} (hg : w.grownBy w' (some g)) (hL : g < L) {d : Nat} {ks : List Tree} {sl : Value} (h : LentAt w L B d ks sl) : LentAt w' L B d ks sl :=
  h.keep fun b i _ hb _ hc => hg.cell hc (by intro e; simp at e; omega)
theorem LentAt.up {w : World} {L L' B B' : Nat} (hL : L' ≤ L) (hB : B ≤ B') : ∀ {d : Nat} {ks : List Tree} {sl : Value}, LentAt w L B d ks sl → LentAt w L' B' d ks sl := by
  intro d
  induction d with
  | zero =>
    rintro ks sl ⟨h0, g, hl, hg, h1, h2⟩
    exact ⟨h0, g, Nat.le_trans hL hl, Nat.lt_of_lt_of_le hg hB, h1, h2⟩
  | succ d ih =>
    rintro ks sl ⟨g, hl, hg, h1, h2, h3⟩
    refine ⟨g, Nat.le_trans hL hl, Nat.lt_of_lt_of_le hg hB, h1, h2, fun i T hT => ?_⟩
    obtain ⟨hf, s, hc, hk⟩ := h3 i T hT
    exact ⟨hf, s, hc, ih hk⟩
theorem LentAt.shape {w : World} {L B d : Nat} {ks : List Tree} {sl : Value} (h : LentAt w L B d ks sl) : ∃ g, L ≤ g ∧ g < B ∧ sl = .slice (some ⟨g, 0, none⟩) ks.length (ks.length + 12) := by
  cases d with
  | zero =>
    obtain ⟨h0, g, hl, hg, h1, _⟩ := h
    subst h0
    exact ⟨g, hl, hg, h1⟩
  | succ d =>
    obtain ⟨g, hl, hg, h1, _⟩ := h
    exact ⟨g, hl, hg, h1⟩
/-- what was lent reads as the tree it was lent of -/
theorem LentAt.kids {w : World} {L B : Nat} : ∀ {d : Nat} {ks : List Tree} {sl : Value}, LentAt w L B d ks sl → SlimK d ks → KidsAt w B d ks sl := by
  intro d
  induction d with
  | zero =>
    rintro ks sl ⟨h0, g, hl, hg, h1, h2⟩ _
    exact ⟨h0, _, _, h1⟩
  | succ d ih =>
    rintro ks sl ⟨g, hl, hg, h1, h2, h3⟩ ⟨hn, hs⟩
    by_cases h0 : ks = []
    · subst h0
      exact Or.inl ⟨rfl, _, _, h1⟩
    · refine Or.inr ⟨g, 0, ks.length + 12, h0, hg, by omega, by unfold maxLen; omega, h1, fun i T hT => ?_⟩
      obtain ⟨hf, s, hc, hk⟩ := h3 i T hT
      refine ⟨hf, s, ?_, ?_, ?_, ?_, ?_, ih hk (hs T (List.mem_of_getElem? hT)).kids⟩ <;> simp only [Nat.zero_add]
      · exact hc 0 _ rfl
      · exact hc 1 _ rfl
      · exact hc 2 _ rfl
      · exact hc 3 _ rfl
      · exact hc 4 _ rfl
theorem two_new' (w : World) (a b : Obj) : ((w.alloc a).alloc b).heap[w.heap.size]? = some a ∧ ((w.alloc a).alloc b).heap[w.heap.size + 1]? = some b ∧ True :=
  ⟨by rw [at_alloc, World.size_alloc, if_neg (by omega), at_alloc, if_pos rfl], by rw [at_alloc, World.size_alloc, if_pos rfl], trivial⟩
theorem frozen5 {w : World} {T : Nat} {cs : Array Value} {t : TypeId} (h : w.heap[T]? = some (.cells cs t (0, 0))) (i : Nat) : w.frozen? ⟨T, i, none⟩ = false := by
  simp [World.frozen?, h]
end Go.Proofs.YtoekldhdojpceaaGreatDoor
/- What the statements lend: a node, given its list; by contract. Condition: at most 20000 kids a list. -/
namespace Go.Proofs.YtoekldhdojpceaaGreatDoor
open Go.RowKit

theorem LentAt.set {w : World} {L B T : Nat} (hT : T < L) (i : Nat) (x : Value) {d : Nat} {ks : List Tree} {sl : Value} (h : LentAt w L B d ks sl) : LentAt (w.setCell ⟨T, i, none⟩ x) L B d ks sl :=
  h.keep fun b j _ hb _ hc => (World.cell?_of_block (Below.heap_setCell w ⟨T, i, none⟩ x b (by show b ≠ T; omega))).trans hc

end Go.Proofs.YtoekldhdojpceaaGreatDoor
/- What the statements lend: a list of nodes copied, with marks behind it; by contract. Condition: at most 20000 kids a list. -/
namespace Go.Proofs.YtoekldhdojpceaaGreatDoor
open Go.RowKit

theorem infoNode : (Tryz.prog.info? 25).map (fun i => (i.zero, i.size, i.bytes)) = some (some (.agg #[.int .u8 0, .string ByteArray.empty, .int .i64 0, .int .i64 0, .slice none 0 0]), 5, 64) := by kernel_rfl

/-- a kid's cells at a place -/
def KidAt (w : World) (d b o : Nat) (B : Nat) (T : Tree) : Prop :=
  Fits T ∧ ∃ s, w.cell? ⟨b, o, none⟩ = some (.int .u8 T.kind) ∧ w.cell? ⟨b, o + 1, none⟩ = some (.string T.text) ∧ w.cell? ⟨b, o + 2, none⟩ = some (.int .i64 T.num) ∧ w.cell? ⟨b, o + 3, none⟩ = some (.int .i64 T.place) ∧ w.cell? ⟨b, o + 4, none⟩ = some s ∧ KidsAt w B d T.kids s
theorem KidsAt.rows {w : World} {B d : Nat} {ks : List Tree} {sl : Value} (h : KidsAt w B d ks sl) :
    ∃ p c, sl = .slice p ks.length c ∧ ks.length ≤ maxLen ∧ ∀ i T, ks[i]? = some T → d = d - 1 + 1 ∧ ∃ b off, p = some ⟨b, off, none⟩ ∧ b < B ∧ KidAt w (d - 1) b (off + i * 5) B T := by
  rcases h.cases with ⟨rfl, sp, cap, rfl⟩ | ⟨d', b, off, cap, rfl, hne, hb, hc, hm, rfl, hrow⟩
  · exact ⟨sp, cap, rfl, Nat.zero_le _, fun i T hT => by simp at hT⟩
  · refine ⟨_, cap, rfl, Nat.le_trans hc hm, fun i T hT => ⟨by omega, b, off, rfl, hb, hrow i T hT⟩⟩
theorem KidAt.node {w W : World} {B d b o : Nat} {t : Tree} (hB : Below B w W) (hbB : b < B) (h : KidAt w d b o B t) :
    ∃ p n c, W.cell? ⟨b, o, none⟩ = some (.int .u8 t.kind) ∧ W.cell? ⟨b, o + 1, none⟩ = some (.string t.text) ∧
          W.cell? ⟨b, o + 2, none⟩ = some (.int .i64 t.num) ∧ W.cell? ⟨b, o + 3, none⟩ = some (.int .i64 t.place) ∧ W.cell? ⟨b, o + 4, none⟩ = some (.slice p n c) ∧
          NodeAt W B d t (.agg #[.int .u8 t.kind, .string t.text, .int .i64 t.num, .int .i64 t.place, .slice p n c]) := by
  obtain ⟨hf, s, c0, c1, c2, c3, c4, hk⟩ := h
  obtain ⟨p, n, c, rfl⟩ := hk.shape
  have e : ∀ j, W.cell? ⟨b, j, none⟩ = w.cell? ⟨b, j, none⟩ := fun j => hB.cell (p := ⟨b, j, none⟩) hbB
  exact ⟨p, n, c, (e _).trans c0, (e _).trans c1, (e _).trans c2, (e _).trans c3, (e _).trans c4, hf, _, rfl, hk.below hB⟩

/-- so many kids have been lent -/
def RowsLent (W : World) (L B d : Nat) (ks : List Tree) (k : Nat) (rows : List (List Value)) : Prop :=
  rows.length = k ∧ (∀ r ∈ rows, r.length = 5) ∧ ∀ i T, i < k → ks[i]? = some T → Fits T ∧ ∃ s, rows[i]? = some (nodeCells T s) ∧ LentAt W L B d T.kids s
theorem RowsLent.next {W W' : World} {L B B' d k : Nat} {ks : List Tree} {rows : List (List Value)} {t : Tree} {s : Value} (h : RowsLent W L B d ks k rows)
    (hkeep : ∀ {ls : List Tree} {sl : Value}, LentAt W L B d ls sl → LentAt W' L B' d ls sl) (ht : ks[k]? = some t) (hf : Fits t) (hs : LentAt W' L B' d t.kids s) : RowsLent W' L B' d ks (k + 1) (rows ++ [nodeCells t s]) := by
  obtain ⟨h1, h2, h3⟩ := h
  refine ⟨by simp [h1], fun r hr => ?_, fun i T hi hT => ?_⟩
  · rcases List.mem_append.1 hr with hr | hr
    · exact h2 r hr
    · simp at hr; subst hr; rfl
  · by_cases hik : i < k
    · obtain ⟨a1, s', a2, a3⟩ := h3 i T hik hT
      refine ⟨a1, s', ?_, hkeep a3⟩
      rw [List.getElem?_append_left (by omega)]
      exact a2
    · obtain rfl : i = k := by omega
      rw [ht] at hT
      injection hT with hT
      subst hT
      refine ⟨hf, s, ?_, hs⟩
      rw [List.getElem?_append_right (by omega), h1]
      simp

theorem RowsLent.keep {W W' : World} {L B B' d k : Nat} {ks : List Tree} {rows : List (List Value)} (h : RowsLent W L B d ks k rows)
    (hkeep : ∀ {ls : List Tree} {sl : Value}, LentAt W L B d ls sl → LentAt W' L B' d ls sl) : RowsLent W' L B' d ks k rows := by
  obtain ⟨h1, h2, h3⟩ := h
  refine ⟨h1, h2, fun i T hi hT => ?_⟩
  obtain ⟨a1, s, a2, a3⟩ := h3 i T hi hT
  exact ⟨a1, s, a2, hkeep a3⟩
end Go.Proofs.YtoekldhdojpceaaGreatDoor
/- A region that draws its order, whose operations read memory that was there and whose callees only make memory: one walk of the text's order. No condition. -/
namespace Go.Proofs.YtoekldhdojpceaaGreatDoor
open Go.RowKit

/-- a world in which memory only grew -/
def Wb (w : World) := {W : World // Below w.heap.size w W}
instance (w : World) : Nonempty (Wb w) := ⟨⟨w, Below.refl _ w⟩⟩
theorem Wb.below {w : World} (x : Wb w) : Below w.heap.size w x.1 := x.2
theorem wp_region_below {P : Program} {id : Nat} {Q : Exit → Act → World → Prop} {a : Act} {w : World} {l : List Oper} (hm : P.follows .mixedOrders = true) (hB : Region.lexB .any l.toArray = true)
    (h : wpQuiet P l.toArray (fun w' => ∃ x : Wb w, w' = x.1) (fun a' => ∀ w', (∃ x : Wb w, w' = x.1) → Q .normal a' w') l a) : (Code.region id l.toArray true).wp P Q a w :=
  wp_region_quiet (C := fun w' => ∃ x : Wb w, w' = x.1) hm hB ⟨⟨w.drew, (Below.refl _ w).drew⟩, rfl⟩ (by simpa using h)
theorem Calls.below_of {P : Program} {f : FuncId} {args : Array Value} {w : World} {x : Wb w} {v : Value}
    (h : Calls P f args x.1 fun e w' => e = .returned v ∧ Below x.1.heap.size x.1 w') : Calls P f args x.1 fun e w'' => e = .returned v ∧ ∃ y : Wb w, w'' = y.1 :=
  h.mono fun _ W ⟨he, hb⟩ => ⟨he, ⟨W, x.2.trans (hb.mono x.2.size)⟩, rfl⟩
theorem wb_below {w w' : World} (h : ∃ x : Wb w, w' = x.1) : Below w.heap.size w w' := by
  obtain ⟨x, rfl⟩ := h
  exact x.2
/-- a cell that was there -/
theorem Wb.cell {w : World} (x : Wb w) {a : Addr} {v : Value} (h : w.cell? a = some v) : x.1.cell? a = some v :=
  (x.2.cell (World.block_lt_of_cell? w a h)).trans h
end Go.Proofs.YtoekldhdojpceaaGreatDoor
/- What was lent is told to be kept; by contract. Condition: at most 20000 kids a list. -/
namespace Go.Proofs.YtoekldhdojpceaaGreatDoor
open Go.RowKit
theorem LentAt.row {w : World} {L B d : Nat} {ks : List Tree} {sl : Value} (h : LentAt w L B d ks sl) :
    ∃ g, L ≤ g ∧ g < B ∧ sl = .slice (some ⟨g, 0, none⟩) ks.length (ks.length + 12) ∧
      (∀ j, j < 12 → ∀ i u, (nodeCells (markT' j) (.slice none 0 0))[i]? = some u → w.cell? ⟨g, (ks.length + j) * 5 + i, none⟩ = some u) ∧
      ∀ i T, ks[i]? = some T → d = d - 1 + 1 ∧ Fits T ∧ ∃ s, (∀ m u, (nodeCells T s)[m]? = some u → w.cell? ⟨g, i * 5 + m, none⟩ = some u) ∧ LentAt w L B (d - 1) T.kids s := by
  cases d with
  | zero =>
    obtain ⟨rfl, g, hl, hg, h1, h2⟩ := h
    refine ⟨g, hl, hg, h1, fun j hj i u hu => ?_, fun i T hT => by simp at hT⟩
    have := h2 j hj i u hu
    simpa using this
  | succ d =>
    obtain ⟨g, hl, hg, h1, h2, h3⟩ := h
    exact ⟨g, hl, hg, h1, h2, fun i T hT => ⟨rfl, h3 i T hT⟩⟩
end Go.Proofs.YtoekldhdojpceaaGreatDoor
/- Rows of strings. No condition. -/
namespace Go.Proofs.YtoekldhdojpceaaGreatDoor
open Go.RowKit

/-- a row of strings -/
def RowS (W : World) (g : Nat) (xs : List ByteArray) : Prop := W.heap[g]? = some (.cells (xs.map Value.string).toArray 9 (0, 0))
theorem RowS.below {W W' : World} {g : Nat} {xs : List ByteArray} (h : RowS W g xs) (hb : Below W.heap.size W W') : RowS W' g xs := heap_below hb h (Array.getElem?_eq_some_iff.1 h).1
theorem RowS.lt {W : World} {g : Nat} {xs : List ByteArray} (h : RowS W g xs) : g < W.heap.size := (Array.getElem?_eq_some_iff.1 h).1
theorem RowS.cell {W : World} {g : Nat} {xs : List ByteArray} (h : RowS W g xs) (k : Nat) (x : ByteArray) (hx : xs[k]? = some x) : W.cell? ⟨g, k, none⟩ = some (.string x) := by
  rw [cell_of_row _ _ _ _ _ _ h]
  simp [hx]
end Go.Proofs.YtoekldhdojpceaaGreatDoor
