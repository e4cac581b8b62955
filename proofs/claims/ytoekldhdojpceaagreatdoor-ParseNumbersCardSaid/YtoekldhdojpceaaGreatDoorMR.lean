/- Several texts joined, each with its own sentence and conditions ahead of it: OwnA, OwnB. -/
import Derived.Test.YtoekldhdojpceaaGreatDoorMP
import Derived.Deep.AppendLies
/- Trees in memory of one's own: each list a block of its own, apart from all others. No condition. -/
namespace Go.Proofs.YtoekldhdojpceaaGreatDoor
open Go.RowKit

/-- no node: no block, or one of a set -/
def NilOr (w : World) (sl : Value) (F : Nat → Prop) : Prop := sl = .slice none 0 0 ∨ ∃ (g cap : Nat) (cs : Array Value), F g ∧ cap ≤ maxLen ∧ sl = .slice (some ⟨g, 0, none⟩) 0 cap ∧ w.heap[g]? = some (.cells cs 25 (0, 0)) ∧ cs.size = cap * 5
theorem NilOr.any {w : World} {sl : Value} {F : Nat → Prop} (h : NilOr w sl F) : ∃ sp cap, sl = .slice sp 0 cap := by
  rcases h with h | ⟨g, cap, _, _, _, h, _⟩
  · exact ⟨none, 0, h⟩
  · exact ⟨_, cap, h⟩
theorem NilOr.keep {w w' : World} {sl : Value} {F : Nat → Prop} (hk : ∀ b o, F b → w.heap[b]? = some o → w'.heap[b]? = some o) (h : NilOr w sl F) : NilOr w' sl F := by
  rcases h with h | ⟨g, cap, cs, h1, h2, h3, h4, h5⟩
  · exact Or.inl h
  · exact Or.inr ⟨g, cap, cs, h1, h2, h3, hk g _ h1 h4, h5⟩
theorem NilOr.sub {w : World} {sl : Value} {F G : Nat → Prop} (h : NilOr w sl F) (hs : ∀ b, F b → G b) : NilOr w sl G := by
  rcases h with h | ⟨g, cap, cs, h1, h2⟩
  · exact Or.inl h
  · exact Or.inr ⟨g, cap, cs, hs g h1, h2⟩
/-- a slice of nodes, with all that hangs on it, in blocks of a set, no two lists in one -/
def OwnAt (w : World) : Nat → List Tree → Value → (Nat → Prop) → Prop
  | 0, ks, sl, F => ks = [] ∧ NilOr w sl F
  | d + 1, ks, sl, F => (ks = [] ∧ NilOr w sl F) ∨
      ∃ (g cap : Nat) (cs : Array Value) (Fs : Nat → Nat → Prop), ks ≠ [] ∧ F g ∧ ks.length ≤ cap ∧ cap ≤ maxLen ∧ sl = .slice (some ⟨g, 0, none⟩) ks.length cap ∧ w.heap[g]? = some (.cells cs 25 (0, 0)) ∧ cs.size = cap * 5 ∧
        (∀ i T, ks[i]? = some T → Fits T ∧ ∃ s, (∀ m u, (nodeCells T s)[m]? = some u → cs[i * 5 + m]? = some u) ∧ OwnAt w d T.kids s (Fs i)) ∧
        (∀ i b, Fs i b → F b ∧ b ≠ g) ∧ ∀ i j b, i ≠ j → Fs i b → ¬ Fs j b
theorem OwnAt.keep {w w' : World} : ∀ {d : Nat} {ks : List Tree} {sl : Value} {F : Nat → Prop}, (∀ b o, F b → w.heap[b]? = some o → w'.heap[b]? = some o) → OwnAt w d ks sl F → OwnAt w' d ks sl F := by
  intro d
  induction d with
  | zero => intro ks sl F hk h; exact ⟨h.1, h.2.keep hk⟩
  | succ d ih =>
    rintro ks sl F hk (h | ⟨g, cap, cs, Fs, h0, h1, h2, h3, h4, h5, h6, h7, h8, h9⟩)
    · exact Or.inl ⟨h.1, h.2.keep hk⟩
    · refine Or.inr ⟨g, cap, cs, Fs, h0, h1, h2, h3, h4, hk g _ h1 h5, h6, fun i T hT => ?_, h8, h9⟩
      obtain ⟨hf, s, hc, ho⟩ := h7 i T hT
      exact ⟨hf, s, hc, ih (fun b o hb => hk b o (h8 i b hb).1) ho⟩
theorem OwnAt.sub {w : World} {d : Nat} {ks : List Tree} {sl : Value} {F G : Nat → Prop} (h : OwnAt w d ks sl F) (hs : ∀ b, F b → G b) : OwnAt w d ks sl G := by
  cases d with
  | zero => exact ⟨h.1, h.2.sub hs⟩
  | succ d =>
    rcases h with h | ⟨g, cap, cs, Fs, h0, h1, h2, h3, h4, h5, h6, h7, h8, h9⟩
    · exact Or.inl ⟨h.1, h.2.sub hs⟩
    · exact Or.inr ⟨g, cap, cs, Fs, h0, hs g h1, h2, h3, h4, h5, h6, h7, fun i b hb => ⟨hs b (h8 i b hb).1, (h8 i b hb).2⟩, h9⟩
theorem OwnAt.below {w w' : World} {B d : Nat} {ks : List Tree} {sl : Value} {F : Nat → Prop} (h : OwnAt w d ks sl F) (hF : ∀ b, F b → b < B) (hb : Below B w w') : OwnAt w' d ks sl F :=
  h.keep fun b _ hf ho => (hb.block b (hF b hf)).trans ho
theorem OwnAt.kids {w : World} {B : Nat} : ∀ {d : Nat} {ks : List Tree} {sl : Value} {F : Nat → Prop}, OwnAt w d ks sl F → (∀ b, F b → b < B) → KidsAt w B d ks sl := by
  intro d
  induction d with
  | zero => intro ks sl F h _; exact ⟨h.1, h.2.any⟩
  | succ d ih =>
    rintro ks sl F (h | ⟨g, cap, cs, Fs, h0, h1, h2, h3, h4, h5, h6, h7, h8, h9⟩) hF
    · exact Or.inl ⟨h.1, h.2.any⟩
    · refine Or.inr ⟨g, 0, cap, h0, hF g h1, h2, h3, h4, fun i T hT => ?_⟩
      obtain ⟨hf, s, hc, ho⟩ := h7 i T hT
      have e : ∀ m u, (nodeCells T s)[m]? = some u → w.cell? ⟨g, 0 + i * 5 + m, none⟩ = some u := fun m u hu => by
        rw [cell_of_row _ _ _ _ _ _ h5, Nat.zero_add]
        exact hc m u hu
      exact ⟨hf, s, e 0 _ rfl, e 1 _ rfl, e 2 _ rfl, e 3 _ rfl, e 4 _ rfl, ih ho fun b hb => hF b (h8 i b hb).1⟩
theorem OwnAt.more {w : World} : ∀ {d : Nat} {ks : List Tree} {sl : Value} {F : Nat → Prop}, OwnAt w d ks sl F → OwnAt w (d + 1) ks sl F := by
  intro d
  induction d with
  | zero => rintro ks sl F h; exact Or.inl h
  | succ d ih =>
    rintro ks sl F (h | ⟨g, cap, cs, Fs, h0, h1, h2, h3, h4, h5, h6, h7, h8, h9⟩)
    · exact Or.inl h
    · refine Or.inr ⟨g, cap, cs, Fs, h0, h1, h2, h3, h4, h5, h6, fun i T hT => ?_, h8, h9⟩
      obtain ⟨hf, s, hc, ho⟩ := h7 i T hT
      exact ⟨hf, s, hc, ih ho⟩
theorem OwnAt.shape {w : World} {d : Nat} {ks : List Tree} {sl : Value} {F : Nat → Prop} (h : OwnAt w d ks sl F) : ∃ p cap, sl = .slice p ks.length cap := by
  cases d with
  | zero => obtain ⟨rfl, h⟩ := h; exact h.any
  | succ d =>
    rcases h with ⟨rfl, h⟩ | ⟨g, cap, cs, Fs, h0, h1, h2, h3, h4, _⟩
    · exact h.any
    · exact ⟨_, cap, h4⟩
theorem OwnAt.nil {w : World} {d : Nat} {sl : Value} {F : Nat → Prop} (h : OwnAt w d [] sl F) : NilOr w sl F := by
  cases d with
  | zero => exact h.2
  | succ d =>
    rcases h with h | ⟨g, cap, cs, Fs, h0, _⟩
    · exact h.2
    · exact absurd rfl h0
/-- blocks of a set may have been turned; new ones may have come -/
structure Chg (F : Nat → Prop) (w w' : World) : Prop where
  os : w'.os = w.os
  tape : w'.tape = w.tape
  output : w'.output = w.output
  size : w.heap.size ≤ w'.heap.size
  block : ∀ b, b < w.heap.size → ¬ F b → w'.heap[b]? = w.heap[b]?
theorem Chg.refl (F : Nat → Prop) (w : World) : Chg F w w := ⟨rfl, rfl, rfl, Nat.le_refl _, fun _ _ _ => rfl⟩
theorem Chg.trans {F : Nat → Prop} {a b c : World} (h : Chg F a b) (k : Chg F b c) : Chg F a c :=
  ⟨k.os.trans h.os, k.tape.trans h.tape, k.output.trans h.output, Nat.le_trans h.size k.size, fun i hi hf => (k.block i (Nat.lt_of_lt_of_le hi h.size) hf).trans (h.block i hi hf)⟩
theorem Chg.sub {F G : Nat → Prop} {a b : World} (h : Chg F a b) (hs : ∀ i, F i → G i) : Chg G a b := ⟨h.os, h.tape, h.output, h.size, fun i hi hf => h.block i hi fun k => hf (hs i k)⟩
theorem Chg.of_below {F : Nat → Prop} {a b : World} (h : Below a.heap.size a b) : Chg F a b := ⟨h.os, h.tape, h.output, h.size, fun i hi _ => h.block i hi⟩
theorem Chg.drew {F : Nat → Prop} {a b : World} (h : Chg F a b) : Chg F a b.drew := ⟨h.os, h.tape, h.output, h.size, h.block⟩
theorem Chg.setCell {F : Nat → Prop} {a b : World} (h : Chg F a b) {p : Addr} (hg : F p.block ∨ a.heap.size ≤ p.block) (v : Value) : Chg F a (b.setCell p v) :=
  ⟨h.os, h.tape, h.output, by simpa [World.setCell] using h.size, fun i hi hf => (heap_setCell_other _ _ _ _ (by rintro rfl; rcases hg with hg | hg; exact hf hg; omega)).trans (h.block i hi hf)⟩
/-- what lies below, where all that may turn lies above -/
theorem Chg.below {F : Nat → Prop} {B : Nat} {w a b : World} (hw : Below B w a) (h : Chg F a b) (hF : ∀ i, F i → B ≤ i) (hB : B ≤ a.heap.size) : Below B w b :=
  ⟨h.os.trans hw.os, h.tape.trans hw.tape, h.output.trans hw.output, Nat.le_trans hw.size h.size, fun i hi => (h.block i (Nat.lt_of_lt_of_le hi hB) fun k => by have := hF i k; omega).trans (hw.block i hi)⟩
end Go.Proofs.YtoekldhdojpceaaGreatDoor
/- What the statements copy: a tree in memory of its own; by contract. Condition: at most 20000 kids a list. -/
namespace Go.Proofs.YtoekldhdojpceaaGreatDoor
open Go.RowKit

/-- blocks that came between two worlds -/
def Between (L B : Nat) : Nat → Prop := fun b => L ≤ b ∧ b < B
/-- so many kids have been copied -/
def RowsOwn (W : World) (L d : Nat) (ks : List Tree) (k : Nat) (own : Option Nat) (rows : List (List Value)) (Fs : Nat → Nat → Prop) : Prop :=
  rows.length = k ∧ (∀ r ∈ rows, r.length = 5) ∧ (∀ i T, i < k → ks[i]? = some T → Fits T ∧ ∃ s, rows[i]? = some (nodeCells T s) ∧ OwnAt W d T.kids s (Fs i)) ∧
    (∀ i b, Fs i b → L ≤ b ∧ b < W.heap.size ∧ own ≠ some b) ∧ (∀ i j b, i ≠ j → Fs i b → ¬ Fs j b) ∧ ∀ i b, Fs i b → i < k
theorem RowsOwn.next {W W' : World} {L d k N : Nat} {ks : List Tree} {own own' : Option Nat} {rows : List (List Value)} {Fs : Nat → Nat → Prop} {t : Tree} {s : Value} (h : RowsOwn W L d ks k own rows Fs)
    (ht : ks[k]? = some t) (hf : Fits t) (hs : OwnAt W' d t.kids s (Between W.heap.size N)) (hWN : W.heap.size ≤ N) (hN : N ≤ W'.heap.size) (hL : L ≤ W.heap.size) (hsz : W.heap.size ≤ W'.heap.size)
    (hkeep : ∀ b, b < W.heap.size → own ≠ some b → W'.heap[b]? = W.heap[b]?) (hown : ∀ b, own' = some b → (own = some b ∧ b < W.heap.size) ∨ N ≤ b) :
    ∃ Fs', RowsOwn W' L d ks (k + 1) own' (rows ++ [nodeCells t s]) Fs' := by
  obtain ⟨h1, h2, h3, h4, h5, h6⟩ := h
  refine ⟨fun i b => if i = k then Between W.heap.size N b else Fs i b, by simp [h1], fun r hr => ?_, fun i T hi hT => ?_, fun i b hb => ?_, fun i j b hij hb hb' => ?_, fun i b hb => ?_⟩
  · rcases List.mem_append.1 hr with hr | hr
    · exact h2 r hr
    · simp at hr; subst hr; rfl
  · by_cases hik : i = k
    · subst hik
      rw [ht] at hT
      injection hT with hT
      subst hT
      refine ⟨hf, s, ?_, ?_⟩
      · rw [List.getElem?_append_right (by omega), h1]; simp
      · simp only [if_true]; exact hs
    · obtain ⟨a1, s', a2, a3⟩ := h3 i T (by omega) hT
      refine ⟨a1, s', ?_, ?_⟩
      · rw [List.getElem?_append_left (by omega)]; exact a2
      · simp only [if_neg hik]
        exact a3.keep fun b o hb ho => (hkeep b (h4 i b hb).2.1 (h4 i b hb).2.2).trans ho
  · by_cases hik : i = k
    · simp only [if_pos hik] at hb
      obtain ⟨q1, q2⟩ := hb
      refine ⟨by omega, by omega, fun e => ?_⟩
      rcases hown b e with h | h <;> omega
    · simp only [if_neg hik] at hb
      obtain ⟨q1, q2, q3⟩ := h4 i b hb
      refine ⟨q1, by omega, fun e => ?_⟩
      rcases hown b e with h | h
      · exact q3 h.1
      · omega
  · by_cases hik : i = k
    · have hjk : j ≠ k := fun e => hij (hik.trans e.symm)
      simp only [if_pos hik] at hb
      simp only [if_neg hjk] at hb'
      have := (h4 j b hb').2.1
      have := hb.1
      omega
    · simp only [if_neg hik] at hb
      by_cases hjk : j = k
      · simp only [if_pos hjk] at hb'
        have := (h4 i b hb).2.1
        have := hb'.1
        omega
      · simp only [if_neg hjk] at hb'
        exact h5 i j b hij hb hb'
  · by_cases hik : i = k
    · omega
    · simp only [if_neg hik] at hb
      have := h6 i b hb
      omega
/-- the list that has been made, read as its own -/
theorem own_fin {W : World} {L n d : Nat} {ks : List Tree} {v : Value} {rows : List (List Value)} {Fs : Nat → Nat → Prop} (hn : ks.length = n) (hown : W.ownsRow L 25 5 v n rows.flatten) (hr : RowsOwn W L (d - 1) ks n v.ownBlock rows Fs) (hd : d = 0 → ks = []) :
    OwnAt W d ks v (Between L W.heap.size) := by
  subst hn
  obtain ⟨h1, h2, h3, h4, h5, h6⟩ := hr
  rcases hown with ⟨hl, ⟨rfl, h0⟩ | ⟨g, cap, cur, rfl, hg, hc, hcur⟩⟩
  · have hk : ks = [] := List.eq_nil_of_length_eq_zero h0
    subst hk
    cases d with
    | zero => exact ⟨rfl, Or.inl rfl⟩
    | succ d => exact Or.inl ⟨rfl, Or.inl rfl⟩
  · cases d with
    | zero =>
      have hk := hd rfl
      subst hk
      obtain ⟨c1, c2, c3, c4⟩ := hcur
      exact ⟨rfl, Or.inr ⟨g, cap, cur, ⟨hg, (Array.getElem?_eq_some_iff.1 hc).1⟩, c2, rfl, hc, c3⟩⟩
    | succ d =>
      by_cases hk : ks = []
      · subst hk
        obtain ⟨c1, c2, c3, c4⟩ := hcur
        exact Or.inl ⟨rfl, Or.inr ⟨g, cap, cur, ⟨hg, (Array.getElem?_eq_some_iff.1 hc).1⟩, c2, rfl, hc, c3⟩⟩
      · obtain ⟨c1, c2, c3, c4⟩ := hcur
        refine Or.inr ⟨g, cap, cur, Fs, hk, ⟨hg, (Array.getElem?_eq_some_iff.1 hc).1⟩, c1, c2, rfl, hc, c3, fun i T hT => ?_, fun i b hb => ?_, h5⟩
        · have hi : i < ks.length := (List.getElem?_eq_some_iff.1 hT).1
          obtain ⟨a1, s, a2, a3⟩ := h3 i T hi hT
          refine ⟨a1, s, fun m u hu => ?_, a3⟩
          have hx := flat5 rows h2 i m _ u a2 hu
          rw [← c4, List.getElem?_take] at hx
          split at hx
          · simpa using hx
          · cases hx
        · obtain ⟨q1, q2, q3⟩ := h4 i b hb
          exact ⟨⟨q1, q2⟩, fun e => q3 (by rw [e]; rfl)⟩
theorem own_block {w : World} {base n size : Nat} {e : TypeId} {v : Value} {xs : List Value} (h : w.ownsRow base e size v n xs) : ∀ g, v.ownBlock = some g → base ≤ g ∧ g < w.heap.size := by
  intro g hg
  rcases h.2 with ⟨rfl, _⟩ | ⟨g', cap, cur, rfl, hb, hc, _⟩
  · cases hg
  · injection hg with hg
    subst hg
    exact ⟨hb, (Array.getElem?_eq_some_iff.1 hc).1⟩
end Go.Proofs.YtoekldhdojpceaaGreatDoor
