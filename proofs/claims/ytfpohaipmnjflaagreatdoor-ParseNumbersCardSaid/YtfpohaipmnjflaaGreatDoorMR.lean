/- Several texts joined, each with its own sentence and conditions ahead of it: RegR, OwnA, OwnB. -/
import Derived.Test.YtfpohaipmnjflaaGreatDoorMP
import Derived.Deep.AppendLies
/- A region that draws its order, each operation with a property of its value and with what it may do to memory, whatever the order; its last operations in the text's order. No condition. -/
namespace Go.Proofs.YtfpohaipmnjflaaGreatDoor
open Go.RowKit

section
variable {P : Program} {l : List Oper} {a0 : Act} {w0 : World} {ty : Nat → World → Value → Prop} {val : Nat → Option Bool} {fr : Nat → Bool} {m : Nat} {J : World → Prop} {Jb : Nat → World → Prop} {R : Nat → World → World → Prop}
/-- an operation's value, whatever the frame, where those that it waits for have theirs -/
def OpR (P : Program) (l : List Oper) (m : Nat) (a0 : Act) (J : World → Prop) (Jb : Nat → World → Prop) (R : Nat → World → World → Prop) (ty : Nat → World → Value → Prop) (fr : Nat → Bool) (i : Nat) (o : Oper) : Prop :=
  ∀ (a : Act) (W : World) (Q' : Exit → Act → World → Prop), J W → Jb i W → (∀ t, (∀ (j : Nat) (o' : Oper), j < m → l[j]? = some o' → o'.dst ≠ some t) → a.tmps.getD t undef = a0.tmps.getD t undef) →
    (∀ (j : Nat) (oj : Oper) (t : Tmp), j < m → (∃ e ∈ o.after, Region.binds .any e = true ∧ e.on = j) → l[j]? = some oj → oj.dst = some t → ty j W (a.tmps.getD t undef)) →
    o.wp P a W (fun a' W' => ∃ v, a' = a.put o.dst v ∧ R i W W' ∧ ty i W' v ∧ (fr i = true → ∃ g, v = .pointer (some ⟨g, 0, none⟩) ∧ W.heap.size ≤ g)) Q'
/-- .. of an operation whose value is no new block -/
theorem OpR.of {i : Nat} {o : Oper} (hf : fr i = false) (h : ∀ (a : Act) (W : World) (Q' : Exit → Act → World → Prop), J W → Jb i W → (∀ t, (∀ (j : Nat) (o' : Oper), j < m → l[j]? = some o' → o'.dst ≠ some t) → a.tmps.getD t undef = a0.tmps.getD t undef) →
    (∀ (j : Nat) (oj : Oper) (t : Tmp), j < m → (∃ e ∈ o.after, Region.binds .any e = true ∧ e.on = j) → l[j]? = some oj → oj.dst = some t → ty j W (a.tmps.getD t undef)) →
    o.wp P a W (fun a' W' => ∃ v, a' = a.put o.dst v ∧ R i W W' ∧ ty i W' v) Q') : OpR P l m a0 J Jb R ty fr i o := by
  intro a W Q' h1 h2 h3 h4
  refine Oper.wp_mono (fun a' W' hq => ?_) (h a W Q' h1 h2 h3 h4)
  obtain ⟨v, e1, e2, e3⟩ := hq
  exact ⟨v, e1, e2, e3, fun h => by rw [hf] at h; cases h⟩
end
end Go.Proofs.YtfpohaipmnjflaaGreatDoor
/- Trees in memory of one's own: each list a block of its own, apart from all others. No condition. -/
namespace Go.Proofs.YtfpohaipmnjflaaGreatDoor
open Go.RowKit

/-- no node: no block, or one of a set -/
def NilOr (w : World) (sl : Value) (F : Nat → Prop) : Prop := sl = .slice none 0 0 ∨ ∃ (g cap : Nat) (cs : Array Value), F g ∧ cap ≤ maxLen ∧ sl = .slice (some ⟨g, 0, none⟩) 0 cap ∧ w.heap[g]? = some (.cells cs 25 (0, 0)) ∧ cs.size = cap * 5
theorem NilOr.any {w : World} {sl : Value} {F : Nat → Prop} (h : NilOr w sl F) : ∃ sp cap, sl = .slice sp 0 cap := by
  rcases h with h | ⟨g, cap, _, _, _, h, _⟩
  · exact ⟨none, 0, h⟩
  · exact ⟨_, cap, h⟩
theorem NilOr.keep {w w' : World} {sl : Value} {F : Nat → Prop} (hk : ∀ b o, F b → w.heap[b]? = some o → w'.heap[b]? = some o) (h : NilOr w sl F) : NilOr w' sl F := by
  rcases h with h | ⟨g, cap, cs, h1, h2, h3, h4, h5⟩
  · exact Or.inl h
  · exact Or.inr ⟨g, cap, cs, h1, h2, h3, hk g _ h1 h4, h5⟩
theorem NilOr.sub {w : World} {sl : Value} {F G : Nat → Prop} (h : NilOr w sl F) (hs : ∀ b, F b → G b) : NilOr w sl G := by
  rcases h with h | ⟨g, cap, cs, h1, h2⟩
  · exact Or.inl h
  · exact Or.inr ⟨g, cap, cs, hs g h1, h2⟩
/-- a slice of nodes, with all that hangs on it, in blocks of a set, no two lists in one -/
def OwnAt (w : World) : Nat → List Tree → Value → (Nat → Prop) → Prop
  | 0, ks, sl, F => ks = [] ∧ NilOr w sl F
  | d + 1, ks, sl, F => (ks = [] ∧ NilOr w sl F) ∨
      ∃ (g cap : Nat) (cs : Array Value) (Fs : Nat → Nat → Prop), ks ≠ [] ∧ F g ∧ ks.length ≤ cap ∧ cap ≤ maxLen ∧ sl = .slice (some ⟨g, 0, none⟩) ks.length cap ∧ w.heap[g]? = some (.cells cs 25 (0, 0)) ∧ cs.size = cap * 5 ∧
        (∀ i T, ks[i]? = some T → Fits T ∧ ∃ s, (∀ m u, (nodeCells T s)[m]? = some u → cs[i * 5 + m]? = some u) ∧ OwnAt w d T.kids s (Fs i)) ∧
        (∀ i b, Fs i b → F b ∧ b ≠ g) ∧ ∀ i j b, i ≠ j → Fs i b → ¬ Fs j b
theorem OwnAt.keep {w w' : World} : ∀ {d : Nat} {ks : List Tree} {sl : Value} {F : Nat → Prop}, (∀ b o, F b → w.heap[b]? = some o → w'.heap[b]? = some o) → OwnAt w d ks sl F → OwnAt w' d ks sl F := by
  intro d
  induction d with
  | zero => intro ks sl F hk h; exact ⟨h.1, h.2.keep hk⟩
  | succ d ih =>
    rintro ks sl F hk (h | ⟨g, cap, cs, Fs, h0, h1, h2, h3, h4, h5, h6, h7, h8, h9⟩)
    · exact Or.inl ⟨h.1, h.2.keep hk⟩
    · refine Or.inr ⟨g, cap, cs, Fs, h0, h1, h2, h3, h4, hk g _ h1 h5, h6, fun i T hT => ?_, h8, h9⟩
      obtain ⟨hf, s, hc, ho⟩ := h7 i T hT
      exact ⟨hf, s, hc, ih (fun b o hb => hk b o (h8 i b hb).1) ho⟩
theorem OwnAt.sub {w : World} {d : Nat} {ks : List Tree} {sl : Value} {F G : Nat → Prop} (h : OwnAt w d ks sl F) (hs : ∀ b, F b → G b) : OwnAt w d ks sl G := by
  cases d with
  | zero => exact ⟨h.1, h.2.sub hs⟩
  | succ d =>
    rcases h with h | ⟨g, cap, cs, Fs, h0, h1, h2, h3, h4, h5, h6, h7, h8, h9⟩
    · exact Or.inl ⟨h.1, h.2.sub hs⟩
    · exact Or.inr ⟨g, cap, cs, Fs, h0, hs g h1, h2, h3, h4, h5, h6, h7, fun i b hb => ⟨hs b (h8 i b hb).1, (h8 i b hb).2⟩, h9⟩
theorem OwnAt.below {w w' : World} {B d : Nat} {ks : List Tree} {sl : Value} {F : Nat → Prop} (h : OwnAt w d ks sl F) (hF : ∀ b, F b → b < B) (hb : Below B w w') : OwnAt w' d ks sl F :=
  h.keep fun b _ hf ho => (hb.block b (hF b hf)).trans ho
theorem OwnAt.kids {w : World} {B : Nat} : ∀ {d : Nat} {ks : List Tree} {sl : Value} {F : Nat → Prop}, OwnAt w d ks sl F → (∀ b, F b → b < B) → KidsAt w B d ks sl := by
  intro d
  induction d with
  | zero => intro ks sl F h _; exact ⟨h.1, h.2.any⟩
  | succ d ih =>
    rintro ks sl F (h | ⟨g, cap, cs, Fs, h0, h1, h2, h3, h4, h5, h6, h7, h8, h9⟩) hF
    · exact Or.inl ⟨h.1, h.2.any⟩
    · refine Or.inr ⟨g, 0, cap, h0, hF g h1, h2, h3, h4, fun i T hT => ?_⟩
      obtain ⟨hf, s, hc, ho⟩ := h7 i T hT
      have e : ∀ m u, (nodeCells T s)[m]? = some u → w.cell? ⟨g, 0 + i * 5 + m, none⟩ = some u := fun m u hu => by
        rw [cell_of_row _ _ _ _ _ _ h5, Nat.zero_add]
        exact hc m u hu
      exact ⟨hf, s, e 0 _ rfl, e 1 _ rfl, e 2 _ rfl, e 3 _ rfl, e 4 _ rfl, ih ho fun b hb => hF b (h8 i b hb).1⟩
theorem OwnAt.more {w : World} : ∀ {d : Nat} {ks : List Tree} {sl : Value} {F : Nat → Prop}, OwnAt w d ks sl F → OwnAt w (d + 1) ks sl F := by
  intro d
  induction d with
  | zero => rintro ks sl F h; exact Or.inl h
  | succ d ih =>
    rintro ks sl F (h | ⟨g, cap, cs, Fs, h0, h1, h2, h3, h4, h5, h6, h7, h8, h9⟩)
    · exact Or.inl h
    · refine Or.inr ⟨g, cap, cs, Fs, h0, h1, h2, h3, h4, h5, h6, fun i T hT => ?_, h8, h9⟩
      obtain ⟨hf, s, hc, ho⟩ := h7 i T hT
      exact ⟨hf, s, hc, ih ho⟩
theorem OwnAt.shape {w : World} {d : Nat} {ks : List Tree} {sl : Value} {F : Nat → Prop} (h : OwnAt w d ks sl F) : ∃ p cap, sl = .slice p ks.length cap := by
  cases d with
  | zero => obtain ⟨rfl, h⟩ := h; exact h.any
  | succ d =>
    rcases h with ⟨rfl, h⟩ | ⟨g, cap, cs, Fs, h0, h1, h2, h3, h4, _⟩
    · exact h.any
    · exact ⟨_, cap, h4⟩
theorem OwnAt.nil {w : World} {d : Nat} {sl : Value} {F : Nat → Prop} (h : OwnAt w d [] sl F) : NilOr w sl F := by
  cases d with
  | zero => exact h.2
  | succ d =>
    rcases h with h | ⟨g, cap, cs, Fs, h0, _⟩
    · exact h.2
    · exact absurd rfl h0
/-- blocks of a set may have been turned; new ones may have come -/
structure Chg (F : Nat → Prop) (w w' : World) : Prop where
  os : w'.os = w.os
  tape : w'.tape = w.tape
  output : w'.output = w.output
  size : w.heap.size ≤ w'.heap.size
  block : ∀ b, b < w.heap.size → ¬ F b → w'.heap[b]? = w.heap[b]?
theorem Chg.refl (F : Nat → Prop) (w : World) : Chg F w w := ⟨rfl, rfl, rfl, Nat.le_refl _, fun _ _ _ => rfl⟩
theorem Chg.trans {F : Nat → Prop} {a b c : World} (h : Chg F a b) (k : Chg F b c) : Chg F a c :=
  ⟨k.os.trans h.os, k.tape.trans h.tape, k.output.trans h.output, Nat.le_trans h.size k.size, fun i hi hf => (k.block i (Nat.lt_of_lt_of_le hi h.size) hf).trans (h.block i hi hf)⟩
theorem Chg.sub {F G : Nat → Prop} {a b : World} (h : Chg F a b) (hs : ∀ i, F i → G i) : Chg G a b := ⟨h.os, h.tape, h.output, h.size, fun i hi hf => h.block i hi fun k => hf (hs i k)⟩
theorem Chg.of_below {F : Nat → Prop} {a b : World} (h : Below a.heap.size a b) : Chg F a b := ⟨h.os, h.tape, h.output, h.size, fun i hi _ => h.block i hi⟩
theorem Chg.drew {F : Nat → Prop} {a b : World} (h : Chg F a b) : Chg F a b.drew := ⟨h.os, h.tape, h.output, h.size, h.block⟩
theorem Chg.setCell {F : Nat → Prop} {a b : World} (h : Chg F a b) {p : Addr} (hg : F p.block ∨ a.heap.size ≤ p.block) (v : Value) : Chg F a (b.setCell p v) :=
  ⟨h.os, h.tape, h.output, by simpa [World.setCell] using h.size, fun i hi hf => (heap_setCell_other _ _ _ _ (by rintro rfl; rcases hg with hg | hg; exact hf hg; omega)).trans (h.block i hi hf)⟩
/-- what lies below, where all that may turn lies above -/
theorem Chg.below {F : Nat → Prop} {B : Nat} {w a b : World} (hw : Below B w a) (h : Chg F a b) (hF : ∀ i, F i → B ≤ i) (hB : B ≤ a.heap.size) : Below B w b :=
  ⟨h.os.trans hw.os, h.tape.trans hw.tape, h.output.trans hw.output, Nat.le_trans hw.size h.size, fun i hi => (h.block i (Nat.lt_of_lt_of_le hi hB) fun k => by have := hF i k; omega).trans (hw.block i hi)⟩
end Go.Proofs.YtfpohaipmnjflaaGreatDoor
/- What the statements copy: a tree in memory of its own; by contract. Condition: at most 20000 kids a list. -/
namespace Go.Proofs.YtfpohaipmnjflaaGreatDoor
open Go.RowKit

/-- blocks that came between two worlds -/
def Between (L B : Nat) : Nat → Prop := fun b => L ≤ b ∧ b < B
def CopyPost (d : Nat) (ks : List Tree) (w : World) (e : Ending) (w' : World) : Prop := ∃ s, e = .returned s ∧ Below w.heap.size w w' ∧ OwnAt w' d ks s (Between w.heap.size w'.heap.size)
def CopyNPost (d : Nat) (T : Tree) (w : World) (e : Ending) (w' : World) : Prop := ∃ s, e = .returned (.agg #[.int .u8 T.kind, .string T.text, .int .i64 T.num, .int .i64 T.place, s]) ∧ Below w.heap.size w w' ∧ OwnAt w' d T.kids s (Between w.heap.size w'.heap.size)
def CopyK (d : Nat) : Prop := ∀ (ks : List Tree) (u : Value) (B : Nat) (w : World), KidsAt w B d ks u → B ≤ w.heap.size → SlimK d ks → Calls Tryz.prog 24 #[u] w (CopyPost d ks w)
def CopyN (d : Nat) : Prop := ∀ (T : Tree) (u : Value) (B : Nat) (w : World), NodeAt w B d T u → B ≤ w.heap.size → SlimK d T.kids → Calls Tryz.prog 5 #[u] w (CopyNPost d T w)

/-- so many kids have been copied -/
def RowsOwn (W : World) (L d : Nat) (ks : List Tree) (k : Nat) (own : Option Nat) (rows : List (List Value)) (Fs : Nat → Nat → Prop) : Prop :=
  rows.length = k ∧ (∀ r ∈ rows, r.length = 5) ∧ (∀ i T, i < k → ks[i]? = some T → Fits T ∧ ∃ s, rows[i]? = some (nodeCells T s) ∧ OwnAt W d T.kids s (Fs i)) ∧
    (∀ i b, Fs i b → L ≤ b ∧ b < W.heap.size ∧ own ≠ some b) ∧ (∀ i j b, i ≠ j → Fs i b → ¬ Fs j b) ∧ ∀ i b, Fs i b → i < k
theorem RowsOwn.next {W W' : World} {L d k N : Nat} {ks : List Tree} {own own' : Option Nat} {rows : List (List Value)} {Fs : Nat → Nat → Prop} {t : Tree} {s : Value} (h : RowsOwn W L d ks k own rows Fs)
    (ht : ks[k]? = some t) (hf : Fits t) (hs : OwnAt W' d t.kids s (Between W.heap.size N)) (hWN : W.heap.size ≤ N) (hN : N ≤ W'.heap.size) (hL : L ≤ W.heap.size) (hsz : W.heap.size ≤ W'.heap.size)
    (hkeep : ∀ b, b < W.heap.size → own ≠ some b → W'.heap[b]? = W.heap[b]?) (hown : ∀ b, own' = some b → (own = some b ∧ b < W.heap.size) ∨ N ≤ b) :
    ∃ Fs', RowsOwn W' L d ks (k + 1) own' (rows ++ [nodeCells t s]) Fs' := by
  obtain ⟨h1, h2, h3, h4, h5, h6⟩ := h
  refine ⟨fun i b => if i = k then Between W.heap.size N b else Fs i b, by simp [h1], fun r hr => ?_, fun i T hi hT => ?_, fun i b hb => ?_, fun i j b hij hb hb' => ?_, fun i b hb => ?_⟩
  · rcases List.mem_append.1 hr with hr | hr
    · exact h2 r hr
    · simp at hr; subst hr; rfl
  · by_cases hik : i = k
    · subst hik
      rw [ht] at hT
      injection hT with hT
      subst hT
      refine ⟨hf, s, ?_, ?_⟩
      · rw [List.getElem?_append_right (by omega), h1]; simp
      · simp only [if_true]; exact hs
    · obtain ⟨a1, s', a2, a3⟩ := h3 i T (by omega) hT
      refine ⟨a1, s', ?_, ?_⟩
      · rw [List.getElem?_append_left (by omega)]; exact a2
      · simp only [if_neg hik]
        exact a3.keep fun b o hb ho => (hkeep b (h4 i b hb).2.1 (h4 i b hb).2.2).trans ho
  · by_cases hik : i = k
    · simp only [if_pos hik] at hb
      obtain ⟨q1, q2⟩ := hb
      refine ⟨by omega, by omega, fun e => ?_⟩
      rcases hown b e with h | h <;> omega
    · simp only [if_neg hik] at hb
      obtain ⟨q1, q2, q3⟩ := h4 i b hb
      refine ⟨q1, by omega, fun e => ?_⟩
      rcases hown b e with h | h
      · exact q3 h.1
      · omega
  · by_cases hik : i = k
    · have hjk : j ≠ k := fun e => hij (hik.trans e.symm)
      simp only [if_pos hik] at hb
      simp only [if_neg hjk] at hb'
      have := (h4 j b hb').2.1
      have := hb.1
      omega
    · simp only [if_neg hik] at hb
      by_cases hjk : j = k
      · simp only [if_pos hjk] at hb'
        have := (h4 i b hb).2.1
        have := hb'.1
        omega
      · simp only [if_neg hjk] at hb'
        exact h5 i j b hij hb hb'
  · by_cases hik : i = k
    · omega
    · simp only [if_neg hik] at hb
      have := h6 i b hb
      omega
theorem flat_at (rows : List (List Value)) (h5 : ∀ r ∈ rows, r.length = 5) (i m : Nat) (r : List Value) (u : Value) (hi : rows[i]? = some r) (hm : r[m]? = some u) : rows.flatten[i * 5 + m]? = some u := flat5 rows h5 i m r u hi hm
/-- the list that has been made, read as its own -/
theorem own_fin {W : World} {L n d : Nat} {ks : List Tree} {v : Value} {rows : List (List Value)} {Fs : Nat → Nat → Prop} (hn : ks.length = n) (hown : W.ownsRow L 25 5 v n rows.flatten) (hr : RowsOwn W L (d - 1) ks n v.ownBlock rows Fs) (hd : d = 0 → ks = []) :
    OwnAt W d ks v (Between L W.heap.size) := by
  subst hn
  obtain ⟨h1, h2, h3, h4, h5, h6⟩ := hr
  rcases hown with ⟨hl, ⟨rfl, h0⟩ | ⟨g, cap, cur, rfl, hg, hc, hcur⟩⟩
  · have hk : ks = [] := List.eq_nil_of_length_eq_zero h0
    subst hk
    cases d with
    | zero => exact ⟨rfl, Or.inl rfl⟩
    | succ d => exact Or.inl ⟨rfl, Or.inl rfl⟩
  · cases d with
    | zero =>
      have hk := hd rfl
      subst hk
      obtain ⟨c1, c2, c3, c4⟩ := hcur
      exact ⟨rfl, Or.inr ⟨g, cap, cur, ⟨hg, (Array.getElem?_eq_some_iff.1 hc).1⟩, c2, rfl, hc, c3⟩⟩
    | succ d =>
      by_cases hk : ks = []
      · subst hk
        obtain ⟨c1, c2, c3, c4⟩ := hcur
        exact Or.inl ⟨rfl, Or.inr ⟨g, cap, cur, ⟨hg, (Array.getElem?_eq_some_iff.1 hc).1⟩, c2, rfl, hc, c3⟩⟩
      · obtain ⟨c1, c2, c3, c4⟩ := hcur
        refine Or.inr ⟨g, cap, cur, Fs, hk, ⟨hg, (Array.getElem?_eq_some_iff.1 hc).1⟩, c1, c2, rfl, hc, c3, fun i T hT => ?_, fun i b hb => ?_, h5⟩
        · have hi : i < ks.length := (List.getElem?_eq_some_iff.1 hT).1
          obtain ⟨a1, s, a2, a3⟩ := h3 i T hi hT
          refine ⟨a1, s, fun m u hu => ?_, a3⟩
          have hx := flat5 rows h2 i m _ u a2 hu
          rw [← c4, List.getElem?_take] at hx
          split at hx
          · simpa using hx
          · cases hx
        · obtain ⟨q1, q2, q3⟩ := h4 i b hb
          exact ⟨⟨q1, q2⟩, fun e => q3 (by rw [e]; rfl)⟩
theorem own_block {w : World} {base n size : Nat} {e : TypeId} {v : Value} {xs : List Value} (h : w.ownsRow base e size v n xs) : ∀ g, v.ownBlock = some g → base ≤ g ∧ g < w.heap.size := by
  intro g hg
  rcases h.2 with ⟨rfl, _⟩ | ⟨g', cap, cur, rfl, hb, hc, _⟩
  · cases hg
  · injection hg with hg
    subst hg
    exact ⟨hb, (Array.getElem?_eq_some_iff.1 hc).1⟩
theorem below_grownO {B : Nat} {w W W' : World} {row : Option Nat} (hb : Below B w W) (hBW : B ≤ W.heap.size) (hg : W.grownBy W' row) (hrow : ∀ g, row = some g → B ≤ g) : Below B w W' :=
  ⟨hg.os.trans hb.os, hg.tape.trans hb.tape, hg.output.trans hb.output, Nat.le_trans hb.size hg.size, fun i hi => (hg.block i (Nat.lt_of_lt_of_le hi hBW) (fun e => by have := hrow i e.symm; omega)).trans (hb.block i hi)⟩
def CopyRel (w : World) (d : Nat) (ks : List Tree) (n : Nat) (o i : Value) (W : World) : Prop :=
  ∃ (W1 : World) (k : Nat) (rows : List (List Value)) (Fs : Nat → Nat → Prop), W1 = W ∧ k ≤ n ∧ i = .int .i64 k ∧ W1.ownsRow w.heap.size 25 5 o k rows.flatten ∧ Below w.heap.size w W1 ∧ RowsOwn W1 w.heap.size (d - 1) ks k o.ownBlock rows Fs

set_option maxRecDepth 100000 in
set_option maxHeartbeats 2000000 in
theorem copyK_of (d : Nat) (hN : ∀ d', d = d' + 1 → CopyN d') : CopyK d := by
  intro ks u B w hk hB hs
  have hn9 : ks.length ≤ 20000 := by
    cases d with
    | zero => rw [hk.1]; exact Nat.zero_le _
    | succ d => exact hs.1
  have hslim : ∀ T ∈ ks, SlimK (d - 1) T.kids := by
    cases d with
    | zero => intro T hT; rw [hk.1] at hT; cases hT
    | succ d => intro T hT; exact (hs.2 T hT).kids
  obtain ⟨p, c, rfl, _, hrow⟩ := hk.rows
  obtain ⟨n, hn⟩ : ∃ n, ks.length = n := ⟨_, rfl⟩
  rw [hn] at hn9 ⊢
  have HN := Lib.hid hn
  have HRow := Lib.hid hrow
  have HSl := Lib.hid hslim
  have HLN := Lib.hid hN
  obtain ⟨i0, hi0, hz0, hz1, hz2⟩ := info_parts infoNode
  clear hk hs hslim hrow hN hn
  go_enter Tryz.func24, Tryz.ntmps24
  go_wp2_with fail
  go_loopw [3, 4] (CopyRel w d ks n) (fun _ i _ => n - (intOf i).toNat)
  case atStart => exact ⟨_, 0, [], fun _ _ => False, rfl, Nat.zero_le _, rfl, World.ownsRow_nil _ _ _ _, Below.refl _ _, rfl, (fun _ h => absurd h (List.not_mem_nil)), (fun i T hi _ => absurd hi (Nat.not_lt_zero _)), (fun _ _ h => h.elim), (fun _ _ _ _ h => h.elim), fun _ _ h => h.elim⟩
  case round =>
    obtain ⟨W1, k, rows, Fs, rfl, hk, rfl, hown, hb, hrl⟩ := hrel
    have hk0 : (0 : Int) ≤ k := by omega
    have HOwn1 := Lib.hid hown
    have HB1 := Lib.hid hb
    have HRL := Lib.hid hrl
    clear hown hrl
    by_cases hlt : k < n
    · obtain ⟨t, ht⟩ : ∃ t, ks[k]? = some t := ⟨ks[k]'(by rw [HN.out]; exact hlt), List.getElem?_eq_getElem (by rw [HN.out]; exact hlt)⟩
      have hmem : t ∈ ks := List.mem_of_getElem? ht
      obtain ⟨hd, b, off, rfl, hbB, hkid⟩ := HRow.out k t ht
      obtain ⟨p', l', c', d0, d1, d2, d3, d4, hnode⟩ := hkid.node (hb.mono hB) hbB
      have HF := Lib.hid hnode.1
      have HT := Lib.hid ht
      have hk1 : (k : Int) < n := by omega
      have HCall := Lib.hid (HLN.out _ hd t _ B W1 hnode (Nat.le_trans hB hb.size) (HSl.out t hmem))
      clear hnode hkid ht hmem hd hb
      go_wp2_with fail
      refine HCall.out.mono ?_
      rintro e W2 ⟨s, rfl, hb2, hl⟩
      obtain ⟨p2, c2, rfl⟩ := hl.shape
      have HB2 := Lib.hid hb2
      have HL := Lib.hid hl
      have hown2 := ownsRow_below HOwn1.out hb2
      have hsz2 := hb2.size
      have hsz1 := HB1.out.size
      clear hb2 hl
      go_wp2_with (at_builtin; go_must (refine wpList_append_lies _ rfl (.tmp 17) (.tmp 19) 23 rfl w.heap.size 25 i0 _ 5 64 Tryz.underlying23 hi0 hz0 hz1 hz2 rfl (by decide) u3 k rows.flatten rfl ((hown2.alloc _).alloc _) ⟨W2.heap.size + 1, 0, none⟩ 1 1 (nodeCells t (.slice p2 t.kids.length c2)) rfl rfl (by exact news_new2 W2 _ (nodeCells t (.slice p2 t.kids.length c2)) 25) (by simp [Value.oneCell', nodeCells]) (by decide) (by unfold maxLen; omega) (by omega) (by simp; omega) (W2.heap.size + 2) (by simp) ?_); intro g7 cap7 w7 hown' hgrow hlies hlt7)
      have hal : Below W2.heap.size W2 ((W2.alloc (.cells #[.int .u8 t.kind, .string t.text, .int .i64 t.num, .int .i64 t.place, .slice p2 t.kids.length c2] 25)).alloc (.cells #[.int .u8 t.kind, .string t.text, .int .i64 t.num, .int .i64 t.place, .slice p2 t.kids.length c2] 25)) := below_two W2 _ _
      have hob := own_block HOwn1.out
      have hsg := hgrow.size
      have hsz3 : ((W2.alloc (.cells #[.int .u8 t.kind, .string t.text, .int .i64 t.num, .int .i64 t.place, .slice p2 t.kids.length c2] 25)).alloc (.cells #[.int .u8 t.kind, .string t.text, .int .i64 t.num, .int .i64 t.place, .slice p2 t.kids.length c2] 25)).heap.size = W2.heap.size + 2 := by simp
      rw [hsz3] at hsg
      have hb3 : Below w.heap.size w w7 := below_grownO ((HB1.out.trans (HB2.out.mono HB1.out.size)).trans (hal.mono (Nat.le_trans HB1.out.size hsz2))) (by rw [hsz3]; omega) hgrow (fun g hg => (hob g hg).1)
      have hkeep2 : ∀ x, x < W2.heap.size → u3.ownBlock ≠ some x → w7.heap[x]? = W2.heap[x]? := fun x hx hne => (hgrow.block x (by rw [hsz3]; omega) (fun e => hne e.symm)).trans (hal.block x hx)
      obtain ⟨Fs', hnext⟩ := HRL.out.next (W' := w7) (N := W2.heap.size) (own' := some g7) HT.out HF.out (HL.out.keep fun x o hx ho => (hkeep2 x hx.2 (fun e => by have := (hob x e).2; have := hx.1; omega)).trans ho) hsz2 (by omega) hsz1 (by omega)
        (fun x hx hne => (hkeep2 x (by omega) hne).trans (HB2.out.block x hx)) (fun x hx => by
          injection hx with hx
          subst hx
          rcases hlies with h | h
          · exact Or.inl ⟨h, (hob _ h).2⟩
          · right; omega)
      refine ⟨⟨w7, k + 1, _, Fs', rfl, by omega, by go_num, ?_, hb3, hnext⟩, by simp [intOf]; omega⟩
      rw [List.flatten_append]
      simpa using hown'
    · obtain rfl : k = n := by omega
      clear hk hlt hk0 hb
      go_wp2_with fail
      go_ret
      refine ⟨_, rfl, HB1.out, own_fin HN.out HOwn1.out HRL.out (fun h0 => ?_)⟩
      have hr := HRow.out
      cases hks : ks with
      | nil => rfl
      | cons x l =>
        have := (hr 0 x (by rw [hks]; rfl)).1
        omega
theorem copyNode_fin (W : World) (Rp : Ending → World → Prop) (T : Nat) (a b c d e : Value) (hT : W.heap[T]? = some (.cells #[a, b, c, d, e] 25 (0, 0)))
    (tmps : Array Value) (h4 : tmps.getD 2 undef = .pointer (some ⟨T, 0, none⟩)) (hR : Rp (.returned (.agg #[a, b, c, d, e])) W) :
    bodyPost Tryz.prog Tryz.f5 Rp .ret ⟨tmps, []⟩ W := by
  obtain ⟨c0, c1, c2, c3, c4⟩ := cells5 hT
  have h4' : tmps[2]?.getD undef = .pointer (some ⟨T, 0, none⟩) := by simpa using h4
  refine bodyPost_ret (v := .agg #[a, b, c, d, e]) ?_ rfl hR
  simp [results, Tryz.results5, go_sem, h4', c0, c1, c2, c3, c4]

set_option maxRecDepth 100000 in
set_option maxHeartbeats 1000000 in
theorem copyN_of (d : Nat) (h : CopyK d) : CopyN d := by
  intro T u B w hu hB hn
  obtain ⟨hf, s, rfl, hs⟩ := hu
  obtain ⟨p, l, c, rfl⟩ := hs.shape
  have hb := below_two w (.cells #[.int .u8 T.kind, .string T.text, .int .i64 T.num, .int .i64 T.place, .slice p l c] 25) (.cells #[.int .u8 0, .string ⟨#[]⟩, .int .i64 0, .int .i64 0, .slice none 0 0] 25)
  obtain ⟨X1, X2, _⟩ := two_new' w (.cells #[.int .u8 T.kind, .string T.text, .int .i64 T.num, .int .i64 T.place, .slice p l c] 25) (.cells #[.int .u8 0, .string ⟨#[]⟩, .int .i64 0, .int .i64 0, .slice none 0 0] 25)
  have HX1 := Lib.hid X1
  have HX2 := Lib.hid X2
  have HC := Lib.hid (h T.kids _ B _ (hs.below (hb.mono hB)) (Nat.le_trans hB hb.size) hn)
  have HB := Lib.hid hb
  obtain ⟨a0, a1, a2, a3, a4⟩ := cells5 X1
  clear X1 X2 hs h hb hf hn
  go_enter Tryz.func5, Tryz.ntmps5
  go_wp2_with fail
  refine HC.out.mono ?_
  rintro e W3 ⟨s', rfl, hb', hl⟩
  obtain ⟨p2, c2, rfl⟩ := hl.shape
  have hs1 : w.heap.size < ((w.alloc (.cells #[.int .u8 T.kind, .string T.text, .int .i64 T.num, .int .i64 T.place, .slice p l c] 25)).alloc (.cells #[.int .u8 0, .string ⟨#[]⟩, .int .i64 0, .int .i64 0, .slice none 0 0] 25)).heap.size := by simp; omega
  have hs2 : w.heap.size + 1 < ((w.alloc (.cells #[.int .u8 T.kind, .string T.text, .int .i64 T.num, .int .i64 T.place, .slice p l c] 25)).alloc (.cells #[.int .u8 0, .string ⟨#[]⟩, .int .i64 0, .int .i64 0, .slice none 0 0] 25)).heap.size := by simp
  have h1 := heap_below hb' HX1.out hs1
  have h2 := heap_below hb' HX2.out hs2
  have HBB := Lib.hid (HB.out.trans (hb'.mono HB.out.size))
  have HL := Lib.hid (hl.sub (G := Between (w.heap.size + 2) W3.heap.size) (fun b hb => by simpa [Between] using hb))
  clear a0 a1 a2 a3 a4 hb' hl hs1 hs2
  obtain ⟨a0, a1, a2, a3, a4⟩ := cells5 h1
  have f1 := frozen5 h1 4
  obtain ⟨b0, b1, b2, b3, b4⟩ := cells5 h2
  have g0 := frozen5 h2 0
  have g1 := frozen5 h2 1
  have g2 := frozen5 h2 2
  have g3 := frozen5 h2 3
  have g4 := frozen5 h2 4
  have H1 := Lib.hid h1
  have H2 := Lib.hid h2
  clear h1 h2
  go_wp2_with fail
  clear a0 a1 a2 a3 f1
  have HS := Lib.hid (show Below w.heap.size w ((((((W3.setCell ⟨w.heap.size, 4, none⟩ (.slice p2 T.kids.length c2)).setCell ⟨w.heap.size + 1, 0, none⟩ (.int .u8 T.kind)).setCell ⟨w.heap.size + 1, 1, none⟩ (.string T.text)).setCell ⟨w.heap.size + 1, 2, none⟩ (.int .i64 T.num)).setCell ⟨w.heap.size + 1, 3, none⟩ (.int .i64 T.place)).setCell ⟨w.heap.size + 1, 4, none⟩ (.slice p2 T.kids.length c2)) from
    (((((HBB.out.setCell (Nat.le_refl _) _).setCell (Nat.le_succ _) _).setCell (Nat.le_succ _) _).setCell (Nat.le_succ _) _).setCell (Nat.le_succ _) _).setCell (Nat.le_succ _) _)
  clear b0 b1 b2 b3 b4 g0 g1 g2 g3 g4
  have hne : w.heap.size ≠ w.heap.size + 1 := by omega
  refine copyNode_fin _ _ (w.heap.size + 1) _ _ _ _ _ (heap_set (heap_set (heap_set (heap_set (heap_set (heap_set_far H2.out hne _ _) 0 _) 1 _) 2 _) 3 _) 4 _) _ rfl ?_
  refine ⟨_, rfl, HS.out, ?_⟩
  have hh : ∀ (W : World) (p : Addr) (u : Value), (W.setCell p u).heap.size = W.heap.size := fun W p u => by simp [World.setCell]
  have hset : ∀ (W : World) (g i : Nat) (u : Value) (d : Nat) (ks : List Tree) (sl : Value), g < w.heap.size + 2 → OwnAt W d ks sl (Between (w.heap.size + 2) W3.heap.size) → OwnAt (W.setCell ⟨g, i, none⟩ u) d ks sl (Between (w.heap.size + 2) W3.heap.size) := fun W g i u d ks sl hp ho =>
    ho.keep fun b o hb hx => (heap_setCell_other W ⟨g, i, none⟩ b u (by show b ≠ g; have := hb.1; omega)).trans hx
  refine (hset _ _ _ _ _ _ _ (by omega) (hset _ _ _ _ _ _ _ (by omega) (hset _ _ _ _ _ _ _ (by omega) (hset _ _ _ _ _ _ _ (by omega) (hset _ _ _ _ _ _ _ (by omega) (hset _ _ _ _ _ _ _ (by omega) HL.out)))))).sub fun b hb => ?_
  have := hb.1
  have := hb.2
  exact ⟨by omega, by simp only [hh]; omega⟩
theorem copyK_any : ∀ d, CopyK d := by
  intro d
  induction d with
  | zero => exact copyK_of 0 (fun d' h => by omega)
  | succ d ih =>
    refine copyK_of (d + 1) (fun d' h => ?_)
    have e : d' = d := by omega
    subst e
    exact copyN_of _ ih
theorem copyN_any (d : Nat) : CopyN d := copyN_of d (copyK_any d)
end Go.Proofs.YtfpohaipmnjflaaGreatDoor
