/- All lists of a tree, one behind the other, in the bag. Condition: at most 60000 lists. -/
import Derived.Test.YtfpohaipmnjflaaGreatDoorMFB
namespace Go.Proofs.YtfpohaipmnjflaaGreatDoor
open Go.RowKit

theorem foldl_sum (l : List Nat) : ∀ a, l.foldl (· + ·) a = a + l.sum := by
  induction l with
  | nil => intro a; simp
  | cons x l ih => intro a; rw [List.foldl_cons, ih, List.sum_cons]; omega
theorem manyF_sum (d : Nat) (T : Tree) : manyF (d + 1) T = 1 + (T.kids.map (manyF d)).sum := foldl_sum _ 1
theorem manyF_pos1 (d : Nat) (T : Tree) : 1 ≤ manyF d T := by
  cases d with
  | zero => exact Nat.le_refl _
  | succ d => rw [manyF_sum]; omega
theorem sum_take_le (f : Tree → Nat) (ks : List Tree) (k : Nat) : ((ks.take k).map f).sum ≤ (ks.map f).sum := by
  have h : ((ks.take k ++ ks.drop k).map f).sum = (ks.map f).sum := by rw [List.take_append_drop]
  rw [List.map_append, List.sum_append] at h
  omega
def NodeKeep (w w' : World) : Prop := ∀ (b : Nat) (cs : Array Value), w.heap[b]? = some (.cells cs 25 (0, 0)) → w'.heap[b]? = some (.cells cs 25 (0, 0))
theorem NodeKeep.trans {a b c : World} (h : NodeKeep a b) (k : NodeKeep b c) : NodeKeep a c := fun i cs hi => k i cs (h i cs hi)
theorem NodeKeep.of_below {a b : World} (h : Below a.heap.size a b) : NodeKeep a b := fun i _ hi => (h.block i (Array.getElem?_eq_some_iff.1 hi).1).trans hi
structure Got (B : Nat) (W : World) (F : Nat → Prop) (D : List (Value × Nat)) : Prop where
  rows : ∀ p ∈ D, (∃ xs, W.ownsRow B 25 5 p.1 p.2 xs) ∧ p.2 ≤ 20000 ∧ ∀ g, p.1.ownBlock = some g → F g
  apart : D.Pairwise (fun p q => ∀ g, p.1.ownBlock = some g → q.1.ownBlock ≠ some g)
theorem owns_node {w w' : World} {B n : Nat} {v : Value} {xs : List Value} (h : w.ownsRow B 25 5 v n xs) (hk : NodeKeep w w') : w'.ownsRow B 25 5 v n xs :=
  owns_keep h fun g hg => by
    obtain ⟨cs, hc⟩ := owns_type h hg
    rw [hc]; exact hk g cs hc
theorem Got.keep {B : Nat} {w w' : World} {F : Nat → Prop} {D : List (Value × Nat)} (h : Got B w F D) (hk : NodeKeep w w') : Got B w' F D :=
  ⟨fun p hp => ⟨(h.rows p hp).1.imp fun _ hx => owns_node hx hk, (h.rows p hp).2⟩, h.apart⟩
theorem Got.sub {B : Nat} {w : World} {F G : Nat → Prop} {D : List (Value × Nat)} (h : Got B w F D) (hs : ∀ b, F b → G b) : Got B w G D :=
  ⟨fun p hp => ⟨(h.rows p hp).1, (h.rows p hp).2.1, fun g hg => hs g ((h.rows p hp).2.2 g hg)⟩, h.apart⟩
theorem Got.append {B : Nat} {w : World} {F G : Nat → Prop} {D E : List (Value × Nat)} (h : Got B w F D) (k : Got B w G E) (hd : ∀ b, F b → ¬ G b) : Got B w (fun b => F b ∨ G b) (D ++ E) := by
  refine ⟨fun p hp => ?_, List.pairwise_append.2 ⟨h.apart, k.apart, fun p hp q hq g hg hq' => hd g ((h.rows p hp).2.2 g hg) ((k.rows q hq).2.2 g hq')⟩⟩
  rcases List.mem_append.1 hp with hp | hp
  · exact ⟨(h.rows p hp).1, (h.rows p hp).2.1, fun g hg => Or.inl ((h.rows p hp).2.2 g hg)⟩
  · exact ⟨(k.rows p hp).1, (k.rows p hp).2.1, fun g hg => Or.inr ((k.rows p hp).2.2 g hg)⟩
theorem OwnAt.node {w w' : World} (hk : NodeKeep w w') : ∀ {d : Nat} {ks : List Tree} {sl : Value} {F : Nat → Prop}, OwnAt w d ks sl F → OwnAt w' d ks sl F := by
  have hn : ∀ {sl : Value} {F : Nat → Prop}, NilOr w sl F → NilOr w' sl F := by
    rintro sl F (h | ⟨g, cap, cs, h1, h2, h3, h4, h5⟩)
    · exact Or.inl h
    · exact Or.inr ⟨g, cap, cs, h1, h2, h3, hk g cs h4, h5⟩
  intro d
  induction d with
  | zero => intro ks sl F h; exact ⟨h.1, hn h.2⟩
  | succ d ih =>
    rintro ks sl F (h | ⟨g, cap, cs, Fs, h0, h1, h2, h3, h4, h5, h6, h7, h8, h9⟩)
    · exact Or.inl ⟨h.1, hn h.2⟩
    · refine Or.inr ⟨g, cap, cs, Fs, h0, h1, h2, h3, h4, hk g cs h5, h6, fun i T hT => ?_, h8, h9⟩
      obtain ⟨hf, s, hc, ho⟩ := h7 i T hT
      exact ⟨hf, s, hc, ih ho⟩
theorem nil_owns {w : World} {B : Nat} {sl : Value} {F : Nat → Prop} (h : NilOr w sl F) (hB : ∀ b, F b → B ≤ b) : (∃ p c, sl = .slice p 0 c) ∧ (∃ xs, w.ownsRow B 25 5 sl 0 xs) ∧ ∀ g, sl.ownBlock = some g → F g := by
  rcases h with rfl | ⟨g, cap, cs, h1, h2, rfl, h4, h5⟩
  · exact ⟨⟨_, _, rfl⟩, ⟨[], World.ownsRow_nil _ _ _ _⟩, fun g hg => by cases hg⟩
  · refine ⟨⟨_, _, rfl⟩, ⟨[], by simp, Or.inr ⟨g, cap, cs, rfl, hB g h1, h4, Nat.zero_le _, h2, h5, by simp⟩⟩, fun g' hg => ?_⟩
    injection hg with hg
    exact hg ▸ h1
/-- a slice with all that hangs on it, taken apart -/
def Split (w : World) (B d : Nat) (ks : List Tree) (sl : Value) (F : Nat → Prop) : Prop :=
    ∃ (p : Option Addr) (c : Nat) (Fs : Nat → Nat → Prop), sl = .slice p ks.length c ∧ (∃ xs, w.ownsRow B 25 5 sl ks.length xs) ∧ (∀ g, sl.ownBlock = some g → F g) ∧
      (∀ (i : Nat) (t : Tree), ks[i]? = some t → d = d - 1 + 1 ∧ ∃ (g : Nat) (s : Value) (cs : Array Value), p = some ⟨g, 0, none⟩ ∧ w.heap[g]? = some (.cells cs 25 (0, 0)) ∧ (∀ m u, (nodeCells t s)[m]? = some u → cs[i * 5 + m]? = some u) ∧ OwnAt w (d - 1) t.kids s (Fs i)) ∧
      (∀ i b, Fs i b → F b ∧ sl.ownBlock ≠ some b) ∧ ∀ i j b, i ≠ j → Fs i b → ¬ Fs j b
theorem OwnAt.split {w : World} {B d : Nat} {ks : List Tree} {sl : Value} {F : Nat → Prop} (h : OwnAt w d ks sl F) (hB : ∀ b, F b → B ≤ b) : Split w B d ks sl F := by
  have hnil : ks = [] → NilOr w sl F → Split w B d ks sl F := by
    rintro rfl hn
    obtain ⟨⟨p, c, hsl⟩, ho, hF⟩ := nil_owns hn hB
    exact ⟨p, c, fun _ _ => False, hsl, ho, hF, fun i t hi => (by cases hi), fun _ _ h => h.elim, fun _ _ _ _ h => h.elim⟩
  cases d with
  | zero => exact hnil h.1 h.2
  | succ d =>
    rcases h with h | ⟨g, cap, cs, Fs, h0, h1, h2, h3, rfl, h5, h6, h7, h8, h9⟩
    · exact hnil h.1 h.2
    · refine ⟨_, cap, Fs, rfl, ⟨cs.toList.take (ks.length * 5), ?_, Or.inr ⟨g, cap, cs, rfl, hB g h1, h5, h2, h3, h6, rfl⟩⟩, fun g' hg => ?_, fun i t hi => ?_, fun i b hb => ⟨(h8 i b hb).1, fun e => ?_⟩, h9⟩
      · have hl : cs.toList.length = cap * 5 := by rw [Array.length_toList, h6]
        rw [List.length_take, hl]
        exact Nat.min_eq_left (Nat.mul_le_mul_right 5 h2)
      · injection hg with hg
        exact hg ▸ h1
      · obtain ⟨_, s, hc, ho⟩ := h7 i t hi
        exact ⟨rfl, g, s, cs, rfl, h5, hc, ho⟩
      · injection e with e
        exact (h8 i b hb).2 e.symm
end Go.Proofs.YtfpohaipmnjflaaGreatDoor
