/- Several texts joined, each with its own sentence and conditions ahead of it: FlatE, FlatF. -/
import Derived.Test.YtoekldhdojpceaaGreatDoorMFB
/- All lists of a tree, one behind the other, in the bag. Condition: at most 60000 lists. -/
namespace Go.Proofs.YtoekldhdojpceaaGreatDoor
open Go.RowKit

theorem foldl_sum (l : List Nat) : ∀ a, l.foldl (· + ·) a = a + l.sum := by
  induction l with
  | nil => intro a; simp
  | cons x l ih => intro a; rw [List.foldl_cons, ih, List.sum_cons]; omega
theorem manyF_sum (d : Nat) (T : Tree) : manyF (d + 1) T = 1 + (T.kids.map (manyF d)).sum := foldl_sum _ 1
theorem manyF_pos1 (d : Nat) (T : Tree) : 1 ≤ manyF d T := by
  cases d with
  | zero => exact Nat.le_refl _
  | succ d => rw [manyF_sum]; omega
theorem sum_take (f : Tree → Nat) (ks : List Tree) (k : Nat) (t : Tree) (h : ks[k]? = some t) : ((ks.take (k + 1)).map f).sum = ((ks.take k).map f).sum + f t := by
  rw [List.take_add_one, h]
  simp [List.sum_append]
theorem sum_take_le (f : Tree → Nat) (ks : List Tree) (k : Nat) : ((ks.take k).map f).sum ≤ (ks.map f).sum := by
  have h : ((ks.take k ++ ks.drop k).map f).sum = (ks.map f).sum := by rw [List.take_append_drop]
  rw [List.map_append, List.sum_append] at h
  omega
theorem len_sum (f : Tree → Nat) (hf : ∀ t, 1 ≤ f t) (ks : List Tree) : ks.length ≤ (ks.map f).sum := by
  induction ks with
  | nil => simp
  | cons x l ih => have := hf x; rw [List.map_cons, List.sum_cons, List.length_cons]; omega
def bagC (v : Value) : Array Value := #[.slice none 0 0, .slice none 0 0, .slice none 0 0, .slice none 0 0, .slice none 0 0, .slice none 0 0, .slice none 0 0, .slice none 0 0, .slice none 0 0, v, .slice none 0 0, .slice none 0 0, .slice none 0 0, .slice none 0 0, .slice none 0 0, .slice none 0 0, .slice none 0 0, .slice none 0 0, .slice none 0 0, .slice none 0 0, .slice none 0 0, .slice none 0 0, .slice none 0 0, .slice none 0 0, .slice none 0 0, .slice none 0 0, .slice none 0 0, .slice none 0 0, .slice none 0 0]
/-- the bag: so many lists of nodes, and none else -/
def BagAt (W : World) (Bg B : Nat) (D : List (Value × Nat)) : Prop :=
  ∃ v, W.heap[Bg]? = some (.cells (bagC v) 106 (0, 0)) ∧ W.ownsRow B 23 1 v D.length (D.map (·.1)) ∧ B ≤ Bg
def NodeKeep (w w' : World) : Prop := ∀ (b : Nat) (cs : Array Value), w.heap[b]? = some (.cells cs 25 (0, 0)) → w'.heap[b]? = some (.cells cs 25 (0, 0))
theorem NodeKeep.trans {a b c : World} (h : NodeKeep a b) (k : NodeKeep b c) : NodeKeep a c := fun i cs hi => k i cs (h i cs hi)
theorem NodeKeep.of_below {a b : World} (h : Below a.heap.size a b) : NodeKeep a b := fun i _ hi => (h.block i (Array.getElem?_eq_some_iff.1 hi).1).trans hi
structure Got (B : Nat) (W : World) (F : Nat → Prop) (D : List (Value × Nat)) : Prop where
  rows : ∀ p ∈ D, (∃ xs, W.ownsRow B 25 5 p.1 p.2 xs) ∧ p.2 ≤ 20000 ∧ ∀ g, p.1.ownBlock = some g → F g
  apart : D.Pairwise (fun p q => ∀ g, p.1.ownBlock = some g → q.1.ownBlock ≠ some g)
theorem owns_node {w w' : World} {B n : Nat} {v : Value} {xs : List Value} (h : w.ownsRow B 25 5 v n xs) (hk : NodeKeep w w') : w'.ownsRow B 25 5 v n xs :=
  owns_keep h fun g hg => by
    obtain ⟨cs, hc⟩ := owns_type h hg
    rw [hc]; exact hk g cs hc
theorem Got.keep {B : Nat} {w w' : World} {F : Nat → Prop} {D : List (Value × Nat)} (h : Got B w F D) (hk : NodeKeep w w') : Got B w' F D :=
  ⟨fun p hp => ⟨(h.rows p hp).1.imp fun _ hx => owns_node hx hk, (h.rows p hp).2⟩, h.apart⟩
theorem Got.sub {B : Nat} {w : World} {F G : Nat → Prop} {D : List (Value × Nat)} (h : Got B w F D) (hs : ∀ b, F b → G b) : Got B w G D :=
  ⟨fun p hp => ⟨(h.rows p hp).1, (h.rows p hp).2.1, fun g hg => hs g ((h.rows p hp).2.2 g hg)⟩, h.apart⟩
theorem Got.append {B : Nat} {w : World} {F G : Nat → Prop} {D E : List (Value × Nat)} (h : Got B w F D) (k : Got B w G E) (hd : ∀ b, F b → ¬ G b) : Got B w (fun b => F b ∨ G b) (D ++ E) := by
  refine ⟨fun p hp => ?_, List.pairwise_append.2 ⟨h.apart, k.apart, fun p hp q hq g hg hq' => hd g ((h.rows p hp).2.2 g hg) ((k.rows q hq).2.2 g hq')⟩⟩
  rcases List.mem_append.1 hp with hp | hp
  · exact ⟨(h.rows p hp).1, (h.rows p hp).2.1, fun g hg => Or.inl ((h.rows p hp).2.2 g hg)⟩
  · exact ⟨(k.rows p hp).1, (k.rows p hp).2.1, fun g hg => Or.inr ((k.rows p hp).2.2 g hg)⟩
theorem OwnAt.node {w w' : World} (hk : NodeKeep w w') : ∀ {d : Nat} {ks : List Tree} {sl : Value} {F : Nat → Prop}, OwnAt w d ks sl F → OwnAt w' d ks sl F := by
  have hn : ∀ {sl : Value} {F : Nat → Prop}, NilOr w sl F → NilOr w' sl F := by
    rintro sl F (h | ⟨g, cap, cs, h1, h2, h3, h4, h5⟩)
    · exact Or.inl h
    · exact Or.inr ⟨g, cap, cs, h1, h2, h3, hk g cs h4, h5⟩
  intro d
  induction d with
  | zero => intro ks sl F h; exact ⟨h.1, hn h.2⟩
  | succ d ih =>
    rintro ks sl F (h | ⟨g, cap, cs, Fs, h0, h1, h2, h3, h4, h5, h6, h7, h8, h9⟩)
    · exact Or.inl ⟨h.1, hn h.2⟩
    · refine Or.inr ⟨g, cap, cs, Fs, h0, h1, h2, h3, h4, hk g cs h5, h6, fun i T hT => ?_, h8, h9⟩
      obtain ⟨hf, s, hc, ho⟩ := h7 i T hT
      exact ⟨hf, s, hc, ih ho⟩
theorem nil_owns {w : World} {B : Nat} {sl : Value} {F : Nat → Prop} (h : NilOr w sl F) (hB : ∀ b, F b → B ≤ b) : (∃ p c, sl = .slice p 0 c) ∧ (∃ xs, w.ownsRow B 25 5 sl 0 xs) ∧ ∀ g, sl.ownBlock = some g → F g := by
  rcases h with rfl | ⟨g, cap, cs, h1, h2, rfl, h4, h5⟩
  · exact ⟨⟨_, _, rfl⟩, ⟨[], World.ownsRow_nil _ _ _ _⟩, fun g hg => by cases hg⟩
  · refine ⟨⟨_, _, rfl⟩, ⟨[], by simp, Or.inr ⟨g, cap, cs, rfl, hB g h1, h4, Nat.zero_le _, h2, h5, by simp⟩⟩, fun g' hg => ?_⟩
    injection hg with hg
    exact hg ▸ h1
/-- a slice with all that hangs on it, taken apart -/
def Split (w : World) (B d : Nat) (ks : List Tree) (sl : Value) (F : Nat → Prop) : Prop :=
    ∃ (p : Option Addr) (c : Nat) (Fs : Nat → Nat → Prop), sl = .slice p ks.length c ∧ (∃ xs, w.ownsRow B 25 5 sl ks.length xs) ∧ (∀ g, sl.ownBlock = some g → F g) ∧
      (∀ (i : Nat) (t : Tree), ks[i]? = some t → d = d - 1 + 1 ∧ ∃ (g : Nat) (s : Value) (cs : Array Value), p = some ⟨g, 0, none⟩ ∧ w.heap[g]? = some (.cells cs 25 (0, 0)) ∧ (∀ m u, (nodeCells t s)[m]? = some u → cs[i * 5 + m]? = some u) ∧ OwnAt w (d - 1) t.kids s (Fs i)) ∧
      (∀ i b, Fs i b → F b ∧ sl.ownBlock ≠ some b) ∧ ∀ i j b, i ≠ j → Fs i b → ¬ Fs j b
theorem OwnAt.split {w : World} {B d : Nat} {ks : List Tree} {sl : Value} {F : Nat → Prop} (h : OwnAt w d ks sl F) (hB : ∀ b, F b → B ≤ b) : Split w B d ks sl F := by
  have hnil : ks = [] → NilOr w sl F → Split w B d ks sl F := by
    rintro rfl hn
    obtain ⟨⟨p, c, hsl⟩, ho, hF⟩ := nil_owns hn hB
    exact ⟨p, c, fun _ _ => False, hsl, ho, hF, fun i t hi => (by cases hi), fun _ _ h => h.elim, fun _ _ _ _ h => h.elim⟩
  cases d with
  | zero => exact hnil h.1 h.2
  | succ d =>
    rcases h with h | ⟨g, cap, cs, Fs, h0, h1, h2, h3, rfl, h5, h6, h7, h8, h9⟩
    · exact hnil h.1 h.2
    · refine ⟨_, cap, Fs, rfl, ⟨cs.toList.take (ks.length * 5), ?_, Or.inr ⟨g, cap, cs, rfl, hB g h1, h5, h2, h3, h6, rfl⟩⟩, fun g' hg => ?_, fun i t hi => ?_, fun i b hb => ⟨(h8 i b hb).1, fun e => ?_⟩, h9⟩
      · have hl : cs.toList.length = cap * 5 := by rw [Array.length_toList, h6]
        rw [List.length_take, hl]
        exact Nat.min_eq_left (Nat.mul_le_mul_right 5 h2)
      · injection hg with hg
        exact hg ▸ h1
      · obtain ⟨_, s, hc, ho⟩ := h7 i t hi
        exact ⟨rfl, g, s, cs, rfl, h5, hc, ho⟩
      · injection e with e
        exact (h8 i b hb).2 e.symm
theorem BagAt.below {w w' : World} {Bg B : Nat} {D : List (Value × Nat)} (h : BagAt w Bg B D) (hb : Below w.heap.size w w') : BagAt w' Bg B D := by
  obtain ⟨v, h1, h2, h3⟩ := h
  exact ⟨v, (hb.block Bg (Array.getElem?_eq_some_iff.1 h1).1).trans h1, owns_below h2 hb, h3⟩
def PutPost (w : World) (Bg B Bt : Nat) (D : List (Value × Nat)) (F : Nat → Prop) (d : Nat) (T : Tree) (e : Ending) (w' : World) : Prop :=
  e = .returned (.tuple #[]) ∧ Below B w w' ∧ NodeKeep w w' ∧ w.heap.size ≤ w'.heap.size ∧ ∃ D', D'.length = manyF d T ∧ BagAt w' Bg B (D ++ D') ∧ Got Bt w' F D'
def PutK (d : Nat) : Prop := ∀ (T : Tree) (sl : Value) (F : Nat → Prop) (Bg B Bt : Nat) (D : List (Value × Nat)) (w : World), OwnAt w d T.kids sl F → (∀ b, F b → Bt ≤ b) → BagAt w Bg B D → D.length + manyF d T ≤ 60000 → manyF d T ≤ 20000 → B ≤ w.heap.size →
  Calls Tryz.prog 49 #[.pointer (some ⟨Bg, 0, none⟩), sl] w (PutPost w Bg B Bt D F d T)
/-- what the append and the store have done -/
theorem put_step {w W2 : World} {Bg B n : Nat} {D : List (Value × Nat)} {v v' sl : Value} (h1 : w.heap[Bg]? = some (.cells (bagC v) 106 (0, 0))) (h2 : w.ownsRow B 23 1 v D.length (D.map (·.1))) (h3 : B ≤ Bg) (hB : B ≤ w.heap.size)
    (ho : W2.ownsRow B 23 1 v' (D.length + 1) (D.map (·.1) ++ [sl])) (hg : Gone (w.alloc (.cells #[sl] 23)) W2 v v' D.length 1) :
    ∃ q cq, v' = .slice q (D.length + 1) cq ∧ W2.frozen? ⟨Bg, 9, none⟩ = false ∧ W2.cell? ⟨Bg, 9, none⟩ = some v ∧
      Hid (BagAt (W2.setCell ⟨Bg, 9, none⟩ v') Bg B (D ++ [(sl, n)]) ∧ Below B w (W2.setCell ⟨Bg, 9, none⟩ v') ∧ NodeKeep w (W2.setCell ⟨Bg, 9, none⟩ v') ∧ w.heap.size ≤ (W2.setCell ⟨Bg, 9, none⟩ v').heap.size) := by
  have ha : Below w.heap.size w (w.alloc (.cells #[sl] 23)) := (Below.refl _ w).alloc (Nat.le_refl _) _
  have h1a : (w.alloc (.cells #[sl] 23)).heap[Bg]? = some (.cells (bagC v) 106 (0, 0)) := (ha.block Bg (Array.getElem?_eq_some_iff.1 h1).1).trans h1
  have h2a := owns_below h2 ha
  have hsh : ∃ q cq, v' = .slice q (D.length + 1) cq := by
    rcases hg with ⟨g, cap, _, h, _⟩ | ⟨cap, h, _⟩
    · exact ⟨_, _, h⟩
    · exact ⟨_, _, h⟩
  obtain ⟨q, cq, rfl⟩ := hsh
  have hkeep : ∀ (b : Nat) (cs : Array Value) (t : TypeId), t ≠ 23 → w.heap[b]? = some (.cells cs t (0, 0)) → W2.heap[b]? = some (.cells cs t (0, 0)) := by
    intro b cs t ht hb
    have hba : (w.alloc (.cells #[sl] 23)).heap[b]? = some (.cells cs t (0, 0)) := (ha.block b (Array.getElem?_eq_some_iff.1 hb).1).trans hb
    rcases hg with ⟨g, cap, hv, _, hg⟩ | ⟨cap, _, hg⟩
    · refine heap_grown hg hba ?_
      intro e
      injection e with e
      subst e
      rcases h2a.2 with ⟨h0, _⟩ | ⟨g', _, cur, h0, _, hgg, _⟩
      · rw [hv] at h0; cases h0
      · rw [hv] at h0
        simp only [Value.slice.injEq, Option.some.injEq, Addr.mk.injEq, and_true, true_and] at h0
        rw [h0.1, hgg] at hba
        simp only [Option.some.injEq, Obj.cells.injEq, and_true] at hba
        exact ht hba.2.symm
    · exact (hg.block b (Array.getElem?_eq_some_iff.1 hba).1).trans hba
  have hbg := hkeep Bg _ _ (by decide) h1
  have hb2 : Below B w W2 := by
    have hBa : B ≤ (w.alloc (.cells #[sl] 23)).heap.size := Nat.le_trans hB ha.size
    rcases hg with ⟨g, cap, hv, _, hg⟩ | ⟨cap, _, hg⟩
    · have hgB := (h2a.lt g (by rw [hv]; rfl)).1
      refine Chg.below (F := fun b => b = g) (ha.mono hB) ⟨hg.os, hg.tape, hg.output, hg.size, fun b hb hne => hg.block b hb (fun e => hne (by injection e))⟩ (fun i hi => by rw [hi]; exact hgB) hBa
    · exact (ha.mono hB).trans (hg.mono hBa)
  have hsz : w.heap.size ≤ W2.heap.size := by
    have := ha.size
    rcases hg with ⟨g, cap, _, _, hg⟩ | ⟨cap, _, hg⟩
    · exact Nat.le_trans this hg.size
    · exact Nat.le_trans this hg.size
  refine ⟨q, cq, rfl, frozen5 hbg 9, by rw [cell_of_row _ _ _ _ _ _ hbg]; rfl, ⟨_, heap_set hbg 9 _, ?_, h3⟩, hb2.setCell (p := ⟨Bg, 9, none⟩) h3 _, fun b cs hb => ?_, by simpa [World.setCell] using hsz⟩
  · have hl : (D ++ [(sl, n)]).length = D.length + 1 := by simp
    rw [hl, List.map_append]
    refine owns_keep ho fun g hgo => heap_setCell_other _ _ _ _ ?_
    intro e
    have hgg := hbg
    rw [← (show g = Bg from e)] at hgg
    rcases ho.2 with ⟨h0, _⟩ | ⟨g', _, cur, h0, _, hg2, _⟩
    · cases h0
    · rw [h0] at hgo
      injection hgo with hgo
      rw [show g' = g from hgo, hgg] at hg2
      simp only [Option.some.injEq, Obj.cells.injEq, and_true] at hg2
      exact absurd hg2.2 (by decide)
  · refine (heap_setCell_other _ _ _ _ ?_).trans (hkeep b cs _ (by decide) hb)
    rintro rfl
    rw [h1] at hb
    simp only [Option.some.injEq, Obj.cells.injEq, and_true] at hb
    exact absurd hb.2 (by decide)
end Go.Proofs.YtoekldhdojpceaaGreatDoor
/- All lists of a tree are put into the bag; by contract. Condition: at most 60000 lists. -/
namespace Go.Proofs.YtoekldhdojpceaaGreatDoor
open Go.RowKit

theorem infoRowsF : (Tryz.prog.info? 23).map (fun i => (i.zero, i.size, i.bytes)) = some (some (.slice none 0 0), 1, 24) := by kernel_rfl
set_option maxHeartbeats 4000000 in
theorem one_of {d : Nat} (h : PutK d) (T : Tree) (s : Value) (F : Nat → Prop) (Bg B Bt : Nat) (D : List (Value × Nat)) (w : World) (ho : OwnAt w d T.kids s F) (hF : ∀ b, F b → Bt ≤ b) (hb : BagAt w Bg B D) (h6 : D.length + manyF d T ≤ 60000) (h2 : manyF d T ≤ 20000) (hB : B ≤ w.heap.size) :
    Calls Tryz.prog 80 #[.pointer (some ⟨Bg, 0, none⟩), .agg #[.int .u8 T.kind, .string T.text, .int .i64 T.num, .int .i64 T.place, s]] w (PutPost w Bg B Bt D F d T) := by
  obtain ⟨p, c, rfl⟩ := ho.shape
  obtain ⟨W1, hW1⟩ : ∃ W1, W1 = w.alloc (.cells #[.int .u8 T.kind, .string T.text, .int .i64 T.num, .int .i64 T.place, .slice p T.kids.length c] 25) := ⟨_, rfl⟩
  have ha : Below w.heap.size w W1 := by rw [hW1]; exact (Below.refl _ w).alloc (Nat.le_refl _) _
  have hx : W1.heap[w.heap.size]? = some (.cells #[.int .u8 T.kind, .string T.text, .int .i64 T.num, .int .i64 T.place, .slice p T.kids.length c] 25 (0, 0)) := by rw [hW1]; exact heap_alloc_new w _
  obtain ⟨a0, a1, a2, a3, a4⟩ := cells5 hx
  have HC := Lib.hid (h T (.slice p T.kids.length c) F Bg B Bt D W1 (ho.node (NodeKeep.of_below ha)) hF (hb.below ha) h6 h2 (Nat.le_trans hB ha.size))
  have HA := Lib.hid ha
  clear ho hF hb h ha hx
  go_enter Tryz.func80, Tryz.ntmps80
  go_wp2_with fail
  rw [← hW1]
  clear hW1
  refine HC.out.mono ?_
  rintro e W2 ⟨rfl, hb2, hk2, hs2, D', h1, h2, h3⟩
  have hpost : PutPost w Bg B Bt D F d T (.returned (.tuple #[])) W2 := ⟨rfl, (HA.out.mono hB).trans hb2, (NodeKeep.of_below HA.out).trans hk2, Nat.le_trans HA.out.size hs2, D', h1, h2, h3⟩
  have HP := Lib.hid hpost
  clear hb2 hk2 hs2 h1 h2 h3 hpost
  go_wp2_with fail
  go_returns
  exact HP.out
def BagRel (w : World) (Bg B Bt : Nat) (D : List (Value × Nat)) (d : Nat) (ks : List Tree) (sl : Value) (Fs : Nat → Nat → Prop) (i : Value) (W : World) : Prop :=
  ∃ (W1 : World) (k : Nat) (E : List (Value × Nat)), W1 = W ∧ k ≤ ks.length ∧ i = .int .i64 k ∧ Below B w W1 ∧ B ≤ W1.heap.size ∧ w.heap.size ≤ W1.heap.size ∧ NodeKeep w W1 ∧ BagAt W1 Bg B (D ++ E) ∧ E.length = 1 + ((ks.take k).map (manyF (d - 1))).sum ∧
    Got Bt W1 (fun b => sl.ownBlock = some b ∨ ∃ j, j < k ∧ Fs j b) E
set_option maxRecDepth 100000 in
set_option maxHeartbeats 4000000 in
theorem put_of (d : Nat) (ih : d ≠ 0 → PutK (d - 1)) : PutK d := by
  intro T sl F Bg B Bt D w ho hF hb h6 h2 hB
  obtain ⟨p, c, Fs, rfl, ⟨xs, hown⟩, hsF, hrow, hFs, hdis⟩ := ho.split hF
  obtain ⟨v, hb1, hb2, hb3⟩ := id hb
  obtain ⟨ti, ti0, ti1, ti2, ti3⟩ := info_parts infoRowsF
  have hshv : ∃ q c, v = .slice q D.length c := by
    rcases hb2.2 with ⟨rfl, h⟩ | ⟨g, cap, cur, rfl, _⟩
    · exact ⟨none, 0, by rw [h]⟩
    · exact ⟨_, cap, rfl⟩
  obtain ⟨qv, cv, rfl⟩ := hshv
  have y9 : w.cell? ⟨Bg, 9, none⟩ = some (.slice qv D.length cv) := by rw [cell_of_row _ _ _ _ _ _ hb1]; rfl
  have hnews : ∀ j u, [Value.slice p T.kids.length c][j]? = some u → (w.alloc (.cells #[.slice p T.kids.length c] 23)).cell? ((⟨w.heap.size, 0, none⟩ : Addr).add j) = some u := news_new w _ _
  have HH1 := Lib.hid hb1
  have HH2 := Lib.hid hb2
  have HNw := Lib.hid hnews
  have HRow := Lib.hid hrow
  have HOwn := Lib.hid hown
  have HsF := Lib.hid hsF
  have HFs := Lib.hid hFs
  have HDis := Lib.hid hdis
  have HF := Lib.hid hF
  have HIh := Lib.hid ih
  have hD : D.length ≤ 60000 := by omega
  obtain ⟨n, hn⟩ : ∃ n, T.kids.length = n := ⟨_, rfl⟩
  have hn2 : n ≤ 20000 := by
    cases d with
    | zero => rw [← hn, ho.1]; exact Nat.zero_le _
    | succ d => rw [manyF_sum] at h2; have := len_sum (manyF d) (manyF_pos1 d) T.kids; omega
  clear hrow hown hsF hFs hdis hb1 hb2 hnews hF ih ho hb
  rw [hn] at HNw ⊢
  have HN := Lib.hid hn
  clear hn
  go_enter Tryz.func49, Tryz.ntmps49
  go_wp2_with (at_builtin; go_must (refine wpList_append_both _ rfl (.tmp 9) (.tmp 11) 45 rfl B 23 ti _ 1 24 Tryz.underlying45 ti0 ti1 ti2 ti3 rfl (by decide) (.slice qv D.length cv) D.length (D.map (·.1)) rfl (HH2.out.alloc _) ⟨w.heap.size, 0, none⟩ 1 1 [.slice p n c] rfl rfl HNw.out (by simp [Value.oneCell']) (by unfold maxLen; omega) (by omega) (by simp; omega) (by decide) ?_); intro v9 W2 hown2 hgone2; obtain ⟨q9, cq9, rfl, z9, y9', HNx⟩ := put_step (n := n) HH1.out HH2.out hb3 hB hown2 hgone2; clear hown2 hgone2)
  go_loopw [4] (BagRel w Bg B Bt D d T.kids (.slice p n c) Fs) (fun i _ => n - (intOf i).toNat)
  case atStart =>
    refine ⟨_, 0, [(.slice p n c, n)], rfl, Nat.zero_le _, rfl, HNx.out.2.1, Nat.le_trans hB HNx.out.2.2.2, HNx.out.2.2.2, HNx.out.2.2.1, HNx.out.1, by simp, fun q hq => ?_, List.pairwise_singleton _ _⟩
    obtain rfl : q = (.slice p n c, n) := by simpa using hq
    refine ⟨⟨xs, owns_node (by have := HOwn.out; rw [HN.out] at this; exact this) HNx.out.2.2.1⟩, hn2, fun g hg => Or.inl hg⟩
  case round =>
    obtain ⟨W1, k, E, rfl, hk, rfl, hb1, hs1, hz1, hk1, hbag, hE, hgot⟩ := hrel
    rw [HN.out] at hk
    have hk0 : (0 : Int) ≤ k := by omega
    have hni : (n : Int) ≤ 20000 := by omega
    have HB1 := Lib.hid hb1
    have HK1 := Lib.hid hk1
    have HBag := Lib.hid hbag
    have HE := Lib.hid hE
    have HGot := Lib.hid hgot
    clear hb1 hk1 hbag hE hgot HNx
    by_cases hlt : k < n
    · obtain ⟨t, ht⟩ : ∃ t, T.kids[k]? = some t := ⟨_, List.getElem?_eq_getElem (by rw [HN.out]; exact hlt)⟩
      obtain ⟨hd, g, s, cs, rfl, hg, hcs, hos⟩ := HRow.out k t ht
      obtain ⟨p', c', rfl⟩ := hos.shape
      have hg1 := HK1.out g cs hg
      have e : ∀ m u, (nodeCells t (.slice p' t.kids.length c'))[m]? = some u → W1.cell? ⟨g, k * 5 + m, none⟩ = some u := fun m u hm => by
        rw [cell_of_row _ _ _ _ _ _ hg1]; exact hcs m u hm
      have m0 := e 0 _ rfl
      have m1 := e 1 _ rfl
      have m2 := e 2 _ rfl
      have m3 := e 3 _ rfl
      have m4 := e 4 _ rfl
      rw [Nat.add_zero] at m0
      have hkl : (k : Int) < n := by omega
      have hbound : manyF d T = 1 + (T.kids.map (manyF (d - 1))).sum := by rw [hd]; exact manyF_sum _ _
      have hst := sum_take (manyF (d - 1)) T.kids k t ht
      have hle := sum_take_le (manyF (d - 1)) T.kids (k + 1)
      have hEl := HE.out
      have HC := Lib.hid (one_of (HIh.out (by omega)) t (.slice p' t.kids.length c') (Fs k) Bg B Bt (D ++ E) W1 (hos.node HK1.out) (fun b hb => HF.out b (HFs.out k b hb).1) HBag.out (by rw [List.length_append]; omega) (by omega) hs1)
      have HSt : Hid (1 + ((T.kids.take (k + 1)).map (manyF (d - 1))).sum = E.length + manyF (d - 1) t) := by show _ = _; omega
      clear hg hcs hos hg1 e hst hle hEl hbound ht
      go_wp2_with fail
      refine HC.out.mono ?_
      rintro e W4 ⟨rfl, hb4, hk4, hz4, D', h1, h2, h3⟩
      have hgot4 : Got Bt W4 (fun b => (Value.slice (some ⟨g, 0, none⟩) n c).ownBlock = some b ∨ ∃ j, j < k + 1 ∧ Fs j b) (E ++ D') := by
        refine ((HGot.out.keep hk4).append h3 ?_).sub ?_
        · rintro b (hb | ⟨j, hj, hb⟩) hf
          · exact (HFs.out k b hf).2 (by rw [HN.out]; exact hb)
          · exact HDis.out j k b (by omega) hb hf
        · rintro b ((hb | ⟨j, hj, hb⟩) | hb)
          · exact Or.inl hb
          · exact Or.inr ⟨j, by omega, hb⟩
          · exact Or.inr ⟨k, by omega, hb⟩
      have hnext : BagRel w Bg B Bt D d T.kids (.slice (some ⟨g, 0, none⟩) n c) Fs (.int .i64 ((k + 1 : Nat) : Int)) W4 :=
        ⟨W4, k + 1, E ++ D', rfl, by rw [HN.out]; omega, rfl, HB1.out.trans hb4, Nat.le_trans hs1 hz4, Nat.le_trans hz1 hz4, HK1.out.trans hk4, by rw [← List.append_assoc]; exact h2, by rw [List.length_append, h1, HSt.out], hgot4⟩
      have HNext := Lib.hid hnext
      clear hb4 hk4 hz4 h1 h2 h3 hgot4 hnext m0 m1 m2 m3 m4
      go_wp2_with fail
      exact ⟨HNext.out, by simp [intOf]; omega⟩
    · obtain rfl : n = k := by omega
      clear hlt
      go_wp2_with fail
      go_returns
      refine ⟨rfl, HB1.out, HK1.out, hz1, E, ?_, HBag.out, HGot.out.sub ?_⟩
      · have hE := HE.out
        rw [List.take_of_length_le (by rw [HN.out]; exact Nat.le_refl _)] at hE
        rw [hE]
        cases hd : d with
        | zero =>
          have h0 : T.kids = [] := by
            cases hks : T.kids with
            | nil => rfl
            | cons x l => have := (HRow.out 0 x (by rw [hks]; rfl)).1; omega
          rw [h0]; rfl
        | succ d => exact (manyF_sum d T).symm
      · rintro b (hb | ⟨j, _, hb⟩)
        · exact HsF.out b (by rw [HN.out]; exact hb)
        · exact (HFs.out j b hb).1
theorem put_any : ∀ d, PutK d := by
  intro d
  induction d with
  | zero => exact put_of 0 (fun h => absurd rfl h)
  | succ d ih => exact put_of (d + 1) (fun _ => ih)
end Go.Proofs.YtoekldhdojpceaaGreatDoor
