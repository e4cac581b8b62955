/- Several texts joined, each with its own sentence and conditions ahead of it: TurnA, TurnB, TurnC. -/
import Derived.Test.YtfpohaipmnjflaaGreatDoorMFE
import Derived.Test.YtfpohaipmnjflaaGreatDoorMR
import Derived.Test.YtfpohaipmnjflaaGreatDoorMFB
import Derived.Test.YtfpohaipmnjflaaGreatDoorMF
import Derived.Test.YtfpohaipmnjflaaGreatDoorMG
/- A tree turned at one of its nodes: what memory holds of it. No condition. -/
namespace Go.Proofs.YtfpohaipmnjflaaGreatDoor
open Go.RowKit

theorem le_sumT (f : Tree → Nat) : ∀ (ks : List Tree) (t : Tree), t ∈ ks → f t ≤ (ks.map f).sum
  | [], _, h => by cases h
  | x :: l, t, h => by
    rw [List.map_cons, List.sum_cons]
    rcases List.mem_cons.1 h with rfl | h
    · omega
    · have := le_sumT f l t h; omega
theorem len_le_sumT (f : Tree → Nat) (h1 : ∀ t, 1 ≤ f t) : ∀ ks : List Tree, ks.length ≤ (ks.map f).sum
  | [] => by simp
  | x :: l => by
    have := len_le_sumT f h1 l
    have := h1 x
    rw [List.map_cons, List.sum_cons, List.length_cons]; omega
theorem sum_twice (f g : Tree → Nat) : ∀ (l k : List Tree), l.length = k.length → (∀ (i : Nat) (t u : Tree), l[i]? = some t → k[i]? = some u → f t ≤ 2 * g u) → (l.map f).sum ≤ 2 * (k.map g).sum
  | [], [], _, _ => by simp
  | [], y :: k, h, _ => by simp at h
  | x :: l, [], h, _ => by simp at h
  | x :: l, y :: k, h, hh => by
    have h0 := hh 0 x y rfl rfl
    have h1 := sum_twice f g l k (by simpa using h) (fun i t u ht hu => hh (i + 1) t u (by simpa using ht) (by simpa using hu))
    rw [List.map_cons, List.sum_cons, List.map_cons, List.sum_cons]
    omega
/-- the texts are small, so deep as one likes -/
def Txt : Nat → Tree → Prop
  | 0, T => T.text.size ≤ 1000
  | d + 1, T => T.text.size ≤ 1000 ∧ ∀ k ∈ T.kids, Txt d k
def TxtA (T : Tree) : Prop := ∀ d, Txt d T
theorem TxtA.mk {k : Nat} {t : ByteArray} {a b : Int} {ks : List Tree} (h : t.size ≤ 1000) (hk : ∀ T ∈ ks, TxtA T) : TxtA (.mk k t a b ks) := fun d => by
  cases d with
  | zero => exact h
  | succ d => exact ⟨h, fun T hT => hk T hT d⟩
theorem TxtA.text {T : Tree} (h : TxtA T) : T.text.size ≤ 1000 := h 0
theorem TxtA.kid {T : Tree} (h : TxtA T) : ∀ k ∈ T.kids, TxtA k := fun k hk d => (h (d + 1)).2 k hk
theorem Txt.slim : ∀ (d : Nat) (T : Tree), Txt d T → manyF d T ≤ 20000 → Slim d T
  | 0, T, h, _ => by
    have h : T.text.size ≤ 1000 := h
    show T.text.size ≤ 72007
    omega
  | d + 1, T, h, hm => by
    rw [manyF_sum] at hm
    have hl := len_le_sumT (manyF d) (manyF_pos1 d) T.kids
    refine ⟨by have := h.1; omega, by omega, fun k hk => Txt.slim d k (h.2 k hk) ?_⟩
    have := le_sumT (manyF d) T.kids k hk
    omega
theorem many_more {w : World} {B : Nat} : ∀ (d : Nat) (T : Tree) (s : Value), KidsAt w B d T.kids s → manyF (d + 1) T = manyF d T
  | 0, T, s, h => by rw [manyF_sum, h.1]; rfl
  | d + 1, T, s, h => by
    rw [manyF_sum, manyF_sum]
    congr 2
    refine List.map_congr_left fun t ht => ?_
    rcases h with ⟨h, _⟩ | ⟨b, off, cap, _, _, _, _, _, hr⟩
    · rw [h] at ht; cases ht
    · obtain ⟨i, hi⟩ := List.getElem?_of_mem ht
      obtain ⟨_, s', _, _, _, _, _, hk⟩ := hr i t hi
      exact many_more d t s' hk
/-- a node's cells, within a row -/
def NodeIn (cs : Array Value) (off : Nat) (T : Tree) (s : Value) : Prop := ∀ m u, (nodeCells T s)[m]? = some u → cs[off + m]? = some u
theorem NodeIn.keep {cs cs' : Array Value} {off : Nat} {T : Tree} {s : Value} (h : NodeIn cs off T s) (hk : ∀ m, m < 5 → cs'[off + m]? = cs[off + m]?) : NodeIn cs' off T s := fun m u hm => by
  have hl : m < 5 := (List.getElem?_eq_some_iff.1 hm).1
  rw [hk m hl]; exact h m u hm
theorem NodeIn.lt {cs : Array Value} {off : Nat} {T : Tree} {s : Value} (h : NodeIn cs off T s) : off + 4 < cs.size := (Array.getElem?_eq_some_iff.1 (h 4 s rfl)).1
/-- one of its five cells is stored -/
theorem NodeIn.set {cs : Array Value} {off i : Nat} {T T' : Tree} {s s' v : Value} (h : NodeIn cs off T s) (hn : nodeCells T' s' = (nodeCells T s).set i v) (hi : i < 5) : NodeIn (cs.setIfInBounds (off + i) v) off T' s' := fun m u hm => by
  rw [hn, List.getElem?_set] at hm
  have hl := h.lt
  by_cases him : i = m
  · subst him
    rw [if_pos rfl] at hm
    split at hm
    · injection hm with hm
      subst hm
      rw [Array.getElem?_setIfInBounds, if_pos rfl, if_pos (by omega)]
    · cases hm
  · rw [if_neg him] at hm
    rw [Array.getElem?_setIfInBounds, if_neg (by omega)]
    exact h m u hm
theorem set_far (cs : Array Value) (off i : Nat) (v : Value) (hi : i < 5) : ∀ m, m < off ∨ off + 5 ≤ m → (cs.setIfInBounds (off + i) v)[m]? = cs[m]? := fun m hm => by
  rw [Array.getElem?_setIfInBounds, if_neg (by omega)]
/-- some tree stands where one stood, in memory of its own, all else but the place's block, the counter's and the tree's own as it was -/
def TurnedTo (d b off q : Nat) (cs : Array Value) (F : Nat → Prop) (w : World) (N : Nat) (a : Int) (w' : World) : Prop :=
  ∃ T' s' cs' F', Chg (fun x => F x ∨ x = b ∨ x = q) w w' ∧ w'.heap[b]? = some (.cells cs' 25 (0, 0)) ∧ cs'.size = cs.size ∧ NodeIn cs' off T' s' ∧ (∀ m, m < off ∨ off + 5 ≤ m → cs'[m]? = cs[m]?) ∧ Fits T' ∧
    OwnAt w' d T'.kids s' F' ∧ (∀ x, F' x → (F x ∨ w.heap.size ≤ x) ∧ x < w'.heap.size) ∧ w'.heap[q]? = some (.cells #[.int .i64 a] 3 (0, 0)) ∧ TxtA T' ∧ manyF d T' ≤ N
def TurnPost (d b off q : Nat) (cs : Array Value) (F : Nat → Prop) (w : World) (N : Nat) (a : Int) (e : Ending) (w' : World) : Prop :=
  e = .returned (.tuple #[]) ∧ ∃ a', -1 ≤ a' ∧ a' < a ∧ TurnedTo d b off q cs F w N a' w'
def TurnK (d : Nat) : Prop := ∀ (T : Tree) (s : Value) (b off q : Nat) (cs : Array Value) (F : Nat → Prop) (a : Int) (how : Nat) (w : World),
  w.heap[b]? = some (.cells cs 25 (0, 0)) → NodeIn cs off T s → Fits T → OwnAt w d T.kids s F → (∀ x, F x → x < w.heap.size ∧ x ≠ b ∧ x ≠ q) → w.heap[q]? = some (.cells #[.int .i64 a] 3 (0, 0)) → q ≠ b → 0 ≤ a → a ≤ 100 → how < 84 → TxtA T → manyF d T ≤ 10000 →
  Calls Tryz.prog 7 #[.pointer (some ⟨b, off, none⟩), .pointer (some ⟨q, 0, none⟩), .int .i64 how] w (TurnPost (d + 1) b off q cs F w (2 * manyF d T) a)
theorem nil_row {w : World} {s : Value} {F : Nat → Prop} (h : NilOr w s F) : w.ownsRow 0 25 5 s 0 [] ∧ ∀ g, s.ownBlock = some g → F g := by
  rcases h with rfl | ⟨g, cap, cur, h1, h2, rfl, h4, h5⟩
  · exact ⟨World.ownsRow_nil _ _ _ _, fun g hg => by cases hg⟩
  · refine ⟨⟨rfl, Or.inr ⟨g, cap, cur, rfl, Nat.zero_le _, h4, Nat.zero_le _, h2, h5, by simp⟩⟩, fun g' hg => ?_⟩
    injection hg with hg
    subst hg; exact h1
/-- the row of a list of one's own -/
theorem OwnAt.row {w : World} {d : Nat} {ks : List Tree} {s : Value} {F : Nat → Prop} (h : OwnAt w d ks s F) :
    ∃ xs : List Value, w.ownsRow 0 25 5 s ks.length xs ∧ (∀ g, s.ownBlock = some g → F g) ∧ ∃ Fs : Nat → Nat → Prop, (∀ i T, ks[i]? = some T → Fits T ∧ ∃ v, (∀ m u, (nodeCells T v)[m]? = some u → xs[i * 5 + m]? = some u) ∧ ∃ d', d = d' + 1 ∧ OwnAt w d' T.kids v (Fs i)) ∧
      (∀ i b, Fs i b → F b ∧ s.ownBlock ≠ some b) ∧ ∀ i j b, i ≠ j → Fs i b → ¬ Fs j b := by
  cases d with
  | zero =>
    obtain ⟨rfl, hn⟩ := h
    obtain ⟨h1, h2⟩ := nil_row hn
    exact ⟨[], h1, h2, fun _ _ => False, fun i T hT => by simp at hT, fun i b hb => hb.elim, fun i j b _ hb => hb.elim⟩
  | succ d =>
    rcases h with ⟨rfl, hn⟩ | ⟨g, cap, cur, Fs, h0, h1, h2, h3, rfl, h5, h6, h7, h8, h9⟩
    · obtain ⟨h1, h2⟩ := nil_row hn
      exact ⟨[], h1, h2, fun _ _ => False, fun i T hT => by simp at hT, fun i b hb => hb.elim, fun i j b _ hb => hb.elim⟩
    · refine ⟨cur.toList.take (ks.length * 5), ⟨?_, Or.inr ⟨g, cap, cur, rfl, Nat.zero_le _, h5, h2, h3, h6, rfl⟩⟩, fun g' hg => ?_, Fs, fun i T hT => ?_, fun i b hb => ⟨(h8 i b hb).1, fun e => ?_⟩, h9⟩
      · have e1 : cur.toList.length = cap * 5 := (Array.length_toList (xs := cur)).trans h6
        have := Nat.mul_le_mul_right 5 h2
        rw [List.length_take, e1]
        omega
      · injection hg with hg
        subst hg; exact h1
      · obtain ⟨hf, v, hv, ho⟩ := h7 i T hT
        refine ⟨hf, v, fun m u hm => ?_, d, rfl, ho⟩
        have hi := (List.getElem?_eq_some_iff.1 hT).1
        have hm5 : m < 5 := (List.getElem?_eq_some_iff.1 hm).1
        rw [List.getElem?_take, if_pos (by omega)]
        have := hv m u hm
        simpa using this
      · injection e with e
        exact (h8 i b hb).2 e.symm
/-- and back -/
theorem own_of_row {w : World} {d : Nat} {ks : List Tree} {s : Value} {F : Nat → Prop} {xs : List Value} {Fs : Nat → Nat → Prop} (hown : w.ownsRow 0 25 5 s ks.length xs) (hF : ∀ g, s.ownBlock = some g → F g)
    (hk : ∀ i T, ks[i]? = some T → Fits T ∧ ∃ v, (∀ m u, (nodeCells T v)[m]? = some u → xs[i * 5 + m]? = some u) ∧ OwnAt w d T.kids v (Fs i)) (hFs : ∀ i b, i < ks.length → Fs i b → F b ∧ s.ownBlock ≠ some b) (hdis : ∀ i j b, i < ks.length → j < ks.length → i ≠ j → Fs i b → ¬ Fs j b) : OwnAt w (d + 1) ks s F := by
  rcases hown with ⟨hl, ⟨rfl, h0⟩ | ⟨g, cap, cur, rfl, _, hg, h2, h3, h6, ht⟩⟩
  · exact Or.inl ⟨List.eq_nil_of_length_eq_zero h0, Or.inl rfl⟩
  · by_cases hks : ks = []
    · subst hks
      exact Or.inl ⟨rfl, Or.inr ⟨g, cap, cur, hF g rfl, h3, rfl, hg, h6⟩⟩
    · refine Or.inr ⟨g, cap, cur, fun i b => i < ks.length ∧ Fs i b, hks, hF g rfl, h2, h3, rfl, hg, h6, fun i T hT => ?_, fun i b hb => ?_, fun i j b hij hb hb' => hdis i j b hb.1 hb'.1 hij hb.2 hb'.2⟩
      · obtain ⟨hf, v, hv, ho⟩ := hk i T hT
        have hi := (List.getElem?_eq_some_iff.1 hT).1
        refine ⟨hf, v, fun m u hm => ?_, ho.sub fun b hb => ⟨hi, hb⟩⟩
        have hx := hv m u hm
        rw [← ht, List.getElem?_take] at hx
        split at hx
        · simpa using hx
        · cases hx
      · obtain ⟨q1, q2⟩ := hFs i b hb.1 hb.2
        exact ⟨q1, fun e => q2 (by rw [e]; rfl)⟩
end Go.Proofs.YtfpohaipmnjflaaGreatDoor
/- turned, where the node is not the one yet (at above 0): by contract, given it for the kids. No condition. -/
namespace Go.Proofs.YtfpohaipmnjflaaGreatDoor
open Go.RowKit

/-- so many kids have been gone through -/
def TurnRel (d b q n : Nat) (T : Tree) (cs : Array Value) (sl : Value) (F : Nat → Prop) (a : Int) (w : World) (i : Value) (W : World) : Prop :=
  ∃ (k : Nat) (ks : List Tree) (xs : List Value) (Fs : Nat → Nat → Prop) (a' : Int), k ≤ n ∧ i = .int .i64 (k : Int) ∧ ks.length = n ∧ Chg (fun x => F x ∨ x = b ∨ x = q) w W ∧ W.heap[b]? = some (.cells cs 25 (0, 0)) ∧ W.heap[q]? = some (.cells #[.int .i64 a'] 3 (0, 0)) ∧ -1 ≤ a' ∧ a' < a ∧
    W.ownsRow 0 25 5 sl n xs ∧
    (∀ j t, ks[j]? = some t → Fits t ∧ TxtA t ∧ (∀ u, T.kids[j]? = some u → manyF d t ≤ 2 * manyF (d - 1) u) ∧ ∃ v, (∀ m u, (nodeCells t v)[m]? = some u → xs[j * 5 + m]? = some u) ∧ OwnAt W d t.kids v (Fs j) ∧ (k ≤ j → T.kids[j]? = some t ∧ ∃ d', d = d' + 1 ∧ OwnAt W d' t.kids v (Fs j))) ∧
    (∀ j x, j < n → Fs j x → (F x ∨ w.heap.size ≤ x) ∧ x < W.heap.size ∧ sl.ownBlock ≠ some x) ∧ (∀ j l x, j < n → l < n → j ≠ l → Fs j x → ¬ Fs l x)
/-- one kid more -/
theorem TurnRel.next {d b q n k g c : Nat} {T t : Tree} {cs cur : Array Value} {F : Nat → Prop} {a a2 : Int} {w W W' : World} {ks : List Tree} {xs : List Value} {Fs : Nat → Nat → Prop} (hk : k < n) (hl : ks.length = n)
    (hc : Chg (fun x => F x ∨ x = b ∨ x = q) w W) (hb : W.heap[b]? = some (.cells cs 25 (0, 0))) (hgF : F g) (hgb : g ≠ b) (hqb : q ≠ b) (hqw : q < w.heap.size) (hbw : b < w.heap.size) (hFq : ∀ x, F x → x < w.heap.size ∧ x ≠ b ∧ x ≠ q)
    (hcur : W.heap[g]? = some (.cells cur 25 (0, 0))) (hnc : n ≤ c) (hcm : c ≤ maxLen) (hcsz : cur.size = c * 5) (hxs : cur.toList.take (n * 5) = xs)
    (hrow : ∀ j t, ks[j]? = some t → Fits t ∧ TxtA t ∧ (∀ u, T.kids[j]? = some u → manyF d t ≤ 2 * manyF (d - 1) u) ∧ ∃ v, (∀ m u, (nodeCells t v)[m]? = some u → xs[j * 5 + m]? = some u) ∧ OwnAt W d t.kids v (Fs j) ∧ (k ≤ j → T.kids[j]? = some t ∧ ∃ d', d = d' + 1 ∧ OwnAt W d' t.kids v (Fs j)))
    (hFs : ∀ j x, j < n → Fs j x → (F x ∨ w.heap.size ≤ x) ∧ x < W.heap.size ∧ (Value.slice (some ⟨g, 0, none⟩) n c).ownBlock ≠ some x) (hdis : ∀ j l x, j < n → l < n → j ≠ l → Fs j x → ¬ Fs l x)
    (ht : T.kids[k]? = some t) (ha2 : -1 ≤ a2) (ha2' : a2 < a) (hto : TurnedTo d g (k * 5) q cur (Fs k) W (2 * manyF (d - 1) t) a2 W') :
    TurnRel d b q n T cs (.slice (some ⟨g, 0, none⟩) n c) F a w (.int .i64 ((k + 1 : Nat) : Int)) W' := by
  obtain ⟨T', s', cs', F', h1, h2, h3, h4, h5, h6, h7, h8, h9, h10, h11⟩ := hto
  have hgW : g < W.heap.size := (Array.getElem?_eq_some_iff.1 hcur).1
  have hkeep : ∀ x, x < W.heap.size → ¬ Fs k x → x ≠ g → x ≠ q → W'.heap[x]? = W.heap[x]? := fun x hx a b c => h1.block x hx (by rintro (h | h | h); exact a h; exact b h; exact c h)
  have hFsb : ∀ j x, j < n → Fs j x → x ≠ b ∧ x ≠ q ∧ x ≠ g := fun j x hj hx => by
    obtain ⟨p1, p2, p3⟩ := hFs j x hj hx
    refine ⟨?_, ?_, fun e => p3 (by rw [e]; rfl)⟩
    · rcases p1 with h | h
      · exact (hFq x h).2.1
      · omega
    · rcases p1 with h | h
      · exact (hFq x h).2.2
      · omega
  have hsz := h1.size
  have hnsz : n * 5 ≤ cs'.size := by rw [h3, hcsz]; exact Nat.mul_le_mul_right 5 hnc
  have hat : ∀ j m, j < n → m < 5 → j ≠ k → (cs'.toList.take (n * 5))[j * 5 + m]? = xs[j * 5 + m]? := fun j m hj hm hjk => by
    rw [← hxs, List.getElem?_take, List.getElem?_take, if_pos (by omega), if_pos (by omega)]
    have := h5 (j * 5 + m) (by omega)
    simpa using this
  refine ⟨k + 1, ks.set k T', cs'.toList.take (n * 5), fun j x => if j = k then F' x else Fs j x, a2, by omega, rfl, by simp [hl], ?_, ?_, h9, ha2, ha2', ?_, fun j t' ht' => ?_, fun j x hj hx => ?_, fun j l x hj hll hjl hx hx' => ?_⟩
  · refine ⟨h1.os.trans hc.os, h1.tape.trans hc.tape, h1.output.trans hc.output, Nat.le_trans hc.size hsz, fun x hx hn => ?_⟩
    have hx1 : ¬ F x := fun h => hn (Or.inl h)
    have hx2 : x ≠ b := fun h => hn (Or.inr (Or.inl h))
    have hx3 : x ≠ q := fun h => hn (Or.inr (Or.inr h))
    refine (hkeep x (Nat.lt_of_lt_of_le hx hc.size) (fun h => ?_) (fun e => hx1 (e ▸ hgF)) hx3).trans (hc.block x hx hn)
    rcases (hFs k x hk h).1 with h | h
    · exact hx1 h
    · omega
  · exact (hkeep b (Nat.lt_of_lt_of_le hbw hc.size) (fun h => (hFsb k b hk h).1 rfl) (fun e => hgb e.symm) (fun e => hqb e.symm)).trans hb
  · refine ⟨?_, Or.inr ⟨g, c, cs', rfl, Nat.zero_le _, h2, hnc, hcm, by rw [h3, hcsz], rfl⟩⟩
    have e1 : cs'.toList.length = cs'.size := Array.length_toList
    rw [List.length_take, e1]; omega
  · have hjn : j < n := by have := (List.getElem?_eq_some_iff.1 ht').1; simp [hl] at this; exact this
    by_cases hjk : j = k
    · subst hjk
      rw [List.getElem?_set_self (by omega)] at ht'
      injection ht' with ht'
      subst ht'
      refine ⟨h6, h10, fun u hu => ?_, s', fun m u hm => ?_, ?_, fun h => by omega⟩
      · rw [ht] at hu; injection hu with hu; subst hu; exact h11
      · have hm5 : m < 5 := (List.getElem?_eq_some_iff.1 hm).1
        rw [List.getElem?_take, if_pos (by omega)]
        have := h4 m u hm
        simpa using this
      · simp only [if_true]; exact h7
    · rw [List.getElem?_set_ne (fun e => hjk e.symm)] at ht'
      obtain ⟨r1, r2, r3, v, r4, r5, r6⟩ := hrow j t' ht'
      have hkp : ∀ x o, Fs j x → W.heap[x]? = some o → W'.heap[x]? = some o := fun x o hx ho => by
        obtain ⟨_, z2, z3⟩ := hFsb j x hjn hx
        exact (hkeep x (hFs j x hjn hx).2.1 (hdis j k x hjn hk hjk hx) z3 z2).trans ho
      refine ⟨r1, r2, r3, v, fun m u hm => ?_, ?_, fun h => ?_⟩
      · have hm5 : m < 5 := (List.getElem?_eq_some_iff.1 hm).1
        rw [hat j m hjn hm5 hjk]; exact r4 m u hm
      · simp only [if_neg hjk]; exact r5.keep hkp
      · obtain ⟨z1, d', z2, z3⟩ := r6 (by omega)
        refine ⟨z1, d', z2, ?_⟩
        simp only [if_neg hjk]; exact z3.keep hkp
  · by_cases hjk : j = k
    · simp only [if_pos hjk] at hx
      obtain ⟨z1, z2⟩ := h8 x hx
      refine ⟨?_, z2, fun e => ?_⟩
      · rcases z1 with h | h
        · exact (hFs k x hk h).1
        · right; have := hc.size; omega
      · injection e with e
        have e : g = x := e
        rcases z1 with h | h
        · exact (hFsb k x hk h).2.2 e.symm
        · omega
    · simp only [if_neg hjk] at hx
      obtain ⟨z1, z2, z3⟩ := hFs j x hj hx
      exact ⟨z1, by omega, z3⟩
  · by_cases hjk : j = k
    · have hlk : l ≠ k := fun e => hjl (hjk.trans e.symm)
      simp only [if_pos hjk] at hx
      simp only [if_neg hlk] at hx'
      rcases (h8 x hx).1 with h | h
      · exact hdis k l x hk hll (fun e => hlk e.symm) h hx'
      · have := (hFs l x hll hx').2.1; omega
    · simp only [if_neg hjk] at hx
      by_cases hlk : l = k
      · simp only [if_pos hlk] at hx'
        rcases (h8 x hx').1 with h | h
        · exact hdis j k x hj hk hjk hx h
        · have := (hFs j x hj hx).2.1; omega
      · simp only [if_neg hlk] at hx'
        exact hdis j l x hj hll hjl hx hx'
/-- what the loop leaves -/
theorem TurnRel.fin {d b off q n : Nat} {T : Tree} {cs : Array Value} {sl : Value} {F : Nat → Prop} {a : Int} {w W : World} {i : Value} (h : TurnRel d b q n T cs sl F a w i W) (hn : T.kids.length = n) (hin : NodeIn cs off T sl) (hf : Fits T) (ht : TxtA T)
    (hsF : ∀ g, sl.ownBlock = some g → F g) (hF : ∀ x, F x → x < w.heap.size ∧ x ≠ b ∧ x ≠ q) (hz : d = 0 → T.kids = []) : ∃ a', -1 ≤ a' ∧ a' < a ∧ TurnedTo (d + 1) b off q cs F w (2 * manyF d T) a' W := by
  obtain ⟨k, ks, xs, Fs, a', hk, rfl, hl, hc, hb, hq, ha1, ha2, hown, hrow, hFs, hdis⟩ := h
  refine ⟨a', ha1, ha2, .mk T.kind T.text T.num T.place ks, sl, cs, fun x => sl.ownBlock = some x ∨ ∃ j, j < n ∧ Fs j x, hc, hb, rfl, hin, fun m _ => rfl, hf, ?_, fun x hx => ?_, hq, ?_, ?_⟩
  · subst hl
    refine own_of_row (Fs := Fs) hown (fun g hg => Or.inl hg) (fun j t htj => ?_) (fun j x hj hx => ⟨Or.inr ⟨j, hj, hx⟩, (hFs j x hj hx).2.2⟩) hdis
    obtain ⟨r1, _, _, v, r4, r5, _⟩ := hrow j t htj
    exact ⟨r1, v, r4, r5⟩
  · rcases hx with hx | ⟨j, hj, hx⟩
    · exact ⟨Or.inl (hsF x hx), Nat.lt_of_lt_of_le (hF x (hsF x hx)).1 hc.size⟩
    · exact ⟨(hFs j x hj hx).1, (hFs j x hj hx).2.1⟩
  · refine TxtA.mk ht.text fun t htm => ?_
    obtain ⟨j, hj⟩ := List.getElem?_of_mem htm
    exact (hrow j t hj).2.1
  · rw [manyF_sum]
    show 1 + (ks.map (manyF d)).sum ≤ _
    have h2 := sum_twice (manyF d) (manyF (d - 1)) ks T.kids (by rw [hl, hn]) (fun j t u hj hu => (hrow j t hj).2.2.1 u hu)
    cases d with
    | zero =>
      have h0 : ks = [] := by
        have := hz rfl
        rw [this] at hn
        exact List.eq_nil_of_length_eq_zero (by rw [hl, ← hn]; rfl)
      rw [h0]; simp [manyF]
    | succ d =>
      have e : manyF (d + 1) T = 1 + (T.kids.map (manyF d)).sum := manyF_sum d T
      rw [e]
      simp only [Nat.add_sub_cancel] at h2
      omega
set_option maxRecDepth 100000 in
set_option maxHeartbeats 4000000 in
theorem turned_on (d : Nat) (ih : ∀ d', d = d' + 1 → TurnK d') (T : Tree) (s : Value) (b off q : Nat) (cs : Array Value) (F : Nat → Prop) (a : Int) (how : Nat) (w : World)
    (hb : w.heap[b]? = some (.cells cs 25 (0, 0))) (hin : NodeIn cs off T s) (hf : Fits T) (ho : OwnAt w d T.kids s F) (hF : ∀ x, F x → x < w.heap.size ∧ x ≠ b ∧ x ≠ q) (hq : w.heap[q]? = some (.cells #[.int .i64 a] 3 (0, 0))) (hqb : q ≠ b) (ha0 : 0 < a) (ha1 : a ≤ 100) (hhow : how < 84) (ht : TxtA T) (hm : manyF d T ≤ 10000) :
    Calls Tryz.prog 7 #[.pointer (some ⟨b, off, none⟩), .pointer (some ⟨q, 0, none⟩), .int .i64 how] w (TurnPost (d + 1) b off q cs F w (2 * manyF d T) a) := by
  obtain ⟨xs, hown, hsF, Fs, hrow, hFs, hdis⟩ := ho.row
  obtain ⟨p, c, rfl⟩ := ho.shape
  have hz : d = 0 → T.kids = [] := fun e => by subst e; exact ho.1
  obtain ⟨n, hn⟩ : ∃ n, T.kids.length = n := ⟨_, rfl⟩
  have hn2 : n ≤ 10000 := by
    cases d with
    | zero => rw [← hn, ho.1]; exact Nat.zero_le _
    | succ d => rw [manyF_sum] at hm; have := len_le_sumT (manyF d) (manyF_pos1 d) T.kids; omega
  rw [hn] at hown hin hsF hFs
  have hbw : b < w.heap.size := (Array.getElem?_eq_some_iff.1 hb).1
  have hqw : q < w.heap.size := (Array.getElem?_eq_some_iff.1 hq).1
  obtain ⟨w1, hw1⟩ : ∃ w1, w1 = w.setCell ⟨q, 0, none⟩ (.int .i64 (a - 1)) := ⟨_, rfl⟩
  have hoth : ∀ x, x ≠ q → w1.heap[x]? = w.heap[x]? := fun x hx => by rw [hw1]; exact Below.heap_setCell _ _ _ _ hx
  have hsz1 : w1.heap.size = w.heap.size := by rw [hw1]; simp [World.setCell]
  have hq1 : w1.heap[q]? = some (.cells #[.int .i64 (a - 1)] 3 (0, 0)) := by rw [hw1, heap_set hq 0 _]; rfl
  have hc1 : Chg (fun x => F x ∨ x = b ∨ x = q) w w1 := by rw [hw1]; exact (Chg.refl _ w).setCell (p := ⟨q, 0, none⟩) (Or.inl (Or.inr (Or.inr rfl))) _
  have hrel : TurnRel d b q n T cs (.slice p n c) F a w (.int .i64 ((0 : Nat) : Int)) w1 := by
    have hkeep : ∀ i x o, Fs i x → w.heap[x]? = some o → w1.heap[x]? = some o := fun i x o hx h => (hoth x (hF x (hFs i x hx).1).2.2).trans h
    refine ⟨0, T.kids, xs, Fs, a - 1, Nat.zero_le _, rfl, hn, hc1, (hoth b (fun e => hqb e.symm)).trans hb, hq1, by omega, by omega, owns_keep hown (fun g hg => hoth g (hF g (hsF g hg)).2.2), fun j t hj => ?_, fun j x _ hx => ⟨Or.inl (hFs j x hx).1, by rw [hsz1]; exact (hF x (hFs j x hx).1).1, (hFs j x hx).2⟩, fun j l x _ _ h hx => hdis j l x h hx⟩
    obtain ⟨r1, v, r2, d', rfl, r3⟩ := hrow j t hj
    refine ⟨r1, ht.kid t (List.mem_of_getElem? hj), fun u hu => ?_, v, r2, (r3.keep (hkeep j)).more, fun _ => ⟨hj, d', rfl, r3.keep (hkeep j)⟩⟩
    rw [hj] at hu
    injection hu with hu
    subst hu
    have := many_more (w := w) d' t v (r3.kids (B := w.heap.size) (fun x hx => (hF x (hFs j x hx).1).1))
    simp only [Nat.add_sub_cancel]
    rw [this]
    have := manyF_pos1 d' t
    omega
  have HRel := Lib.hid hrel
  have HB := Lib.hid hb
  have HIn := Lib.hid hin
  have HN := Lib.hid hn
  have HsF := Lib.hid hsF
  have HF := Lib.hid hF
  have HZ := Lib.hid hz
  have HM := Lib.hid hm
  have HIh := Lib.hid ih
  have HTx := Lib.hid ht
  have HFt := Lib.hid hf
  have HBw := Lib.hid hbw
  have HQw := Lib.hid hqw
  have q0 : w.cell? ⟨q, 0, none⟩ = some (.int .i64 a) := by rw [cell_of_row _ _ _ _ _ _ hq]; rfl
  have qf := frozen_of hq 0
  have ha2 : (a == 0) = false := by simp; omega
  have ha3 : ¬ a = 0 := by omega
  clear hrel hoth hsz1 hq1 hc1 hbw hqw hb hin hf ho hF hq ht hm hown hsF hrow hFs hdis hn hz ih
  go_enter Tryz.func7, Tryz.ntmps7
  go_wp2_with fail
  change Code.wp _ _ _ _ (w.setCell ⟨q, 0, none⟩ (.int .i64 (a - 1)))
  rw [← hw1]
  clear hw1 q0 qf
  go_loopw [8] (TurnRel d b q n T cs (.slice p n c) F a w) (fun i _ => n - (intOf i).toNat)
  case atStart => exact HRel.out
  case round =>
    clear HRel
    have hr0 := hrel
    obtain ⟨k, ks, xs, Fs, a', hk, rfl, hl, hc, hb, hq, ha4, ha5, hown, hrow, hFs, hdis⟩ := hrel
    have hk0 : (0 : Int) ≤ k := by omega
    have q0 : wr.cell? ⟨q, 0, none⟩ = some (.int .i64 a') := by rw [cell_of_row _ _ _ _ _ _ hq]; rfl
    have s0 : wr.cell? ⟨b, off + 4, none⟩ = some (.slice p n c) := by rw [cell_of_row _ _ _ _ _ _ hb]; exact HIn.out 4 _ rfl
    by_cases hgo : k < n ∧ 0 ≤ a'
    · obtain ⟨hlt, hage⟩ := hgo
      obtain ⟨g, c', hsl, hnc⟩ := owns_pos hown (by omega)
      injection hsl with e1 e2 e3
      subst e1; subst e3
      obtain ⟨t, htk⟩ : ∃ t, ks[k]? = some t := ⟨_, List.getElem?_eq_getElem (by rw [hl]; exact hlt)⟩
      obtain ⟨r1, r2, r3, v, r4, r5, r6⟩ := hrow k t htk
      obtain ⟨r7, d', hd', r8⟩ := r6 (Nat.le_refl _)
      obtain ⟨hlen, hcase⟩ := hown
      obtain ⟨cur, hcur, hcm, hcsz, htake⟩ : ∃ cur, wr.heap[g]? = some (.cells cur 25 (0, 0)) ∧ c ≤ maxLen ∧ cur.size = c * 5 ∧ cur.toList.take (n * 5) = xs := by
        rcases hcase with ⟨h, _⟩ | ⟨g', cap, cur, h, _, h1, _, h3, h4, h5⟩
        · cases h
        · injection h with h6 _ h7
          injection h6 with h6
          injection h6 with h6
          subst h6; subst h7
          exact ⟨cur, h1, h3, h4, h5⟩
      have hgF : F g := HsF.out g rfl
      have hg3 := HF.out g hgF
      have hsum := le_sumT (manyF d') T.kids t (List.mem_of_getElem? r7)
      have hmt : manyF d' t ≤ 10000 := by
        have h1 := HM.out
        rw [hd', manyF_sum] at h1
        omega
      have hnin : NodeIn cur (k * 5) t v := fun m u hm => by
        have hm5 : m < 5 := (List.getElem?_eq_some_iff.1 hm).1
        have h1 := r4 m u hm
        rw [← htake, List.getElem?_take, if_pos (by omega)] at h1
        simpa using h1
      have hFk : ∀ x, Fs k x → x < wr.heap.size ∧ x ≠ g ∧ x ≠ q := fun x hx => by
        obtain ⟨z1, z2, z3⟩ := hFs k x hlt hx
        refine ⟨z2, fun e => z3 (by rw [e]; rfl), ?_⟩
        rcases z1 with h | h
        · exact (HF.out x h).2.2
        · have := HQw.out; omega
      have hC := HIh.out d' hd' t v g (k * 5) q cur (Fs k) a' how wr hcur hnin r1 r8 hFk hq (fun e => hg3.2.2 e.symm) hage (by omega) hhow r2 hmt
      have hnext : ∀ a2 W', -1 ≤ a2 → a2 < a' → TurnedTo (d' + 1) g (k * 5) q cur (Fs k) wr (2 * manyF d' t) a2 W' → TurnRel d b q n T cs (.slice (some ⟨g, 0, none⟩) n c) F a w (.int .i64 ((k + 1 : Nat) : Int)) W' := fun a2 W' z1 z2 z3 => by
        rw [← hd'] at z3
        have hdd : manyF d' t = manyF (d - 1) t := by rw [hd']; rfl
        rw [hdd] at z3
        exact TurnRel.next hlt hl hc hb hgF hg3.2.1 hqb HQw.out HBw.out HF.out hcur hnc hcm hcsz htake hrow hFs hdis r7 z1 (by omega) z3
      have HC := Lib.hid hC
      have HNx := Lib.hid hnext
      have hkl : (k : Int) < n := by omega
      clear hr0 hl hc hb hq hrow hFs hdis htk r1 r2 r3 r4 r5 r6 r7 r8 hlen hcase hcur hcm hcsz htake hgF hg3 hsum hmt hnin hFk hC hnext
      go_wp2_with fail
      refine HC.out.mono ?_
      rintro e W2 ⟨rfl, a2, z1, z2, z3⟩
      have HR := Lib.hid (HNx.out a2 W2 z1 z2 z3)
      clear z1 z2 z3 HNx HC q0 s0
      go_wp2_with fail
      exact ⟨HR.out, by simp [intOf]; omega⟩
    · have HFin := Lib.hid (hr0.fin HN.out HIn.out HFt.out HTx.out HsF.out HF.out HZ.out)
      clear hr0 hl hc hb hq hown hrow hFs hdis
      by_cases hlt : k < n
      · have ha6 : a' < 0 := by omega
        have ha7 : ¬ (0 ≤ a') := by omega
        have hkl : (k : Int) < n := by omega
        go_wp2_with fail
        go_returns
        exact ⟨rfl, HFin.out⟩
      · have hkl : ¬ ((k : Int) < n) := by omega
        go_wp2_with fail
        go_returns
        exact ⟨rfl, HFin.out⟩
end Go.Proofs.YtfpohaipmnjflaaGreatDoor
/- turned, where the node is the one (at = 0): what each arm does to memory. No condition. -/
namespace Go.Proofs.YtfpohaipmnjflaaGreatDoor
open Go.RowKit

/-- a cell of the node is stored, behind whatever came to its kids -/
theorem turned_gen {d b off q i : Nat} {cs : Array Value} {F F' : Nat → Prop} {w W : World} {N : Nat} {a : Int} {T T' : Tree} {s s' v : Value} (hc : Chg (fun x => F x ∨ x = b ∨ x = q) w W) (hb : W.heap[b]? = some (.cells cs 25 (0, 0))) (hq : W.heap[q]? = some (.cells #[.int .i64 a] 3 (0, 0))) (hqb : q ≠ b) (_hbw : b < w.heap.size)
    (hn0 : NodeIn cs off T s) (hi : i < 5) (hn : nodeCells T' s' = (nodeCells T s).set i v) (hf : Fits T') (ho : OwnAt W d T'.kids s' F') (hF' : ∀ x, F' x → (F x ∨ w.heap.size ≤ x) ∧ x < W.heap.size) (hbF : ∀ x, F' x → x ≠ b) (ht : TxtA T') (hm : manyF d T' ≤ N) :
    TurnedTo d b off q cs F w N a (W.setCell ⟨b, off + i, none⟩ v) := by
  have hoth : ∀ x, x ≠ b → (W.setCell ⟨b, off + i, none⟩ v).heap[x]? = W.heap[x]? := fun x hx => Below.heap_setCell W ⟨b, off + i, none⟩ v x hx
  refine ⟨T', s', cs.setIfInBounds (off + i) v, F', hc.setCell (p := ⟨b, off + i, none⟩) (Or.inl (Or.inr (Or.inl rfl))) _, heap_set hb _ _, by simp, hn0.set hn hi, set_far cs off i v hi, hf, ho.keep fun x o hx h => (hoth x (hbF x hx)).trans h, fun x hx => ⟨(hF' x hx).1, by simpa [World.setCell] using (hF' x hx).2⟩, (hoth q hqb).trans hq, ht, hm⟩
/-- the counter goes on -/
theorem turned_at {d b off q : Nat} {cs : Array Value} {F : Nat → Prop} {w W : World} {N : Nat} {a a' : Int} (h : TurnedTo d b off q cs F w N a W) (hqb : q ≠ b) (hqF : ∀ x, F x → x ≠ q) (hqw : q < w.heap.size) : TurnedTo d b off q cs F w N a' (W.setCell ⟨q, 0, none⟩ (.int .i64 a')) := by
  obtain ⟨T', s', cs', F', h1, h2, h3, h4, h5, h6, h7, h8, h9, h10, h11⟩ := h
  have hoth : ∀ x, x ≠ q → (W.setCell ⟨q, 0, none⟩ (.int .i64 a')).heap[x]? = W.heap[x]? := fun x hx => Below.heap_setCell W ⟨q, 0, none⟩ _ x hx
  have hq' : ∀ x, F' x → x ≠ q := fun x hx => by
    rcases (h8 x hx).1 with h | h
    · exact hqF x h
    · omega
  refine ⟨T', s', cs', F', h1.setCell (p := ⟨q, 0, none⟩) (Or.inl (Or.inr (Or.inr rfl))) _, (hoth b (fun e => hqb e.symm)).trans h2, h3, h4, h5, h6, h7.keep fun x o hx h => (hoth x (hq' x hx)).trans h, fun x hx => ⟨(h8 x hx).1, by simpa [World.setCell] using (h8 x hx).2⟩, ?_, h10, h11⟩
  rw [heap_set h9 0 _]; rfl
/-- the first kids alone -/
theorem own_take {w : World} {d : Nat} {ks : List Tree} {p : Option Addr} {n c m : Nat} {F : Nat → Prop} (h : OwnAt w d ks (.slice p n c) F) (hm : m ≤ n) (hn : ks.length = n) : OwnAt w d (ks.take m) (.slice p m c) F := by
  cases d with
  | zero =>
    obtain ⟨rfl, hn'⟩ := h
    have hn0 : n = 0 := by rw [← hn]; rfl
    subst hn0
    obtain rfl : m = 0 := by omega
    exact ⟨rfl, hn'⟩
  | succ d =>
    rcases h with ⟨rfl, hn'⟩ | ⟨g, cap, cur, Fs, h0, h1, h2, h3, h4, h5, h6, h7, h8, h9⟩
    · have hn0 : n = 0 := by rw [← hn]; rfl
      subst hn0
      obtain rfl : m = 0 := by omega
      exact Or.inl ⟨rfl, hn'⟩
    · injection h4 with e1 e2 e3
      subst e1; subst e3
      rcases Nat.eq_zero_or_pos m with rfl | hm0
      · exact Or.inl ⟨rfl, Or.inr ⟨g, c, cur, h1, h3, rfl, h5, h6⟩⟩
      · have hl : (ks.take m).length = m := by rw [List.length_take]; omega
        refine Or.inr ⟨g, c, cur, Fs, fun e => by rw [e] at hl; simp at hl; omega, h1, by omega, h3, by rw [hl], h5, h6, fun i T hT => ?_, h8, h9⟩
        rw [List.getElem?_take] at hT
        split at hT
        · exact h7 i T hT
        · cases hT
theorem own_le {w : World} {d : Nat} {ks : List Tree} {p : Option Addr} {n c : Nat} {F : Nat → Prop} (h : OwnAt w d ks (.slice p n c) F) (hn : ks.length = n) : n ≤ c := by
  cases d with
  | zero => obtain ⟨rfl, _⟩ := h; rw [← hn]; exact Nat.zero_le _
  | succ d =>
    rcases h with ⟨rfl, _⟩ | ⟨g, cap, cur, Fs, h0, h1, h2, h3, h4, _⟩
    · rw [← hn]; exact Nat.zero_le _
    · injection h4 with _ _ e3
      rw [← hn, e3]; exact h2
theorem own_addr {w : World} {d : Nat} {ks : List Tree} {p : Option Addr} {n c : Nat} {F : Nat → Prop} (h : OwnAt w d ks (.slice p n c) F) : p = none ∨ ∃ g, p = some ⟨g, 0, none⟩ := by
  have nil : NilOr w (.slice p n c) F → p = none ∨ ∃ g, p = some ⟨g, 0, none⟩ := fun h => by
    rcases h with h | ⟨g, cap, cur, _, _, h, _⟩
    · injection h with e _ _; exact Or.inl e
    · injection h with e _ _; exact Or.inr ⟨g, e⟩
  cases d with
  | zero => exact nil h.2
  | succ d =>
    rcases h with ⟨_, h⟩ | ⟨g, cap, cur, Fs, _, _, _, _, h4, _⟩
    · exact nil h
    · injection h4 with e _ _; exact Or.inr ⟨g, e⟩
theorem slice_to (p : Option Addr) (n c m : Nat) (hm : m ≤ c) (hp : p = none ∨ ∃ g, p = some ⟨g, 0, none⟩) (W : World) : (Instr.slice 23 (.slice p n c) none (some (.int .i64 (m : Int))) none).run Tryz.prog W = .ok (.slice p m c) W := by
  rw [run_slice_h W 23 p n c (by kernel_rfl) .i64 m (by omega) (by omega), size_node]
  show Result.ok (sliced _ _ _ _ _) W = _
  unfold sliced
  rw [Int.toNat_natCast]
  rcases hp with rfl | ⟨g, rfl⟩
  · by_cases h0 : c = 0
    · rw [if_pos h0]; simp
    · rw [if_neg h0]; rfl
  · by_cases h0 : c = 0
    · rw [if_pos h0]; simp
    · rw [if_neg h0]; simp [Addr.add]
/-- the texts that a node's may become -/
def txtX (r1 r2 : ByteArray) : List ByteArray := [⟨#[]⟩, ⟨#[97]⟩, ⟨#[114, 117, 108, 101]⟩, ⟨#[95, 97]⟩, ⟨#[65]⟩, ⟨#[55]⟩, ⟨#[45, 55]⟩, ⟨#[45]⟩, ⟨#[45, 45, 55]⟩, ⟨#[48, 55]⟩, ⟨#[32, 55]⟩, ⟨#[111, 114]⟩, ⟨#[43]⟩, ⟨#[32, 97]⟩, ⟨#[57, 50, 50, 51, 51, 55, 50, 48, 51, 54, 56, 53, 52, 55, 55, 53, 56, 48, 56]⟩, r1, r2, ⟨#[97, 32, 98]⟩, ⟨#[110, 111, 116]⟩]
theorem txt_at (r1 r2 : ByteArray) (h1 : r1.size ≤ 1000) (h2 : r2.size ≤ 1000) (k : Nat) (h : k < 19) : ∃ x, (txtX r1 r2)[k]? = some x ∧ x.size ≤ 1000 := by
  have hl : (txtX r1 r2).length = 19 := rfl
  refine ⟨(txtX r1 r2)[k]'(by rw [hl]; exact h), List.getElem?_eq_getElem _, ?_⟩
  have hall : ∀ x ∈ txtX r1 r2, x.size ≤ 1000 := by
    unfold txtX
    simp only [List.forall_mem_cons, List.not_mem_nil, false_implies, implies_true, and_true]
    exact ⟨by decide, by decide, by decide, by decide, by decide, by decide, by decide, by decide, by decide, by decide, by decide, by decide, by decide, by decide, by decide, h1, h2, by decide, by decide⟩
  exact hall _ (List.getElem_mem _)
def numsX : List Int := [-9223372036854775808, -2147483648, -2147483647, -1, 1, 2147483647, 2147483648, 9223372036854775807]
theorem num_at (k : Nat) (h : k < 8) : ∃ z : Int, numsX[k]? = some z ∧ -9223372036854775808 ≤ z ∧ z < 9223372036854775808 := by
  match k, h with
  | 0, _ => exact ⟨_, rfl, by decide, by decide⟩
  | 1, _ => exact ⟨_, rfl, by decide, by decide⟩
  | 2, _ => exact ⟨_, rfl, by decide, by decide⟩
  | 3, _ => exact ⟨_, rfl, by decide, by decide⟩
  | 4, _ => exact ⟨_, rfl, by decide, by decide⟩
  | 5, _ => exact ⟨_, rfl, by decide, by decide⟩
  | 6, _ => exact ⟨_, rfl, by decide, by decide⟩
  | 7, _ => exact ⟨_, rfl, by decide, by decide⟩
theorem many_same {w : World} {B d : Nat} {T T' : Tree} {s : Value} (hk : T'.kids = T.kids) (h : KidsAt w B d T.kids s) : manyF (d + 1) T' ≤ 2 * manyF d T := by
  have h1 := many_more d T s h
  rw [manyF_sum] at h1 ⊢
  rw [hk, h1]; omega
/-- a field that is no list is turned -/
theorem arm_field {d b off q i : Nat} {cs : Array Value} {F : Nat → Prop} {w W : World} {T T' : Tree} {s v : Value} (hW : Below w.heap.size w W) (hb : w.heap[b]? = some (.cells cs 25 (0, 0))) (hin : NodeIn cs off T s) (ho : OwnAt w d T.kids s F) (hF : ∀ x, F x → x < w.heap.size ∧ x ≠ b ∧ x ≠ q)
    (hq : w.heap[q]? = some (.cells #[.int .i64 0] 3 (0, 0))) (hqb : q ≠ b) (hi : i < 5) (hn : nodeCells T' s = (nodeCells T s).set i v) (hk : T'.kids = T.kids) (hf : Fits T') (ht : TxtA T') : TurnedTo (d + 1) b off q cs F w (2 * manyF d T) 0 (W.setCell ⟨b, off + i, none⟩ v) := by
  have hbw : b < w.heap.size := (Array.getElem?_eq_some_iff.1 hb).1
  have hqw : q < w.heap.size := (Array.getElem?_eq_some_iff.1 hq).1
  refine turned_gen (F' := F) (Chg.of_below hW) (heap_below hW hb hbw) (heap_below hW hq hqw) hqb hbw hin hi hn hf ?_ (fun x hx => ⟨Or.inl hx, Nat.lt_of_lt_of_le (hF x hx).1 hW.size⟩) (fun x hx => (hF x hx).2.1) ht (many_same hk (ho.kids (B := w.heap.size) fun x hx => (hF x hx).1))
  rw [hk]
  exact (ho.below (fun x hx => (hF x hx).1) hW).more
/-- the last kid is taken away -/
theorem arm_cut {d b off q n c m : Nat} {cs : Array Value} {F : Nat → Prop} {w W : World} {T : Tree} {p : Option Addr} (hW : Below w.heap.size w W) (hb : w.heap[b]? = some (.cells cs 25 (0, 0))) (hin : NodeIn cs off T (.slice p n c)) (ho : OwnAt w d T.kids (.slice p n c) F) (hF : ∀ x, F x → x < w.heap.size ∧ x ≠ b ∧ x ≠ q)
    (hq : w.heap[q]? = some (.cells #[.int .i64 0] 3 (0, 0))) (hqb : q ≠ b) (hn : T.kids.length = n) (hm : m ≤ n) (hf : Fits T) (ht : TxtA T) : TurnedTo (d + 1) b off q cs F w (2 * manyF d T) 0 (W.setCell ⟨b, off + 4, none⟩ (.slice p m c)) := by
  have hbw : b < w.heap.size := (Array.getElem?_eq_some_iff.1 hb).1
  have hqw : q < w.heap.size := (Array.getElem?_eq_some_iff.1 hq).1
  refine turned_gen (T' := .mk T.kind T.text T.num T.place (T.kids.take m)) (F' := F) (Chg.of_below hW) (heap_below hW hb hbw) (heap_below hW hq hqw) hqb hbw hin (by omega) rfl hf ((own_take ho hm hn).below (fun x hx => (hF x hx).1) hW).more (fun x hx => ⟨Or.inl hx, Nat.lt_of_lt_of_le (hF x hx).1 hW.size⟩) (fun x hx => (hF x hx).2.1) (TxtA.mk ht.text fun k hk => ht.kid k (List.mem_of_mem_take hk)) ?_
  have h1 := many_more d T _ (ho.kids (B := w.heap.size) fun x hx => (hF x hx).1)
  rw [manyF_sum] at h1 ⊢
  have h2 : ((T.kids.take m).map (manyF d)).sum ≤ (T.kids.map (manyF d)).sum := sum_take_le (manyF d) T.kids m
  show 1 + ((T.kids.take m).map (manyF d)).sum ≤ _
  omega
end Go.Proofs.YtfpohaipmnjflaaGreatDoor
