/- Several texts joined, each with its own sentence and conditions ahead of it: FlatB, FlatC. -/
import Derived.Test.YtfpohaipmnjflaaGreatDoorMF
import Derived.Test.YtfpohaipmnjflaaGreatDoorME
import Derived.Test.YtfpohaipmnjflaaGreatDoorMV
import Derived.Test.YtfpohaipmnjflaaGreatDoorMR
/- Appending to a list of one's own, in both ways told apart; marks; lists that keep. No condition. -/
namespace Go.Proofs.YtfpohaipmnjflaaGreatDoor
open Go.RowKit

section
variable {P : Program} (w : World)
theorem run_append_both (base : Nat) (t ty e : TypeId) (i : TypeInfo) (z : Value) (size bytes : Nat) (ht : P.underlying t = some (.slice e)) (hi : P.info? e = some i) (hz : i.zero = some z)
    (hsize : i.size = size) (hby : i.bytes = bytes) (hzs : z.cells.size = size) (hsz : 0 < size)
    (v : Value) (n : Nat) (xs : List Value) (hown : w.ownsRow base e size v n xs)
    (a : Addr) (m c : Nat) (news : List Value) (hl : news.length = m * size) (hnews : ∀ j u, news[j]? = some u → w.cell? (a.add j) = some u) (h1 : ∀ u ∈ news, u.oneCell' = true)
    (h63 : n + m ≤ maxLen) (hbytes : (n + m) * bytes ≤ 140737488355328) (hbase : base ≤ w.heap.size) (hm : 0 < m) :
    ∃ v' w', (Builtin.append_ #[t, t] ty #[v, .slice (some a) m c]).run P w = .ok v' w' ∧ w'.ownsRow base e size v' (n + m) (xs ++ news) ∧
      ((∃ g cap, v = .slice (some ⟨g, 0, none⟩) n cap ∧ v' = .slice (some ⟨g, 0, none⟩) (n + m) cap ∧ w.grownBy w' (some g)) ∨
       (∃ cap, v' = .slice (some ⟨w.heap.size, 0, none⟩) (n + m) cap ∧ Below w.heap.size w w')) := by
  subst hsize
  subst hby
  have hsmall : n + m ≤ 9223372036854775807 := by simp only [maxLen] at h63; omega
  have hlen : (xs ++ news).length = (n + m) * i.size := by rw [List.length_append, hown.1, hl, Nat.add_mul]
  have grown : ∀ (old : Nat), old < n + m →
      (w.drew.alloc (.cells (xs.toArray ++ news.toArray ++ Builtin.zeroCells z.cells (grownCap w (n + m) old e - (n + m))) e)).ownsRow base e i.size
        (.slice (some ⟨w.heap.size, 0, none⟩) (n + m) (grownCap w (n + m) old e)) (n + m) (xs ++ news) ∧
      Below w.heap.size w (w.drew.alloc (.cells (xs.toArray ++ news.toArray ++ Builtin.zeroCells z.cells (grownCap w (n + m) old e - (n + m))) e)) := by
    intro old ho
    have hge := grownCap_ge w (n + m) old e
    have hcm : grownCap w (n + m) old e ≤ maxLen := grownCap_le_maxLen w (n + m) old e h63
    refine ⟨⟨hlen, .inr ⟨w.heap.size, _, _, rfl, hbase, heap_alloc_new w.drew _, hge, hcm, ?_, ?_⟩⟩, (Below.refl _ w).drew.alloc (Nat.le_refl _) _⟩
    · simp only [Array.size_append, List.size_toArray, size_zeroCells, hzs, hown.1, hl, ← Nat.add_mul]
      congr 1
      omega
    · simp only [Array.toList_append, List.append_assoc]
      rw [← List.append_assoc, ← hlen]
      exact List.take_left
  rcases hown.2 with ⟨rfl, rfl⟩ | ⟨g, cap, cur, rfl, hbg, hg, hnc, hcm, hcs, htake⟩
  · have hx : xs = [] := List.eq_nil_of_length_eq_zero (by simpa using hown.1)
    subst hx
    have hr := run_append_nil (P := P) w t ty e i z ht hi hz a m c news hl hnews (by omega) (by omega) (by have hb := hbytes; simp only [Nat.zero_add] at hb; omega)
    have hgr := grown 0 (by omega)
    simp only [Nat.zero_add, List.nil_append, Array.empty_append] at hgr ⊢
    exact ⟨_, _, hr, hgr.1, Or.inr ⟨_, rfl, hgr.2⟩⟩
  · by_cases hroom : n + m ≤ cap
    · have hfit : n * i.size + news.length ≤ cur.size := by rw [hl, hcs, ← Nat.add_mul]; exact Nat.mul_le_mul_right _ hroom
      have hr := run_append_room (P := P) w t ty e i ht hi g n cap cur hg a m c news hl hnews h1 hroom hfit
      refine ⟨_, _, hr, ⟨hlen, .inr ⟨g, cap, _, rfl, hbg, setRow_heap w g cur _ e _ hg, hroom, hcm, ?_, ?_⟩⟩, Or.inl ⟨g, cap, rfl, rfl, ⟨rfl, rfl, rfl, by simp, fun k _ hk => setRow_other w g k _ (fun e => hk (by simp [e]))⟩⟩⟩
      · simp only [List.size_toArray, List.length_append, List.length_take, List.length_drop, Array.length_toList]
        omega
      · rw [htake, ← hlen]
        exact List.take_left
    · have holds : ∀ j u, xs[j]? = some u → w.cell? ((⟨g, 0, none⟩ : Addr).add j) = some u := hown.cells (g := g) rfl
      have hr := run_append_grow (P := P) w t ty e i z ht hi hz ⟨g, 0, none⟩ n cap xs hown.1 holds a m c news hl hnews (by omega) (by omega) (growslice_fits (by omega) hbytes)
      have hgr := grown cap (by omega)
      exact ⟨_, _, hr, hgr.1, Or.inr ⟨_, rfl, hgr.2⟩⟩
end

/-! marks -/
def mkA (k i : Nat) : Int := 1000003 * ((k : Int) + 7) + i
def mkT (k i : Nat) : Tree := .mk 0 ⟨#[]⟩ 0 (mkA k i) []
def mkC (k i : Nat) : List Value := nodeCells (mkT k i) (.slice none 0 0)
def mrow (k n : Nat) : List Value := (List.range n).flatMap (mkC k)
theorem mkC_len (k i : Nat) : (mkC k i).length = 5 := rfl
theorem mrow_succ (k n : Nat) : mrow k (n + 1) = mrow k n ++ mkC k n := by
  unfold mrow
  rw [List.range_succ, List.flatMap_append, List.flatMap_cons, List.flatMap_nil, List.append_nil]
theorem mrow_len (k : Nat) : ∀ n, (mrow k n).length = n * 5 := by
  intro n
  induction n with
  | zero => rfl
  | succ n ih => rw [mrow_succ, List.length_append, ih, mkC_len]; omega
theorem mrow_pre (k : Nat) {i n : Nat} (h : i ≤ n) : ∃ ys, mrow k n = mrow k i ++ ys := by
  induction n with
  | zero => obtain rfl : i = 0 := by omega
            exact ⟨[], rfl⟩
  | succ n ih =>
    by_cases h' : i ≤ n
    · obtain ⟨ys, hy⟩ := ih h'
      exact ⟨ys ++ mkC k n, by rw [mrow_succ, hy, List.append_assoc]⟩
    · obtain rfl : i = n + 1 := by omega
      exact ⟨[], by rw [List.append_nil]⟩
/-! lists that keep -/
theorem owns_keep {w w' : World} {B : Nat} {e : TypeId} {z n : Nat} {v : Value} {xs : List Value} (h : w.ownsRow B e z v n xs) (hk : ∀ g, v.ownBlock = some g → w'.heap[g]? = w.heap[g]?) : w'.ownsRow B e z v n xs := by
  refine ⟨h.1, ?_⟩
  rcases h.2 with hn | ⟨g, cap, cur, rfl, hb, hg, rest⟩
  · exact Or.inl hn
  · exact Or.inr ⟨g, cap, cur, rfl, hb, (hk g rfl).trans hg, rest⟩
theorem owns_below {w w' : World} {B : Nat} {e : TypeId} {z n : Nat} {v : Value} {xs : List Value} (h : w.ownsRow B e z v n xs) (hb : Below w.heap.size w w') : w'.ownsRow B e z v n xs :=
  owns_keep h fun g hg => hb.block g (h.lt g hg).2
/-- a list whose block a longer list of the same room has kept the head of -/
theorem owns_head {w w' : World} {B g : Nat} {e : TypeId} {z n n' cap : Nat} {v : Value} {xs ys : List Value} (h : w.ownsRow B e z v n xs) (hv : v.ownBlock = some g)
    {v1 : Value} {n1 : Nat} {zs : List Value} (h1 : w.ownsRow B e z v1 n1 zs) (hv1 : v1 = .slice (some ⟨g, 0, none⟩) n1 cap) (hz : 0 < z)
    (h' : w'.ownsRow B e z (.slice (some ⟨g, 0, none⟩) n' cap) n' (xs ++ ys)) : w'.ownsRow B e z v n xs := by
  refine ⟨h.1, ?_⟩
  rcases h.2 with ⟨rfl, _⟩ | ⟨g2, cap2, cur, rfl, hb, hg, hnc, hcm, hcs, htk⟩
  · cases hv
  · obtain rfl : g2 = g := by simpa [Value.ownBlock] using hv
    rcases h1.2 with ⟨rfl, _⟩ | ⟨g3, cap3, cur3, rfl, hb3, hg3, _, _, hcs3, _⟩
    · cases hv1
    · simp only [Value.slice.injEq, Option.some.injEq, Addr.mk.injEq, and_true, true_and] at hv1
      obtain ⟨rfl, rfl⟩ := hv1
      rw [hg] at hg3
      simp only [Option.some.injEq, Obj.cells.injEq, and_true] at hg3
      subst hg3
      have hcc : cap2 = cap3 := Nat.eq_of_mul_eq_mul_right hz (hcs.symm.trans hcs3)
      subst hcc
      rcases h'.2 with ⟨h0, _⟩ | ⟨g4, cap4, cur4, h4, hb4, hg4, _, _, hcs4, htk4⟩
      · cases h0
      · simp only [Value.slice.injEq, Option.some.injEq, Addr.mk.injEq, and_true, true_and] at h4
        obtain ⟨rfl, rfl⟩ := h4
        refine Or.inr ⟨_, cap2, cur4, rfl, hb, hg4, hnc, hcm, hcs4, ?_⟩
        have hle : n * z ≤ n' * z := by rw [← h.1, ← h'.1, List.length_append]; omega
        rw [← Nat.min_eq_left hle, ← List.take_take, htk4, ← h.1]
        exact List.take_left
end Go.Proofs.YtfpohaipmnjflaaGreatDoor
/- Lists of nodes lie apart: what the walk keeps. No condition. -/
namespace Go.Proofs.YtfpohaipmnjflaaGreatDoor
open Go.RowKit
theorem owns_pos {w : World} {B n : Nat} {v : Value} {xs : List Value} (h : w.ownsRow B 25 5 v n xs) (hn : 0 < n) : ∃ g c, v = .slice (some ⟨g, 0, none⟩) n c ∧ n ≤ c := by
  rcases h.2 with ⟨rfl, rfl⟩ | ⟨g, cap, cur, rfl, _, _, hc, _⟩
  · omega
  · exact ⟨g, cap, rfl, hc⟩
/-- the lists, each in a block of its own, and the list of them -/
def Fm (B b0 : Nat) (c0 : Array Value) (D : List (Value × Nat)) (q : Nat → Nat → List Value → Prop) (W : World) : Prop :=
  W.heap[b0]? = some (.cells c0 23 (0, 0)) ∧ ∀ k v n, D[k]? = some (v, n) → ∃ xs, W.ownsRow B 25 5 v n xs ∧ q k n xs
structure FIn (B b0 : Nat) (c0 : Array Value) (D : List (Value × Nat)) : Prop where
  N : D.length ≤ 100000
  n : ∀ (k : Nat) (v : Value) (n : Nat), D[k]? = some (v, n) → n ≤ 20000
  at_ : ∀ (k : Nat) (v : Value) (n : Nat), D[k]? = some (v, n) → c0[k]? = some v
  apart : ∀ (i j : Nat) (v u : Value) (n m g : Nat), D[i]? = some (v, n) → D[j]? = some (u, m) → i ≠ j → v.ownBlock = some g → u.ownBlock ≠ some g
/-- marked so far: the lists ahead of the k-th, and the first i of that -/
def q1 (k i : Nat) (j n : Nat) (xs : List Value) : Prop := (j < k → xs = mrow j n) ∧ (j = k → xs.take (i * 5) = mrow k i)
/-- the blocks of the lists -/
def Dg (D : List (Value × Nat)) (b : Nat) : Prop := ∃ (k : Nat) (v : Value) (n : Nat), D[k]? = some (v, n) ∧ v.ownBlock = some b
def M2Rel (B b0 : Nat) (c0 : Array Value) (D : List (Value × Nat)) (w : World) (k n : Nat) (i : Value) (W : World) : Prop :=
  ∃ (W1 : World) (j : Nat), W1 = W ∧ j ≤ n ∧ i = .int .i64 j ∧ Chg (Dg D) w W1 ∧ B ≤ W1.heap.size ∧ Fm B b0 c0 D (q1 k j) W1
theorem set5_low (xs : List Value) (b j : Nat) (hj : j < b) (v0 v1 v2 v3 v4 : Value) : (((((xs.set b v0).set (b + 1) v1).set (b + 2) v2).set (b + 3) v3).set (b + 4) v4)[j]? = xs[j]? := by
  rw [List.getElem?_set_ne (by omega), List.getElem?_set_ne (by omega), List.getElem?_set_ne (by omega), List.getElem?_set_ne (by omega), List.getElem?_set_ne (by omega)]
theorem set5_at (xs : List Value) (b : Nat) (hb : b + 5 ≤ xs.length) (v0 v1 v2 v3 v4 : Value) {m : Nat} {u : Value} (hm : [v0, v1, v2, v3, v4][m]? = some u) : (((((xs.set b v0).set (b + 1) v1).set (b + 2) v2).set (b + 3) v3).set (b + 4) v4)[b + m]? = some u := by
  match m, hm with
  | 0, hm => cases hm; rw [List.getElem?_set_ne (by omega), List.getElem?_set_ne (by omega), List.getElem?_set_ne (by omega), List.getElem?_set_ne (by omega)]; exact List.getElem?_set_self (by omega)
  | 1, hm => cases hm; rw [List.getElem?_set_ne (by omega), List.getElem?_set_ne (by omega), List.getElem?_set_ne (by omega)]; exact List.getElem?_set_self (by simp; omega)
  | 2, hm => cases hm; rw [List.getElem?_set_ne (by omega), List.getElem?_set_ne (by omega)]; exact List.getElem?_set_self (by simp; omega)
  | 3, hm => cases hm; rw [List.getElem?_set_ne (by omega)]; exact List.getElem?_set_self (by simp; omega)
  | 4, hm => cases hm; exact List.getElem?_set_self (by simp; omega)
/-- the five stores of a node -/
def stored5 (W : World) (g b : Nat) (v0 v1 v2 v3 v4 : Value) : World := ((((W.setCell ⟨g, b, none⟩ v0).setCell ⟨g, b + 1, none⟩ v1).setCell ⟨g, b + 2, none⟩ v2).setCell ⟨g, b + 3, none⟩ v3).setCell ⟨g, b + 4, none⟩ v4
theorem owns_stored5 {W : World} {B g n cap : Nat} {e : TypeId} {xs : List Value} (h : W.ownsRow B e 5 (.slice (some ⟨g, 0, none⟩) n cap) n xs) (b : Nat) (v0 v1 v2 v3 v4 : Value) :
    (stored5 W g b v0 v1 v2 v3 v4).ownsRow B e 5 (.slice (some ⟨g, 0, none⟩) n cap) n (((((xs.set b v0).set (b + 1) v1).set (b + 2) v2).set (b + 3) v3).set (b + 4) v4) ∧ W.grownBy (stored5 W g b v0 v1 v2 v3 v4) (some g) := by
  have a0 := h.stored b v0
  have a1 := a0.1.stored (b + 1) v1
  have a2 := a1.1.stored (b + 2) v2
  have a3 := a2.1.stored (b + 3) v3
  have a4 := a3.1.stored (b + 4) v4
  exact ⟨a4.1, (((a0.2.trans a1.2).trans a2.2).trans a3.2).trans a4.2⟩
theorem take_mark {xs : List Value} {k i : Nat} (h : xs.take (i * 5) = mrow k i) (hl : i * 5 + 5 ≤ xs.length) :
    (((((xs.set (i * 5) (.int .u8 0)).set (i * 5 + 1) (.string ⟨#[]⟩)).set (i * 5 + 2) (.int .i64 0)).set (i * 5 + 3) (.int .i64 (mkA k i))).set (i * 5 + 4) (.slice none 0 0)).take ((i + 1) * 5) = mrow k (i + 1) := by
  apply List.ext_getElem?
  intro j
  rw [List.getElem?_take]
  by_cases h5 : j < (i + 1) * 5
  · rw [if_pos h5, mrow_succ]
    by_cases hj : j < i * 5
    · rw [set5_low _ _ _ hj, List.getElem?_append_left (by rw [mrow_len]; exact hj), ← h, List.getElem?_take, if_pos hj]
    · obtain ⟨m, rfl⟩ : ∃ m, j = i * 5 + m := ⟨j - i * 5, by omega⟩
      have hm : m < (mkC k i).length := by rw [mkC_len]; omega
      rw [List.getElem?_append_right (by rw [mrow_len]; omega), mrow_len, show i * 5 + m - i * 5 = m by omega]
      rw [List.getElem?_eq_getElem hm]
      exact set5_at xs (i * 5) hl _ _ _ _ _ (List.getElem?_eq_getElem hm)
  · rw [if_neg h5, List.getElem?_eq_none (by rw [mrow_len]; omega)]
theorem M2Rel.step {B b0 : Nat} {c0 : Array Value} {D : List (Value × Nat)} {W2 W3 : World} {k n i g c : Nat} (hI : FIn B b0 c0 D) (hd : D[k]? = some (.slice (some ⟨g, 0, none⟩) n c, n)) (hi : i < n) (hm : Fm B b0 c0 D (q1 k i) W2) (hb : Below W2.heap.size W2 W3) :
    Fm B b0 c0 D (q1 k (i + 1)) (stored5 W3 g (i * 5) (.int .u8 0) (.string ⟨#[]⟩) (.int .i64 0) (.int .i64 (mkA k i)) (.slice none 0 0)) := by
  obtain ⟨xs, ho, hq⟩ := hm.2 k _ n hd
  have ho3 := owns_below ho hb
  have hS := owns_stored5 ho3 (i * 5) (.int .u8 0) (.string ⟨#[]⟩) (.int .i64 0) (.int .i64 (mkA k i)) (.slice none 0 0)
  obtain ⟨g', cap', cur, hsl, _, hg, _⟩ := ho.2.resolve_left (by rintro ⟨h, _⟩; cases h)
  obtain rfl : g = g' := by
    simp only [Value.slice.injEq, Option.some.injEq, Addr.mk.injEq, and_true, true_and] at hsl
    exact hsl.1
  have hne : b0 ≠ g := ne_of_type hm.1 hg (by decide)
  refine ⟨?_, fun j v m hj => ?_⟩
  · have h1 : W3.heap[b0]? = some (.cells c0 23 (0, 0)) := (hb.block b0 (Array.getElem?_eq_some_iff.1 hm.1).1).trans hm.1
    exact heap_grown hS.2 h1 (by simpa using hne)
  · by_cases hjk : j = k
    · subst hjk
      rw [hd] at hj
      simp only [Option.some.injEq, Prod.mk.injEq] at hj
      obtain ⟨rfl, rfl⟩ := hj
      exact ⟨_, hS.1, fun h => absurd h (Nat.lt_irrefl _), fun _ => take_mark (hq.2 rfl) (by rw [ho.1]; omega)⟩
    · obtain ⟨ys, hy, hqy⟩ := hm.2 j v m hj
      refine ⟨ys, (owns_below hy hb).kept hS.2 ?_, fun h => hqy.1 h, fun h => absurd h hjk⟩
      cases hv : v.ownBlock with
      | none => exact Or.inl rfl
      | some g2 =>
        refine Or.inr fun h => ?_
        exact hI.apart j k v _ m n g2 hj hd hjk hv h.symm

theorem owns_type {w : World} {B n : Nat} {v : Value} {xs : List Value} (h : w.ownsRow B 25 5 v n xs) {g : Nat} (hg : v.ownBlock = some g) : ∃ cs, w.heap[g]? = some (.cells cs 25 (0, 0)) := by
  rcases h.2 with ⟨rfl, _⟩ | ⟨g', cap, cur, rfl, _, h, _⟩
  · cases hg
  · obtain rfl : g' = g := by simpa [Value.ownBlock] using hg
    exact ⟨cur, h⟩
theorem owns_not {w : World} {B n b : Nat} {v : Value} {xs : List Value} {cs : Array Value} (h : w.ownsRow B 25 5 v n xs) (hb : w.heap[b]? = some (.cells cs 23 (0, 0))) : v.ownBlock ≠ some b := by
  intro hv
  obtain ⟨ds, hd⟩ := owns_type h hv
  exact ne_of_type hb hd (by decide) rfl
/-- one list grows by marks -/
structure Gr4 (B b0 : Nat) (c0 : Array Value) (W0 : World) (k n : Nat) (v vi : Value) (i : Nat) (W : World) : Prop where
  b0 : W.heap[b0]? = some (.cells c0 23 (0, 0))
  chg : Chg (fun b => v.ownBlock = some b) W0 W
  ri : W.ownsRow B 25 5 vi (n + i) (mrow k (n + i))
  rv : W.ownsRow B 25 5 v n (mrow k n)
  or : vi.ownBlock = v.ownBlock ∨ ∃ g, vi.ownBlock = some g ∧ W0.heap.size ≤ g
theorem Gr4.below {B b0 : Nat} {c0 : Array Value} {W0 W W' : World} {k n i : Nat} {v vi : Value} (h : Gr4 B b0 c0 W0 k n v vi i W) (hb : Below W.heap.size W W') : Gr4 B b0 c0 W0 k n v vi i W' :=
  ⟨(hb.block b0 (Array.getElem?_eq_some_iff.1 h.b0).1).trans h.b0, h.chg.trans (Chg.of_below hb), owns_below h.ri hb, owns_below h.rv hb, h.or⟩
/-- what an append leaves of the old list -/
def Gone (W W' : World) (v v' : Value) (n m : Nat) : Prop :=
  ((∃ g cap, v = .slice (some ⟨g, 0, none⟩) n cap ∧ v' = .slice (some ⟨g, 0, none⟩) (n + m) cap ∧ W.grownBy W' (some g)) ∨ (∃ cap, v' = .slice (some ⟨W.heap.size, 0, none⟩) (n + m) cap ∧ Below W.heap.size W W'))
theorem Gr4.next {B b0 : Nat} {c0 : Array Value} {W0 W W' : World} {k n i m : Nat} {v vi v' : Value} {news : List Value} (h : Gr4 B b0 c0 W0 k n v vi i W) (h' : W'.ownsRow B 25 5 v' (n + i + m) (mrow k (n + i) ++ news)) (hg : Gone W W' vi v' (n + i) m) :
    W'.heap[b0]? = some (.cells c0 23 (0, 0)) ∧ Chg (fun b => v.ownBlock = some b) W0 W' ∧ W'.ownsRow B 25 5 v n (mrow k n) ∧ (v'.ownBlock = v.ownBlock ∨ ∃ g, v'.ownBlock = some g ∧ W0.heap.size ≤ g) := by
  obtain ⟨rest, hrest⟩ := mrow_pre k (Nat.le_add_right n i)
  rcases hg with ⟨g, cap, hvi, hv', hg⟩ | ⟨cap, hv', hb⟩
  · have hvo : vi.ownBlock = some g := by rw [hvi]; rfl
    have hgb : b0 ≠ g := fun e => owns_not h.ri h.b0 (by rw [hvo, e])
    have hF : v.ownBlock = some g ∨ W0.heap.size ≤ g := by
      rcases h.or with h1 | ⟨g', h1, h2⟩
      · exact Or.inl (h1.symm.trans hvo)
      · rw [hvo] at h1; injection h1 with h1; exact Or.inr (by omega)
    have hc : Chg (fun b => v.ownBlock = some b) W0 W' := by
      refine ⟨hg.os.trans h.chg.os, hg.tape.trans h.chg.tape, hg.output.trans h.chg.output, Nat.le_trans h.chg.size hg.size, fun b hb hf => ?_⟩
      refine (hg.block b (Nat.lt_of_lt_of_le hb h.chg.size) (fun e => ?_)).trans (h.chg.block b hb hf)
      injection e with e
      rcases hF with hF | hF
      · exact hf (by rw [e]; exact hF)
      · omega
    refine ⟨heap_grown hg h.b0 (by simpa using hgb), hc, ?_, ?_⟩
    · by_cases hvg : v.ownBlock = some g
      · rw [hv'] at h'
        refine owns_head (n' := n + i + m) (ys := rest ++ news) h.rv hvg h.ri hvi (by decide) ?_
        rw [← List.append_assoc, ← hrest]
        exact h'
      · exact owns_keep h.rv fun b hb => hg.block b (h.rv.lt b hb).2 (fun e => hvg (hb.trans e))
    · rw [hv']
      rcases hF with hF | hF
      · exact Or.inl hF.symm
      · exact Or.inr ⟨g, rfl, hF⟩
  · refine ⟨(hb.block b0 (Array.getElem?_eq_some_iff.1 h.b0).1).trans h.b0, h.chg.trans (Chg.of_below hb), owns_below h.rv hb, Or.inr ⟨W.heap.size, by rw [hv']; rfl, h.chg.size⟩⟩
end Go.Proofs.YtfpohaipmnjflaaGreatDoor
