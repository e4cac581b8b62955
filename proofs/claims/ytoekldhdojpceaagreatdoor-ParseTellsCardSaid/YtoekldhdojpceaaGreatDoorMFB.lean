/- Several texts joined, each with its own sentence and conditions ahead of it: FlatB, FlatC. -/
import Derived.Test.YtoekldhdojpceaaGreatDoorMF
import Derived.Test.YtoekldhdojpceaaGreatDoorME
import Derived.Test.YtoekldhdojpceaaGreatDoorMV
import Derived.Test.YtoekldhdojpceaaGreatDoorMR
/- Appending to a list of one's own, in both ways told apart; marks; lists that keep. No condition. -/
namespace Go.Proofs.YtoekldhdojpceaaGreatDoor
open Go.RowKit

section
variable {P : Program} (w : World)
theorem run_append_both (base : Nat) (t ty e : TypeId) (i : TypeInfo) (z : Value) (size bytes : Nat) (ht : P.underlying t = some (.slice e)) (hi : P.info? e = some i) (hz : i.zero = some z)
    (hsize : i.size = size) (hby : i.bytes = bytes) (hzs : z.cells.size = size) (hsz : 0 < size)
    (v : Value) (n : Nat) (xs : List Value) (hown : w.ownsRow base e size v n xs)
    (a : Addr) (m c : Nat) (news : List Value) (hl : news.length = m * size) (hnews : ∀ j u, news[j]? = some u → w.cell? (a.add j) = some u) (h1 : ∀ u ∈ news, u.oneCell' = true)
    (h63 : n + m ≤ maxLen) (hbytes : (n + m) * bytes ≤ 140737488355328) (hbase : base ≤ w.heap.size) (hm : 0 < m) :
    ∃ v' w', (Builtin.append_ #[t, t] ty #[v, .slice (some a) m c]).run P w = .ok v' w' ∧ w'.ownsRow base e size v' (n + m) (xs ++ news) ∧
      ((∃ g cap, v = .slice (some ⟨g, 0, none⟩) n cap ∧ v' = .slice (some ⟨g, 0, none⟩) (n + m) cap ∧ w.grownBy w' (some g)) ∨
       (∃ cap, v' = .slice (some ⟨w.heap.size, 0, none⟩) (n + m) cap ∧ Below w.heap.size w w')) := by
  subst hsize
  subst hby
  have hsmall : n + m ≤ 9223372036854775807 := by simp only [maxLen] at h63; omega
  have hlen : (xs ++ news).length = (n + m) * i.size := by rw [List.length_append, hown.1, hl, Nat.add_mul]
  have grown : ∀ (old : Nat), old < n + m →
      (w.drew.alloc (.cells (xs.toArray ++ news.toArray ++ Builtin.zeroCells z.cells (grownCap w (n + m) old e - (n + m))) e)).ownsRow base e i.size
        (.slice (some ⟨w.heap.size, 0, none⟩) (n + m) (grownCap w (n + m) old e)) (n + m) (xs ++ news) ∧
      Below w.heap.size w (w.drew.alloc (.cells (xs.toArray ++ news.toArray ++ Builtin.zeroCells z.cells (grownCap w (n + m) old e - (n + m))) e)) := by
    intro old ho
    have hge := grownCap_ge w (n + m) old e
    have hcm : grownCap w (n + m) old e ≤ maxLen := grownCap_le_maxLen w (n + m) old e h63
    refine ⟨⟨hlen, .inr ⟨w.heap.size, _, _, rfl, hbase, heap_alloc_new w.drew _, hge, hcm, ?_, ?_⟩⟩, (Below.refl _ w).drew.alloc (Nat.le_refl _) _⟩
    · simp only [Array.size_append, List.size_toArray, size_zeroCells, hzs, hown.1, hl, ← Nat.add_mul]
      congr 1
      omega
    · simp only [Array.toList_append, List.append_assoc]
      rw [← List.append_assoc, ← hlen]
      exact List.take_left
  rcases hown.2 with ⟨rfl, rfl⟩ | ⟨g, cap, cur, rfl, hbg, hg, hnc, hcm, hcs, htake⟩
  · have hx : xs = [] := List.eq_nil_of_length_eq_zero (by simpa using hown.1)
    subst hx
    have hr := run_append_nil (P := P) w t ty e i z ht hi hz a m c news hl hnews (by omega) (by omega) (by have hb := hbytes; simp only [Nat.zero_add] at hb; omega)
    have hgr := grown 0 (by omega)
    simp only [Nat.zero_add, List.nil_append, Array.empty_append] at hgr ⊢
    exact ⟨_, _, hr, hgr.1, Or.inr ⟨_, rfl, hgr.2⟩⟩
  · by_cases hroom : n + m ≤ cap
    · have hfit : n * i.size + news.length ≤ cur.size := by rw [hl, hcs, ← Nat.add_mul]; exact Nat.mul_le_mul_right _ hroom
      have hr := run_append_room (P := P) w t ty e i ht hi g n cap cur hg a m c news hl hnews h1 hroom hfit
      refine ⟨_, _, hr, ⟨hlen, .inr ⟨g, cap, _, rfl, hbg, setRow_heap w g cur _ e _ hg, hroom, hcm, ?_, ?_⟩⟩, Or.inl ⟨g, cap, rfl, rfl, ⟨rfl, rfl, rfl, by simp, fun k _ hk => setRow_other w g k _ (fun e => hk (by simp [e]))⟩⟩⟩
      · simp only [List.size_toArray, List.length_append, List.length_take, List.length_drop, Array.length_toList]
        omega
      · rw [htake, ← hlen]
        exact List.take_left
    · have holds : ∀ j u, xs[j]? = some u → w.cell? ((⟨g, 0, none⟩ : Addr).add j) = some u := hown.cells (g := g) rfl
      have hr := run_append_grow (P := P) w t ty e i z ht hi hz ⟨g, 0, none⟩ n cap xs hown.1 holds a m c news hl hnews (by omega) (by omega) (growslice_fits (by omega) hbytes)
      have hgr := grown cap (by omega)
      exact ⟨_, _, hr, hgr.1, Or.inr ⟨_, rfl, hgr.2⟩⟩
theorem wpList_append_both {ops : Array Oper} {rest : List Oper} {o : Oper} {a : Act} {Q : Exit → Act → World → Prop} (hgd : o.guard = none) (s x : Operand) (t : TypeId)
    (ho : o.op = .call { callee := .builtin .append, args := #[s, x], argTypes := #[t, t] })
    (base : Nat) (e : TypeId) (i : TypeInfo) (z : Value) (size bytes : Nat) (ht : P.underlying t = some (.slice e)) (hi : P.info? e = some i) (hz : i.zero = some z)
    (hsize : i.size = size) (hby : i.bytes = bytes) (hzs : z.cells.size = size) (hsz : 0 < size)
    (v : Value) (n : Nat) (xs : List Value) (hs : a.eval s = v) (hown : w.ownsRow base e size v n xs)
    (ad : Addr) (m c : Nat) (news : List Value) (hx : a.eval x = .slice (some ad) m c) (hl : news.length = m * size) (hnews : ∀ j u, news[j]? = some u → w.cell? (ad.add j) = some u) (h1 : ∀ u ∈ news, u.oneCell' = true)
    (h63 : n + m ≤ maxLen) (hbytes : (n + m) * bytes ≤ 140737488355328) (hbase : base ≤ w.heap.size) (hm : 0 < m)
    (h : ∀ v' w', w'.ownsRow base e size v' (n + m) (xs ++ news) →
      ((∃ g cap, v = .slice (some ⟨g, 0, none⟩) n cap ∧ v' = .slice (some ⟨g, 0, none⟩) (n + m) cap ∧ w.grownBy w' (some g)) ∨ (∃ cap, v' = .slice (some ⟨w.heap.size, 0, none⟩) (n + m) cap ∧ Below w.heap.size w w')) →
      wpList P ops Q rest (a.put o.dst v') w') :
    wpList P ops Q (o :: rest) a w := by
  refine wpList_plain hgd fun K hK => ?_
  obtain ⟨v', w', hr, h2, h3⟩ := run_append_both (P := P) w base t o.type e i z size bytes ht hi hz hsize hby hzs hsz v n xs hown ad m c news hl hnews h1 h63 hbytes hbase hm
  unfold Oper.wp execOp
  simp only [ho, resolve, invoke, builtin, Sem.run_bind, Sem.run_pure, Result.andThen_ok, List.map_toArray, List.map_cons, List.map_nil, hs, hx, hr]
  exact hK _ _ (h v' w' h2 h3)
end

/-! marks -/
def mkA (k i : Nat) : Int := 1000003 * ((k : Int) + 7) + i
def mkT (k i : Nat) : Tree := .mk 0 ⟨#[]⟩ 0 (mkA k i) []
def mkC (k i : Nat) : List Value := nodeCells (mkT k i) (.slice none 0 0)
def mrow (k n : Nat) : List Value := (List.range n).flatMap (mkC k)
theorem mkC_len (k i : Nat) : (mkC k i).length = 5 := rfl
theorem mrow_succ (k n : Nat) : mrow k (n + 1) = mrow k n ++ mkC k n := by
  unfold mrow
  rw [List.range_succ, List.flatMap_append, List.flatMap_cons, List.flatMap_nil, List.append_nil]
theorem mrow_len (k : Nat) : ∀ n, (mrow k n).length = n * 5 := by
  intro n
  induction n with
  | zero => rfl
  | succ n ih => rw [mrow_succ, List.length_append, ih, mkC_len]; omega
theorem mrow_get (k : Nat) {i n m : Nat} {u : Value} (hi : i < n) (hm : (mkC k i)[m]? = some u) : (mrow k n)[i * 5 + m]? = some u := by
  have hm5 : m < 5 := (List.getElem?_eq_some_iff.1 hm).1
  induction n with
  | zero => omega
  | succ n ih =>
    rw [mrow_succ]
    by_cases h : i < n
    · rw [List.getElem?_append_left (by rw [mrow_len]; omega)]
      exact ih h
    · obtain rfl : i = n := by omega
      rw [List.getElem?_append_right (by rw [mrow_len]; omega), mrow_len, show i * 5 + m - i * 5 = m by omega]
      exact hm
theorem mrow_pre (k : Nat) {i n : Nat} (h : i ≤ n) : ∃ ys, mrow k n = mrow k i ++ ys := by
  induction n with
  | zero => obtain rfl : i = 0 := by omega
            exact ⟨[], rfl⟩
  | succ n ih =>
    by_cases h' : i ≤ n
    · obtain ⟨ys, hy⟩ := ih h'
      exact ⟨ys ++ mkC k n, by rw [mrow_succ, hy, List.append_assoc]⟩
    · obtain rfl : i = n + 1 := by omega
      exact ⟨[], by rw [List.append_nil]⟩
theorem mk_any (k i : Nat) (w : World) (hk : k ≤ 1000000) (hi : i ≤ 1000000) : Calls Tryz.prog 157 #[.int .i64 k, .int .i64 i] w fun e w' => e = .returned (.int .i64 (mkA k i)) ∧ w = w' := by
  have h0 : (0 : Int) ≤ i := by omega
  have h1 : (i : Int) ≤ 1000000 := by omega
  have h2 : (0 : Int) ≤ k := by omega
  have h3 : (k : Int) ≤ 1000000 := by omega
  clear hk hi
  go_enter Tryz.func157, Tryz.ntmps157
  go_wp2
  go_ret
  exact ⟨rfl, rfl⟩
def mkV (k i : Nat) : Value := .agg #[.int .u8 0, .string ⟨#[]⟩, .int .i64 0, .int .i64 (mkA k i), .slice none 0 0]
theorem mkNode_any (k i : Nat) (w : World) (hk : k ≤ 1000000) (hi : i ≤ 1000000) :
    Calls Tryz.prog 136 #[.int .i64 k, .int .i64 i] w fun e w' => e = .returned (mkV k i) ∧ Below w.heap.size w w' := by
  have HM := Lib.hid (fun W => mk_any k i W hk hi)
  clear hk hi
  go_enter Tryz.func136, Tryz.ntmps136
  go_wp2_with (first
    | (go_at_call 157; refine Calls.mono (HM.out _) ?_; rintro e w' ⟨rfl, rfl⟩))
  exact markNode_fin _ _ w.heap.size _ _ _ _ _ (heap_alloc_new w _) _ rfl ⟨rfl, (Below.refl _ w).alloc (Nat.le_refl _) _⟩
theorem sameMark (k i : Nat) (w : World) (hk : k ≤ 1000000) (hi : i ≤ 1000000) : Calls Tryz.prog 48 #[mkV k i, mkV k i] w fun e w' => e = .returned (.bool true) ∧ Below w.heap.size w w' := by
  have hf : Fits (mkT k i) := by
    refine ⟨by show (0 : Nat) < 256; omega, by show (0 : Nat) ≤ maxLen; omega, by show (-9223372036854775808 : Int) ≤ 0; omega, by show (0 : Int) < 9223372036854775808; omega, ?_, ?_⟩
    · show (-9223372036854775808 : Int) ≤ mkA k i; unfold mkA; omega
    · show mkA k i < (9223372036854775808 : Int); unfold mkA; omega
  have hn : NodeAt w w.heap.size 0 (mkT k i) (mkV k i) := ⟨hf, .slice none 0 0, rfl, rfl, none, 0, rfl⟩
  exact sameNode_of 0 (sameNodes_holds 0) (mkT k i) (mkV k i) (mkV k i) _ _ w hn hn (Nat.le_refl _) (Nat.le_refl _)

/-! lists that keep -/
theorem owns_keep {w w' : World} {B : Nat} {e : TypeId} {z n : Nat} {v : Value} {xs : List Value} (h : w.ownsRow B e z v n xs) (hk : ∀ g, v.ownBlock = some g → w'.heap[g]? = w.heap[g]?) : w'.ownsRow B e z v n xs := by
  refine ⟨h.1, ?_⟩
  rcases h.2 with hn | ⟨g, cap, cur, rfl, hb, hg, rest⟩
  · exact Or.inl hn
  · exact Or.inr ⟨g, cap, cur, rfl, hb, (hk g rfl).trans hg, rest⟩
theorem owns_below {w w' : World} {B : Nat} {e : TypeId} {z n : Nat} {v : Value} {xs : List Value} (h : w.ownsRow B e z v n xs) (hb : Below w.heap.size w w') : w'.ownsRow B e z v n xs :=
  owns_keep h fun g hg => hb.block g (h.lt g hg).2
/-- a list whose block a longer list of the same room has kept the head of -/
theorem owns_head {w w' : World} {B g : Nat} {e : TypeId} {z n n' cap : Nat} {v : Value} {xs ys : List Value} (h : w.ownsRow B e z v n xs) (hv : v.ownBlock = some g)
    {v1 : Value} {n1 : Nat} {zs : List Value} (h1 : w.ownsRow B e z v1 n1 zs) (hv1 : v1 = .slice (some ⟨g, 0, none⟩) n1 cap) (hz : 0 < z)
    (h' : w'.ownsRow B e z (.slice (some ⟨g, 0, none⟩) n' cap) n' (xs ++ ys)) : w'.ownsRow B e z v n xs := by
  refine ⟨h.1, ?_⟩
  rcases h.2 with ⟨rfl, _⟩ | ⟨g2, cap2, cur, rfl, hb, hg, hnc, hcm, hcs, htk⟩
  · cases hv
  · obtain rfl : g2 = g := by simpa [Value.ownBlock] using hv
    rcases h1.2 with ⟨rfl, _⟩ | ⟨g3, cap3, cur3, rfl, hb3, hg3, _, _, hcs3, _⟩
    · cases hv1
    · simp only [Value.slice.injEq, Option.some.injEq, Addr.mk.injEq, and_true, true_and] at hv1
      obtain ⟨rfl, rfl⟩ := hv1
      rw [hg] at hg3
      simp only [Option.some.injEq, Obj.cells.injEq, and_true] at hg3
      subst hg3
      have hcc : cap2 = cap3 := Nat.eq_of_mul_eq_mul_right hz (hcs.symm.trans hcs3)
      subst hcc
      rcases h'.2 with ⟨h0, _⟩ | ⟨g4, cap4, cur4, h4, hb4, hg4, _, _, hcs4, htk4⟩
      · cases h0
      · simp only [Value.slice.injEq, Option.some.injEq, Addr.mk.injEq, and_true, true_and] at h4
        obtain ⟨rfl, rfl⟩ := h4
        refine Or.inr ⟨_, cap2, cur4, rfl, hb, hg4, hnc, hcm, hcs4, ?_⟩
        have hle : n * z ≤ n' * z := by rw [← h.1, ← h'.1, List.length_append]; omega
        rw [← Nat.min_eq_left hle, ← List.take_take, htk4, ← h.1]
        exact List.take_left
end Go.Proofs.YtoekldhdojpceaaGreatDoor
/- Lists of nodes lie apart: what the walk keeps. No condition. -/
namespace Go.Proofs.YtoekldhdojpceaaGreatDoor
open Go.RowKit

theorem owns_shape {w : World} {B n : Nat} {v : Value} {xs : List Value} (h : w.ownsRow B 25 5 v n xs) : ∃ p c, v = .slice p n c := by
  rcases h.2 with ⟨rfl, rfl⟩ | ⟨g, cap, cur, rfl, _⟩
  · exact ⟨none, 0, rfl⟩
  · exact ⟨_, cap, rfl⟩
theorem owns_pos {w : World} {B n : Nat} {v : Value} {xs : List Value} (h : w.ownsRow B 25 5 v n xs) (hn : 0 < n) : ∃ g c, v = .slice (some ⟨g, 0, none⟩) n c ∧ n ≤ c := by
  rcases h.2 with ⟨rfl, rfl⟩ | ⟨g, cap, cur, rfl, _, _, hc, _⟩
  · omega
  · exact ⟨g, cap, rfl, hc⟩
/-- the lists, each in a block of its own, and the list of them -/
def Fm (B b0 : Nat) (c0 : Array Value) (D : List (Value × Nat)) (q : Nat → Nat → List Value → Prop) (W : World) : Prop :=
  W.heap[b0]? = some (.cells c0 23 (0, 0)) ∧ ∀ k v n, D[k]? = some (v, n) → ∃ xs, W.ownsRow B 25 5 v n xs ∧ q k n xs
structure FIn (B b0 : Nat) (c0 : Array Value) (D : List (Value × Nat)) : Prop where
  N : D.length ≤ 100000
  n : ∀ (k : Nat) (v : Value) (n : Nat), D[k]? = some (v, n) → n ≤ 20000
  at_ : ∀ (k : Nat) (v : Value) (n : Nat), D[k]? = some (v, n) → c0[k]? = some v
  apart : ∀ (i j : Nat) (v u : Value) (n m g : Nat), D[i]? = some (v, n) → D[j]? = some (u, m) → i ≠ j → v.ownBlock = some g → u.ownBlock ≠ some g
/-- marked so far: the lists ahead of the k-th, and the first i of that -/
def q1 (k i : Nat) (j n : Nat) (xs : List Value) : Prop := (j < k → xs = mrow j n) ∧ (j = k → xs.take (i * 5) = mrow k i)
/-- the blocks of the lists -/
def Dg (D : List (Value × Nat)) (b : Nat) : Prop := ∃ (k : Nat) (v : Value) (n : Nat), D[k]? = some (v, n) ∧ v.ownBlock = some b
def M1Rel (B b0 : Nat) (c0 : Array Value) (D : List (Value × Nat)) (w : World) (i : Value) (W : World) : Prop :=
  ∃ (W1 : World) (k : Nat), W1 = W ∧ k ≤ D.length ∧ i = .int .i64 k ∧ Chg (Dg D) w W1 ∧ B ≤ W1.heap.size ∧ Fm B b0 c0 D (q1 k 0) W1
def M2Rel (B b0 : Nat) (c0 : Array Value) (D : List (Value × Nat)) (w : World) (k n : Nat) (i : Value) (W : World) : Prop :=
  ∃ (W1 : World) (j : Nat), W1 = W ∧ j ≤ n ∧ i = .int .i64 j ∧ Chg (Dg D) w W1 ∧ B ≤ W1.heap.size ∧ Fm B b0 c0 D (q1 k j) W1
theorem set5_low (xs : List Value) (b j : Nat) (hj : j < b) (v0 v1 v2 v3 v4 : Value) : (((((xs.set b v0).set (b + 1) v1).set (b + 2) v2).set (b + 3) v3).set (b + 4) v4)[j]? = xs[j]? := by
  rw [List.getElem?_set_ne (by omega), List.getElem?_set_ne (by omega), List.getElem?_set_ne (by omega), List.getElem?_set_ne (by omega), List.getElem?_set_ne (by omega)]
theorem set5_at (xs : List Value) (b : Nat) (hb : b + 5 ≤ xs.length) (v0 v1 v2 v3 v4 : Value) {m : Nat} {u : Value} (hm : [v0, v1, v2, v3, v4][m]? = some u) : (((((xs.set b v0).set (b + 1) v1).set (b + 2) v2).set (b + 3) v3).set (b + 4) v4)[b + m]? = some u := by
  match m, hm with
  | 0, hm => cases hm; rw [List.getElem?_set_ne (by omega), List.getElem?_set_ne (by omega), List.getElem?_set_ne (by omega), List.getElem?_set_ne (by omega)]; exact List.getElem?_set_self (by omega)
  | 1, hm => cases hm; rw [List.getElem?_set_ne (by omega), List.getElem?_set_ne (by omega), List.getElem?_set_ne (by omega)]; exact List.getElem?_set_self (by simp; omega)
  | 2, hm => cases hm; rw [List.getElem?_set_ne (by omega), List.getElem?_set_ne (by omega)]; exact List.getElem?_set_self (by simp; omega)
  | 3, hm => cases hm; rw [List.getElem?_set_ne (by omega)]; exact List.getElem?_set_self (by simp; omega)
  | 4, hm => cases hm; exact List.getElem?_set_self (by simp; omega)
/-- the five stores of a node -/
def stored5 (W : World) (g b : Nat) (v0 v1 v2 v3 v4 : Value) : World := ((((W.setCell ⟨g, b, none⟩ v0).setCell ⟨g, b + 1, none⟩ v1).setCell ⟨g, b + 2, none⟩ v2).setCell ⟨g, b + 3, none⟩ v3).setCell ⟨g, b + 4, none⟩ v4
theorem owns_stored5 {W : World} {B g n cap : Nat} {e : TypeId} {xs : List Value} (h : W.ownsRow B e 5 (.slice (some ⟨g, 0, none⟩) n cap) n xs) (b : Nat) (v0 v1 v2 v3 v4 : Value) :
    (stored5 W g b v0 v1 v2 v3 v4).ownsRow B e 5 (.slice (some ⟨g, 0, none⟩) n cap) n (((((xs.set b v0).set (b + 1) v1).set (b + 2) v2).set (b + 3) v3).set (b + 4) v4) ∧ W.grownBy (stored5 W g b v0 v1 v2 v3 v4) (some g) := by
  have a0 := h.stored b v0
  have a1 := a0.1.stored (b + 1) v1
  have a2 := a1.1.stored (b + 2) v2
  have a3 := a2.1.stored (b + 3) v3
  have a4 := a3.1.stored (b + 4) v4
  exact ⟨a4.1, (((a0.2.trans a1.2).trans a2.2).trans a3.2).trans a4.2⟩
theorem take_mark {xs : List Value} {k i : Nat} (h : xs.take (i * 5) = mrow k i) (hl : i * 5 + 5 ≤ xs.length) :
    (((((xs.set (i * 5) (.int .u8 0)).set (i * 5 + 1) (.string ⟨#[]⟩)).set (i * 5 + 2) (.int .i64 0)).set (i * 5 + 3) (.int .i64 (mkA k i))).set (i * 5 + 4) (.slice none 0 0)).take ((i + 1) * 5) = mrow k (i + 1) := by
  apply List.ext_getElem?
  intro j
  rw [List.getElem?_take]
  by_cases h5 : j < (i + 1) * 5
  · rw [if_pos h5, mrow_succ]
    by_cases hj : j < i * 5
    · rw [set5_low _ _ _ hj, List.getElem?_append_left (by rw [mrow_len]; exact hj), ← h, List.getElem?_take, if_pos hj]
    · obtain ⟨m, rfl⟩ : ∃ m, j = i * 5 + m := ⟨j - i * 5, by omega⟩
      have hm : m < (mkC k i).length := by rw [mkC_len]; omega
      rw [List.getElem?_append_right (by rw [mrow_len]; omega), mrow_len, show i * 5 + m - i * 5 = m by omega]
      rw [List.getElem?_eq_getElem hm]
      exact set5_at xs (i * 5) hl _ _ _ _ _ (List.getElem?_eq_getElem hm)
  · rw [if_neg h5, List.getElem?_eq_none (by rw [mrow_len]; omega)]
theorem M2Rel.step {B b0 : Nat} {c0 : Array Value} {D : List (Value × Nat)} {W2 W3 : World} {k n i g c : Nat} (hI : FIn B b0 c0 D) (hd : D[k]? = some (.slice (some ⟨g, 0, none⟩) n c, n)) (hi : i < n) (hm : Fm B b0 c0 D (q1 k i) W2) (hb : Below W2.heap.size W2 W3) :
    Fm B b0 c0 D (q1 k (i + 1)) (stored5 W3 g (i * 5) (.int .u8 0) (.string ⟨#[]⟩) (.int .i64 0) (.int .i64 (mkA k i)) (.slice none 0 0)) := by
  obtain ⟨xs, ho, hq⟩ := hm.2 k _ n hd
  have ho3 := owns_below ho hb
  have hS := owns_stored5 ho3 (i * 5) (.int .u8 0) (.string ⟨#[]⟩) (.int .i64 0) (.int .i64 (mkA k i)) (.slice none 0 0)
  obtain ⟨g', cap', cur, hsl, _, hg, _⟩ := ho.2.resolve_left (by rintro ⟨h, _⟩; cases h)
  obtain rfl : g = g' := by
    simp only [Value.slice.injEq, Option.some.injEq, Addr.mk.injEq, and_true, true_and] at hsl
    exact hsl.1
  have hne : b0 ≠ g := ne_of_type hm.1 hg (by decide)
  refine ⟨?_, fun j v m hj => ?_⟩
  · have h1 : W3.heap[b0]? = some (.cells c0 23 (0, 0)) := (hb.block b0 (Array.getElem?_eq_some_iff.1 hm.1).1).trans hm.1
    exact heap_grown hS.2 h1 (by simpa using hne)
  · by_cases hjk : j = k
    · subst hjk
      rw [hd] at hj
      simp only [Option.some.injEq, Prod.mk.injEq] at hj
      obtain ⟨rfl, rfl⟩ := hj
      exact ⟨_, hS.1, fun h => absurd h (Nat.lt_irrefl _), fun _ => take_mark (hq.2 rfl) (by rw [ho.1]; omega)⟩
    · obtain ⟨ys, hy, hqy⟩ := hm.2 j v m hj
      refine ⟨ys, (owns_below hy hb).kept hS.2 ?_, fun h => hqy.1 h, fun h => absurd h hjk⟩
      cases hv : v.ownBlock with
      | none => exact Or.inl rfl
      | some g2 =>
        refine Or.inr fun h => ?_
        exact hI.apart j k v _ m n g2 hj hd hjk hv h.symm

/-- the list of grown lists, the first k of them grown -/
def Gs (B b1 : Nat) (D : List (Value × Nat)) (k : Nat) (q : Nat → Nat → List Value → Prop) (W : World) : Prop :=
  ∃ c1 : Array Value, W.heap[b1]? = some (.cells c1 23 (0, 0)) ∧ c1.size = D.length ∧ ∀ (j : Nat) (v : Value) (n : Nat), j < k → D[j]? = some (v, n) → ∃ (v' : Value) (ys : List Value), c1[j]? = some v' ∧ W.ownsRow B 25 5 v' (n + 64) ys ∧ q j n ys ∧
    (v'.ownBlock = v.ownBlock ∨ ∀ (i : Nat) (u : Value) (m : Nat), D[i]? = some (u, m) → u.ownBlock ≠ v'.ownBlock)
def qM (j n : Nat) (xs : List Value) : Prop := xs = mrow j n
theorem owns_type {w : World} {B n : Nat} {v : Value} {xs : List Value} (h : w.ownsRow B 25 5 v n xs) {g : Nat} (hg : v.ownBlock = some g) : ∃ cs, w.heap[g]? = some (.cells cs 25 (0, 0)) := by
  rcases h.2 with ⟨rfl, _⟩ | ⟨g', cap, cur, rfl, _, h, _⟩
  · cases hg
  · obtain rfl : g' = g := by simpa [Value.ownBlock] using hg
    exact ⟨cur, h⟩
theorem owns_not {w : World} {B n b : Nat} {v : Value} {xs : List Value} {cs : Array Value} (h : w.ownsRow B 25 5 v n xs) (hb : w.heap[b]? = some (.cells cs 23 (0, 0))) : v.ownBlock ≠ some b := by
  intro hv
  obtain ⟨ds, hd⟩ := owns_type h hv
  exact ne_of_type hb hd (by decide) rfl
theorem owns_chg {w w' : World} {B n : Nat} {v : Value} {xs : List Value} {F : Nat → Prop} (h : w.ownsRow B 25 5 v n xs) (hc : Chg F w w') (hn : ∀ g, v.ownBlock = some g → ¬ F g) : w'.ownsRow B 25 5 v n xs :=
  owns_keep h fun g hg => hc.block g (h.lt g hg).2 (hn g hg)
theorem gs_next {B b0 b1 : Nat} {c0 : Array Value} {D : List (Value × Nat)} {q : Nat → Nat → List Value → Prop} {W0 W2 : World} {k n : Nat} {v v' : Value} {ys : List Value} (hI : FIn B b0 c0 D) (hne : b0 ≠ b1)
    (hm : Fm B b0 c0 D qM W0) (hg : Gs B b1 D k q W0) (hd : D[k]? = some (v, n)) (hc : Chg (fun b => v.ownBlock = some b) W0 W2) (hv : W2.ownsRow B 25 5 v n (mrow k n)) (hv' : W2.ownsRow B 25 5 v' (n + 64) ys) (hq : q k n ys)
    (ho : v'.ownBlock = v.ownBlock ∨ ∃ g, v'.ownBlock = some g ∧ W0.heap.size ≤ g) :
    Fm B b0 c0 D qM (W2.setCell ⟨b1, k, none⟩ v') ∧ Gs B b1 D (k + 1) q (W2.setCell ⟨b1, k, none⟩ v') := by
  obtain ⟨c1, h1, hs1, hj1⟩ := hg
  obtain ⟨xs0, hv0, _⟩ := hm.2 k v n hd
  have hk : k < D.length := (List.getElem?_eq_some_iff.1 hd).1
  have hb0 : W2.heap[b0]? = some (.cells c0 23 (0, 0)) := (hc.block b0 (Array.getElem?_eq_some_iff.1 hm.1).1 (owns_not hv0 hm.1)).trans hm.1
  have hb1 : W2.heap[b1]? = some (.cells c1 23 (0, 0)) := (hc.block b1 (Array.getElem?_eq_some_iff.1 h1).1 (owns_not hv0 h1)).trans h1
  have keep : ∀ {u : Value} {m : Nat} {zs : List Value}, W2.ownsRow B 25 5 u m zs → (W2.setCell ⟨b1, k, none⟩ v').ownsRow B 25 5 u m zs := fun {u m zs} h => owns_keep h fun g hg => heap_setCell_other _ _ _ _ (by rintro rfl; exact owns_not h hb1 hg)
  refine ⟨⟨(heap_setCell_other _ _ _ _ hne).trans hb0, fun j u m hj => ?_⟩, c1.setIfInBounds k v', heap_set hb1 _ _, by simpa using hs1, fun j u m hjk hj => ?_⟩
  · by_cases hjk : j = k
    · subst hjk
      rw [hd] at hj
      simp only [Option.some.injEq, Prod.mk.injEq] at hj
      obtain ⟨rfl, rfl⟩ := hj
      exact ⟨_, keep hv, rfl⟩
    · obtain ⟨zs, hz, hqz⟩ := hm.2 j u m hj
      exact ⟨zs, keep (owns_chg hz hc fun g hg hf => hI.apart j k u v m n g hj hd hjk hg hf), hqz⟩
  · by_cases hjk : j = k
    · subst hjk
      rw [hd] at hj
      simp only [Option.some.injEq, Prod.mk.injEq] at hj
      obtain ⟨rfl, rfl⟩ := hj
      refine ⟨v', ys, by simp [hs1, hk], keep hv', hq, ?_⟩
      rcases ho with ho | ⟨g, hg, hsz⟩
      · exact Or.inl ho
      · refine Or.inr fun i u m hu he => ?_
        obtain ⟨zs, hz, _⟩ := hm.2 i u m hu
        have := (hz.lt g (he.trans hg)).2
        omega
    · obtain ⟨u', zs, hu', hz, hqz, hor⟩ := hj1 j u m (by omega) hj
      refine ⟨u', zs, by rw [Array.getElem?_setIfInBounds_ne (Ne.symm hjk)]; exact hu', keep (owns_chg hz hc fun g hg hf => ?_), hqz, hor⟩
      rcases hor with h | h
      · exact hI.apart j k u v m n g hj hd hjk (h.symm.trans hg) hf
      · exact h k v n hd (hf.trans hg.symm)
/-- one list grows by marks -/
structure Gr4 (B b0 : Nat) (c0 : Array Value) (W0 : World) (k n : Nat) (v vi : Value) (i : Nat) (W : World) : Prop where
  b0 : W.heap[b0]? = some (.cells c0 23 (0, 0))
  chg : Chg (fun b => v.ownBlock = some b) W0 W
  ri : W.ownsRow B 25 5 vi (n + i) (mrow k (n + i))
  rv : W.ownsRow B 25 5 v n (mrow k n)
  or : vi.ownBlock = v.ownBlock ∨ ∃ g, vi.ownBlock = some g ∧ W0.heap.size ≤ g
theorem Gr4.below {B b0 : Nat} {c0 : Array Value} {W0 W W' : World} {k n i : Nat} {v vi : Value} (h : Gr4 B b0 c0 W0 k n v vi i W) (hb : Below W.heap.size W W') : Gr4 B b0 c0 W0 k n v vi i W' :=
  ⟨(hb.block b0 (Array.getElem?_eq_some_iff.1 h.b0).1).trans h.b0, h.chg.trans (Chg.of_below hb), owns_below h.ri hb, owns_below h.rv hb, h.or⟩
/-- what an append leaves of the old list -/
def Gone (W W' : World) (v v' : Value) (n m : Nat) : Prop :=
  ((∃ g cap, v = .slice (some ⟨g, 0, none⟩) n cap ∧ v' = .slice (some ⟨g, 0, none⟩) (n + m) cap ∧ W.grownBy W' (some g)) ∨ (∃ cap, v' = .slice (some ⟨W.heap.size, 0, none⟩) (n + m) cap ∧ Below W.heap.size W W'))
theorem gone_chg {m n : Nat} {w W W' : World} {v v' : Value} {F : Nat → Prop} (hw : Chg F w W) (hF : ∀ g, v.ownBlock = some g → F g ∨ w.heap.size ≤ g) (h : Gone W W' v v' n m) : Chg F w W' := by
  rcases h with ⟨g, cap, rfl, _, hg⟩ | ⟨cap, _, hb⟩
  · refine ⟨hg.os.trans hw.os, hg.tape.trans hw.tape, hg.output.trans hw.output, Nat.le_trans hw.size hg.size, fun b hb hf => ?_⟩
    refine (hg.block b (Nat.lt_of_lt_of_le hb hw.size) fun e => ?_).trans (hw.block b hb hf)
    injection e with e
    rcases hF g rfl with h | h
    · exact hf (by rw [e]; exact h)
    · omega
  · exact hw.trans (Chg.of_below hb)
theorem Gr4.next {B b0 : Nat} {c0 : Array Value} {W0 W W' : World} {k n i m : Nat} {v vi v' : Value} {news : List Value} (h : Gr4 B b0 c0 W0 k n v vi i W) (h' : W'.ownsRow B 25 5 v' (n + i + m) (mrow k (n + i) ++ news)) (hg : Gone W W' vi v' (n + i) m) :
    W'.heap[b0]? = some (.cells c0 23 (0, 0)) ∧ Chg (fun b => v.ownBlock = some b) W0 W' ∧ W'.ownsRow B 25 5 v n (mrow k n) ∧ (v'.ownBlock = v.ownBlock ∨ ∃ g, v'.ownBlock = some g ∧ W0.heap.size ≤ g) := by
  obtain ⟨rest, hrest⟩ := mrow_pre k (Nat.le_add_right n i)
  rcases hg with ⟨g, cap, hvi, hv', hg⟩ | ⟨cap, hv', hb⟩
  · have hvo : vi.ownBlock = some g := by rw [hvi]; rfl
    have hgb : b0 ≠ g := fun e => owns_not h.ri h.b0 (by rw [hvo, e])
    have hF : v.ownBlock = some g ∨ W0.heap.size ≤ g := by
      rcases h.or with h1 | ⟨g', h1, h2⟩
      · exact Or.inl (h1.symm.trans hvo)
      · rw [hvo] at h1; injection h1 with h1; exact Or.inr (by omega)
    have hc : Chg (fun b => v.ownBlock = some b) W0 W' := by
      refine ⟨hg.os.trans h.chg.os, hg.tape.trans h.chg.tape, hg.output.trans h.chg.output, Nat.le_trans h.chg.size hg.size, fun b hb hf => ?_⟩
      refine (hg.block b (Nat.lt_of_lt_of_le hb h.chg.size) (fun e => ?_)).trans (h.chg.block b hb hf)
      injection e with e
      rcases hF with hF | hF
      · exact hf (by rw [e]; exact hF)
      · omega
    refine ⟨heap_grown hg h.b0 (by simpa using hgb), hc, ?_, ?_⟩
    · by_cases hvg : v.ownBlock = some g
      · rw [hv'] at h'
        refine owns_head (n' := n + i + m) (ys := rest ++ news) h.rv hvg h.ri hvi (by decide) ?_
        rw [← List.append_assoc, ← hrest]
        exact h'
      · exact owns_keep h.rv fun b hb => hg.block b (h.rv.lt b hb).2 (fun e => hvg (hb.trans e))
    · rw [hv']
      rcases hF with hF | hF
      · exact Or.inl hF.symm
      · exact Or.inr ⟨g, rfl, hF⟩
  · refine ⟨(hb.block b0 (Array.getElem?_eq_some_iff.1 h.b0).1).trans h.b0, h.chg.trans (Chg.of_below hb), owns_below h.rv hb, Or.inr ⟨W.heap.size, by rw [hv']; rfl, h.chg.size⟩⟩
def A3Rel (B b0 b1 : Nat) (c0 : Array Value) (D : List (Value × Nat)) (w : World) (i : Value) (W : World) : Prop :=
  ∃ (W1 : World) (k : Nat), W1 = W ∧ k ≤ D.length ∧ i = .int .i64 k ∧ Chg (Dg D) w W1 ∧ B ≤ W1.heap.size ∧ Fm B b0 c0 D qM W1 ∧ Gs B b1 D k (fun j n ys => ys = mrow j (n + 64)) W1
def A4Rel (B b0 : Nat) (c0 : Array Value) (D : List (Value × Nat)) (w W0 : World) (k n : Nat) (v g i : Value) (W : World) : Prop :=
  ∃ (W1 : World) (j : Nat), W1 = W ∧ j ≤ 64 ∧ i = .int .i64 j ∧ Chg (Dg D) w W1 ∧ B ≤ W1.heap.size ∧ Gr4 B b0 c0 W0 k n v g j W1
theorem cells_there {W : World} {B g n cap : Nat} {e : TypeId} {xs : List Value} (h : W.ownsRow B e 5 (.slice (some ⟨g, 0, none⟩) n cap) n xs) (b : Nat) (hb : b + 5 ≤ n * 5) :
    (∃ a, W.cell? ⟨g, b, none⟩ = some a) ∧ (∃ a, W.cell? ⟨g, b + 1, none⟩ = some a) ∧ (∃ a, W.cell? ⟨g, b + 2, none⟩ = some a) ∧ (∃ a, W.cell? ⟨g, b + 3, none⟩ = some a) ∧ (∃ a, W.cell? ⟨g, b + 4, none⟩ = some a) := by
  have e : ∀ j, j < n * 5 → ∃ a, W.cell? ⟨g, j, none⟩ = some a := fun j hj => ⟨_, (h.cellAt j hj).trans (List.getElem?_eq_getElem (by rw [h.1]; exact hj))⟩
  exact ⟨e _ (by omega), e _ (by omega), e _ (by omega), e _ (by omega), e _ (by omega)⟩
theorem infoRows : (Tryz.prog.info? 23).map (fun i => (i.zero, i.size, i.bytes)) = some (some (.slice none 0 0), 1, 24) := by kernel_rfl
theorem make_rows (N : Nat) (hN : N ≤ 100000) (W : World) : ∃ C : Array Value, C.size = N ∧
    (Instr.makeSlice 45 (.int .i64 N) (.int .i64 N)).run Tryz.prog W = .ok (.slice (some ⟨W.heap.size, 0, none⟩) N N) (W.alloc (.cells C 23)) := by
  obtain ⟨i0, hi0, hz0, hz1, hz2⟩ := info_parts infoRows
  have h := run_make (P := Tryz.prog) W 45 23 i0 _ Tryz.underlying45 hi0 hz0 .i64 .i64 (N : Int) (N : Int) (by omega) (by omega) (by rw [hz2]; omega) (by omega)
  simp only [Int.toNat_natCast] at h
  exact ⟨_, by rw [size_madeCells, hz1]; omega, h⟩

theorem make_many (W : World) : ∃ C : Array Value, C.size = 64 * 5 ∧ (∀ u ∈ C.toList, u.oneCell' = true) ∧
    (Instr.makeSlice 23 (.int .i64 64) (.int .i64 64)).run Tryz.prog W = .ok (.slice (some ⟨W.heap.size, 0, none⟩) 64 64) (W.alloc (.cells C 25)) := by
  obtain ⟨i0, hi0, hz0, hz1, hz2⟩ := info_parts infoNode
  have h := run_make (P := Tryz.prog) W 23 25 i0 _ Tryz.underlying23 hi0 hz0 .i64 .i64 64 64 (by omega) (by omega) (by rw [hz2]; omega) (by omega)
  rw [hz1] at h
  refine ⟨_, ?_, ?_, h⟩
  · rw [size_madeCells]; rfl
  · have hall : (madeCells (Value.cells (.agg #[.int .u8 0, .string ByteArray.empty, .int .i64 0, .int .i64 0, .slice none 0 0])) (Int.toNat 64 * 5)).toList.all (fun u => u.oneCell') = true := by kernel_rfl
    exact fun u hu => List.all_eq_true.1 hall u hu
theorem set5_one {xs : List Value} (h : ∀ u ∈ xs, u.oneCell' = true) (b : Nat) {v0 v1 v2 v3 v4 : Value} (h0 : v0.oneCell' = true) (h1 : v1.oneCell' = true) (h2 : v2.oneCell' = true) (h3 : v3.oneCell' = true) (h4 : v4.oneCell' = true) :
    ∀ u ∈ ((((xs.set b v0).set (b + 1) v1).set (b + 2) v2).set (b + 3) v3).set (b + 4) v4, u.oneCell' = true := by
  intro u hu
  rcases List.mem_or_eq_of_mem_set hu with hu | rfl
  · rcases List.mem_or_eq_of_mem_set hu with hu | rfl
    · rcases List.mem_or_eq_of_mem_set hu with hu | rfl
      · rcases List.mem_or_eq_of_mem_set hu with hu | rfl
        · rcases List.mem_or_eq_of_mem_set hu with hu | rfl
          · exact h u hu
          · exact h0
        · exact h1
      · exact h2
    · exact h3
  · exact h4
def A7Rel (B b0 b1 : Nat) (c0 : Array Value) (D : List (Value × Nat)) (w : World) (i : Value) (W : World) : Prop :=
  ∃ (W1 : World) (k : Nat), W1 = W ∧ k ≤ D.length ∧ i = .int .i64 k ∧ Chg (Dg D) w W1 ∧ B ≤ W1.heap.size ∧ Fm B b0 c0 D qM W1 ∧ Gs B b1 D k (fun j n ys => ∃ zs, ys = mrow j n ++ zs) W1
def A8Rel (W0 : World) (i : Value) (W : World) : Prop :=
  ∃ (W1 : World) (j : Nat) (xs : List Value), W1 = W ∧ j ≤ 64 ∧ i = .int .i64 j ∧ Below W0.heap.size W0 W1 ∧ W1.ownsRow W0.heap.size 25 5 (.slice (some ⟨W0.heap.size, 0, none⟩) 64 64) 64 xs ∧ ∀ u ∈ xs, u.oneCell' = true
theorem after7 {B b0 b1 : Nat} {c0 : Array Value} {D : List (Value × Nat)} {w W6 W8 W9 : World} {k n : Nat} {v v9 : Value} {xs : List Value} (hI : FIn B b0 c0 D) (hne : b0 ≠ b1) (hb1w : w.heap.size ≤ b1)
    (hm : Fm B b0 c0 D qM W6) (hg : Gs B b1 D k (fun j n ys => ∃ zs, ys = mrow j n ++ zs) W6) (hd : D[k]? = some (v, n)) (hr : Gr4 B b0 c0 W6 k n v v 0 W8) (hbw : Chg (Dg D) w W8) (hs : B ≤ W8.heap.size)
    (ho : W9.ownsRow B 25 5 v9 (n + 64) (mrow k n ++ xs)) (hgo : Gone W8 W9 v v9 n 64) :
    ∃ q cq, v9 = .slice q (n + 64) cq ∧ W9.frozen? ⟨b1, k, none⟩ = false ∧ (∃ a, W9.cell? ⟨b1, k, none⟩ = some a) ∧
      Hid (Fm B b0 c0 D qM (W9.setCell ⟨b1, k, none⟩ v9) ∧ Gs B b1 D (k + 1) (fun j n ys => ∃ zs, ys = mrow j n ++ zs) (W9.setCell ⟨b1, k, none⟩ v9) ∧ Chg (Dg D) w (W9.setCell ⟨b1, k, none⟩ v9) ∧ B ≤ (W9.setCell ⟨b1, k, none⟩ v9).heap.size) := by
  obtain ⟨q, cq, rfl⟩ := owns_shape ho
  obtain ⟨e0, hc, hv, hor⟩ := Gr4.next (m := 64) hr ho hgo
  obtain ⟨c1, hc1, hcs1, _⟩ := id hg
  obtain ⟨xs0, hv0, _⟩ := hm.2 k v n hd
  have hv4 : v.ownBlock ≠ some b1 := owns_not hv0 hc1
  have hb1 : W9.heap[b1]? = some (.cells c1 23 (0, 0)) := (hc.block b1 (Array.getElem?_eq_some_iff.1 hc1).1 hv4).trans hc1
  have hk : k < D.length := (List.getElem?_eq_some_iff.1 hd).1
  have hnx := gs_next (k := k) (q := fun j n ys => ∃ zs, ys = mrow j n ++ zs) hI hne hm hg hd hc hv ho ⟨xs, rfl⟩ hor
  have hb9 : Chg (Dg D) w W9 := gone_chg hbw (fun g hg => Or.inl ⟨k, v, n, hd, hg⟩) hgo
  have hs9 : B ≤ W9.heap.size := by
    rcases hgo with ⟨_, _, _, _, h⟩ | ⟨_, _, h⟩
    · exact Nat.le_trans hs h.size
    · exact Nat.le_trans hs h.size
  exact ⟨q, cq, rfl, frozen5 hb1 k, ⟨_, (cell_of_row _ _ _ _ _ _ hb1).trans (Array.getElem?_eq_getElem (by rw [hcs1]; exact hk))⟩, hnx.1, hnx.2, hb9.setCell (p := ⟨b1, k, none⟩) (Or.inr hb1w) _, by simpa [World.setCell] using hs9⟩
def LookRel (N : Nat) (Wc : World) (i : Value) (W : World) : Prop :=
  ∃ (W1 : World) (k : Nat), W1 = W ∧ k ≤ N ∧ i = .int .i64 k ∧ Below Wc.heap.size Wc W1
/-- the cells of a marked node -/
theorem mark_cells {W : World} {B g n c N k i : Nat} {xs : List Value} (h : W.ownsRow B 25 5 (.slice (some ⟨g, 0, none⟩) n c) n xs) (hx : ∃ zs, xs = mrow k N ++ zs) (hi : i < N) (hin : i < n) :
    W.cell? ⟨g, i * 5, none⟩ = some (.int .u8 0) ∧ W.cell? ⟨g, i * 5 + 1, none⟩ = some (.string ⟨#[]⟩) ∧ W.cell? ⟨g, i * 5 + 2, none⟩ = some (.int .i64 0) ∧ W.cell? ⟨g, i * 5 + 3, none⟩ = some (.int .i64 (mkA k i)) ∧ W.cell? ⟨g, i * 5 + 4, none⟩ = some (.slice none 0 0) := by
  obtain ⟨zs, rfl⟩ := hx
  have e : ∀ m u, (mkC k i)[m]? = some u → W.cell? ⟨g, i * 5 + m, none⟩ = some u := fun m u hm => by
    have hm5 : m < 5 := (List.getElem?_eq_some_iff.1 hm).1
    rw [h.cellAt (i * 5 + m) (by omega), List.getElem?_append_left (by rw [mrow_len]; omega)]
    exact mrow_get k hi hm
  exact ⟨e 0 _ rfl, e 1 _ rfl, e 2 _ rfl, e 3 _ rfl, e 4 _ rfl⟩
def FlatPost (D : List (Value × Nat)) (w : World) (e : Ending) (w' : World) : Prop := e = .returned (.bool true) ∧ Chg (Dg D) w w'
end Go.Proofs.YtoekldhdojpceaaGreatDoor
