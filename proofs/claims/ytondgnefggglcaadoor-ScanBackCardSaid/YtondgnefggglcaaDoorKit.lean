/- Plain lemmas on memory and on bytes, used by all walks. No condition. -/
import Derived.WalkKit
import Derived.WalkSpells
import Derived.WalkLawsBesides
import Derived.Maps.AppendAt
import Derived.Lib.Hide
namespace Go.Proofs.YtondgnefggglcaaDoor
open Go.RowKit

def hasB (st : ByteArray) (c : UInt8) : Bool := st.data.toList.contains c

theorem take_succ_any (p : ByteArray → Bool) (l : List ByteArray) (k : Nat) (x : ByteArray) (hx : l[k]? = some x) (h : (l.take k).any p = false) : (l.take (k+1)).any p = p x := by
  rw [List.take_add_one, hx, List.any_append, h]; simp

theorem any_of_mem (p : ByteArray → Bool) (l : List ByteArray) (k : Nat) (x : ByteArray) (hx : l[k]? = some x) (h : p x = true) : l.any p = true :=
  List.any_eq_true.2 ⟨x, List.mem_of_getElem? hx, h⟩

theorem below_drewN {B : Nat} {a w : World} (h : Below B a w) (n : Nat) : Below B a (w.drewN n) := ⟨h.os, h.tape, h.output, h.size, h.block⟩

theorem bx_get (s : ByteArray) (a b i : Nat) (h : i < (s.extract a b).size) (h' : a + i < s.size) : (s.extract a b)[i] = s[a + i] := by
  simp only [ByteArray.getElem_eq_getElem_data, ByteArray.data_extract, Array.getElem_extract]

theorem bne_of_size (t : ByteArray) (h : 0 < t.size) : t.toList.isEmpty = false := by
  rw [ByteArray.toList_eq]
  cases hh : t.data.toList with
  | nil => 
    have : t.data.toList.length = 0 := by rw [hh]; rfl
    rw [Array.length_toList] at this
    have h2 : t.size = t.data.size := rfl
    omega
  | cons a l => rfl

theorem cell_new1 (w : World) (v : Value) (t : TypeId) : (w.alloc (.cells #[v] t)).cell? ⟨w.heap.size, 0, none⟩ = some v := by
  have h : (w.alloc (.cells #[v] t)).heap[w.heap.size]? = some (.cells #[v] t) := heap_alloc_new w _
  exact cell_of_row _ _ 0 _ _ _ h

/-- a store into a block that is known whole -/
theorem heap_set {w : World} {g : Nat} {cs : Array Value} {t : TypeId} (h : w.heap[g]? = some (.cells cs t (0, 0))) (i : Nat) (u : Value) :
    (w.setCell ⟨g, i, none⟩ u).heap[g]? = some (.cells (cs.setIfInBounds i u) t (0, 0)) := by
  simp [World.setCell, Array.getElem?_modify, h]

theorem grown_set {a w : World} {g : Nat} (h : a.grownBy w (some g)) (i : Nat) (u : Value) : a.grownBy (w.setCell ⟨g, i, none⟩ u) (some g) :=
  ⟨h.os, h.tape, h.output, by simpa [World.setCell] using h.size, fun j hj hne => (Below.heap_setCell w ⟨g, i, none⟩ u j (fun e => hne (by rw [e]))).trans (h.block j hj hne)⟩

theorem grown_drewN {a w : World} {row : Option Nat} (h : a.grownBy w row) (n : Nat) : a.grownBy (w.drewN n) row := ⟨h.os, h.tape, h.output, h.size, h.block⟩

theorem heap_below {B i : Nat} {w w' : World} {o : Option Obj} (hb : Below B w w') (h : w.heap[i]? = o) (hi : i < B) : w'.heap[i]? = o := (hb.block i hi).trans h

/-- from a place on, as long as the bytes are so -/
def scanTo (p : UInt8 → Bool) (s : ByteArray) (k : Nat) : Nat := k + ((s.data.toList.drop k).takeWhile p).length

theorem drop_cons (s : ByteArray) (k : Nat) (h : k < s.size) : s.data.toList.drop k = s[k] :: s.data.toList.drop (k + 1) := by
  rw [List.drop_eq_getElem_cons (by simpa using h)]; rfl

theorem drop_end (s : ByteArray) (k : Nat) (h : s.size ≤ k) : s.data.toList.drop k = [] := List.drop_eq_nil_of_le (by simpa using h)

theorem scanTo_yes (p : UInt8 → Bool) (s : ByteArray) (k : Nat) (h : k < s.size) (hp : p s[k] = true) : scanTo p s (k + 1) = scanTo p s k := by
  unfold scanTo; rw [drop_cons s k h]; simp [hp]; omega

theorem scanTo_no (p : UInt8 → Bool) (s : ByteArray) (k : Nat) (h : k < s.size) (hp : p s[k] = false) : scanTo p s k = k := by
  unfold scanTo; rw [drop_cons s k h]; simp [hp]

theorem scanTo_end (p : UInt8 → Bool) (s : ByteArray) (k : Nat) (h : s.size ≤ k) : scanTo p s k = k := by
  unfold scanTo; rw [drop_end s k h]; rfl

theorem scanTo_ge (p : UInt8 → Bool) (s : ByteArray) (k : Nat) : k ≤ scanTo p s k := by unfold scanTo; omega

theorem scanTo_le (p : UInt8 → Bool) (s : ByteArray) (k : Nat) (h : k ≤ s.size) : scanTo p s k ≤ s.size := by
  unfold scanTo
  have h1 := (List.takeWhile_sublist p (l := s.data.toList.drop k)).length_le
  have h2 : (s.data.toList.drop k).length = s.size - k := by simp
  omega

theorem grown_below {a w w' : World} {row : Option Nat} (hg : a.grownBy w row) (hb : Below w.heap.size w w') : a.grownBy w' row :=
  ⟨hb.os.trans hg.os, hb.tape.trans hg.tape, hb.output.trans hg.output, Nat.le_trans hg.size hb.size, fun i hi hne => (hb.block i (Nat.lt_of_lt_of_le hi hg.size)).trans (hg.block i hi hne)⟩

theorem grown_of_below {a w : World} (h : Below a.heap.size a w) (row : Option Nat) : a.grownBy w row := ⟨h.os, h.tape, h.output, h.size, fun i hi _ => h.block i hi⟩

theorem heap_grown {w w' : World} {i : Nat} {row : Option Nat} {o : Obj} (hg : w.grownBy w' row) (h : w.heap[i]? = some o) (hne : some i ≠ row) : w'.heap[i]? = some o :=
  (hg.block i (Array.getElem?_eq_some_iff.1 h).1 hne).trans h

/-- blocks of other types are others -/
theorem ne_of_type {w : World} {i j : Nat} {cs ds : Array Value} {t u : TypeId} (h : w.heap[i]? = some (.cells cs t (0, 0))) (k : w.heap[j]? = some (.cells ds u (0, 0))) (hne : t ≠ u) : i ≠ j := by
  rintro rfl
  rw [h] at k
  injection k with k
  injection k with _ k
  exact hne k

/-- a block of three cells -/
theorem cells3 {w : World} {T : Nat} {a b c : Value} {t : TypeId} (h : w.heap[T]? = some (.cells #[a, b, c] t (0, 0))) :
    w.cell? ⟨T, 0, none⟩ = some a ∧ w.cell? ⟨T, 1, none⟩ = some b ∧ w.cell? ⟨T, 2, none⟩ = some c ∧ w.frozen? ⟨T, 0, none⟩ = false ∧ w.frozen? ⟨T, 1, none⟩ = false ∧ w.frozen? ⟨T, 2, none⟩ = false := by
  simp [World.cell?, World.frozen?, h]
/-- a store into a block that was not there -/
theorem grown_set_far {a w : World} {row : Option Nat} (h : a.grownBy w row) {T : Nat} (hT : a.heap.size ≤ T) (i : Nat) (u : Value) : a.grownBy (w.setCell ⟨T, i, none⟩ u) row :=
  ⟨h.os, h.tape, h.output, by simpa [World.setCell] using h.size, fun j hj hne => (Below.heap_setCell w ⟨T, i, none⟩ u j (by show j ≠ T; omega)).trans (h.block j hj hne)⟩

/-- a store elsewhere -/
theorem heap_set_far {w : World} {g T : Nat} {o : Obj} (h : w.heap[g]? = some o) (hT : T ≠ g) (i : Nat) (u : Value) : (w.setCell ⟨T, i, none⟩ u).heap[g]? = some o :=
  (Below.heap_setCell w ⟨T, i, none⟩ u g (fun e => hT e.symm)).trans h

theorem at_alloc (w : World) (o : Obj) (i : Nat) : (w.alloc o).heap[i]? = if i = w.heap.size then some o else w.heap[i]? := by
  show (w.heap.push o)[i]? = _
  rw [Array.getElem?_push]

/-- the cells of a block that has just been laid, for the law of append -/
theorem news_new (w : World) (l : List Value) (t : TypeId) : ∀ (j : Nat) (u : Value), l[j]? = some u → (w.alloc (.cells l.toArray t)).cell? ((⟨w.heap.size, 0, none⟩ : Addr).add j) = some u := by
  intro j u h
  have hb : (w.alloc (.cells l.toArray t)).heap[w.heap.size]? = some (.cells l.toArray t (0, 0)) := heap_alloc_new w _
  have e : ((⟨w.heap.size, 0, none⟩ : Addr).add j) = ⟨w.heap.size, j, none⟩ := by
    unfold Addr.add
    by_cases h0 : j = 0
    · rw [if_pos h0, h0]
    · rw [if_neg h0]; simp
  rw [e, cell_of_row _ _ _ _ _ _ hb]
  simpa using h

theorem frozen_of {w : World} {T : Nat} {cs : Array Value} {t : TypeId} (h : w.heap[T]? = some (.cells cs t (0, 0))) (i : Nat) : w.frozen? ⟨T, i, none⟩ = false := by
  simp [World.frozen?, h]

theorem ownsRow_base {w : World} {b b' : Nat} {e : TypeId} {size n : Nat} {v : Value} {xs : List Value} (h : w.ownsRow b e size v n xs) (hb : b' ≤ b) : w.ownsRow b' e size v n xs := by
  obtain ⟨h1, h2⟩ := h
  refine ⟨h1, ?_⟩
  rcases h2 with h2 | ⟨g, cap, cur, hv, hg, r⟩
  · exact .inl h2
  · exact .inr ⟨g, cap, cur, hv, Nat.le_trans hb hg, r⟩

theorem ret_bool {a b : Bool} (h : a = b) : Ending.returned (.bool a) = .returned (.bool b) := by rw [h]
theorem ret_int {k : IntKind} {a b : Int} (h : a = b) : Ending.returned (.int k a) = .returned (.int k b) := by rw [h]

theorem ownsRow_below {w w' : World} {b : Nat} {e : TypeId} {size n : Nat} {v : Value} {xs : List Value} (h : w.ownsRow b e size v n xs) (hb : Below w.heap.size w w') : w'.ownsRow b e size v n xs := by
  refine h.kept (grown_of_below hb none) ?_
  cases hv : v.ownBlock with
  | none => exact .inl rfl
  | some k => exact .inr (by simp)

theorem news_new2 (w : World) (o : Obj) (l : List Value) (t : TypeId) : ∀ (j : Nat) (u : Value), l[j]? = some u → ((w.alloc o).alloc (.cells l.toArray t)).cell? ((⟨w.heap.size + 1, 0, none⟩ : Addr).add j) = some u := by
  have h := news_new (w.alloc o) l t
  rw [World.size_alloc] at h
  exact h
end Go.Proofs.YtondgnefggglcaaDoor
