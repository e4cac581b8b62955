/- Several texts joined, each with its own sentence and conditions ahead of it: TurnE, RegG, TurnF, TurnG. -/
import Derived.Test.YtfpohaipmnjflaaGreatDoorMTA
import Derived.Deep.Upon
import Derived.Deep.AppendSrc
import Derived.Test.YtfpohaipmnjflaaGreatDoorMFB
import Derived.Test.YtfpohaipmnjflaaGreatDoorMT
import Derived.Test.YtfpohaipmnjflaaGreatDoorMS
/- turned, where a kid comes at the front or at the end: what memory holds then. No condition. -/
namespace Go.Proofs.YtfpohaipmnjflaaGreatDoor
open Go.RowKit

/-- a leaf of a kind -/
def leafT (k : Nat) (t : ByteArray) : Tree := .mk k t 0 0 []
def leafC (k : Nat) (t : ByteArray) : List Value := nodeCells (leafT k t) (.slice none 0 0)
theorem leaf_fits {k : Nat} {t : ByteArray} (hk : k < 256) (ht : t.size ≤ 1000) : Fits (leafT k t) :=
  ⟨hk, by show t.size ≤ maxLen; unfold maxLen; omega, by show -9223372036854775808 ≤ (0 : Int); omega, by show (0 : Int) < _; omega, by show -9223372036854775808 ≤ (0 : Int); omega, by show (0 : Int) < _; omega⟩
theorem leaf_own (W : World) (d k : Nat) (t : ByteArray) (F : Nat → Prop) : OwnAt W d (leafT k t).kids (.slice none 0 0) F := by
  cases d with
  | zero => exact ⟨rfl, Or.inl rfl⟩
  | succ d => exact Or.inl ⟨rfl, Or.inl rfl⟩
theorem leaf_many (d k : Nat) (t : ByteArray) : manyF d (leafT k t) = 1 := by
  cases d with
  | zero => rfl
  | succ d => rw [manyF_sum]; rfl
theorem leaf_txt {k : Nat} {t : ByteArray} (ht : t.size ≤ 1000) : TxtA (leafT k t) := TxtA.mk ht fun T hT => by cases hT
/-- the list has one kid more, at the front or at the end -/
theorem arm_more {d b off q : Nat} {cs : Array Value} {F : Nat → Prop} {w W : World} {T : Tree} {s s' : Value} {ks : List Tree} {xs : List Value} {Fs : Nat → Nat → Prop} (hC : Chg (fun x => F x ∨ x = b ∨ x = q) w W) 
    (hb : W.heap[b]? = some (.cells (cs.setIfInBounds (off + 4) s') 25 (0, 0))) (hq : W.heap[q]? = some (.cells #[.int .i64 0] 3 (0, 0))) (hin : NodeIn cs off T s) (hF : ∀ x, F x → x < w.heap.size ∧ x ≠ b ∧ x ≠ q)
    (hown : W.ownsRow 0 25 5 s' ks.length xs) (hg : ∀ g, s'.ownBlock = some g → F g ∨ w.heap.size ≤ g)
    (hrow : ∀ i t, ks[i]? = some t → Fits t ∧ TxtA t ∧ ∃ v, (∀ m u, (nodeCells t v)[m]? = some u → xs[i * 5 + m]? = some u) ∧ OwnAt W d t.kids v (Fs i)) (hFs : ∀ i x, i < ks.length → Fs i x → F x ∧ s'.ownBlock ≠ some x) (hdis : ∀ i j x, i < ks.length → j < ks.length → i ≠ j → Fs i x → ¬ Fs j x)
    (hf : Fits T) (ht : TxtA T) (hm : 1 + (ks.map (manyF d)).sum ≤ 2 * manyF d T) : TurnedTo (d + 1) b off q cs F w (2 * manyF d T) 0 W := by
  have hgw : ∀ g, s'.ownBlock = some g → g < W.heap.size := fun g h => (own_block hown g h).2
  refine ⟨.mk T.kind T.text T.num T.place ks, s', cs.setIfInBounds (off + 4) s', fun x => s'.ownBlock = some x ∨ F x, hC, hb, by simp, hin.set rfl (by omega), set_far cs off 4 s' (by omega), hf, ?_, fun x hx => ?_, hq, TxtA.mk ht.text fun t htm => ?_, ?_⟩
  · exact own_of_row (Fs := Fs) hown (fun g h => Or.inl h) (fun i t hi => ⟨(hrow i t hi).1, (hrow i t hi).2.2⟩) (fun i x hi hx => ⟨Or.inr (hFs i x hi hx).1, (hFs i x hi hx).2⟩) hdis
  · rcases hx with hx | hx
    · exact ⟨hg x hx, hgw x hx⟩
    · exact ⟨Or.inl hx, Nat.lt_of_lt_of_le (hF x hx).1 hC.size⟩
  · obtain ⟨i, hi⟩ := List.getElem?_of_mem htm
    exact (hrow i t hi).2.1
  · rw [manyF_sum]; exact hm
theorem many_front {w : World} {B d k : Nat} {T : Tree} {t : ByteArray} {s : Value} (h : KidsAt w B d T.kids s) : 1 + ((leafT k t :: T.kids).map (manyF d)).sum ≤ 2 * manyF d T := by
  have h1 := many_more d T s h
  rw [manyF_sum] at h1
  rw [List.map_cons, List.sum_cons, leaf_many]
  have := manyF_pos1 d T
  omega
theorem many_back {w : World} {B d k : Nat} {T : Tree} {t : ByteArray} {s : Value} (h : KidsAt w B d T.kids s) : 1 + ((T.kids ++ [leafT k t]).map (manyF d)).sum ≤ 2 * manyF d T := by
  have h1 := many_more d T s h
  rw [manyF_sum] at h1
  rw [List.map_append, List.sum_append, List.map_cons, List.sum_cons, leaf_many]
  have := manyF_pos1 d T
  simp
  omega
/-- a kid at the front, the list in a new block -/
theorem arm_front {d b off q n g cap k : Nat} {cs : Array Value} {F : Nat → Prop} {w W : World} {T : Tree} {s : Value} {t : ByteArray} {xs : List Value} {Fs : Nat → Nat → Prop} (hW : Below w.heap.size w W) (hb : w.heap[b]? = some (.cells cs 25 (0, 0))) (hin : NodeIn cs off T s) (hF : ∀ x, F x → x < w.heap.size ∧ x ≠ b ∧ x ≠ q)
    (hq : w.heap[q]? = some (.cells #[.int .i64 0] 3 (0, 0))) (hqb : q ≠ b) (hn : T.kids.length = n) (ho : OwnAt w d T.kids s F) (hk : k < 256) (htx : t.size ≤ 1000)
    (hrow : ∀ i u, T.kids[i]? = some u → Fits u ∧ ∃ v, (∀ m z, (nodeCells u v)[m]? = some z → xs[i * 5 + m]? = some z) ∧ ∃ d', d = d' + 1 ∧ OwnAt w d' u.kids v (Fs i)) (hFs : ∀ i x, Fs i x → F x ∧ s.ownBlock ≠ some x) (hdis : ∀ i j x, i ≠ j → Fs i x → ¬ Fs j x)
    (hf : Fits T) (ht : TxtA T) (hg : w.heap.size ≤ g) (hown : W.ownsRow 0 25 5 (.slice (some ⟨g, 0, none⟩) (1 + n) cap) (1 + n) (leafC k t ++ xs)) :
    TurnedTo (d + 1) b off q cs F w (2 * manyF d T) 0 (W.setCell ⟨b, off + 4, none⟩ (.slice (some ⟨g, 0, none⟩) (1 + n) cap)) := by
  have hbw : b < w.heap.size := (Array.getElem?_eq_some_iff.1 hb).1
  have hqw : q < w.heap.size := (Array.getElem?_eq_some_iff.1 hq).1
  have hoth : ∀ x, x ≠ b → (W.setCell ⟨b, off + 4, none⟩ (.slice (some ⟨g, 0, none⟩) (1 + n) cap)).heap[x]? = W.heap[x]? := fun x hx => Below.heap_setCell W ⟨b, off + 4, none⟩ _ x hx
  have hgb : g ≠ b := by omega
  have hkl : (leafT k t :: T.kids).length = 1 + n := by rw [List.length_cons, hn]; omega
  have hl5 : (leafC k t).length = 5 := rfl
  refine arm_more (ks := leafT k t :: T.kids) (xs := leafC k t ++ xs) (Fs := fun i x => ∃ j, i = j + 1 ∧ Fs j x) ((Chg.of_below hW).setCell (p := ⟨b, off + 4, none⟩) (Or.inl (Or.inr (Or.inl rfl))) _) (heap_set (heap_below hW hb hbw) _ _) ((hoth q hqb).trans (heap_below hW hq hqw)) hin hF ?_ (fun x hx => by injection hx with hx; subst hx; exact Or.inr hg) (fun i u hi => ?_) (fun i x _ hx => ?_) (fun i j x _ _ hij hx hx' => ?_) hf ht (many_front (ho.kids (B := w.heap.size) fun x hx => (hF x hx).1))
  · rw [hkl]
    exact owns_keep hown fun g' hg' => by injection hg' with hg'; subst hg'; exact hoth _ hgb
  · cases i with
    | zero =>
      simp only [List.getElem?_cons_zero, Option.some.injEq] at hi
      subst hi
      refine ⟨leaf_fits hk htx, leaf_txt htx, .slice none 0 0, fun m z hm => ?_, leaf_own _ _ _ _ _⟩
      have hm5 : m < 5 := (List.getElem?_eq_some_iff.1 hm).1
      rw [Nat.zero_mul, Nat.zero_add, List.getElem?_append_left (by rw [hl5]; exact hm5)]
      exact hm
    | succ i =>
      rw [List.getElem?_cons_succ] at hi
      obtain ⟨r1, v, r2, d', hd, r3⟩ := hrow i u hi
      subst hd
      refine ⟨r1, ht.kid u (List.mem_of_getElem? hi), v, fun m z hm => ?_, ?_⟩
      · have := r2 m z hm
        rw [List.getElem?_append_right (by rw [hl5]; omega), hl5]
        rw [show (i + 1) * 5 + m - 5 = i * 5 + m by omega]
        exact this
      · refine ((r3.below (fun x hx => (hF x (hFs i x hx).1).1) hW).keep fun x o hx h => (hoth x (hF x (hFs i x hx).1).2.1).trans h).more.sub fun x hx => ⟨i, rfl, hx⟩
  · obtain ⟨j, rfl, hx⟩ := hx
    exact ⟨(hFs j x hx).1, fun e => by injection e with e; have e : g = x := e; have := (hF x (hFs j x hx).1).1; omega⟩
  · obtain ⟨i', rfl, hx⟩ := hx
    obtain ⟨j', rfl, hx'⟩ := hx'
    exact hdis i' j' x (fun e => hij (by rw [e])) hx hx'
/-- every cell of a list of nodes is one value -/
theorem row_one {w : World} {n : Nat} {ks : List Tree} {xs : List Value} {d : Nat} {Fs : Nat → Nat → Prop} (hn : ks.length = n) (hl : xs.length = n * 5)
    (hrow : ∀ i u, ks[i]? = some u → Fits u ∧ ∃ v, (∀ m z, (nodeCells u v)[m]? = some z → xs[i * 5 + m]? = some z) ∧ ∃ d', d = d' + 1 ∧ OwnAt w d' u.kids v (Fs i)) : ∀ u ∈ xs, u.oneCell' = true := by
  intro u hu
  obtain ⟨k, hk⟩ := List.getElem?_of_mem hu
  have hkl := (List.getElem?_eq_some_iff.1 hk).1
  obtain ⟨t, ht⟩ : ∃ t, ks[k / 5]? = some t := ⟨_, List.getElem?_eq_getElem (by omega)⟩
  obtain ⟨_, v, hv, d', _, ho⟩ := hrow _ t ht
  obtain ⟨p, c, rfl⟩ := ho.shape
  have hm : k % 5 < (nodeCells t (.slice p t.kids.length c)).length := by show k % 5 < 5; omega
  have h1 := hv (k % 5) _ (List.getElem?_eq_getElem hm)
  rw [show k / 5 * 5 + k % 5 = k by omega, hk] at h1
  injection h1 with h1
  have hall : ∀ z ∈ nodeCells t (.slice p t.kids.length c), z.oneCell' = true := by
    simp [nodeCells, Value.oneCell']
  rw [h1]
  exact hall _ (List.getElem_mem _)
/-- a list appended to a list of one that was just made -/
theorem upon_front {o : Oper} {a : Act} {W : World} {G : Value → World → Prop} {L g5 n c : Nat} {p : Option Addr} {lc xs : List Value} (s y : Operand) (hop : o.op = .call { callee := .builtin .append, args := #[s, y], argTypes := #[23, 23] })
    (hs : a.eval s = .slice (some ⟨g5, 0, none⟩) 1 1) (hg5 : W.heap[g5]? = some (.cells lc.toArray 25 (0, 0))) (hlc : lc.length = 5) (hL : L ≤ g5) (hLW : L ≤ W.heap.size) (hy : a.eval y = .slice p n c) (hown : W.ownsRow 0 25 5 (.slice p n c) n xs) (hn : n ≤ 10000) (h1 : ∀ u ∈ xs, u.oneCell' = true)
    (hG : ∀ g cap W', Below W.heap.size W W' → L ≤ g → W'.ownsRow 0 25 5 (.slice (some ⟨g, 0, none⟩) (1 + n) cap) (1 + n) (lc ++ xs) → G (.slice (some ⟨g, 0, none⟩) (1 + n) cap) W') : RE.Upon Tryz.prog o a W G := by
  obtain ⟨i0, hi0, hz0, hz1, hz2⟩ := info_parts infoNode
  have own5 : W.ownsRow 0 25 5 (.slice (some ⟨g5, 0, none⟩) 1 1) 1 lc := ⟨by omega, Or.inr ⟨g5, 1, lc.toArray, rfl, Nat.zero_le _, hg5, Nat.le_refl _, by unfold maxLen; omega, by simp [hlc], by show lc.toArray.toList.take (1 * 5) = lc; rw [List.take_of_length_le (by simp [hlc])]⟩⟩
  have hlx := hown.1
  have fin : ∀ v' w', (Builtin.append_ #[23, 23] o.type #[.slice (some ⟨g5, 0, none⟩) 1 1, .slice p n c]).run Tryz.prog W = .ok v' w' → G v' w' → RE.Upon Tryz.prog o a W G := fun v' w' h hg => by
    refine RE.upon_run (v := v') (w' := w') ?_ hg
    simp [execOp, hop, resolve, invoke, builtin, hs, hy, h, Result.andThen]
  rcases Nat.eq_zero_or_pos n with rfl | hpos
  · have hx : xs = [] := List.eq_nil_of_length_eq_zero (by omega)
    subst hx
    have hsrc : Src Tryz.prog i0.size 23 (.slice p 0 c) 0 [] W := by
      cases p with
      | none => exact Src.ofNil W Tryz.underlying23 c
      | some ad => exact Src.ofSlice W Tryz.underlying23 ad 0 c [] (by simp) (fun j u h => by simp at h) (fun u h => by cases h)
    have hr := run_append_nothing (P := Tryz.prog) W 23 23 o.type 25 i0 Tryz.underlying23 hi0 (some ⟨g5, 0, none⟩) 1 1 (Nat.le_refl _) (.slice p 0 c) hsrc
    refine fin _ _ hr (hG g5 1 W (Below.refl _ _) hL ?_)
    rw [List.append_nil]; exact own5
  · obtain ⟨g', c', hsl, hnc⟩ := owns_pos hown hpos
    injection hsl with e1 e2 e3
    subst e1; subst e3
    obtain ⟨v', w', hr, hown', hcase⟩ := run_append_both (P := Tryz.prog) W 0 23 o.type 25 i0 _ 5 64 Tryz.underlying23 hi0 hz0 hz1 hz2 rfl (by decide) (.slice (some ⟨g5, 0, none⟩) 1 1) 1 lc own5 ⟨g', 0, none⟩ n c xs hlx (hown.cells (g := g') rfl) h1 (by unfold maxLen; omega) (by omega) (Nat.zero_le _) hpos
    rcases hcase with ⟨g, cap, e1, e2, _⟩ | ⟨cap, e1, hb⟩
    · injection e1 with e1 _ e3
      subst e2
      rcases hown'.2 with ⟨h, _⟩ | ⟨_, _, _, h, _, _, h2, _⟩
      · cases h
      · injection h with _ _ h3
        omega
    · subst e1
      exact fin _ _ hr (hG _ _ _ hb hLW hown')
def at0 (xs : List Value) : Value := xs.getD 0 undef
/-- a list of one, just made -/
def Fr1 (L : Nat) (lc : List Value) (W : World) (v : Value) : Prop := ∃ g, v = .slice (some ⟨g, 0, none⟩) 1 1 ∧ L ≤ g ∧ W.heap[g]? = some (.cells lc.toArray 25 (0, 0))
/-- a list with a kid more, in a block of its own -/
def Fr2 (L n : Nat) (row : List Value) (W : World) (v : Value) : Prop := ∃ g cap, v = .slice (some ⟨g, 0, none⟩) (1 + n) cap ∧ L ≤ g ∧ W.ownsRow 0 25 5 v (1 + n) row
theorem Fr1.below {L : Nat} {lc : List Value} {W W' : World} {v : Value} (h : Fr1 L lc W v) (hb : Below W.heap.size W W') : Fr1 L lc W' v := by
  obtain ⟨g, h1, h2, h3⟩ := h
  exact ⟨g, h1, h2, heap_below hb h3 (Array.getElem?_eq_some_iff.1 h3).1⟩
theorem Fr2.below {L n : Nat} {row : List Value} {W W' : World} {v : Value} (h : Fr2 L n row W v) (hb : Below W.heap.size W W') : Fr2 L n row W' v := by
  obtain ⟨g, cap, h1, h2, h3⟩ := h
  exact ⟨g, cap, h1, h2, owns_below h3 hb⟩
/-- what is known of the values of the region that puts a kid at the front -/
def phF (L n : Nat) (lc xs : List Value) (k : Nat) (W : World) (ys : List Value) : Prop := if k = 5 then Fr1 L lc W (at0 ys) else if k = 10 then Fr2 L n (lc ++ xs) W (at0 ys) else True
theorem phF.keep {L n : Nat} {lc xs : List Value} {k : Nat} {W W' : World} {ys : List Value} (h : phF L n lc xs k W ys) (hb : Below W.heap.size W W') : phF L n lc xs k W' ys := by
  unfold phF at *
  split
  · rename_i h1; rw [if_pos h1] at h; exact h.below hb
  · rename_i h1
    rw [if_neg h1] at h
    split
    · rename_i h2; rw [if_pos h2] at h; exact h.below hb
    · trivial
/-- a list of one leaf is made -/
theorem upon_leaf {o : Oper} {a : Act} {W : World} {G : Value → World → Prop} {L : Nat} (k : Nat) (t : ByteArray) (x : Operand) (ho : o.op = .buildSlice 23 1 #[(0, x)]) (hx : a.eval x = .agg (leafC k t).toArray) (hL : L ≤ W.heap.size)
    (hG : ∀ v W', Below W.heap.size W W' → Fr1 L (leafC k t) W' v → G v W') : RE.Upon Tryz.prog o a W G := by
  obtain ⟨i0, hi0, hz0, hz1, hz2⟩ := info_parts infoNode
  have hp : (#[(0, x)].map fun (x : Nat × Operand) => (x.1, a.eval x.2)).toList = [(0, .agg (leafC k t).toArray)] := by
    simp [hx]
  have hrun : (execOp a.eval o).run Tryz.prog W = .ok (.value (.slice (some ⟨W.heap.size, 0, none⟩) 1 1)) (W.alloc (.cells (leafC k t).toArray 25)) := by
    unfold execOp
    simp only [ho, Sem.run_bind]
    rw [run_buildSlice W 23 25 1 _ (leafC k t).toArray i0 _ Tryz.underlying23 hi0 hz0 (by rw [hz1]; decide) (by rw [hz1]; decide) (by rw [hz1]; exact (congrArg _ hp).trans (fill_1 (leafT k t) (.slice none 0 0)))]
    rfl
  exact RE.upon_run hrun (hG _ _ ((Below.refl _ W).alloc (Nat.le_refl _) _) ⟨_, rfl, hL, heap_alloc_new W _⟩)
end Go.Proofs.YtfpohaipmnjflaaGreatDoor
/- As RegE, its last operations in any order that they may come in. No condition. -/
namespace Go.Proofs.YtfpohaipmnjflaaGreatDoor.RE
open Go.RowKit

/-- the first m in any order, all behind them wait for these -/
def tidyG (l : List Oper) (m : Nat) (es cs : List Nat) : Bool :=
  Region.lexB .any l.toArray && decide (m ≤ l.length) && ((List.range l.length).all fun i => match l[i]? with
    | none => true
    | some o => o.after.all (fun e => !Region.binds .any e || decide (e.on < i)) && (decide (i < m) || (List.range m).all fun k => reachB l l.length i k)) &&
  cs.all (fun i => decide (i < m) && es.contains i && cs.all fun k => decide (i ≤ k) || reachB l l.length i k)
/-- the first m have been carried out -/
def firstM (n m : Nat) : Array Bool := (List.replicate m true ++ List.replicate (n - m) false).toArray
theorem firstM_size {n m : Nat} (h : m ≤ n) : (firstM n m).size = n := by
  unfold firstM; simp; omega
theorem firstM_at {n m i : Nat} (hm : m ≤ n) (hi : i < n) : (firstM n m).getD i false = decide (i < m) := by
  have e : (firstM n m).getD i false = ((List.replicate m true ++ List.replicate (n - m) false)[i]?).getD false := by unfold firstM; simp
  rw [e, List.getElem?_append, List.length_replicate]
  by_cases h : i < m
  · rw [if_pos h, List.getElem?_replicate, if_pos h]
    simp [h]
  · rw [if_neg h, List.getElem?_replicate, if_pos (by omega)]
    simp [h]
theorem firstM_eq {n m : Nat} {listed : Array Bool} (hm : m ≤ n) (hsz : listed.size = n) (h1 : ∀ i, i < m → listed.getD i false = true) (h2 : ∀ i, m ≤ i → listed.getD i false = false) : listed = firstM n m := by
  apply Array.ext
  · rw [hsz, firstM_size hm]
  · intro i hi hi'
    have e1 : listed.getD i false = listed[i] := by simp [hi]
    have e2 : (firstM n m).getD i false = (firstM n m)[i] := by simp [hi']
    rw [← e1, ← e2, firstM_at hm (by omega)]
    by_cases h : i < m
    · rw [h1 i h]; simp [h]
    · rw [h2 i (by omega)]; simp [h]
section
variable {P : Program} {l : List Oper} {w0 : World}
theorem tidyG_parts {m : Nat} {es cs : List Nat} (h : tidyG l m es cs = true) : Region.noSelect l.toArray = true ∧ Region.lexFrom .any l.toArray l.length 0 (Array.replicate l.length false) = true ∧ m ≤ l.length ∧
    (∀ (k : Nat) (o : Oper), l[k]? = some o → ∀ e ∈ o.after, Region.binds .any e = true → e.on < k) ∧ (∀ (i : Nat) (o : Oper), l[i]? = some o → m ≤ i → ∀ k, k < m → reachB l l.length i k = true) ∧
    (∀ i ∈ cs, i < m ∧ es.contains i = true ∧ ∀ k ∈ cs, k < i → reachB l l.length i k = true) := by
  unfold tidyG at h
  simp only [Bool.and_eq_true, decide_eq_true_eq] at h
  obtain ⟨⟨⟨h1, h2⟩, h3⟩, h4⟩ := h
  unfold Region.lexB at h1
  simp only [Bool.and_eq_true] at h1
  have at_ : ∀ (i : Nat) (o : Oper), l[i]? = some o → (∀ e ∈ o.after, Region.binds .any e = true → e.on < i) ∧ (m ≤ i → ∀ k, k < m → reachB l l.length i k = true) := fun i o ho => by
    have hi : i < l.length := (List.getElem?_eq_some_iff.1 ho).1
    have h5 := List.all_eq_true.1 h3 i (List.mem_range.2 hi)
    rw [ho] at h5
    simp only [Bool.and_eq_true, Bool.or_eq_true, decide_eq_true_eq] at h5
    refine ⟨fun e he hb => ?_, fun hm k hk => ?_⟩
    · have := Array.all_eq_true_iff_forall_mem.1 h5.1 e he
      simpa [hb] using this
    · rcases h5.2 with h6 | h6
      · omega
      · exact List.all_eq_true.1 h6 k (List.mem_range.2 hk)
  refine ⟨h1.1, by simpa using h1.2, h2, fun k o ho => (at_ k o ho).1, fun i o ho hm => (at_ i o ho).2 hm, fun i hi => ?_⟩
  have h5 := List.all_eq_true.1 h4 i hi
  simp only [Bool.and_eq_true, decide_eq_true_eq, List.all_eq_true, Bool.or_eq_true] at h5
  refine ⟨h5.1.1, h5.1.2, fun k hk hlt => ?_⟩
  rcases h5.2 k hk with h6 | h6
  · omega
  · exact h6
theorem wp_region_eff_any {id : Nat} {Q : Exit → Act → World → Prop} {a0 : Act} (hm : P.follows .mixedOrders = true) (m : Nat) (es cs : List Nat) (S : Nat → World → Prop) (R : World → World → Prop) (vf : Nat → List Value → Value) (φ : Nat → World → List Value → Prop)
    (ht : tidyG l m es cs = true)
    (hSg : ∀ i, es.contains i = true → cs.contains i = false → ∀ s W W', S s W → Below W.heap.size W W' → S s W') (hφ : ∀ k W W' xs, φ k W xs → (∃ s, S s W) → R W W' → φ k W' xs)
    (hS0 : S 0 w0.drew)
    (h : wpE P l es cs w0.drew S R vf φ (fun a E => ∀ W, S cs.length W → (∀ k xs, E k = some xs → φ k W xs) → wpAny P .any l.toArray Q (l.length - m) (firstM l.length m) a W) 0 (l.take m) a0 (fun _ => none)) :
    (Code.region id l.toArray true).wp P Q a0 w0 := by
  obtain ⟨t1, t2, t3, t4, t5, t6⟩ := tidyG_parts ht
  have hlen : (l.take m).length = m := by rw [List.length_take]; omega
  have htree := treeE_lex (m := m) t1 t4 (l.take m) 0 l.length (Array.replicate l.length false) a0 (fun _ => none) (fun j hj => by rw [List.getElem?_take, if_pos (by omega), Nat.zero_add]) (by omega) (by omega) (fun i hi => by omega) (by simp) (fun i o _ hl => by rw [getD_rep] at hl; cases hl) t2 h
  rw [hlen] at htree
  refine wp_region_inv hm (fun listed a W => Closed l listed ∧ (((∀ i, m ≤ i → listed.getD i false = false) ∧ ∃ fuel E, treeE P l m es cs w0.drew S R vf φ (fun a E => ∀ W, S cs.length W → (∀ k xs, E k = some xs → φ k W xs) → wpAny P .any l.toArray Q (l.length - m) (firstM l.length m) a W) fuel listed a E ∧ S (done cs listed) W ∧ ∀ k xs, E k = some xs → φ k W xs) ∨ ((∀ i, i < m → listed.getD i false = true) ∧ ∃ fuel, wpAny P .any l.toArray Q fuel listed a W))) ?_ ?_ ?_
  · refine ⟨fun i o _ hl => (by rw [getD_rep] at hl; cases hl), Or.inl ⟨fun i _ => getD_rep, m, _, htree, ?_, fun k xs h => by cases h⟩⟩
    have : done cs (Array.replicate l.length false) = 0 := by
      unfold done
      rw [List.filter_eq_nil_iff.2 fun k _ => by rw [getD_rep]; simp]; rfl
    rw [this]; exact hS0
  · intro listed a W i hI hsz hi
    obtain ⟨hcl, hI⟩ := hI
    have hsz' : listed.size = l.length := by simpa using hsz
    obtain ⟨hun, o, ho, haft⟩ := mem_ready.1 hi
    have ho' : l[i]? = some o := by simpa using ho
    have hil : i < l.length := (List.getElem?_eq_some_iff.1 ho').1
    have hunf := ready_unlisted hi
    have hcl' := closed_put hcl hsz' t4 hi
    have htail : ∀ fuel, m ≤ i → (∀ k, k < m → listed.getD k false = true) → wpAny P .any l.toArray Q fuel listed a W → wpOp P l.toArray Q i (fun a' W' => Closed l (listed.setIfInBounds i true) ∧ (((∀ k, m ≤ k → (listed.setIfInBounds i true).getD k false = false) ∧ ∃ fuel E, treeE P l m es cs w0.drew S R vf φ (fun a E => ∀ W, S cs.length W → (∀ k xs, E k = some xs → φ k W xs) → wpAny P .any l.toArray Q (l.length - m) (firstM l.length m) a W) fuel (listed.setIfInBounds i true) a' E ∧ S (done cs (listed.setIfInBounds i true)) W' ∧ ∀ k xs, E k = some xs → φ k W' xs) ∨ ((∀ k, k < m → (listed.setIfInBounds i true).getD k false = true) ∧ ∃ fuel, wpAny P .any l.toArray Q fuel (listed.setIfInBounds i true) a' W'))) a W := by
      intro fuel hge hall hw
      cases fuel with
      | zero => have := hw.1; rw [this] at hi; cases hi
      | succ fuel =>
        refine wpOp_mono (fun a' W' h => ⟨hcl', Or.inr ⟨fun k hk => ?_, fuel, h⟩⟩) (hw.2 i hi)
        rw [getD_listed_other (by omega)]; exact hall k hk
    rcases hI with ⟨hoff, fuel, E, htr, hS, hE⟩ | ⟨hall, fuel, hwp⟩
    · by_cases hge : m ≤ i
      · have hall : ∀ k, k < m → listed.getD k false = true := fun k hk => reach_listed hcl _ i k o ho' haft (t5 i o ho' hge k hk)
        have hrm : readyM l m listed = [] := by
          rw [List.eq_nil_iff_forall_not_mem]
          intro q hq
          obtain ⟨h1, h2⟩ := mem_readyM.1 hq
          have := ready_unlisted h1
          rw [hall q h2] at this; cases this
        have hQ : ∀ W, S cs.length W → (∀ k xs, E k = some xs → φ k W xs) → wpAny P .any l.toArray Q (l.length - m) (firstM l.length m) a W := by
          cases fuel with
          | zero => exact htr.2
          | succ fuel => exact htr.1 hrm
        have hw := hQ W (by rw [← done_all t6 hall]; exact hS) hE
        rw [← firstM_eq t3 hsz' hall hoff] at hw
        exact htail _ hge hall hw
      · have him : i < m := by omega
        have hunj : ∀ k, m ≤ k → (listed.setIfInBounds i true).getD k false = false := fun k hk => by rw [getD_listed_other (by omega)]; exact hoff k hk
        have hin : i ∈ readyM l m listed := mem_readyM.2 ⟨hi, him⟩
        obtain ⟨fuel', hf⟩ : ∃ f', fuel = f' + 1 := by
          cases fuel with
          | zero => have := htr.1; rw [this] at hin; cases hin
          | succ f => exact ⟨f, rfl⟩
        subst hf
        have hw : wpOp P l.toArray Q i = fun K a W => if Region.wanted o (yielded l.toArray a.tmps) = true then o.wp P a W K Q ∨ (o.asks P a W ∧ LetsOut Q) else K (a.put o.dst undef) W := by
          funext K a W; unfold wpOp; simp only [ho]
        rw [hw]
        show (if Region.wanted o (yielded l.toArray a.tmps) = true then _ else _)
        obtain ⟨p1, p2⟩ := (qOpE_at ho').1 (htr.2 i hin)
        have hC : Cl l cs S i W := ⟨_, done_le hcl hsz' hi, hS⟩
        unfold pre at p1
        unfold val env at p2
        by_cases hwd : Region.wanted o (yielded l.toArray a.tmps) = true
        · rw [if_pos hwd] at p1 ⊢
          simp only [hwd, if_true] at p2
          left
          cases hes : es.contains i with
          | true =>
            simp only [hes, if_true] at p1 p2
            refine (p1 W hC (fun hc => by rw [← (done_ready t6 hcl hsz' hi hc).1]; exact hS) (fun k xs _ he => hE k xs he)).wp (fun v W' hg => ?_)
            obtain ⟨xs, rfl, h1, h2, h3⟩ := hg
            refine ⟨hcl', Or.inl ⟨hunj, fuel', _, p2 xs, ?_, fun k ys he => ?_⟩⟩
            · cases hc : cs.contains i with
              | true => simp only [hc, if_true] at h1; rw [(done_ready t6 hcl hsz' hi hc).2]; exact h1
              | false => simp only [hc, Bool.false_eq_true, if_false] at h1; rw [done_other hc]; exact hSg i hes hc _ _ _ hS h1
            · unfold ups at he
              by_cases hki : k = i
              · rw [if_pos hki] at he; injection he with he; subst he hki; exact h3
              · rw [if_neg hki] at he; exact hφ k W W' ys (hE k ys he) ⟨_, hS⟩ h2
          | false =>
            simp only [hes, Bool.false_eq_true, if_false] at p1 p2
            have hnc : cs.contains i = false := by
              cases hc : cs.contains i with
              | false => rfl
              | true => have := (t6 i (by simpa using hc)).2.1; rw [hes] at this; cases this
            unfold Oper.wp
            rcases p1 W hC with h | ⟨h, hv⟩
            · rw [h, Oper.upon_value]; exact ⟨hcl', Or.inl ⟨hunj, fuel', E, p2 [], by rw [done_other hnc]; exact hS, hE⟩⟩
            · rw [h, Oper.upon_skip, hv.symm]; exact ⟨hcl', Or.inl ⟨hunj, fuel', E, p2 [], by rw [done_other hnc]; exact hS, hE⟩⟩
        · rw [if_neg hwd] at p1 ⊢
          simp only [hwd] at p2
          refine ⟨hcl', Or.inl ⟨hunj, fuel', E, p2 [], ?_, hE⟩⟩
          cases hc : cs.contains i with
          | true =>
            obtain ⟨d1, d2⟩ := done_ready t6 hcl hsz' hi hc
            rw [d2]; exact p1 W hc (by rw [← d1]; exact hS)
          | false => rw [done_other hc]; exact hS
    · have hge : m ≤ i := by
        rcases Nat.lt_or_ge i m with h | h
        · rw [hall i h] at hunf; cases hunf
        · exact h
      exact htail fuel hge hall hwp
  · intro listed a W hI hsz hr
    obtain ⟨hcl, hI⟩ := hI
    have hsz' : listed.size = l.length := by simpa using hsz
    have hall := all_listed t4 hsz' (Nat.le_refl l.length) (fun i hi => by rw [hr] at hi; cases hi)
    rcases hI with ⟨hoff, fuel, E, htr, hS, hE⟩ | ⟨_, fuel, hwp⟩
    · have hml : m = l.length := by
        rcases Nat.lt_or_ge m l.length with h | h
        · have h1 := hall m h
          rw [hoff m (Nat.le_refl _)] at h1; cases h1
        · omega
      have hrm : readyM l m listed = [] := by unfold readyM; rw [hr]; rfl
      have hQ : ∀ W, S cs.length W → (∀ k xs, E k = some xs → φ k W xs) → wpAny P .any l.toArray Q (l.length - m) (firstM l.length m) a W := by
        cases fuel with
        | zero => exact htr.2
        | succ fuel => exact htr.1 hrm
      have h := hQ W (by rw [← done_all t6 (fun i hi => hall i (by omega))]; exact hS) hE
      have h0 : l.length - m = 0 := by omega
      rw [h0] at h
      exact h.2
    · cases fuel with
      | zero => exact hwp.2
      | succ fuel => exact hwp.1 hr
end
end Go.Proofs.YtfpohaipmnjflaaGreatDoor.RE
/- turned, where a kid comes at the end: what memory holds then. No condition. -/
namespace Go.Proofs.YtfpohaipmnjflaaGreatDoor
open Go.RowKit

/-- cells stored in the midst of a block that is known whole -/
theorem scT_heap {g : Nat} {t : TypeId} : ∀ (vs : List Value) (o : Nat) (w : World) (cs : Array Value), w.heap[g]? = some (.cells cs t (0, 0)) → o + vs.length ≤ cs.size →
    ∃ cs' : Array Value, (w.setCells g o vs).heap[g]? = some (.cells cs' t (0, 0)) ∧ cs'.size = cs.size ∧ (∀ i v, vs[i]? = some v → cs'[o + i]? = some v) ∧ ∀ k, k < o ∨ o + vs.length ≤ k → cs'[k]? = cs[k]? := by
  intro vs
  induction vs with
  | nil => intro o w cs h _; exact ⟨cs, h, rfl, fun i v hv => by simp at hv, fun _ _ => rfl⟩
  | cons x r ih =>
    intro o w cs h hl
    simp only [List.length_cons] at hl
    obtain ⟨cs', h1, h2, h3, h4⟩ := ih (o + 1) _ _ (heap_set h o x) (by simpa using (by omega))
    refine ⟨cs', h1, by simpa using h2, fun i v hv => ?_, fun k hk => ?_⟩
    · cases i with
      | zero =>
        simp at hv
        subst hv
        rw [Nat.add_zero, h4 o (Or.inl (by omega)), Array.getElem?_setIfInBounds_self, if_pos (by omega)]
      | succ i =>
        have := h3 i v (by simpa using hv)
        rw [show o + 1 + i = o + (i + 1) by omega] at this
        exact this
    · simp only [List.length_cons] at hk
      rw [h4 k (by omega), Array.getElem?_setIfInBounds_ne (by omega)]
theorem scT_other {g b : Nat} (hb : b ≠ g) : ∀ (vs : List Value) (o : Nat) (w : World), (w.setCells g o vs).heap[b]? = w.heap[b]? := by
  intro vs
  induction vs with
  | nil => intro o w; rfl
  | cons x r ih => intro o w; exact (ih (o + 1) _).trans (heap_setCell_other w ⟨g, o, none⟩ b x hb)
theorem scT_rest {g : Nat} : ∀ (vs : List Value) (o : Nat) (w : World), (w.setCells g o vs).heap.size = w.heap.size ∧ (w.setCells g o vs).os = w.os ∧ (w.setCells g o vs).tape = w.tape ∧ (w.setCells g o vs).output = w.output := by
  intro vs
  induction vs with
  | nil => intro o w; exact ⟨rfl, rfl, rfl, rfl⟩
  | cons x r ih => intro o w; obtain ⟨h1, h2, h3, h4⟩ := ih (o + 1) (w.setCell ⟨g, o, none⟩ x); exact ⟨h1.trans (by simp [World.setCell]), h2, h3, h4⟩
/-- a kid's cells stored at the end of a list that was made longer; the row of it -/
theorem row_stored {W W' : World} {g n cap : Nat} {xs z lc : List Value} (hown : W.ownsRow 0 25 5 (.slice (some ⟨g, 0, none⟩) (n + 1) cap) (n + 1) (xs ++ z)) (hx : xs.length = n * 5) (hl : lc.length = 5) (hg : W'.heap[g]? = (W.setCells g (n * 5) lc).heap[g]?) :
    W'.ownsRow 0 25 5 (.slice (some ⟨g, 0, none⟩) (n + 1) cap) (n + 1) (xs ++ lc) := by
  obtain ⟨hlen, ⟨h, _⟩ | ⟨g1, cap1, cur, h, _, hc, h2, h3, h4, h5⟩⟩ := hown
  · cases h
  · injection h with e1 _ e3
    injection e1 with e1
    injection e1 with e1
    subst e1; subst e3
    rw [List.length_append, hx] at hlen
    have hcap : (n + 1) * 5 ≤ cur.size := by rw [h4]; exact Nat.mul_le_mul_right 5 h2
    obtain ⟨cs', c1, c2, c3, c4⟩ := scT_heap lc (n * 5) W cur hc (by omega)
    refine ⟨by rw [List.length_append]; omega, Or.inr ⟨g, cap, cs', rfl, Nat.zero_le _, hg.trans c1, h2, h3, c2.trans h4, ?_⟩⟩
    apply List.ext_getElem?
    intro i
    rw [List.getElem?_take]
    have h6 : ∀ j, j < (n + 1) * 5 → cur[j]? = (xs ++ z)[j]? := fun j hj => by
      rw [← h5, List.getElem?_take, if_pos hj]; simp
    by_cases hi : i < n * 5
    · rw [if_pos (by omega), List.getElem?_append_left (by omega)]
      have := c4 i (Or.inl hi)
      rw [h6 i (by omega), List.getElem?_append_left (by omega)] at this
      simpa using this
    · by_cases hi2 : i < (n + 1) * 5
      · rw [if_pos hi2, List.getElem?_append_right (by omega), hx]
        obtain ⟨v, hv⟩ : ∃ v, lc[i - n * 5]? = some v := ⟨_, List.getElem?_eq_getElem (by omega)⟩
        have := c3 (i - n * 5) v hv
        rw [show n * 5 + (i - n * 5) = i by omega] at this
        rw [hv]
        simpa using this
      · rw [if_neg hi2, List.getElem?_eq_none]
        rw [List.length_append]; omega
/-- a kid at the end -/
theorem arm_back {d b off q n g cap k : Nat} {cs : Array Value} {F : Nat → Prop} {w W4 WA W : World} {T : Tree} {s : Value} {t : ByteArray} {xs z : List Value} {Fs : Nat → Nat → Prop} (hW : Below w.heap.size w W4) (hb : w.heap[b]? = some (.cells cs 25 (0, 0))) (hin : NodeIn cs off T s) (hF : ∀ x, F x → x < w.heap.size ∧ x ≠ b ∧ x ≠ q)
    (hq : w.heap[q]? = some (.cells #[.int .i64 0] 3 (0, 0))) (hqb : q ≠ b) (hn : T.kids.length = n) (ho : OwnAt w d T.kids s F) (hxs : xs.length = n * 5) (hk : k < 256) (htx : t.size ≤ 1000)
    (hrow : ∀ i u, T.kids[i]? = some u → Fits u ∧ ∃ v, (∀ m z, (nodeCells u v)[m]? = some z → xs[i * 5 + m]? = some z) ∧ ∃ d', d = d' + 1 ∧ OwnAt w d' u.kids v (Fs i)) (hsF : ∀ g, s.ownBlock = some g → F g) (hFs : ∀ i x, Fs i x → F x ∧ s.ownBlock ≠ some x) (hdis : ∀ i j x, i ≠ j → Fs i x → ¬ Fs j x)
    (hf : Fits T) (ht : TxtA T) (hg : s.ownBlock = some g ∨ W4.heap.size ≤ g) (hC : Chg (fun x => s.ownBlock = some x) W4 WA) (hown : WA.ownsRow 0 25 5 (.slice (some ⟨g, 0, none⟩) (n + 1) cap) (n + 1) (xs ++ z))
    (hgW : W.heap[g]? = (WA.setCells g (n * 5) (leafC k t)).heap[g]?) (hbW : W.heap[b]? = some (.cells (cs.setIfInBounds (off + 4) (.slice (some ⟨g, 0, none⟩) (n + 1) cap)) 25 (0, 0))) (hoth : ∀ x, x ≠ g → x ≠ b → W.heap[x]? = WA.heap[x]?)
    (hsz : W.heap.size = WA.heap.size) (hos : W.os = WA.os) (htp : W.tape = WA.tape) (hout : W.output = WA.output) :
    TurnedTo (d + 1) b off q cs F w (2 * manyF d T) 0 W := by
  have hbw : b < w.heap.size := (Array.getElem?_eq_some_iff.1 hb).1
  have hqw : q < w.heap.size := (Array.getElem?_eq_some_iff.1 hq).1
  have hkl : (T.kids ++ [leafT k t]).length = n + 1 := by rw [List.length_append, hn]; rfl
  have hgF : F g ∨ w.heap.size ≤ g := by
    rcases hg with h | h
    · exact Or.inl (hsF g h)
    · exact Or.inr (Nat.le_trans hW.size h)
  have hgq : q ≠ g := by
    rcases hgF with h | h
    · exact fun e => (hF g h).2.2 e.symm
    · omega
  have hsx : ∀ x, x < w.heap.size → ¬ F x → s.ownBlock ≠ some x := fun x _ hx e => hx (hsF x e)
  have hkeep : ∀ x, x < w.heap.size → x ≠ b → x ≠ g → s.ownBlock ≠ some x → W.heap[x]? = w.heap[x]? := fun x hx h1 h2 h3 => (hoth x h2 h1).trans ((hC.block x (Nat.lt_of_lt_of_le hx hW.size) h3).trans (hW.block x hx))
  have hch : Chg (fun x => F x ∨ x = b ∨ x = q) w W := by
    refine ⟨hos.trans (hC.os.trans hW.os), htp.trans (hC.tape.trans hW.tape), hout.trans (hC.output.trans hW.output), by rw [hsz]; exact Nat.le_trans hW.size hC.size, fun x hx hnot => ?_⟩
    have n1 : ¬ F x := fun h => hnot (Or.inl h)
    refine hkeep x hx (fun h => hnot (Or.inr (Or.inl h))) (fun h => ?_) (hsx x hx n1)
    subst h
    rcases hgF with h | h
    · exact n1 h
    · omega
  refine arm_more (ks := T.kids ++ [leafT k t]) (xs := xs ++ leafC k t) (Fs := fun i x => i < n ∧ Fs i x) hch hbW ((hkeep q hqw hqb hgq (hsx q hqw fun h => (hF q h).2.2 rfl)).trans hq) hin hF ?_ (fun x hx => by injection hx with hx; have hx : g = x := hx; subst hx; exact hgF) (fun i u hi => ?_) (fun i x _ hx => ?_) (fun i j x _ _ hij hx hx' => hdis i j x hij hx.2 hx'.2) hf ht (many_back (ho.kids (B := w.heap.size) fun x hx => (hF x hx).1))
  · rw [hkl]; exact row_stored hown hxs rfl hgW
  · by_cases hin' : i < n
    · rw [List.getElem?_append_left (by omega)] at hi
      obtain ⟨r1, v, r2, d', hd, r3⟩ := hrow i u hi
      subst hd
      refine ⟨r1, ht.kid u (List.mem_of_getElem? hi), v, fun m z hm => ?_, ?_⟩
      · have := r2 m z hm
        rw [List.getElem?_append_left (by have := (List.getElem?_eq_some_iff.1 this).1; exact this)]
        exact this
      · refine (r3.keep fun x o hx h => ?_).more.sub fun x hx => ⟨hin', hx⟩
        obtain ⟨z1, z2⟩ := hFs i x hx
        refine (hkeep x (hF x z1).1 (hF x z1).2.1 (fun e => ?_) z2).trans h
        subst e
        rcases hg with h | h
        · exact z2 h
        · have := (hF x z1).1; have := hW.size; omega
    · have hil : i < (T.kids ++ [leafT k t]).length := (List.getElem?_eq_some_iff.1 hi).1
      obtain rfl : i = n := by omega
      rw [List.getElem?_append_right (by omega), hn, Nat.sub_self] at hi
      simp only [List.getElem?_cons_zero, Option.some.injEq] at hi
      subst hi
      refine ⟨leaf_fits hk htx, leaf_txt htx, .slice none 0 0, fun m z hm => ?_, leaf_own _ _ _ _ _⟩
      rw [List.getElem?_append_right (by omega), hxs, Nat.add_sub_cancel_left]
      exact hm
  · obtain ⟨z1, z2⟩ := hFs i x hx.2
    refine ⟨z1, fun e => ?_⟩
    injection e with e
    have e : g = x := e
    subst e
    rcases hg with h | h
    · exact z2 h
    · have := (hF g z1).1; have := hW.size; omega
/-- one node appended to a list of one's own: in place where there is room, in a new block where there is none -/
theorem append_one {W : World} {p : Option Addr} {n c g9 : Nat} {xs z : List Value} (ty : TypeId) (hown : W.ownsRow 0 25 5 (.slice p n c) n xs) (hz : W.heap[g9]? = some (.cells z.toArray 25 (0, 0))) (hzl : z.length = 5) (h1 : ∀ u ∈ z, u.oneCell' = true) (hn : n ≤ 10000) :
    ∃ v' w', (Builtin.append_ #[23, 23] ty #[.slice p n c, .slice (some ⟨g9, 0, none⟩) 1 1]).run Tryz.prog W = .ok v' w' ∧ w'.ownsRow 0 25 5 v' (n + 1) (xs ++ z) ∧
      ((n < c ∧ ∃ g, p = some ⟨g, 0, none⟩ ∧ v' = .slice p (n + 1) c ∧ W.grownBy w' (some g)) ∨ (¬ n < c ∧ ∃ cap, v' = .slice (some ⟨W.heap.size, 0, none⟩) (n + 1) cap ∧ Below W.heap.size W w')) := by
  obtain ⟨i0, hi0, hz0, hz1, hz2⟩ := info_parts infoNode
  have hnews : ∀ j u, z[j]? = some u → W.cell? ((⟨g9, 0, none⟩ : Addr).add j) = some u := fun j u hj => by
    have e : (⟨g9, 0, none⟩ : Addr).add j = ⟨g9, j, none⟩ := by
      unfold Addr.add
      by_cases h0 : j = 0
      · subst h0; rfl
      · rw [if_neg h0]; simp
    rw [e, cell_of_row _ _ _ _ _ _ hz]
    simpa using hj
  obtain ⟨v', w', hr, hown', hcase⟩ := run_append_both (P := Tryz.prog) W 0 23 ty 25 i0 _ 5 64 Tryz.underlying23 hi0 hz0 hz1 hz2 rfl (by decide) (.slice p n c) n xs hown ⟨g9, 0, none⟩ 1 1 z (by omega) hnews h1 (by unfold maxLen; omega) (by omega) (Nat.zero_le _) (by decide)
  refine ⟨v', w', hr, hown', ?_⟩
  rcases hcase with ⟨g, cap, e1, e2, e3⟩ | ⟨cap, e1, e2⟩
  · injection e1 with f1 f2 f3
    subst f1; subst f3; subst e2
    left
    refine ⟨?_, g, rfl, rfl, e3⟩
    rcases hown'.2 with ⟨h, _⟩ | ⟨_, _, _, h, _, _, h2, _⟩
    · cases h
    · injection h with _ _ h3
      omega
  · right
    refine ⟨fun hc => ?_, cap, e1, e2⟩
    rcases hown.2 with ⟨h, h0⟩ | ⟨g, cap2, cur, h, _, hg, h2, h3, h4, h5⟩
    · injection h with _ _ h3; omega
    · injection h with f1 _ f3
      subst f1; subst f3
      have hr2 := run_append_room (P := Tryz.prog) W 23 ty 25 i0 Tryz.underlying23 hi0 g n c cur hg ⟨g9, 0, none⟩ 1 1 z (by rw [hz1]; omega) hnews h1 (by omega) (by
        rw [hz1, h4]
        have := Nat.mul_le_mul_right 5 (show n + 1 ≤ c from hc)
        omega)
      rw [hr] at hr2
      injection hr2 with e4 _
      rw [e1] at e4
      injection e4 with e5 _ _
      injection e5 with e5
      injection e5 with e5
      have := (Array.getElem?_eq_some_iff.1 hg).1
      omega
/-- memory behind the append of a zero node: in place, or only new blocks -/
def BackS (w4 : World) (p : Option Addr) (n c : Nat) (row : List Value) (W : World) : Prop :=
  if n < c then Chg (fun x => (Value.slice p n c).ownBlock = some x) w4 W ∧ W.ownsRow 0 25 5 (.slice p (n + 1) c) (n + 1) row else ∃ x : Wb w4, W = x.1
/-- what is known of the longer list's value -/
def BackV (w4 : World) (p : Option Addr) (n c : Nat) (row : List Value) (W : World) (v : Value) : Prop :=
  if n < c then v = .slice p (n + 1) c ∧ ∃ g, p = some ⟨g, 0, none⟩ else ∃ g cap, v = .slice (some ⟨g, 0, none⟩) (n + 1) cap ∧ w4.heap.size ≤ g ∧ W.ownsRow 0 25 5 v (n + 1) row
/-- what came behind a world stays -/
def BackR (w4 W W' : World) : Prop := ∀ b, w4.heap.size ≤ b → b < W.heap.size → W'.heap[b]? = W.heap[b]?
theorem BackR.of_below {w4 W W' : World} (h : Below W.heap.size W W') : BackR w4 W W' := fun b _ hb => h.block b hb
def phB (w4 : World) (p : Option Addr) (n c : Nat) (z row : List Value) (k : Nat) (W : World) (ys : List Value) : Prop :=
  if k = 9 then Fr1 w4.heap.size z W (at0 ys) else if k = 10 then BackV w4 p n c row W (at0 ys) else True
theorem phB.keep {w4 : World} {p : Option Addr} {n c : Nat} {z row : List Value} {k : Nat} {W W' : World} {ys : List Value} (h : phB w4 p n c z row k W ys) (hR : BackR w4 W W') : phB w4 p n c z row k W' ys := by
  unfold phB at *
  split
  · rename_i h1
    rw [if_pos h1] at h
    obtain ⟨g, e1, e2, e3⟩ := h
    exact ⟨g, e1, e2, (hR g e2 (Array.getElem?_eq_some_iff.1 e3).1).trans e3⟩
  · rename_i h1
    rw [if_neg h1] at h
    split
    · rename_i h2
      rw [if_pos h2] at h
      unfold BackV at *
      split
      · rename_i h3; rw [if_pos h3] at h; exact h
      · rename_i h3
        rw [if_neg h3] at h
        obtain ⟨g, cap, e1, e2, e3⟩ := h
        refine ⟨g, cap, e1, e2, owns_keep e3 fun g' hg' => ?_⟩
        have hb := (own_block e3 g' hg').2
        rw [e1] at hg'
        injection hg' with hg'
        have hg' : g = g' := hg'
        subst hg'
        exact hR g e2 hb
    · trivial
theorem leaf_one (k : Nat) (t : ByteArray) : ∀ u ∈ leafC k t, u.oneCell' = true := by
  simp [leafC, leafT, nodeCells, Value.oneCell']
/-- the append of a leaf, as an operation -/
theorem upon_back {o : Oper} {a : Act} {W w4 : World} {G : Value → World → Prop} {g9 n c k : Nat} {t : ByteArray} {p : Option Addr} {xs : List Value} (s y : Operand) (hop : o.op = .call { callee := .builtin .append, args := #[s, y], argTypes := #[23, 23] })
    (hs : a.eval s = .slice p n c) (hy : a.eval y = .slice (some ⟨g9, 0, none⟩) 1 1) (hg9 : W.heap[g9]? = some (.cells (leafC k t).toArray 25 (0, 0))) (hW : Below w4.heap.size w4 W) (hown : w4.ownsRow 0 25 5 (.slice p n c) n xs) (hn : n ≤ 10000)
    (hG : ∀ v' W', BackS w4 p n c (xs ++ leafC k t) W' → BackR w4 W W' → BackV w4 p n c (xs ++ leafC k t) W' v' → G v' W') : RE.Upon Tryz.prog o a W G := by
  obtain ⟨v', w', hr, hown', hcase⟩ := append_one (p := p) (c := c) (z := leafC k t) o.type (owns_below hown hW) hg9 rfl (leaf_one k t) hn
  have hrun : (execOp a.eval o).run Tryz.prog W = .ok (.value v') w' := by
    simp [execOp, hop, resolve, invoke, builtin, hs, hy, hr, Result.andThen]
  refine RE.upon_run hrun ?_
  rcases hcase with ⟨hc, g, rfl, rfl, hgr⟩ | ⟨hc, cap, rfl, hb⟩
  · have hg : g < w4.heap.size := (own_block hown g rfl).2
    refine hG _ _ ?_ (fun b hb hb' => hgr.block b hb' (fun e => by injection e with e; omega)) ?_
    · unfold BackS
      rw [if_pos hc]
      refine ⟨⟨hgr.os.trans hW.os, hgr.tape.trans hW.tape, hgr.output.trans hW.output, Nat.le_trans hW.size hgr.size, fun x hx hne => ?_⟩, hown'⟩
      exact (hgr.block x (Nat.lt_of_lt_of_le hx hW.size) (fun e => hne e.symm)).trans (hW.block x hx)
    · unfold BackV
      rw [if_pos hc]
      exact ⟨rfl, g, rfl⟩
  · refine hG _ _ ?_ (BackR.of_below hb) ?_
    · unfold BackS
      rw [if_neg hc]
      exact ⟨⟨w', hW.trans (hb.mono hW.size)⟩, rfl⟩
    · unfold BackV
      rw [if_neg hc]
      exact ⟨_, cap, rfl, hW.size, hown'⟩
/-- both at once -/
theorem back_end {w4 W : World} {p : Option Addr} {n c : Nat} {row : List Value} {v : Value} (hS : BackS w4 p n c row W) (hV : BackV w4 p n c row W v) :
    ∃ g cap, v = .slice (some ⟨g, 0, none⟩) (n + 1) cap ∧ ((Value.slice p n c).ownBlock = some g ∨ w4.heap.size ≤ g) ∧ Chg (fun x => (Value.slice p n c).ownBlock = some x) w4 W ∧ W.ownsRow 0 25 5 (.slice (some ⟨g, 0, none⟩) (n + 1) cap) (n + 1) row := by
  unfold BackS at hS
  unfold BackV at hV
  by_cases hc : n < c
  · rw [if_pos hc] at hS hV
    obtain ⟨h1, h2⟩ := hS
    obtain ⟨rfl, g, rfl⟩ := hV
    exact ⟨g, c, rfl, Or.inl rfl, h1, h2⟩
  · rw [if_neg hc] at hS hV
    obtain ⟨x, rfl⟩ := hS
    obtain ⟨g, cap, rfl, h2, h3⟩ := hV
    exact ⟨g, cap, rfl, Or.inr h2, Chg.of_below x.2, h3⟩
theorem BackS.below {w4 W W' : World} {p : Option Addr} {n c : Nat} {row : List Value} (h : BackS w4 p n c row W) (hb : Below W.heap.size W W') : BackS w4 p n c row W' := by
  unfold BackS at *
  by_cases hc : n < c
  · rw [if_pos hc] at h ⊢
    exact ⟨h.1.trans (Chg.of_below hb), owns_below h.2 hb⟩
  · rw [if_neg hc] at h ⊢
    obtain ⟨x, rfl⟩ := h
    exact ⟨⟨W', x.2.trans (hb.mono x.2.size)⟩, rfl⟩
/-- worlds in which one block is as it was -/
def Kb (w : World) (b : Nat) := {W : World // W.heap[b]? = w.heap[b]?}
instance (w : World) (b : Nat) : Nonempty (Kb w b) := ⟨⟨w, rfl⟩⟩
theorem Kb.cell {w : World} {b o : Nat} (x : Kb w b) {v : Value} (h : w.cell? ⟨b, o, none⟩ = some v) : x.1.cell? ⟨b, o, none⟩ = some v := by
  have e : x.1.cell? ⟨b, o, none⟩ = w.cell? ⟨b, o, none⟩ := by unfold World.cell?; rw [x.2]
  rw [e]; exact h
theorem back_kb {w4 : World} {p : Option Addr} {n c b : Nat} {row : List Value} (hb : b < w4.heap.size) (hne : (Value.slice p n c).ownBlock ≠ some b) : ∀ (m s : Nat) (W : World), s ≤ m → (if s = 0 then (∃ x : Wb w4, W = x.1) else BackS w4 p n c row W) → ∃ x : Kb w4 b, W = x.1 := fun m s W _ h => by
  refine ⟨⟨W, ?_⟩, rfl⟩
  split at h
  · obtain ⟨x, rfl⟩ := h
    exact x.2.block b hb
  · unfold BackS at h
    split at h
    · exact h.1.block b hb (fun e => hne e)
    · obtain ⟨x, rfl⟩ := h
      exact x.2.block b hb
section
variable {P : Program} {ops : Array Oper} {Q : Exit → Act → World → Prop} {K : Act → World → Prop} {a : Act} {W W' : World} {o : Oper} {i fuel : Nat} {listed : Array Bool}
theorem wpOp_val {v : Value} (ho : ops[i]? = some o) (hg : o.guard = none) (hrun : (execOp a.eval o).run P W = .ok (.value v) W') (h : K (a.put o.dst v) W') : wpOp P ops Q i K a W := by
  unfold wpOp
  simp only [ho]
  rw [if_pos (by unfold Region.wanted; rw [hg])]
  left
  unfold Oper.wp
  rw [hrun, Oper.upon_value]; exact h
theorem wpOp_skip (ho : ops[i]? = some o) (hg : o.guard = none) (hrun : (execOp a.eval o).run P W = .ok .skip W') (h : K (a.put o.dst undef) W') : wpOp P ops Q i K a W := by
  unfold wpOp
  simp only [ho]
  rw [if_pos (by unfold Region.wanted; rw [hg])]
  left
  unfold Oper.wp
  rw [hrun, Oper.upon_skip]; exact h
end
theorem back_size {w4 W : World} {p : Option Addr} {n c s : Nat} {row : List Value} (h : if s = 0 then (∃ x : Wb w4, W = x.1) else BackS w4 p n c row W) : w4.heap.size ≤ W.heap.size := by
  split at h
  · obtain ⟨x, rfl⟩ := h; exact x.2.size
  · unfold BackS at h
    split at h
    · exact h.1.size
    · obtain ⟨x, rfl⟩ := h; exact x.2.size
end Go.Proofs.YtfpohaipmnjflaaGreatDoor
/- The last operations of a region in two chains, in whatever order they come; those that put a kid at a list's end. No condition. -/
namespace Go.Proofs.YtfpohaipmnjflaaGreatDoor
open Go.RowKit

/-- two chains of operations, each in its own order, one among the other as may be -/
theorem wpAny_grid {P : Program} {ops : Array Oper} {Q : Exit → Act → World → Prop} (St : Nat → Nat → Act → World → Prop) (L : Nat → Nat → Array Bool) (p q m k : Nat)
    (hr : ∀ i j, i ≤ p → j ≤ q → Region.ready .any ops (L i j) = (if i < p then [m + i] else []) ++ (if j < q then [k + j] else []))
    (hL1 : ∀ i j, i < p → j ≤ q → (L i j).setIfInBounds (m + i) true = L (i + 1) j) (hL2 : ∀ i j, i ≤ p → j < q → (L i j).setIfInBounds (k + j) true = L i (j + 1))
    (h1 : ∀ i j a W, i < p → j ≤ q → St i j a W → wpOp P ops Q (m + i) (St (i + 1) j) a W) (h2 : ∀ i j a W, i ≤ p → j < q → St i j a W → wpOp P ops Q (k + j) (St i (j + 1)) a W)
    (he : ∀ a W, St p q a W → Q .normal a W) : ∀ f i j a W, i ≤ p → j ≤ q → f = (p - i) + (q - j) → St i j a W → wpAny P .any ops Q f (L i j) a W := by
  intro f
  induction f with
  | zero =>
    intro i j a W hi hj hf hs
    obtain rfl : i = p := by omega
    obtain rfl : j = q := by omega
    refine ⟨?_, he a W hs⟩
    rw [hr i j (Nat.le_refl _) (Nat.le_refl _)]
    simp
  | succ f ih =>
    intro i j a W hi hj hf hs
    refine ⟨fun h0 => ?_, fun x hx => ?_⟩
    · rw [hr i j hi hj] at h0
      have hlt : i < p ∨ j < q := by omega
      rcases hlt with h | h
      · rw [if_pos h] at h0; cases h0
      · rw [if_pos h] at h0; simp at h0
    · rw [hr i j hi hj, List.mem_append] at hx
      rcases hx with hx | hx
      · by_cases h : i < p
        · rw [if_pos h] at hx
          obtain rfl := List.mem_singleton.1 hx
          rw [hL1 i j h hj]
          exact wpOp_mono (fun a' W' hs' => ih (i + 1) j a' W' (by omega) hj (by omega) hs') (h1 i j a W h hj hs)
        · rw [if_neg h] at hx; cases hx
      · by_cases h : j < q
        · rw [if_pos h] at hx
          obtain rfl := List.mem_singleton.1 hx
          rw [hL2 i j hi h]
          exact wpOp_mono (fun a' W' hs' => ih i (j + 1) a' W' hi (by omega) (by omega) hs') (h2 i j a W hi h hs)
        · rw [if_neg h] at hx; cases hx
def Lg (i j : Nat) : Array Bool := #[true, true, true, true, true, true, true, true, true, true, true, decide (1 ≤ i), decide (2 ≤ i), decide (1 ≤ j), decide (2 ≤ j), decide (3 ≤ j)]
theorem Lg_one : ∀ i j, i < 2 → j ≤ 3 → (Lg i j).setIfInBounds (11 + i) true = Lg (i + 1) j := by
  intro i j hi hj
  match i, hi with
  | 0, _ => simp [Lg]
  | 1, _ => simp [Lg]
theorem Lg_two : ∀ i j, i ≤ 2 → j < 3 → (Lg i j).setIfInBounds (13 + j) true = Lg i (j + 1) := by
  intro i j hi hj
  match j, hj with
  | 0, _ => simp [Lg]
  | 1, _ => simp [Lg]
  | 2, _ => simp [Lg]
theorem scT_cong {g : Nat} {t : TypeId} : ∀ (vs : List Value) (o : Nat) (W V : World) (cs : Array Value), W.heap[g]? = some (.cells cs t (0, 0)) → V.heap[g]? = some (.cells cs t (0, 0)) → (W.setCells g o vs).heap[g]? = (V.setCells g o vs).heap[g]? := by
  intro vs
  induction vs with
  | nil => intro o W V cs h k; exact h.trans k.symm
  | cons x r ih => intro o W V cs h k; exact ih (o + 1) _ _ _ (heap_set h o x) (heap_set k o x)
/-- memory behind some of the two stores -/
structure BkW (WA : World) (g b off n : Nat) (cs : Array Value) (lc : List Value) (sl : Value) (e s : Bool) (W : World) : Prop where
  size : W.heap.size = WA.heap.size
  os : W.os = WA.os
  tape : W.tape = WA.tape
  output : W.output = WA.output
  gb : W.heap[g]? = (if e then WA.setCells g (n * 5) lc else WA).heap[g]?
  bb : W.heap[b]? = some (.cells (if s then cs.setIfInBounds (off + 4) sl else cs) 25 (0, 0))
  oth : ∀ x, x ≠ g → x ≠ b → W.heap[x]? = WA.heap[x]?
theorem BkW.elem {WA W : World} {g b off n : Nat} {cs cur : Array Value} {lc : List Value} {sl : Value} {s : Bool} (h : BkW WA g b off n cs lc sl false s W) (hcur : WA.heap[g]? = some (.cells cur 25 (0, 0))) (hbg : b ≠ g) : BkW WA g b off n cs lc sl true s (W.setCells g (n * 5) lc) := by
  obtain ⟨r1, r2, r3, r4⟩ := scT_rest (g := g) lc (n * 5) W
  refine ⟨r1.trans h.size, r2.trans h.os, r3.trans h.tape, r4.trans h.output, ?_, (scT_other hbg lc (n * 5) W).trans h.bb, fun x hx hb => (scT_other hx lc (n * 5) W).trans (h.oth x hx hb)⟩
  have hg : W.heap[g]? = some (.cells cur 25 (0, 0)) := h.gb.trans hcur
  exact scT_cong lc (n * 5) W WA cur hg hcur
theorem BkW.list {WA W : World} {g b off n : Nat} {cs : Array Value} {lc : List Value} {sl : Value} {e : Bool} (h : BkW WA g b off n cs lc sl e false W) (hbg : b ≠ g) : BkW WA g b off n cs lc sl e true (W.setCell ⟨b, off + 4, none⟩ sl) := by
  refine ⟨by rw [← h.size]; simp [World.setCell], h.os, h.tape, h.output, (heap_setCell_other W ⟨b, off + 4, none⟩ g sl (fun e => hbg e.symm)).trans h.gb, heap_set h.bb (off + 4) sl, fun x hx hb => (heap_setCell_other W ⟨b, off + 4, none⟩ x sl hb).trans (h.oth x hx hb)⟩
theorem eval_put_ne (a : Act) (k m : Nat) (v : Value) (h : k ≠ m) : (a.put (some k) v).eval (.tmp m) = a.eval (.tmp m) := by
  simp [Act.eval, Act.put, Array.getElem?_setIfInBounds_ne h]
theorem eval_put_eq (a : Act) (k : Nat) (v : Value) (h : k < a.tmps.size) : (a.put (some k) v).eval (.tmp k) = v := by
  simp [Act.eval, Act.put, h]
theorem put_comm (a : Act) (k m : Nat) (u v : Value) (h : k ≠ m) : (a.put (some k) u).put (some m) v = (a.put (some m) v).put (some k) u := by
  simp [Act.put, Array.setIfInBounds_comm _ _ h]
/-- the frame behind some of the operations -/
def fr3 (a : Act) (s1 s2 s3 : Nat) (x1 x2 x3 : Value) (i j : Nat) : Act :=
  let a1 := if 1 ≤ j then a.put (some s2) x2 else a
  let a2 := if 2 ≤ j then a1.put (some s3) x3 else a1
  if 1 ≤ i then a2.put (some s1) x1 else a2
theorem run_fieldFour (b off : Nat) (W : World) : (Instr.fieldAt 25 (.pointer (some ⟨b, off, none⟩)) 4).run Tryz.prog W = .ok (.pointer (some ⟨b, off + 4, none⟩)) W := by kernel_rfl
theorem fr3_eval (a : Act) (s1 s2 s3 m : Nat) (x1 x2 x3 : Value) (i j : Nat) (h1 : s1 ≠ m) (h2 : s2 ≠ m) (h3 : s3 ≠ m) : (fr3 a s1 s2 s3 x1 x2 x3 i j).eval (.tmp m) = a.eval (.tmp m) := by
  unfold fr3
  split <;> split <;> split <;> simp [eval_put_ne, h1, h2, h3]
theorem fr3_one (a : Act) (s1 s2 s3 : Nat) (x1 x2 x3 : Value) (j : Nat) : (fr3 a s1 s2 s3 x1 x2 x3 0 j).put (some s1) x1 = fr3 a s1 s2 s3 x1 x2 x3 1 j := by
  unfold fr3; simp
theorem fr3_eval1 (a : Act) (s1 s2 s3 : Nat) (x1 x2 x3 : Value) (i j : Nat) (hi : 1 ≤ i) (h : s1 < a.tmps.size) : (fr3 a s1 s2 s3 x1 x2 x3 i j).eval (.tmp s1) = x1 := by
  unfold fr3
  simp only [if_pos hi]
  refine eval_put_eq _ _ _ ?_
  split <;> split <;> simpa [Act.put] using h
theorem fr3_two (a : Act) (s1 s2 s3 : Nat) (x1 x2 x3 : Value) (i : Nat) (h : s1 ≠ s2) : (fr3 a s1 s2 s3 x1 x2 x3 i 0).put (some s2) x2 = fr3 a s1 s2 s3 x1 x2 x3 i 1 := by
  unfold fr3
  simp only [show ¬ (1 ≤ 0) by omega, show ¬ (2 ≤ 0) by omega, show ¬ (2 ≤ 1) by omega, show (1 ≤ 1) by omega, if_false, if_true]
  split
  · exact put_comm _ _ _ _ _ h
  · rfl
theorem fr3_eval2 (a : Act) (s1 s2 s3 : Nat) (x1 x2 x3 : Value) (i : Nat) (h : s1 ≠ s2) (hs : s2 < a.tmps.size) : (fr3 a s1 s2 s3 x1 x2 x3 i 1).eval (.tmp s2) = x2 := by
  unfold fr3
  simp only [show ¬ (2 ≤ 1) by omega, show (1 ≤ 1) by omega, if_false, if_true]
  split
  · rw [eval_put_ne _ _ _ _ h]; exact eval_put_eq _ _ _ hs
  · exact eval_put_eq _ _ _ hs
theorem fr3_three (a : Act) (s1 s2 s3 : Nat) (x1 x2 x3 : Value) (i : Nat) (h : s1 ≠ s3) : (fr3 a s1 s2 s3 x1 x2 x3 i 1).put (some s3) x3 = fr3 a s1 s2 s3 x1 x2 x3 i 2 := by
  unfold fr3
  simp only [show ¬ (2 ≤ 1) by omega, show (1 ≤ 1) by omega, show (1 ≤ 2) by omega, show (2 ≤ 2) by omega, if_false, if_true]
  split
  · exact put_comm _ _ _ _ _ h
  · rfl
theorem fr3_eval3 (a : Act) (s1 s2 s3 : Nat) (x1 x2 x3 : Value) (i : Nat) (h : s1 ≠ s3) (hs : s3 < a.tmps.size) : (fr3 a s1 s2 s3 x1 x2 x3 i 2).eval (.tmp s3) = x3 := by
  unfold fr3
  simp only [show (1 ≤ 2) by omega, show (2 ≤ 2) by omega, if_true]
  have hz : s3 < (a.put (some s2) x2).tmps.size := by simpa [Act.put] using hs
  split
  · rw [eval_put_ne _ _ _ _ h]; exact eval_put_eq _ _ _ hz
  · exact eval_put_eq _ _ _ hz
theorem put_none (a : Act) (v : Value) : a.put none v = a := rfl
set_option maxRecDepth 100000 in
theorem run_store_one (W : World) (p : Option Addr) (n c b o : Nat) (u : Value) (hc : W.cell? ⟨b, o, none⟩ = some u) (hf : W.frozen? ⟨b, o, none⟩ = false) : (Instr.storeAt 23 (.pointer (some ⟨b, o, none⟩)) (.slice p n c)).run Tryz.prog W = .ok () (W.setCell ⟨b, o, none⟩ (.slice p n c)) := by
  simp [Instr.storeAt, Instr.sureAddr, go_sem, hc, hf]
/-- a kid at the end: the element's store and the list's, in whatever order -/
theorem back_tail {ops : Array Oper} {Q : Exit → Act → World → Prop} {a : Act} {WA : World} {g b off n cap k s89 s96 s97 s99 s1 s2 s3 : Nat} {cs cur : Array Value} {t : ByteArray} {o11 o12 o13 o14 o15 : Oper}
    (p11 : ops[11]? = some o11) (p12 : ops[12]? = some o12) (p13 : ops[13]? = some o13) (p14 : ops[14]? = some o14) (p15 : ops[15]? = some o15)
    (u11 : o11.guard = none) (u12 : o12.guard = none) (u13 : o13.guard = none) (u14 : o14.guard = none) (u15 : o15.guard = none)
    (d11 : o11.dst = some s1) (d12 : o12.dst = none) (d13 : o13.dst = some s2) (d14 : o14.dst = some s3) (d15 : o15.dst = none)
    (e11 : o11.op = .indexAddr 23 (.tmp s99) (.tmp s97)) (e12 : o12.op = .store 25 (.tmp s1) (.tmp s96)) (e13 : o13.op = .nilCheck (.tmp s89)) (e14 : o14.op = .fieldAddr 25 (.tmp s2) 4) (e15 : o15.op = .store 23 (.tmp s3) (.tmp s99))
    (hs : s89 < s96 ∧ s96 < s97 ∧ s97 < s99 ∧ s99 < s1 ∧ s1 < s2 ∧ s2 < s3 ∧ s3 < a.tmps.size)
    (hr : ∀ i j, i ≤ 2 → j ≤ 3 → Region.ready .any ops (Lg i j) = (if i < 2 then [11 + i] else []) ++ (if j < 3 then [13 + j] else []))
    (v89 : a.eval (.tmp s89) = .pointer (some ⟨b, off, none⟩)) (v96 : a.eval (.tmp s96) = .agg (leafC k t).toArray) (v97 : a.eval (.tmp s97) = .int .i64 (n : Int)) (v99 : a.eval (.tmp s99) = .slice (some ⟨g, 0, none⟩) (n + 1) cap)
    (hcur : WA.heap[g]? = some (.cells cur 25 (0, 0))) (hsz : (n + 1) * 5 ≤ cur.size) (hbb : WA.heap[b]? = some (.cells cs 25 (0, 0))) (hoff : off + 4 < cs.size) (hbg : b ≠ g)
    (hQ : ∀ W, BkW WA g b off n cs (leafC k t) (.slice (some ⟨g, 0, none⟩) (n + 1) cap) true true W → Q .normal (fr3 a s1 s2 s3 (.pointer (some ⟨g, n * 5, none⟩)) (.pointer (some ⟨b, off, none⟩)) (.pointer (some ⟨b, off + 4, none⟩)) 2 3) W) :
    wpAny Tryz.prog .any ops Q 5 (Lg 0 0) a WA := by
  obtain ⟨h1, h2, h3, h4, h5, h6, h7⟩ := hs
  have hl5 : (leafC k t).length = 5 := rfl
  refine wpAny_grid (St := fun i j a' W' => a' = fr3 a s1 s2 s3 (.pointer (some ⟨g, n * 5, none⟩)) (.pointer (some ⟨b, off, none⟩)) (.pointer (some ⟨b, off + 4, none⟩)) i j ∧ BkW WA g b off n cs (leafC k t) (.slice (some ⟨g, 0, none⟩) (n + 1) cap) (decide (2 ≤ i)) (decide (3 ≤ j)) W') Lg 2 3 11 13 hr Lg_one Lg_two ?_ ?_ (fun a' W' h => ?_) 5 0 0 a WA (by omega) (by omega) rfl ⟨rfl, ⟨rfl, rfl, rfl, rfl, rfl, hbb, fun _ _ _ => rfl⟩⟩
  · rintro i j a' W hi hj ⟨rfl, hB⟩
    have hi' : i = 0 ∨ i = 1 := by omega
    rcases hi' with rfl | rfl
    · refine wpOp_val (v := .pointer (some ⟨g, n * 5, none⟩)) (W' := W) p11 u11 ?_ ?_
      · unfold execOp
        simp only [e11, fr3_eval _ s1 s2 s3 s99 _ _ _ _ _ (by omega) (by omega) (by omega), fr3_eval _ s1 s2 s3 s97 _ _ _ _ _ (by omega) (by omega) (by omega), v99, v97, Sem.run_bind, run_at5 W g (n + 1) cap n (by omega)]
        rfl
      · rw [d11, fr3_one]
        exact ⟨rfl, hB⟩
    · have hB1 : BkW WA g b off n cs (leafC k t) (.slice (some ⟨g, 0, none⟩) (n + 1) cap) false (decide (3 ≤ j)) W := hB
      have hgW : W.heap[g]? = some (.cells cur 25 (0, 0)) := hB1.gb.trans hcur
      refine wpOp_skip (W' := W.setCells g (n * 5) (leafC k t)) p12 u12 ?_ ?_
      · exact RE.run_store_agg 25 (.tmp s1) (.tmp s96) e12 g (n * 5) (leafC k t).toArray (fr3_eval1 _ _ _ _ _ _ _ _ _ (by omega) (by omega)) ((fr3_eval _ s1 s2 s3 s96 _ _ _ _ _ (by omega) (by omega) (by omega)).trans v96) (fun j hj => ⟨by rw [cell_of_row _ _ _ _ _ _ hgW, Array.getElem?_eq_getElem (by have : j < 5 := hj; omega)]; rfl, frozen_of hgW _⟩) (by kernel_rfl) (by simp [leafC, leafT, nodeCells, Value.oneCell'])
      · rw [d12, put_none]
        exact ⟨rfl, hB1.elem hcur hbg⟩
  · rintro i j a' W hi hj ⟨rfl, hB⟩
    have hj' : j = 0 ∨ j = 1 ∨ j = 2 := by omega
    rcases hj' with rfl | rfl | rfl
    · refine wpOp_val (v := .pointer (some ⟨b, off, none⟩)) (W' := W) p13 u13 ?_ ?_
      · unfold execOp
        simp only [e13, fr3_eval _ s1 s2 s3 s89 _ _ _ _ _ (show s1 ≠ s89 by omega) (show s2 ≠ s89 by omega) (show s3 ≠ s89 by omega), v89]
        rfl
      · rw [d13, fr3_two _ _ _ _ _ _ _ _ (by omega)]
        exact ⟨rfl, hB⟩
    · refine wpOp_val (v := .pointer (some ⟨b, off + 4, none⟩)) (W' := W) p14 u14 ?_ ?_
      · unfold execOp
        simp only [e14, fr3_eval2 _ _ _ _ _ _ _ _ (show s1 ≠ s2 by omega) (show s2 < a.tmps.size by omega), Sem.run_bind, run_fieldFour b off]
        rfl
      · rw [d14, fr3_three _ _ _ _ _ _ _ _ (by omega)]
        exact ⟨rfl, hB⟩
    · have hB1 : BkW WA g b off n cs (leafC k t) (.slice (some ⟨g, 0, none⟩) (n + 1) cap) (decide (2 ≤ i)) false W := hB
      have hbW : W.heap[b]? = some (.cells cs 25 (0, 0)) := hB1.bb
      refine wpOp_skip (W' := W.setCell ⟨b, off + 4, none⟩ (.slice (some ⟨g, 0, none⟩) (n + 1) cap)) p15 u15 ?_ ?_
      · unfold execOp
        simp only [e15, fr3_eval3 _ _ _ _ _ _ _ _ (show s1 ≠ s3 by omega) (show s3 < a.tmps.size by omega), fr3_eval _ s1 s2 s3 s99 _ _ _ _ _ (show s1 ≠ s99 by omega) (show s2 ≠ s99 by omega) (show s3 ≠ s99 by omega), v99, Sem.run_bind, run_store_one W (some ⟨g, 0, none⟩) (n + 1) cap b (off + 4) (cs[off + 4]'hoff) (by rw [cell_of_row _ _ _ _ _ _ hbW, Array.getElem?_eq_getElem hoff]) (frozen_of hbW _)]
        rfl
      · rw [d15, put_none]
        exact ⟨rfl, hB1.list hbg⟩
  · obtain ⟨rfl, hB⟩ := h
    exact hQ W' hB
end Go.Proofs.YtfpohaipmnjflaaGreatDoor
