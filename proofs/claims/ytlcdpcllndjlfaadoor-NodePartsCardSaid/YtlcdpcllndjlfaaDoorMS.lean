/- Several texts joined, each with its own sentence and conditions ahead of it: OwnC, OwnD, PartsA, PartsM. -/
import Derived.Test.YtlcdpcllndjlfaaDoorMR
import Derived.Deep.MidRow
import Derived.Test.YtlcdpcllndjlfaaDoorMQ
import Derived.Test.YtlcdpcllndjlfaaDoorMJ
/- Single operations on nodes: a field's address, a list loaded, an element's address, an element loaded. No condition. -/
namespace Go.Proofs.YtlcdpcllndjlfaaDoor
open Go.RowKit

theorem run_field4 (g : Nat) (W : World) : (Instr.fieldAt 25 (.pointer (some ⟨g, 0, none⟩)) 4).run Tryd.prog W = .ok (.pointer (some ⟨g, 4, none⟩)) W := by kernel_rfl
set_option maxRecDepth 100000 in
theorem run_loadKids (W : World) (g j : Nat) (v : Value) (h : W.cell? ⟨g, j, none⟩ = some v) : (Instr.loadAt 23 (.pointer (some ⟨g, j, none⟩))).run Tryd.prog W = .ok v W := by
  simp [Instr.loadAt, Instr.sureAddr, go_sem, h]
theorem run_at5 (W : World) (g n c j : Nat) (h : j < n) : (Instr.indexAt 23 (.slice (some ⟨g, 0, none⟩) n c) (.int .i64 j)).run Tryd.prog W = .ok (.pointer (some ⟨g, j * 5, none⟩)) W := by
  have h5 : (sizeOf (Tryd.prog.elem 23)).run Tryd.prog W = .ok 5 W := by kernel_rfl
  rw [run_indexAt_slice (w := W) 23 ⟨g, 0, none⟩ n c .i64 j (by kernel_rfl), if_pos ⟨by omega, by omega⟩, h5]
  show Result.ok (Value.pointer (some ((⟨g, 0, none⟩ : Addr).add ((j : Int).toNat * 5)))) W = _
  rw [Addr.add_mid, Int.toNat_natCast, Nat.zero_add]
theorem run_loadKid (W : World) (g j : Nat) (T : Tree) (s : Value) (h : ∀ m u, (nodeCells T s)[m]? = some u → W.cell? ⟨g, j + m, none⟩ = some u) :
    (Instr.loadAt 25 (.pointer (some ⟨g, j, none⟩))).run Tryd.prog W = .ok (.agg (nodeCells T s).toArray) W := by
  exact run_loadAt_mid W g j 25 (nodeCells T s) _ h Tryd.underlying25 rfl (by kernel_rfl)
end Go.Proofs.YtlcdpcllndjlfaaDoor
/- A tree whose places are moved, in its own memory; by contract. Condition: it is not deeper than a million. -/
namespace Go.Proofs.YtlcdpcllndjlfaaDoor
open Go.RowKit

/-- the places as far on -/
def movedT : Nat → Int → Tree → Tree
  | 0, k, T => .mk T.kind T.text T.num (max T.place 0 % 1000 + k) T.kids
  | d + 1, k, T => .mk T.kind T.text T.num (max T.place 0 % 1000 + k) (T.kids.map (movedT d (k + 1)))
theorem movedT_kind (d : Nat) (k : Int) (T : Tree) : (movedT d k T).kind = T.kind ∧ (movedT d k T).text = T.text ∧ (movedT d k T).num = T.num ∧ (movedT d k T).place = max T.place 0 % 1000 + k := by
  cases d <;> exact ⟨rfl, rfl, rfl, rfl⟩
theorem movedT_kids (d : Nat) (k : Int) (T : Tree) : (movedT (d + 1) k T).kids = T.kids.map (movedT d (k + 1)) := rfl
theorem fits_moved (d : Nat) (k : Int) (T : Tree) (h : Fits T) (h0 : 0 ≤ k) (h1 : k ≤ 1000000) : Fits (movedT d k T) := by
  obtain ⟨e1, e2, e3, e4⟩ := movedT_kind d k T
  obtain ⟨f1, f2, f3, f4, _, _⟩ := h
  refine ⟨by rw [e1]; exact f1, by rw [e2]; exact f2, by rw [e3]; exact f3, by rw [e3]; exact f4, ?_, ?_⟩ <;> rw [e4] <;> omega
def MovedPost (d : Nat) (T : Tree) (k : Int) (s : Value) (F : Nat → Prop) (w : World) (e : Ending) (w' : World) : Prop :=
  e = .returned (.agg #[.int .u8 T.kind, .string T.text, .int .i64 T.num, .int .i64 (max T.place 0 % 1000 + k), s]) ∧ Chg F w w' ∧ OwnAt w' d (movedT d k T).kids s F
def MovedN (d : Nat) : Prop := ∀ (T : Tree) (s : Value) (k : Int) (F : Nat → Prop) (w : World), Fits T → OwnAt w d T.kids s F → (∀ b, F b → b < w.heap.size) → 0 ≤ k → k + deepF d T ≤ 1000000 →
  Calls Tryd.prog 8 #[.agg #[.int .u8 T.kind, .string T.text, .int .i64 T.num, .int .i64 T.place, s], .int .i64 k] w (MovedPost d T k s F w)
/-- so many kids have been moved -/
def mixK (d : Nat) (k : Int) (ks : List Tree) (j : Nat) : List Tree := (ks.take j).map (movedT (d - 1) (k + 1)) ++ ks.drop j
theorem mixK_len (d : Nat) (k : Int) (ks : List Tree) (j : Nat) : (mixK d k ks j).length = ks.length := by unfold mixK; simp; omega
theorem mixK_at {d : Nat} {k : Int} {ks : List Tree} {j : Nat} {t : Tree} (h : ks[j]? = some t) : (mixK d k ks j)[j]? = some t := by
  unfold mixK
  have hj : j < ks.length := (List.getElem?_eq_some_iff.1 h).1
  rw [List.getElem?_append_right (by simp; omega)]
  simp
  rw [show min j ks.length = j by omega, Nat.sub_self]
  simpa using h
theorem mixK_next {d : Nat} {k : Int} {ks : List Tree} {j : Nat} {t : Tree} (h : ks[j]? = some t) (i : Nat) : (mixK d k ks (j + 1))[i]? = if i = j then some (movedT (d - 1) (k + 1) t) else (mixK d k ks j)[i]? := by
  have hj : j < ks.length := (List.getElem?_eq_some_iff.1 h).1
  have hjt : ks[j] = t := (List.getElem?_eq_some_iff.1 h).2
  unfold mixK
  by_cases h1 : i < j
  · rw [if_neg (by omega), List.getElem?_append_left (by simp; omega), List.getElem?_append_left (by simp; omega)]
    simp [h1, show i < j + 1 by omega]
  · by_cases h2 : i = j
    · subst h2
      rw [if_pos rfl, List.getElem?_append_left (by simp; omega)]
      simp [h]
    · rw [if_neg h2, List.getElem?_append_right (by simp; omega), List.getElem?_append_right (by simp; omega)]
      simp
      congr 1
      omega
def MovRel (w : World) (d : Nat) (T : Tree) (k : Int) (s : Value) (F : Nat → Prop) (i : Value) (W : World) : Prop :=
  ∃ (W1 : World) (j : Nat), W1 = W ∧ j ≤ T.kids.length ∧ i = .int .i64 j ∧ Chg F w W1 ∧ W1.heap[w.heap.size]? = some (.cells #[.int .u8 T.kind, .string T.text, .int .i64 T.num, .int .i64 (max T.place 0 % 1000 + k), s] 25 (0, 0)) ∧
    W1.heap[w.heap.size + 1]? = some (.cells #[.int .u8 0, .string ⟨#[]⟩, .int .i64 0, .int .i64 0, .slice none 0 0] 25 (0, 0)) ∧ OwnAt W1 d (mixK d k T.kids j) s F
theorem moved_fin (W : World) (Rp : Ending → World → Prop) (T : Nat) (a b c d e : Value) (hT : W.heap[T]? = some (.cells #[a, b, c, d, e] 25 (0, 0)))
    (tmps : Array Value) (h4 : tmps.getD 4 undef = .pointer (some ⟨T, 0, none⟩)) (hR : Rp (.returned (.agg #[a, b, c, d, e])) W) :
    bodyPost Tryd.prog Tryd.f8 Rp .ret ⟨tmps, []⟩ W := by
  obtain ⟨c0, c1, c2, c3, c4⟩ := cells5 hT
  have h4' : tmps[4]?.getD undef = .pointer (some ⟨T, 0, none⟩) := by simpa using h4
  refine bodyPost_ret (v := .agg #[a, b, c, d, e]) ?_ rfl hR
  simp [results, Tryd.results8, go_sem, h4', c0, c1, c2, c3, c4]
theorem frame33 (a : Act) (h : a.tmps.size = 33) (hd : a.defers = []) : ∃ y0 y1 y2 y3 y4 y5 y6 y7 y8 y9 y10 y11 y12 y13 y14 y15 y16 y17 y18 y19 y20 y21 y22 y23 y24 y25 y26 y27 y28 y29 y30 y31 y32 : Value, a = ⟨#[y0, y1, y2, y3, y4, y5, y6, y7, y8, y9, y10, y11, y12, y13, y14, y15, y16, y17, y18, y19, y20, y21, y22, y23, y24, y25, y26, y27, y28, y29, y30, y31, y32], []⟩ := by
  obtain ⟨⟨L⟩, D⟩ := a
  have hd' : D = [] := hd
  subst hd'
  have k0 : L.length = 33 := h
  clear h hd
  obtain ⟨y0, L0, rfl, k1⟩ := cons_of_len k0
  obtain ⟨y1, L1, rfl, k2⟩ := cons_of_len k1
  obtain ⟨y2, L2, rfl, k3⟩ := cons_of_len k2
  obtain ⟨y3, L3, rfl, k4⟩ := cons_of_len k3
  obtain ⟨y4, L4, rfl, k5⟩ := cons_of_len k4
  obtain ⟨y5, L5, rfl, k6⟩ := cons_of_len k5
  obtain ⟨y6, L6, rfl, k7⟩ := cons_of_len k6
  obtain ⟨y7, L7, rfl, k8⟩ := cons_of_len k7
  obtain ⟨y8, L8, rfl, k9⟩ := cons_of_len k8
  obtain ⟨y9, L9, rfl, k10⟩ := cons_of_len k9
  obtain ⟨y10, L10, rfl, k11⟩ := cons_of_len k10
  obtain ⟨y11, L11, rfl, k12⟩ := cons_of_len k11
  obtain ⟨y12, L12, rfl, k13⟩ := cons_of_len k12
  obtain ⟨y13, L13, rfl, k14⟩ := cons_of_len k13
  obtain ⟨y14, L14, rfl, k15⟩ := cons_of_len k14
  obtain ⟨y15, L15, rfl, k16⟩ := cons_of_len k15
  obtain ⟨y16, L16, rfl, k17⟩ := cons_of_len k16
  obtain ⟨y17, L17, rfl, k18⟩ := cons_of_len k17
  obtain ⟨y18, L18, rfl, k19⟩ := cons_of_len k18
  obtain ⟨y19, L19, rfl, k20⟩ := cons_of_len k19
  obtain ⟨y20, L20, rfl, k21⟩ := cons_of_len k20
  obtain ⟨y21, L21, rfl, k22⟩ := cons_of_len k21
  obtain ⟨y22, L22, rfl, k23⟩ := cons_of_len k22
  obtain ⟨y23, L23, rfl, k24⟩ := cons_of_len k23
  obtain ⟨y24, L24, rfl, k25⟩ := cons_of_len k24
  obtain ⟨y25, L25, rfl, k26⟩ := cons_of_len k25
  obtain ⟨y26, L26, rfl, k27⟩ := cons_of_len k26
  obtain ⟨y27, L27, rfl, k28⟩ := cons_of_len k27
  obtain ⟨y28, L28, rfl, k29⟩ := cons_of_len k28
  obtain ⟨y29, L29, rfl, k30⟩ := cons_of_len k29
  obtain ⟨y30, L30, rfl, k31⟩ := cons_of_len k30
  obtain ⟨y31, L31, rfl, k32⟩ := cons_of_len k31
  obtain ⟨y32, L32, rfl, k33⟩ := cons_of_len k32
  obtain rfl : L32 = [] := List.eq_nil_of_length_eq_zero k33
  exact ⟨y0, y1, y2, y3, y4, y5, y6, y7, y8, y9, y10, y11, y12, y13, y14, y15, y16, y17, y18, y19, y20, y21, y22, y23, y24, y25, y26, y27, y28, y29, y30, y31, y32, rfl⟩

/-- cells stored in the midst of a block that is known whole -/
theorem setCells_heap {g : Nat} {t : TypeId} : ∀ (vs : List Value) (o : Nat) (w : World) (cs : Array Value), w.heap[g]? = some (.cells cs t (0, 0)) → o + vs.length ≤ cs.size →
    ∃ cs' : Array Value, (w.setCells g o vs).heap[g]? = some (.cells cs' t (0, 0)) ∧ cs'.size = cs.size ∧ (∀ i v, vs[i]? = some v → cs'[o + i]? = some v) ∧ ∀ k, k < o ∨ o + vs.length ≤ k → cs'[k]? = cs[k]? := by
  intro vs
  induction vs with
  | nil => intro o w cs h _; exact ⟨cs, h, rfl, fun i v hv => by simp at hv, fun _ _ => rfl⟩
  | cons x r ih =>
    intro o w cs h hl
    simp only [List.length_cons] at hl
    obtain ⟨cs', h1, h2, h3, h4⟩ := ih (o + 1) _ _ (heap_set h o x) (by simpa using (by omega))
    refine ⟨cs', h1, by simpa using h2, fun i v hv => ?_, fun k hk => ?_⟩
    · cases i with
      | zero =>
        simp at hv
        subst hv
        rw [Nat.add_zero, h4 o (Or.inl (by omega)), Array.getElem?_setIfInBounds_self, if_pos (by omega)]
      | succ i =>
        have := h3 i v (by simpa using hv)
        rw [show o + 1 + i = o + (i + 1) by omega] at this
        exact this
    · simp only [List.length_cons] at hk
      rw [h4 k (by omega), Array.getElem?_setIfInBounds_ne (by omega)]
theorem setCells_other {g b : Nat} (hb : b ≠ g) : ∀ (vs : List Value) (o : Nat) (w : World), (w.setCells g o vs).heap[b]? = w.heap[b]? := by
  intro vs
  induction vs with
  | nil => intro o w; rfl
  | cons x r ih => intro o w; exact (ih (o + 1) _).trans (heap_setCell_other w ⟨g, o, none⟩ b x hb)
theorem setCells_rest {g : Nat} : ∀ (vs : List Value) (o : Nat) (w : World), (w.setCells g o vs).heap.size = w.heap.size ∧ (w.setCells g o vs).os = w.os ∧ (w.setCells g o vs).tape = w.tape ∧ (w.setCells g o vs).output = w.output := by
  intro vs
  induction vs with
  | nil => intro o w; exact ⟨rfl, rfl, rfl, rfl⟩
  | cons x r ih => intro o w; obtain ⟨h1, h2, h3, h4⟩ := ih (o + 1) (w.setCell ⟨g, o, none⟩ x); exact ⟨h1.trans (by simp [World.setCell]), h2, h3, h4⟩
theorem Chg.setCells {F : Nat → Prop} {a b : World} (h : Chg F a b) {g : Nat} (hg : F g ∨ a.heap.size ≤ g) (o : Nat) (vs : List Value) : Chg F a (b.setCells g o vs) := by
  obtain ⟨h1, h2, h3, h4⟩ := setCells_rest (g := g) vs o b
  exact ⟨h2.trans h.os, h3.trans h.tape, h4.trans h.output, by rw [h1]; exact h.size, fun i hi hf => (setCells_other (by rintro rfl; rcases hg with hg | hg; exact hf hg; omega) vs o b).trans (h.block i hi hf)⟩
/-- one kid of a list has been turned, its own place stored anew -/
theorem OwnAt.turn {W W' W2 : World} {d j g cap : Nat} {ks : List Tree} {F : Nat → Prop} {cs : Array Value} {Fs : Nat → Nat → Prop} {t t' : Tree} {s' : Value} (ht : ks[j]? = some t) (hft : Fits t')
    (h0 : ks ≠ []) (h1 : F g) (h2 : ks.length ≤ cap) (h3 : cap ≤ maxLen) (h5 : W.heap[g]? = some (.cells cs 25 (0, 0))) (h6 : cs.size = cap * 5)
    (h7 : ∀ i T, ks[i]? = some T → Fits T ∧ ∃ s, (∀ m u, (nodeCells T s)[m]? = some u → cs[i * 5 + m]? = some u) ∧ OwnAt W d T.kids s (Fs i))
    (h8 : ∀ i b, Fs i b → F b ∧ b ≠ g) (h9 : ∀ i j b, i ≠ j → Fs i b → ¬ Fs j b) (hF : ∀ b, F b → b < W.heap.size)
    (hch : Chg (Fs j) W W') (ho : OwnAt W' d t'.kids s' (Fs j)) (hW2 : W2 = W'.setCells g (j * 5) (nodeCells t' s')) (ks' : List Tree) (hlen : ks'.length = ks.length) (hks : ∀ i, ks'[i]? = if i = j then some t' else ks[i]?) :
    OwnAt W2 (d + 1) ks' (.slice (some ⟨g, 0, none⟩) ks.length cap) F := by
  subst hW2
  have hj : j < ks.length := (List.getElem?_eq_some_iff.1 ht).1
  have hg' : W'.heap[g]? = some (.cells cs 25 (0, 0)) := (hch.block g (hF g h1) (fun h => (h8 j g h).2 rfl)).trans h5
  have hle : j * 5 + (nodeCells t' s').length ≤ cs.size := by rw [h6]; show j * 5 + 5 ≤ _; omega
  obtain ⟨cs', c1, c2, c3, c4⟩ := setCells_heap (nodeCells t' s') (j * 5) W' cs hg' hle
  refine Or.inr ⟨g, cap, cs', Fs, ?_, h1, by rw [hlen]; exact h2, h3, by rw [hlen], c1, c2.trans h6, fun i T hT => ?_, h8, h9⟩
  · rintro rfl; simp at hlen; exact h0 (List.eq_nil_of_length_eq_zero hlen.symm)
  · rw [hks] at hT
    by_cases hij : i = j
    · rw [if_pos hij] at hT
      injection hT with hT
      subst hT hij
      refine ⟨hft, s', fun m u hu => c3 m u hu, ho.keep fun b o hb hx => (setCells_other (h8 i b hb).2 _ _ _).trans hx⟩
    · rw [if_neg hij] at hT
      obtain ⟨q1, q2, q3, q4⟩ := h7 i T hT
      refine ⟨q1, q2, fun m u hu => ?_, q4.keep fun b o hb hx => ?_⟩
      · have hm : m < 5 := (List.getElem?_eq_some_iff.1 hu).1
        rw [c4 _ (by show _ ∨ j * 5 + 5 ≤ _; omega)]
        exact q3 m u hu
      · rw [setCells_other (h8 i b hb).2, hch.block b (hF b (h8 i b hb).1) (fun h => h9 i j b hij hb h)]
        exact hx
theorem deepF_kid {d : Nat} {T t : Tree} {j : Nat} (h : T.kids[j]? = some t) : deepF d t + 1 ≤ deepF (d + 1) T := by
  show _ ≤ (T.kids.map (deepF d)).foldl Nat.max 0 + 1
  have key : ∀ (l : List Nat) (a x : Nat), (x ∈ l ∨ x ≤ a) → x ≤ l.foldl Nat.max a := by
    intro l
    induction l with
    | nil => intro a x h; simpa using h
    | cons y r ih =>
      intro a x h
      refine ih _ _ ?_
      rcases h with h | h
      · rcases List.mem_cons.1 h with rfl | h
        · exact Or.inr (Nat.le_max_right _ _)
        · exact Or.inl h
      · exact Or.inr (Nat.le_trans h (Nat.le_max_left _ _))
  have := key (T.kids.map (deepF d)) 0 (deepF d t) (Or.inl (List.mem_map.2 ⟨t, List.mem_of_getElem? h, rfl⟩))
  omega

def tyMv (wz g n c j d : Nat) (k : Int) (t : Tree) (s : Value) (G : Nat → Prop) : Nat → World → Value → Prop
  | 0 => fun _ v => v = .pointer (some ⟨wz, 4, none⟩)
  | 1 => fun _ v => v = .slice (some ⟨g, 0, none⟩) n c
  | 2 => fun _ v => v = .int .i64 j
  | 3 => fun _ v => v = .pointer (some ⟨wz, 4, none⟩)
  | 4 => fun _ v => v = .slice (some ⟨g, 0, none⟩) n c
  | 5 => fun _ v => v = .int .i64 j
  | 6 => fun _ v => v = .pointer (some ⟨g, j * 5, none⟩)
  | 7 => fun _ v => v = .agg (nodeCells t s).toArray
  | 8 => fun _ v => v = .int .i64 k
  | 9 => fun _ v => v = .int .i64 (k + 1)
  | 10 => fun W v => v = .agg #[.int .u8 t.kind, .string t.text, .int .i64 t.num, .int .i64 (max t.place 0 % 1000 + (k + 1)), s] ∧ OwnAt W d (movedT d (k + 1) t).kids s G
  | _ => fun _ _ => True
theorem tyMv_mono {wz g n c j d : Nat} {k : Int} {t : Tree} {s : Value} {G : Nat → Prop} (i : Nat) (v : Value) (W W' : World) (h : tyMv wz g n c j d k t s G i W v) (hw : i = 10 → W = W') : tyMv wz g n c j d k t s G i W' v := by
  match i, h with
  | 0, h => exact h
  | 1, h => exact h
  | 2, h => exact h
  | 3, h => exact h
  | 4, h => exact h
  | 5, h => exact h
  | 6, h => exact h
  | 7, h => exact h
  | 8, h => exact h
  | 9, h => exact h
  | 10, h => obtain rfl := hw rfl; exact h
  | _ + 11, _ => trivial

set_option maxRecDepth 100000 in
set_option maxHeartbeats 2000000 in
theorem movedN_of (d : Nat) (hN : ∀ d', d = d' + 1 → MovedN d') : MovedN d := by
  intro T s k F w hf hs hF h0 h1
  obtain ⟨p, c, rfl⟩ := hs.shape
  have hb := below_two w (.cells #[.int .u8 T.kind, .string T.text, .int .i64 T.num, .int .i64 T.place, .slice p T.kids.length c] 25) (.cells #[.int .u8 0, .string ⟨#[]⟩, .int .i64 0, .int .i64 0, .slice none 0 0] 25)
  obtain ⟨X1, X2, _⟩ := two_new' w (.cells #[.int .u8 T.kind, .string T.text, .int .i64 T.num, .int .i64 T.place, .slice p T.kids.length c] 25) (.cells #[.int .u8 0, .string ⟨#[]⟩, .int .i64 0, .int .i64 0, .slice none 0 0] 25)
  obtain ⟨a0, a1, a2, a3, a4⟩ := cells5 X1
  have f3 := frozen5 X1 3
  have HX1 := Lib.hid X1
  have HX2 := Lib.hid X2
  have HB := Lib.hid hb
  have HO := Lib.hid (hs.below hF hb)
  have HS0 := Lib.hid hs
  have HN := Lib.hid hN
  have HF := Lib.hid hF
  have HFT := Lib.hid hf
  have H1 := Lib.hid h1
  have hk1 : k ≤ 1000000 := by omega
  have hpl : max T.place 0 % 1000 + k < 9223372036854775808 := by omega
  clear X1 X2 hb hs hN hF hf h1
  obtain ⟨pl, hpl0⟩ : ∃ pl, max T.place 0 % 1000 = pl := ⟨_, rfl⟩
  have hpl1 : 0 ≤ pl := by omega
  have hpl2 : pl < 1000 := by omega
  go_enter Tryd.func8, Tryd.ntmps8
  go_wp2_with fail
  go_loopw [5] (MovRel w d T k (.slice p T.kids.length c) F) (fun i _ => T.kids.length - (intOf i).toNat)
  case atStart =>
    have hnF : ¬ F w.heap.size := fun h => by have := HF.out _ h; omega
    refine ⟨_, 0, rfl, Nat.zero_le _, rfl, ?_, ?_, ?_, ?_⟩
    · exact Chg.of_below (below_two w _ _)
    · rw [hpl0]; exact (two_new' w _ _).1
    · exact (two_new' w _ _).2.1
    · rw [show mixK d k T.kids 0 = T.kids by simp [mixK]]
      exact HS0.out.below HF.out (below_two w _ _)
  case round =>
    obtain ⟨W1, j, rfl, hj, rfl, hch, hx, hz, how⟩ := hrel
    have HCh := Lib.hid hch
    have HX := Lib.hid hx
    have HZ := Lib.hid hz
    have HW := Lib.hid how
    have hj0 : (0 : Int) ≤ j := by omega
    obtain ⟨b0, b1, b2, b3, b4⟩ := cells5 hx
    clear hch hx hz how a0 a1 a2 a3 a4 f3
    by_cases hlt : j < T.kids.length
    · have hlt' : (j : Int) < T.kids.length := by omega
      go_wp2_with fail
      clear b0 b1 b2 b3 b4
      obtain ⟨t, ht⟩ : ∃ t, T.kids[j]? = some t := ⟨T.kids[j], List.getElem?_eq_getElem hlt⟩
      have hmx := mixK_at (d := d) (k := k) ht
      cases d with
      | zero =>
        have := HO.out.1
        rw [this] at hlt
        simp at hlt
      | succ d =>
      rcases HW.out with ⟨h0', _⟩ | ⟨g, cap, cs, Fs, q0, q1, q2, q3, q4, q5, q6, q7, q8, q9⟩
      · have := mixK_len (d + 1) k T.kids j
        rw [h0'] at this
        simp at this; omega
      rw [mixK_len] at q2 q4
      injection q4 with q4 _ q4'
      subst q4 q4'
      obtain ⟨hft, s, hcs, how⟩ := q7 j t hmx
      have hF1 : ∀ b, F b → b < W1.heap.size := fun b hb => Nat.lt_of_lt_of_le (HF.out b hb) HCh.out.size
      have hnF : ¬ F w.heap.size := fun h => by have := HF.out _ h; omega
      have hnG : ¬ Fs j w.heap.size := fun h => hnF (q8 j _ h).1
      have hxs : w.heap.size < W1.heap.size := (Array.getElem?_eq_some_iff.1 HX.out).1
      have hdk := deepF_kid (d := d) ht
      have hd1 := H1.out
      refine wp_region_rel (by kernel_rfl) (fun W => Chg (Fs j) W1 W) (fun i W => i = 10 → OwnAt W d t.kids s (Fs j)) (fun i W W' => Chg (Fs j) W W' ∧ (i ≠ 10 → W = W')) (tyMv w.heap.size g T.kids.length c j d k t s (Fs j)) (fun _ => none) (fun _ => false) 11 33
        (fun i _ h => OwnAt.keep (w := W1) (w' := W1.drew) (fun b o _ hx => (show W1.drew.heap[b]? = some o from hx)) how) ?_ (Chg.refl _ _).drew (fun _ W W' _ h h' => h.trans h'.1) (fun _ W => ⟨Chg.refl _ _, fun _ => rfl⟩) ?_ (fun _ _ _ _ h => by cases h) (fun _ _ _ h => by cases h) rfl (by kernel_rfl) (by kernel_rfl) ?_ ?_ ?_
      · intro i i' W W' _ _ hne hJ _ hR hi
        subst hi
        have := hR.2 (fun e => hne e.symm)
        subst this
        exact hJ rfl
      · intro i i' v W W' _ _ hne hty _ hR
        exact tyMv_mono i v W W' hty (fun hi => hR.2 (by omega))
      · intro i o hi ho hon
        match i, hi with
        | 0, _ =>
          obtain rfl := Option.some.inj ho
          exact opR_run1 (.tmp 2) (Q := fun _ v => v = .pointer (some ⟨w.heap.size, 0, none⟩)) (ev_old 2 rfl (by kernel_rfl) (fun _ => rfl)) rfl (fun W => ⟨Chg.refl _ _, fun _ => rfl⟩) fun ρ W h _ _ _ => ⟨_, by simp only [execOp, h, run_field4, Sem.run_bind, Sem.run_pure, Result.andThen_ok], rfl⟩
        | 1, _ =>
          obtain rfl := Option.some.inj ho
          refine opR_run1 (.tmp 20) (Q := fun _ v => v = .pointer (some ⟨w.heap.size, 4, none⟩)) (ev_dep 0 ⟨by decide, _, _, rfl, by kernel_rfl, rfl, rfl⟩ (fun _ _ h => h)) rfl (fun W => ⟨Chg.refl _ _, fun _ => rfl⟩) fun ρ W h _ hJ _ => ?_
          have hx := (hJ.block _ hxs hnG).trans HX.out
          exact ⟨_, by simp only [execOp, h, run_loadKids W w.heap.size 4 _ (cells5 hx).2.2.2.2, Sem.run_bind, Sem.run_pure, Result.andThen_ok], rfl⟩
        | 2, _ => obtain rfl := Option.some.inj ho; exact opR_move (.tmp 5) rfl (Q := fun _ v => v = .int .i64 j) (ev_old 5 rfl (by kernel_rfl) (fun _ => rfl)) rfl (fun W => ⟨Chg.refl _ _, fun _ => rfl⟩) (fun _ _ h => h)
        | 3, _ =>
          obtain rfl := Option.some.inj ho
          exact opR_run1 (.tmp 2) (Q := fun _ v => v = .pointer (some ⟨w.heap.size, 0, none⟩)) (ev_old 2 rfl (by kernel_rfl) (fun _ => rfl)) rfl (fun W => ⟨Chg.refl _ _, fun _ => rfl⟩) fun ρ W h _ _ _ => ⟨_, by simp only [execOp, h, run_field4, Sem.run_bind, Sem.run_pure, Result.andThen_ok], rfl⟩
        | 4, _ =>
          obtain rfl := Option.some.inj ho
          refine opR_run1 (.tmp 23) (Q := fun _ v => v = .pointer (some ⟨w.heap.size, 4, none⟩)) (ev_dep 3 ⟨by decide, _, _, rfl, by kernel_rfl, rfl, rfl⟩ (fun _ _ h => h)) rfl (fun W => ⟨Chg.refl _ _, fun _ => rfl⟩) fun ρ W h _ hJ _ => ?_
          have hx := (hJ.block _ hxs hnG).trans HX.out
          exact ⟨_, by simp only [execOp, h, run_loadKids W w.heap.size 4 _ (cells5 hx).2.2.2.2, Sem.run_bind, Sem.run_pure, Result.andThen_ok], rfl⟩
        | 5, _ => obtain rfl := Option.some.inj ho; exact opR_move (.tmp 5) rfl (Q := fun _ v => v = .int .i64 j) (ev_old 5 rfl (by kernel_rfl) (fun _ => rfl)) rfl (fun W => ⟨Chg.refl _ _, fun _ => rfl⟩) (fun _ _ h => h)
        | 6, _ =>
          obtain rfl := Option.some.inj ho
          exact opR_run2 (.tmp 24) (.tmp 25) (Q := fun _ v => v = .slice (some ⟨g, 0, none⟩) T.kids.length c) (Q2 := fun _ v => v = .int .i64 j) (ev_dep 4 ⟨by decide, _, _, rfl, by kernel_rfl, rfl, rfl⟩ (fun _ _ h => h)) (ev_dep 5 ⟨by decide, _, _, rfl, by kernel_rfl, rfl, rfl⟩ (fun _ _ h => h)) rfl (fun W => ⟨Chg.refl _ _, fun _ => rfl⟩) fun ρ W h h' _ _ _ => ⟨_, by simp only [execOp, h, h', run_at5 W g T.kids.length c j hlt, Sem.run_bind, Sem.run_pure, Result.andThen_ok], rfl⟩
        | 7, _ =>
          obtain rfl := Option.some.inj ho
          refine opR_run1 (.tmp 26) (Q := fun _ v => v = .pointer (some ⟨g, j * 5, none⟩)) (ev_dep 6 ⟨by decide, _, _, rfl, by kernel_rfl, rfl, rfl⟩ (fun _ _ h => h)) rfl (fun W => ⟨Chg.refl _ _, fun _ => rfl⟩) fun ρ W h _ hJ _ => ?_
          have hg := (hJ.block _ (hF1 g q1) (fun h => (q8 j g h).2 rfl)).trans q5
          have hl : ∀ m u, (nodeCells t s)[m]? = some u → W.cell? ⟨g, j * 5 + m, none⟩ = some u := fun m u hu => by rw [cell_of_row _ _ _ _ _ _ hg]; exact hcs m u hu
          exact ⟨_, by simp only [execOp, h, run_loadKid W g (j * 5) t s hl, Sem.run_bind, Sem.run_pure, Result.andThen_ok], rfl⟩
        | 8, _ => obtain rfl := Option.some.inj ho; exact opR_move (.tmp 1) rfl (Q := fun _ v => v = .int .i64 k) (ev_old 1 rfl (by kernel_rfl) (fun _ => rfl)) rfl (fun W => ⟨Chg.refl _ _, fun _ => rfl⟩) (fun _ _ h => h)
        | 9, _ =>
          obtain rfl := Option.some.inj ho
          refine opR_run1 (.tmp 28) (Q := fun _ v => v = .int .i64 k) (ev_dep 8 ⟨by decide, _, _, rfl, by kernel_rfl, rfl, rfl⟩ (fun _ _ h => h)) rfl (fun W => ⟨Chg.refl _ _, fun _ => rfl⟩) fun ρ W h hc _ _ => ?_
          have hw1 : IntKind.i64.wrap (k + 1) = k + 1 := IntWalk.i64_in _ (by omega)
          exact ⟨.int .i64 (k + 1), by simp [execOp, h, hc, go_sem, hw1], rfl⟩
        | 10, _ =>
          obtain rfl := Option.some.inj ho
          refine opR_call2 8 (.tmp 27) (.tmp 29) _ rfl (enters_of Tryd.func8 (by kernel_rfl) rfl) (Q := fun _ v => v = .agg (nodeCells t s).toArray) (Q2 := fun _ v => v = .int .i64 (k + 1)) (ev_dep 7 ⟨by decide, _, _, rfl, by kernel_rfl, rfl, rfl⟩ (fun _ _ h => h)) (ev_dep 9 ⟨by decide, _, _, rfl, by kernel_rfl, rfl, rfl⟩ (fun _ _ h => h)) rfl fun vx vy W hx hy hJ hB => ?_
          subst hx hy
          refine (HN.out d rfl t s (k + 1) (Fs j) W hft (hB rfl) (fun b hb => Nat.lt_of_lt_of_le (hF1 b (q8 j b hb).1) hJ.size) (by omega) (by omega)).mono fun e W' hh => ?_
          obtain ⟨rfl, h1, h2⟩ := hh
          exact ⟨_, rfl, ⟨h1, fun h => absurd rfl h⟩, rfl, h2⟩
      · intro i o hi ho hon
        match i, hi with
        | 0, _ => obtain rfl := Option.some.inj ho; cases hon
        | 1, _ => obtain rfl := Option.some.inj ho; cases hon
        | 2, _ => obtain rfl := Option.some.inj ho; cases hon
        | 3, _ => obtain rfl := Option.some.inj ho; cases hon
        | 4, _ => obtain rfl := Option.some.inj ho; cases hon
        | 5, _ => obtain rfl := Option.some.inj ho; cases hon
        | 6, _ => obtain rfl := Option.some.inj ho; cases hon
        | 7, _ => obtain rfl := Option.some.inj ho; cases hon
        | 8, _ => obtain rfl := Option.some.inj ho; cases hon
        | 9, _ => obtain rfl := Option.some.inj ho; cases hon
        | 10, _ => obtain rfl := Option.some.inj ho; cases hon
      · intro a W hJ hd hsz hold hv hap
        have h31 : a.tmps.getD 21 undef = .slice (some ⟨g, 0, none⟩) T.kids.length c := hv 1 _ 21 (by decide) rfl rfl
        have h22 : a.tmps.getD 22 undef = .int .i64 j := hv 2 _ 22 (by decide) rfl rfl
        obtain ⟨h30, how2⟩ := hv 10 _ 30 (by decide) rfl rfl
        have o0 := hold 0 (oldP_at (by kernel_rfl))
        have o3 := hold 3 (oldP_at (by kernel_rfl))
        have o6 := hold 6 (oldP_at (by kernel_rfl))
        have o7 := hold 7 (oldP_at (by kernel_rfl))
        have o8 := hold 8 (oldP_at (by kernel_rfl))
        have o9 := hold 9 (oldP_at (by kernel_rfl))
        have o10 := hold 10 (oldP_at (by kernel_rfl))
        have o11 := hold 11 (oldP_at (by kernel_rfl))
        have o12 := hold 12 (oldP_at (by kernel_rfl))
        have o32 := hold 32 (oldP_at (by kernel_rfl))
        have o1 : a.tmps.getD 1 undef = .int .i64 k := hold 1 (oldP_at (by kernel_rfl))
        have o2 : a.tmps.getD 2 undef = .pointer (some ⟨w.heap.size, 0, none⟩) := hold 2 (oldP_at (by kernel_rfl))
        have o4 : a.tmps.getD 4 undef = .pointer (some ⟨w.heap.size + 1, 0, none⟩) := hold 4 (oldP_at (by kernel_rfl))
        have o5 : a.tmps.getD 5 undef = .int .i64 j := hold 5 (oldP_at (by kernel_rfl))
        obtain ⟨y0, y1, y2, y3, y4, y5, y6, y7, y8, y9, y10, y11, y12, y13, y14, y15, y16, y17, y18, y19, y20, y21, y22, y23, y24, y25, y26, y27, y28, y29, y30, y31, y32, rfl⟩ := frame33 a hsz hd
        obtain rfl : y0 = _ := o0
        obtain rfl : y3 = _ := o3
        obtain rfl : y6 = _ := o6
        obtain rfl : y7 = _ := o7
        obtain rfl : y8 = _ := o8
        obtain rfl : y9 = _ := o9
        obtain rfl : y10 = _ := o10
        obtain rfl : y11 = _ := o11
        obtain rfl : y12 = _ := o12
        obtain rfl : y32 = _ := o32
        obtain rfl : y1 = _ := o1
        obtain rfl : y2 = _ := o2
        obtain rfl : y4 = _ := o4
        obtain rfl : y5 = _ := o5
        obtain rfl : y21 = _ := h31
        obtain rfl : y22 = _ := h22
        obtain rfl : y30 = _ := h30
        clear hd hsz hold hv hap
        change wpList Tryd.prog _ _ [_, _] _ _
        refine wpList_plain rfl fun _ hK => wp_val (.pointer (some ⟨g, j * 5, none⟩)) (by simp only [execOp, Act.eval, Array.getD_eq_getD_getElem?, List.getElem?_toArray, List.getElem?_cons_succ, List.getElem?_cons_zero, Option.getD_some, run_at5 W g T.kids.length c j hlt, Sem.run_bind, Sem.run_pure, Result.andThen_ok]) (hK _ _ ?_)
        have hgW := (hJ.block _ (hF1 g q1) (fun h => (q8 j g h).2 rfl)).trans q5
        have hle : j * 5 + 5 ≤ cs.size := by rw [q6]; omega
        have hth : W.there g (j * 5) 5 := fun m hm => by
          refine ⟨?_, by simp [World.frozen?, hgW]⟩
          rw [cell_of_row _ _ _ _ _ _ hgW, Array.getElem?_eq_getElem (by omega)]
          rfl
        refine wpList_store_mid rfl 25 _ _ rfl g (j * 5) _ rfl rfl hth (by kernel_rfl) (by obtain ⟨sp, sc, hs⟩ := how.shape; subst hs; simp [Value.oneCell']) ?_
        rw [putNone]
        have HC2 := Lib.hid ((HCh.out.trans (hJ.sub (fun b hb => (q8 j b hb).1))).setCells (Or.inl q1) (j * 5) (nodeCells (movedT d (k + 1) t) s))
        have HX2 := Lib.hid ((setCells_other (fun h => by rw [h] at hnF; exact hnF q1) (nodeCells (movedT d (k + 1) t) s) (j * 5) W).trans ((hJ.block _ hxs hnG).trans HX.out))
        have hzs : w.heap.size + 1 < W1.heap.size := (Array.getElem?_eq_some_iff.1 HZ.out).1
        have hnF1 : ¬ F (w.heap.size + 1) := fun h => by have := HF.out _ h; omega
        have HZ2 := Lib.hid ((setCells_other (fun h => by rw [h] at hnF1; exact hnF1 q1) (nodeCells (movedT d (k + 1) t) s) (j * 5) W).trans ((hJ.block _ hzs (fun h => hnF1 (q8 j _ h).1)).trans HZ.out))
        have HO2 := Lib.hid (OwnAt.turn (t' := movedT d (k + 1) t) (W2 := W.setCells g (j * 5) (nodeCells (movedT d (k + 1) t) s)) hmx (fits_moved d (k + 1) t hft (by omega) (by omega)) q0 q1 (by rw [mixK_len]; exact q2) q3 q5 q6 q7 q8 q9 hF1 hJ how2 rfl (mixK (d + 1) k T.kids (j + 1)) (by rw [mixK_len, mixK_len]) (mixK_next ht))
        have he : (nodeCells (movedT d (k + 1) t) s) = [.int .u8 t.kind, .string t.text, .int .i64 t.num, .int .i64 (max t.place 0 % 1000 + (k + 1)), s] := by
          obtain ⟨e1, e2, e3, e4⟩ := movedT_kind d (k + 1) t
          show [_, _, _, _, _] = _
          rw [e1, e2, e3, e4]
        rw [he, mixK_len] at HO2
        rw [he] at HC2 HX2 HZ2
        clear he hth hle hgW how2 hJ hzs hnF1 hnF hnG hF1 hxs hdk hd1 hmx how hcs q5 q6 q7 q8 q9 q0 hft
        generalize W.setCells g (j * 5) [.int .u8 t.kind, .string t.text, .int .i64 t.num, .int .i64 (max t.place 0 % 1000 + (k + 1)), s] = W2 at *
        clear HX HZ HW HCh
        have hjm : (j : Int) + 1 < 9223372036854775808 := by unfold maxLen at q3; omega
        go_wp2_with fail
        exact ⟨⟨W2, j + 1, rfl, by omega, by go_num, HC2.out, HX2.out, HZ2.out, HO2.out⟩, by simp [intOf]; omega⟩
    · obtain rfl : j = T.kids.length := by omega
      have hx := HX.out
      have hz := HZ.out
      obtain ⟨z0, z1, z2, z3, z4⟩ := cells5 hz
      have q0 := frozen5 hz 0
      have q1 := frozen5 hz 1
      have q2 := frozen5 hz 2
      have q3 := frozen5 hz 3
      have q4 := frozen5 hz 4
      clear hlt hj hx hz
      go_wp2_with fail
      clear z0 z1 z2 z3 z4 q0 q1 q2 q3 q4 b0 b1 b2 b3 b4
      have hnF : ¬ F w.heap.size := fun h => by have := HF.out _ h; omega
      have hnF1 : ¬ F (w.heap.size + 1) := fun h => by have := HF.out _ h; omega
      have hg1 : F (w.heap.size + 1) ∨ w.heap.size ≤ w.heap.size + 1 := Or.inr (Nat.le_succ _)
      refine moved_fin _ _ (w.heap.size + 1) _ _ _ _ _ (heap_set (heap_set (heap_set (heap_set (heap_set HZ.out 0 _) 1 _) 2 _) 3 _) 4 _) _ rfl ?_
      refine ⟨?_, ((((HCh.out.setCell hg1 _).setCell hg1 _).setCell hg1 _).setCell hg1 _).setCell hg1 _, ?_⟩
      · rw [hpl0]
      · have hset : ∀ (W : World) (i : Nat) (u : Value) (d : Nat) (ks : List Tree) (sl : Value), OwnAt W d ks sl F → OwnAt (W.setCell ⟨w.heap.size + 1, i, none⟩ u) d ks sl F := fun W i u d ks sl ho =>
          ho.keep fun b o hb hx => (heap_setCell_other W ⟨w.heap.size + 1, i, none⟩ b u (by show b ≠ w.heap.size + 1; rintro rfl; exact hnF1 hb)).trans hx
        refine hset _ _ _ _ _ _ (hset _ _ _ _ _ _ (hset _ _ _ _ _ _ (hset _ _ _ _ _ _ (hset _ _ _ _ _ _ ?_))))
        cases d with
        | zero =>
          have h0 := HS0.out.1
          have e : mixK 0 k T.kids T.kids.length = (movedT 0 k T).kids := by
            show _ = T.kids
            rw [h0]; rfl
          rw [← e]
          exact HW.out
        | succ d =>
          have e : mixK (d + 1) k T.kids T.kids.length = (movedT (d + 1) k T).kids := by simp [mixK, movedT_kids]
          rw [← e]
          exact HW.out
theorem movedN_any : ∀ d, MovedN d := by
  intro d
  induction d with
  | zero => exact movedN_of 0 (fun d' h => by omega)
  | succ d ih =>
    refine movedN_of (d + 1) (fun d' h => ?_)
    have e : d' = d := by omega
    subst e
    exact ih
end Go.Proofs.YtlcdpcllndjlfaaDoor
/- NodeParts, the plain law: places moved, a kid alone, two kids changed about, one left out. No condition. -/
namespace Go.Proofs.YtlcdpcllndjlfaaDoor
open Go.RowKit

/-! places moved -/
theorem sameF_moved : ∀ (d : Nat) (k : Int) (T : Tree), sameF d T (movedT d k T) = true ∧ sameF d (movedT d k T) T = true := by
  intro d
  induction d with
  | zero => intro k T; unfold sameF movedT; simp [Tree.kind, Tree.text, Tree.num, Tree.kids]
  | succ d ih =>
    intro k T
    obtain ⟨e1, e2, e3, _⟩ := movedT_kind (d + 1) k T
    unfold sameF
    rw [e1, e2, e3, movedT_kids]
    simp only [beq_self_eq_true, Bool.true_and, List.length_map, List.all_eq_true]
    constructor
    · intro x hx
      obtain ⟨i, hi⟩ := List.getElem?_of_mem hx
      obtain ⟨h1, h2⟩ := List.getElem?_zip_eq_some.1 hi
      rw [List.getElem?_map, h1] at h2
      injection h2 with h2
      rw [← h2]
      exact (ih (k + 1) x.1).1
    · intro x hx
      obtain ⟨i, hi⟩ := List.getElem?_of_mem hx
      obtain ⟨h1, h2⟩ := List.getElem?_zip_eq_some.1 hi
      rw [List.getElem?_map, h2] at h1
      injection h1 with h1
      rw [← h1]
      exact (ih (k + 1) x.2).2
theorem deepF_moved : ∀ (d : Nat) (k : Int) (T : Tree), deepF d (movedT d k T) = deepF d T ∧ manyF d (movedT d k T) = manyF d T := by
  intro d
  induction d with
  | zero => intro k T; exact ⟨rfl, rfl⟩
  | succ d ih =>
    intro k T
    have h1 : (movedT (d + 1) k T).kids.map (deepF d) = T.kids.map (deepF d) := by
      rw [movedT_kids, List.map_map]
      exact List.map_congr_left fun t _ => (ih (k + 1) t).1
    have h2 : (movedT (d + 1) k T).kids.map (manyF d) = T.kids.map (manyF d) := by
      rw [movedT_kids, List.map_map]
      exact List.map_congr_left fun t _ => (ih (k + 1) t).2
    unfold deepF manyF
    rw [h1, h2]
    exact ⟨rfl, rfl⟩
theorem slim_moved : ∀ (d : Nat) (k : Int) (T : Tree), Slim d T → Slim d (movedT d k T) := by
  intro d
  induction d with
  | zero => intro k T h; exact h
  | succ d ih =>
    intro k T h
    refine ⟨h.1, by rw [movedT_kids, List.length_map]; exact h.2.1, fun t ht => ?_⟩
    rw [movedT_kids] at ht
    obtain ⟨u, hu, rfl⟩ := List.mem_map.1 ht
    exact ih _ _ (h.2.2 u hu)
section
variable (f : Tree → Tree) (hf : ∀ t, (f t).kind = t.kind ∧ (f t).text = t.text)
include hf
theorem among_map (S : List Nat) (l : List Tree) : among S (l.map f) = among S l := by
  unfold among
  rw [List.all_map]
  congr 1
  funext t
  show S.contains (f t).kind = _
  rw [(hf t).1]
theorem exprsB_map (l : List Tree) : exprsB (l.map f) = exprsB l := by
  unfold exprsB
  rw [among_map f hf, List.all_map]
  congr 2
  funext t
  show (!((f t).kind == 14 && negB (f t).text.data.toList)) = _
  rw [(hf t).1, (hf t).2]
theorem rowB_map (l : List Tree) : rowB (l.map f) = rowB l := by
  unfold rowB
  have e : (l.map f).dropWhile condB = (l.dropWhile condB).map f := by
    induction l with
    | nil => rfl
    | cons x l ih =>
      rw [List.map_cons, List.dropWhile_cons, List.dropWhile_cons]
      have : condB (f x) = condB x := by unfold condB; rw [(hf x).1]
      rw [this]
      split
      · exact ih
      · rfl
  rw [e, among_map f hf]
theorem kidsOk_map (kind : Nat) (l : List Tree) : kidsOk kind (l.map f) = kidsOk kind l := by
  unfold kidsOk
  simp only [among_map f hf, exprsB_map f hf, rowB_map f hf, List.length_map]
  congr 7
  cases l <;> rfl
end
theorem levelOk_moved (d : Nat) (k : Int) (T : Tree) (hk : 0 ≤ k) (h : levelOk T = true) : levelOk (movedT d k T) = true := by
  obtain ⟨e1, e2, e3, e4⟩ := movedT_kind d k T
  have e5 : (movedT d k T).kids.length = T.kids.length ∧ kidsOk T.kind (movedT d k T).kids = kidsOk T.kind T.kids := by
    cases d with
    | zero => exact ⟨rfl, rfl⟩
    | succ d => rw [movedT_kids]; exact ⟨List.length_map _, kidsOk_map _ (fun t => ⟨(movedT_kind d (k + 1) t).1, (movedT_kind d (k + 1) t).2.1⟩) _ _⟩
  unfold levelOk at h ⊢
  rw [e1, e2, e3, e5.1, e5.2]
  have e6 : decide (0 ≤ (movedT d k T).place) = true := by rw [e4]; simp; omega
  rw [e6]
  simp only [Bool.and_eq_true] at h ⊢
  simp only [h, and_self]
theorem okF_moved : ∀ (d : Nat) (k : Int) (T : Tree), 0 ≤ k → okF d T = true → okF d (movedT d k T) = true := by
  intro d
  induction d with
  | zero => intro k T hk h; exact levelOk_moved 0 k T hk h
  | succ d ih =>
    intro k T hk h
    unfold okF at h ⊢
    rw [Bool.and_eq_true] at h ⊢
    refine ⟨levelOk_moved (d + 1) k T hk h.1, ?_⟩
    rw [movedT_kids, List.all_map]
    exact List.all_eq_true.2 fun t ht => ih (k + 1) t (by omega) (List.all_eq_true.1 h.2 t ht)
theorem rightF_moved (d : Nat) (k : Int) (T : Tree) (hk : 0 ≤ k) (h : rightF d T = true) : rightF d (movedT d k T) = true := by
  unfold rightF at h ⊢
  rw [(movedT_kind d k T).1, (deepF_moved d k T).1, (deepF_moved d k T).2]
  simp only [Bool.and_eq_true] at h ⊢
  exact ⟨⟨⟨h.1.1.1, okF_moved d k T hk h.1.1.2⟩, h.1.2⟩, h.2⟩

/-! fewer kids -/
theorem rightF_sub (d : Nat) (T U : Tree) (h : rightF (d + 1) T = true) (hk : U.kind = 1) (ht : U.text.data.toList.isEmpty = true) (hn : U.num = 0) (hp : 0 ≤ U.place) (hs : ∀ t ∈ U.kids, t ∈ T.kids) (hm : sumF d U.kids ≤ sumF d T.kids) :
    rightF (d + 1) U = true := by
  have h1 : T.kind = 1 := by
    unfold rightF at h
    simp only [Bool.and_eq_true, beq_iff_eq] at h
    exact h.1.1.1
  rw [rightF_D, right_un _ _ _ _ (fun h => by omega)] at h ⊢
  simp only [Bool.and_eq_true, decide_eq_true_eq, List.all_eq_true, Nat.add_sub_cancel, beq_iff_eq] at h ⊢
  obtain ⟨_, ⟨⟨h2, h3⟩, h4⟩, h5⟩ := h
  refine ⟨hk, ⟨⟨?_, h3⟩, fun t htu => h4 t (hs t htu)⟩, by omega⟩
  unfold levelOk at h2 ⊢
  rw [h1] at h2
  rw [hk, hn]
  have e1 : textOk 1 U.text.data.toList U.kids.length = true := by unfold textOk; simpa using ht
  have e2 : numOk 1 0 = true := rfl
  have e3 : decide (0 ≤ U.place) = true := by simpa using hp
  have e4 : kidsOk 1 U.kids = true := by
    simp only [Bool.and_eq_true] at h2
    have h6 := h2.2
    unfold kidsOk at h6 ⊢
    simp only [beq_self_eq_true, if_true] at h6 ⊢
    unfold among at h6 ⊢
    exact List.all_eq_true.2 fun t htu => List.all_eq_true.1 h6 t (hs t htu)
  rw [e1, e2, e3, e4]
  rfl
theorem rightF_top {d : Nat} {T : Tree} (h : rightF d T = true) : T.kind = 1 ∧ T.text.data.toList.isEmpty = true ∧ T.num = 0 ∧ 0 ≤ T.place ∧ deepF d T ≤ 30 := by
  have h1 : T.kind = 1 := by
    unfold rightF at h
    simp only [Bool.and_eq_true, beq_iff_eq] at h
    exact h.1.1.1
  unfold rightF at h
  simp only [Bool.and_eq_true, decide_eq_true_eq] at h
  have hl : levelOk T = true := by
    have := h.1.1.2
    cases d with
    | zero => exact this
    | succ d => unfold okF at this; rw [Bool.and_eq_true] at this; exact this.1
  unfold levelOk at hl
  rw [h1] at hl
  simp only [Bool.and_eq_true, decide_eq_true_eq] at hl
  obtain ⟨⟨⟨⟨_, a⟩, b⟩, c⟩, _⟩ := hl
  refine ⟨h1, ?_, ?_, c, h.1.2⟩
  · unfold textOk at a; simpa using a
  · unfold numOk at b; simpa using b
theorem sumF_mem (d : Nat) : ∀ (ks : List Tree) (t : Tree), t ∈ ks → manyF d t ≤ sumF d ks := by
  intro ks
  induction ks with
  | nil => intro t h; cases h
  | cons x r ih =>
    intro t h
    have e : sumF d (x :: r) = sumF d r + manyF d x := by unfold sumF; rw [List.map_cons, List.foldl_cons, foldl_add, Nat.zero_add, Nat.add_comm]
    rw [e]
    rcases List.mem_cons.1 h with rfl | h
    · omega
    · have := ih t h; omega
theorem sumF_cons (d : Nat) (x : Tree) (r : List Tree) : sumF d (x :: r) = sumF d r + manyF d x := by unfold sumF; rw [List.map_cons, List.foldl_cons, foldl_add, Nat.zero_add, Nat.add_comm]
theorem sumF_set (d : Nat) : ∀ (ks : List Tree) (i : Nat) (a b : Tree), ks[i]? = some a → sumF d (ks.set i b) + manyF d a = sumF d ks + manyF d b := by
  intro ks
  induction ks with
  | nil => intro i a b h; simp at h
  | cons x r ih =>
    intro i a b h
    cases i with
    | zero =>
      simp at h
      subst h
      rw [List.set_cons_zero, sumF_cons, sumF_cons]
      omega
    | succ i =>
      have := ih i a b (by simpa using h)
      rw [List.set_cons_succ, sumF_cons, sumF_cons]
      omega
/-- a kid alone -/
theorem right_alone (d : Nat) (T c : Tree) (h : rightF (d + 1) T = true) (hc : c ∈ T.kids) : rightF (d + 1) (.mk 1 ⟨#[]⟩ 0 0 [c]) = true := by
  refine rightF_sub d T _ h rfl rfl rfl (Int.le_refl _) (fun t ht => ?_) ?_
  · have : t ∈ [c] := ht
    rw [List.mem_singleton] at this
    rw [this]; exact hc
  · have := sumF_mem d _ _ hc
    have e : sumF d [c] = manyF d c := by rw [sumF_cons]; show 0 + _ = _; omega
    show sumF d [c] ≤ _
    omega
/-- two kids changed about -/
def aboutL (ks : List Tree) (i k : Nat) (a b : Tree) : List Tree := (ks.set i b).set k a
theorem right_about (d : Nat) (T : Tree) (i k : Nat) (a b : Tree) (h : rightF (d + 1) T = true) (hi : T.kids[i]? = some a) (hk : T.kids[k]? = some b) : rightF (d + 1) (.mk T.kind T.text T.num T.place (aboutL T.kids i k a b)) = true := by
  obtain ⟨h1, h2, h3, h4, _⟩ := rightF_top h
  have hil : i < T.kids.length := (List.getElem?_eq_some_iff.1 hi).1
  have hb : (T.kids.set i b)[k]? = some b := by
    rw [List.getElem?_set]
    split
    · rfl
    · exact hk
  refine rightF_sub d T _ h h1 h2 h3 h4 (fun t ht => ?_) ?_
  · have ht' : t ∈ (T.kids.set i b).set k a := ht
    rcases List.mem_or_eq_of_mem_set ht' with ht' | rfl
    · rcases List.mem_or_eq_of_mem_set ht' with ht' | rfl
      · exact ht'
      · exact List.mem_of_getElem? hk
    · exact List.mem_of_getElem? hi
  · have e1 := sumF_set d T.kids i a b hi
    have e2 := sumF_set d (T.kids.set i b) k b a hb
    show sumF d ((T.kids.set i b).set k a) ≤ _
    omega
/-- one kid left out -/
def lessL (ks : List Tree) (i : Nat) : List Tree := ks.take i ++ ks.drop (i + 1)
theorem lessL_len (ks : List Tree) (i : Nat) (h : i < ks.length) : (lessL ks i).length + 1 = ks.length := by unfold lessL; simp; omega
theorem lessL_at (ks : List Tree) (i j : Nat) (h : i < ks.length) : (lessL ks i)[j]? = if j < i then ks[j]? else ks[j + 1]? := by
  unfold lessL
  by_cases hj : j < i
  · rw [if_pos hj, List.getElem?_append_left (by simp; omega), List.getElem?_take, if_pos hj]
  · rw [if_neg hj, List.getElem?_append_right (by simp; omega), List.getElem?_drop]
    congr 1
    simp; omega
theorem right_less (d : Nat) (T : Tree) (i : Nat) (h : rightF (d + 1) T = true) (hi : i < T.kids.length) : rightF (d + 1) (.mk T.kind T.text T.num T.place (lessL T.kids i)) = true := by
  obtain ⟨h1, h2, h3, h4, _⟩ := rightF_top h
  refine rightF_sub d T _ h h1 h2 h3 h4 (fun t ht => ?_) ?_
  · have ht' : t ∈ T.kids.take i ++ T.kids.drop (i + 1) := ht
    rcases List.mem_append.1 ht' with h | h
    · exact List.mem_of_mem_take h
    · exact List.mem_of_mem_drop h
  · show sumF d (T.kids.take i ++ T.kids.drop (i + 1)) ≤ sumF d T.kids
    have e : ∀ (l m : List Tree), sumF d (l ++ m) = sumF d l + sumF d m := fun l m => by unfold sumF; rw [List.map_append, List.foldl_append, foldl_add]
    have e2 : sumF d T.kids = sumF d (T.kids.take i) + sumF d (T.kids.drop i) := by rw [← e, List.take_append_drop]
    have e3 : T.kids.drop i = T.kids[i] :: T.kids.drop (i + 1) := List.drop_eq_getElem_cons hi
    rw [e, e2, e3, sumF_cons]
    omega
theorem mem_about {ks : List Tree} {i k : Nat} {a b t : Tree} (hi : ks[i]? = some a) (hk : ks[k]? = some b) (h : t ∈ aboutL ks i k a b) : t ∈ ks := by
  have h' : t ∈ (ks.set i b).set k a := h
  rcases List.mem_or_eq_of_mem_set h' with h' | rfl
  · rcases List.mem_or_eq_of_mem_set h' with h' | rfl
    · exact h'
    · exact List.mem_of_getElem? hk
  · exact List.mem_of_getElem? hi
theorem mem_less {ks : List Tree} {i : Nat} {t : Tree} (h : t ∈ lessL ks i) : t ∈ ks := by
  have h' : t ∈ ks.take i ++ ks.drop (i + 1) := h
  rcases List.mem_append.1 h' with h | h
  · exact List.mem_of_mem_take h
  · exact List.mem_of_mem_drop h
theorem same_less (d : Nat) (T : Tree) (i : Nat) (hi : i < T.kids.length) : sameF d T (.mk T.kind T.text T.num T.place (lessL T.kids i)) = false := by
  have e : (T.kids.length == (Tree.mk T.kind T.text T.num T.place (lessL T.kids i)).kids.length) = false := by
    have := lessL_len T.kids i hi
    show (T.kids.length == (lessL T.kids i).length) = false
    simp; omega
  cases d with
  | zero => unfold sameF; rw [e, Bool.and_false]
  | succ d => unfold sameF; rw [e, Bool.and_false, Bool.false_and]
end Go.Proofs.YtlcdpcllndjlfaaDoor
/- NodeParts: lists of kids turned in memory: two changed about, one left out. No condition. -/
namespace Go.Proofs.YtlcdpcllndjlfaaDoor
open Go.RowKit

theorem below_setCells {B : Nat} {w W : World} {g : Nat} (h : Below B w W) (hg : B ≤ g) (o : Nat) (vs : List Value) : Below B w (W.setCells g o vs) := by
  obtain ⟨h1, h2, h3, h4⟩ := setCells_rest (g := g) vs o W
  exact ⟨h2.trans h.os, h3.trans h.tape, h4.trans h.output, by rw [h1]; exact h.size, fun i hi => (setCells_other (by omega) vs o W).trans (h.block i hi)⟩
/-- a list whose cells have been turned about, read again: each of its kids is one of the old ones -/
theorem kids_turned {W W2 : World} {d g n cg Bd : Nat} {ks ks' : List Tree} {F : Nat → Prop} {cs cs2 : Array Value} {Fs : Nat → Nat → Prop}
    (hg2 : W2.heap[g]? = some (.cells cs2 25 (0, 0))) (hgW : g < Bd) (hk : ∀ b, b ≠ g → W2.heap[b]? = W.heap[b]?)
    (h7 : ∀ i T, ks[i]? = some T → Fits T ∧ ∃ s, (∀ m u, (nodeCells T s)[m]? = some u → cs[i * 5 + m]? = some u) ∧ OwnAt W d T.kids s (Fs i))
    (h8 : ∀ i b, Fs i b → F b ∧ b ≠ g) (hF : ∀ b, F b → b < Bd) (hn : ks'.length = n) (hl : n ≤ cg) (hm : cg ≤ maxLen)
    (hat : ∀ j T, ks'[j]? = some T → ∃ x, ks[x]? = some T ∧ ∀ m, m < 5 → cs2[j * 5 + m]? = cs[x * 5 + m]?) :
    KidsAt W2 Bd (d + 1) ks' (.slice (some ⟨g, 0, none⟩) n cg) := by
  subst hn
  by_cases h0 : ks' = []
  · subst h0; exact Or.inl ⟨rfl, _, _, rfl⟩
  refine Or.inr ⟨g, 0, cg, h0, hgW, hl, hm, rfl, fun j T hT => ?_⟩
  obtain ⟨x, hx, hc⟩ := hat j T hT
  obtain ⟨f1, s, f2, f3⟩ := h7 x T hx
  have hcell : ∀ m u, (nodeCells T s)[m]? = some u → W2.cell? ⟨g, 0 + j * 5 + m, none⟩ = some u := fun m u hu => by
    have hm5 : m < 5 := (List.getElem?_eq_some_iff.1 hu).1
    rw [cell_of_row _ _ _ _ _ _ hg2, Nat.zero_add, hc m hm5]
    exact f2 m u hu
  have hkeep := (f3.keep (w' := W2) (fun b o hb hx => (hk b (h8 x b hb).2).trans hx)).kids (B := Bd) (fun b hb => hF b (h8 x b hb).1)
  exact ⟨f1, s, hcell 0 _ rfl, hcell 1 _ rfl, hcell 2 _ rfl, hcell 3 _ rfl, hcell 4 _ rfl, hkeep⟩
/-- two kids of a list changed about, in memory -/
theorem about_mem {w0 W W2 : World} {d g cg ii kk : Nat} {ks : List Tree} {F : Nat → Prop} {cs : Array Value} {Fs : Nat → Nat → Prop} {i1 k1 : Tree} {si sk : Value} (hw : Below w0.heap.size w0 W) (hg0 : w0.heap.size ≤ g)
    (hg : W.heap[g]? = some (.cells cs 25 (0, 0))) (h6 : cs.size = cg * 5)
    (h7 : ∀ i T, ks[i]? = some T → Fits T ∧ ∃ s, (∀ m u, (nodeCells T s)[m]? = some u → cs[i * 5 + m]? = some u) ∧ OwnAt W d T.kids s (Fs i))
    (h8 : ∀ i b, Fs i b → F b ∧ b ≠ g) (hF : ∀ b, F b → b < W.heap.size) (hl : ks.length ≤ cg) (hm : cg ≤ maxLen) (hi : ks[ii]? = some i1) (hk : ks[kk]? = some k1)
    (hci : ∀ m u, (nodeCells i1 si)[m]? = some u → cs[ii * 5 + m]? = some u) (hck : ∀ m u, (nodeCells k1 sk)[m]? = some u → cs[kk * 5 + m]? = some u)
    (hW2 : W2 = ((W.setCells g (ii * 5) (nodeCells k1 sk)).setCells g (kk * 5) (nodeCells i1 si)).drew) :
    Below w0.heap.size w0 W2 ∧ KidsAt W2 W.heap.size (d + 1) (aboutL ks ii kk i1 k1) (.slice (some ⟨g, 0, none⟩) ks.length cg) ∧ W2.heap.size = W.heap.size ∧ ∀ b o, b ≠ g → W.heap[b]? = some o → W2.heap[b]? = some o := by
  have hil : ii < ks.length := (List.getElem?_eq_some_iff.1 hi).1
  have hkl : kk < ks.length := (List.getElem?_eq_some_iff.1 hk).1
  have h5 : ∀ (t : Tree) (s : Value), (nodeCells t s).length = 5 := fun _ _ => rfl
  have dr : ∀ X : World, X.drew.heap = X.heap := fun _ => rfl
  have hb2 : Below w0.heap.size w0 W2 := by rw [hW2]; exact (below_setCells (below_setCells hw hg0 _ _) hg0 _ _).drew
  obtain ⟨cs1, a1, a2, a3, a4⟩ := setCells_heap (nodeCells k1 sk) (ii * 5) W cs hg (by rw [h6, h5]; omega)
  obtain ⟨cs2, b1, b2, b3, b4⟩ := setCells_heap (nodeCells i1 si) (kk * 5) _ cs1 a1 (by rw [a2, h6, h5]; omega)
  rw [h5] at a4 b4
  have hsz : W2.heap.size = W.heap.size := by
    rw [hW2, dr, (setCells_rest _ _ _).1, (setCells_rest _ _ _).1]
  have hoth : ∀ b, b ≠ g → W2.heap[b]? = W.heap[b]? := fun b hb => by
    rw [hW2, dr, setCells_other hb, setCells_other hb]
  have hg2 : W2.heap[g]? = some (.cells cs2 25 (0, 0)) := by rw [hW2, dr]; exact b1
  clear hW2 b1 a1
  refine ⟨hb2, ?_, hsz, fun b o hb ho => (hoth b hb).trans ho⟩
  refine kids_turned (cs := cs) hg2 (Array.getElem?_eq_some_iff.1 hg).1 hoth h7 h8 hF (by unfold aboutL; simp) hl hm (fun j T hT => ?_)
  have get5 : ∀ (t : Tree) (s : Value) (m : Nat), m < 5 → ∃ u, (nodeCells t s)[m]? = some u := fun t s m hm => ⟨_, List.getElem?_eq_getElem (by rw [h5]; exact hm)⟩
  unfold aboutL at hT
  rw [List.getElem?_set] at hT
  by_cases hjk : kk = j
  · subst hjk
    rw [if_pos rfl] at hT
    simp only [List.length_set, hkl, if_true] at hT
    injection hT with hT
    subst hT
    refine ⟨ii, hi, fun m hm => ?_⟩
    obtain ⟨u, hu⟩ := get5 i1 si m hm
    rw [b3 m u hu, hci m u hu]
  · rw [if_neg hjk, List.getElem?_set] at hT
    by_cases hji : ii = j
    · subst hji
      rw [if_pos rfl, if_pos hil] at hT
      injection hT with hT
      subst hT
      refine ⟨kk, hk, fun m hm => ?_⟩
      obtain ⟨u, hu⟩ := get5 k1 sk m hm
      rw [b4 _ (by omega), a3 m u hu, hck m u hu]
    · rw [if_neg hji] at hT
      exact ⟨j, hT, fun m hm => by rw [b4 _ (by omega), a4 _ (by omega)]⟩
/-- one kid left out: those behind it moved up -/
theorem less_mem {w0 W W2 : World} {d g cg ii Bd : Nat} {ks : List Tree} {F : Nat → Prop} {cs : Array Value} {Fs : Nat → Nat → Prop} (hw : Below w0.heap.size w0 W) (hg0 : w0.heap.size ≤ g)
    (hg : W.heap[g]? = some (.cells cs 25 (0, 0))) (h6 : cs.size = cg * 5)
    (h7 : ∀ i T, ks[i]? = some T → Fits T ∧ ∃ s, (∀ m u, (nodeCells T s)[m]? = some u → cs[i * 5 + m]? = some u) ∧ OwnAt W d T.kids s (Fs i))
    (h8 : ∀ i b, Fs i b → F b ∧ b ≠ g) (hgB : g < Bd) (hF : ∀ b, F b → b < Bd) (hl : ks.length ≤ cg) (hm : cg ≤ maxLen) (hi : ii < ks.length) (news : List Value) (hnl : news.length = (ks.length - (ii + 1)) * 5)
    (hnews : ∀ q, q < (ks.length - (ii + 1)) * 5 → news[q]? = cs[(ii + 1) * 5 + q]?) (hW2 : W2 = W.setCells g (ii * 5) news) :
    Below w0.heap.size w0 W2 ∧ KidsAt W2 Bd (d + 1) (lessL ks ii) (.slice (some ⟨g, 0, none⟩) (ks.length - 1) cg) ∧ W2.heap.size = W.heap.size ∧ ∀ b o, b ≠ g → W.heap[b]? = some o → W2.heap[b]? = some o := by
  have hb2 : Below w0.heap.size w0 W2 := by rw [hW2]; exact below_setCells hw hg0 _ _
  obtain ⟨cs1, a1, a2, a3, a4⟩ := setCells_heap news (ii * 5) W cs hg (by rw [h6, hnl]; omega)
  have hsz : W2.heap.size = W.heap.size := by rw [hW2]; exact (setCells_rest _ _ _).1
  have hoth : ∀ b, b ≠ g → W2.heap[b]? = W.heap[b]? := fun b hb => by rw [hW2]; exact setCells_other hb _ _ _
  have hg2 : W2.heap[g]? = some (.cells cs1 25 (0, 0)) := by rw [hW2]; exact a1
  clear hW2 a1
  have hle := lessL_len ks ii hi
  refine ⟨hb2, ?_, hsz, fun b o hb ho => (hoth b hb).trans ho⟩
  refine kids_turned (cs := cs) hg2 hgB hoth h7 h8 hF (by omega) (by omega) hm (fun j T hT => ?_)
  have hjl : j < (lessL ks ii).length := (List.getElem?_eq_some_iff.1 hT).1
  rw [lessL_at ks ii j hi] at hT
  by_cases hj : j < ii
  · rw [if_pos hj] at hT
    exact ⟨j, hT, fun m hm => a4 _ (by omega)⟩
  · rw [if_neg hj] at hT
    refine ⟨j + 1, hT, fun m hm => ?_⟩
    obtain ⟨q, hq⟩ : ∃ q, j * 5 + m = ii * 5 + q := ⟨(j - ii) * 5 + m, by omega⟩
    have hql : q < (ks.length - (ii + 1)) * 5 := by omega
    have hn := hnews q hql
    have hx : news[q]? = some (news[q]'(by omega)) := List.getElem?_eq_getElem (by omega)
    rw [hq, a3 q _ hx, ← hx, hn]
    congr 1
    omega
theorem setCells_drewC (g : Nat) : ∀ (vs : List Value) (o : Nat) (w : World), w.drew.setCells g o vs = (w.setCells g o vs).drew := by
  intro vs
  induction vs with
  | nil => intro o w; rfl
  | cons x r ih => intro o w; exact ih (o + 1) (w.setCell ⟨g, o, none⟩ x)
/-- what is known of a world is said of a name for it -/
theorem named_world {G : World → Prop} {A : World → Prop} {W : World} (h : ∀ W', A W' → G W') (ha : Hid (A W)) : G W := h W ha.out
end Go.Proofs.YtlcdpcllndjlfaaDoor
