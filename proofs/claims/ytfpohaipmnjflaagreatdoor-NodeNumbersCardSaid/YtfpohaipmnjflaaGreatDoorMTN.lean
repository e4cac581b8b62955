/- Several texts joined, each with its own sentence and conditions ahead of it: NumP, NumQ, LawNodNum. -/
import Derived.Test.YtfpohaipmnjflaaGreatDoorMTA
import Derived.Test.YtfpohaipmnjflaaGreatDoorMTB
import Derived.Test.YtfpohaipmnjflaaGreatDoorMM
import Derived.Test.YtfpohaipmnjflaaGreatDoorMTC
import Derived.Test.YtfpohaipmnjflaaGreatDoorMN
/- Trees for NodeNumbers: chains of operators, wide programs; plain. No condition. -/
namespace Go.Proofs.YtfpohaipmnjflaaGreatDoor
open Go.RowKit

/-- so many operators, one below the other -/
def chainT : Nat → Tree
  | 0 => .mk 14 ⟨#[49]⟩ 0 0 []
  | d + 1 => .mk 16 ⟨#[45]⟩ 0 0 [chainT d]
def testC (d : Nat) : Tree := .mk 7 ⟨#[]⟩ 0 0 [chainT d]
def ruleC (d : Nat) : Tree := .mk 4 ⟨#[114]⟩ 0 0 [testC d]
def topC (d : Nat) : Tree := .mk 1 ⟨#[]⟩ 0 0 [ruleC d]
theorem top_all : ((List.range 7).all fun k => (rightF (k + 26 + 3) (topC (k + 26)) == decide (k + 26 ≤ 26)) && (deepF (k + 26 + 3) (topC (k + 26)) == k + 26 + 4) && decide (manyF (k + 26 + 3) (topC (k + 26)) ≤ 100)) = true := by kernel_rfl
theorem top_at (d : Nat) (h1 : 26 ≤ d) (h2 : d < 33) : rightF (d + 3) (topC d) = decide (d ≤ 26) ∧ deepF (d + 3) (topC d) = d + 4 ∧ manyF (d + 3) (topC d) ≤ 100 := by
  have h := List.all_eq_true.1 top_all (d - 26) (List.mem_range.2 (by omega))
  have e : d - 26 + 26 = d := by omega
  simp only [e, Bool.and_eq_true, beq_iff_eq, decide_eq_true_eq] at h
  exact ⟨h.1.1, h.1.2, h.2⟩
theorem chain_txt : ∀ d, TxtA (chainT d)
  | 0 => TxtA.mk (by decide) fun T hT => by cases hT
  | d + 1 => TxtA.mk (by decide) fun T hT => by
    obtain rfl := List.mem_singleton.1 hT
    exact chain_txt d
theorem top_txt (d : Nat) : TxtA (topC d) :=
  TxtA.mk (by decide) fun T hT => by
    obtain rfl := List.mem_singleton.1 hT
    exact TxtA.mk (by decide) fun T hT => by
      obtain rfl := List.mem_singleton.1 hT
      exact TxtA.mk (by decide) fun T hT => by
        obtain rfl := List.mem_singleton.1 hT
        exact chain_txt d
/-- a program of so many types -/
def typeA : Tree := .mk 2 ⟨#[97]⟩ 0 0 []
def wideT (n : Nat) : Tree := .mk 1 ⟨#[]⟩ 0 0 (List.replicate n typeA)
theorem sum_rep : ∀ n, ((List.replicate n typeA).map (manyF 0)).sum = n
  | 0 => rfl
  | n + 1 => by
    rw [List.replicate_succ, List.map_cons, List.sum_cons, sum_rep n]
    show 1 + n = n + 1
    omega
theorem many_wide (n : Nat) : manyF 1 (wideT n) = n + 1 := by
  rw [manyF_sum]
  show 1 + ((List.replicate n typeA).map (manyF 0)).sum = n + 1
  rw [sum_rep]; omega
theorem deep_rep : ∀ n m, m ≤ 1 → ((List.replicate n typeA).map (deepF 0)).foldl Nat.max m ≤ 1
  | 0, m, h => h
  | n + 1, m, h => by
    rw [List.replicate_succ, List.map_cons, List.foldl_cons]
    exact deep_rep n _ (by show max m 1 ≤ 1; omega)
theorem right_wide (n : Nat) : rightF 1 (wideT n) = decide (n + 1 ≤ 4096) := by
  have h1 : okF 1 (wideT n) = true := by
    show (levelOk (wideT n) && (List.replicate n typeA).all (okF 0)) = true
    have ha : (List.replicate n typeA).all (okF 0) = true := by
      rw [List.all_eq_true]
      intro x hx
      obtain rfl := List.eq_of_mem_replicate hx
      decide
    have hb : among [2, 4] (List.replicate n typeA) = true := by
      unfold among
      rw [List.all_eq_true]
      intro x hx
      obtain rfl := List.eq_of_mem_replicate hx
      decide
    rw [ha, Bool.and_true]
    unfold levelOk
    show (decide (1 ≤ 1) && decide (1 ≤ 16) && textOk 1 [] (List.replicate n typeA).length && numOk 1 0 && decide ((0 : Int) ≤ 0) && kidsOk 1 (List.replicate n typeA)) = true
    have hk : kidsOk 1 (List.replicate n typeA) = true := hb
    rw [hk]
    rfl
  have h2 : deepF 1 (wideT n) ≤ 30 := by
    have := deep_rep n 0 (by omega)
    show ((List.replicate n typeA).map (deepF 0)).foldl Nat.max 0 + 1 ≤ 30
    omega
  unfold rightF
  rw [h1, many_wide, decide_eq_true h2]
  rfl
theorem wide_txt (n : Nat) : TxtA (wideT n) :=
  TxtA.mk (by decide) fun T hT => by
    obtain rfl := List.eq_of_mem_replicate hT
    exact TxtA.mk (by decide) fun T hT => by cases hT
end Go.Proofs.YtfpohaipmnjflaaGreatDoor
/- What memory holds in NodeNumbers' loops: a chain of operators, a wide program. No condition. -/
namespace Go.Proofs.YtfpohaipmnjflaaGreatDoor
open Go.RowKit

/-- a list of one node, just made -/
theorem own_chain {W : World} {d : Nat} {T : Tree} {s : Value} {F : Nat → Prop} (hf : Fits T) (ho : OwnAt W d T.kids s F) (hF : ∀ x, F x → x < W.heap.size) :
    OwnAt (W.alloc (.cells (nodeCells T s).toArray 25)) (d + 1) [T] (.slice (some ⟨W.heap.size, 0, none⟩) 1 1) (fun x => F x ∨ x = W.heap.size) := by
  refine Or.inr ⟨W.heap.size, 1, (nodeCells T s).toArray, fun i x => i = 0 ∧ F x, List.cons_ne_nil _ _, Or.inr rfl, Nat.le_refl _, by unfold maxLen; omega, rfl, heap_alloc_new W _, rfl, fun i T' hT => ?_, fun i b hb => ⟨Or.inl hb.2, by have := hF b hb.2; omega⟩, fun i j b hij hb hb' => hij (hb.1.trans hb'.1.symm)⟩
  match i, hT with
  | 0, hT =>
    injection hT with hT
    subst hT
    exact ⟨hf, s, fun m u hm => by simpa using hm, (ho.below hF ((Below.refl _ W).alloc (Nat.le_refl _) _)).sub fun b hb => ⟨rfl, hb⟩⟩
  | i + 1, hT => simp at hT
def ChainRel (w : World) (bx n : Nat) (i : Value) (W : World) : Prop := ∃ (k : Nat) (s : Value), k ≤ n ∧ i = .int .i64 (k : Int) ∧ Below w.heap.size w W ∧ W.heap[bx]? = some (.cells (nodeCells (chainT k) s).toArray 25 (0, 0)) ∧ OwnAt W k (chainT k).kids s (fun x => bx < x ∧ x < W.heap.size)
/-- a number from one up to another, memory only grown -/
def AtRel (w : World) (m n : Nat) (i : Value) (W : World) : Prop := ∃ k : Nat, m ≤ k ∧ k ≤ n ∧ i = .int .i64 (k : Int) ∧ Below w.heap.size w W
theorem chain_fits (k : Nat) : Fits (chainT k) := by
  cases k with
  | zero => exact fits_lit 14 ⟨#[49]⟩ [] rfl
  | succ k => exact fits_lit 16 ⟨#[45]⟩ [chainT k] rfl
def rowsA (k : Nat) : List (List Value) := List.replicate k (leafC 2 ⟨#[97]⟩)
theorem rowsA_succ (k : Nat) : (rowsA (k + 1)).flatten = (rowsA k).flatten ++ leafC 2 ⟨#[97]⟩ := by
  unfold rowsA
  rw [List.replicate_succ', List.flatten_append]
  simp
def WideAt (w : World) (bw k : Nat) (p : Option Addr) (c : Nat) (W : World) : Prop := Below w.heap.size w W ∧ W.heap[bw]? = some (.cells #[.int .u8 1, .string ⟨#[]⟩, .int .i64 0, .int .i64 0, .slice p k c] 25 (0, 0)) ∧ W.ownsRow 0 25 5 (.slice p k c) k (rowsA k).flatten ∧ ∀ g, (Value.slice p k c).ownBlock = some g → w.heap.size ≤ g ∧ g ≠ bw
def WideRel (w : World) (bw n : Nat) (i : Value) (W : World) : Prop := ∃ (k : Nat) (p : Option Addr) (c : Nat), k ≤ n ∧ i = .int .i64 (k : Int) ∧ WideAt w bw k p c W
theorem wide_node {W : World} {k c : Nat} {p : Option Addr} (hown : W.ownsRow 0 25 5 (.slice p k c) k (rowsA k).flatten) : NodeAt W W.heap.size 1 (wideT k) (.agg #[.int .u8 1, .string ⟨#[]⟩, .int .i64 0, .int .i64 0, .slice p k c]) := by
  have hl : (List.replicate k typeA).length = k := List.length_replicate
  have ho : OwnAt W 1 (List.replicate k typeA) (.slice p k c) (fun x => x < W.heap.size) := by
    refine own_of_row (Fs := fun _ _ => False) (xs := (rowsA k).flatten) (by rw [hl]; exact hown) (fun g hg => (own_block hown g hg).2) (fun i T hT => ?_) (fun i b _ hb => hb.elim) (fun i j b _ _ _ hb => hb.elim)
    obtain rfl := List.eq_of_mem_replicate (List.mem_of_getElem? hT)
    refine ⟨leaf_fits (by omega) (by decide), .slice none 0 0, fun m u hm => ?_, leaf_own W 0 2 ⟨#[97]⟩ _⟩
    have hi := (List.getElem?_eq_some_iff.1 hT).1
    rw [hl] at hi
    exact flat_at (rowsA k) (fun r hr => by obtain rfl := List.eq_of_mem_replicate hr; rfl) i m (leafC 2 ⟨#[97]⟩) u (by unfold rowsA; rw [List.getElem?_replicate, if_pos hi]) hm
  exact ⟨fits_lit 1 ⟨#[]⟩ _ rfl, _, rfl, ho.kids fun b hb => hb⟩
theorem wide_step {w W4 W : World} {bw k g c cap : Nat} {p : Option Addr} (hw : WideAt w bw k p c W4) (hbw : w.heap.size ≤ bw) (hv : (Value.slice p k c).ownBlock = some g ∨ W4.heap.size ≤ g) (hC : Chg (fun x => (Value.slice p k c).ownBlock = some x) W4 W)
    (hrow : W.ownsRow 0 25 5 (.slice (some ⟨g, 0, none⟩) (k + 1) cap) (k + 1) ((rowsA k).flatten ++ leafC 2 ⟨#[97]⟩)) :
    W.heap[bw]? = some (.cells #[.int .u8 1, .string ⟨#[]⟩, .int .i64 0, .int .i64 0, .slice p k c] 25 (0, 0)) ∧ WideAt w bw (k + 1) (some ⟨g, 0, none⟩) cap (W.setCell ⟨bw, 4, none⟩ (.slice (some ⟨g, 0, none⟩) (k + 1) cap)) := by
  obtain ⟨h1, h2, h3, h4⟩ := hw
  have hbW : bw < W4.heap.size := (Array.getElem?_eq_some_iff.1 h2).1
  have hkeep : W.heap[bw]? = W4.heap[bw]? := hC.block bw hbW (fun e => (h4 bw e).2 rfl)
  have hgw : w.heap.size ≤ g ∧ g ≠ bw := by
    rcases hv with h | h
    · exact h4 g h
    · have := h1.size; omega
  have hB : Below w.heap.size w W := Chg.below h1 hC (fun x hx => (h4 x hx).1) h1.size
  refine ⟨hkeep.trans h2, hB.setCell (p := ⟨bw, 4, none⟩) hbw _, heap_set (hkeep.trans h2) 4 _, ?_, fun g' hg' => ?_⟩
  · rw [rowsA_succ]
    exact owns_keep hrow fun g' hg' => by
      injection hg' with hg'
      have hg' : g = g' := hg'
      subst hg'
      exact Below.heap_setCell W ⟨bw, 4, none⟩ _ g hgw.2
  · injection hg' with hg'
    have hg' : g = g' := hg'
    subst hg'
    exact hgw
theorem wide_below {w W W' : World} {bw k c : Nat} {p : Option Addr} (h : WideAt w bw k p c W) (hb : Below W.heap.size W W') : WideAt w bw k p c W' := by
  obtain ⟨h1, h2, h3, h4⟩ := h
  exact ⟨h1.trans (hb.mono h1.size), heap_below hb h2 (Array.getElem?_eq_some_iff.1 h2).1, owns_below h3 hb, h4⟩
def phW (w4 : World) (p : Option Addr) (n c : Nat) (z row : List Value) (k : Nat) (W : World) (ys : List Value) : Prop :=
  if k = 3 then Fr1 w4.heap.size z W (at0 ys) else if k = 4 then BackV w4 p n c row W (at0 ys) else True
theorem phW.keep {w4 : World} {p : Option Addr} {n c : Nat} {z row : List Value} {k : Nat} {W W' : World} {ys : List Value} (h : phW w4 p n c z row k W ys) (hR : BackR w4 W W') : phW w4 p n c z row k W' ys := by
  unfold phW at *
  split
  · rename_i h1
    rw [if_pos h1] at h
    obtain ⟨g, e1, e2, e3⟩ := h
    exact ⟨g, e1, e2, (hR g e2 (Array.getElem?_eq_some_iff.1 e3).1).trans e3⟩
  · rename_i h1
    rw [if_neg h1] at h
    split
    · rename_i h2
      rw [if_pos h2] at h
      unfold BackV at *
      split
      · rename_i h3; rw [if_pos h3] at h; exact h
      · rename_i h3
        rw [if_neg h3] at h
        obtain ⟨g, cap, e1, e2, e3⟩ := h
        refine ⟨g, cap, e1, e2, owns_keep e3 fun g' hg' => ?_⟩
        have hb := (own_block e3 g' hg').2
        rw [e1] at hg'
        injection hg' with hg'
        have hg' : g = g' := hg'
        subst hg'
        exact hR g e2 hb
    · trivial
end Go.Proofs.YtfpohaipmnjflaaGreatDoor
/- NodeNumbers, the law's walk: it answers true. Condition: the library's table of blanks lies as laid. -/
namespace Go.Proofs.YtfpohaipmnjflaaGreatDoor
open Go.RowKit

def txtB : Nat → Tree → Bool
  | 0, T => decide (T.text.size ≤ 1000) && T.kids.isEmpty
  | d + 1, T => decide (T.text.size ≤ 1000) && T.kids.all (txtB d)
theorem txtB_ok : ∀ (d : Nat) (T : Tree), txtB d T = true → TxtA T
  | 0, .mk k t a b ks, h => by
    unfold txtB at h
    simp only [Bool.and_eq_true, decide_eq_true_eq, List.isEmpty_iff] at h
    obtain ⟨h1, h2⟩ := h
    have h2 : ks = [] := h2
    subst h2
    exact TxtA.mk h1 fun T hT => by cases hT
  | d + 1, .mk k t a b ks, h => by
    unfold txtB at h
    simp only [Bool.and_eq_true, decide_eq_true_eq, List.all_eq_true] at h
    exact TxtA.mk h.1 fun T hT => txtB_ok d T (h.2 T hT)
theorem full_txt : TxtA fullT := txtB_ok 8 fullT (by kernel_rfl)
theorem full_fits : Fits fullT := fits_lit 1 ⟨#[]⟩ _ rfl
theorem full_many : manyF 6 fullT ≤ 100 := by
  have h : decide (manyF 6 fullT ≤ 100) = true := by kernel_rfl
  exact of_decide_eq_true h
theorem full_slim : Slim 6 fullT := Txt.slim 6 fullT (full_txt 6) (by have := full_many; omega)
theorem node_more {W : World} {B d : Nat} {T : Tree} {v : Value} (h : NodeAt W B d T v) : NodeAt W B (d + 1) T v := by
  obtain ⟨hf, s, rfl, hk⟩ := h
  exact ⟨hf, s, rfl, hk.more⟩
/-- a row of one, just made -/
theorem kid_one {W : World} {d : Nat} {T : Tree} {s : Value} (hf : Fits T) (hk : KidsAt W W.heap.size d T.kids s) : KidsAt (W.alloc (.cells (nodeCells T s).toArray 25)) (W.alloc (.cells (nodeCells T s).toArray 25)).heap.size (d + 1) [T] (.slice (some ⟨W.heap.size, 0, none⟩) 1 1) := by
  have h := kids_lit W d [T] [s] rfl (by simp) (nodeCells T s).toArray (by simp) 1 rfl (fun i T' s' hT hs => by
    match i with
    | 0 =>
      simp only [List.getElem?_cons_zero, Option.some.injEq] at hT hs
      subst hT; subst hs
      exact ⟨hf, hk⟩
    | i + 1 => simp at hT)
  rw [World.size_alloc]
  exact h
theorem law_nodeZero (w : World) (ht : AsciiTab w) : Calls Tryz.prog 16 #[.agg #[.int .u8 0, .string ⟨#[]⟩, .int .i64 0, .int .i64 0, .slice none 0 0]] w (BoolPost true w) :=
  law_nodeTells awake_any 0 (.mk 0 ⟨#[]⟩ 0 0 []) _ w.heap.size w ⟨fits_lit 0 ⟨#[]⟩ [] rfl, _, rfl, rfl, none, 0, rfl⟩ (Nat.le_refl _) ht

set_option maxRecDepth 100000 in
set_option maxHeartbeats 8000000 in
theorem law_nodeNumbers (w : World) (ht : AsciiTab w) : Calls Tryz.prog 3 #[] w (BoolPost true w) := by
  have HTab : Hid (∀ W, Below w.heap.size w W → AsciiTab W) := fun W hW => ht.below hW
  clear ht
  go_enter Tryz.func3, Tryz.ntmps3
  go_wp2_with fail
  go_loopw [1] (AtRel w 0 28) (fun i _ => 28 - (intOf i).toNat)
  case atStart => exact ⟨0, Nat.le_refl _, by omega, rfl, Below.refl _ _⟩
  case round =>
    obtain ⟨k, _, hk, rfl, hb⟩ := hrel
    have hk0 : (0 : Int) ≤ k := by omega
    have HB := Lib.hid hb
    clear hb
    by_cases hlt : k < 28
    · have hlt1 : (k : Int) < 28 := by omega
      go_wp2_with fail
      go_loopw [2] (AtRel w 0 84) (fun i _ => 84 - (intOf i).toNat)
      case atStart => exact ⟨0, Nat.le_refl _, by omega, rfl, HB.out⟩
      case round =>
        clear HB
        obtain ⟨j, _, hj, rfl, hb⟩ := hrel
        have hj0 : (0 : Int) ≤ j := by omega
        have HB := Lib.hid hb
        clear hb
        by_cases hjl : j < 84
        · have hj1 : (j : Int) < 84 := by omega
          go_wp2_with fail
          refine Calls.mono (full_any wr) ?_
          rintro e w1 ⟨p1, n1, c1, rfl, hb1, hn1⟩
          have HB1 := Lib.hid (HB.out.trans (hb1.mono HB.out.size))
          have HN1 := Lib.hid hn1
          clear hb1 hn1
          go_wp2_with fail
          refine Calls.mono (copyN_any 6 fullT _ _ w1 HN1.out (Nat.le_refl _) full_slim.kids) ?_
          rintro e w2 ⟨s, rfl, hb2, ho⟩
          obtain ⟨p2, c2, rfl⟩ := ho.shape
          have HB2 := Lib.hid (HB1.out.trans (hb2.mono HB1.out.size))
          have HS2 := Lib.hid (Nat.le_trans HB1.out.size (Nat.le_refl w1.heap.size))
          have HO2 := Lib.hid ho
          clear hb2 ho
          go_upto_region 8 with fail
          obtain ⟨w3, hw3⟩ : ∃ w3, w3 = (w2.alloc (.cells #[.int .u8 fullT.kind, .string fullT.text, .int .i64 fullT.num, .int .i64 fullT.place, .slice p2 fullT.kids.length c2] 25)).alloc (.cells #[.int .i64 (k : Int)] 3) := ⟨_, rfl⟩
          obtain ⟨X0, X1, _⟩ := two_new' w2 (.cells #[.int .u8 fullT.kind, .string fullT.text, .int .i64 fullT.num, .int .i64 fullT.place, .slice p2 fullT.kids.length c2] 25) (.cells #[.int .i64 (k : Int)] 3)
          have hb3 := below_two w2 (.cells #[.int .u8 fullT.kind, .string fullT.text, .int .i64 fullT.num, .int .i64 fullT.place, .slice p2 fullT.kids.length c2] 25) (.cells #[.int .i64 (k : Int)] 3)
          have hs3 : ((w2.alloc (.cells #[.int .u8 fullT.kind, .string fullT.text, .int .i64 fullT.num, .int .i64 fullT.place, .slice p2 fullT.kids.length c2] 25)).alloc (.cells #[.int .i64 (k : Int)] 3)).heap.size = w2.heap.size + 2 := by simp
          rw [← hw3] at X0 X1 hb3 hs3
          have HB3 := Lib.hid (HB2.out.trans (hb3.mono HB2.out.size))
          have HC3 := Lib.hid (turn_any 6 fullT (.slice p2 fullT.kids.length c2) w2.heap.size 0 (w2.heap.size + 1) _ (Between w1.heap.size w2.heap.size) k j w3 X0 (fun m u hm => by simpa [nodeCells] using hm) full_fits (HO2.out.below (fun b hb => hb.2) hb3) (fun x hx => by have h1 := hx.1; have h2 := hx.2; exact ⟨by omega, by omega, by omega⟩) X1 (by omega) hk0 (by omega) hjl full_txt (by have := full_many; omega))
          have HL3 := Lib.hid HB2.out.size
          have HL1 := Lib.hid HB1.out.size
          change Code.wp _ _ _ _ ((w2.alloc (.cells #[.int .u8 fullT.kind, .string fullT.text, .int .i64 fullT.num, .int .i64 fullT.place, .slice p2 fullT.kids.length c2] 25)).alloc (.cells #[.int .i64 (k : Int)] 3))
          rw [← hw3]
          clear hw3 X0 X1 hb3 hs3
          go_wp2_with fail
          refine Calls.mono HC3.out ?_
          rintro e w4 ⟨rfl, a4, _, _, T', s', cs', F', hc, hb4, hcs, hin4, _, hf4, ho4, hF4, hq4, ht4, hm4⟩
          obtain ⟨p4, c4, rfl⟩ := ho4.shape
          have HB4 := Lib.hid (Chg.below HB3.out hc (fun x hx => by
            have h1 := HL1.out; have h3 := HL3.out
            rcases hx with hx | hx | hx
            · have := hx.1; omega
            · omega
            · omega) HB3.out.size)
          have hm4 : manyF 7 T' ≤ 2 * manyF 6 fullT := hm4
          have hmm : manyF 7 T' ≤ 200 := by have := full_many; omega
          have HSl := Lib.hid (Txt.slim 7 T' (ht4 7) (by omega))
          have HN4 := Lib.hid (show NodeAt w4 w4.heap.size 7 T' (.agg #[.int .u8 T'.kind, .string T'.text, .int .i64 T'.num, .int .i64 T'.place, .slice p4 T'.kids.length c4]) from ⟨hf4, _, rfl, ho4.kids fun x hx => (hF4 x hx).2⟩)
          have e4 : ∀ m u, (nodeCells T' (.slice p4 T'.kids.length c4))[m]? = some u → w4.cell? ⟨w2.heap.size, m, none⟩ = some u := fun m u hm => by
            have := hin4 m u hm
            rw [Nat.zero_add] at this
            rw [cell_of_row _ _ _ _ _ _ hb4]; exact this
          have HM := Lib.hid (show manyF 7 T' ≤ 100000 by omega)
          have C0 := fun x : Wb w4 => x.cell (e4 0 _ rfl)
          have C1 := fun x : Wb w4 => x.cell (e4 1 _ rfl)
          have C2 := fun x : Wb w4 => x.cell (e4 2 _ rfl)
          have C3 := fun x : Wb w4 => x.cell (e4 3 _ rfl)
          have C4 := fun x : Wb w4 => x.cell (e4 4 _ rfl)
          have HIn := Lib.hid (fun x : Wb w4 => (HN4.out.below x.2))
          have HTx := Lib.hid (fun x : Wb w4 => HTab.out x.1 (HB4.out.trans (x.2.mono HB4.out.size)))
          have HR1 := Lib.hid (fun x : Wb w4 => nodeRight_any 7 T' _ _ x.1 (HIn.out x) x.2.size HSl.out (HTx.out x))
          have HR2 := Lib.hid (fun x : Wb w4 => rright_any 7 T' _ _ x.1 (HIn.out x) x.2.size HSl.out HM.out)
          have HS1 := Lib.hid (fun (x : Wb w4) v (h : NodeAt x.1 x.1.heap.size 6 fullT v) => same_any 7 T' fullT _ v _ _ x.1 (HIn.out x) (node_more h) x.2.size (Nat.le_refl _))
          have HS2 := Lib.hid (fun (x : Wb w4) v (h : NodeAt x.1 x.1.heap.size 6 fullT v) => rsame_any 7 T' fullT _ v _ _ x.1 (HIn.out x) (node_more h) x.2.size (Nat.le_refl _))
          clear hc hb4 hcs hin4 hf4 ho4 hF4 hq4 ht4 hm4 hmm e4 HC3 HO2
          generalize T'.kids.length = n4 at *
          generalize rightF 7 T' = rt at *
          generalize sameF 7 T' fullT = sm at *
          have er : (rt != rt) = false := by simp
          have es : (sm != sm) = false := by simp
          go_wp2_with fail
          refine RE.wp_region_eff (by kernel_rfl) 14 [1, 3, 7, 8, 10, 11] [] (fun _ W => ∃ x : Wb w4, W = x.1) (fun W W' => Below W.heap.size W W') (fun i xs => if i = 1 then .bool rt else if i = 3 then .bool rt else if i = 8 then .bool sm else if i = 11 then .bool sm else at0 xs) (fun i W xs => if i = 7 then NodeAt W W.heap.size 6 fullT (at0 xs) else if i = 10 then NodeAt W W.heap.size 6 fullT (at0 xs) else True) (by kernel_rfl) (fun _ _ _ _ _ _ h hb => wbs h hb) (fun i W W' xs h _ hb => by split at h; (rw [if_pos (by assumption)]; exact (NodeAt.below h hb).up hb.size); rw [if_neg (by assumption)]; split at h; (rw [if_pos (by assumption)]; exact (NodeAt.below h hb).up hb.size); rw [if_neg (by assumption)]; trivial) ⟨⟨w4.drew, (Below.refl _ _).drew⟩, rfl⟩ ?_
          simp only [List.take_succ_cons, List.take_zero, List.drop_succ_cons, List.drop_zero]
          repeat (refine RE.wpE_read (fun W => ∃ x : Wb w4, W = x.1) (fun _ _ _ h => h) rfl rfl rfl ⟨⟨w4.drew, (Below.refl _ _).drew⟩, rfl⟩ ?_; go_big_quiet_step (fail); refine wpQuiet_nil ?_)
          refine RE.wpE_turn rfl rfl ?_ (fun xs1 => ?_)
          · intro W hC _ hE
            obtain ⟨s, _, x, rfl⟩ := hC
            refine RE.upon_call 8 _ _ rfl (enters_of Tryz.func8 (by kernel_rfl) rfl) #[_] (by simp [Act.eval]) ((HR1.out x).mono ?_)
            rintro e W' ⟨rfl, hb⟩
            exact ⟨_, rfl, [], rfl, hb, hb, trivial⟩
          simp only [Act.put, List.setIfInBounds_toArray, List.set_cons_zero, List.set_cons_succ, Nat.reduceEqDiff, reduceIte]
          repeat (refine RE.wpE_read (fun W => ∃ x : Wb w4, W = x.1) (fun _ _ _ h => h) rfl rfl rfl ⟨⟨w4.drew, (Below.refl _ _).drew⟩, rfl⟩ ?_; go_big_quiet_step (fail); refine wpQuiet_nil ?_)
          refine RE.wpE_turn rfl rfl ?_ (fun xs3 => ?_)
          · intro W hC _ hE
            obtain ⟨s, _, x, rfl⟩ := hC
            refine RE.upon_call 9 _ _ rfl (enters_of Tryz.func9 (by kernel_rfl) rfl) #[_] (by simp [Act.eval]) ((HR2.out x).mono ?_)
            rintro e W' ⟨rfl, hb⟩
            exact ⟨_, rfl, [], rfl, hb, hb, trivial⟩
          simp only [Act.put, List.setIfInBounds_toArray, List.set_cons_zero, List.set_cons_succ, Nat.reduceEqDiff, reduceIte]
          repeat (refine RE.wpE_read (fun W => ∃ x : Wb w4, W = x.1) (fun _ _ _ h => h) rfl rfl rfl ⟨⟨w4.drew, (Below.refl _ _).drew⟩, rfl⟩ ?_; go_big_quiet_step (fail); refine wpQuiet_nil ?_)
          refine RE.wpE_turn rfl rfl ?_ (fun xs7 => ?_)
          · intro W hC _ hE
            obtain ⟨s, _, x, rfl⟩ := hC
            refine RE.upon_call 6 _ _ rfl (enters_of Tryz.func6 (by kernel_rfl) rfl) #[] (by simp) ((full_any x.1).mono ?_)
            rintro e W' ⟨pf, nf, cf, rfl, hb, hn⟩
            exact ⟨_, rfl, [_], rfl, hb, hb, hn⟩
          simp only [Act.put, List.setIfInBounds_toArray, List.set_cons_zero, List.set_cons_succ, Nat.reduceEqDiff, reduceIte]
          repeat (refine RE.wpE_read (fun W => ∃ x : Wb w4, W = x.1) (fun _ _ _ h => h) rfl rfl rfl ⟨⟨w4.drew, (Below.refl _ _).drew⟩, rfl⟩ ?_; go_big_quiet_step (fail); refine wpQuiet_nil ?_)
          refine RE.wpE_turn rfl rfl ?_ (fun xs8 => ?_)
          · intro W hC _ hE
            obtain ⟨s, _, x, rfl⟩ := hC
            refine RE.upon_call 10 _ _ rfl (enters_of Tryz.func10 (by kernel_rfl) rfl) #[_, at0 xs7] (by simp [Act.eval]) ((HS1.out x (at0 xs7) (hE 7 xs7 (by kernel_rfl) rfl)).mono ?_)
            rintro e W' ⟨rfl, hb⟩
            exact ⟨_, rfl, [], rfl, hb, hb, trivial⟩
          simp only [Act.put, List.setIfInBounds_toArray, List.set_cons_zero, List.set_cons_succ, Nat.reduceEqDiff, reduceIte]
          repeat (refine RE.wpE_read (fun W => ∃ x : Wb w4, W = x.1) (fun _ _ _ h => h) rfl rfl rfl ⟨⟨w4.drew, (Below.refl _ _).drew⟩, rfl⟩ ?_; go_big_quiet_step (fail); refine wpQuiet_nil ?_)
          refine RE.wpE_turn rfl rfl ?_ (fun xs10 => ?_)
          · intro W hC _ hE
            obtain ⟨s, _, x, rfl⟩ := hC
            refine RE.upon_call 6 _ _ rfl (enters_of Tryz.func6 (by kernel_rfl) rfl) #[] (by simp) ((full_any x.1).mono ?_)
            rintro e W' ⟨pf, nf, cf, rfl, hb, hn⟩
            exact ⟨_, rfl, [_], rfl, hb, hb, hn⟩
          simp only [Act.put, List.setIfInBounds_toArray, List.set_cons_zero, List.set_cons_succ, Nat.reduceEqDiff, reduceIte]
          repeat (refine RE.wpE_read (fun W => ∃ x : Wb w4, W = x.1) (fun _ _ _ h => h) rfl rfl rfl ⟨⟨w4.drew, (Below.refl _ _).drew⟩, rfl⟩ ?_; go_big_quiet_step (fail); refine wpQuiet_nil ?_)
          refine RE.wpE_turn rfl rfl ?_ (fun xs11 => ?_)
          · intro W hC _ hE
            obtain ⟨s, _, x, rfl⟩ := hC
            refine RE.upon_call 11 _ _ rfl (enters_of Tryz.func11 (by kernel_rfl) rfl) #[_, at0 xs10] (by simp [Act.eval]) ((HS2.out x (at0 xs10) (hE 10 xs10 (by kernel_rfl) rfl)).mono ?_)
            rintro e W' ⟨rfl, hb⟩
            exact ⟨_, rfl, [], rfl, hb, hb, trivial⟩
          simp only [Act.put, List.setIfInBounds_toArray, List.set_cons_zero, List.set_cons_succ, Nat.reduceEqDiff, reduceIte]
          repeat (refine RE.wpE_read (fun W => ∃ x : Wb w4, W = x.1) (fun _ _ _ h => h) rfl rfl rfl ⟨⟨w4.drew, (Below.refl _ _).drew⟩, rfl⟩ ?_; go_big_quiet_step (fail); refine wpQuiet_nil ?_)
          refine RE.wpE_nil ?_
          intro W hS hE
          obtain ⟨x, rfl⟩ := hS
          have HBx := Lib.hid (HB4.out.trans (x.2.mono HB4.out.size))
          clear hE C0 C1 C2 C3 C4
          go_wp2_with fail
          exact ⟨⟨j + 1, by omega, by omega, by go_num, HBx.out⟩, by simp [intOf]; omega⟩
        · obtain rfl : j = 84 := by omega
          go_wp2_with fail
          exact ⟨⟨k + 1, by omega, by omega, by go_num, HB.out⟩, by simp [intOf]; omega⟩
    · have hk28 : ¬ ((k : Int) < 28) := by omega
      clear hlt
      go_wp2_with fail
      go_loopw [5] (AtRel w 26 33) (fun i _ => 33 - (intOf i).toNat)
      case atStart => exact ⟨26, Nat.le_refl _, by omega, rfl, HB.out⟩
      case round =>
        clear HB
        obtain ⟨d, hd26, hd33, rfl, hb⟩ := hrel
        have HB := Lib.hid hb
        have hd0 : (0 : Int) ≤ d := by omega
        clear hb
        by_cases hdl : d < 33
        · have hd1 : (d : Int) < 33 := by omega
          go_wp2_with fail
          refine Calls.mono (lawNum_any ⟨#[49]⟩ _) ?_
          rintro e w1 ⟨rfl, hb1⟩
          have HB1 := Lib.hid (HB.out.trans (hb1.mono HB.out.size))
          clear hb1
          go_upto_region 15 with fail
          obtain ⟨w2, hw2⟩ : ∃ w2, w2 = w1.alloc (.cells #[.int .u8 14, .string ⟨#[49]⟩, .int .i64 0, .int .i64 0, .slice none 0 0] 25) := ⟨_, rfl⟩
          have hb2 : Below w1.heap.size w1 w2 := by rw [hw2]; exact (Below.refl _ w1).alloc (Nat.le_refl _) _
          have HX2 : Hid (w2.heap[w1.heap.size]? = some (.cells #[.int .u8 14, .string ⟨#[49]⟩, .int .i64 0, .int .i64 0, .slice none 0 0] 25 (0, 0))) := by show _ = _; rw [hw2]; exact heap_alloc_new w1 _
          have HB2 := Lib.hid (HB1.out.trans (hb2.mono HB1.out.size))
          have HLx := Lib.hid HB1.out.size
          change Code.wp _ _ _ _ (w1.alloc (.cells #[.int .u8 14, .string ⟨#[49]⟩, .int .i64 0, .int .i64 0, .slice none 0 0] 25))
          rw [← hw2]
          clear hw2 hb2
          go_wp2_with fail
          go_loopw [7] (ChainRel w w1.heap.size d) (fun i _ => d - (intOf i).toNat)
          case atStart => exact ⟨0, .slice none 0 0, Nat.zero_le _, rfl, HB2.out, HX2.out, rfl, Or.inl rfl⟩
          case round =>
            clear HX2 HB2
            obtain ⟨i, s, hi, rfl, hb, hx, ho⟩ := hrel
            obtain ⟨p, c, rfl⟩ := ho.shape
            have hi0 : (0 : Int) ≤ i := by omega
            have hx : wr.heap[w1.heap.size]? = some (.cells #[.int .u8 (chainT i).kind, .string (chainT i).text, .int .i64 (chainT i).num, .int .i64 (chainT i).place, .slice p (chainT i).kids.length c] 25 (0, 0)) := hx
            have HBi := Lib.hid hb
            have HXi := Lib.hid hx
            have HOi := Lib.hid ho
            obtain ⟨b0, b1, b2, b3, b4⟩ := cells5 hx
            clear hb hx ho
            by_cases hil : i < d
            · have hi1 : (i : Int) < (d : Int) := by omega
              have hoc := own_chain (chain_fits i) HOi.out (fun x hx => hx.2)
              obtain ⟨w4, hw4⟩ : ∃ w4, w4 = wr.alloc (.cells (nodeCells (chainT i) (.slice p (chainT i).kids.length c)).toArray 25) := ⟨_, rfl⟩
              have hb4 : Below wr.heap.size wr w4 := by rw [hw4]; exact (Below.refl _ wr).alloc (Nat.le_refl _) _
              have HS4 : Hid (w4.heap.size = wr.heap.size + 1) := by show _ = _; rw [hw4, World.size_alloc]
              rw [← hw4] at hoc
              have HOc := Lib.hid hoc
              have HB4 := Lib.hid (HBi.out.trans (hb4.mono HBi.out.size))
              have HX4 := Lib.hid (heap_below hb4 HXi.out (Array.getElem?_eq_some_iff.1 HXi.out).1)
              have HLg := Lib.hid (Array.getElem?_eq_some_iff.1 HXi.out).1
              clear hoc hb4
              go_wp2_with fail
              change Calls Tryz.prog 13 #[.int .u8 16, .string ⟨#[45]⟩, .slice (some ⟨wr.heap.size, 0, none⟩) 1 1] (wr.alloc (.cells (nodeCells (chainT i) (.slice p (chainT i).kids.length c)).toArray 25)) _
              rw [← hw4]
              clear hw4 b0 b1 b2 b3 b4
              refine Calls.mono (lawOf_any 16 ⟨#[45]⟩ (some ⟨wr.heap.size, 0, none⟩) 1 1 w4) ?_
              rintro e w5 ⟨rfl, hb5⟩
              have hx5 := heap_below hb5 HX4.out (Array.getElem?_eq_some_iff.1 HX4.out).1
              obtain ⟨b0, b1, b2, b3, b4⟩ := cells5 hx5
              have f0 := frozen5 hx5 0
              have f1 := frozen5 hx5 1
              have f2 := frozen5 hx5 2
              have f3 := frozen5 hx5 3
              have f4 := frozen5 hx5 4
              obtain ⟨W5, hW5⟩ : ∃ W5, W5 = storeNode w5 w1.heap.size (.int .u8 16) (.string ⟨#[45]⟩) (.int .i64 0) (.int .i64 0) (.slice (some ⟨wr.heap.size, 0, none⟩) 1 1) := ⟨_, rfl⟩
              have HB5 : Hid (Below w.heap.size w W5) := by
                show Below _ _ _
                rw [hW5]; exact storeNode_below (HB4.out.trans (hb5.mono HB4.out.size)) HLx.out _ _ _ _ _
              have HX5 : Hid (W5.heap[w1.heap.size]? = some (.cells #[.int .u8 16, .string ⟨#[45]⟩, .int .i64 0, .int .i64 0, .slice (some ⟨wr.heap.size, 0, none⟩) 1 1] 25 (0, 0))) := by
                show _ = _
                rw [hW5]; exact heap_set (heap_set (heap_set (heap_set (heap_set hx5 0 _) 1 _) 2 _) 3 _) 4 _
              have HO5 : Hid (OwnAt W5 (i + 1) [chainT i] (.slice (some ⟨wr.heap.size, 0, none⟩) 1 1) (fun x => w1.heap.size < x ∧ x < W5.heap.size)) := by
                show OwnAt _ _ _ _ _
                have hlg := HLg.out
                have hs4 := HS4.out
                have hs5 : W5.heap.size = w5.heap.size := by rw [hW5, storeNode_size]
                have h5 := hb5.size
                have hoff : ∀ x, ((w1.heap.size < x ∧ x < wr.heap.size) ∨ x = wr.heap.size) → x < w4.heap.size ∧ x ≠ w1.heap.size := fun x hx => by omega
                refine ((HOc.out.below (B := w4.heap.size) (fun x hx => (hoff x hx).1) hb5).keep (w' := W5) (fun x o hx h => ?_)).sub (fun x hx => ?_)
                · rw [hW5, storeNode_other _ _ _ _ _ x (hoff x hx).2]; exact h
                · have := hoff x hx; omega
              clear hb5 hx5
              go_upto_region 17 with fail
              change Code.wp _ _ _ _ (storeNode w5 w1.heap.size (.int .u8 16) (.string ⟨#[45]⟩) (.int .i64 0) (.int .i64 0) (.slice (some ⟨wr.heap.size, 0, none⟩) 1 1))
              rw [← hW5]
              clear hW5 b0 b1 b2 b3 b4 f0 f1 f2 f3 f4
              go_wp2_with fail
              exact ⟨⟨i + 1, .slice (some ⟨wr.heap.size, 0, none⟩) 1 1, by omega, by go_num, HB5.out, HX5.out, HO5.out⟩, by simp [intOf]; omega⟩
            · have hid : i = d := by omega
              have hi2 : ¬ ((i : Int) < (d : Int)) := by omega
              rw [hid] at HOi HXi b0 b1 b2 b3 b4
              clear hid hil hi
              obtain ⟨hrt, hdp, hmn⟩ := top_at d hd26 hdl
              have hoc := own_chain (chain_fits d) HOi.out (fun x hx => hx.2)
              obtain ⟨w4, hw4⟩ : ∃ w4, w4 = wr.alloc (.cells (nodeCells (chainT d) (.slice p (chainT d).kids.length c)).toArray 25) := ⟨_, rfl⟩
              have hb4 : Below wr.heap.size wr w4 := by rw [hw4]; exact (Below.refl _ wr).alloc (Nat.le_refl _) _
              rw [← hw4] at hoc
              have HK4 : Hid (KidsAt w4 w4.heap.size (d + 1) [chainT d] (.slice (some ⟨wr.heap.size, 0, none⟩) 1 1)) := hoc.kids (fun x hx => by
                have : w4.heap.size = wr.heap.size + 1 := by rw [hw4, World.size_alloc]
                rcases hx with hx | hx <;> omega)
              have HB4 := Lib.hid (HBi.out.trans (hb4.mono HBi.out.size))
              have HR := Lib.hid hrt
              have HD := Lib.hid hdp
              have HM := Lib.hid hmn
              clear hoc hb4 hrt hdp hmn
              go_wp2_with fail
              change Calls Tryz.prog 13 #[.int .u8 7, .string ⟨#[]⟩, .slice (some ⟨wr.heap.size, 0, none⟩) 1 1] (wr.alloc (.cells (nodeCells (chainT d) (.slice p (chainT d).kids.length c)).toArray 25)) _
              rw [← hw4]
              clear hw4 b0 b1 b2 b3 b4
              generalize wr.heap.size = g1 at *
              refine Calls.mono (lawOf_any 7 ⟨#[]⟩ (some ⟨g1, 0, none⟩) 1 1 w4) ?_
              rintro e w5 ⟨rfl, hb5⟩
              have hk5 := kid_one (T := testC d) (s := .slice (some ⟨g1, 0, none⟩) 1 1) (fits_lit 7 ⟨#[]⟩ [chainT d] rfl) ((HK4.out.below hb5).up hb5.size)
              obtain ⟨w6, hw6⟩ : ∃ w6, w6 = w5.alloc (.cells (nodeCells (testC d) (.slice (some ⟨g1, 0, none⟩) 1 1)).toArray 25) := ⟨_, rfl⟩
              have hb6 : Below w5.heap.size w5 w6 := by rw [hw6]; exact (Below.refl _ w5).alloc (Nat.le_refl _) _
              rw [← hw6] at hk5
              have HK6 := Lib.hid hk5
              have HB6 := Lib.hid ((HB4.out.trans (hb5.mono HB4.out.size)).trans (hb6.mono (Nat.le_trans HB4.out.size hb5.size)))
              clear hk5 hb5 hb6
              go_wp2_with fail
              change Calls Tryz.prog 13 #[.int .u8 4, .string ⟨#[114]⟩, .slice (some ⟨w5.heap.size, 0, none⟩) 1 1] (w5.alloc (.cells (nodeCells (testC d) (.slice (some ⟨g1, 0, none⟩) 1 1)).toArray 25)) _
              rw [← hw6]
              clear hw6
              generalize w5.heap.size = g2 at *
              refine Calls.mono (lawOf_any 4 ⟨#[114]⟩ (some ⟨g2, 0, none⟩) 1 1 w6) ?_
              rintro e w7 ⟨rfl, hb7⟩
              have hk7 := kid_one (T := ruleC d) (s := .slice (some ⟨g2, 0, none⟩) 1 1) (fits_lit 4 ⟨#[114]⟩ [testC d] rfl) ((HK6.out.below hb7).up hb7.size)
              obtain ⟨w8, hw8⟩ : ∃ w8, w8 = w7.alloc (.cells (nodeCells (ruleC d) (.slice (some ⟨g2, 0, none⟩) 1 1)).toArray 25) := ⟨_, rfl⟩
              have hb8 : Below w7.heap.size w7 w8 := by rw [hw8]; exact (Below.refl _ w7).alloc (Nat.le_refl _) _
              rw [← hw8] at hk7
              have HK8 := Lib.hid hk7
              have HB8 := Lib.hid ((HB6.out.trans (hb7.mono HB6.out.size)).trans (hb8.mono (Nat.le_trans HB6.out.size hb7.size)))
              clear hk7 hb7 hb8
              go_wp2_with fail
              change Calls Tryz.prog 14 #[.slice (some ⟨w7.heap.size, 0, none⟩) 1 1] (w7.alloc (.cells (nodeCells (ruleC d) (.slice (some ⟨g2, 0, none⟩) 1 1)).toArray 25)) _
              rw [← hw8]
              clear hw8
              generalize w7.heap.size = g3 at *
              refine Calls.mono (lawProg_any (some ⟨g3, 0, none⟩) 1 1 w8) ?_
              rintro e w9 ⟨rfl, hb9⟩
              have hkA := (HK8.out.below hb9).up hb9.size
              have HB9 := Lib.hid (HB8.out.trans (hb9.mono HB8.out.size))
              have HK9 := Lib.hid hkA
              clear hb9 hkA
              go_upto_region 20 with fail
              obtain ⟨wA, hwA⟩ : ∃ wA, wA = w9.alloc (.cells #[.int .u8 1, .string ⟨#[]⟩, .int .i64 0, .int .i64 0, .slice (some ⟨g3, 0, none⟩) 1 1] 25) := ⟨_, rfl⟩
              have hbA : Below w9.heap.size w9 wA := by rw [hwA]; exact (Below.refl _ w9).alloc (Nat.le_refl _) _
              have HXA : Hid (wA.heap[w9.heap.size]? = some (.cells #[.int .u8 1, .string ⟨#[]⟩, .int .i64 0, .int .i64 0, .slice (some ⟨g3, 0, none⟩) 1 1] 25 (0, 0))) := by show _ = _; rw [hwA]; exact heap_alloc_new w9 _
              have HBA := Lib.hid (HB9.out.trans (hbA.mono HB9.out.size))
              have HNA : Hid (NodeAt wA wA.heap.size (d + 3) (topC d) (.agg #[.int .u8 1, .string ⟨#[]⟩, .int .i64 0, .int .i64 0, .slice (some ⟨g3, 0, none⟩) 1 1])) := ⟨fits_lit 1 ⟨#[]⟩ [ruleC d] rfl, _, rfl, (HK9.out.below hbA).up hbA.size⟩
              change Code.wp _ _ _ _ (w9.alloc (.cells #[.int .u8 1, .string ⟨#[]⟩, .int .i64 0, .int .i64 0, .slice (some ⟨g3, 0, none⟩) 1 1] 25))
              rw [← hwA]
              clear hwA hbA
              have hslA : Slim (d + 3) (topC d) := Txt.slim (d + 3) (topC d) (top_txt d (d + 3)) (by have := HM.out; omega)
              have HSA := Lib.hid hslA
              have HRA := Lib.hid (nodeRight_any (d + 3) (topC d) _ _ wA HNA.out (Nat.le_refl _) hslA (HTab.out _ HBA.out))
              obtain ⟨a0, a1, a2, a3, a4⟩ := cells5 HXA.out
              clear hslA
              go_wp2_with fail
              refine Calls.mono HRA.out ?_
              rintro e wB ⟨rfl, hbB⟩
              rw [HR.out]
              have hxB := heap_below hbB HXA.out (Array.getElem?_eq_some_iff.1 HXA.out).1
              have HBB := Lib.hid (HBA.out.trans (hbB.mono HBA.out.size))
              have HDB := Lib.hid (deep_any (d + 3) (topC d) _ _ wB ((HNA.out.below hbB).up hbB.size) (Nat.le_refl _) (by have := HM.out; omega))
              clear hbB a0 a1 a2 a3 a4
              obtain ⟨a0, a1, a2, a3, a4⟩ := cells5 hxB
              by_cases h26 : d ≤ 26
              · have g26 : (d : Int) ≤ 26 := by omega
                rw [decide_eq_true h26]
                have hdd : (((d + 4 : Nat) : Int)) = (d : Int) + 4 := by omega
                go_wp2_with fail
                refine Calls.mono HDB.out ?_
                rintro e wC ⟨rfl, hbC⟩
                rw [HD.out, hdd]
                have HBC := Lib.hid (HBB.out.trans (hbC.mono HBB.out.size))
                clear hbC hxB a0 a1 a2 a3 a4 hdd
                go_wp2_with fail
                exact ⟨⟨d + 1, by omega, by omega, by go_num, HBC.out⟩, by simp [intOf]; omega⟩
              · have g26 : ¬ ((d : Int) ≤ 26) := by omega
                rw [decide_eq_false h26]
                have hdd : (((d + 4 : Nat) : Int)) = (d : Int) + 4 := by omega
                go_wp2_with fail
                refine Calls.mono HDB.out ?_
                rintro e wC ⟨rfl, hbC⟩
                rw [HD.out, hdd]
                have HBC := Lib.hid (HBB.out.trans (hbC.mono HBB.out.size))
                clear hbC hxB a0 a1 a2 a3 a4 hdd
                go_wp2_with fail
                exact ⟨⟨d + 1, by omega, by omega, by go_num, HBC.out⟩, by simp [intOf]; omega⟩
        · have hd2 : ¬ ((d : Int) < 33) := by omega
          clear hdl
          go_wp2_with fail
          refine Calls.mono (lawProg_any none 0 0 _) ?_
          rintro e w1 ⟨rfl, hb1⟩
          have HB1 := Lib.hid (HB.out.trans (hb1.mono HB.out.size))
          clear hb1
          go_upto_region 23 with fail
          obtain ⟨w2, hw2⟩ : ∃ w2, w2 = w1.alloc (.cells #[.int .u8 1, .string ⟨#[]⟩, .int .i64 0, .int .i64 0, .slice none 0 0] 25) := ⟨_, rfl⟩
          have HW2 : Hid (WideAt w w1.heap.size 0 none 0 w2) := by
            show WideAt _ _ _ _ _ _
            rw [hw2]
            exact ⟨HB1.out.trans (((Below.refl _ w1).alloc (Nat.le_refl _) _).mono HB1.out.size), heap_alloc_new w1 _, World.ownsRow_nil _ _ _ _, fun g hg => by cases hg⟩
          have HLx := Lib.hid HB1.out.size
          change Code.wp _ _ _ _ (w1.alloc (.cells #[.int .u8 1, .string ⟨#[]⟩, .int .i64 0, .int .i64 0, .slice none 0 0] 25))
          rw [← hw2]
          clear hw2
          go_wp2_with fail
          go_loopw [10] (WideRel w w1.heap.size 4095) (fun i _ => 4095 - (intOf i).toNat)
          case atStart => exact ⟨0, none, 0, Nat.zero_le _, rfl, HW2.out⟩
          case round =>
            clear HW2
            obtain ⟨k, p, c, hk, rfl, hw⟩ := hrel
            have hk0 : (0 : Int) ≤ k := by omega
            have HW := Lib.hid hw
            have HL2 := Lib.hid (Array.getElem?_eq_some_iff.1 hw.2.1).1
            clear hw
            by_cases hkl : k < 4095
            · have hk1 : (k : Int) < 4095 := by omega
              have hx0 : wr.heap[w1.heap.size]? = some (.cells #[.int .u8 1, .string ⟨#[]⟩, .int .i64 0, .int .i64 0, .slice p k c] 25 (0, 0)) := HW.out.2.1
              have C4 := fun x : Kb wr w1.heap.size => x.cell (cells5 hx0).2.2.2.2
              have HKb := Lib.hid (back_kb (w4 := wr) (p := p) (n := k) (c := c) (row := (rowsA k).flatten ++ leafC 2 ⟨#[97]⟩) HL2.out (fun e => (HW.out.2.2.2 _ e).2 rfl) : ∀ (m s : Nat) (W : World), s ≤ m → (if s = 0 then (∃ x : Wb wr, W = x.1) else BackS wr p k c ((rowsA k).flatten ++ leafC 2 ⟨#[97]⟩) W) → ∃ x : Kb wr w1.heap.size, W = x.1)
              clear hx0
              go_wp2_with fail
              refine RE.wp_region_eff (by kernel_rfl) 5 [2, 3, 4] [4] (fun s W => if s = 0 then (∃ x : Wb wr, W = x.1) else BackS wr p k c ((rowsA k).flatten ++ leafC 2 ⟨#[97]⟩) W) (BackR wr) (fun i ys => if i = 2 then .agg (leafC 2 ⟨#[97]⟩).toArray else at0 ys) (phW wr p k c (leafC 2 ⟨#[97]⟩) ((rowsA k).flatten ++ leafC 2 ⟨#[97]⟩)) (by kernel_rfl) (fun _ _ _ s W W' h hb => by split at h; (rw [if_pos (by assumption)]; exact wbs h hb); (rw [if_neg (by assumption)]; exact h.below hb)) (fun _ _ _ _ h _ hR => h.keep hR) ⟨⟨wr.drew, (Below.refl _ _).drew⟩, rfl⟩ ?_
              simp only [List.take_succ_cons, List.take_zero, List.drop_succ_cons, List.drop_zero]
              repeat (refine RE.wpE_read (fun W => ∃ x : Kb wr w1.heap.size, W = x.1) (HKb.out _) rfl rfl rfl ⟨⟨wr.drew, (Below.refl _ _).drew⟩, rfl⟩ ?_; go_big_quiet_step (fail); refine wpQuiet_nil ?_)
              refine RE.wpE_turn rfl rfl ?_ (fun ys2 => ?_)
              · intro W hC hS hE
                refine RE.upon_call 13 _ _ rfl (enters_of Tryz.func13 (by kernel_rfl) rfl) #[.int .u8 2, .string ⟨#[97]⟩, .slice none 0 0] (by simp [Act.eval]) ((lawOf_any 2 ⟨#[97]⟩ none 0 0 W).mono ?_)
                rintro e W' ⟨rfl, hb⟩
                exact ⟨_, rfl, [], rfl, hb, BackR.of_below hb, trivial⟩
              simp only [Act.put, List.setIfInBounds_toArray, List.set_cons_zero, List.set_cons_succ, reduceIte]
              repeat (refine RE.wpE_read (fun W => ∃ x : Kb wr w1.heap.size, W = x.1) (HKb.out _) rfl rfl rfl ⟨⟨wr.drew, (Below.refl _ _).drew⟩, rfl⟩ ?_; go_big_quiet_step (fail); refine wpQuiet_nil ?_)
              refine RE.wpE_turn rfl rfl ?_ (fun ys3 => ?_)
              · intro W hC hS hE
                obtain ⟨s9, _, h9⟩ := hC
                exact upon_leaf 2 ⟨#[97]⟩ _ rfl rfl (back_size h9) (fun v W' hb hv => ⟨[v], rfl, hb, BackR.of_below hb, hv⟩)
              simp only [Act.put, List.setIfInBounds_toArray, List.set_cons_zero, List.set_cons_succ, Nat.reduceEqDiff, reduceIte]
              refine RE.wpE_turn rfl rfl ?_ (fun ys4 => ?_)
              · intro W hC hS hE
                obtain ⟨x, rfl⟩ : ∃ x : Wb wr, W = x.1 := hS rfl
                obtain ⟨g9, e9, l9, h9⟩ : Fr1 wr.heap.size (leafC 2 ⟨#[97]⟩) x.1 (at0 ys3) := hE 3 ys3 (by kernel_rfl) rfl
                exact upon_back (p := p) (n := k) (c := c) (w4 := wr) (g9 := g9) (k := 2) (t := ⟨#[97]⟩) (xs := (rowsA k).flatten) _ _ rfl rfl e9 h9 x.2 HW.out.2.2.1 (by omega) (fun v' W' h1 h2 h3 => ⟨[v'], rfl, h1, h2, h3⟩)
              simp only [Act.put, List.setIfInBounds_toArray, List.set_cons_zero, List.set_cons_succ, Nat.reduceEqDiff, reduceIte]
              refine RE.wpE_nil ?_
              intro W hS hE
              have hS : BackS wr p k c ((rowsA k).flatten ++ leafC 2 ⟨#[97]⟩) W := hS
              have hV : BackV wr p k c ((rowsA k).flatten ++ leafC 2 ⟨#[97]⟩) W (at0 ys4) := hE 4 ys4 rfl
              obtain ⟨g, cap, eg, hg, hC, hownW⟩ := back_end hS hV
              rw [eg]
              obtain ⟨hcb, hwide⟩ := wide_step HW.out HLx.out hg hC hownW
              obtain ⟨b0, b1, b2, b3, b4⟩ := cells5 hcb
              have f4 := frozen5 hcb 4
              obtain ⟨W5, hW5⟩ : ∃ W5, W5 = W.setCell ⟨w1.heap.size, 4, none⟩ (.slice (some ⟨g, 0, none⟩) (k + 1) cap) := ⟨_, rfl⟩
              rw [← hW5] at hwide
              have HW5 := Lib.hid hwide
              clear hS hV hE eg hg hC hownW hcb hwide C4 HKb
              go_upto_region 25 with fail
              change Code.wp _ _ _ _ (W.setCell ⟨w1.heap.size, 4, none⟩ (.slice (some ⟨g, 0, none⟩) (k + 1) cap))
              rw [← hW5]
              clear hW5 b0 b1 b2 b3 b4 f4
              go_wp2_with fail
              exact ⟨⟨k + 1, _, cap, by omega, by go_num, HW5.out⟩, by simp [intOf]; omega⟩
            · have HK3 : Hid (k = 4095) := by show _ = _; omega
              have hk3 : ¬ ((k : Int) < 4095) := by omega
              have hk5 : k ≤ 4095 := by omega
              obtain ⟨b0, b1, b2, b3, b4⟩ := cells5 HW.out.2.1
              have hr : rightF 1 (wideT k) = true := by rw [right_wide, HK3.out]; rfl
              have HRA := Lib.hid (nodeRight_any 1 (wideT k) _ _ wr (wide_node HW.out.2.2.1) (Nat.le_refl _) (Txt.slim 1 (wideT k) (wide_txt k 1) (by rw [many_wide]; omega)) (HTab.out _ HW.out.1))
              rw [hr] at HRA
              clear hr hkl
              go_wp2_with fail
              refine Calls.mono HRA.out ?_
              rintro e w3 ⟨rfl, hb3⟩
              have HW3 := Lib.hid (wide_below HW.out hb3)
              have HL3 := Lib.hid (Nat.lt_of_lt_of_le HL2.out hb3.size)
              clear hb3 b0 b1 b2 b3 b4 HRA
              have hx0 : w3.heap[w1.heap.size]? = some (.cells #[.int .u8 1, .string ⟨#[]⟩, .int .i64 0, .int .i64 0, .slice p k c] 25 (0, 0)) := HW3.out.2.1
              have C4 := fun x : Kb w3 w1.heap.size => x.cell (cells5 hx0).2.2.2.2
              have HKb := Lib.hid (back_kb (w4 := w3) (p := p) (n := k) (c := c) (row := (rowsA k).flatten ++ leafC 2 ⟨#[97]⟩) HL3.out (fun e => (HW3.out.2.2.2 _ e).2 rfl) : ∀ (m s : Nat) (W : World), s ≤ m → (if s = 0 then (∃ x : Wb w3, W = x.1) else BackS w3 p k c ((rowsA k).flatten ++ leafC 2 ⟨#[97]⟩) W) → ∃ x : Kb w3 w1.heap.size, W = x.1)
              clear hx0
              go_wp2_with fail
              refine RE.wp_region_eff (by kernel_rfl) 5 [2, 3, 4] [4] (fun s W => if s = 0 then (∃ x : Wb w3, W = x.1) else BackS w3 p k c ((rowsA k).flatten ++ leafC 2 ⟨#[97]⟩) W) (BackR w3) (fun i ys => if i = 2 then .agg (leafC 2 ⟨#[97]⟩).toArray else at0 ys) (phW w3 p k c (leafC 2 ⟨#[97]⟩) ((rowsA k).flatten ++ leafC 2 ⟨#[97]⟩)) (by kernel_rfl) (fun _ _ _ s W W' h hb => by split at h; (rw [if_pos (by assumption)]; exact wbs h hb); (rw [if_neg (by assumption)]; exact h.below hb)) (fun _ _ _ _ h _ hR => h.keep hR) ⟨⟨w3.drew, (Below.refl _ _).drew⟩, rfl⟩ ?_
              simp only [List.take_succ_cons, List.take_zero, List.drop_succ_cons, List.drop_zero]
              repeat (refine RE.wpE_read (fun W => ∃ x : Kb w3 w1.heap.size, W = x.1) (HKb.out _) rfl rfl rfl ⟨⟨w3.drew, (Below.refl _ _).drew⟩, rfl⟩ ?_; go_big_quiet_step (fail); refine wpQuiet_nil ?_)
              refine RE.wpE_turn rfl rfl ?_ (fun ys2 => ?_)
              · intro W hC hS hE
                refine RE.upon_call 13 _ _ rfl (enters_of Tryz.func13 (by kernel_rfl) rfl) #[.int .u8 2, .string ⟨#[97]⟩, .slice none 0 0] (by simp [Act.eval]) ((lawOf_any 2 ⟨#[97]⟩ none 0 0 W).mono ?_)
                rintro e W' ⟨rfl, hb⟩
                exact ⟨_, rfl, [], rfl, hb, BackR.of_below hb, trivial⟩
              simp only [Act.put, List.setIfInBounds_toArray, List.set_cons_zero, List.set_cons_succ, reduceIte]
              repeat (refine RE.wpE_read (fun W => ∃ x : Kb w3 w1.heap.size, W = x.1) (HKb.out _) rfl rfl rfl ⟨⟨w3.drew, (Below.refl _ _).drew⟩, rfl⟩ ?_; go_big_quiet_step (fail); refine wpQuiet_nil ?_)
              refine RE.wpE_turn rfl rfl ?_ (fun ys3 => ?_)
              · intro W hC hS hE
                obtain ⟨s9, _, h9⟩ := hC
                exact upon_leaf 2 ⟨#[97]⟩ _ rfl rfl (back_size h9) (fun v W' hb hv => ⟨[v], rfl, hb, BackR.of_below hb, hv⟩)
              simp only [Act.put, List.setIfInBounds_toArray, List.set_cons_zero, List.set_cons_succ, Nat.reduceEqDiff, reduceIte]
              refine RE.wpE_turn rfl rfl ?_ (fun ys4 => ?_)
              · intro W hC hS hE
                obtain ⟨x, rfl⟩ : ∃ x : Wb w3, W = x.1 := hS rfl
                obtain ⟨g9, e9, l9, h9⟩ : Fr1 w3.heap.size (leafC 2 ⟨#[97]⟩) x.1 (at0 ys3) := hE 3 ys3 (by kernel_rfl) rfl
                exact upon_back (p := p) (n := k) (c := c) (w4 := w3) (g9 := g9) (k := 2) (t := ⟨#[97]⟩) (xs := (rowsA k).flatten) _ _ rfl rfl e9 h9 x.2 HW3.out.2.2.1 (by omega) (fun v' W' h1 h2 h3 => ⟨[v'], rfl, h1, h2, h3⟩)
              simp only [Act.put, List.setIfInBounds_toArray, List.set_cons_zero, List.set_cons_succ, Nat.reduceEqDiff, reduceIte]
              refine RE.wpE_nil ?_
              intro W hS hE
              have hS : BackS w3 p k c ((rowsA k).flatten ++ leafC 2 ⟨#[97]⟩) W := hS
              have hV : BackV w3 p k c ((rowsA k).flatten ++ leafC 2 ⟨#[97]⟩) W (at0 ys4) := hE 4 ys4 rfl
              obtain ⟨g, cap, eg, hg, hC, hownW⟩ := back_end hS hV
              rw [eg]
              obtain ⟨hcb, hwide⟩ := wide_step HW3.out HLx.out hg hC hownW
              obtain ⟨b0, b1, b2, b3, b4⟩ := cells5 hcb
              have f4 := frozen5 hcb 4
              obtain ⟨W5, hW5⟩ : ∃ W5, W5 = W.setCell ⟨w1.heap.size, 4, none⟩ (.slice (some ⟨g, 0, none⟩) (k + 1) cap) := ⟨_, rfl⟩
              rw [← hW5] at hwide
              have HW5 := Lib.hid hwide
              clear hS hV hE eg hg hC hownW hcb hwide C4 HKb
              go_upto_region 30 with fail
              change Code.wp _ _ _ _ (W.setCell ⟨w1.heap.size, 4, none⟩ (.slice (some ⟨g, 0, none⟩) (k + 1) cap))
              rw [← hW5]
              clear hW5 b0 b1 b2 b3 b4 f4
              obtain ⟨b0, b1, b2, b3, b4⟩ := cells5 HW5.out.2.1
              have hr : rightF 1 (wideT (k + 1)) = false := by rw [right_wide, HK3.out]; rfl
              have HRA := Lib.hid (nodeRight_any 1 (wideT (k + 1)) _ _ W5 (wide_node HW5.out.2.2.1) (Nat.le_refl _) (Txt.slim 1 (wideT (k + 1)) (wide_txt (k + 1) 1) (by rw [many_wide]; omega)) (HTab.out _ HW5.out.1))
              rw [hr] at HRA
              clear hr
              go_wp2_with fail
              refine Calls.mono HRA.out ?_
              rintro e w6 ⟨rfl, hb6⟩
              have HB6 := Lib.hid (HW5.out.1.trans (hb6.mono HW5.out.1.size))
              clear hb6 b0 b1 b2 b3 b4 HRA
              go_wp2_with fail
              refine Calls.mono (law_nodeZero w6 (HTab.out _ HB6.out)) ?_
              rintro e w7 ⟨rfl, hb7⟩
              have HB7 := Lib.hid (HB6.out.trans (hb7.mono HB6.out.size))
              clear hb7
              go_wp2_with fail
              refine Calls.mono (awake_any w7 (HTab.out _ HB7.out)) ?_
              rintro e w8 ⟨rfl, hb8⟩
              have HB8 := Lib.hid (HB7.out.trans (hb8.mono HB7.out.size))
              clear hb8
              go_wp2_with fail
              go_ret
              exact ⟨rfl, HB8.out⟩
end Go.Proofs.YtfpohaipmnjflaaGreatDoor
