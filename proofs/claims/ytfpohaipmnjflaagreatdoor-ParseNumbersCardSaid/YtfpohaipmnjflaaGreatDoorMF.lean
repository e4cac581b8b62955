/- Several texts joined, each with its own sentence and conditions ahead of it: TreeK, TreeL, TreeN, QuietB, TreeO, NumRow. -/
import Derived.Test.YtfpohaipmnjflaaGreatDoorME
import Derived.Laws.OwnMore
import Derived.Deep.DeepAppendRoom
import Derived.Test.YtfpohaipmnjflaaGreatDoorMA
import Derived.Deep.QuietTactic
import Derived.BigQuiet
/- What the statements lend: a tree copied, with marks behind each list's end; by contract. Condition: at most 100000 kids a list. -/
namespace Go.Proofs.YtfpohaipmnjflaaGreatDoor
open Go.RowKit

/-- the cells of a node whose kids' slice is s -/
def nodeCells (T : Tree) (s : Value) : List Value := [.int .u8 T.kind, .string T.text, .int .i64 T.num, .int .i64 T.place, s]
/-- a mark's node -/
def markT' (j : Nat) : Tree := .mk 0 ⟨#[]⟩ 0 (8000024 + j) []
/-- rows of five cells, one behind the other -/
theorem flat5 : ∀ (rows : List (List Value)), (∀ r ∈ rows, r.length = 5) → ∀ (i m : Nat) (r : List Value) (u : Value), rows[i]? = some r → r[m]? = some u → rows.flatten[i * 5 + m]? = some u := by
  intro rows
  induction rows with
  | nil => intro _ i m r u h _; simp at h
  | cons x rows ih =>
    intro h5 i m r u hi hm
    have hx : x.length = 5 := h5 x (List.mem_cons_self ..)
    rw [List.flatten_cons]
    cases i with
    | zero =>
      simp only [List.getElem?_cons_zero, Option.some.injEq] at hi
      subst hi
      have : m < x.length := (List.getElem?_eq_some_iff.1 hm).1
      rw [Nat.zero_mul, Nat.zero_add, List.getElem?_append_left this]
      exact hm
    | succ i =>
      rw [List.getElem?_cons_succ] at hi
      have := ih (fun r hr => h5 r (List.mem_cons_of_mem _ hr)) i m r u hi hm
      rw [List.getElem?_append_right (by omega)]
      rw [← this]
      congr 1
      omega
/-- a slice that was lent: room for twelve more, marks in it; its blocks lie from L to ahead of B -/
def LentAt (w : World) (L B : Nat) : Nat → List Tree → Value → Prop
  | 0, ks, sl => ks = [] ∧ ∃ g, L ≤ g ∧ g < B ∧ sl = .slice (some ⟨g, 0, none⟩) 0 12 ∧ ∀ j, j < 12 → ∀ i u, (nodeCells (markT' j) (.slice none 0 0))[i]? = some u → w.cell? ⟨g, j * 5 + i, none⟩ = some u
  | d + 1, ks, sl => ∃ g, L ≤ g ∧ g < B ∧ sl = .slice (some ⟨g, 0, none⟩) ks.length (ks.length + 12) ∧
      (∀ j, j < 12 → ∀ i u, (nodeCells (markT' j) (.slice none 0 0))[i]? = some u → w.cell? ⟨g, (ks.length + j) * 5 + i, none⟩ = some u) ∧
      ∀ i T, ks[i]? = some T → Fits T ∧ ∃ s, (∀ m u, (nodeCells T s)[m]? = some u → w.cell? ⟨g, i * 5 + m, none⟩ = some u) ∧ LentAt w L B d T.kids s

theorem mark_any (i : Nat) (w : World) (hi : i ≤ 100) : Calls Tryz.prog 123 #[.int .i64 1, .int .i64 i] w fun e w' => e = .returned (.int .i64 (8000024 + (i : Int))) ∧ w = w' := by
  have h0 : (0 : Int) ≤ i := by omega
  have h1 : (i : Int) ≤ 100 := by omega
  go_enter Tryz.func123, Tryz.ntmps123
  go_wp2
  go_ret
  exact ⟨rfl, rfl⟩
/-- a block of five cells -/
theorem cells5 {w : World} {T : Nat} {a b c d e : Value} {t : TypeId} (h : w.heap[T]? = some (.cells #[a, b, c, d, e] t (0, 0))) :
    w.cell? ⟨T, 0, none⟩ = some a ∧ w.cell? ⟨T, 1, none⟩ = some b ∧ w.cell? ⟨T, 2, none⟩ = some c ∧ w.cell? ⟨T, 3, none⟩ = some d ∧ w.cell? ⟨T, 4, none⟩ = some e := by
  simp [World.cell?, h]
theorem markNode_fin (W : World) (Rp : Ending → World → Prop) (T : Nat) (a b c d e : Value) (hT : W.heap[T]? = some (.cells #[a, b, c, d, e] 25 (0, 0)))
    (tmps : Array Value) (h4 : tmps.getD 4 undef = .pointer (some ⟨T, 0, none⟩)) (hR : Rp (.returned (.agg #[a, b, c, d, e])) W) :
    bodyPost Tryz.prog Tryz.f88 Rp .ret ⟨tmps, []⟩ W := by
  obtain ⟨c0, c1, c2, c3, c4⟩ := cells5 hT
  have h4' : tmps[4]?.getD undef = .pointer (some ⟨T, 0, none⟩) := by simpa using h4
  refine bodyPost_ret (v := .agg #[a, b, c, d, e]) ?_ rfl hR
  simp [results, Tryz.results88, go_sem, h4', c0, c1, c2, c3, c4]
theorem markNode_any (i : Nat) (w : World) (hi : i ≤ 100) :
    Calls Tryz.prog 88 #[.int .i64 1, .int .i64 i] w fun e w' => e = .returned (.agg #[.int .u8 0, .string ⟨#[]⟩, .int .i64 0, .int .i64 (8000024 + (i : Int)), .slice none 0 0]) ∧ Below w.heap.size w w' := by
  have HM := Lib.hid (fun W => mark_any i W hi)
  go_enter Tryz.func88, Tryz.ntmps88
  go_wp2_with (first
    | (go_at_call 123; refine Calls.mono (HM.out _) ?_; rintro e w' ⟨rfl, rfl⟩))
  exact markNode_fin _ _ w.heap.size _ _ _ _ _ (heap_alloc_new w _) _ rfl ⟨rfl, (Below.refl _ w).alloc (Nat.le_refl _) _⟩

theorem LentAt.keep {w w' : World} {L B : Nat} (hb : ∀ b i u, L ≤ b → b < B → w.cell? ⟨b, i, none⟩ = some u → w'.cell? ⟨b, i, none⟩ = some u) : ∀ {d : Nat} {ks : List Tree} {sl : Value}, LentAt w L B d ks sl → LentAt w' L B d ks sl := by
  intro d
  induction d with
  | zero =>
    rintro ks sl ⟨h0, g, hl, hg, h1, h2⟩
    exact ⟨h0, g, hl, hg, h1, fun j hj i u hu => hb _ _ _ hl hg (h2 j hj i u hu)⟩
  | succ d ih =>
    rintro ks sl ⟨g, hl, hg, h1, h2, h3⟩
    refine ⟨g, hl, hg, h1, fun j hj i u hu => hb _ _ _ hl hg (h2 j hj i u hu), fun i T hT => ?_⟩
    obtain ⟨hf, s, hc, hk⟩ := h3 i T hT
    exact ⟨hf, s, fun m u hu => hb _ _ _ hl hg (hc m u hu), ih hk⟩
theorem LentAt.below {w w' : World} {L B : Nat} (hb : Below B w w') {d : Nat} {ks : List Tree} {sl : Value} (h : LentAt w L B d ks sl) : LentAt w' L B d ks sl :=
  h.keep fun b i _ _ hB hc => (hb.cell (p := ⟨b, i, none⟩) hB).trans hc
theorem LentAt.grown {w w' : World} {L B g : Nat} (hg : w.grownBy w' (some g)) (hL : g < L) {d : Nat} {ks : List Tree} {sl : Value} (h : LentAt w L B d ks sl) : LentAt w' L B d ks sl :=
  h.keep fun b i _ hb _ hc => hg.cell hc (by intro e; simp at e; omega)
theorem LentAt.up {w : World} {L L' B B' : Nat} (hL : L' ≤ L) (hB : B ≤ B') : ∀ {d : Nat} {ks : List Tree} {sl : Value}, LentAt w L B d ks sl → LentAt w L' B' d ks sl := by
  intro d
  induction d with
  | zero =>
    rintro ks sl ⟨h0, g, hl, hg, h1, h2⟩
    exact ⟨h0, g, Nat.le_trans hL hl, Nat.lt_of_lt_of_le hg hB, h1, h2⟩
  | succ d ih =>
    rintro ks sl ⟨g, hl, hg, h1, h2, h3⟩
    refine ⟨g, Nat.le_trans hL hl, Nat.lt_of_lt_of_le hg hB, h1, h2, fun i T hT => ?_⟩
    obtain ⟨hf, s, hc, hk⟩ := h3 i T hT
    exact ⟨hf, s, hc, ih hk⟩
theorem LentAt.shape {w : World} {L B d : Nat} {ks : List Tree} {sl : Value} (h : LentAt w L B d ks sl) : ∃ g, L ≤ g ∧ g < B ∧ sl = .slice (some ⟨g, 0, none⟩) ks.length (ks.length + 12) := by
  cases d with
  | zero =>
    obtain ⟨h0, g, hl, hg, h1, _⟩ := h
    subst h0
    exact ⟨g, hl, hg, h1⟩
  | succ d =>
    obtain ⟨g, hl, hg, h1, _⟩ := h
    exact ⟨g, hl, hg, h1⟩
/-- what was lent reads as the tree it was lent of -/
theorem LentAt.kids {w : World} {L B : Nat} : ∀ {d : Nat} {ks : List Tree} {sl : Value}, LentAt w L B d ks sl → SlimK d ks → KidsAt w B d ks sl := by
  intro d
  induction d with
  | zero =>
    rintro ks sl ⟨h0, g, hl, hg, h1, h2⟩ _
    exact ⟨h0, _, _, h1⟩
  | succ d ih =>
    rintro ks sl ⟨g, hl, hg, h1, h2, h3⟩ ⟨hn, hs⟩
    by_cases h0 : ks = []
    · subst h0
      exact Or.inl ⟨rfl, _, _, h1⟩
    · refine Or.inr ⟨g, 0, ks.length + 12, h0, hg, by omega, by unfold maxLen; omega, h1, fun i T hT => ?_⟩
      obtain ⟨hf, s, hc, hk⟩ := h3 i T hT
      refine ⟨hf, s, ?_, ?_, ?_, ?_, ?_, ih hk (hs T (List.mem_of_getElem? hT)).kids⟩ <;> simp only [Nat.zero_add]
      · exact hc 0 _ rfl
      · exact hc 1 _ rfl
      · exact hc 2 _ rfl
      · exact hc 3 _ rfl
      · exact hc 4 _ rfl
def LentPost (d : Nat) (ks : List Tree) (w : World) (e : Ending) (w' : World) : Prop := ∃ s, e = .returned s ∧ Below w.heap.size w w' ∧ LentAt w' w.heap.size w'.heap.size d ks s
def LentNPost (d : Nat) (T : Tree) (w : World) (e : Ending) (w' : World) : Prop := ∃ s, e = .returned (.agg #[.int .u8 T.kind, .string T.text, .int .i64 T.num, .int .i64 T.place, s]) ∧ Below w.heap.size w w' ∧ LentAt w' w.heap.size w'.heap.size d T.kids s
def LentK (d : Nat) : Prop := ∀ (ks : List Tree) (u : Value) (B : Nat) (w : World), KidsAt w B d ks u → B ≤ w.heap.size → SlimK d ks → Calls Tryz.prog 51 #[u] w (LentPost d ks w)
def LentN (d : Nat) : Prop := ∀ (T : Tree) (u : Value) (B : Nat) (w : World), NodeAt w B d T u → B ≤ w.heap.size → SlimK d T.kids → Calls Tryz.prog 31 #[u] w (LentNPost d T w)

theorem lentNode_fin (W : World) (Rp : Ending → World → Prop) (T : Nat) (a b c d e : Value) (hT : W.heap[T]? = some (.cells #[a, b, c, d, e] 25 (0, 0)))
    (tmps : Array Value) (h4 : tmps.getD 2 undef = .pointer (some ⟨T, 0, none⟩)) (hR : Rp (.returned (.agg #[a, b, c, d, e])) W) :
    bodyPost Tryz.prog Tryz.f31 Rp .ret ⟨tmps, []⟩ W := by
  obtain ⟨c0, c1, c2, c3, c4⟩ := cells5 hT
  have h4' : tmps[2]?.getD undef = .pointer (some ⟨T, 0, none⟩) := by simpa using h4
  refine bodyPost_ret (v := .agg #[a, b, c, d, e]) ?_ rfl hR
  simp [results, Tryz.results31, go_sem, h4', c0, c1, c2, c3, c4]
theorem two_new' (w : World) (a b : Obj) : ((w.alloc a).alloc b).heap[w.heap.size]? = some a ∧ ((w.alloc a).alloc b).heap[w.heap.size + 1]? = some b ∧ True :=
  ⟨by rw [at_alloc, World.size_alloc, if_neg (by omega), at_alloc, if_pos rfl], by rw [at_alloc, World.size_alloc, if_pos rfl], trivial⟩
theorem frozen5 {w : World} {T : Nat} {cs : Array Value} {t : TypeId} (h : w.heap[T]? = some (.cells cs t (0, 0))) (i : Nat) : w.frozen? ⟨T, i, none⟩ = false := by
  simp [World.frozen?, h]
end Go.Proofs.YtfpohaipmnjflaaGreatDoor
/- What the statements lend: a node, given its list; by contract. Condition: at most 20000 kids a list. -/
namespace Go.Proofs.YtfpohaipmnjflaaGreatDoor
open Go.RowKit

theorem LentAt.set {w : World} {L B T : Nat} (hT : T < L) (i : Nat) (x : Value) {d : Nat} {ks : List Tree} {sl : Value} (h : LentAt w L B d ks sl) : LentAt (w.setCell ⟨T, i, none⟩ x) L B d ks sl :=
  h.keep fun b j _ hb _ hc => (World.cell?_of_block (Below.heap_setCell w ⟨T, i, none⟩ x b (by show b ≠ T; omega))).trans hc

set_option maxRecDepth 100000 in
set_option maxHeartbeats 1000000 in
theorem lentN_of (d : Nat) (h : LentK d) : LentN d := by
  intro T u B w hu hB hn
  obtain ⟨hf, s, rfl, hs⟩ := hu
  obtain ⟨p, l, c, rfl⟩ := hs.shape
  have hb := below_two w (.cells #[.int .u8 T.kind, .string T.text, .int .i64 T.num, .int .i64 T.place, .slice p l c] 25) (.cells #[.int .u8 0, .string ⟨#[]⟩, .int .i64 0, .int .i64 0, .slice none 0 0] 25)
  obtain ⟨X1, X2, _⟩ := two_new' w (.cells #[.int .u8 T.kind, .string T.text, .int .i64 T.num, .int .i64 T.place, .slice p l c] 25) (.cells #[.int .u8 0, .string ⟨#[]⟩, .int .i64 0, .int .i64 0, .slice none 0 0] 25)
  have HX1 := Lib.hid X1
  have HX2 := Lib.hid X2
  have HC := Lib.hid (h T.kids _ B _ (hs.below (hb.mono hB)) (Nat.le_trans hB hb.size) hn)
  have HB := Lib.hid hb
  obtain ⟨a0, a1, a2, a3, a4⟩ := cells5 X1
  clear X1 X2 hs h hb hf hn
  go_enter Tryz.func31, Tryz.ntmps31
  go_wp2_with fail
  refine HC.out.mono ?_
  rintro e W3 ⟨s', rfl, hb', hl⟩
  obtain ⟨g, hg0, hg, rfl⟩ := hl.shape
  have hs1 : w.heap.size < ((w.alloc (.cells #[.int .u8 T.kind, .string T.text, .int .i64 T.num, .int .i64 T.place, .slice p l c] 25)).alloc (.cells #[.int .u8 0, .string ⟨#[]⟩, .int .i64 0, .int .i64 0, .slice none 0 0] 25)).heap.size := by simp; omega
  have hs2 : w.heap.size + 1 < ((w.alloc (.cells #[.int .u8 T.kind, .string T.text, .int .i64 T.num, .int .i64 T.place, .slice p l c] 25)).alloc (.cells #[.int .u8 0, .string ⟨#[]⟩, .int .i64 0, .int .i64 0, .slice none 0 0] 25)).heap.size := by simp
  have h1 := heap_below hb' HX1.out hs1
  have h2 := heap_below hb' HX2.out hs2
  have HBB := Lib.hid (HB.out.trans (hb'.mono HB.out.size))
  have HL := Lib.hid (hl.up (L' := w.heap.size + 2) (by simp) (Nat.le_refl _))
  have HG := Lib.hid (show w.heap.size + 1 < g by simp at hg0; omega)
  clear a0 a1 a2 a3 a4 hb' hl hg0 hs1 hs2
  obtain ⟨a0, a1, a2, a3, a4⟩ := cells5 h1
  have f1 := frozen5 h1 4
  obtain ⟨b0, b1, b2, b3, b4⟩ := cells5 h2
  have g0 := frozen5 h2 0
  have g1 := frozen5 h2 1
  have g2 := frozen5 h2 2
  have g3 := frozen5 h2 3
  have g4 := frozen5 h2 4
  have H1 := Lib.hid h1
  have H2 := Lib.hid h2
  clear h1 h2
  go_wp2_with fail
  clear a0 a1 a2 a3 f1
  have HS := Lib.hid (show Below w.heap.size w ((((((W3.setCell ⟨w.heap.size, 4, none⟩ (.slice (some ⟨g, 0, none⟩) T.kids.length (T.kids.length + 12))).setCell ⟨w.heap.size + 1, 0, none⟩ (.int .u8 T.kind)).setCell ⟨w.heap.size + 1, 1, none⟩ (.string T.text)).setCell ⟨w.heap.size + 1, 2, none⟩ (.int .i64 T.num)).setCell ⟨w.heap.size + 1, 3, none⟩ (.int .i64 T.place)).setCell ⟨w.heap.size + 1, 4, none⟩ (.slice (some ⟨g, 0, none⟩) T.kids.length (T.kids.length + 12))) from
    (((((HBB.out.setCell (Nat.le_refl _) _).setCell (Nat.le_succ _) _).setCell (Nat.le_succ _) _).setCell (Nat.le_succ _) _).setCell (Nat.le_succ _) _).setCell (Nat.le_succ _) _)
  clear b0 b1 b2 b3 b4 g0 g1 g2 g3 g4
  have hne : w.heap.size ≠ w.heap.size + 1 := by omega
  refine lentNode_fin _ _ (w.heap.size + 1) _ _ _ _ _ (heap_set (heap_set (heap_set (heap_set (heap_set (heap_set_far H2.out hne _ _) 0 _) 1 _) 2 _) 3 _) 4 _) _ rfl ?_
  refine ⟨_, rfl, HS.out, ?_⟩
  have hh : ∀ (W : World) (p : Addr) (u : Value), (W.setCell p u).heap.size = W.heap.size := fun W p u => by simp [World.setCell]
  have hG := HG.out
  refine (((((((HL.out.set (by omega) _ _).set (by omega) _ _).set (by omega) _ _).set (by omega) _ _).set (by omega) _ _).set (by omega) _ _).up (by omega) ?_)
  simp [hh]
end Go.Proofs.YtfpohaipmnjflaaGreatDoor
/- What the statements lend: a list of nodes copied, with marks behind it; by contract. Condition: at most 20000 kids a list. -/
namespace Go.Proofs.YtfpohaipmnjflaaGreatDoor
open Go.RowKit

theorem infoNode : (Tryz.prog.info? 25).map (fun i => (i.zero, i.size, i.bytes)) = some (some (.agg #[.int .u8 0, .string ByteArray.empty, .int .i64 0, .int .i64 0, .slice none 0 0]), 5, 64) := by kernel_rfl

/-- a kid's cells at a place -/
def KidAt (w : World) (d b o : Nat) (B : Nat) (T : Tree) : Prop :=
  Fits T ∧ ∃ s, w.cell? ⟨b, o, none⟩ = some (.int .u8 T.kind) ∧ w.cell? ⟨b, o + 1, none⟩ = some (.string T.text) ∧ w.cell? ⟨b, o + 2, none⟩ = some (.int .i64 T.num) ∧ w.cell? ⟨b, o + 3, none⟩ = some (.int .i64 T.place) ∧ w.cell? ⟨b, o + 4, none⟩ = some s ∧ KidsAt w B d T.kids s
theorem KidsAt.rows {w : World} {B d : Nat} {ks : List Tree} {sl : Value} (h : KidsAt w B d ks sl) :
    ∃ p c, sl = .slice p ks.length c ∧ ks.length ≤ maxLen ∧ ∀ i T, ks[i]? = some T → d = d - 1 + 1 ∧ ∃ b off, p = some ⟨b, off, none⟩ ∧ b < B ∧ KidAt w (d - 1) b (off + i * 5) B T := by
  rcases h.cases with ⟨rfl, sp, cap, rfl⟩ | ⟨d', b, off, cap, rfl, hne, hb, hc, hm, rfl, hrow⟩
  · exact ⟨sp, cap, rfl, Nat.zero_le _, fun i T hT => by simp at hT⟩
  · refine ⟨_, cap, rfl, Nat.le_trans hc hm, fun i T hT => ⟨by omega, b, off, rfl, hb, hrow i T hT⟩⟩
theorem KidAt.node {w W : World} {B d b o : Nat} {t : Tree} (hB : Below B w W) (hbB : b < B) (h : KidAt w d b o B t) :
    ∃ p n c, W.cell? ⟨b, o, none⟩ = some (.int .u8 t.kind) ∧ W.cell? ⟨b, o + 1, none⟩ = some (.string t.text) ∧
          W.cell? ⟨b, o + 2, none⟩ = some (.int .i64 t.num) ∧ W.cell? ⟨b, o + 3, none⟩ = some (.int .i64 t.place) ∧ W.cell? ⟨b, o + 4, none⟩ = some (.slice p n c) ∧
          NodeAt W B d t (.agg #[.int .u8 t.kind, .string t.text, .int .i64 t.num, .int .i64 t.place, .slice p n c]) := by
  obtain ⟨hf, s, c0, c1, c2, c3, c4, hk⟩ := h
  obtain ⟨p, n, c, rfl⟩ := hk.shape
  have e : ∀ j, W.cell? ⟨b, j, none⟩ = w.cell? ⟨b, j, none⟩ := fun j => hB.cell (p := ⟨b, j, none⟩) hbB
  exact ⟨p, n, c, (e _).trans c0, (e _).trans c1, (e _).trans c2, (e _).trans c3, (e _).trans c4, hf, _, rfl, hk.below hB⟩

/-- so many kids have been lent -/
def RowsLent (W : World) (L B d : Nat) (ks : List Tree) (k : Nat) (rows : List (List Value)) : Prop :=
  rows.length = k ∧ (∀ r ∈ rows, r.length = 5) ∧ ∀ i T, i < k → ks[i]? = some T → Fits T ∧ ∃ s, rows[i]? = some (nodeCells T s) ∧ LentAt W L B d T.kids s
def LentRel (w W0 : World) (d : Nat) (ks : List Tree) (n : Nat) (o i : Value) (W : World) : Prop :=
  ∃ (W1 : World) (k : Nat) (rows : List (List Value)), W1 = W ∧ k ≤ n ∧ o = .slice (some ⟨w.heap.size, 0, none⟩) k (n + 12) ∧ i = .int .i64 k ∧
    W1.ownsRow w.heap.size 25 5 (.slice (some ⟨w.heap.size, 0, none⟩) k (n + 12)) k rows.flatten ∧ Below w.heap.size w W1 ∧ W0.heap.size ≤ W1.heap.size ∧ RowsLent W1 (w.heap.size + 1) W1.heap.size (d - 1) ks k rows
theorem RowsLent.next {W W' : World} {L B B' d k : Nat} {ks : List Tree} {rows : List (List Value)} {t : Tree} {s : Value} (h : RowsLent W L B d ks k rows)
    (hkeep : ∀ {ls : List Tree} {sl : Value}, LentAt W L B d ls sl → LentAt W' L B' d ls sl) (ht : ks[k]? = some t) (hf : Fits t) (hs : LentAt W' L B' d t.kids s) : RowsLent W' L B' d ks (k + 1) (rows ++ [nodeCells t s]) := by
  obtain ⟨h1, h2, h3⟩ := h
  refine ⟨by simp [h1], fun r hr => ?_, fun i T hi hT => ?_⟩
  · rcases List.mem_append.1 hr with hr | hr
    · exact h2 r hr
    · simp at hr; subst hr; rfl
  · by_cases hik : i < k
    · obtain ⟨a1, s', a2, a3⟩ := h3 i T hik hT
      refine ⟨a1, s', ?_, hkeep a3⟩
      rw [List.getElem?_append_left (by omega)]
      exact a2
    · obtain rfl : i = k := by omega
      rw [ht] at hT
      injection hT with hT
      subst hT
      refine ⟨hf, s, ?_, hs⟩
      rw [List.getElem?_append_right (by omega), h1]
      simp

theorem below_grown {B g : Nat} {w W W' : World} (hb : Below B w W) (hBW : B ≤ W.heap.size) (hg : W.grownBy W' (some g)) (hBg : B ≤ g) : Below B w W' :=
  ⟨hg.os.trans hb.os, hg.tape.trans hb.tape, hg.output.trans hb.output, Nat.le_trans hb.size hg.size, fun i hi => (hg.block i (Nat.lt_of_lt_of_le hi hBW) (by intro e; simp at e; omega)).trans (hb.block i hi)⟩
def markRows (m : Nat) : List (List Value) := (List.range m).map fun j => nodeCells (markT' j) (.slice none 0 0)
theorem markRows_five (m : Nat) : ∀ r ∈ markRows m, r.length = 5 := by
  intro r hr
  unfold markRows at hr
  obtain ⟨j, _, rfl⟩ := List.mem_map.1 hr
  rfl
theorem markRows_at (m j : Nat) (h : j < m) : (markRows m)[j]? = some (nodeCells (markT' j) (.slice none 0 0)) := by
  unfold markRows
  rw [List.getElem?_map, List.getElem?_range h]
  rfl
theorem markRows_succ (m : Nat) : markRows (m + 1) = markRows m ++ [nodeCells (markT' m) (.slice none 0 0)] := by
  unfold markRows
  rw [List.range_succ, List.map_append]
  rfl
def MarkRel (w : World) (d : Nat) (ks : List Tree) (n : Nat) (rows : List (List Value)) (o i : Value) (W : World) : Prop :=
  ∃ (W1 : World) (m : Nat), W1 = W ∧ m ≤ 12 ∧ o = .slice (some ⟨w.heap.size, 0, none⟩) (n + m) (n + 12) ∧ i = .int .i64 m ∧
    W1.ownsRow w.heap.size 25 5 (.slice (some ⟨w.heap.size, 0, none⟩) (n + m) (n + 12)) (n + m) (rows ++ markRows m).flatten ∧ Below w.heap.size w W1 ∧ w.heap.size < W1.heap.size ∧ RowsLent W1 (w.heap.size + 1) W1.heap.size (d - 1) ks n rows
theorem RowsLent.keep {W W' : World} {L B B' d k : Nat} {ks : List Tree} {rows : List (List Value)} (h : RowsLent W L B d ks k rows)
    (hkeep : ∀ {ls : List Tree} {sl : Value}, LentAt W L B d ls sl → LentAt W' L B' d ls sl) : RowsLent W' L B' d ks k rows := by
  obtain ⟨h1, h2, h3⟩ := h
  refine ⟨h1, h2, fun i T hi hT => ?_⟩
  obtain ⟨a1, s, a2, a3⟩ := h3 i T hi hT
  exact ⟨a1, s, a2, hkeep a3⟩
theorem lent_fin {W : World} {g n d : Nat} {ks : List Tree} {rows : List (List Value)} (hn : ks.length = n) (hown : W.ownsRow g 25 5 (.slice (some ⟨g, 0, none⟩) (n + 12) (n + 12)) (n + 12) (rows ++ markRows 12).flatten) (hg : g < W.heap.size)
    (hr : RowsLent W (g + 1) W.heap.size (d - 1) ks n rows) (hd : d = 0 → ks = []) : LentAt W g W.heap.size d ks (.slice (some ⟨g, 0, none⟩) n (n + 12)) := by
  obtain ⟨h1, h2, h3⟩ := hr
  have h5 : ∀ r ∈ rows ++ markRows 12, r.length = 5 := fun r hr => by
    rcases List.mem_append.1 hr with hr | hr
    · exact h2 r hr
    · exact markRows_five 12 r hr
  have hat : ∀ i m r u, (rows ++ markRows 12)[i]? = some r → r[m]? = some u → W.cell? ⟨g, i * 5 + m, none⟩ = some u := fun i m r u hi hm => by
    have hx := flat5 _ h5 i m r u hi hm
    have hlt : i * 5 + m < (n + 12) * 5 := by
      have := (List.getElem?_eq_some_iff.1 hx).1
      rw [hown.1] at this
      exact this
    rw [hown.cellAt _ hlt]
    exact hx
  have hmk : ∀ j, j < 12 → ∀ i u, (nodeCells (markT' j) (.slice none 0 0))[i]? = some u → W.cell? ⟨g, (n + j) * 5 + i, none⟩ = some u := fun j hj i u hu => by
    refine hat (n + j) i _ u ?_ hu
    rw [List.getElem?_append_right (by omega), h1, Nat.add_sub_cancel_left]
    exact markRows_at 12 j hj
  cases d with
  | zero =>
    have := hd rfl
    subst this
    obtain rfl : n = 0 := by simpa using hn.symm
    refine ⟨rfl, g, Nat.le_refl _, hg, rfl, fun j hj i u hu => ?_⟩
    have := hmk j hj i u hu
    rwa [Nat.zero_add] at this
  | succ d =>
    subst hn
    refine ⟨g, Nat.le_refl _, hg, rfl, hmk, fun i T hT => ?_⟩
    have hi : i < ks.length := (List.getElem?_eq_some_iff.1 hT).1
    obtain ⟨a1, s, a2, a3⟩ := h3 i T hi hT
    refine ⟨a1, s, fun m u hu => hat i m _ u ?_ hu, a3.up (Nat.le_succ _) (Nat.le_refl _)⟩
    rw [List.getElem?_append_left (by omega)]
    exact a2
theorem news_new1 (w : World) (l : List Value) (t : TypeId) : ∀ (j : Nat) (u : Value), l[j]? = some u → (w.alloc (.cells l.toArray t)).cell? ((⟨w.heap.size, 0, none⟩ : Addr).add j) = some u := news_new w l t

set_option maxRecDepth 100000 in
set_option maxHeartbeats 2000000 in
theorem lentK_of (d : Nat) (hN : ∀ d', d = d' + 1 → LentN d') : LentK d := by
  intro ks u B w hk hB hs
  have hn9 : ks.length ≤ 20000 := by
    cases d with
    | zero => rw [hk.1]; exact Nat.zero_le _
    | succ d => exact hs.1
  have hslim : ∀ T ∈ ks, SlimK (d - 1) T.kids := by
    cases d with
    | zero => intro T hT; rw [hk.1] at hT; cases hT
    | succ d => intro T hT; exact (hs.2 T hT).kids
  obtain ⟨p, c, rfl, _, hrow⟩ := hk.rows
  obtain ⟨n, hn⟩ : ∃ n, ks.length = n := ⟨_, rfl⟩
  rw [hn] at hn9 ⊢
  have HN := Lib.hid hn
  have HRow := Lib.hid hrow
  have HSl := Lib.hid hslim
  have HLN := Lib.hid hN
  obtain ⟨i0, hi0, hz0, hz1, hz2⟩ := info_parts infoNode
  obtain ⟨C, hC⟩ : ∃ C, madeCells (Value.cells (.agg #[.int .u8 0, .string ByteArray.empty, .int .i64 0, .int .i64 0, .slice none 0 0])) ((n + 12) * 5) = C := ⟨_, rfl⟩
  have hCs : C.size = (n + 12) * 5 := by rw [← hC]; exact size_madeCells _ _
  have hmk : ∀ W : World, (Instr.makeSlice 23 (.int .i64 0) (.int .i64 ((n : Int) + 12))).run Tryz.prog W = .ok (.slice (some ⟨W.heap.size, 0, none⟩) 0 (n + 12)) (W.alloc (.cells C 25)) := by
    intro W
    have h := run_make (P := Tryz.prog) W 23 25 i0 _ Tryz.underlying23 hi0 hz0 .i64 .i64 0 ((n : Int) + 12) (by omega) (by omega) (by rw [hz2]; omega) (by omega)
    rw [h, hz1, show ((n : Int) + 12).toNat = n + 12 by omega, hC]
    rfl
  have HC := Lib.hid hCs
  have HOwn := Lib.hid (World.ownsRow_made (base := w.heap.size) (e := 25) (size := 5) w C (n + 12) (Nat.le_refl _) (by unfold maxLen; omega) hCs)
  obtain ⟨W0, hW0⟩ : ∃ W0, W0 = w.alloc (.cells C 25) := ⟨_, rfl⟩
  have hb0 : Below w.heap.size w W0 := by rw [hW0]; exact (Below.refl _ w).alloc (Nat.le_refl _) _
  have hs0 : w.heap.size < W0.heap.size := by rw [hW0]; simp
  rw [← hW0] at HOwn
  have HB0 := Lib.hid hb0
  clear hk hs hslim hrow hN hn hCs hC hb0
  go_enter Tryz.func51, Tryz.ntmps51
  go_wp2_with fail
  rw [← hW0]
  go_loopw [3, 4] (LentRel w W0 d ks n) (fun _ i _ => n - (intOf i).toNat)
  case atStart => exact ⟨_, 0, [], rfl, Nat.zero_le _, rfl, rfl, HOwn.out, HB0.out, Nat.le_refl _, rfl, (fun _ h => absurd h (List.not_mem_nil)), fun i T hi _ => absurd hi (Nat.not_lt_zero _)⟩
  case round =>
    obtain ⟨W1, k, rows, rfl, hk, rfl, rfl, hown, hb, hsz, hrl⟩ := hrel
    have hk0 : (0 : Int) ≤ k := by omega
    have HOwn1 := Lib.hid hown
    have HB1 := Lib.hid hb
    have HRL := Lib.hid hrl
    clear hown hrl
    by_cases hlt : k < n
    · obtain ⟨t, ht⟩ : ∃ t, ks[k]? = some t := ⟨ks[k]'(by rw [HN.out]; exact hlt), List.getElem?_eq_getElem (by rw [HN.out]; exact hlt)⟩
      have hmem : t ∈ ks := List.mem_of_getElem? ht
      obtain ⟨hd, b, off, rfl, hbB, hkid⟩ := HRow.out k t ht
      obtain ⟨p', l', c', d0, d1, d2, d3, d4, hnode⟩ := hkid.node (hb.mono hB) hbB
      have HF := Lib.hid hnode.1
      have HT := Lib.hid ht
      have hk1 : (k : Int) < n := by omega
      have HCall := Lib.hid (HLN.out _ hd t _ B W1 hnode (Nat.le_trans hB hb.size) (HSl.out t hmem))
      clear hnode hkid ht hmem hd hb
      go_wp2_with fail
      refine HCall.out.mono ?_
      rintro e W2 ⟨s, rfl, hb2, hl⟩
      obtain ⟨g, hg0, hg, rfl⟩ := hl.shape
      have HB2 := Lib.hid hb2
      have HL := Lib.hid hl
      have hown2 := ownsRow_below HOwn1.out hb2
      have hsz2 := hb2.size
      clear hb2 hl
      go_wp2_with (at_builtin; go_must (refine wpList_append_own_spare _ rfl (.tmp 22) (.tmp 24) 23 rfl w.heap.size 25 i0 5 Tryz.underlying23 hi0 hz1 w.heap.size k (n + 12) rows.flatten rfl ((hown2.alloc _).alloc _) ⟨W2.heap.size + 1, 0, none⟩ 1 1 (nodeCells t (.slice (some ⟨g, 0, none⟩) t.kids.length (t.kids.length + 12))) rfl rfl (by exact news_new2 W2 _ (nodeCells t (.slice (some ⟨g, 0, none⟩) t.kids.length (t.kids.length + 12))) 25) (by simp [Value.oneCell', nodeCells]) (by omega) ?_); intro w7 hown' hgrow)
      have hs1 := HRL.out
      have hsg := hgrow.size
      simp only [World.size_alloc] at hsg
      have hal : Below W2.heap.size W2 ((W2.alloc (.cells #[.int .u8 t.kind, .string t.text, .int .i64 t.num, .int .i64 t.place, .slice (some ⟨g, 0, none⟩) t.kids.length (t.kids.length + 12)] 25)).alloc (.cells #[.int .u8 t.kind, .string t.text, .int .i64 t.num, .int .i64 t.place, .slice (some ⟨g, 0, none⟩) t.kids.length (t.kids.length + 12)] 25)) := below_two W2 _ _
      have hb3 : Below w.heap.size w w7 := below_grown ((HB1.out.trans (HB2.out.mono HB1.out.size)).trans (hal.mono (Nat.le_trans HB1.out.size hsz2))) (Nat.le_trans HB1.out.size (Nat.le_trans hsz2 hal.size)) hgrow (Nat.le_refl _)
      refine ⟨⟨w7, k + 1, rows ++ [nodeCells t (.slice (some ⟨g, 0, none⟩) t.kids.length (t.kids.length + 12))], rfl, by omega, rfl, by go_num, ?_, hb3, by omega, ?_⟩, by simp [intOf]; omega⟩
      · rw [List.flatten_append]
        simpa using hown'
      · refine hs1.next (fun {ls sl} h => ?_) HT.out HF.out ?_
        · exact ((((h.below HB2.out).below (hal.mono hsz2)).grown hgrow (Nat.lt_succ_self _)).up (Nat.le_refl _) (by omega))
        · exact ((HL.out.below hal).grown hgrow (by omega)).up (by omega) (by omega)
    · obtain rfl : k = n := by omega
      have HM := Lib.hid (fun j W (hj : j ≤ 100) => markNode_any j W hj)
      clear hk hlt hk0 hb hmk
      go_wp2_with fail
      go_loopw [3, 6] (MarkRel w d ks k rows) (fun _ i _ => 12 - (intOf i).toNat)
      case atStart => exact ⟨_, 0, rfl, by omega, rfl, rfl, by simpa [markRows] using HOwn1.out, HB1.out, by omega, HRL.out⟩
      case round =>
        obtain ⟨W3, m, rfl, hm, rfl, rfl, hown, hb, hsz', hrl⟩ := hrel
        have HOwn3 := Lib.hid hown
        have HB3 := Lib.hid hb
        have HRL3 := Lib.hid hrl
        have hm0 : (0 : Int) ≤ m := by omega
        clear hown hrl hb
        by_cases hlt : m < 12
        · have hm1 : (m : Int) < 12 := by omega
          go_wp2_with fail
          refine Calls.mono (HM.out m _ (by omega)) ?_
          rintro e W4 ⟨rfl, hb4⟩
          have hown4 := ownsRow_below HOwn3.out hb4
          have hsz4 := hb4.size
          have HB4 := Lib.hid hb4
          clear hb4
          go_wp2_with (at_builtin; go_must (refine wpList_append_own_spare _ rfl (.tmp 30) (.tmp 33) 23 rfl w.heap.size 25 i0 5 Tryz.underlying23 hi0 hz1 w.heap.size (k + m) (k + 12) (rows ++ markRows m).flatten rfl (hown4.alloc _) ⟨W4.heap.size, 0, none⟩ 1 1 (nodeCells (markT' m) (.slice none 0 0)) rfl rfl (by exact news_new1 W4 (nodeCells (markT' m) (.slice none 0 0)) 25) (by simp [Value.oneCell', nodeCells]) (by omega) ?_); intro w7 hown' hgrow)
          have hsg := hgrow.size
          simp only [World.size_alloc] at hsg
          have hal : Below W4.heap.size W4 (W4.alloc (.cells #[.int .u8 0, .string ⟨#[]⟩, .int .i64 0, .int .i64 (8000024 + (m : Int)), .slice none 0 0] 25)) := (Below.refl _ W4).alloc (Nat.le_refl _) _
          have hb3 : Below w.heap.size w w7 := below_grown ((HB3.out.trans (HB4.out.mono HB3.out.size)).trans (hal.mono (Nat.le_trans HB3.out.size hsz4))) (Nat.le_trans HB3.out.size (Nat.le_trans hsz4 hal.size)) hgrow (Nat.le_refl _)
          refine ⟨⟨w7, m + 1, rfl, by omega, rfl, by go_num, ?_, hb3, by omega, ?_⟩, by simp [intOf]; omega⟩
          · rw [markRows_succ, ← List.append_assoc, List.flatten_append]
            have e : k + (m + 1) = k + m + 1 := by omega
            rw [e]
            simpa using hown'
          · exact HRL3.out.keep fun h => (((h.below HB4.out).below (hal.mono hsz4)).grown hgrow (Nat.lt_succ_self _)).up (Nat.le_refl _) (by omega)
        · obtain rfl : m = 12 := by omega
          clear hlt
          go_wp2_with fail
          go_ret
          refine ⟨_, rfl, HB3.out, lent_fin HN.out HOwn3.out hsz' HRL3.out (fun h0 => ?_)⟩
          have hr := HRow.out
          cases hks : ks with
          | nil => rfl
          | cons x l =>
            have := (hr 0 x (by rw [hks]; rfl)).1
            omega
theorem lentK_any : ∀ d, LentK d := by
  intro d
  induction d with
  | zero => exact lentK_of 0 (fun d' h => by omega)
  | succ d ih =>
    refine lentK_of (d + 1) (fun d' h => ?_)
    have e : d' = d := by omega
    subst e
    exact lentN_of _ ih
theorem lentN_any (d : Nat) : LentN d := lentN_of d (lentK_any d)
end Go.Proofs.YtfpohaipmnjflaaGreatDoor
/- A region that draws its order, whose operations read memory that was there and whose callees only make memory: one walk of the text's order. No condition. -/
namespace Go.Proofs.YtfpohaipmnjflaaGreatDoor
open Go.RowKit

/-- a world in which memory only grew -/
def Wb (w : World) := {W : World // Below w.heap.size w W}
instance (w : World) : Nonempty (Wb w) := ⟨⟨w, Below.refl _ w⟩⟩
theorem Wb.below {w : World} (x : Wb w) : Below w.heap.size w x.1 := x.2
theorem wp_region_below {P : Program} {id : Nat} {Q : Exit → Act → World → Prop} {a : Act} {w : World} {l : List Oper} (hm : P.follows .mixedOrders = true) (hB : Region.lexB .any l.toArray = true)
    (h : wpQuiet P l.toArray (fun w' => ∃ x : Wb w, w' = x.1) (fun a' => ∀ w', (∃ x : Wb w, w' = x.1) → Q .normal a' w') l a) : (Code.region id l.toArray true).wp P Q a w :=
  wp_region_quiet (C := fun w' => ∃ x : Wb w, w' = x.1) hm hB ⟨⟨w.drew, (Below.refl _ w).drew⟩, rfl⟩ (by simpa using h)
theorem Calls.below_of {P : Program} {f : FuncId} {args : Array Value} {w : World} {x : Wb w} {v : Value}
    (h : Calls P f args x.1 fun e w' => e = .returned v ∧ Below x.1.heap.size x.1 w') : Calls P f args x.1 fun e w'' => e = .returned v ∧ ∃ y : Wb w, w'' = y.1 :=
  h.mono fun _ W ⟨he, hb⟩ => ⟨he, ⟨W, x.2.trans (hb.mono x.2.size)⟩, rfl⟩
theorem wb_below {w w' : World} (h : ∃ x : Wb w, w' = x.1) : Below w.heap.size w w' := by
  obtain ⟨x, rfl⟩ := h
  exact x.2
/-- a cell that was there -/
theorem Wb.cell {w : World} (x : Wb w) {a : Addr} {v : Value} (h : w.cell? a = some v) : x.1.cell? a = some v :=
  (x.2.cell (World.block_lt_of_cell? w a h)).trans h
end Go.Proofs.YtfpohaipmnjflaaGreatDoor
/- What was lent is told to be kept; by contract. Condition: at most 20000 kids a list. -/
namespace Go.Proofs.YtfpohaipmnjflaaGreatDoor
open Go.RowKit

def KeptK (d : Nat) : Prop := ∀ (ks : List Tree) (u v : Value) (L B C : Nat) (w : World), LentAt w L B d ks u → KidsAt w C d ks v → B ≤ w.heap.size → C ≤ w.heap.size → SlimK d ks → Calls Tryz.prog 52 #[u, v] w (TruePost w)
def KeptN (d : Nat) : Prop := ∀ (T : Tree) (s v : Value) (L B C : Nat) (w : World), Fits T → LentAt w L B d T.kids s → NodeAt w C d T v → B ≤ w.heap.size → C ≤ w.heap.size → SlimK d T.kids →
  Calls Tryz.prog 32 #[.agg #[.int .u8 T.kind, .string T.text, .int .i64 T.num, .int .i64 T.place, s], v] w (TruePost w)

set_option maxRecDepth 100000 in
set_option maxHeartbeats 1000000 in
theorem keptN_of (d : Nat) (h : KeptK d) : KeptN d := by
  intro T s v L B C w hf hs hv hB hC hsl
  obtain ⟨_, r, rfl, hr⟩ := hv
  obtain ⟨p, l, c, rfl⟩ := hr.shape
  obtain ⟨g, hg0, hg, rfl⟩ := hs.shape
  have hb := below_two w (.cells #[.int .u8 T.kind, .string T.text, .int .i64 T.num, .int .i64 T.place, .slice (some ⟨g, 0, none⟩) T.kids.length (T.kids.length + 12)] 25) (.cells #[.int .u8 T.kind, .string T.text, .int .i64 T.num, .int .i64 T.place, .slice p l c] 25)
  obtain ⟨X1, X2, _⟩ := two_new' w (.cells #[.int .u8 T.kind, .string T.text, .int .i64 T.num, .int .i64 T.place, .slice (some ⟨g, 0, none⟩) T.kids.length (T.kids.length + 12)] 25) (.cells #[.int .u8 T.kind, .string T.text, .int .i64 T.num, .int .i64 T.place, .slice p l c] 25)
  have hS : ∀ W, Below w.heap.size w W → Calls Tryz.prog 42 #[.agg #[.int .u8 T.kind, .string T.text, .int .i64 T.num, .int .i64 T.place, .slice (some ⟨g, 0, none⟩) T.kids.length (T.kids.length + 12)], .agg #[.int .u8 T.kind, .string T.text, .int .i64 T.num, .int .i64 T.place, .slice p l c]] W (TruePost W) := fun W hW =>
    sameNode_of d (sameNodes_holds d) T _ _ B C W ⟨hf, _, rfl, ((hs.kids hsl).below (hW.mono hB))⟩ ⟨hf, _, rfl, hr.below (hW.mono hC)⟩ (Nat.le_trans hB hW.size) (Nat.le_trans hC hW.size)
  have HS := Lib.hid hS
  have HK := Lib.hid (fun W (hW : Below w.heap.size w W) => h T.kids _ _ L B C W (hs.below (hW.mono hB)) (hr.below (hW.mono hC)) (Nat.le_trans hB hW.size) (Nat.le_trans hC hW.size) hsl)
  have HB := Lib.hid hb
  have HX1 := Lib.hid X1
  have HX2 := Lib.hid X2
  clear X1 X2 hS h hs hr hb hf
  obtain ⟨W0, hW0⟩ : ∃ W0, W0 = ((w.alloc (.cells #[.int .u8 T.kind, .string T.text, .int .i64 T.num, .int .i64 T.place, .slice (some ⟨g, 0, none⟩) T.kids.length (T.kids.length + 12)] 25)).alloc (.cells #[.int .u8 T.kind, .string T.text, .int .i64 T.num, .int .i64 T.place, .slice p l c] 25)) := ⟨_, rfl⟩
  have hsz : w.heap.size + 1 < W0.heap.size := by rw [hW0]; simp
  rw [← hW0] at HB HX1 HX2
  obtain ⟨a0, a1, a2, a3, a4⟩ := cells5 HX1.out
  obtain ⟨b0, b1, b2, b3, b4⟩ := cells5 HX2.out
  go_enter Tryz.func32, Tryz.ntmps32
  go_wp2_with fail
  rw [← hW0]
  refine Calls.mono (HS.out W0 HB.out) ?_
  rintro e W2 ⟨rfl, hb2⟩
  clear a0 a1 a2 a3 a4 b0 b1 b2 b3 b4
  obtain ⟨a0, a1, a2, a3, a4⟩ := cells5 (heap_below hb2 HX1.out (by omega))
  obtain ⟨b0, b1, b2, b3, b4⟩ := cells5 (heap_below hb2 HX2.out (by omega))
  have HBB := Lib.hid (HB.out.trans (hb2.mono HB.out.size))
  clear hb2
  go_wp2_with fail
  refine Calls.mono (HK.out W2 HBB.out) ?_
  rintro e W3 ⟨rfl, hb3⟩
  have HBC := Lib.hid (HBB.out.trans (hb3.mono HBB.out.size))
  clear hb3
  go_wp2_with fail
  go_ret
  exact ⟨rfl, HBC.out⟩

theorem LentAt.row {w : World} {L B d : Nat} {ks : List Tree} {sl : Value} (h : LentAt w L B d ks sl) :
    ∃ g, L ≤ g ∧ g < B ∧ sl = .slice (some ⟨g, 0, none⟩) ks.length (ks.length + 12) ∧
      (∀ j, j < 12 → ∀ i u, (nodeCells (markT' j) (.slice none 0 0))[i]? = some u → w.cell? ⟨g, (ks.length + j) * 5 + i, none⟩ = some u) ∧
      ∀ i T, ks[i]? = some T → d = d - 1 + 1 ∧ Fits T ∧ ∃ s, (∀ m u, (nodeCells T s)[m]? = some u → w.cell? ⟨g, i * 5 + m, none⟩ = some u) ∧ LentAt w L B (d - 1) T.kids s := by
  cases d with
  | zero =>
    obtain ⟨rfl, g, hl, hg, h1, h2⟩ := h
    refine ⟨g, hl, hg, h1, fun j hj i u hu => ?_, fun i T hT => by simp at hT⟩
    have := h2 j hj i u hu
    simpa using this
  | succ d =>
    obtain ⟨g, hl, hg, h1, h2, h3⟩ := h
    exact ⟨g, hl, hg, h1, h2, fun i T hT => ⟨rfl, h3 i T hT⟩⟩
theorem cellsOf {w : World} {b o : Nat} {T : Tree} {s : Value} (h : ∀ m u, (nodeCells T s)[m]? = some u → w.cell? ⟨b, o + m, none⟩ = some u) :
    w.cell? ⟨b, o, none⟩ = some (.int .u8 T.kind) ∧ w.cell? ⟨b, o + 1, none⟩ = some (.string T.text) ∧ w.cell? ⟨b, o + 2, none⟩ = some (.int .i64 T.num) ∧ w.cell? ⟨b, o + 3, none⟩ = some (.int .i64 T.place) ∧ w.cell? ⟨b, o + 4, none⟩ = some s :=
  ⟨h 0 _ rfl, h 1 _ rfl, h 2 _ rfl, h 3 _ rfl, h 4 _ rfl⟩

set_option maxRecDepth 100000 in
set_option maxHeartbeats 2000000 in
theorem keptK_of (d : Nat) (hN : ∀ d', d = d' + 1 → KeptN d') : KeptK d := by
  intro ks u v L B C w hu hv hB hC hsl
  have hn9 : ks.length ≤ 20000 := by
    cases d with
    | zero => rw [hu.1]; exact Nat.zero_le _
    | succ d => exact hsl.1
  have hslim : ∀ T ∈ ks, SlimK (d - 1) T.kids := by
    cases d with
    | zero => intro T hT; rw [hu.1] at hT; cases hT
    | succ d => intro T hT; exact (hsl.2 T hT).kids
  obtain ⟨p, c, rfl, _, hrow⟩ := hv.rows
  obtain ⟨g, hgL, hgB, rfl, hmark, hlrow⟩ := hu.row
  obtain ⟨n, hn⟩ : ∃ n, ks.length = n := ⟨_, rfl⟩
  rw [hn] at hn9 hmark ⊢
  have HN := Lib.hid hn
  have HRow := Lib.hid hrow
  have HLRow := Lib.hid hlrow
  have HMark := Lib.hid hmark
  have HSl := Lib.hid hslim
  have HKN := Lib.hid hN
  have HSN := Lib.hid (sameNode_of 0 (sameNodes_holds 0))
  have HM := Lib.hid (fun j W (hj : j ≤ 100) => markNode_any j W hj)
  clear hu hv hsl hslim hrow hN hn hmark hlrow
  go_enter Tryz.func52, Tryz.ntmps52
  go_wp2_with fail
  go_loopw [6] (UpRel w (n + 12)) (fun i _ => n + 12 - (intOf i).toNat)
  case atStart => exact ⟨_, 0, rfl, Nat.zero_le _, rfl, Below.refl _ _⟩
  case round =>
    obtain ⟨W1, k, rfl, hk, rfl, hb⟩ := hrel
    have hk0 : (0 : Int) ≤ k := by omega
    by_cases hlt : k < n
    · have hk1 : (k : Int) < n := by omega
      have hk2 : (k : Int) < (n : Int) + 12 := by omega
      have hge : decide ((n : Int) ≤ (k : Int)) = false := by simp; omega
      have hge2 : decide (n ≤ k) = false := by simp; omega
      obtain ⟨t, ht⟩ : ∃ t, ks[k]? = some t := ⟨ks[k]'(by rw [HN.out]; exact hlt), List.getElem?_eq_getElem (by rw [HN.out]; exact hlt)⟩
      have hmem : t ∈ ks := List.mem_of_getElem? ht
      obtain ⟨hd, b, off, rfl, hbC, hkid⟩ := HRow.out k t ht
      obtain ⟨_, hf, s, hc, hl⟩ := HLRow.out k t ht
      obtain ⟨g', hgl', hgb', rfl⟩ := hl.shape
      have hbB := hb.mono hB
      have hbC' := hb.mono hC
      obtain ⟨c0, c1, c2, c3, c4⟩ := cellsOf (b := g) (o := k * 5) (fun m u hu => (hbB.cell (p := ⟨g, k * 5 + m, none⟩) hgB).trans (hc m u hu))
      obtain ⟨p', l', c', d0, d1, d2, d3, d4, hnode⟩ := hkid.node hbC' hbC
      have HCall := Lib.hid (fun x : Wb W1 => HKN.out _ hd t _ _ L B C x.1 hf ((hl.below hbB).below (x.2.mono (Nat.le_trans hB hb.size))) (hnode.below (x.2.mono (Nat.le_trans hC hb.size))) (Nat.le_trans (Nat.le_trans hB hb.size) x.2.size) (Nat.le_trans (Nat.le_trans hC hb.size) x.2.size) (HSl.out t hmem))
      have C0 := fun x : Wb W1 => x.cell c0
      have C1 := fun x : Wb W1 => x.cell c1
      have C2 := fun x : Wb W1 => x.cell c2
      have C3 := fun x : Wb W1 => x.cell c3
      have C4 := fun x : Wb W1 => x.cell c4
      have D0 := fun x : Wb W1 => x.cell d0
      have D1 := fun x : Wb W1 => x.cell d1
      have D2 := fun x : Wb W1 => x.cell d2
      have D3 := fun x : Wb W1 => x.cell d3
      have D4 := fun x : Wb W1 => x.cell d4
      have HBb := Lib.hid hb
      clear c0 c1 c2 c3 c4 d0 d1 d2 d3 d4 hnode hl hkid hc ht hmem hf hb hbB hbC' hd
      go_wp2_with fail
      refine wp_region_below (by kernel_rfl) (by kernel_rfl) ?_
      repeat (go_big_quiet_step ((go_at_call 32; exact Calls.below_of (HCall.out _))))
      refine wpQuiet_nil ?_
      intro _ hw'
      obtain ⟨⟨W2, hb2⟩, rfl⟩ := hw'
      have HBB := Lib.hid (HBb.out.trans (hb2.mono HBb.out.size))
      clear hb2 C0 C1 C2 C3 C4 D0 D1 D2 D3 D4
      go_wp2_with fail
      exact ⟨⟨_, k + 1, rfl, by omega, by go_num, HBB.out⟩, by simp [intOf]; omega⟩
    · by_cases hlt2 : k < n + 12
      · have hk1 : decide ((k : Int) < (n : Int)) = false := by simp; omega
        have hk3 : decide (k < n) = false := by simp; omega
        have hk2 : (k : Int) < (n : Int) + 12 := by omega
        have hge : (n : Int) ≤ k := by omega
        have hge2 : decide ((n : Int) ≤ (k : Int)) = true := by simp; omega
        have hge3 : decide (n ≤ k) = true := by simp; omega
        have hbB := hb.mono hB
        obtain ⟨c0, c1, c2, c3, c4⟩ := cellsOf (b := g) (o := k * 5) (T := markT' (k - n)) (s := .slice none 0 0) (fun m u hu => (hbB.cell (p := ⟨g, k * 5 + m, none⟩) hgB).trans (by
          have := HMark.out (k - n) (by omega) m u hu
          rwa [show n + (k - n) = k by omega] at this))
        have C0 := fun x : Wb W1 => x.cell c0
        have C1 := fun x : Wb W1 => x.cell c1
        have C2 := fun x : Wb W1 => x.cell c2
        have C3 := fun x : Wb W1 => x.cell c3
        have C4 := fun x : Wb W1 => x.cell c4
        have HMk : Hid (∀ W, Calls Tryz.prog 88 #[.int .i64 1, .int .i64 ((k : Int) - n)] W fun e w' => e = .returned (.agg #[.int .u8 (markT' (k - n)).kind, .string (markT' (k - n)).text, .int .i64 (markT' (k - n)).num, .int .i64 (markT' (k - n)).place, .slice none 0 0]) ∧ Below W.heap.size W w') := by
          show ∀ W, _
          intro W
          have e : ((k : Int) - n) = ((k - n : Nat) : Int) := by omega
          rw [e]
          exact HM.out (k - n) W (by omega)
        have HNd := Lib.hid (fun W : World => (⟨⟨by show 0 < 256; omega, by show (0 : Nat) ≤ maxLen; exact Nat.zero_le _, by show -9223372036854775808 ≤ (0 : Int); omega, by show (0 : Int) < _; omega, by show -9223372036854775808 ≤ (8000024 + ((k - n : Nat) : Int)); omega, by show (8000024 + ((k - n : Nat) : Int)) < _; omega⟩, .slice none 0 0, rfl, rfl, none, 0, rfl⟩ :
          NodeAt W 0 0 (markT' (k - n)) (.agg #[.int .u8 (markT' (k - n)).kind, .string (markT' (k - n)).text, .int .i64 (markT' (k - n)).num, .int .i64 (markT' (k - n)).place, .slice none 0 0])))
        have HCall := Lib.hid (fun W => HSN.out (markT' (k - n)) _ _ 0 0 W (HNd.out W) (HNd.out W) (Nat.zero_le _) (Nat.zero_le _))
        have HBb := Lib.hid hb
        clear c0 c1 c2 c3 c4 hbB hb HM HMark
        generalize (markT' (k - n)).kind = mk at *
        generalize (markT' (k - n)).text = mt at *
        generalize (markT' (k - n)).num = mn at *
        generalize (markT' (k - n)).place = mp at *
        go_wp2_with fail
        refine wp_region_below (by kernel_rfl) (by kernel_rfl) ?_
        repeat (go_big_quiet_step ((first | (go_at_call 88; exact Calls.below_of (HMk.out _)) | (go_at_call 42; exact Calls.below_of (HCall.out _)))))
        refine wpQuiet_nil ?_
        intro _ hw'
        obtain ⟨⟨W2, hb2⟩, rfl⟩ := hw'
        have HBB := Lib.hid (HBb.out.trans (hb2.mono HBb.out.size))
        clear hb2 C0 C1 C2 C3 C4
        go_wp2_with fail
        exact ⟨⟨_, k + 1, rfl, by omega, by go_num, HBB.out⟩, by simp [intOf]; omega⟩
      · obtain rfl : k = n + 12 := by omega
        have HBb := Lib.hid hb
        clear hb
        have hge : decide ((n : Int) + 12 < (n : Int) + 12) = false := by simp
        go_wp2_with fail
        go_ret
        exact ⟨rfl, HBb.out⟩
theorem keptK_any : ∀ d, KeptK d := by
  intro d
  induction d with
  | zero => exact keptK_of 0 (fun d' h => by omega)
  | succ d ih =>
    refine keptK_of (d + 1) (fun d' h => ?_)
    have e : d' = d := by omega
    subst e
    exact keptN_of _ ih
theorem keptN_any (d : Nat) : KeptN d := keptN_of d (keptK_any d)
end Go.Proofs.YtfpohaipmnjflaaGreatDoor
/- Rows of strings. No condition. -/
namespace Go.Proofs.YtfpohaipmnjflaaGreatDoor
open Go.RowKit

/-- a row of strings -/
def RowS (W : World) (g : Nat) (xs : List ByteArray) : Prop := W.heap[g]? = some (.cells (xs.map Value.string).toArray 9 (0, 0))
theorem RowS.below {W W' : World} {g : Nat} {xs : List ByteArray} (h : RowS W g xs) (hb : Below W.heap.size W W') : RowS W' g xs := heap_below hb h (Array.getElem?_eq_some_iff.1 h).1
theorem RowS.lt {W : World} {g : Nat} {xs : List ByteArray} (h : RowS W g xs) : g < W.heap.size := (Array.getElem?_eq_some_iff.1 h).1
theorem RowS.cell {W : World} {g : Nat} {xs : List ByteArray} (h : RowS W g xs) (k : Nat) (x : ByteArray) (hx : xs[k]? = some x) : W.cell? ⟨g, k, none⟩ = some (.string x) := by
  rw [cell_of_row _ _ _ _ _ _ h]
  simp [hx]
end Go.Proofs.YtfpohaipmnjflaaGreatDoor
