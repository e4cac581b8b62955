/- Several texts joined, each with its own sentence and conditions ahead of it: ParsP, LawOnly, LawAwk6. -/
import Derived.Test.YtgifapamogbkeaaDoorMXN
import Derived.Test.YtgifapamogbkeaaDoorMY
import Derived.Test.YtgifapamogbkeaaDoorMJ
import Derived.RegionTactic
import Derived.Test.YtgifapamogbkeaaDoorME
/- The parser: a source's program, or its fault; by contract. Condition: the library's table of blanks lies as laid. -/
namespace Go.Proofs.YtgifapamogbkeaaDoor
open Go.RowKit

/-- the tree of a source whose tokens may all be there -/
def progT (s : ByteArray) : Tree := .mk 1 ⟨#[]⟩ 0 0 (progD (allTk s)).1
/-- what is told of a row of tokens that has been read -/
def progR (ts : List Tok) (R : List Tree × PS) (T0 : Tree) : Tree × Int × Int :=
  if R.2.2 = true then (zeroT, 202, atM ts R.2)
  else match dpM 30 T0 with
    | some p => (zeroT, 203, p)
    | none => if rightF 30 T0 = true then (T0, 0, 0) else (zeroT, 204, 0)
/-- A SOURCE's PROGRAM, or its fault and the fault's place -/
def progM (s : ByteArray) : Tree × Int × Int :=
  if 16384 < s.size then (zeroT, 3, 0)
  else match (toksFrom s 0).2 with
    | some (er, pl) => (zeroT, er, pl)
    | none => progR (allTk s) (progD (allTk s)) (progT s)
/-- a list of nodes in a row of its own, and what hangs on it -/
def ListOwn (W : World) (L d : Nat) (ks : List Tree) (v : Value) : Prop := ∃ (rows : List (List Value)) (Fs : Nat → Nat → Prop), W.ownsRow L 26 5 v ks.length rows.flatten ∧ RowsOwn W L d ks ks.length v.ownBlock rows Fs
theorem ListOwn.below {W W' : World} {L d : Nat} {ks : List Tree} {v : Value} (h : ListOwn W L d ks v) (hb : Below W.heap.size W W') : ListOwn W' L d ks v := by
  obtain ⟨rows, Fs, h1, r1, r2, r3, r4, r5, r6⟩ := h
  refine ⟨rows, Fs, ownsRow_below h1 hb, r1, r2, fun i T hi hT => ?_, fun i b hb' => ⟨(r4 i b hb').1, Nat.lt_of_lt_of_le (r4 i b hb').2.1 hb.size, (r4 i b hb').2.2⟩, r5, r6⟩
  obtain ⟨a, s, b, c⟩ := r3 i T hi hT
  exact ⟨a, s, b, c.below (fun b hb' => (r4 i b hb').2.1) hb⟩
theorem ListOwn.keep {W W' : World} {L d : Nat} {ks : List Tree} {v : Value} (h : ListOwn W L d ks v) (hs : W.heap.size ≤ W'.heap.size) (hk : ∀ b, L ≤ b → b < W.heap.size → W'.heap[b]? = W.heap[b]?) : ListOwn W' L d ks v := by
  obtain ⟨rows, Fs, ⟨h0, h1⟩, r1, r2, r3, r4, r5, r6⟩ := h
  refine ⟨rows, Fs, ⟨h0, ?_⟩, r1, r2, fun i T hi hT => ?_, fun i b hb' => ⟨(r4 i b hb').1, Nat.lt_of_lt_of_le (r4 i b hb').2.1 hs, (r4 i b hb').2.2⟩, r5, r6⟩
  · rcases h1 with h1 | ⟨g, cap, cur, e1, e2, e3, e4⟩
    · exact Or.inl h1
    · exact Or.inr ⟨g, cap, cur, e1, e2, (hk g e2 (Array.getElem?_eq_some_iff.1 e3).1).trans e3, e4⟩
  · obtain ⟨a, s, b, c⟩ := r3 i T hi hT
    exact ⟨a, s, b, c.keep fun x o hx ho => (hk x (r4 i x hx).1 (r4 i x hx).2.1).trans ho⟩
theorem ListOwn.low {W : World} {L L' d : Nat} {ks : List Tree} {v : Value} (h : ListOwn W L d ks v) (hL : L' ≤ L) : ListOwn W L' d ks v := by
  obtain ⟨rows, Fs, h1, r1, r2, r3, r4, r5, r6⟩ := h
  exact ⟨rows, Fs, ownsRow_base h1 hL, r1, r2, r3, fun i b hb => ⟨Nat.le_trans hL (r4 i b hb).1, (r4 i b hb).2⟩, r5, r6⟩
theorem ListOwn.own {W : World} {L d : Nat} {ks : List Tree} {v : Value} (h : ListOwn W L d ks v) : OwnAt W (d + 1) ks v (Between L W.heap.size) := by
  obtain ⟨rows, Fs, h1, h2⟩ := h
  exact own_fin (d := d + 1) rfl h1 h2 (fun h => by omega)
/-- what the program's parser hands back -/
def ProgRes (w : World) (r : Tree × Int × Int) (e : Ending) (w' : World) : Prop :=
  ∃ (sl : Value), e = .returned (.tuple #[.agg #[.int .u8 r.1.kind, .string r.1.text, .int .i64 r.1.num, .int .i64 r.1.place, sl], .agg #[.int .i64 r.2.1, .int .i64 r.2.2]]) ∧ Below w.heap.size w w' ∧ OwnAt w' 30 r.1.kids sl (Between w.heap.size w'.heap.size) ∧ Fits r.1 ∧ (∀ d, Trim d r.1) ∧ ListOwn w' w.heap.size 29 r.1.kids sl
/-- ahead of a round of declarations -/
def PPrRel (w : World) (P L cap : Nat) (ts : List Tok) (R : List Tree × PS) (bB : Nat) (W : World) : Prop :=
  ∃ (g : Nat) (ks : List Tree) (σ : PS) (d : Nat) (rows : List (List Value)) (Fs : Nat → Nat → Prop) (o : Value), progL ts g ks σ = R ∧ (σ.2 = true ∨ ts.length - σ.1 + 1 ≤ g) ∧ ks.length ≤ σ.1 + (if σ.2 = true then 1 else 0) ∧
    Turns w P L cap ts σ.1 σ.2 W ∧ W.heap[bB]? = some (.cells #[.int .u8 1, .string ⟨#[]⟩, .int .i64 0, .int .i64 0, o] 26 (0, 0)) ∧
    W.ownsRow (bB + 1) 26 5 o ks.length rows.flatten ∧ RowsOwn W (bB + 1) d ks ks.length o.ownBlock rows Fs
/-- no deeper than is told: read as deep as that -/
theorem own_depth {W : World} : ∀ {n d : Nat} {ks : List Tree} {sl : Value} {F : Nat → Prop}, OwnAt W d ks sl F → (∀ t ∈ ks, dpM n t = none) → OwnAt W n ks sl F := by
  intro n
  induction n with
  | zero =>
    intro d ks sl F h hn
    have hk : ks = [] := by
      cases ks with
      | nil => rfl
      | cons t r => have := hn t (List.mem_cons_self ..); cases this
    subst hk
    obtain ⟨p, cap, rfl⟩ := h.shape
    exact ⟨rfl, p, cap, rfl⟩
  | succ n ih =>
    intro d ks sl F h hn
    cases d with
    | zero => exact Or.inl h
    | succ d =>
      rcases h with h | ⟨g, cap, cs, Fs, h0, h1, h2, h3, h4, h5, h6, h7, h8, h9⟩
      · exact Or.inl h
      · refine Or.inr ⟨g, cap, cs, Fs, h0, h1, h2, h3, h4, h5, h6, fun i T hT => ?_, h8, h9⟩
        obtain ⟨hf, s, hc, ho⟩ := h7 i T hT
        refine ⟨hf, s, hc, ih ho fun t ht => ?_⟩
        have := hn T (List.mem_of_getElem? hT)
        unfold dpM at this
        rw [List.findSome?_eq_none_iff] at this
        exact this t ht
theorem ListOwn.depth {W : World} {L d n : Nat} {ks : List Tree} {v : Value} (h : ListOwn W L d ks v) (hn : ∀ t ∈ ks, dpM (n + 1) t = none) : ListOwn W L n ks v := by
  obtain ⟨rows, Fs, h1, r1, r2, r3, r4⟩ := h
  refine ⟨rows, Fs, h1, r1, r2, fun i T hi hT => ?_, r4⟩
  obtain ⟨a, s, b, c⟩ := r3 i T hi hT
  refine ⟨a, s, b, own_depth c fun t ht => ?_⟩
  have := hn T (List.mem_of_getElem? hT)
  unfold dpM at this
  rw [List.findSome?_eq_none_iff] at this
  exact this t ht
theorem ListOwn.more {W : World} {L d : Nat} {ks : List Tree} {v : Value} (h : ListOwn W L d ks v) : ListOwn W L (d + 1) ks v := by
  obtain ⟨rows, Fs, h1, r1, r2, r3, r4⟩ := h
  exact ⟨rows, Fs, h1, r1, r2, fun i T hi hT => by obtain ⟨a, s, b, c⟩ := r3 i T hi hT; exact ⟨a, s, b, c.more⟩, r4⟩
theorem list_none (W : World) (L d : Nat) : ListOwn W L d [] (.slice none 0 0) := ⟨[], fun _ _ => False, World.ownsRow_nil _ _ _ _, rows_none _ _ _ _⟩
theorem fits_zero : Fits zeroT := fits_mk (by omega) (by show (0 : Nat) ≤ 16384; omega) (by omega) (by omega)
theorem fits_prog (ks : List Tree) : Fits (.mk 1 ⟨#[]⟩ 0 0 ks) := fits_mk (by omega) (by show (0 : Nat) ≤ 16384; omega) (by omega) (by omega)
theorem below_of_turns {w W0 W : World} {P L cap k : Nat} {bad : Bool} {ts : List Tok} (hb : Below w.heap.size w W0) (hT : Turns W0 P L cap ts k bad W) (hP : w.heap.size ≤ P) : Below w.heap.size w W :=
  ⟨hT.1.os.trans hb.os, hT.1.tape.trans hb.tape, hT.1.output.trans hb.output, Nat.le_trans hb.size hT.1.size, fun i hi => (hT.1.block i (Nat.lt_of_lt_of_le hi hb.size) (fun e => by injection e with e; omega)).trans (hb.block i hi)⟩
/-- the two boxes of the results, filled -/
theorem prog_ret {w W : World} {a : Act} {v0 v1 v2 v3 v4 e1 e2 : Value} {R : Ending → World → Prop} (h2 : a.tmps.getD 2 undef = .pointer (some ⟨w.heap.size, 0, none⟩)) (h3 : a.tmps.getD 3 undef = .pointer (some ⟨w.heap.size + 1, 0, none⟩)) (hd : a.defers = [])
    (hb0 : W.heap[w.heap.size]? = some (.cells #[v0, v1, v2, v3, v4] 26 (0, 0))) (hb1 : W.heap[w.heap.size + 1]? = some (.cells #[e1, e2] 29 (0, 0))) (hR : R (.returned (.tuple #[.agg #[v0, v1, v2, v3, v4], .agg #[e1, e2]])) W) : bodyPost Tryd.prog Tryd.f5 R .ret a W := by
  obtain ⟨c0, c1, c2, c3, c4⟩ := cells5 hb0
  have d0 : W.cell? ⟨w.heap.size + 1, 0, none⟩ = some e1 := by simp [World.cell?, hb1]
  have d1 : W.cell? ⟨w.heap.size + 1, 1, none⟩ = some e2 := by simp [World.cell?, hb1]
  have h2' : a.tmps[2]?.getD undef = .pointer (some ⟨w.heap.size, 0, none⟩) := by simpa using h2
  have h3' : a.tmps[3]?.getD undef = .pointer (some ⟨w.heap.size + 1, 0, none⟩) := by simpa using h3
  refine bodyPost_ret (v := .tuple #[.agg #[v0, v1, v2, v3, v4], .agg #[e1, e2]]) ?_ hd hR
  simp [results, Tryd.results5, go_sem, h2', h3', c0, c1, c2, c3, c4, d0, d1]
theorem heap_set2 {W : World} {b : Nat} {c0 c1 : Value} {t : TypeId} (h : W.heap[b]? = some (.cells #[c0, c1] t (0, 0))) (v0 v1 : Value) :
    ((W.setCell ⟨b, 0, none⟩ v0).setCell ⟨b, 1, none⟩ v1).heap[b]? = some (.cells #[v0, v1] t (0, 0)) := by
  rw [heap_set (heap_set h 0 v0) 1 v1]; rfl
theorem cells2 {W : World} {b : Nat} {c0 c1 : Value} {t : TypeId} (h : W.heap[b]? = some (.cells #[c0, c1] t (0, 0))) : W.cell? ⟨b, 0, none⟩ = some c0 ∧ W.cell? ⟨b, 1, none⟩ = some c1 ∧ W.frozen? ⟨b, 0, none⟩ = false ∧ W.frozen? ⟨b, 1, none⟩ = false := by
  refine ⟨by simp [World.cell?, h], by simp [World.cell?, h], by simp [World.frozen?, h], by simp [World.frozen?, h]⟩
/-- both results' boxes are stored into -/
theorem prog_stored {w W : World} {v0 v1 v2 v3 v4 a0 a1 : Value} {q0 q1 q2 q3 q4 x0 x1 : Value} (hb : Below w.heap.size w W) (hb0 : W.heap[w.heap.size]? = some (.cells #[q0, q1, q2, q3, q4] 26 (0, 0))) (hb1 : W.heap[w.heap.size + 1]? = some (.cells #[x0, x1] 29 (0, 0))) :
    Below w.heap.size w (((set5 W w.heap.size v0 v1 v2 v3 v4).setCell ⟨w.heap.size + 1, 0, none⟩ a0).setCell ⟨w.heap.size + 1, 1, none⟩ a1) ∧
    (((set5 W w.heap.size v0 v1 v2 v3 v4).setCell ⟨w.heap.size + 1, 0, none⟩ a0).setCell ⟨w.heap.size + 1, 1, none⟩ a1).heap[w.heap.size]? = some (.cells #[v0, v1, v2, v3, v4] 26 (0, 0)) ∧
    (((set5 W w.heap.size v0 v1 v2 v3 v4).setCell ⟨w.heap.size + 1, 0, none⟩ a0).setCell ⟨w.heap.size + 1, 1, none⟩ a1).heap[w.heap.size + 1]? = some (.cells #[a0, a1] 29 (0, 0)) ∧
    (∀ b, w.heap.size + 2 ≤ b → (((set5 W w.heap.size v0 v1 v2 v3 v4).setCell ⟨w.heap.size + 1, 0, none⟩ a0).setCell ⟨w.heap.size + 1, 1, none⟩ a1).heap[b]? = W.heap[b]?) ∧
    (((set5 W w.heap.size v0 v1 v2 v3 v4).setCell ⟨w.heap.size + 1, 0, none⟩ a0).setCell ⟨w.heap.size + 1, 1, none⟩ a1).heap.size = W.heap.size := by
  refine ⟨?_, ?_, ?_, fun b hb2 => ?_, ?_⟩
  · unfold set5
    exact ((((((hb.setCell (p := ⟨w.heap.size, 0, none⟩) (Nat.le_refl _) v0).setCell (p := ⟨w.heap.size, 1, none⟩) (Nat.le_refl _) v1).setCell (p := ⟨w.heap.size, 2, none⟩) (Nat.le_refl _) v2).setCell (p := ⟨w.heap.size, 3, none⟩) (Nat.le_refl _) v3).setCell (p := ⟨w.heap.size, 4, none⟩) (Nat.le_refl _) v4).setCell (p := ⟨w.heap.size + 1, 0, none⟩) (Nat.le_succ _) a0).setCell (p := ⟨w.heap.size + 1, 1, none⟩) (Nat.le_succ _) a1
  · exact (Below.heap_setCell _ _ _ _ (show w.heap.size ≠ w.heap.size + 1 by omega)).trans ((Below.heap_setCell _ _ _ _ (show w.heap.size ≠ w.heap.size + 1 by omega)).trans (heap_set5 hb0 v0 v1 v2 v3 v4))
  · exact heap_set2 ((set5_other (show w.heap.size + 1 ≠ w.heap.size by omega) v0 v1 v2 v3 v4).trans hb1) a0 a1
  · exact (Below.heap_setCell _ _ _ _ (show b ≠ w.heap.size + 1 by omega)).trans ((Below.heap_setCell _ _ _ _ (show b ≠ w.heap.size + 1 by omega)).trans (set5_other (show b ≠ w.heap.size by omega) v0 v1 v2 v3 v4))
  · rw [World.setCell, World.setCell]; simp [set5, World.setCell]
/-- what the scanner hands the parser -/
theorem tokens_two (s : ByteArray) (wA : World) (ht : AsciiTab wA) : Calls Tryd.prog 11 #[.string s] wA fun e w' => Below wA.heap.size wA w' ∧
    ((∃ er pl : Nat, progM s = (zeroT, (er : Int), (pl : Int)) ∧ er ≠ 0 ∧ e = .returned (.tuple #[.slice none 0 0, .agg #[.int .i64 er, .int .i64 pl]])) ∨
     (s.size ≤ 16384 ∧ (toksFrom s 0).2 = none ∧ ∃ v, e = .returned (.tuple #[v, .agg #[.int .i64 0, .int .i64 0]]) ∧ w'.ownsRow wA.heap.size 49 3 v (allTk s).length (lexCells (allTk s)))) := by
  by_cases hs : 16384 < s.size
  · refine (tokens_long s wA hs).mono ?_
    rintro e w' ⟨rfl, hb⟩
    exact ⟨hb, Or.inl ⟨3, 0, by unfold progM; rw [if_pos hs]; rfl, by decide, rfl⟩⟩
  · refine (tokens_any s wA (by omega) ht).mono ?_
    rintro e w' ⟨hb, ⟨h0, v, rfl, ho⟩ | ⟨er, pl, h0, rfl⟩⟩
    · refine ⟨hb, Or.inr ⟨by omega, h0, v, rfl, ?_⟩⟩
      rw [allTk_len]
      exact ho
    · refine ⟨hb, Or.inl ⟨er, pl, by unfold progM; rw [if_neg hs, h0], (toks_err s _ 0 er pl h0).1, rfl⟩⟩
theorem prog_fine {w W : World} {s : ByteArray} {T0 : Tree} {ks : List Tree} {p : Option Addr} {c : Nat} {F : Nat → Prop} (hm : progM s = if true = true then (T0, 0, 0) else (zeroT, 204, 0)) (hT : T0 = .mk 1 ⟨#[]⟩ 0 0 ks) (hsl : ∀ d, Trim d T0) (hb : Below w.heap.size w W) (hlo : ListOwn W w.heap.size 29 ks (.slice p ks.length c))
    (ho : OwnAt W 30 ks (.slice p ks.length c) F) (hF : ∀ b, F b → Between w.heap.size W.heap.size b) :
    ProgRes w (progM s) (.returned (.tuple #[.agg #[.int .u8 1, .string ⟨#[]⟩, .int .i64 0, .int .i64 0, .slice p ks.length c], .agg #[.int .i64 0, .int .i64 0]])) W := by
  rw [hm, if_pos rfl]
  subst hT
  exact ⟨_, rfl, hb, ho.sub hF, fits_prog ks, hsl, hlo⟩
theorem run_lexKind (a : Int) (x : ByteArray) (p : Int) (W : World) : (Instr.field 49 (.agg #[.int .u8 a, .string x, .int .i64 p]) 0).run Tryd.prog W = .ok (.int .u8 a) W := by kernel_rfl
theorem prog_fail {w W : World} {s : ByteArray} {er pl : Int} (hm : progM s = (zeroT, er, pl)) (hb : Below w.heap.size w W) :
    ProgRes w (progM s) (.returned (.tuple #[.agg #[.int .u8 0, .string ⟨#[]⟩, .int .i64 0, .int .i64 0, .slice none 0 0], .agg #[.int .i64 er, .int .i64 pl]])) W := by
  rw [hm]
  exact ⟨.slice none 0 0, rfl, hb, Or.inl ⟨rfl, none, 0, rfl⟩, fits_zero, zero_slim, list_none _ _ _⟩
set_option maxRecDepth 100000 in
set_option maxHeartbeats 4000000 in
theorem program_any (s : ByteArray) (w : World) (ht : AsciiTab w) : Calls Tryd.prog 5 #[.string s] w (ProgRes w (progM s)) := by
  obtain ⟨wA, hwA⟩ : ∃ wA, wA = (w.alloc (.cells zeroN 26)).alloc (.cells #[.int .i64 0, .int .i64 0] 29) := ⟨_, rfl⟩
  have hbA : Below w.heap.size w wA := by rw [hwA]; exact below_two w _ _
  obtain ⟨X0, X1, _⟩ := two_new' w (.cells zeroN 26) (.cells #[.int .i64 0, .int .i64 0] 29)
  rw [← hwA] at X0 X1
  have HT := Lib.hid (tokens_two s wA (ht.below hbA))
  have HAT := Lib.hid (ht.below hbA)
  have hatl : (1 : Nat) < w.heap.size := ht.lt
  obtain ⟨i0, hi0, hz0, hz1, hz2⟩ := info_parts infoNode
  have HszA : Hid (wA.heap.size = w.heap.size + 2) := by show _ = _; rw [hwA]; simp
  have HX0 := Lib.hid X0
  have HX1 := Lib.hid X1
  have HBA := Lib.hid hbA
  clear X0 X1 hbA ht
  go_enter Tryd.func5, Tryd.ntmps5
  go_upto_region 1 with fail
  change Code.wp _ _ _ _ ((w.alloc (.cells zeroN 26)).alloc (.cells #[.int .i64 0, .int .i64 0] 29))
  rw [← hwA]
  clear hwA
  go_wp2_with fail
  refine Calls.mono HT.out ?_
  rintro e w1 ⟨hb1, ⟨er, pl, hm, her, rfl⟩ | ⟨hs, h0, v, rfl, hown⟩⟩
  · have HM := Lib.hid hm
    have her2 : ((er : Int) != 0) = true := by simp; omega
    obtain ⟨wF, hwF⟩ : ∃ wF, wF = w1.alloc (.cells #[.int .i64 er, .int .i64 pl] 29) := ⟨_, rfl⟩
    have hbF : Below wA.heap.size wA wF := by rw [hwF]; exact hb1.alloc hb1.size _
    have hFc : wF.heap[w1.heap.size]? = some (.cells #[.int .i64 er, .int .i64 pl] 29 (0, 0)) := by rw [hwF]; exact heap_alloc_new w1 _
    have HB := Lib.hid (HBA.out.trans (hbF.mono HBA.out.size))
    have hsz1 : w.heap.size + 2 ≤ w1.heap.size := by have := HszA.out; have := hb1.size; omega
    have HY0 := Lib.hid (heap_below hbF HX0.out (by have := HszA.out; omega))
    have HY1 := Lib.hid (heap_below hbF HX1.out (by have := HszA.out; omega))
    clear hb1 hbF hm her
    go_upto_region 2 with fail
    change Code.wp _ _ _ _ (w1.alloc (.cells #[.int .i64 er, .int .i64 pl] 29))
    rw [← hwF]
    clear hwF
    obtain ⟨f0, f1, _, _⟩ := cells2 hFc
    clear hFc
    go_wp2_with fail
    have z0 := frozen5 HY0.out 0
    have z1 := frozen5 HY0.out 1
    have z2 := frozen5 HY0.out 2
    have z3 := frozen5 HY0.out 3
    have z4 := frozen5 HY0.out 4
    obtain ⟨a0, a1, a2, a3, a4⟩ := cells5 HY0.out
    obtain ⟨b0, b1, y0, y1⟩ := cells2 HY1.out
    have hd0 : (w.heap.size = w1.heap.size) = False := by simp; omega
    have hd1 : (w1.heap.size = w.heap.size) = False := by simp; omega
    go_region
    go_wp2_with fail
    obtain ⟨k1, k2, k3, _, _⟩ := prog_stored (v0 := .int .u8 0) (v1 := .string ⟨#[]⟩) (v2 := .int .i64 0) (v3 := .int .i64 0) (v4 := .slice none 0 0) (a0 := .int .i64 er) (a1 := .int .i64 pl) HB.out HY0.out HY1.out
    change bodyPost _ _ _ _ _ (((set5 wF w.heap.size (.int .u8 0) (.string ⟨#[]⟩) (.int .i64 0) (.int .i64 0) (.slice none 0 0)).setCell ⟨w.heap.size + 1, 0, none⟩ (.int .i64 er)).setCell ⟨w.heap.size + 1, 1, none⟩ (.int .i64 pl)).drew
    generalize (((set5 wF w.heap.size (.int .u8 0) (.string ⟨#[]⟩) (.int .i64 0) (.int .i64 0) (.slice none 0 0)).setCell ⟨w.heap.size + 1, 0, none⟩ (.int .i64 er)).setCell ⟨w.heap.size + 1, 1, none⟩ (.int .i64 pl)) = WZ at *
    have k2' : WZ.drew.heap[w.heap.size]? = _ := k2
    have k3' : WZ.drew.heap[w.heap.size + 1]? = _ := k3
    exact prog_ret rfl rfl rfl k2' k3' (prog_fail HM.out k1.drew)
  · obtain ⟨_, hcase⟩ := hown
    have hlen := allTk_len s
    have hts := allTk_ok s hs
    have hn5 : (allTk s).length ≤ 16385 := by
      have h1 := toks_len s (s.size + 1) 0 (Nat.zero_le _)
      have h2 : (toksFrom s 0).1.length + 0 ≤ s.size := h1
      omega
    rcases hcase with ⟨_, h⟩ | ⟨L, cap, cur, rfl, hLg, hLc, hle, hcm, hcs, htake⟩
    · omega
    have HM : Hid (progM s = progR (allTk s) (progD (allTk s)) (progT s)) := by
      show _ = _
      unfold progM
      rw [if_neg (by omega), h0]
    have HPT : Hid (progT s = .mk 1 ⟨#[]⟩ 0 0 (progD (allTk s)).1) := rfl
    have HSl : Hid (SlimL (progD (allTk s)).1) := progD_slim hts hn5 (by omega)
    obtain ⟨R, hR⟩ : ∃ R, progD (allTk s) = R := ⟨_, rfl⟩
    rw [hR] at HM HPT HSl
    unfold progD at hR
    generalize progT s = T0 at *
    obtain ⟨ts, hts0⟩ : ∃ ts, allTk s = ts := ⟨_, rfl⟩
    rw [hts0] at hlen hts hn5 hle htake HM hR ⊢
    have HR := Lib.hid hR
    have HTS := Lib.hid hts
    have HDecl := Lib.hid (pdecl_any hts (prule_any hts))
    have hpos : 0 < ts.length := by omega
    have HLen := Lib.hid hn5
    have hl1 : wA.heap.size ≤ w1.heap.size := hb1.size
    have hLl : L < w1.heap.size := (Array.getElem?_eq_some_iff.1 hLc).1
    obtain ⟨wF, hwF⟩ : ∃ wF, wF = w1.alloc (.cells #[.int .i64 0, .int .i64 0] 29) := ⟨_, rfl⟩
    obtain ⟨wP, hwP⟩ : ∃ wP, wP = wF.alloc (.cells #[.slice (some ⟨L, 0, none⟩) ts.length cap, .bool false] 46) := ⟨_, rfl⟩
    obtain ⟨wn, hwn⟩ : ∃ wn, wn = wP.alloc (.cells #[.int .u8 1, .string ⟨#[]⟩, .int .i64 0, .int .i64 0, .slice none 0 0] 26) := ⟨_, rfl⟩
    have hbF : Below w1.heap.size w1 wF := by rw [hwF]; exact (Below.refl _ w1).alloc (Nat.le_refl _) _
    have hbP : Below wF.heap.size wF wP := by rw [hwP]; exact (Below.refl _ wF).alloc (Nat.le_refl _) _
    have hbn : Below wP.heap.size wP wn := by rw [hwn]; exact (Below.refl _ wP).alloc (Nat.le_refl _) _
    have hFc : wF.heap[w1.heap.size]? = some (.cells #[.int .i64 0, .int .i64 0] 29 (0, 0)) := by rw [hwF]; exact heap_alloc_new w1 _
    have hPc : wP.heap[wF.heap.size]? = some (.cells #[.slice (some ⟨L, 0, none⟩) ts.length cap, .bool false] 46 (0, 0)) := by rw [hwP]; exact heap_alloc_new wF _
    have hnc : wn.heap[wP.heap.size]? = some (.cells #[.int .u8 1, .string ⟨#[]⟩, .int .i64 0, .int .i64 0, .slice none 0 0] 26 (0, 0)) := by rw [hwn]; exact heap_alloc_new wP _
    have hsF : wF.heap.size = w1.heap.size + 1 := by rw [hwF]; simp
    have hsP : wP.heap.size = wF.heap.size + 1 := by rw [hwP]; simp
    have hsn : wn.heap.size = wP.heap.size + 1 := by rw [hwn]; simp
    have hAP : Below wA.heap.size wA wP := hb1.trans ((hbF.trans (hbP.mono (by omega))).mono hl1)
    have hPt : PAt wP wF.heap.size L cap ts 0 false := by
      refine ⟨⟨ts.length, cap, rfl, rfl, by rw [Nat.zero_mul]; exact hPc⟩, ⟨cur, ?_, fun j u hu => ?_⟩, hpos, hn5, hle, hcm⟩
      · exact heap_below (hbF.trans (hbP.mono (by omega))) hLc hLl
      · rw [← htake, List.getElem?_take] at hu
        split at hu
        · simpa using hu
        · cases hu
    have hT0 := hPt.turns hbn
    have hszA := HszA.out
    obtain ⟨P, hP⟩ : ∃ P, wF.heap.size = P := ⟨_, rfl⟩
    obtain ⟨bB, hbB⟩ : ∃ b, wP.heap.size = b := ⟨_, rfl⟩
    rw [hP] at hPt hT0 hPc
    rw [hbB] at hnc
    have hwPP : w.heap.size + 2 < P := by omega
    have hPb : P < bB := by omega
    have hwB : wP.heap.size ≤ bB := by omega
    have HL : Hid (L < wP.heap.size) := by show _ < _; omega
    have hPl : P < wP.heap.size := by omega
    have HBP : Hid (Below w.heap.size w wP) := HBA.out.trans (hAP.mono HBA.out.size)
    have HY0 := Lib.hid (heap_below (hAP.trans (hbn.mono hAP.size)) HX0.out (by omega))
    have HY1 := Lib.hid (heap_below (hAP.trans (hbn.mono hAP.size)) HX1.out (by omega))
    have HNc := Lib.hid hnc
    have HT0 := Lib.hid hT0
    have hbn1 : bB + 1 = wn.heap.size := by omega
    have HRel : Hid (PPrRel wP P L cap ts R bB wn) :=
      ⟨ts.length + 1, [], (0, false), 0, [], fun _ _ => False, .slice none 0 0, HR.out, Or.inr (by omega), Nat.zero_le _, HT0.out, HNc.out, World.ownsRow_nil _ _ _ _, rows_none _ _ _ _⟩
    have HP := Lib.hid hP
    have HbB := Lib.hid hbB
    have HYP0 := Lib.hid (heap_below hAP HX0.out (by omega))
    have HYP1 := Lib.hid (heap_below hAP HX1.out (by omega))
    have HATP := Lib.hid (HAT.out.below hAP)
    have hPA : P ≠ 1 := fun h => by have := hatl; omega
    have HwF := Lib.hid hwF
    have HwP := Lib.hid hwP
    have Hwn := Lib.hid hwn
    have HAt : Hid (0 ≤ atM ts R.2 ∧ atM ts R.2 ≤ 16384) := by
      show _ ∧ _
      obtain ⟨_, _, g3⟩ := tokM_ok hts R.2.1
      unfold atM
      omega
    obtain ⟨f0, f1, _, _⟩ := cells2 hFc
    have hbn2 : bB + 1 ≤ wn.heap.size := by omega
    clear hlen hbn1 hszA hsF hsP hsn hwF hwP hwn hFc hPc hnc hT0 hPt hbF hbP hbn hb1 hts hts0 hLc htake hcs hcm hR hAP hP hbB hle hs h0
    go_upto_region 2 with fail
    change Code.wp _ _ _ _ (w1.alloc (.cells #[.int .i64 0, .int .i64 0] 29))
    rw [← HwF.out]
    go_upto_region 5 with fail
    change Code.wp _ _ _ _ (wF.alloc (.cells #[.slice (some ⟨L, 0, none⟩) ts.length cap, .bool false] 46))
    rw [← HwP.out, HP.out]
    go_wp2_with fail
    change Code.wp _ _ _ _ (wP.alloc (.cells #[.int .u8 1, .string ⟨#[]⟩, .int .i64 0, .int .i64 0, .slice none 0 0] 26))
    rw [← Hwn.out, HbB.out]
    go_loopw [25] (fun _ wr => PPrRel wP P L cap ts R bB wr) (fun _ wr => stepsOf P wr)
    case atStart => exact HRel.out
    case round =>
      clear HRel HT0 HNc
      obtain ⟨g, ks, σc, dd, rows, Fs, o, hup, hg, hlen, hT, hn, hown, hrows⟩ := hrel
      have HTr := Lib.hid hT
      have HUp := Lib.hid hup
      have HG := Lib.hid hg
      have HLn := Lib.hid hlen
      have HNr := Lib.hid hn
      have HOwn := Lib.hid hown
      have HRows := Lib.hid hrows
      have HSt := Lib.hid hT.2.steps
      have HGe1 : Hid (σc.1 ≤ (declM ts (ruleM ts) σc).2.1) := declM_ge (ts := ts) (ruleM_ge ts) σc
      have hbW : bB < wr.heap.size := (Array.getElem?_eq_some_iff.1 hn).1
      clear hup hg hlen hT hn hown hrows
      go_upto_region 6 with fail
      go_cut [38] from 25 to 38 (fun v wx => v = .bool (!σc.2 && kdM ts σc != 7) ∧ Below wr.heap.size wr wx)
      case first =>
        obtain ⟨_, _, _, _, _, c1, _, _⟩ := HTr.out.2.cells
        have HIs := Lib.hid (pnow_res HTr.out.2)
        cases hb : σc.2 with
        | true =>
          rw [hb] at c1
          have HBb := Lib.hid hb
          clear hb
          go_wp2_with fail
          go_meet
          case rel => exact ⟨by rw [HBb.out]; rfl, Below.refl _ _⟩
        | false =>
          rw [hb] at c1
          have HBb := Lib.hid hb
          clear hb
          have hkk : kdM ts σc < 256 := (tokM_ok HTS.out σc.1).1
          obtain ⟨kd, hkd⟩ : ∃ k, kdM ts σc = k := ⟨_, rfl⟩
          rw [hkd] at HIs hkk
          have HKd := Lib.hid hkd
          clear hkd
          generalize txM ts σc = tx at HIs
          generalize atM ts σc = pl at HIs
          by_cases hk : kd = 7
          · have hk' : ((kd : Int) != 7) = false := by simp; omega
            have HK := Lib.hid hk
            clear hk
            go_wp2_with fail
            refine Calls.mono HIs.out ?_
            rintro e wx ⟨rfl, hbx⟩
            have HBx := Lib.hid hbx
            have hFK := run_lexKind kd tx pl wx
            clear hbx
            go_wp2_with fail
            go_meet
            case rel => exact ⟨by rw [HBb.out, HKd.out, HK.out]; rfl, HBx.out⟩
          · have hk' : ((kd : Int) != 7) = true := by simp; omega
            have hk2 : (kd != 7) = true := by simpa using hk
            have HK := Lib.hid hk2
            clear hk hk2
            go_wp2_with fail
            refine Calls.mono HIs.out ?_
            rintro e wx ⟨rfl, hbx⟩
            have HBx := Lib.hid hbx
            have hFK := run_lexKind kd tx pl wx
            clear hbx
            go_wp2_with fail
            go_meet
            case rel => exact ⟨by rw [HBb.out, HKd.out, HK.out]; rfl, HBx.out⟩
      case rest =>
        obtain ⟨rfl, hbx⟩ := hcut
        have HTx := Lib.hid (HTr.out.of_below hbx)
        have HNx := Lib.hid (heap_below hbx HNr.out hbW)
        have hPR : P < bB + 1 := by omega
        have HOwnx := Lib.hid (ownsRow_turn HOwn.out (grown_of_below hbx (some P)) hPR)
        have HRowsx := Lib.hid (HRows.out.turn (grown_of_below hbx (some P)) hPR)
        have hlx : bB < wc.heap.size := (Array.getElem?_eq_some_iff.1 HNx.out).1
        clear hbx HTr HNr HOwn HRows hbW
        obtain ⟨b, hb⟩ : ∃ b, (!σc.2 && kdM ts σc != 7) = b := ⟨_, rfl⟩
        rw [hb]
        have HB := Lib.hid hb
        clear hb
        cases b with
        | true =>
          have hnb : σc.2 = false := by have := HB.out; cases h : σc.2 <;> simp [h] at this ⊢
          have hns : ¬ kdM ts σc = 7 := by have := HB.out; rw [hnb] at this; simpa using this
          have hkc := HTx.out.2.k
          have hkn := HTx.out.2.n
          have hll := HLn.out
          rw [hnb] at hll
          simp only [Bool.false_eq_true, if_false, Nat.add_zero] at hll
          obtain ⟨g', hg', hR2⟩ : ∃ g', ((declM ts (ruleM ts) σc).2.2 = true ∨ ts.length - (declM ts (ruleM ts) σc).2.1 + 1 ≤ g') ∧ progL ts g' (ks ++ [(declM ts (ruleM ts) σc).1]) (declM ts (ruleM ts) σc).2 = R := by
            have h1 := HUp.out
            have h2 := HG.out
            rw [hnb] at h2
            have h2' : ts.length - σc.1 + 1 ≤ g := by rcases h2 with h | h; cases h; exact h
            cases g with
            | zero => omega
            | succ g =>
              rw [progL_succ, if_neg (by rw [hnb]; decide), if_neg hns] at h1
              refine ⟨g, ?_, h1⟩
              rcases declM_on HTS.out hkc with h | h
              · exact Or.inl h
              · exact Or.inr (by omega)
          have hon := declM_on HTS.out hkc
          have HCall := Lib.hid (HDecl.out σc wc.drew P L cap HTx.out.2.drew)
          have HG' := Lib.hid hg'
          have HR2 := Lib.hid hR2
          have HOn := Lib.hid hon
          have HNb := Lib.hid hnb
          clear hg' hR2 hon hns hnb
          generalize declM ts (ruleM ts) σc = r at *
          obtain ⟨d0, d1', d2', d3, d4⟩ := cells5 HNx.out
          have hbP : bB ≠ P := by omega
          have C4 := fun x : RE.Gr wc P => x.cell d4 hbP
          have hPx : P < wc.heap.size := HTx.out.2.lt.1
          clear d0 d1' d2' d3 d4
          go_wp2_with fail
          refine RE.wp_region_eff (by kernel_rfl) 5 [3, 4] [3, 4] (fun s W => if s = 0 then W = wc.drew else Turns wc P L cap ts r.2.1 r.2.2 W) (fun W W' => W.grownBy W' (some P))
            (fun i xs => if i = 3 then .agg #[.int .u8 r.1.kind, .string r.1.text, .int .i64 r.1.num, .int .i64 r.1.place, xs.getD 0 undef] else .slice (some ⟨RE.natOf xs, 0, none⟩) 1 1)
            (fun i W xs => if i = 3 then GotN wc.heap.size r.1 W xs else GotL wc.heap.size r.1 W xs) (by kernel_rfl) (fun i h1 h2 => by rw [h1] at h2; cases h2) ?_ rfl ?_
          · intro k W W' xs h _ hg
            split at h
            · rw [if_pos (by assumption)]; exact h.grown hPx hg
            · rw [if_neg (by assumption)]; exact h.grown hPx hg
          simp only [List.take_succ_cons, List.take_zero, List.drop_succ_cons, List.drop_zero, List.length_cons, List.length_nil, Nat.reduceAdd]
          have hcl : ∀ (n s : Nat) (W : World), s ≤ n → (if s = 0 then W = wc.drew else Turns wc P L cap ts r.2.1 r.2.2 W) → ∃ x : RE.Gr wc P, W = x.1 := fun n s W _ h => by
            split at h
            · exact ⟨⟨W, by rw [h]; exact grown_drewN (World.grownBy.refl wc _) 1⟩, rfl⟩
            · exact ⟨⟨W, h.1⟩, rfl⟩
          have HCl := Lib.hid hcl
          clear hcl
          repeat (refine RE.wpE_read (fun W => ∃ x : RE.Gr wc P, W = x.1) (HCl.out _) rfl rfl rfl rfl ?_; go_big_quiet_step (fail); refine wpQuiet_nil ?_)
          refine RE.wpE_turn rfl rfl ?_ (fun xs3 => ?_)
          · intro W _ hS _
            obtain rfl : W = wc.drew := hS rfl
            refine RE.upon_call 13 _ _ rfl (enters_of Tryd.func13 (by kernel_rfl) rfl) #[.pointer (some ⟨P, 0, none⟩)] (by simp [Act.eval]) (HCall.out.mono ?_)
            rintro e W' ⟨d, s, rfl, hT, ho, hf⟩
            exact ⟨_, rfl, [s], rfl, hT.of_drew, hT.1, ⟨d, s, rfl, ho, hf⟩⟩
          simp only [Act.put, List.setIfInBounds_toArray, List.set_cons_zero, List.set_cons_succ]
          refine RE.wpE_turn rfl rfl ?_ (fun xs4 => ?_)
          · intro W _ hS hφ
            have hT : Turns wc P L cap ts r.2.1 r.2.2 W := hS rfl
            obtain ⟨d, s, rfl, ho, hf⟩ : GotN wc.heap.size r.1 W xs3 := hφ 3 xs3 (by kernel_rfl) rfl
            obtain ⟨p, c, rfl⟩ := ho.shape
            refine RE.Upon.told (v := .slice (some ⟨W.heap.size, 0, none⟩) 1 1) (w' := W.alloc (.cells (nodeCells r.1 (.slice p r.1.kids.length c)).toArray 26)) ?_ ⟨[.int .i64 W.heap.size], rfl, hT.alloc _, ?_, ?_⟩
            · unfold RE.Upon
              go_simp
              rfl
            · exact grown_of_below ((Below.refl _ W).alloc (Nat.le_refl _) _) _
            · refine ⟨d, W.heap.size, W.heap.size, _, rfl, heap_alloc_new W _, ?_, hf, hT.1.size, Nat.le_refl _⟩
              exact ho.below (fun b hb => hb.2) ((Below.refl _ W).alloc (Nat.le_refl _) _)
          simp only [Act.put, List.setIfInBounds_toArray, List.set_cons_zero, List.set_cons_succ]
          refine RE.wpE_nil ?_
          intro W3 hS hE
          have hT3 : Turns wc P L cap ts r.2.1 r.2.2 W3 := hS
          obtain ⟨d2, gg, N, s2, rfl, hgg, ho2, hf2, hN1, hN2⟩ := (show GotL wc.heap.size r.1 W3 xs4 from hE 4 xs4 rfl)
          have hl3 : wc.heap.size ≤ W3.heap.size := hT3.1.size
          have hown3 := ownsRow_turn HOwnx.out hT3.1 (by omega)
          refine wpList_append_lies W3 rfl (.tmp 40) (.tmp 43) 24 rfl (bB + 1) 26 i0 _ 5 64 Tryd.underlying24 hi0 hz0 hz1 hz2 rfl (by decide) o ks.length rows.flatten rfl hown3 ⟨gg, 0, none⟩ 1 1 (nodeCells r.1 s2) rfl rfl
            (fun j u hu => by rw [Addr.add_mid, cell_of_row _ _ _ _ _ _ hgg, Nat.zero_add]; simpa using hu) (by have := ho2.shape; obtain ⟨p, c, rfl⟩ := this; simp [Value.oneCell', nodeCells]) (by decide) (by unfold maxLen; omega) (by omega) (by omega) _ rfl ?_
          intro g7 cap7 w7 happ hgrow hlies _
          obtain ⟨d', rows', Fs', u1, u2, u3, u4, u5, u6⟩ := up_next (w := wP) hPl HL.out hwB (show bB < (bB + 1) by omega) (by omega) HTx.out HNx.out HOwnx.out HRowsx.out hT3 hgg ho2 hf2 hN1 hN2 happ hgrow hlies
          have x4 := frozen5 u6 4
          obtain ⟨d0, d1', d2', d3, d4⟩ := cells5 u6
          obtain ⟨Wn, hWn⟩ : ∃ Wn, Wn = w7.setCell ⟨bB, 4, none⟩ (.slice (some ⟨g7, 0, none⟩) (ks.length + 1) cap7) := ⟨_, rfl⟩
          rw [← hWn] at u1 u2 u3 u4 u5

          have hlen' : (ks ++ [r.1]).length ≤ r.2.1 + (if r.2.2 = true then 1 else 0) := by
            have h1 := u1.2.k
            rw [List.length_append, List.length_singleton]
            rcases HOn.out with h | h
            · rw [if_pos h]
              have := HGe1.out
              omega
            · split <;> omega
          have HRel2 : Hid (PPrRel wP P L cap ts R bB Wn) :=
            ⟨g', _, r.2, d', rows', Fs', _, HR2.out, HG'.out, hlen', u1, u3, u4, u5⟩
          have HMeas : Hid (stepsOf P Wn < stepsOf P wr) := by
            show _ < _
            rw [u1.2.steps, HSt.out, if_neg (show ¬ σc.2 = true by rw [HNb.out]; decide)]
            have h1 := u1.2.k
            have h3 := HGe1.out
            rcases HOn.out with h | h
            · rw [if_pos h]; omega
            · split <;> omega
          have HWn := Lib.hid hWn
          clear u1 u2 u3 u4 u5 hlen' hlies hgrow happ hE hS hT3 hown3 hgg ho2 C4
          go_wp2_with fail
          rw [← HWn.out]
          exact ⟨HRel2.out, HMeas.out⟩
        | false =>
          have hRR : (ks, σc) = R := by
            rw [← HUp.out]
            have h2 := HB.out
            cases g with
            | zero => rfl
            | succ g =>
              rw [progL_succ]
              by_cases hbb : σc.2 = true
              · rw [if_pos hbb]
              · rw [if_neg hbb, if_pos (by simpa [hbb] using h2)]
          subst hRR
          dsimp only at HPT HAt HSl
          have HYx0 := Lib.hid ((HTx.out.1.block w.heap.size (by omega) (fun e => by injection e with e; omega)).trans HYP0.out)
          have HYx1 := Lib.hid ((HTx.out.1.block (w.heap.size + 1) (by omega) (fun e => by injection e with e; omega)).trans HYP1.out)
          have HBx := Lib.hid (below_of_turns HBP.out HTx.out (by omega))
          have HAx := Lib.hid (HATP.out.grown HTx.out.1 hPA)
          obtain ⟨_, _, _, _, _, c1, _, _⟩ := HTx.out.2.cells
          clear HUp HG HLn HB HGe1 HSt
          cases hb : σc.2 with
          | true =>
            rw [hb] at c1
            have HMb : Hid (progM s = (zeroT, 202, atM ts σc)) := by show _ = _; rw [HM.out]; unfold progR; dsimp only; rw [if_pos hb]
            have HNow := Lib.hid (pnow_res HTx.out.2)
            clear hb
            generalize kdM ts σc = kd at HNow
            generalize txM ts σc = tx at HNow
            generalize atM ts σc = pl at HNow HMb
            go_wp2_with fail
            refine Calls.mono HNow.out ?_
            rintro e wy ⟨rfl, hby⟩
            have hFA := run_lexAt kd tx pl wy
            have HBy := Lib.hid (HBx.out.trans (hby.mono HBx.out.size))
            have HYy0 := Lib.hid (heap_below hby HYx0.out (by omega))
            have HYy1 := Lib.hid (heap_below hby HYx1.out (by omega))
            clear hby c1
            obtain ⟨k1, k2, k3, k4, k5⟩ := prog_stored (v0 := (.int .u8 0)) (v1 := (.string ⟨#[]⟩)) (v2 := (.int .i64 0)) (v3 := (.int .i64 0)) (v4 := (.slice none 0 0)) (a0 := (.int .i64 202)) (a1 := (.int .i64 pl)) HBy.out HYy0.out HYy1.out
            have K1 := Lib.hid k1
            have K2 := Lib.hid k2
            have K3 := Lib.hid k3
            have K4 := Lib.hid k4
            have K5 := Lib.hid k5
            clear k1 k2 k3 k4 k5
            have z0 := frozen5 HYy0.out 0
            have z1 := frozen5 HYy0.out 1
            have z2 := frozen5 HYy0.out 2
            have z3 := frozen5 HYy0.out 3
            have z4 := frozen5 HYy0.out 4
            obtain ⟨a0, a1, a2, a3, a4⟩ := cells5 HYy0.out
            obtain ⟨b0, b1, y0, y1⟩ := cells2 HYy1.out
            go_wp2_with fail
            change bodyPost _ _ _ _ _ (((set5 wy w.heap.size (.int .u8 0) (.string ⟨#[]⟩) (.int .i64 0) (.int .i64 0) (.slice none 0 0)).setCell ⟨w.heap.size + 1, 0, none⟩ (.int .i64 202)).setCell ⟨w.heap.size + 1, 1, none⟩ (.int .i64 pl))
            generalize ((set5 wy w.heap.size (.int .u8 0) (.string ⟨#[]⟩) (.int .i64 0) (.int .i64 0) (.slice none 0 0)).setCell ⟨w.heap.size + 1, 0, none⟩ (.int .i64 202)).setCell ⟨w.heap.size + 1, 1, none⟩ (.int .i64 pl) = WZ at *
            exact prog_ret rfl rfl rfl K2.out K3.out (prog_fail HMb.out K1.out)
          | false =>
            rw [hb] at c1
            have HMo : Hid (progM s = match dpM 30 T0 with
                | some p => (zeroT, 203, p)
                | none => if rightF 30 T0 = true then (T0, 0, 0) else (zeroT, 204, 0)) := by
              show _ = _
              rw [HM.out]; unfold progR; dsimp only; rw [if_neg (by rw [hb]; decide)]
            clear hb
            have hO := own_fin (d := dd + 1) rfl HOwnx.out HRowsx.out (fun h => by omega)
            obtain ⟨p, c, rfl⟩ := hO.shape
            have HO := Lib.hid hO
            have hNode : NodeAt wc wc.heap.size (dd + 1) T0 (.agg #[.int .u8 1, .string ⟨#[]⟩, .int .i64 0, .int .i64 0, .slice p ks.length c]) := by
              rw [HPT.out]
              exact ⟨fits_prog ks, _, rfl, hO.kids fun b hb => hb.2⟩
            have hslk : ∀ d, SlimK d T0.kids := fun d => by
              rw [HPT.out]
              cases d with
              | zero => trivial
              | succ d => exact ⟨by show ks.length ≤ 20000; have := HSl.out.1; omega, fun k hk => (HSl.out.2 k hk d).slim⟩
            have HSlT : Hid (∀ d, Trim d T0) := by
              show ∀ d, Trim d T0
              rw [HPT.out]
              exact slim_mk (show (0 : Nat) ≤ 16390 by omega) (by omega) HSl.out.1 HSl.out.2
            have HDp := Lib.hid (pdeep_any 30 0 (dd + 1) T0 _ wc.heap.size wc rfl hNode (Nat.le_refl _) (hslk _))
            have HOx := Lib.hid hO
            have HLx : Hid (ListOwn wc (bB + 1) dd ks (.slice p ks.length c)) := ⟨rows, Fs, HOwnx.out, HRowsx.out⟩
            obtain ⟨n0, n1, n2, n3, n4⟩ := cells5 HNx.out
            clear hO hNode hslk HO HOwnx HRowsx
            obtain ⟨x, hx⟩ : ∃ x, dpM 30 T0 = x := ⟨_, rfl⟩
            rw [hx] at HDp HMo
            have HX := Lib.hid hx
            clear hx
            rw [show ((0 : Nat) : Int) = 0 from rfl] at HDp
            go_wp2_with fail
            refine Calls.mono HDp.out ?_
            rintro e wd ⟨rfl, hbd⟩
            have HBd := Lib.hid (HBx.out.trans (hbd.mono HBx.out.size))
            have HYd0 := Lib.hid (heap_below hbd HYx0.out (by omega))
            have HYd1 := Lib.hid (heap_below hbd HYx1.out (by omega))
            have HNd := Lib.hid (heap_below hbd HNx.out hlx)
            have HOd := Lib.hid (HOx.out.below (fun b hb => hb.2) hbd)
            have HLd := Lib.hid (HLx.out.below hbd)
            have HAd := Lib.hid (HAx.out.below hbd)
            have hld : bB < wd.heap.size := (Array.getElem?_eq_some_iff.1 HNd.out).1
            have hlcd : wc.heap.size ≤ wd.heap.size := hbd.size
            clear hbd n0 n1 n2 n3 n4 c1
            cases x with
            | some q =>
              dsimp only [Option.getD_some, Option.isSome_some]
              obtain ⟨k1, k2, k3, k4, k5⟩ := prog_stored (v0 := (.int .u8 0)) (v1 := (.string ⟨#[]⟩)) (v2 := (.int .i64 0)) (v3 := (.int .i64 0)) (v4 := (.slice none 0 0)) (a0 := (.int .i64 203)) (a1 := (.int .i64 q)) HBd.out HYd0.out HYd1.out
              have K1 := Lib.hid k1
              have K2 := Lib.hid k2
              have K3 := Lib.hid k3
              have K4 := Lib.hid k4
              have K5 := Lib.hid k5
              clear k1 k2 k3 k4 k5
              have z0 := frozen5 HYd0.out 0
              have z1 := frozen5 HYd0.out 1
              have z2 := frozen5 HYd0.out 2
              have z3 := frozen5 HYd0.out 3
              have z4 := frozen5 HYd0.out 4
              obtain ⟨a0, a1, a2, a3, a4⟩ := cells5 HYd0.out
              obtain ⟨b0, b1, y0, y1⟩ := cells2 HYd1.out
              go_wp2_with fail
              change bodyPost _ _ _ _ _ (((set5 wd w.heap.size (.int .u8 0) (.string ⟨#[]⟩) (.int .i64 0) (.int .i64 0) (.slice none 0 0)).setCell ⟨w.heap.size + 1, 0, none⟩ (.int .i64 203)).setCell ⟨w.heap.size + 1, 1, none⟩ (.int .i64 q))
              generalize ((set5 wd w.heap.size (.int .u8 0) (.string ⟨#[]⟩) (.int .i64 0) (.int .i64 0) (.slice none 0 0)).setCell ⟨w.heap.size + 1, 0, none⟩ (.int .i64 203)).setCell ⟨w.heap.size + 1, 1, none⟩ (.int .i64 q) = WZ at *
              exact prog_ret rfl rfl rfl K2.out K3.out (prog_fail HMo.out K1.out)
            | none =>
              dsimp only [Option.getD_none, Option.isSome_none]
              have hks : ∀ t ∈ ks, dpM 29 t = none := by
                have h := HX.out
                rw [HPT.out] at h
                have h2 : ks.findSome? (dpM 29) = none := h
                rw [List.findSome?_eq_none_iff] at h2
                exact h2
              have hO29 := (own_depth HOd.out hks).more
              have HO30 := Lib.hid hO29
              have HL30 := Lib.hid ((HLd.out.depth (n := 28) hks).more)
              have hNode : NodeAt wd wd.heap.size 30 T0 (.agg #[.int .u8 1, .string ⟨#[]⟩, .int .i64 0, .int .i64 0, .slice p ks.length c]) := by
                rw [HPT.out]
                exact ⟨fits_prog ks, _, rfl, hO29.kids fun b hb => Nat.lt_of_lt_of_le hb.2 hlcd⟩
              have HRt := Lib.hid (nodeRight_any 30 T0 _ wd.heap.size wd hNode (Nat.le_refl _) (HSlT.out 30).slim HAd.out)
              obtain ⟨n0, n1, n2, n3, n4⟩ := cells5 HNd.out
              clear hks hO29 hNode
              obtain ⟨rt, hrt⟩ : ∃ x, rightF 30 T0 = x := ⟨_, rfl⟩
              rw [hrt] at HRt HMo
              clear hrt
              go_wp2_with fail
              refine Calls.mono HRt.out ?_
              rintro e we ⟨rfl, hbe⟩
              have HBe := Lib.hid (HBd.out.trans (hbe.mono HBd.out.size))
              have HYe0 := Lib.hid (heap_below hbe HYd0.out (by omega))
              have HYe1 := Lib.hid (heap_below hbe HYd1.out (by omega))
              have HNe := Lib.hid (heap_below hbe HNd.out hld)
              have hlde : wd.heap.size ≤ we.heap.size := hbe.size
              have HOe := Lib.hid (HO30.out.below (fun b hb => Nat.lt_of_lt_of_le hb.2 hlcd) hbe)
              have HLe := Lib.hid (HL30.out.below hbe)
              clear hbe n0 n1 n2 n3 n4
              cases rt with
              | false =>
                obtain ⟨k1, k2, k3, k4, k5⟩ := prog_stored (v0 := (.int .u8 0)) (v1 := (.string ⟨#[]⟩)) (v2 := (.int .i64 0)) (v3 := (.int .i64 0)) (v4 := (.slice none 0 0)) (a0 := (.int .i64 204)) (a1 := (.int .i64 0)) HBe.out HYe0.out HYe1.out
                have K1 := Lib.hid k1
                have K2 := Lib.hid k2
                have K3 := Lib.hid k3
                have K4 := Lib.hid k4
                have K5 := Lib.hid k5
                clear k1 k2 k3 k4 k5
                have z0 := frozen5 HYe0.out 0
                have z1 := frozen5 HYe0.out 1
                have z2 := frozen5 HYe0.out 2
                have z3 := frozen5 HYe0.out 3
                have z4 := frozen5 HYe0.out 4
                obtain ⟨a0, a1, a2, a3, a4⟩ := cells5 HYe0.out
                obtain ⟨b0, b1, y0, y1⟩ := cells2 HYe1.out
                go_wp2_with fail
                change bodyPost _ _ _ _ _ (((set5 we w.heap.size (.int .u8 0) (.string ⟨#[]⟩) (.int .i64 0) (.int .i64 0) (.slice none 0 0)).setCell ⟨w.heap.size + 1, 0, none⟩ (.int .i64 204)).setCell ⟨w.heap.size + 1, 1, none⟩ (.int .i64 0))
                generalize ((set5 we w.heap.size (.int .u8 0) (.string ⟨#[]⟩) (.int .i64 0) (.int .i64 0) (.slice none 0 0)).setCell ⟨w.heap.size + 1, 0, none⟩ (.int .i64 204)).setCell ⟨w.heap.size + 1, 1, none⟩ (.int .i64 0) = WZ at *
                exact prog_ret rfl rfl rfl K2.out K3.out (prog_fail HMo.out K1.out)
              | true =>
                obtain ⟨n0, n1, n2, n3, n4⟩ := cells5 HNe.out
                obtain ⟨k1, k2, k3, k4, k5⟩ := prog_stored (v0 := (.int .u8 1)) (v1 := (.string ⟨#[]⟩)) (v2 := (.int .i64 0)) (v3 := (.int .i64 0)) (v4 := (.slice p ks.length c)) (a0 := (.int .i64 0)) (a1 := (.int .i64 0)) HBe.out HYe0.out HYe1.out
                have K1 := Lib.hid k1
                have K2 := Lib.hid k2
                have K3 := Lib.hid k3
                have K4 := Lib.hid k4
                have K5 := Lib.hid k5
                clear k1 k2 k3 k4 k5
                have z0 := frozen5 HYe0.out 0
                have z1 := frozen5 HYe0.out 1
                have z2 := frozen5 HYe0.out 2
                have z3 := frozen5 HYe0.out 3
                have z4 := frozen5 HYe0.out 4
                obtain ⟨a0, a1, a2, a3, a4⟩ := cells5 HYe0.out
                obtain ⟨b0, b1, y0, y1⟩ := cells2 HYe1.out
                go_wp2_with fail
                change bodyPost _ _ _ _ _ (((set5 we w.heap.size (.int .u8 1) (.string ⟨#[]⟩) (.int .i64 0) (.int .i64 0) (.slice p ks.length c)).setCell ⟨w.heap.size + 1, 0, none⟩ (.int .i64 0)).setCell ⟨w.heap.size + 1, 1, none⟩ (.int .i64 0))
                generalize ((set5 we w.heap.size (.int .u8 1) (.string ⟨#[]⟩) (.int .i64 0) (.int .i64 0) (.slice p ks.length c)).setCell ⟨w.heap.size + 1, 0, none⟩ (.int .i64 0)).setCell ⟨w.heap.size + 1, 1, none⟩ (.int .i64 0) = WZ at *
                exact prog_ret rfl rfl rfl K2.out K3.out (prog_fine HMo.out HPT.out HSlT.out K1.out ((HLe.out.keep (by rw [K5.out]; exact Nat.le_refl _) (fun b hb _ => K4.out b (by omega))).low (by omega)) (HOe.out.keep fun b o hb ho => (K4.out b (by have := hb.1; omega)).trans ho) (fun b hb => ⟨by have := hb.1; omega, by rw [K5.out]; have := hb.2; omega⟩))
end Go.Proofs.YtgifapamogbkeaaDoor
/- The statements' only and fault; by contract. Condition: the library's table of blanks lies as laid. -/
namespace Go.Proofs.YtgifapamogbkeaaDoor
open Go.RowKit

/-- of a node with one kid, so many times: that kid -/
def onlyM : Nat → Tree → Option Tree
  | 0, T => some T
  | n + 1, T => match T.kids with | [k] => onlyM n k | _ => none
def OnlyPost (x : Option Tree) (d B : Nat) (w : World) (e : Ending) (w' : World) : Prop :=
  Below w.heap.size w w' ∧ ((x = none ∧ e = .returned (.tuple #[.agg zeroN, .bool false])) ∨
    ∃ T' s', x = some T' ∧ e = .returned (.tuple #[.agg #[.int .u8 T'.kind, .string T'.text, .int .i64 T'.num, .int .i64 T'.place, s'], .bool true]) ∧ Fits T' ∧ KidsAt w' B d T'.kids s')
def OnlyRel (w : World) (B d : Nat) (x : Option Tree) (i : Value) (W : World) : Prop :=
  ∃ (k : Nat) (T : Tree) (s : Value), k ≤ 3 ∧ i = .int .i64 k ∧ onlyM (3 - k) T = x ∧ Fits T ∧ KidsAt W B (d + (3 - k)) T.kids s ∧ Below w.heap.size w W ∧ W.heap[w.heap.size]? = some (.cells #[.int .u8 T.kind, .string T.text, .int .i64 T.num, .int .i64 T.place, s] 26 (0, 0)) ∧ W.heap[w.heap.size + 1]? = some (.cells zeroN 26 (0, 0))
theorem ret_two {W : World} {fn : Func} {R : Ending → World → Prop} {a : Act} {slot sb T : Nat} {v0 v1 v2 v3 v4 b : Value} (hr : fn.results = #[.cell slot 26, .tmp sb]) (hs : a.tmps.getD slot undef = .pointer (some ⟨T, 0, none⟩)) (hb : a.tmps.getD sb undef = b)
    (hT : W.heap[T]? = some (.cells #[v0, v1, v2, v3, v4] 26 (0, 0))) (hd : a.defers = []) (hR : R (.returned (.tuple #[.agg #[v0, v1, v2, v3, v4], b])) W) : bodyPost Tryd.prog fn R .ret a W := by
  obtain ⟨c0, c1, c2, c3, c4⟩ := cells5 hT
  have hs' : a.tmps[slot]?.getD undef = .pointer (some ⟨T, 0, none⟩) := by simpa using hs
  have hb' : a.tmps[sb]?.getD undef = b := by simpa using hb
  refine bodyPost_ret (v := .tuple #[.agg #[v0, v1, v2, v3, v4], b]) ?_ hd hR
  simp [results, hr, go_sem, hs', hb', c0, c1, c2, c3, c4]
set_option maxRecDepth 100000 in
set_option maxHeartbeats 2000000 in
theorem only_any (d : Nat) (T : Tree) (s : Value) (B : Nat) (w : World) (hf : Fits T) (hk : KidsAt w B (d + 3) T.kids s) (hB : B ≤ w.heap.size) :
    Calls Tryd.prog 8 #[.agg #[.int .u8 T.kind, .string T.text, .int .i64 T.num, .int .i64 T.place, s]] w (OnlyPost (onlyM 3 T) d B w) := by
  obtain ⟨wA, hwA⟩ : ∃ wA, wA = (w.alloc (.cells #[.int .u8 T.kind, .string T.text, .int .i64 T.num, .int .i64 T.place, s] 26)).alloc (.cells zeroN 26) := ⟨_, rfl⟩
  have hbA : Below w.heap.size w wA := by rw [hwA]; exact below_two w _ _
  obtain ⟨X0, X1, _⟩ := two_new' w (.cells #[.int .u8 T.kind, .string T.text, .int .i64 T.num, .int .i64 T.place, s] 26) (.cells zeroN 26)
  rw [← hwA] at X0 X1
  have HRel : Hid (OnlyRel w B d (onlyM 3 T) (.int .i64 (0 : Nat)) wA) := ⟨0, T, s, by omega, rfl, rfl, hf, hk.below (hbA.mono hB), hbA, X0, X1⟩
  have HBw : Hid (B ≤ w.heap.size) := hB
  obtain ⟨p, l, c, rfl⟩ := hk.shape
  clear X0 X1 hbA hk hf hB
  generalize onlyM 3 T = x at *
  go_enter Tryd.func8, Tryd.ntmps8
  go_upto_region 1 with fail
  change Code.wp _ _ _ _ ((w.alloc (.cells #[.int .u8 T.kind, .string T.text, .int .i64 T.num, .int .i64 T.place, .slice p l c] 26)).alloc (.cells zeroN 26))
  rw [← hwA]
  clear hwA
  go_wp2_with fail
  go_loopw [4] (fun i wr => OnlyRel w B d x i wr) (fun i _ => 3 - (intOf i).toNat)
  case atStart => exact HRel.out
  case round =>
    clear HRel
    obtain ⟨k, T1, s1, hk3, rfl, hx, hf, hkids, hb, x0, x1⟩ := hrel
    obtain ⟨p1, c1, rfl, _, hrow⟩ := hkids.rows
    obtain ⟨l1, hl1⟩ : ∃ l, T1.kids.length = l := ⟨_, rfl⟩
    rw [hl1] at x0 hkids
    have HX := Lib.hid hx
    have HF := Lib.hid hf
    have HK := Lib.hid hkids
    have HL := Lib.hid hl1
    have HRow := Lib.hid hrow
    have HBr := Lib.hid hb
    have HX0 := Lib.hid x0
    have HX1 := Lib.hid x1
    have hsz : w.heap.size + 1 < wr.heap.size := (Array.getElem?_eq_some_iff.1 x1).1
    obtain ⟨a0, a1, a2, a3, a4⟩ := cells5 x0
    clear hx hf hkids hb x0 x1 hl1 hrow
    by_cases hk : k < 3
    · have hk1 : (k : Int) < 3 := by omega
      by_cases h1 : l1 = 1
      · subst h1
        obtain ⟨t, ht⟩ : ∃ t, T1.kids = [t] := by
          have := HL.out
          match hq : T1.kids, this with
          | [t], _ => exact ⟨t, rfl⟩
        obtain ⟨hd, b, off, rfl, hbB, hkid⟩ := HRow.out 0 t (by rw [ht]; rfl)
        obtain ⟨p', l', c', d0, d1, d2, d3, d4, hnode⟩ := hkid.node (Below.refl _ _) hbB
        rw [show off + 0 * 5 = off by omega] at d0 d1 d2 d3 d4
        have hxt : onlyM (3 - (k + 1)) t = x := by
          rw [← HX.out]
          obtain ⟨j, hj⟩ : ∃ j, 3 - k = j + 1 := ⟨2 - k, by omega⟩
          rw [show 3 - (k + 1) = j by omega, hj]
          show onlyM j t = (match T1.kids with | [k] => onlyM j k | _ => none)
          rw [ht]
        have hbw : b ≠ w.heap.size := by have := HBw.out; omega
        have z0 := frozen5 HX0.out 0
        have z1 := frozen5 HX0.out 1
        have z2 := frozen5 HX0.out 2
        have z3 := frozen5 HX0.out 3
        have z4 := frozen5 HX0.out 4
        obtain ⟨Wn, hWn⟩ : ∃ Wn, Wn = set5 wr w.heap.size (.int .u8 t.kind) (.string t.text) (.int .i64 t.num) (.int .i64 t.place) (.slice p' l' c') := ⟨_, rfl⟩
        have hbn : Below w.heap.size wr Wn := by
          rw [hWn]; unfold set5
          exact (((((Below.refl w.heap.size wr).setCell (p := ⟨w.heap.size, 0, none⟩) (Nat.le_refl _) _).setCell (p := ⟨w.heap.size, 1, none⟩) (Nat.le_refl _) _).setCell (p := ⟨w.heap.size, 2, none⟩) (Nat.le_refl _) _).setCell (p := ⟨w.heap.size, 3, none⟩) (Nat.le_refl _) _).setCell (p := ⟨w.heap.size, 4, none⟩) (Nat.le_refl _) _
        obtain ⟨hft, s9, hs9, hk9⟩ := hnode
        have hsl : s9 = .slice p' l' c' := by injection hs9 with h; injection h with h; simp at h; exact h.symm
        subst hsl
        have hRel : OnlyRel w B d x (.int .i64 ((k : Int) + 1)) Wn := by
          refine ⟨k + 1, t, .slice p' l' c', by omega, by go_num, hxt, hft, ?_, ?_, ?_, ?_⟩
          · have hk8 := hk9.below (hbn.mono HBw.out)
            rw [show d + (3 - (k + 1)) = d + (3 - k) - 1 by omega]
            exact hk8
          · exact ⟨hbn.os.trans HBr.out.os, hbn.tape.trans HBr.out.tape, hbn.output.trans HBr.out.output, Nat.le_trans HBr.out.size hbn.size, fun i hi => (hbn.block i hi).trans (HBr.out.block i hi)⟩
          · rw [hWn]; exact heap_set5 HX0.out _ _ _ _ _
          · rw [hWn]; exact (set5_other (show w.heap.size + 1 ≠ w.heap.size by omega) _ _ _ _ _).trans HX1.out
        have HRel := Lib.hid hRel
        have HWn := Lib.hid hWn
        clear hRel hWn hbn hft hs9 hk9 hxt hkid hd ht
        go_wp2_with fail
        rw [show ((((((wr.setCell ⟨w.heap.size, 0, none⟩ (.int .u8 t.kind)).setCell ⟨w.heap.size, 1, none⟩ (.string t.text)).setCell ⟨w.heap.size, 2, none⟩ (.int .i64 t.num)).setCell ⟨w.heap.size, 3, none⟩ (.int .i64 t.place)).setCell ⟨w.heap.size, 4, none⟩ (.slice p' l' c'))) = Wn from HWn.out.symm]
        exact ⟨HRel.out, by simp [intOf]; omega⟩
      · have h1' : ((l1 : Int) != 1) = true := by simp; omega
        have hxn : x = none := by
          rw [← HX.out]
          obtain ⟨j, hj⟩ : ∃ j, 3 - k = j + 1 := ⟨2 - k, by omega⟩
          rw [hj]
          have hl := HL.out
          show (match T1.kids with | [k] => onlyM j k | _ => none) = none
          split
          · rename_i q hq; rw [hq] at hl; simp at hl; omega
          · rfl
        have HXn := Lib.hid hxn
        clear hxn
        have z0 := frozen5 HX1.out 0
        have z1 := frozen5 HX1.out 1
        have z2 := frozen5 HX1.out 2
        have z3 := frozen5 HX1.out 3
        have z4 := frozen5 HX1.out 4
        obtain ⟨b0, b1, b2, b3, b4⟩ := cells5 HX1.out
        have hbz : Below w.heap.size w (set5 wr (w.heap.size + 1) (.int .u8 0) (.string ⟨#[]⟩) (.int .i64 0) (.int .i64 0) (.slice none 0 0)) := by
          unfold set5
          exact ((((HBr.out.setCell (p := ⟨w.heap.size + 1, 0, none⟩) (Nat.le_succ _) _).setCell (p := ⟨w.heap.size + 1, 1, none⟩) (Nat.le_succ _) _).setCell (p := ⟨w.heap.size + 1, 2, none⟩) (Nat.le_succ _) _).setCell (p := ⟨w.heap.size + 1, 3, none⟩) (Nat.le_succ _) _).setCell (p := ⟨w.heap.size + 1, 4, none⟩) (Nat.le_succ _) _
        have HBz := Lib.hid hbz
        clear hbz
        go_wp2_with fail
        refine ret_two Tryd.results8 rfl rfl (heap_set5 HX1.out _ _ _ _ _) rfl ⟨HBz.out, Or.inl ⟨HXn.out, rfl⟩⟩
    · have hk1 : decide ((k : Int) < 3) = false := by simp; omega
      obtain rfl : k = 3 := by omega
      have z0 := frozen5 HX1.out 0
      have z1 := frozen5 HX1.out 1
      have z2 := frozen5 HX1.out 2
      have z3 := frozen5 HX1.out 3
      have z4 := frozen5 HX1.out 4
      obtain ⟨b0, b1, b2, b3, b4⟩ := cells5 HX1.out
      have hbz : ∀ v0 v1 v2 v3 v4, Below w.heap.size w (set5 wr (w.heap.size + 1) v0 v1 v2 v3 v4) ∧ Below w.heap.size wr (set5 wr (w.heap.size + 1) v0 v1 v2 v3 v4) := fun v0 v1 v2 v3 v4 => by
        have h1 : Below w.heap.size wr (set5 wr (w.heap.size + 1) v0 v1 v2 v3 v4) := by
          unfold set5
          exact (((((Below.refl w.heap.size wr).setCell (p := ⟨w.heap.size + 1, 0, none⟩) (Nat.le_succ _) _).setCell (p := ⟨w.heap.size + 1, 1, none⟩) (Nat.le_succ _) _).setCell (p := ⟨w.heap.size + 1, 2, none⟩) (Nat.le_succ _) _).setCell (p := ⟨w.heap.size + 1, 3, none⟩) (Nat.le_succ _) _).setCell (p := ⟨w.heap.size + 1, 4, none⟩) (Nat.le_succ _) _
        exact ⟨⟨h1.os.trans HBr.out.os, h1.tape.trans HBr.out.tape, h1.output.trans HBr.out.output, Nat.le_trans HBr.out.size h1.size, fun i hi => (h1.block i hi).trans (HBr.out.block i hi)⟩, h1⟩
      have HBz := Lib.hid hbz
      have HXt : Hid (some T1 = x) := HX.out
      clear hbz hk
      go_wp2_with fail
      refine ret_two Tryd.results8 rfl rfl (heap_set5 HX1.out _ _ _ _ _) rfl ⟨(HBz.out _ _ _ _ _).1, Or.inr ⟨T1, _, HXt.out.symm, rfl, HF.out, ?_⟩⟩
      exact HK.out.below ((HBz.out _ _ _ _ _).2.mono HBw.out)
end Go.Proofs.YtgifapamogbkeaaDoor
/- The statements of chapter 06 are awake; by contract. Condition: the library's table of blanks lies as laid. -/
namespace Go.Proofs.YtgifapamogbkeaaDoor
open Go.RowKit

theorem zero_node (w : World) (B d : Nat) : NodeAt w B d zeroT (.agg #[.int .u8 0, .string ⟨#[]⟩, .int .i64 0, .int .i64 0, .slice none 0 0]) := by
  refine ⟨fits_zero, .slice none 0 0, rfl, ?_⟩
  cases d with
  | zero => exact ⟨rfl, none, 0, rfl⟩
  | succ d => exact Or.inl ⟨rfl, none, 0, rfl⟩
theorem zero_slice {w : World} {d : Nat} {sl : Value} {F : Nat → Prop} (h : OwnAt w d zeroT.kids sl F) : ∃ p c, sl = .slice p 0 c ∧ ∀ (W : World) (B d' : Nat), NodeAt W B d' zeroT (.agg #[.int .u8 0, .string ⟨#[]⟩, .int .i64 0, .int .i64 0, sl]) := by
  obtain ⟨p, c, rfl⟩ := h.shape
  refine ⟨p, c, rfl, fun W B d' => ⟨fits_zero, .slice p 0 c, rfl, ?_⟩⟩
  cases d' with
  | zero => exact ⟨rfl, p, c, rfl⟩
  | succ d => exact Or.inl ⟨rfl, p, c, rfl⟩
set_option maxRecDepth 100000 in
set_option maxHeartbeats 2000000 in
theorem fault_any (s : ByteArray) (er pl : Int) (hm : progM s = (zeroT, er, pl)) (w : World) (ht : AsciiTab w) : Calls Tryd.prog 10 #[.string s, .int .i64 er, .int .i64 pl] w (BoolPost true w) := by
  have HP := Lib.hid (program_any s w ht)
  rw [hm] at HP
  clear hm ht
  go_enter Tryd.func10, Tryd.ntmps10
  go_wp2_with fail
  refine Calls.mono HP.out ?_
  rintro e w1 ⟨sl, rfl, hb1, ho, _, _⟩
  obtain ⟨p, c, rfl, hz⟩ := zero_slice ho
  have HZ := Lib.hid hz
  have HB1 := Lib.hid hb1
  have hsz1 := hb1.size
  clear ho hz hb1
  go_wp2_with fail
  obtain ⟨wz, hwz⟩ : ∃ wz, wz = ((w1.alloc (.cells #[.int .u8 zeroT.kind, .string zeroT.text, .int .i64 zeroT.num, .int .i64 zeroT.place, .slice p 0 c] 26)).alloc (.cells #[.int .i64 er, .int .i64 pl] 29)) := ⟨_, rfl⟩
  have hbz : Below w.heap.size w wz := by rw [hwz]; exact (HB1.out.alloc HB1.out.size _).alloc (by rw [World.size_alloc]; omega) _
  have HBz := Lib.hid hbz
  rw [← hwz]
  refine (sameNode_of 30 (sameNodes_holds 30) zeroT _ _ wz.heap.size wz.heap.size wz (HZ.out wz wz.heap.size 30) (zero_node wz wz.heap.size 30) (Nat.le_refl _) (Nat.le_refl _)).mono ?_
  rintro e w2 ⟨rfl, hb2⟩
  have HB2 := Lib.hid (HBz.out.trans (hb2.mono HBz.out.size))
  clear hwz hbz hb2
  go_wp2_with fail
  go_ret
  exact ⟨rfl, HB2.out⟩
/-- a kid of a list, in memory -/
theorem kid_cells {w : World} {B d : Nat} {ks : List Tree} {s : Value} (h : KidsAt w B d ks s) {i : Nat} {t : Tree} (hi : ks[i]? = some t) : ∃ b off c, s = .slice (some ⟨b, off, none⟩) ks.length c ∧ b < B ∧ w.cell? ⟨b, off + i * 5, none⟩ = some (.int .u8 t.kind) ∧ w.cell? ⟨b, off + i * 5 + 1, none⟩ = some (.string t.text) ∧
    w.cell? ⟨b, off + i * 5 + 2, none⟩ = some (.int .i64 t.num) ∧ w.cell? ⟨b, off + i * 5 + 3, none⟩ = some (.int .i64 t.place) := by
  obtain ⟨p, c, rfl, _, hrow⟩ := h.rows
  obtain ⟨_, b, off, rfl, hb, hf, s, c0, c1, c2, c3, _⟩ := hrow i t hi
  exact ⟨b, off, c, rfl, hb, c0, c1, c2, c3⟩
def src1 : ByteArray := ⟨#[114, 117, 108, 101, 32, 114, 32, 123, 32, 61, 62, 32, 115, 97, 121, 32, 49, 32, 43, 32, 50, 32, 42, 32, 63, 120, 59, 32, 125]⟩
def tr1 : Tree := .mk 1 ⟨#[]⟩ 0 0 [.mk 4 ⟨#[114]⟩ 0 0 [.mk 10 ⟨#[]⟩ 0 12 [.mk 16 ⟨#[43]⟩ 0 16 [.mk 14 ⟨#[49]⟩ 0 16 [], .mk 16 ⟨#[42]⟩ 0 20 [.mk 14 ⟨#[50]⟩ 0 20 [], .mk 13 ⟨#[120]⟩ 0 24 []]]]]]
theorem src1_is : progM src1 = (tr1, 0, 0) := by kernel_rfl
def src2 : ByteArray := ⟨#[114, 117, 108, 101, 32, 114, 32, 115, 97, 108, 105, 101, 110, 99, 101, 32, 45, 51, 32, 123, 32, 104, 105, 118, 101, 40, 45, 53, 41, 59, 32, 61, 62, 32, 125]⟩
def tr2 : Tree := .mk 1 ⟨#[]⟩ 0 0 [.mk 4 ⟨#[114]⟩ (-3) 0 [.mk 5 ⟨#[104, 105, 118, 101]⟩ 0 21 [.mk 14 ⟨#[45, 53]⟩ 0 26 []]]]
theorem src2_is : progM src2 = (tr2, 0, 0) := by kernel_rfl
def src3 : ByteArray := ⟨#[102, 97, 99, 116, 32, 97, 40, 98, 32, 99, 41, 59]⟩
theorem src3_is : progM src3 = (zeroT, 202, 9) := by kernel_rfl
def src4 : ByteArray := ⟨#[114, 117, 108, 101, 32, 114, 32, 123, 32, 104, 97, 108, 116, 59, 32, 125]⟩
theorem src4_is : progM src4 = (zeroT, 202, 9) := by kernel_rfl
def src5 : ByteArray := ⟨#[114, 117, 108, 101, 32, 114, 32, 123, 32, 61, 62, 32, 114, 101, 116, 114, 97, 99, 116, 32, 50, 49, 52, 55, 52, 56, 51, 54, 52, 56, 59, 32, 125]⟩
theorem src5_is : progM src5 = (zeroT, 202, 20) := by kernel_rfl
def src6 : ByteArray := ⟨#[114, 117, 108, 101, 32, 114, 32, 123, 32, 61, 62, 32, 115, 97, 121, 32, 49, 32, 61, 32, 50, 32, 61, 32, 51, 59, 32, 125]⟩
theorem src6_is : progM src6 = (zeroT, 202, 22) := by kernel_rfl
set_option maxRecDepth 100000 in
set_option maxHeartbeats 4000000 in
theorem awake6_any (w : World) (ht : AsciiTab w) : Calls Tryd.prog 4 #[] w (BoolPost true w) := by
  have HT := Lib.hid (fun W (hW : Below w.heap.size w W) => ht.below hW)
  have HP1 := Lib.hid (program_any src1 w ht)
  rw [src1_is] at HP1
  obtain ⟨T, hT⟩ : ∃ T, tr1 = T := ⟨_, rfl⟩
  obtain ⟨S, hS⟩ : ∃ S, Tree.mk 16 ⟨#[43]⟩ 0 16 [.mk 14 ⟨#[49]⟩ 0 16 [], .mk 16 ⟨#[42]⟩ 0 20 [.mk 14 ⟨#[50]⟩ 0 20 [], .mk 13 ⟨#[120]⟩ 0 24 []]] = S := ⟨_, rfl⟩
  have HO1 : Hid (onlyM 3 T = some S) := by show _ = _; rw [← hT, ← hS]; rfl
  have HSt : Hid (S.text = ⟨#[43]⟩ ∧ S.place = 16 ∧ S.kids.length = 2) := by show _ ∧ _; rw [← hS]; exact ⟨rfl, rfl, rfl⟩
  have HSk : Hid (∃ M, S.kids[1]? = some M ∧ M.text = ⟨#[42]⟩) := by show ∃ M, _; rw [← hS]; exact ⟨_, rfl, rfl⟩
  have HTk : Hid (T.kids.length = 1 ∧ ∃ M, T.kids[0]? = some M ∧ M.text = ⟨#[114]⟩) := by show _ ∧ _; rw [← hT]; exact ⟨rfl, _, rfl, rfl⟩
  rw [hT] at HP1
  unfold src1 at HP1
  clear hT hS ht
  go_enter Tryd.func4, Tryd.ntmps4
  go_wp2_with fail
  refine Calls.mono HP1.out ?_
  rintro e w1 ⟨sl, rfl, hb1, ho, hf, _⟩
  have hK := ho.kids (B := w1.heap.size) fun b hb => hb.2
  obtain ⟨hl, M, hM, hMt⟩ := HTk.out
  obtain ⟨b, off, c, rfl, hbB, d0, d1, d2, d3⟩ := kid_cells hK hM
  rw [hl] at hK
  rw [hMt] at d1
  simp only [hl]
  obtain ⟨wA, hwA⟩ : ∃ wA, wA = ((w1.alloc (.cells #[.int .u8 T.kind, .string T.text, .int .i64 T.num, .int .i64 T.place, .slice (some ⟨b, off, none⟩) 1 c] 26)).alloc (.cells #[.int .i64 0, .int .i64 0] 29)) := ⟨_, rfl⟩
  have hbA : Below w1.heap.size w1 wA := by rw [hwA]; exact below_two w1 _ _
  obtain ⟨X0, X1, _⟩ := two_new' w1 (.cells #[.int .u8 T.kind, .string T.text, .int .i64 T.num, .int .i64 T.place, .slice (some ⟨b, off, none⟩) 1 c] 26) (.cells #[.int .i64 0, .int .i64 0] 29)
  rw [← hwA] at X0 X1
  have hszA : w1.heap.size + 1 < wA.heap.size := (Array.getElem?_eq_some_iff.1 X1).1
  have HBA := Lib.hid (hb1.trans (hbA.mono hb1.size))
  have HOn := Lib.hid (only_any 27 T (.slice (some ⟨b, off, none⟩) 1 c) w1.heap.size wA hf (hK.below hbA) hbA.size)
  rw [HO1.out] at HOn
  have HKid := Lib.hid ((hbA.cell (p := ⟨b, off + 0 * 5 + 1, none⟩) hbB).trans d1)
  have HX0 := Lib.hid X0
  have HX1 := Lib.hid X1
  have HBl := Lib.hid hbB
  clear hb1 ho hf hK hl hM hMt d0 d1 d2 d3 hbA
  go_upto_region 2 with fail
  change Code.wp _ _ _ _ ((w1.alloc (.cells #[.int .u8 T.kind, .string T.text, .int .i64 T.num, .int .i64 T.place, .slice (some ⟨b, off, none⟩) 1 c] 26)).alloc (.cells #[.int .i64 0, .int .i64 0] 29))
  rw [← hwA]
  clear hwA
  obtain ⟨a0, a1, a2, a3, a4⟩ := cells5 X0
  clear X0 X1
  go_wp2_with fail
  refine Calls.mono HOn.out ?_
  rintro e w2 ⟨hb2, ⟨hx, _⟩ | ⟨S', s', hx, rfl, hfS, hKS⟩⟩
  · cases hx
  injection hx with hx
  subst hx
  obtain ⟨M2, hM2, hM2t⟩ := HSk.out
  obtain ⟨bS, offS, cS, rfl, hbS, q0, q1, q2, q3⟩ := kid_cells hKS hM2
  obtain ⟨hS1, hS2, hS3⟩ := HSt.out
  rw [hM2t] at q1
  simp only [hS1, hS2, hS3]
  have hb12 := HBA.out.trans (hb2.mono HBA.out.size)
  obtain ⟨w3, hw3⟩ : ∃ w3, w3 = w2.alloc (.cells #[.int .u8 S.kind, .string ⟨#[43]⟩, .int .i64 S.num, .int .i64 16, .slice (some ⟨bS, offS, none⟩) 2 cS] 26) := ⟨_, rfl⟩
  have hb3 : Below w2.heap.size w2 w3 := by rw [hw3]; exact (Below.refl _ w2).alloc (Nat.le_refl _) _
  have Y3 : w3.heap[w2.heap.size]? = some (.cells #[.int .u8 S.kind, .string ⟨#[43]⟩, .int .i64 S.num, .int .i64 16, .slice (some ⟨bS, offS, none⟩) 2 cS] 26 (0, 0)) := by rw [hw3]; exact heap_alloc_new w2 _
  have hb23 := hb2.trans (hb3.mono hb2.size)
  have hszB : wA.heap.size ≤ w2.heap.size := hb2.size
  have hszC : w2.heap.size < w3.heap.size := (Array.getElem?_eq_some_iff.1 Y3).1
  have HB3 := Lib.hid (hb12.trans (hb3.mono hb12.size))
  have HZ0 := Lib.hid (heap_below hb23 HX0.out (by omega))
  have HZ1 := Lib.hid (heap_below hb23 HX1.out (by omega))
  have HZk := Lib.hid ((hb23.cell (p := ⟨b, off + 0 * 5 + 1, none⟩) (by have := HBl.out; show b < _; omega)).trans HKid.out)
  have HMk := Lib.hid ((hb3.cell (p := ⟨bS, offS + 1 * 5 + 1, none⟩) (by show bS < _; omega)).trans q1)
  have HbS : Hid (bS < w1.heap.size) := hbS
  have HY3 := Lib.hid Y3
  have hP2 := program_any src2 w3 (HT.out w3 HB3.out)
  rw [src2_is] at hP2
  unfold src2 at hP2
  obtain ⟨T2, hT2⟩ : ∃ T, tr2 = T := ⟨_, rfl⟩
  obtain ⟨S2, hSS⟩ : ∃ S, Tree.mk 14 ⟨#[45, 53]⟩ 0 26 [] = S := ⟨_, rfl⟩
  have HO2 : Hid (onlyM 3 T2 = some S2) := by show _ = _; rw [← hT2, ← hSS]; rfl
  have HSt2 : Hid (S2.text = ⟨#[45, 53]⟩) := by show _ = _; rw [← hSS]; rfl
  have HTk2 : Hid (T2.kids.length = 1 ∧ ∃ M, T2.kids[0]? = some M ∧ M.num = -3) := by show _ ∧ _; rw [← hT2]; exact ⟨rfl, _, rfl, rfl⟩
  rw [hT2] at hP2
  have HP2 := Lib.hid hP2
  clear hT2 hSS hP2 a0 a1 a2 a3 a4 hb2 hb3 hb12 hb23 hfS hKS hM2 hM2t hbS q0 q1 q2 q3 hS1 hS2 hS3 HX0 HX1 HKid
  go_upto_region 3 with fail
  change Code.wp _ _ _ _ (w2.alloc (.cells #[.int .u8 S.kind, .string ⟨#[43]⟩, .int .i64 S.num, .int .i64 16, .slice (some ⟨bS, offS, none⟩) 2 cS] 26))
  rw [← hw3]
  clear hw3
  obtain ⟨a0, a1, a2, a3, a4⟩ := cells5 HZ0.out
  obtain ⟨b0, b1, _, _⟩ := cells2 HZ1.out
  obtain ⟨c0, c1, c2, c3, c4⟩ := cells5 Y3
  have zk := HZk.out
  rw [show off + 0 * 5 + 1 = off + 1 by omega] at zk
  clear Y3
  go_wp2_with fail
  refine Calls.mono HP2.out ?_
  rintro e w4 ⟨sl, rfl, hb4, ho, hf, _⟩
  have hK := ho.kids (B := w4.heap.size) fun b hb => hb.2
  obtain ⟨hl, M, hM, hMt⟩ := HTk2.out
  obtain ⟨g, og, cg, rfl, hgB, d0, d1, d2, d3⟩ := kid_cells hK hM
  rw [hl] at hK
  rw [hMt] at d2
  simp only [hl]
  obtain ⟨w5, hw5⟩ : ∃ w5, w5 = ((w4.alloc (.cells #[.int .u8 T2.kind, .string T2.text, .int .i64 T2.num, .int .i64 T2.place, .slice (some ⟨g, og, none⟩) 1 cg] 26)).alloc (.cells #[.int .i64 0, .int .i64 0] 29)) := ⟨_, rfl⟩
  have hb5 : Below w4.heap.size w4 w5 := by rw [hw5]; exact below_two w4 _ _
  obtain ⟨X0, X1, _⟩ := two_new' w4 (.cells #[.int .u8 T2.kind, .string T2.text, .int .i64 T2.num, .int .i64 T2.place, .slice (some ⟨g, og, none⟩) 1 cg] 26) (.cells #[.int .i64 0, .int .i64 0] 29)
  rw [← hw5] at X0 X1
  have hsz5 : w4.heap.size + 1 < w5.heap.size := (Array.getElem?_eq_some_iff.1 X1).1
  have hsz4 : w3.heap.size ≤ w4.heap.size := hb4.size
  have hb35 := hb4.trans (hb5.mono hb4.size)
  have HB5 := Lib.hid (HB3.out.trans (hb35.mono HB3.out.size))
  have HOn2 := Lib.hid (only_any 27 T2 (.slice (some ⟨g, og, none⟩) 1 cg) w4.heap.size w5 hf (hK.below hb5) hb5.size)
  rw [HO2.out] at HOn2
  have HKid2 := Lib.hid ((hb5.cell (p := ⟨g, og + 0 * 5 + 2, none⟩) hgB).trans d2)
  have HgB : Hid (g < w4.heap.size) := hgB
  have HX0 := Lib.hid X0
  have HX1 := Lib.hid X1
  have HW3 := Lib.hid (heap_below hb35 HY3.out (by omega))
  have HWm := Lib.hid ((hb35.cell (p := ⟨bS, offS + 1 * 5 + 1, none⟩) (by have := HbS.out; show bS < _; omega)).trans HMk.out)
  clear hb4 ho hf hK hl hM hMt d0 d1 d2 d3 hb5 hb35 hgB a0 a1 a2 a3 a4 b0 b1 c0 c1 c2 c3 c4 zk
  go_upto_region 6 with fail
  change Code.wp _ _ _ _ ((w4.alloc (.cells #[.int .u8 T2.kind, .string T2.text, .int .i64 T2.num, .int .i64 T2.place, .slice (some ⟨g, og, none⟩) 1 cg] 26)).alloc (.cells #[.int .i64 0, .int .i64 0] 29))
  rw [← hw5]
  clear hw5
  obtain ⟨a0, a1, a2, a3, a4⟩ := cells5 X0
  clear X0 X1
  go_wp2_with fail
  refine Calls.mono HOn2.out ?_
  rintro e w6 ⟨hb6, ⟨hx, _⟩ | ⟨S', s', hx, rfl, hfS, hKS⟩⟩
  · cases hx
  injection hx with hx
  subst hx
  obtain ⟨pS, lS, cS2, rfl⟩ := hKS.shape
  have hS1 := HSt2.out
  simp only [hS1]
  obtain ⟨w7, hw7⟩ : ∃ w7, w7 = w6.alloc (.cells #[.int .u8 S2.kind, .string ⟨#[45, 53]⟩, .int .i64 S2.num, .int .i64 S2.place, .slice pS lS cS2] 26) := ⟨_, rfl⟩
  have hb7 : Below w6.heap.size w6 w7 := by rw [hw7]; exact (Below.refl _ w6).alloc (Nat.le_refl _) _
  have Y7 : w7.heap[w6.heap.size]? = some (.cells #[.int .u8 S2.kind, .string ⟨#[45, 53]⟩, .int .i64 S2.num, .int .i64 S2.place, .slice pS lS cS2] 26 (0, 0)) := by rw [hw7]; exact heap_alloc_new w6 _
  have hb57 := hb6.trans (hb7.mono hb6.size)
  have hsz6 : w5.heap.size ≤ w6.heap.size := hb6.size
  have hsz7 : w6.heap.size < w7.heap.size := (Array.getElem?_eq_some_iff.1 Y7).1
  have HB7 := Lib.hid (HB5.out.trans (hb57.mono HB5.out.size))
  have HV5 := Lib.hid (heap_below hb57 HX0.out (by omega))
  have HV6 := Lib.hid (heap_below hb57 HX1.out (by omega))
  have HVk := Lib.hid ((hb57.cell (p := ⟨g, og + 0 * 5 + 2, none⟩) (by have := HgB.out; show g < _; omega)).trans HKid2.out)
  have HV3 := Lib.hid (heap_below hb57 HW3.out (by omega))
  have HVm := Lib.hid ((hb57.cell (p := ⟨bS, offS + 1 * 5 + 1, none⟩) (by have := HbS.out; show bS < _; omega)).trans HWm.out)
  have hF3 := fun W (hW : Below w.heap.size w W) => fault_any src3 202 9 src3_is W (HT.out W hW)
  have hF4 := fun W (hW : Below w.heap.size w W) => fault_any src4 202 9 src4_is W (HT.out W hW)
  have hF5 := fun W (hW : Below w.heap.size w W) => fault_any src5 202 20 src5_is W (HT.out W hW)
  have hF6 := fun W (hW : Below w.heap.size w W) => fault_any src6 202 22 src6_is W (HT.out W hW)
  unfold src3 at hF3
  unfold src4 at hF4
  unfold src5 at hF5
  unfold src6 at hF6
  have HF3 := Lib.hid hF3
  have HF4 := Lib.hid hF4
  have HF5 := Lib.hid hF5
  have HF6 := Lib.hid hF6
  clear hb6 hb7 hb57 hfS hKS hS1 a0 a1 a2 a3 a4 hF3 hF4 hF5 hF6
  go_upto_region 7 with fail
  change Code.wp _ _ _ _ (w6.alloc (.cells #[.int .u8 S2.kind, .string ⟨#[45, 53]⟩, .int .i64 S2.num, .int .i64 S2.place, .slice pS lS cS2] 26))
  rw [← hw7]
  clear hw7
  obtain ⟨a0, a1, a2, a3, a4⟩ := cells5 HV3.out
  obtain ⟨b0, b1, b2, b3, b4⟩ := cells5 HV5.out
  obtain ⟨c0, c1, _, _⟩ := cells2 HV6.out
  obtain ⟨e0, e1, e2, e3, e4⟩ := cells5 Y7
  have zk := HVk.out
  have zm := HVm.out
  rw [show og + 0 * 5 + 2 = og + 2 by omega] at zk
  rw [show offS + 1 * 5 + 1 = offS + 6 by omega] at zm
  clear Y7
  go_wp2_with fail
  refine Calls.mono (HF3.out _ HB7.out) ?_
  rintro e w8 ⟨rfl, hb8⟩
  have HB8 := Lib.hid (HB7.out.trans (hb8.mono HB7.out.size))
  clear hb8 a0 a1 a2 a3 a4 b0 b1 b2 b3 b4 c0 c1 e0 e1 e2 e3 e4 zk zm
  go_wp2_with fail
  refine Calls.mono (HF4.out _ HB8.out) ?_
  rintro e w9 ⟨rfl, hb9⟩
  have HB9 := Lib.hid (HB8.out.trans (hb9.mono HB8.out.size))
  clear hb9
  go_wp2_with fail
  refine Calls.mono (HF5.out _ HB9.out) ?_
  rintro e w10 ⟨rfl, hb10⟩
  have HB10 := Lib.hid (HB9.out.trans (hb10.mono HB9.out.size))
  clear hb10
  go_wp2_with fail
  refine Calls.mono (HF6.out _ HB10.out) ?_
  rintro e w11 ⟨rfl, hb11⟩
  have HB11 := Lib.hid (HB10.out.trans (hb11.mono HB10.out.size))
  clear hb11
  go_wp2_with fail
  go_ret
  exact ⟨rfl, HB11.out⟩
end Go.Proofs.YtgifapamogbkeaaDoor
