/- Several texts joined, each with its own sentence and conditions ahead of it: RdA, RdB, RdC. -/
import Derived.Test.YtfpohaipmnjflaaGreatDoorMV
import Derived.StillTailTactics
import Derived.BigQuiet
import Derived.Deep.QuietTactic
import Derived.Test.YtfpohaipmnjflaaGreatDoorMD
import Derived.Test.YtfpohaipmnjflaaGreatDoorMW
/- The document's reader: what stands at its place, going on, what must stand there; by contract. Condition: at most 16385 tokens. -/
namespace Go.Proofs.YtfpohaipmnjflaaGreatDoor
open Go.RowKit

/-- the reader in memory: block P holds it, block L the tokens -/
structure RAt (w : World) (P L cap : Nat) (ts : List Tok) (k : Nat) (bad : Bool) : Prop where
  p : w.heap[P]? = some (.cells #[.slice (some ⟨L, 0, none⟩) ts.length cap, .int .i64 k, .bool bad] 115 (0, 0))
  l : ∃ cs : Array Value, w.heap[L]? = some (.cells cs 67 (0, 0)) ∧ ∀ (j : Nat) (u : Value), (lexCells ts)[j]? = some u → cs[j]? = some u
  k : k < ts.length
  n : ts.length ≤ 16385
  c : ts.length ≤ cap
  m : cap ≤ maxLen
section
variable {w w' w1 w2 W W' : World} {P L cap : Nat} {ts : List Tok} {k k' k2 : Nat} {bad bad' bad2 : Bool}
theorem RAt.lt (h : RAt w P L cap ts k bad) : P < w.heap.size ∧ L < w.heap.size := by
  obtain ⟨cs, h2, _⟩ := h.l
  exact ⟨(Array.getElem?_eq_some_iff.1 h.p).1, (Array.getElem?_eq_some_iff.1 h2).1⟩
theorem RAt.ne (h : RAt w P L cap ts k bad) : P ≠ L := by
  obtain ⟨cs, h2, _⟩ := h.l
  exact ne_of_type h.p h2 (by decide)
theorem RAt.keep (h : RAt w P L cap ts k bad) (hP : w'.heap[P]? = w.heap[P]?) (hL : w'.heap[L]? = w.heap[L]?) : RAt w' P L cap ts k bad := by
  obtain ⟨cs, h2, h3⟩ := h.l
  exact ⟨hP.trans h.p, ⟨cs, hL.trans h2, h3⟩, h.k, h.n, h.c, h.m⟩
theorem RAt.below (h : RAt w P L cap ts k bad) (hb : Below w.heap.size w w') : RAt w' P L cap ts k bad := h.keep (hb.block P h.lt.1) (hb.block L h.lt.2)
theorem RAt.drew (h : RAt w P L cap ts k bad) : RAt w.drew P L cap ts k bad := h.keep rfl rfl
theorem RAt.tok {t : Tok} (h : RAt w P L cap ts k bad) (ht : ts[k]? = some t) :
    w.cell? ⟨L, k * 3, none⟩ = some (.int .u8 t.1) ∧ w.cell? ⟨L, k * 3 + 1, none⟩ = some (.string t.2.1) ∧ w.cell? ⟨L, k * 3 + 2, none⟩ = some (.int .i64 t.2.2) := by
  obtain ⟨cs, h2, h3⟩ := h.l
  have e : ∀ j u, (tokCells t)[j]? = some u → w.cell? ⟨L, k * 3 + j, none⟩ = some u := fun j u hu => by
    rw [cell_of_row _ _ _ _ _ _ h2]; exact h3 _ _ (lexCells_tok ts k t ht j u hu)
  exact ⟨e 0 _ rfl, e 1 _ rfl, e 2 _ rfl⟩
theorem RAt.cells (h : RAt w P L cap ts k bad) :
    w.cell? ⟨P, 0, none⟩ = some (.slice (some ⟨L, 0, none⟩) ts.length cap) ∧ w.cell? ⟨P, 1, none⟩ = some (.int .i64 k) ∧ w.cell? ⟨P, 2, none⟩ = some (.bool bad) ∧ w.frozen? ⟨P, 0, none⟩ = false ∧ w.frozen? ⟨P, 1, none⟩ = false ∧ w.frozen? ⟨P, 2, none⟩ = false := by
  have h1 := h.p
  exact ⟨by simp [World.cell?, h1], by simp [World.cell?, h1], by simp [World.cell?, h1], by simp [World.frozen?, h1], by simp [World.frozen?, h1], by simp [World.frozen?, h1]⟩
/-- a call that turns the reader's place alone -/
def RTurns (w : World) (P L cap : Nat) (ts : List Tok) (k : Nat) (bad : Bool) (w' : World) : Prop := w.grownBy w' (some P) ∧ RAt w' P L cap ts k bad
theorem RTurns.trans (h : RTurns w P L cap ts k bad w1) (h2 : RTurns w1 P L cap ts k2 bad2 w2) : RTurns w P L cap ts k2 bad2 w2 := ⟨World.grownBy.trans h.1 h2.1, h2.2⟩
theorem RTurns.of_below (h : RTurns w P L cap ts k bad w1) (hb : Below w1.heap.size w1 w2) : RTurns w P L cap ts k bad w2 := ⟨grown_below h.1 hb, h.2.below hb⟩
theorem RTurns.of_drew (h : RTurns w.drew P L cap ts k bad w1) : RTurns w P L cap ts k bad w1 := ⟨World.grownBy.trans (grown_drewN (World.grownBy.refl w _) 1) h.1, h.2⟩
theorem RAt.turns (h : RAt w P L cap ts k bad) (hb : Below w.heap.size w w1) : RTurns w P L cap ts k bad w1 := ⟨grown_of_below hb _, h.below hb⟩
theorem RTurns.setCell (h : RTurns w P L cap ts k bad W) (hP : P < w.heap.size) (hL : L < w.heap.size) {b : Nat} (hb : w.heap.size ≤ b) (i : Nat) (v : Value) : RTurns w P L cap ts k bad (W.setCell ⟨b, i, none⟩ v) :=
  ⟨grown_set_far h.1 hb _ _, h.2.keep (Below.heap_setCell W _ _ P (by show P ≠ b; omega)) (Below.heap_setCell W _ _ L (by show L ≠ b; omega))⟩
theorem RTurns.alloc (h : RTurns w P L cap ts k bad W) (o : Obj) : RTurns w P L cap ts k bad (W.alloc o) := h.of_below ((Below.refl _ W).alloc (Nat.le_refl _) _)
theorem RTurns.box (h : RTurns W P L cap ts k bad W') {b : Nat} {o : Obj} (ho : W.heap[b]? = some o) (hP : P < w.heap.size) (hb : w.heap.size ≤ b) : W'.heap[b]? = some o := grownBy_keep h.1 ho (by omega)
theorem RTurns.set5 (h : RTurns w P L cap ts k bad W) (hP : P < w.heap.size) (hL : L < w.heap.size) {b : Nat} (hb : w.heap.size ≤ b) (v0 v1 v2 v3 v4 : Value) : RTurns w P L cap ts k bad (set5 W b v0 v1 v2 v3 v4) :=
  ((((h.setCell hP hL hb 0 v0).setCell hP hL hb 1 v1).setCell hP hL hb 2 v2).setCell hP hL hb 3 v3).setCell hP hL hb 4 v4
theorem RAt.setBad (h : RAt w P L cap ts k bad) (b : Bool) : RTurns w P L cap ts k b (w.setCell ⟨P, 2, none⟩ (.bool b)) := by
  refine ⟨grown_set (World.grownBy.refl w _) _ _, ?_⟩
  obtain ⟨cs, h2, h3⟩ := h.l
  exact ⟨by rw [heap_set h.p 2]; rfl, ⟨cs, (Below.heap_setCell w _ _ L (fun e => h.ne e.symm)).trans h2, h3⟩, h.k, h.n, h.c, h.m⟩
theorem RAt.setK (h : RAt w P L cap ts k bad) (hk : k' < ts.length) : RTurns w P L cap ts k' bad (w.setCell ⟨P, 1, none⟩ (.int .i64 k')) := by
  refine ⟨grown_set (World.grownBy.refl w _) _ _, ?_⟩
  obtain ⟨cs, h2, h3⟩ := h.l
  exact ⟨by rw [heap_set h.p 1]; rfl, ⟨cs, (Below.heap_setCell w _ _ L (fun e => h.ne e.symm)).trans h2, h3⟩, hk, h.n, h.c, h.m⟩
end

/-- a function hands back the token that lies in its result's block -/
theorem ret_lex {fn : Func} {R : Ending → World → Prop} {a : Act} {W : World} {slot T : Nat} {v0 v1 v2 : Value} (hr : fn.results = #[.cell slot 67]) (hs : a.tmps.getD slot undef = .pointer (some ⟨T, 0, none⟩))
    (hT : W.heap[T]? = some (.cells #[v0, v1, v2] 67 (0, 0))) (hd : a.defers = []) (hR : R (.returned (.agg #[v0, v1, v2])) W) : bodyPost Tryz.prog fn R .ret a W := by
  obtain ⟨c0, c1, c2, _, _, _⟩ := cells3 hT
  have hs' : a.tmps[slot]?.getD undef = .pointer (some ⟨T, 0, none⟩) := by simpa using hs
  refine bodyPost_ret (v := .agg #[v0, v1, v2]) ?_ hd hR
  simp [results, hr, go_sem, hs', c0, c1, c2]
set_option maxRecDepth 100000 in
theorem rnow6_any {w : World} {P L cap : Nat} {ts : List Tok} {k : Nat} {bad : Bool} {t : Tok} (h : RAt w P L cap ts k bad) (ht : ts[k]? = some t) :
    Calls Tryz.prog 65 #[.pointer (some ⟨P, 0, none⟩)] w fun e w' => e = .returned (.agg #[.int .u8 t.1, .string t.2.1, .int .i64 t.2.2]) ∧ Below w.heap.size w w' := by
  obtain ⟨c0, c1, c2, _, _, _⟩ := h.cells
  obtain ⟨t0, t1, t2⟩ := h.tok ht
  have hk := h.k
  have hki : (k : Int) < ts.length := by omega
  have hP := h.lt
  have hP1 := hP.1
  have hL1 := hP.2
  clear h ht hP
  generalize ts.length = n at *
  generalize t.1 = tk at *
  generalize t.2.1 = tx at *
  generalize t.2.2 = tp at *
  go_enter Tryz.func65, Tryz.ntmps65
  obtain ⟨W0, hW0⟩ : ∃ W0, W0 = w.alloc (.cells #[.int .u8 0, .string ⟨#[]⟩, .int .i64 0] 67) := ⟨_, rfl⟩
  have hb0 : Below w.heap.size w W0 := by rw [hW0]; exact (Below.refl _ w).alloc (Nat.le_refl _) _
  have hx : W0.heap[w.heap.size]? = some (.cells #[.int .u8 0, .string ⟨#[]⟩, .int .i64 0] 67 (0, 0)) := by rw [hW0]; exact heap_alloc_new w _
  have c0' := (hb0.cell (p := ⟨P, 0, none⟩) hP1).trans c0
  have c1' := (hb0.cell (p := ⟨P, 1, none⟩) hP1).trans c1
  have t0' := (hb0.cell (p := ⟨L, k * 3, none⟩) hL1).trans t0
  have t1' := (hb0.cell (p := ⟨L, k * 3 + 1, none⟩) hL1).trans t1
  have t2' := (hb0.cell (p := ⟨L, k * 3 + 2, none⟩) hL1).trans t2
  obtain ⟨x0, x1, x2, y0, y1, y2⟩ := cells3 hx
  have HX := Lib.hid hx
  have HB := Lib.hid hb0
  clear c0 c1 c2 t0 t1 t2 hx hb0
  go_wp2
  rw [← hW0]
  clear hW0
  go_still_tail 10, (by kernel_rfl)
  change wpList _ _ _ _ _ W0.drew
  go_wp2
  exact ret_lex Tryz.results65 rfl (heap_set (heap_set (heap_set (w := W0.drew) HX.out 0 _) 1 _) 2 _) rfl ⟨rfl, ((HB.out.drew.setCell (p := ⟨w.heap.size, 0, none⟩) (Nat.le_refl _) _).setCell (p := ⟨w.heap.size, 1, none⟩) (Nat.le_refl _) _).setCell (p := ⟨w.heap.size, 2, none⟩) (Nat.le_refl _) _⟩

theorem rnext6_any {w : World} {P L cap : Nat} {ts : List Tok} {k : Nat} {bad : Bool} (h : RAt w P L cap ts k bad) :
    Calls Tryz.prog 107 #[.pointer (some ⟨P, 0, none⟩)] w fun e w' => e = .returned (.tuple #[]) ∧ RTurns w P L cap ts (nextK ts.length k bad) bad w' := by
  obtain ⟨c0, c1, c2, f0, f1, f2⟩ := h.cells
  have H := Lib.hid h
  have hk := h.k
  have hn := h.n
  have hP1 := h.lt.1
  cases bad with
  | true =>
    have HK := Lib.hid (nextK_bad (n := ts.length) (k := k))
    clear h
    go_enter Tryz.func107, Tryz.ntmps107
    go_wp2
    go_quiet (fail)
    go_wp2
    go_returns
    exact ⟨rfl, grown_drewN (World.grownBy.refl w _) _, by rw [HK.out]; exact H.out.keep rfl rfl⟩
  | false =>
    by_cases hlt : k + 1 < ts.length
    · have HK := Lib.hid (nextK_on hlt)
      have hm1 : (k : Int) < ts.length - 1 := by omega
      have hLT := Lib.hid hlt
      clear h hlt
      go_enter Tryz.func107, Tryz.ntmps107
      go_wp2
      go_quiet (fail)
      go_wp2
      go_returns
      have h3 : RAt (w.drewN nq) P L cap ts k false := H.out.keep rfl rfl
      have h2 := h3.setK (k' := k + 1) hLT.out
      rw [HK.out]
      rw [Int.natCast_succ] at h2
      exact ⟨rfl, World.grownBy.trans (grown_drewN (World.grownBy.refl w _) _) h2.1, h2.2⟩
    · have HK := Lib.hid (nextK_end (bad := false) hlt)
      have hm1 : decide ((k : Int) < ts.length - 1) = false := by simp; omega
      clear h hlt
      go_enter Tryz.func107, Tryz.ntmps107
      go_wp2
      go_quiet (fail)
      go_wp2
      go_returns
      exact ⟨rfl, grown_drewN (World.grownBy.refl w _) _, by rw [HK.out]; exact H.out.keep rfl rfl⟩

theorem isM_one {ts : List Tok} {σ : PS} {kd : Nat} {tx : ByteArray} {pl : Nat} (ht : tokM ts σ.1 = (kd, tx, pl)) (x : ByteArray) (hx : x.toList ≠ []) : isM ts σ [x] = (!σ.2 && ((kd == 6 || kd == 1) && tx.toList == x.toList)) := by
  unfold isM
  rw [ht]
  unfold isT
  have : (!x.toList.isEmpty) = true := by cases h : x.toList with | nil => exact absurd h hx | cons _ _ => rfl
  simp only [List.any_cons, List.any_nil, Bool.or_false, this, Bool.true_and]
  rw [BEq.comm (a := x.toList)]
theorem rnow6_res {w : World} {P L cap : Nat} {ts : List Tok} {σ : PS} (h : RAt w P L cap ts σ.1 σ.2) :
    Calls Tryz.prog 65 #[.pointer (some ⟨P, 0, none⟩)] w fun e w' => e = .returned (.agg #[.int .u8 (kdM ts σ), .string (txM ts σ), .int .i64 (atM ts σ)]) ∧ Below w.heap.size w w' :=
  rnow6_any h (tokM_at h.k)
theorem rnext6_res {w : World} {P L cap : Nat} {ts : List Tok} {σ : PS} (h : RAt w P L cap ts σ.1 σ.2) :
    Calls Tryz.prog 107 #[.pointer (some ⟨P, 0, none⟩)] w fun e w' => e = .returned (.tuple #[]) ∧ RTurns w P L cap ts (nextM ts σ).1 (nextM ts σ).2 w' :=
  rnext6_any h
theorem ris6_any {w : World} {P L cap : Nat} {ts : List Tok} {σ : PS} (h : RAt w P L cap ts σ.1 σ.2) (x : ByteArray) (hx : x.toList ≠ []) :
    Calls Tryz.prog 106 #[.pointer (some ⟨P, 0, none⟩), .string x] w fun e w' => e = .returned (.bool (isM ts σ [x])) ∧ Below w.heap.size w w' := by
  have HC := Lib.hid (rnow6_any h (tokM_at h.k))
  have H := Lib.hid h
  obtain ⟨tk, tx, tp, ht⟩ : ∃ a b c, tokM ts σ.1 = (a, b, c) := ⟨_, _, _, rfl⟩
  rw [ht] at HC
  rw [isM_one ht x hx]
  obtain ⟨k, bad⟩ := σ
  obtain ⟨b, hb⟩ : ∃ b, (!(k, bad).2 && ((tk == 6 || tk == 1) && tx.toList == x.toList)) = b := ⟨_, rfl⟩
  rw [hb]
  dsimp only at H hb
  have HBq := Lib.hid hb
  clear h ht hx hb
  go_enter Tryz.func106, Tryz.ntmps106
  go_wp2_with fail
  refine Calls.mono HC.out ?_
  rintro e w1 ⟨rfl, hb1⟩
  have HB := Lib.hid (hb1.alloc hb1.size (.cells #[.int .u8 tk, .string tx, .int .i64 tp] 67))
  obtain ⟨_, _, c2, _, _, _⟩ := (H.out.below hb1).cells
  have hP1 := (H.out.below hb1).lt.1
  clear hb1
  cases bad with
  | true =>
    go_wp2_with fail
    go_ret
    exact ⟨by rw [← HBq.out]; rfl, HB.out⟩
  | false =>
    by_cases h6 : tk = 6
    · subst h6
      go_wp2_with fail
      go_ret
      exact ⟨by rw [← HBq.out]; simp, HB.out⟩
    · have e6 : ((tk : Int) == 6) = false := by simp; omega
      by_cases h1 : tk = 1
      · subst h1
        go_wp2_with fail
        go_ret
        exact ⟨by rw [← HBq.out]; simp, HB.out⟩
      · have e1 : ((tk : Int) == 1) = false := by simp; omega
        have HN6 := Lib.hid h6
        have HN1 := Lib.hid h1
        clear h6 h1
        go_wp2_with fail
        go_ret
        exact ⟨by rw [← HBq.out]; simp [HN6.out, HN1.out], HB.out⟩
theorem rwant6_any {w : World} {P L cap : Nat} {ts : List Tok} {σ : PS} (h : RAt w P L cap ts σ.1 σ.2) (x : ByteArray) (hx : x.toList ≠ []) :
    Calls Tryz.prog 110 #[.pointer (some ⟨P, 0, none⟩), .string x] w fun e w' => e = .returned (.tuple #[]) ∧ RTurns w P L cap ts (wantM ts σ x).1 (wantM ts σ x).2 w' := by
  have HC := Lib.hid (ris6_any h x hx)
  have H := Lib.hid h
  by_cases hi : isM ts σ [x] = true
  · have hw : wantM ts σ x = nextM ts σ := by
      have hb : σ.2 = false := by unfold isM at hi; cases hs : σ.2 <;> simp [hs] at hi ⊢
      unfold wantM wantK wantB skipK nextM
      have hi' : (!σ.2 && isT (tokM ts σ.1) [x]) = true := hi
      rw [if_pos hi', hi', hb]; rfl
    rw [hi] at HC
    rw [hw]
    clear h hi hw hx
    go_enter Tryz.func110, Tryz.ntmps110
    go_wp2_with fail
    refine Calls.mono HC.out ?_
    rintro e w1 ⟨rfl, hb1⟩
    have HT := Lib.hid (H.out.turns hb1)
    clear hb1
    go_wp2_with fail
    refine Calls.mono (rnext6_res HT.out.2) ?_
    rintro e w2 ⟨rfl, ht2⟩
    have HT2 := Lib.hid (HT.out.trans ht2)
    clear ht2
    go_wp2_with fail
    go_returns
    exact ⟨rfl, HT2.out⟩
  · have hi2 : isM ts σ [x] = false := by simpa using hi
    have hw : wantM ts σ x = (σ.1, true) := by
      unfold wantM wantK wantB skipK
      have hi' : (!σ.2 && isT (tokM ts σ.1) [x]) = false := hi2
      rw [if_neg (by rw [hi']; decide), hi']; rfl
    have hn : ∀ k : Nat, nextM ts (k, true) = (k, true) := fun k => by unfold nextM; rw [nextK_bad]
    have HN := Lib.hid hn
    rw [hi2] at HC
    rw [hw]
    clear h hi hi2 hw hx hn
    go_enter Tryz.func110, Tryz.ntmps110
    go_wp2_with fail
    refine Calls.mono HC.out ?_
    rintro e w1 ⟨rfl, hb1⟩
    have HT := Lib.hid (H.out.turns hb1)
    obtain ⟨_, _, c2, _, _, f2⟩ := HT.out.2.cells
    have HTb := Lib.hid (HT.out.trans (HT.out.2.setBad true))
    have HNx := Lib.hid (rnext6_res (σ := (σ.1, true)) HTb.out.2)
    rw [HN.out] at HNx
    clear hb1
    go_wp2_with fail
    refine Calls.mono HNx.out ?_
    rintro e w2 ⟨rfl, ht2⟩
    have HT2 := Lib.hid (HTb.out.trans ht2)
    clear ht2
    go_wp2_with fail
    go_returns
    exact ⟨rfl, HT2.out⟩
end Go.Proofs.YtfpohaipmnjflaaGreatDoor
/- The document's reader: nodes of tokens, small numbers, operators; by contract. Condition: at most 16385 tokens, each of at most 16384 bytes. -/
namespace Go.Proofs.YtfpohaipmnjflaaGreatDoor
open Go.RowKit

/-- what a call of the reader that reads a node hands back: the model's node, if nothing is told -/
def RRes (w : World) (P L cap : Nat) (ts : List Tok) (r : Tree × PS) (e : Ending) (w' : World) : Prop :=
  ∃ (T : Tree) (d : Nat) (s : Value), e = .returned (.agg #[.int .u8 T.kind, .string T.text, .int .i64 T.num, .int .i64 T.place, s]) ∧ (r.2.2 = false → T = r.1) ∧ RTurns w P L cap ts r.2.1 r.2.2 w' ∧ OwnAt w' d T.kids s (Between w.heap.size w'.heap.size) ∧ Fits T
/-- a node, read by a call behind which its cells are stored in a block of the caller's own -/
theorem rlex_kind (a : Int) (x : ByteArray) (p : Int) (W : World) : (Instr.field 67 (.agg #[.int .u8 a, .string x, .int .i64 p]) 0).run Tryz.prog W = .ok (.int .u8 a) W := by kernel_rfl
theorem RRes.stored {w W : World} {P L cap : Nat} {ts : List Tok} {r : Tree × PS} {T : Tree} {s : Value} {d B b : Nat} (hP : P < w.heap.size) (hL : L < w.heap.size) (hT : RTurns w P L cap ts r.2.1 r.2.2 W) (he : r.2.2 = false → T = r.1) (ho : OwnAt W d T.kids s (Between B W.heap.size)) (hf : Fits T)
    (hb : w.heap.size ≤ b) (hB : b < B) (v0 v1 v2 v3 v4 : Value) : RRes w P L cap ts r (.returned (.agg #[.int .u8 T.kind, .string T.text, .int .i64 T.num, .int .i64 T.place, s])) (YtfpohaipmnjflaaGreatDoor.set5 W b v0 v1 v2 v3 v4) := by
  refine ⟨T, d, s, rfl, he, hT.set5 hP hL hb _ _ _ _ _, ?_, hf⟩
  refine (ho.keep fun x o hx h => (set5_other (by have := hx.1; omega) _ _ _ _ _).trans h).sub fun x hx => ?_
  have := hx.1
  exact ⟨by omega, by rw [set5_size]; exact hx.2⟩
theorem rof6_raw {w : World} {P L cap : Nat} {ts : List Tok} {k : Nat} {bad : Bool} {t : Tok} (h : RAt w P L cap ts k bad) (ht : ts[k]? = some t) (tok kind : Nat) :
    Calls Tryz.prog 108 #[.pointer (some ⟨P, 0, none⟩), .int .u8 tok, .int .u8 kind] w fun e w' => e = .returned (.agg #[.int .u8 kind, .string t.2.1, .int .i64 0, .int .i64 t.2.2, .slice none 0 0]) ∧
      RTurns w P L cap ts (nextK ts.length k (bad || t.1 != tok)) (bad || t.1 != tok) w' := by
  obtain ⟨tk, tx, tp⟩ := t
  obtain ⟨b, hb⟩ : ∃ b, (bad || tk != tok) = b := ⟨_, rfl⟩
  show Calls _ _ _ _ fun e w' => e = _ ∧ RTurns w P L cap ts (nextK ts.length k (bad || tk != tok)) (bad || tk != tok) w'
  rw [hb]
  have HBq := Lib.hid hb
  clear hb
  have hb0 : Below w.heap.size w (w.alloc (.cells #[.int .u8 0, .string ⟨#[]⟩, .int .i64 0, .int .i64 0, .slice none 0 0] 25)) := (Below.refl _ w).alloc (Nat.le_refl _) _
  have HC := Lib.hid (rnow6_any (h.below hb0) ht)
  have H := Lib.hid (h.turns hb0)
  have hP := h.lt.1
  have HL := Lib.hid (h.lt.2)
  clear h ht hb0
  go_enter Tryz.func108, Tryz.ntmps108
  go_wp2_with fail
  refine Calls.mono HC.out ?_
  rintro e w1 ⟨rfl, hb1⟩
  have HT := Lib.hid (H.out.of_below hb1)
  have x0 := heap_below hb1 (heap_alloc_new w (.cells #[.int .u8 0, .string ⟨#[]⟩, .int .i64 0, .int .i64 0, .slice none 0 0] 25)) (by simp)
  have hbW : Below w1.heap.size w1 (w1.alloc (.cells #[.int .u8 tk, .string tx, .int .i64 tp] 67)) := (Below.refl _ w1).alloc (Nat.le_refl _) _
  have HX1 := Lib.hid (heap_alloc_new w1 (.cells #[.int .u8 tk, .string tx, .int .i64 tp] 67))
  have HT1 := Lib.hid (HT.out.of_below hbW)
  have HX0 := Lib.hid (heap_below hbW x0 (Array.getElem?_eq_some_iff.1 x0).1)
  obtain ⟨_, _, c2, _, _, f2⟩ := HT.out.2.cells
  have hP1 := HT.out.2.lt.1
  have hl1 : w.heap.size < w1.heap.size := (Array.getElem?_eq_some_iff.1 x0).1
  have HXw := Lib.hid x0
  clear x0 hbW hb1
  have fin : ∀ (W : World) (b : Bool), RTurns w P L cap ts (nextK ts.length k b) b W → ∀ v0 v1 v2 v3 v4, RTurns w P L cap ts (nextK ts.length k b) b (((((W.setCell ⟨w.heap.size, 0, none⟩ v0).setCell ⟨w.heap.size, 1, none⟩ v1).setCell ⟨w.heap.size, 2, none⟩ v2).setCell ⟨w.heap.size, 3, none⟩ v3).setCell ⟨w.heap.size, 4, none⟩ v4) := fun W b h v0 v1 v2 v3 v4 =>
    ((((h.setCell hP HL.out (Nat.le_refl _) 0 v0).setCell hP HL.out (Nat.le_refl _) 1 v1).setCell hP HL.out (Nat.le_refl _) 2 v2).setCell hP HL.out (Nat.le_refl _) 3 v3).setCell hP HL.out (Nat.le_refl _) 4 v4
  have HFin := Lib.hid fin
  clear fin
  by_cases hk : tk = tok
  · have hk' : ((tk : Int) != tok) = false := by simp; omega
    obtain rfl : bad = b := by rw [← HBq.out, hk]; simp
    have HN := Lib.hid (rnext6_any HT1.out.2)
    clear hk
    go_wp2_with fail
    refine Calls.mono HN.out ?_
    rintro e w2 ⟨rfl, ht2⟩
    have y0 := ht2.box HX0.out hP (Nat.le_refl _)
    have y1 := ht2.box HX1.out hP (Nat.le_of_lt hl1)
    have HT2 := Lib.hid (HT1.out.trans ht2)
    have HY0 := Lib.hid y0
    obtain ⟨a0, a1, a2, a3, a4⟩ := cells5 y0
    have z0 := frozen5 y0 0
    have z1 := frozen5 y0 1
    have z2 := frozen5 y0 2
    have z3 := frozen5 y0 3
    have z4 := frozen5 y0 4
    obtain ⟨b0, b1, b2, _, _, _⟩ := cells3 y1
    clear ht2 y0 y1
    go_wp2_with fail
    exact ret_node Tryz.results108 rfl (heap_set5 HY0.out _ _ _ _ _) rfl ⟨rfl, HFin.out _ _ HT2.out _ _ _ _ _⟩
  · have hk' : ((tk : Int) != tok) = true := by simp; omega
    obtain rfl : b = true := by rw [← HBq.out]; simp [hk]
    have hTb := (HT.out.trans (HT.out.2.setBad true)).alloc (.cells #[.int .u8 tk, .string tx, .int .i64 tp] 67)
    have hX0 := (HT.out.2.setBad true).box HXw.out hP (Nat.le_refl _)
    have hX0' := (Below.heap_alloc _ (.cells #[.int .u8 tk, .string tx, .int .i64 tp] 67) _ (Array.getElem?_eq_some_iff.1 hX0).1).trans hX0
    have hX1 := heap_alloc_new (w1.setCell ⟨P, 2, none⟩ (.bool true)) (.cells #[.int .u8 tk, .string tx, .int .i64 tp] 67)
    have hsz : (w1.setCell ⟨P, 2, none⟩ (.bool true)).heap.size = w1.heap.size := by simp [World.setCell]
    rw [hsz] at hX1
    have HN := Lib.hid (rnext6_any hTb.2)
    have HTb := Lib.hid hTb
    have HXa := Lib.hid hX0'
    have HXb := Lib.hid hX1
    clear hk hTb hX0 hX0' hX1 hsz
    go_wp2_with fail
    refine Calls.mono HN.out ?_
    rintro e w2 ⟨rfl, ht2⟩
    have y0 := ht2.box HXa.out hP (Nat.le_refl _)
    have y1 := ht2.box HXb.out hP (Nat.le_of_lt hl1)
    have HT2 := Lib.hid (HTb.out.trans ht2)
    have HY0 := Lib.hid y0
    obtain ⟨a0, a1, a2, a3, a4⟩ := cells5 y0
    have z0 := frozen5 y0 0
    have z1 := frozen5 y0 1
    have z2 := frozen5 y0 2
    have z3 := frozen5 y0 3
    have z4 := frozen5 y0 4
    obtain ⟨b0, b1, b2, _, _, _⟩ := cells3 y1
    clear ht2 y0 y1
    go_wp2_with fail
    exact ret_node Tryz.results108 rfl (heap_set5 HY0.out _ _ _ _ _) rfl ⟨rfl, HFin.out _ _ HT2.out _ _ _ _ _⟩
theorem rof6_any {w : World} {P L cap : Nat} {ts : List Tok} (hts : TsOk ts) {σ : PS} (h : RAt w P L cap ts σ.1 σ.2) (tok kind : Nat) (hk : kind < 256) :
    Calls Tryz.prog 108 #[.pointer (some ⟨P, 0, none⟩), .int .u8 tok, .int .u8 kind] w (RRes w P L cap ts (ofM ts σ tok kind)) :=
  (rof6_raw h (tokM_at h.k) tok kind).mono fun _e _ ⟨he, ht⟩ => ⟨(ofM ts σ tok kind).1, 0, .slice none 0 0, he, fun _ => rfl, ht, own_nil _ _, ofM_fits hts σ tok kind hk⟩
set_option maxRecDepth 100000 in
set_option maxHeartbeats 1000000 in
theorem rsmall6_any {ts : List Tok} (hts : TsOk ts) {w : World} {P L cap : Nat} {σ : PS} (h : RAt w P L cap ts σ.1 σ.2) :
    Calls Tryz.prog 111 #[.pointer (some ⟨P, 0, none⟩)] w fun e w' => e = .returned (.int .i64 (numM ts σ).1) ∧ RTurns w P L cap ts (numM ts σ).2.1 (numM ts σ).2.2 w' := by
  have HC := Lib.hid (rnow6_res h)
  have H := Lib.hid h
  have hP := h.lt.1
  obtain ⟨R, hR⟩ : ∃ R, numM ts σ = R := ⟨_, rfl⟩
  rw [hR]
  unfold numM smallOk at hR
  have htx : (txM ts σ).size ≤ 16384 := (tokM_ok hts σ.1).2.1
  obtain ⟨kd, hkd⟩ : ∃ x, kdM ts σ = x := ⟨_, rfl⟩
  obtain ⟨tx, htx0⟩ : ∃ x, txM ts σ = x := ⟨_, rfl⟩
  obtain ⟨at_, hat⟩ : ∃ x, atM ts σ = x := ⟨_, rfl⟩
  rw [hkd, htx0] at hR
  rw [htx0] at htx
  rw [hkd, htx0, hat] at HC
  have HR := Lib.hid hR
  have HN := Lib.hid (fun W => rnumber_any tx W htx)
  have HNow := Lib.hid (fun W (hW : Below w.heap.size w W) => (rnow6_res (H.out.below hW)).mono fun e w' hh => by rw [hkd, htx0, hat] at hh; exact hh)
  clear h hR hkd htx0 hat
  generalize number tx.data.toList = n at *
  go_enter Tryz.func111, Tryz.ntmps111
  go_wp2_with fail
  refine Calls.mono HC.out ?_
  rintro e w1 ⟨rfl, hb1⟩
  have HB1 := Lib.hid hb1
  clear hb1
  have hF1 := run_lexText kd tx at_ w1
  go_wp2_with fail
  refine Calls.mono (HN.out _) ?_
  rintro e w1' ⟨rfl, rfl⟩
  go_wp2_with fail
  refine Calls.mono (HNow.out w1 HB1.out) ?_
  rintro e w2 ⟨rfl, hb2⟩
  have HT2 := Lib.hid (H.out.turns (HB1.out.trans (hb2.mono HB1.out.size)))
  obtain ⟨_, _, c2, _, _, f2⟩ := HT2.out.2.cells
  have HBad := Lib.hid (HT2.out.2.setBad true)
  have HNx := Lib.hid (rnext6_any HT2.out.2)
  have hF0 := rlex_kind kd tx at_ w2
  clear hb2 hF1
  by_cases hk : kd = 4
  · subst hk
    have hF4 := rlex_kind 4 tx at_ w2
    cases n with
    | none =>
      have hRR : (0, (σ.1, true)) = R := by rw [← HR.out]; rfl
      have HRR := Lib.hid hRR
      clear hRR
      go_wp2_with fail
      go_ret
      rw [← HRR.out]
      exact ⟨rfl, HT2.out.trans HBad.out⟩
    | some n =>
      by_cases hn : n ≤ 2147483647
      · have hRR : (n, nextM ts σ) = R := by
          rw [← HR.out, if_pos (by simp; omega)]; rfl
        have HRR := Lib.hid hRR
        have h1 : decide ((2147483648 : Int) ≤ n) = false := by simp; omega
        clear hRR
        go_wp2_with fail
        refine Calls.mono HNx.out ?_
        rintro e w3 ⟨rfl, ht3⟩
        have HT3 := Lib.hid (HT2.out.trans ht3)
        clear ht3
        go_wp2_with fail
        go_ret
        rw [← HRR.out]
        exact ⟨rfl, HT3.out⟩
      · have hRR : (0, (σ.1, true)) = R := by
          rw [← HR.out, if_neg (by simp; omega)]
        have HRR := Lib.hid hRR
        have h1 : decide ((2147483648 : Int) ≤ n) = true := by simp; omega
        clear hRR
        go_wp2_with fail
        go_ret
        rw [← HRR.out]
        exact ⟨rfl, HT2.out.trans HBad.out⟩
  · have hRR : (0, (σ.1, true)) = R := by
      rw [← HR.out, if_neg (by simp [hk])]
    have HRR := Lib.hid hRR
    have h1 : ((kd : Int) == 4) = false := by simp; omega
    have h2 : ((kd : Int) != 4) = true := by simp; omega
    clear hRR
    go_wp2_with fail
    go_ret
    rw [← HRR.out]
    exact ⟨rfl, HT2.out.trans HBad.out⟩
end Go.Proofs.YtfpohaipmnjflaaGreatDoor
/- The document's reader: is the token at the place an operator of a level; by contract. Condition: at most 16385 tokens, each of at most 16384 bytes. -/
namespace Go.Proofs.YtfpohaipmnjflaaGreatDoor
open Go.RowKit

theorem ramong6_any (L : List ByteArray) (n B c : Nat) (ty : TypeId) (x : ByteArray) (w : World) (hn : L.length = n) (h100 : n ≤ 100) (h : w.heap[B]? = some (.cells (L.map Value.string).toArray ty (0, 0))) :
    Calls Tryz.prog 168 #[.string x, .slice (some ⟨B, 0, none⟩) n c] w fun e w' => e = .returned (.bool (amongB L x.data.toList)) ∧ w = w' := by
  have hf : ∀ y, amongB L x.data.toList = y → ∀ (e : Ending) (w' : World), e = .returned (.bool y) → w = w' → (e = .returned (.bool (amongB L x.data.toList)) ∧ w = w') := by
    intro y hy e w' he hb; rw [hy]; exact ⟨he, hb⟩
  have HF := Lib.hid hf
  have HB := Lib.hid h
  have HN := Lib.hid hn
  clear hf h hn
  go_enter Tryz.func168, Tryz.ntmps168
  go_wp2_with fail
  go_loop [5] (fun i => ∃ k : Nat, k ≤ n ∧ i = .int .i64 k ∧ (L.take k).any (fun b => b.data.toList == x.data.toList) = false) (fun i => n - (intOf i).toNat)
  case atStart => exact ⟨0, Nat.zero_le _, rfl, rfl⟩
  case round =>
    obtain ⟨k, hk, rfl, hno⟩ := hrel
    have HO := Lib.hid hno
    clear hno
    by_cases hlt : k < n
    · obtain ⟨g, hg⟩ : ∃ g, L[k]? = some g := ⟨L[k]'(by rw [HN.out]; exact hlt), List.getElem?_eq_getElem (by rw [HN.out]; exact hlt)⟩
      have hck : w.cell? ⟨B, k, none⟩ = some (.string g) := by
        rw [cell_of_row _ _ _ _ _ _ HB.out]; simp [hg]
      have HG := Lib.hid hg
      clear hg
      cases he : g.toList == x.toList
      · have HE := Lib.hid he
        go_wp2_with fail
        go_round
        case rel => exact ⟨k + 1, by omega, by go_num, by rw [take_succ_any _ _ _ _ HG.out HO.out]; simpa [ByteArray.toList_eq] using HE.out⟩
        case measure => simp [intOf]; omega
      · have HE := Lib.hid he
        go_wp2_with fail
        go_ret
        refine HF.out true ?_ _ _ rfl rfl
        unfold amongB
        exact any_of_mem (fun b => b.data.toList == x.data.toList) _ k g HG.out (by simpa [ByteArray.toList_eq] using HE.out)
    · obtain rfl : k = n := by omega
      go_wp2_with fail
      go_ret
      refine HF.out false ?_ _ _ rfl rfl
      unfold amongB
      have := HO.out
      rwa [List.take_of_length_le (by rw [HN.out]; exact Nat.le_refl _)] at this
/-- rows made one behind the other -/
theorem allocs_at : ∀ (l : List Obj) (w : World), Below w.heap.size w (l.foldl World.alloc w) ∧ ∀ (i : Nat) (o : Obj), l[i]? = some o → (l.foldl World.alloc w).heap[w.heap.size + i]? = some o := by
  intro l
  induction l with
  | nil => intro w; exact ⟨Below.refl _ w, fun i o h => by cases h⟩
  | cons a l ih =>
    intro w
    obtain ⟨h1, h2⟩ := ih (w.alloc a)
    rw [World.size_alloc] at h1 h2
    have hb : Below w.heap.size w (w.alloc a) := (Below.refl _ w).alloc (Nat.le_refl _) _
    refine ⟨hb.trans (h1.mono (by omega)), fun i o h => ?_⟩
    cases i with
    | zero =>
      have h' : a = o := by simpa using h
      subst h'
      exact (h1.block w.heap.size (by omega)).trans (heap_alloc_new w a)
    | succ i =>
      have := h2 i o (by simpa using h)
      rw [show w.heap.size + (i + 1) = w.heap.size + 1 + i by omega]
      exact this
/-- the operators of a level, as the document lays them -/
def lvlR : Nat → List ByteArray
  | 0 => [⟨#[111, 114]⟩]
  | 1 => [⟨#[97, 110, 100]⟩]
  | 2 => [⟨#[61]⟩, ⟨#[33, 61]⟩, ⟨#[60]⟩, ⟨#[60, 61]⟩, ⟨#[62]⟩, ⟨#[62, 61]⟩]
  | 3 => [⟨#[43]⟩, ⟨#[45]⟩]
  | _ => [⟨#[42]⟩]
theorem lvlR_six {lvl : Nat} (h : lvl < 5) (x : List UInt8) : amongB (lvlR lvl) x = (lvl6 lvl).any (fun s => !s.data.toList.isEmpty && s.data.toList == x) := by
  match lvl, h with
  | 0, _ => simp [lvlR, lvl6, amongB]
  | 1, _ => simp [lvlR, lvl6, amongB]
  | 2, _ => simp [lvlR, lvl6, amongB]
  | 3, _ => simp [lvlR, lvl6, amongB]
  | 4, _ => simp [lvlR, lvl6, amongB]
theorem isT_texts (t : Tok) (texts : List ByteArray) : isT t texts = ((t.1 == 6 || t.1 == 1) && texts.any (fun s => !s.data.toList.isEmpty && s.data.toList == t.2.1.data.toList)) := by
  unfold isT
  simp only [ByteArray.toList_eq]
def rowsR : List Obj := (List.range 5).map fun i => .cells ((lvlR i).map Value.string).toArray 9
def allR (b : Nat) : Obj := .cells #[.slice (some ⟨b + 1, 0, none⟩) 1 1, .slice (some ⟨b + 1 + 1, 0, none⟩) 1 1, .slice (some ⟨b + 1 + 1 + 1, 0, none⟩) 6 6, .slice (some ⟨b + 1 + 1 + 1 + 1, 0, none⟩) 2 2, .slice (some ⟨b + 1 + 1 + 1 + 1 + 1, 0, none⟩) 1 1] 38
set_option maxRecDepth 100000 in
set_option maxHeartbeats 2000000 in
theorem roper6_any {w : World} {P L cap : Nat} {ts : List Tok} {σ : PS} (h : RAt w P L cap ts σ.1 σ.2) (lvl : Nat) (hl : lvl < 5) :
    Calls Tryz.prog 161 #[.pointer (some ⟨P, 0, none⟩), .int .i64 lvl] w fun e w' => e = .returned (.bool (isM ts σ (lvl6 lvl))) ∧ Below w.heap.size w w' := by
  have HC := Lib.hid (rnow6_any h (tokM_at h.k))
  have H := Lib.hid h
  obtain ⟨tk, tx, tp, ht⟩ : ∃ a b c, tokM ts σ.1 = (a, b, c) := ⟨_, _, _, rfl⟩
  rw [ht] at HC
  have hb : isM ts σ (lvl6 lvl) = (!σ.2 && ((tk == 6 || tk == 1) && amongB (lvlR lvl) tx.data.toList)) := by
    unfold isM
    rw [ht, isT_texts, lvlR_six hl]
  rw [hb]
  obtain ⟨k, bad⟩ := σ
  obtain ⟨b, hb⟩ : ∃ b, (!(k, bad).2 && ((tk == 6 || tk == 1) && amongB (lvlR lvl) tx.data.toList)) = b := ⟨_, rfl⟩
  rw [hb]
  dsimp only at H hb
  have HBq := Lib.hid hb
  have HL := Lib.hid hl
  clear h ht hb hl
  go_enter Tryz.func161, Tryz.ntmps161
  go_wp2_with fail
  refine Calls.mono HC.out ?_
  rintro e w1 ⟨rfl, hb1⟩
  have HB := Lib.hid (hb1.alloc hb1.size (.cells #[.int .u8 tk, .string tx, .int .i64 tp] 67))
  obtain ⟨_, _, c2, _, _, _⟩ := (H.out.below hb1).cells
  have hP1 := (H.out.below hb1).lt.1
  clear hb1
  cases bad with
  | true =>
    go_wp2_with fail
    go_ret
    exact ⟨by rw [← HBq.out]; rfl, HB.out⟩
  | false =>
    have hno : tk ≠ 6 → tk ≠ 1 → b = false := fun h6 h1 => by rw [← HBq.out]; simp [h6, h1]
    have hyes : (tk = 6 ∨ tk = 1) → amongB (lvlR lvl) tx.data.toList = b := fun h => by rw [← HBq.out]; rcases h with rfl | rfl <;> simp
    have HNo := Lib.hid hno
    have HYes := Lib.hid hyes
    clear hno hyes HBq
    by_cases hk : tk = 6 ∨ tk = 1
    · have HA := Lib.hid (HYes.out hk)
      obtain ⟨W0, hW0⟩ : ∃ W0, W0 = w1.alloc (.cells #[.int .u8 tk, .string tx, .int .i64 tp] 67) := ⟨_, rfl⟩
      have hx0 : W0.heap[w1.heap.size]? = some (.cells #[.int .u8 tk, .string tx, .int .i64 tp] 67 (0, 0)) := by rw [hW0]; exact heap_alloc_new w1 _
      have hl0 : w1.heap.size < W0.heap.size := (Array.getElem?_eq_some_iff.1 hx0).1
      rw [← hW0] at HB
      have hs0 : W0.heap.size = w1.heap.size + 1 := by rw [hW0]; exact World.size_alloc _ _
      obtain ⟨W2, hW2⟩ : ∃ W2, W2 = (rowsR ++ [allR w1.heap.size]).foldl World.alloc W0 := ⟨_, rfl⟩
      obtain ⟨g1, g2⟩ := allocs_at (rowsR ++ [allR w1.heap.size]) W0
      rw [← hW2] at g1 g2
      have r0 := g2 0 _ rfl
      have r1 := g2 1 _ rfl
      have r2 := g2 2 _ rfl
      have r3 := g2 3 _ rfl
      have r4 := g2 4 _ rfl
      have r5 := g2 5 _ rfl
      rw [hs0] at r0 r1 r2 r3 r4 r5
      have hx2 := heap_below g1 hx0 hl0
      have HB2 := Lib.hid (HB.out.trans (g1.mono HB.out.size))
      obtain ⟨B, n, hc, hB, hn, hn6⟩ : ∃ B n, W2.cell? ⟨w1.heap.size + 1 + 1 + 1 + 1 + 1 + 1, lvl, none⟩ = some (.slice (some ⟨B, 0, none⟩) n n) ∧ W2.heap[B]? = some (.cells ((lvlR lvl).map Value.string).toArray 9 (0, 0)) ∧ (lvlR lvl).length = n ∧ n ≤ 6 := by
        have h5 := HL.out
        match lvl, h5 with
        | 0, _ => exact ⟨_, 1, cell_of_row _ _ _ _ _ _ r5, r0, rfl, by omega⟩
        | 1, _ => exact ⟨_, 1, cell_of_row _ _ _ _ _ _ r5, r1, rfl, by omega⟩
        | 2, _ => exact ⟨_, 6, cell_of_row _ _ _ _ _ _ r5, r2, rfl, by omega⟩
        | 3, _ => exact ⟨_, 2, cell_of_row _ _ _ _ _ _ r5, r3, rfl, by omega⟩
        | 4, _ => exact ⟨_, 1, cell_of_row _ _ _ _ _ _ r5, r4, rfl, by omega⟩
      have HBr := Lib.hid hB
      obtain ⟨x0, x1, x2, _, _, _⟩ := cells3 hx2
      have hli : (lvl : Int) < 5 := by have := HL.out; omega
      have hln : lvl < 5 := HL.out
      rw [hW0] at hW2
      have HW := Lib.hid hW2
      clear g1 g2 r0 r1 r2 r3 r4 r5 hx2 hx0 hB hW2 hW0 hs0 HB HYes HNo hl0
      rcases hk with rfl | rfl
      · go_upto_region 5 with fail
        change Code.wp _ _ _ _ ((rowsR ++ [allR w1.heap.size]).foldl World.alloc (w1.alloc (.cells #[.int .u8 ((6 : Nat) : Int), .string tx, .int .i64 tp] 67)))
        rw [← HW.out]
        go_quiet ((go_at_call 168; refine Calls.quiet_of_same ((ramong6_any (lvlR lvl) n B n 9 tx _ hn (by omega) (by exact HBr.out)).mono fun _ _ h => ⟨h.1, h.2.symm⟩)))
        go_wp2_with fail
        go_ret
        exact ⟨by rw [← HA.out]; rfl, below_drewN HB2.out _⟩
      · go_upto_region 5 with fail
        change Code.wp _ _ _ _ ((rowsR ++ [allR w1.heap.size]).foldl World.alloc (w1.alloc (.cells #[.int .u8 ((1 : Nat) : Int), .string tx, .int .i64 tp] 67)))
        rw [← HW.out]
        go_quiet ((go_at_call 168; refine Calls.quiet_of_same ((ramong6_any (lvlR lvl) n B n 9 tx _ hn (by omega) (by exact HBr.out)).mono fun _ _ h => ⟨h.1, h.2.symm⟩)))
        go_wp2_with fail
        go_ret
        exact ⟨by rw [← HA.out]; rfl, below_drewN HB2.out _⟩
    · have h6 : tk ≠ 6 := fun h => hk (Or.inl h)
      have h1 : tk ≠ 1 := fun h => hk (Or.inr h)
      have e6 : ((tk : Int) == 6) = false := by simp; omega
      have e1 : ((tk : Int) == 1) = false := by simp; omega
      have e6' : ((tk : Int) != 6) = true := by simp; omega
      have e1' : ((tk : Int) != 1) = true := by simp; omega
      have HF := Lib.hid (HNo.out h6 h1)
      clear hk h6 h1 HYes HNo
      go_wp2_with fail
      go_ret
      exact ⟨by rw [HF.out]; rfl, HB.out⟩
end Go.Proofs.YtfpohaipmnjflaaGreatDoor
