/- Several texts joined, each with its own sentence and conditions ahead of it: ParsA, ParsB, ParsC, ParsD, ParsE. -/
import Derived.Test.YtfpohaipmnjflaaGreatDoorMC
import Derived.Test.YtfpohaipmnjflaaGreatDoorMF
import Derived.Test.YtfpohaipmnjflaaGreatDoorMT
import Derived.Handy
import Derived.Test.YtfpohaipmnjflaaGreatDoorMR
import Derived.Deep.Cut
import Derived.Deep.MidRow
/- The parser's place: what stands there, going on, what must stand there; by contract. Condition: at most 16385 tokens. -/
namespace Go.Proofs.YtfpohaipmnjflaaGreatDoor
open Go.RowKit

/-- the parser's place in memory: block P holds it, block L the tokens -/
structure PAt (w : World) (P L cap : Nat) (ts : List Tok) (k : Nat) (bad : Bool) : Prop where
  p : ∃ m c, m + k = ts.length ∧ c + k = cap ∧ w.heap[P]? = some (.cells #[.slice (some ⟨L, k * 3, none⟩) m c, .bool bad] 64 (0, 0))
  l : ∃ cs : Array Value, w.heap[L]? = some (.cells cs 67 (0, 0)) ∧ ∀ (j : Nat) (u : Value), (lexCells ts)[j]? = some u → cs[j]? = some u
  k : k < ts.length
  n : ts.length ≤ 16385
  c : ts.length ≤ cap
  m : cap ≤ maxLen
theorem PAt.lt {w : World} {P L cap : Nat} {ts : List Tok} {k : Nat} {bad : Bool} (h : PAt w P L cap ts k bad) : P < w.heap.size ∧ L < w.heap.size := by
  obtain ⟨m, c, _, _, h1⟩ := h.p
  obtain ⟨cs, h2, _⟩ := h.l
  exact ⟨(Array.getElem?_eq_some_iff.1 h1).1, (Array.getElem?_eq_some_iff.1 h2).1⟩
theorem PAt.ne {w : World} {P L cap : Nat} {ts : List Tok} {k : Nat} {bad : Bool} (h : PAt w P L cap ts k bad) : P ≠ L := by
  obtain ⟨m, c, _, _, h1⟩ := h.p
  obtain ⟨cs, h2, _⟩ := h.l
  exact ne_of_type h1 h2 (by decide)
theorem PAt.keep {w w' : World} {P L cap : Nat} {ts : List Tok} {k : Nat} {bad : Bool} (h : PAt w P L cap ts k bad) (hP : w'.heap[P]? = w.heap[P]?) (hL : w'.heap[L]? = w.heap[L]?) : PAt w' P L cap ts k bad := by
  obtain ⟨m, c, e1, e2, h1⟩ := h.p
  obtain ⟨cs, h2, h3⟩ := h.l
  exact ⟨⟨m, c, e1, e2, hP.trans h1⟩, ⟨cs, hL.trans h2, h3⟩, h.k, h.n, h.c, h.m⟩
theorem PAt.below {w w' : World} {P L cap : Nat} {ts : List Tok} {k : Nat} {bad : Bool} (h : PAt w P L cap ts k bad) (hb : Below w.heap.size w w') : PAt w' P L cap ts k bad :=
  h.keep (hb.block P h.lt.1) (hb.block L h.lt.2)
theorem PAt.drew {w : World} {P L cap : Nat} {ts : List Tok} {k : Nat} {bad : Bool} (h : PAt w P L cap ts k bad) : PAt w.drew P L cap ts k bad := h.keep rfl rfl
theorem lexCells_tok : ∀ (ts : List Tok) (k : Nat) (t : Tok), ts[k]? = some t → ∀ j u, (tokCells t)[j]? = some u → (lexCells ts)[k * 3 + j]? = some u := by
  intro ts
  induction ts with
  | nil => intro k t h; simp at h
  | cons x r ih =>
    intro k t h j u hu
    have e : lexCells (x :: r) = tokCells x ++ lexCells r := by unfold lexCells; rw [List.flatMap_cons]
    have hl : (tokCells x).length = 3 := rfl
    have hj : j < 3 := (List.getElem?_eq_some_iff.1 hu).1
    rw [e]
    cases k with
    | zero =>
      simp at h
      subst h
      rw [List.getElem?_append_left (by omega), Nat.zero_mul, Nat.zero_add]
      exact hu
    | succ k =>
      rw [List.getElem?_append_right (by omega), hl]
      have := ih k t (by simpa using h) j u hu
      rw [show (k + 1) * 3 + j - 3 = k * 3 + j by omega]
      exact this
theorem PAt.tok {w : World} {P L cap : Nat} {ts : List Tok} {k : Nat} {bad : Bool} {t : Tok} (h : PAt w P L cap ts k bad) (ht : ts[k]? = some t) :
    w.cell? ⟨L, k * 3, none⟩ = some (.int .u8 t.1) ∧ w.cell? ⟨L, k * 3 + 1, none⟩ = some (.string t.2.1) ∧ w.cell? ⟨L, k * 3 + 2, none⟩ = some (.int .i64 t.2.2) := by
  obtain ⟨cs, h2, h3⟩ := h.l
  have e : ∀ j u, (tokCells t)[j]? = some u → w.cell? ⟨L, k * 3 + j, none⟩ = some u := fun j u hu => by
    rw [cell_of_row _ _ _ _ _ _ h2]; exact h3 _ _ (lexCells_tok ts k t ht j u hu)
  exact ⟨e 0 _ rfl, e 1 _ rfl, e 2 _ rfl⟩
theorem PAt.cells {w : World} {P L cap : Nat} {ts : List Tok} {k : Nat} {bad : Bool} (h : PAt w P L cap ts k bad) :
    ∃ m c, m + k = ts.length ∧ c + k = cap ∧ w.cell? ⟨P, 0, none⟩ = some (.slice (some ⟨L, k * 3, none⟩) m c) ∧ w.cell? ⟨P, 1, none⟩ = some (.bool bad) ∧ w.frozen? ⟨P, 0, none⟩ = false ∧ w.frozen? ⟨P, 1, none⟩ = false := by
  obtain ⟨m, c, e1, e2, h1⟩ := h.p
  exact ⟨m, c, e1, e2, by simp [World.cell?, h1], by simp [World.cell?, h1], by simp [World.frozen?, h1], by simp [World.frozen?, h1]⟩

theorem pnow_any {w : World} {P L cap : Nat} {ts : List Tok} {k : Nat} {bad : Bool} {t : Tok} (h : PAt w P L cap ts k bad) (ht : ts[k]? = some t) :
    Calls Tryz.prog 35 #[.pointer (some ⟨P, 0, none⟩)] w fun e w' => e = .returned (.agg #[.int .u8 t.1, .string t.2.1, .int .i64 t.2.2]) ∧ Below w.heap.size w w' := by
  obtain ⟨m, c, e1, e2, c0, c1, _, _⟩ := h.cells
  obtain ⟨t0, t1, t2⟩ := h.tok ht
  have hm : (0 : Int) < m := by have := h.k; omega
  have hm' : 0 < m := by omega
  have hP := h.lt
  have hP1 := hP.1
  have hL1 := hP.2
  clear h ht hP e1 e2
  generalize k * 3 = o at *
  generalize t.1 = tk at *
  generalize t.2.1 = tx at *
  generalize t.2.2 = tp at *
  go_enter Tryz.func35, Tryz.ntmps35
  go_wp2
  exact bodyPost_ret (v := .agg #[.int .u8 tk, .string tx, .int .i64 tp]) (by simp [results, Tryz.results35, go_sem]) rfl ⟨rfl, (Below.refl _ w).alloc (Nat.le_refl _) _⟩

/-- going on: where the parser is then -/
def nextK (n k : Nat) (bad : Bool) : Nat := if bad = false ∧ k + 1 < n then k + 1 else k
theorem nextK_lt {n k : Nat} {bad : Bool} (h : k < n) : nextK n k bad < n := by unfold nextK; split <;> omega
theorem nextK_ge {n k : Nat} {bad : Bool} : k ≤ nextK n k bad := by unfold nextK; split <;> omega
theorem nextK_bad {n k : Nat} : nextK n k true = k := by unfold nextK; rw [if_neg]; rintro ⟨h, _⟩; cases h
theorem nextK_end {n k : Nat} {bad : Bool} (h : ¬ k + 1 < n) : nextK n k bad = k := by unfold nextK; rw [if_neg]; rintro ⟨_, h'⟩; exact h h'
theorem nextK_on {n k : Nat} (h : k + 1 < n) : nextK n k false = k + 1 := by unfold nextK; rw [if_pos ⟨rfl, h⟩]
/-- a call that turns the parser's place alone -/
def Turns (w : World) (P L cap : Nat) (ts : List Tok) (k : Nat) (bad : Bool) (w' : World) : Prop := w.grownBy w' (some P) ∧ PAt w' P L cap ts k bad
theorem PAt.set {w w' : World} {P L cap : Nat} {ts : List Tok} {k k' : Nat} {bad bad' : Bool} (h : PAt w P L cap ts k bad) (hL : w'.heap[L]? = w.heap[L]?) (hk : k' < ts.length)
    (hp : ∃ m c, m + k' = ts.length ∧ c + k' = cap ∧ w'.heap[P]? = some (.cells #[.slice (some ⟨L, k' * 3, none⟩) m c, .bool bad'] 64 (0, 0))) : PAt w' P L cap ts k' bad' := by
  obtain ⟨cs, h2, h3⟩ := h.l
  exact ⟨hp, ⟨cs, hL.trans h2, h3⟩, hk, h.n, h.c, h.m⟩
theorem pnext_any {w : World} {P L cap : Nat} {ts : List Tok} {k : Nat} {bad : Bool} (h : PAt w P L cap ts k bad) :
    Calls Tryz.prog 97 #[.pointer (some ⟨P, 0, none⟩)] w fun e w' => e = .returned (.tuple #[]) ∧ Turns w P L cap ts (nextK ts.length k bad) bad w' := by
  obtain ⟨m, c, e1, e2, c0, c1, f0, f1⟩ := h.cells
  have H := Lib.hid h
  have hcm : c ≤ maxLen := by have := h.m; omega
  have hmc : m ≤ c := by have := h.c; omega
  unfold maxLen at hcm
  have hP1 := h.lt.1
  cases bad with
  | true =>
    have HK := Lib.hid (nextK_bad (n := ts.length) (k := k))
    clear h e1 e2
    go_enter Tryz.func97, Tryz.ntmps97
    go_wp2
    go_returns
    exact ⟨rfl, World.grownBy.refl w _, by rw [HK.out]; exact H.out⟩
  | false =>
    by_cases hlt : k + 1 < ts.length
    · have HK := Lib.hid (nextK_on hlt)
      have HE1 := Lib.hid e1
      have HE2 := Lib.hid e2
      have HLT := Lib.hid hlt
      have hm1 : (1 : Int) < m := by omega
      have hm2 : 1 < m := by omega
      have hm3 : (1 : Int) ≤ m := by omega
      have hc1 : ¬ (c = 1) := by omega
      clear h e1 e2 hlt
      obtain ⟨o, ho⟩ : ∃ o, k * 3 = o := ⟨_, rfl⟩
      rw [ho] at c0
      have HO := Lib.hid ho
      clear ho
      go_enter Tryz.func97, Tryz.ntmps97
      go_wp2
      go_returns
      refine ⟨rfl, grown_set (World.grownBy.refl w _) _ _, ?_⟩
      rw [HK.out]
      obtain ⟨m', c', x1, x2, hp⟩ := H.out.p
      have hmm : m' = m := by have := HE1.out; omega
      have hcc : c' = c := by have := HE2.out; omega
      subst hmm hcc
      refine H.out.set (Below.heap_setCell w _ _ L (fun e => H.out.ne e.symm)) HLT.out ⟨m' - 1, c' - 1, by omega, by omega, ?_⟩
      rw [heap_set hp 0, show (k + 1) * 3 = o + 3 by have := HO.out; omega]
      rfl
    · have HK := Lib.hid (nextK_end (bad := false) hlt)
      have hm1 : decide ((1 : Int) < m) = false := by simp; omega
      have hm2 : decide (1 < m) = false := by simp; omega
      clear h e1 e2 hlt
      go_enter Tryz.func97, Tryz.ntmps97
      go_wp2
      go_returns
      exact ⟨rfl, World.grownBy.refl w _, by rw [HK.out]; exact H.out⟩
/-- is a token one of these words and signs? -/
def isT (t : Tok) (texts : List ByteArray) : Bool := (t.1 == 6 || t.1 == 1) && texts.any (fun s => !s.toList.isEmpty && s.toList == t.2.1.toList)
def TextsAt (w : World) (B off : Nat) (texts : List ByteArray) : Prop := B < w.heap.size ∧ ∀ (i : Nat) (s : ByteArray), texts[i]? = some s → w.cell? ⟨B, off + i, none⟩ = some (.string s)
theorem isT_step {t : Tok} {texts : List ByteArray} {j : Nat} {s : ByteArray} (hs : texts[j]? = some s) (h : isT t (texts.take j) = false) :
    isT t (texts.take (j + 1)) = ((t.1 == 6 || t.1 == 1) && (!s.toList.isEmpty && s.toList == t.2.1.toList)) := by
  unfold isT at h ⊢
  rw [List.take_add_one, hs, List.any_append]
  cases hk : (t.1 == 6 || t.1 == 1)
  · rfl
  · rw [hk] at h
    simp only [Bool.true_and] at h ⊢
    rw [h]; simp
theorem isT_yes {t : Tok} {texts : List ByteArray} {j : Nat} {s : ByteArray} (hs : texts[j]? = some s) (hk : (t.1 == 6 || t.1 == 1) = true) (h : (!s.toList.isEmpty && s.toList == t.2.1.toList) = true) : isT t texts = true := by
  unfold isT
  rw [hk, Bool.true_and, List.any_eq_true]
  exact ⟨s, List.mem_of_getElem? hs, h⟩
theorem pis_any {w : World} {P L cap : Nat} {ts : List Tok} {k : Nat} {bad : Bool} {t : Tok} (h : PAt w P L cap ts k bad) (ht : ts[k]? = some t) (B off n c : Nat) (texts : List ByteArray) (hB : TextsAt w B off texts) (hn : texts.length = n) (hn2 : n ≤ 100) :
    Calls Tryz.prog 96 #[.pointer (some ⟨P, 0, none⟩), .slice (some ⟨B, off, none⟩) n c] w fun e w' => e = .returned (.bool (!bad && isT t texts)) ∧ Below w.heap.size w w' := by
  have HC := Lib.hid (pnow_any h ht)
  have HB := Lib.hid hB
  have HN := Lib.hid hn
  have H := Lib.hid h
  have HSt := Lib.hid (fun (j : Nat) (s : ByteArray) => @isT_step t texts j s)
  have HYes := Lib.hid (fun (j : Nat) (s : ByteArray) => @isT_yes t texts j s)
  clear h ht hB hn
  obtain ⟨isF, hisF⟩ : ∃ isF : List ByteArray → Bool, isF = isT t := ⟨_, rfl⟩
  have H0 : Hid (isF (texts.take 0) = false) := by show _ = _; rw [hisF]; unfold isT; simp
  rw [← hisF] at HSt HYes ⊢
  clear hisF
  obtain ⟨tk, tx, tp⟩ := t
  go_enter Tryz.func96, Tryz.ntmps96
  go_wp2_with fail
  refine Calls.mono HC.out ?_
  rintro e w1 ⟨rfl, hb1⟩
  go_wp2_with fail
  obtain ⟨W0, hW0⟩ : ∃ W0, W0 = (w1.alloc (.cells #[.int .u8 tk, .string tx, .int .i64 tp] 67)) := ⟨_, rfl⟩
  have hb0 : Below w.heap.size w W0 := by rw [hW0]; exact hb1.alloc hb1.size _
  have x := heap_alloc_new w1 (.cells #[.int .u8 tk, .string tx, .int .i64 tp] 67)
  rw [← hW0] at x ⊢
  have HX := Lib.hid x
  have HB0 := Lib.hid hb0
  clear hW0 x hb0
  go_loop [12] (fun i => ∃ j : Nat, j ≤ n ∧ i = .int .i64 j ∧ isF (texts.take j) = false) (fun i => n - (intOf i).toNat)
  case atStart => exact ⟨0, Nat.zero_le _, rfl, H0.out⟩
  case round =>
    obtain ⟨j, hj, rfl, hno⟩ := hrel
    have HNO := Lib.hid hno
    clear hno
    by_cases hlt : j < n
    · obtain ⟨s, hs⟩ : ∃ s, texts[j]? = some s := ⟨texts[j]'(by rw [HN.out]; exact hlt), List.getElem?_eq_getElem (by rw [HN.out]; exact hlt)⟩
      have c0 := (HB0.out.cell (p := ⟨B, off + j, none⟩) HB.out.1).trans (HB.out.2 j s hs)
      obtain ⟨x0, x1, x2, _, _, _⟩ := cells3 HX.out
      obtain ⟨_, _, _, _, _, c1, _, _⟩ := (H.out.below HB0.out).cells
      have HS := Lib.hid hs
      have HNext := Lib.hid (HSt.out j s hs HNO.out)
      have HHit := Lib.hid (HYes.out j s hs)
      clear hs HSt HYes
      have no : ∀ b : Bool, isF (texts.take (j + 1)) = b → b = false → ((∃ j' : Nat, j' ≤ n ∧ Value.int .i64 ((j : Int) + 1) = .int .i64 j' ∧ isF (texts.take j') = false) ∧ n - (intOf (.int .i64 ((j : Int) + 1))).toNat < n - (intOf (.int .i64 j)).toNat) := fun b hb hb' =>
        ⟨⟨j + 1, by omega, by go_num, hb.trans hb'⟩, by simp [intOf]; omega⟩
      have HNo := Lib.hid no
      clear no
      by_cases h1 : s.toList = []
      · have HH := Lib.hid h1
        go_wp2_with fail
        exact HNo.out _ HNext.out (by rw [HH.out]; simp)
      · by_cases h2 : s.toList = tx.toList
        · have h3 : ¬ tx.toList = [] := by rw [← h2]; exact h1
          have h4 : (!tx.toList.isEmpty) = true := by cases hx : tx.toList with | nil => exact absurd hx h3 | cons _ _ => rfl
          have HH : Hid ((!s.toList.isEmpty && s.toList == tx.toList) = true) := by show _ = _; rw [h2]; simp [h3]
          by_cases hk : tk = 6
          · have hk' : ((tk : Int) == 6) = true := by rw [hk]; rfl
            have hyes := HHit.out (by show (tk == 6 || tk == 1) = true; rw [hk]; rfl) HH.out
            have HY := Lib.hid hyes
            clear hk hyes
            go_wp2_with fail
            go_ret
            exact ⟨by rw [HY.out, Bool.and_true]; rfl, HB0.out⟩
          · have hk' : ((tk : Int) == 6) = false := by simp; omega
            by_cases hk1 : tk = 1
            · have hk1' : ((tk : Int) == 1) = true := by rw [hk1]; rfl
              have hyes := HHit.out (by show (tk == 6 || tk == 1) = true; rw [hk1]; rfl) HH.out
              have HY := Lib.hid hyes
              clear hk hk1 hyes
              go_wp2_with fail
              go_ret
              exact ⟨by rw [HY.out, Bool.and_true]; rfl, HB0.out⟩
            · have hk1' : ((tk : Int) == 1) = false := by simp; omega
              have HN2 : Hid (((tk == 6 || tk == 1) && (!s.toList.isEmpty && s.toList == tx.toList)) = false) := by show _ = _; simp [hk, hk1]
              clear hk hk1
              go_wp2_with fail
              exact HNo.out _ HNext.out HN2.out
        · have HN2 : Hid (((tk == 6 || tk == 1) && (!s.toList.isEmpty && s.toList == tx.toList)) = false) := by show _ = _; simp [h2]
          go_wp2_with fail
          exact HNo.out _ HNext.out HN2.out
    · obtain rfl : j = n := by omega
      have e : texts.take j = texts := by rw [← HN.out]; exact List.take_length
      have HF : Hid (isF texts = false) := by show _ = _; rw [← e]; exact HNO.out
      clear e
      go_wp2_with fail
      go_ret
      exact ⟨by rw [HF.out, Bool.and_false]; rfl, HB0.out⟩
/-- a call behind which the parser stands elsewhere; what it hands back -/
theorem Turns.trans {w w1 w2 : World} {P L cap : Nat} {ts : List Tok} {k k2 : Nat} {bad bad2 : Bool} (h : Turns w P L cap ts k bad w1) (h2 : Turns w1 P L cap ts k2 bad2 w2) : Turns w P L cap ts k2 bad2 w2 :=
  ⟨World.grownBy.trans h.1 h2.1, h2.2⟩
theorem Turns.of_below {w w1 w2 : World} {P L cap : Nat} {ts : List Tok} {k : Nat} {bad : Bool} (h : Turns w P L cap ts k bad w1) (hb : Below w1.heap.size w1 w2) : Turns w P L cap ts k bad w2 :=
  ⟨grown_below h.1 hb, h.2.below hb⟩
theorem Turns.of_drew {w w1 : World} {P L cap : Nat} {ts : List Tok} {k : Nat} {bad : Bool} (h : Turns w.drew P L cap ts k bad w1) : Turns w P L cap ts k bad w1 :=
  ⟨World.grownBy.trans (grown_drewN (World.grownBy.refl w _) 1) h.1, h.2⟩
theorem PAt.turns {w w1 : World} {P L cap : Nat} {ts : List Tok} {k : Nat} {bad : Bool} (h : PAt w P L cap ts k bad) (hb : Below w.heap.size w w1) : Turns w P L cap ts k bad w1 :=
  ⟨grown_of_below hb _, h.below hb⟩
/-- the place behind a word or sign that may stand there -/
def skipK (ts : List Tok) (k : Nat) (bad : Bool) (t : Tok) (texts : List ByteArray) : Nat := if (!bad && isT t texts) = true then nextK ts.length k bad else k
theorem pskip_any {w : World} {P L cap : Nat} {ts : List Tok} {k : Nat} {bad : Bool} {t : Tok} (h : PAt w P L cap ts k bad) (ht : ts[k]? = some t) (B off n c : Nat) (texts : List ByteArray) (hB : TextsAt w B off texts) (hn : texts.length = n) (hn2 : n ≤ 100) :
    Calls Tryz.prog 56 #[.pointer (some ⟨P, 0, none⟩), .slice (some ⟨B, off, none⟩) n c] w fun e w' => e = .returned (.bool (!bad && isT t texts)) ∧ Turns w P L cap ts (skipK ts k bad t texts) bad w' := by
  have HC := Lib.hid (pis_any h ht B off n c texts hB hn hn2)
  have H := Lib.hid h
  unfold skipK
  clear h ht hB hn
  generalize (!bad && isT t texts) = b at *
  go_enter Tryz.func56, Tryz.ntmps56
  go_wp2_with fail
  refine Calls.mono HC.out ?_
  rintro e w1 ⟨rfl, hb1⟩
  cases b with
  | false =>
    have HB := Lib.hid hb1
    clear hb1
    go_wp2_with fail
    go_ret
    exact ⟨rfl, H.out.turns HB.out⟩
  | true =>
    have HB := Lib.hid hb1
    have HN := Lib.hid (pnext_any (H.out.below hb1))
    clear hb1
    go_wp2_with fail
    refine Calls.mono HN.out ?_
    rintro e w2 ⟨rfl, ht2⟩
    have HT := Lib.hid ht2
    clear ht2
    go_wp2_with fail
    go_ret
    exact ⟨rfl, (H.out.turns HB.out).trans HT.out⟩
/-- the place behind a word or sign that must stand there, and whether it did not -/
def wantK (ts : List Tok) (k : Nat) (bad : Bool) (t : Tok) (x : ByteArray) : Nat := skipK ts k bad t [x]
def wantB (bad : Bool) (t : Tok) (x : ByteArray) : Bool := !(!bad && isT t [x])
theorem textsAt_new {w : World} (l : List ByteArray) : TextsAt (w.alloc (.cells (l.map Value.string).toArray 9)) w.heap.size 0 l :=
  ⟨by simp, fun i s hs => by
    have hb : (w.alloc (.cells (l.map Value.string).toArray 9)).heap[w.heap.size]? = some (.cells (l.map Value.string).toArray 9 (0, 0)) := heap_alloc_new w _
    rw [cell_of_row _ _ _ _ _ _ hb]; simp [hs]⟩
theorem PAt.setBad {w : World} {P L cap : Nat} {ts : List Tok} {k : Nat} {bad : Bool} (h : PAt w P L cap ts k bad) (b : Bool) : Turns w P L cap ts k b (w.setCell ⟨P, 1, none⟩ (.bool b)) := by
  refine ⟨grown_set (World.grownBy.refl w _) _ _, ?_⟩
  obtain ⟨m, c, e1, e2, hp⟩ := h.p
  refine h.set (Below.heap_setCell w _ _ L (fun e => h.ne e.symm)) h.k ⟨m, c, e1, e2, ?_⟩
  rw [heap_set hp 1]; rfl
theorem pwant_any {w : World} {P L cap : Nat} {ts : List Tok} {k : Nat} {bad : Bool} {t : Tok} (h : PAt w P L cap ts k bad) (ht : ts[k]? = some t) (x : ByteArray) :
    Calls Tryz.prog 60 #[.pointer (some ⟨P, 0, none⟩), .string x] w fun e w' => e = .returned (.tuple #[]) ∧ Turns w P L cap ts (wantK ts k bad t x) (wantB bad t x) w' := by
  have hb0 : Below w.heap.size w (w.alloc (.cells #[.string x] 9)) := (Below.refl _ w).alloc (Nat.le_refl _) _
  have HC := Lib.hid (pskip_any (h.below hb0) ht w.heap.size 0 1 1 [x] (textsAt_new [x]) rfl (by omega))
  have H := Lib.hid (h.turns hb0)
  unfold wantK wantB
  clear h ht hb0
  generalize skipK ts k bad t [x] = k' at *
  obtain ⟨b, hb⟩ : ∃ b, (!bad && isT t [x]) = b := ⟨_, rfl⟩
  rw [hb] at HC ⊢
  have HBb := Lib.hid hb
  clear hb
  go_enter Tryz.func60, Tryz.ntmps60
  go_wp2_with fail
  refine Calls.mono HC.out ?_
  rintro e w1 ⟨rfl, ht1⟩
  have HT := Lib.hid (H.out.trans ht1)
  clear ht1
  cases b with
  | true =>
    go_wp2_with fail
    go_returns
    have hbad : bad = false := by have := HBb.out; cases bad <;> simp at this ⊢
    have e : Turns w P L cap ts k' false w1 := by rw [← hbad]; exact HT.out
    exact ⟨rfl, e⟩
  | false =>
    obtain ⟨_, _, _, _, _, c1, f0, f1⟩ := HT.out.2.cells
    go_wp2_with fail
    go_returns
    exact ⟨rfl, HT.out.trans (HT.out.2.setBad true)⟩
theorem grownBy_keep {w w' : World} {P i : Nat} {o : Obj} (hg : w.grownBy w' (some P)) (h : w.heap[i]? = some o) (hne : P ≠ i) : w'.heap[i]? = some o := heap_grown hg h (by rintro e; injection e with e; exact hne e.symm)
theorem Turns.setCell {w W : World} {P L cap : Nat} {ts : List Tok} {k : Nat} {bad : Bool} (h : Turns w P L cap ts k bad W) (hP : P < w.heap.size) (hL : L < w.heap.size) {b : Nat} (hb : w.heap.size ≤ b) (i : Nat) (v : Value) : Turns w P L cap ts k bad (W.setCell ⟨b, i, none⟩ v) :=
  ⟨grown_set_far h.1 hb _ _, h.2.keep (Below.heap_setCell W _ _ P (by show P ≠ b; omega)) (Below.heap_setCell W _ _ L (by show L ≠ b; omega))⟩
theorem Turns.alloc {w W : World} {P L cap : Nat} {ts : List Tok} {k : Nat} {bad : Bool} (h : Turns w P L cap ts k bad W) (o : Obj) : Turns w P L cap ts k bad (W.alloc o) := h.of_below ((Below.refl _ W).alloc (Nat.le_refl _) _)
/-- a fresh block stands behind a call that turns the parser's place -/
theorem Turns.box {w W W' : World} {P L cap : Nat} {ts : List Tok} {k : Nat} {bad : Bool} (h : Turns W P L cap ts k bad W') {b : Nat} {o : Obj} (ho : W.heap[b]? = some o) (hP : P < w.heap.size) (hb : w.heap.size ≤ b) : W'.heap[b]? = some o := grownBy_keep h.1 ho (by omega)
def zeroN : Array Value := #[.int .u8 0, .string ⟨#[]⟩, .int .i64 0, .int .i64 0, .slice none 0 0]
theorem heap_set5 {W : World} {b : Nat} {c0 c1 c2 c3 c4 : Value} {t : TypeId} (h : W.heap[b]? = some (.cells #[c0, c1, c2, c3, c4] t (0, 0))) (v0 v1 v2 v3 v4 : Value) :
    (((((W.setCell ⟨b, 0, none⟩ v0).setCell ⟨b, 1, none⟩ v1).setCell ⟨b, 2, none⟩ v2).setCell ⟨b, 3, none⟩ v3).setCell ⟨b, 4, none⟩ v4).heap[b]? = some (.cells #[v0, v1, v2, v3, v4] t (0, 0)) := by
  rw [heap_set (heap_set (heap_set (heap_set (heap_set h 0 v0) 1 v1) 2 v2) 3 v3) 4 v4]
  rfl
/-- a function hands back the node that lies in its result's block -/
theorem ret_node {fn : Func} {R : Ending → World → Prop} {a : Act} {W : World} {slot T : Nat} {v0 v1 v2 v3 v4 : Value} (hr : fn.results = #[.cell slot 25]) (hs : a.tmps.getD slot undef = .pointer (some ⟨T, 0, none⟩))
    (hT : W.heap[T]? = some (.cells #[v0, v1, v2, v3, v4] 25 (0, 0))) (hd : a.defers = []) (hR : R (.returned (.agg #[v0, v1, v2, v3, v4])) W) : bodyPost Tryz.prog fn R .ret a W := by
  obtain ⟨c0, c1, c2, c3, c4⟩ := cells5 hT
  have hs' : a.tmps[slot]?.getD undef = .pointer (some ⟨T, 0, none⟩) := by simpa using hs
  refine bodyPost_ret (v := .agg #[v0, v1, v2, v3, v4]) ?_ hd hR
  simp [results, hr, go_sem, hs', c0, c1, c2, c3, c4]
theorem pof_any {w : World} {P L cap : Nat} {ts : List Tok} {k : Nat} {bad : Bool} {t : Tok} (h : PAt w P L cap ts k bad) (ht : ts[k]? = some t) (tok kind : Nat) :
    Calls Tryz.prog 98 #[.pointer (some ⟨P, 0, none⟩), .int .u8 tok, .int .u8 kind] w fun e w' => e = .returned (.agg #[.int .u8 kind, .string t.2.1, .int .i64 0, .int .i64 t.2.2, .slice none 0 0]) ∧
      Turns w P L cap ts (nextK ts.length k (bad || t.1 != tok)) (bad || t.1 != tok) w' := by
  obtain ⟨tk, tx, tp⟩ := t
  obtain ⟨b, hb⟩ : ∃ b, (bad || tk != tok) = b := ⟨_, rfl⟩
  show Calls _ _ _ _ fun e w' => e = _ ∧ Turns w P L cap ts (nextK ts.length k (bad || tk != tok)) (bad || tk != tok) w'
  rw [hb]
  have HBq := Lib.hid hb
  clear hb
  have hb0 : Below w.heap.size w (w.alloc (.cells #[.int .u8 0, .string ⟨#[]⟩, .int .i64 0, .int .i64 0, .slice none 0 0] 25)) := (Below.refl _ w).alloc (Nat.le_refl _) _
  have HC := Lib.hid (pnow_any (h.below hb0) ht)
  have H := Lib.hid (h.turns hb0)
  have hP := h.lt.1
  have HL := Lib.hid (h.lt.2)
  clear h ht hb0
  go_enter Tryz.func98, Tryz.ntmps98
  go_wp2_with fail
  refine Calls.mono HC.out ?_
  rintro e w1 ⟨rfl, hb1⟩
  have HT := Lib.hid (H.out.of_below hb1)
  have x0 := heap_below hb1 (heap_alloc_new w (.cells #[.int .u8 0, .string ⟨#[]⟩, .int .i64 0, .int .i64 0, .slice none 0 0] 25)) (by simp)
  have hbW : Below w1.heap.size w1 (w1.alloc (.cells #[.int .u8 tk, .string tx, .int .i64 tp] 67)) := (Below.refl _ w1).alloc (Nat.le_refl _) _
  have HX1 := Lib.hid (heap_alloc_new w1 (.cells #[.int .u8 tk, .string tx, .int .i64 tp] 67))
  have HT1 := Lib.hid (HT.out.of_below hbW)
  have HX0 := Lib.hid (heap_below hbW x0 (Array.getElem?_eq_some_iff.1 x0).1)
  obtain ⟨_, _, _, _, c0, c1, f0, f1⟩ := HT.out.2.cells
  have hP1 := HT.out.2.lt.1
  have hl1 : w.heap.size < w1.heap.size := (Array.getElem?_eq_some_iff.1 x0).1
  have HXw := Lib.hid x0
  clear x0 hbW hb1
  have fin : ∀ (W : World) (b : Bool), Turns w P L cap ts (nextK ts.length k b) b W → ∀ v0 v1 v2 v3 v4, Turns w P L cap ts (nextK ts.length k b) b (((((W.setCell ⟨w.heap.size, 0, none⟩ v0).setCell ⟨w.heap.size, 1, none⟩ v1).setCell ⟨w.heap.size, 2, none⟩ v2).setCell ⟨w.heap.size, 3, none⟩ v3).setCell ⟨w.heap.size, 4, none⟩ v4) := fun W b h v0 v1 v2 v3 v4 =>
    ((((h.setCell hP HL.out (Nat.le_refl _) 0 v0).setCell hP HL.out (Nat.le_refl _) 1 v1).setCell hP HL.out (Nat.le_refl _) 2 v2).setCell hP HL.out (Nat.le_refl _) 3 v3).setCell hP HL.out (Nat.le_refl _) 4 v4
  have HFin := Lib.hid fin
  clear fin
  by_cases hk : tk = tok
  · have hk' : ((tk : Int) != tok) = false := by simp; omega
    obtain rfl : bad = b := by rw [← HBq.out, hk]; simp
    have HN := Lib.hid (pnext_any HT1.out.2)
    clear hk
    go_wp2_with fail
    refine Calls.mono HN.out ?_
    rintro e w2 ⟨rfl, ht2⟩
    have y0 := ht2.box HX0.out hP (Nat.le_refl _)
    have y1 := ht2.box HX1.out hP (Nat.le_of_lt hl1)
    have HT2 := Lib.hid (HT1.out.trans ht2)
    have HY0 := Lib.hid y0
    obtain ⟨a0, a1, a2, a3, a4⟩ := cells5 y0
    have z0 := frozen5 y0 0
    have z1 := frozen5 y0 1
    have z2 := frozen5 y0 2
    have z3 := frozen5 y0 3
    have z4 := frozen5 y0 4
    obtain ⟨b0, b1, b2, _, _, _⟩ := cells3 y1
    clear ht2 y0 y1
    go_wp2_with fail
    exact ret_node Tryz.results98 rfl (heap_set5 HY0.out _ _ _ _ _) rfl ⟨rfl, HFin.out _ _ HT2.out _ _ _ _ _⟩
  · have hk' : ((tk : Int) != tok) = true := by simp; omega
    obtain rfl : b = true := by rw [← HBq.out]; simp [hk]
    have hTb := (HT.out.trans (HT.out.2.setBad true)).alloc (.cells #[.int .u8 tk, .string tx, .int .i64 tp] 67)
    have hX0 := (HT.out.2.setBad true).box HXw.out hP (Nat.le_refl _)
    have hX0' := (Below.heap_alloc _ (.cells #[.int .u8 tk, .string tx, .int .i64 tp] 67) _ (Array.getElem?_eq_some_iff.1 hX0).1).trans hX0
    have hX1 := heap_alloc_new (w1.setCell ⟨P, 1, none⟩ (.bool true)) (.cells #[.int .u8 tk, .string tx, .int .i64 tp] 67)
    have hsz : (w1.setCell ⟨P, 1, none⟩ (.bool true)).heap.size = w1.heap.size := by simp [World.setCell]
    rw [hsz] at hX1
    have HN := Lib.hid (pnext_any hTb.2)
    have HTb := Lib.hid hTb
    have HXa := Lib.hid hX0'
    have HXb := Lib.hid hX1
    clear hk hTb hX0 hX0' hX1 hsz
    go_wp2_with fail
    refine Calls.mono HN.out ?_
    rintro e w2 ⟨rfl, ht2⟩
    have y0 := ht2.box HXa.out hP (Nat.le_refl _)
    have y1 := ht2.box HXb.out hP (Nat.le_of_lt hl1)
    have HT2 := Lib.hid (HTb.out.trans ht2)
    have HY0 := Lib.hid y0
    obtain ⟨a0, a1, a2, a3, a4⟩ := cells5 y0
    have z0 := frozen5 y0 0
    have z1 := frozen5 y0 1
    have z2 := frozen5 y0 2
    have z3 := frozen5 y0 3
    have z4 := frozen5 y0 4
    obtain ⟨b0, b1, b2, _, _, _⟩ := cells3 y1
    clear ht2 y0 y1
    go_wp2_with fail
    exact ret_node Tryz.results98 rfl (heap_set5 HY0.out _ _ _ _ _) rfl ⟨rfl, HFin.out _ _ HT2.out _ _ _ _ _⟩
end Go.Proofs.YtfpohaipmnjflaaGreatDoor
/- The parser: what a call that reads a node hands back; names, fields; by contract. Condition: at most 16385 tokens, each of at most 16384 bytes. -/
namespace Go.Proofs.YtfpohaipmnjflaaGreatDoor
open Go.RowKit

/-- the parser's place, and whether the token at it may not be there -/
abbrev PS := Nat × Bool
/-- tokens as the scanner hands them out -/
structure TsOk (ts : List Tok) : Prop where
  each : ∀ t ∈ ts, t.1 < 256 ∧ t.2.1.size ≤ 16384 ∧ t.2.2 ≤ 16384
  last : ∀ k t, ts[k]? = some t → ¬ k + 1 < ts.length → t.1 = 7
def tokM (ts : List Tok) (k : Nat) : Tok := ts.getD k (7, ⟨#[]⟩, 0)
theorem tokM_at {ts : List Tok} {k : Nat} (h : k < ts.length) : ts[k]? = some (tokM ts k) := by
  unfold tokM
  rw [List.getD_eq_getElem?_getD, List.getElem?_eq_getElem h]; rfl
theorem tokM_ok {ts : List Tok} (h : TsOk ts) (k : Nat) : (tokM ts k).1 < 256 ∧ (tokM ts k).2.1.size ≤ 16384 ∧ (tokM ts k).2.2 ≤ 16384 := by
  by_cases hk : k < ts.length
  · exact h.each _ (List.mem_of_getElem? (tokM_at hk))
  · unfold tokM
    rw [List.getD_eq_getElem?_getD, List.getElem?_eq_none (by omega)]
    exact ⟨by show 7 < 256; omega, by show (0 : Nat) ≤ 16384; omega, by show (0 : Nat) ≤ 16384; omega⟩
/-- what a call that reads a node hands back -/
def NodeRes (w : World) (P L cap : Nat) (ts : List Tok) (r : Tree × PS) (e : Ending) (w' : World) : Prop :=
  ∃ (d : Nat) (s : Value), e = .returned (.agg #[.int .u8 r.1.kind, .string r.1.text, .int .i64 r.1.num, .int .i64 r.1.place, s]) ∧ Turns w P L cap ts r.2.1 r.2.2 w' ∧ OwnAt w' d r.1.kids s (Between w.heap.size w'.heap.size) ∧ Fits r.1
def set5 (W : World) (b : Nat) (v0 v1 v2 v3 v4 : Value) : World := ((((W.setCell ⟨b, 0, none⟩ v0).setCell ⟨b, 1, none⟩ v1).setCell ⟨b, 2, none⟩ v2).setCell ⟨b, 3, none⟩ v3).setCell ⟨b, 4, none⟩ v4
theorem set5_size (W : World) (b : Nat) (v0 v1 v2 v3 v4 : Value) : (set5 W b v0 v1 v2 v3 v4).heap.size = W.heap.size := by simp [set5, World.setCell]
theorem set5_other {W : World} {b g : Nat} (h : g ≠ b) (v0 v1 v2 v3 v4 : Value) : (set5 W b v0 v1 v2 v3 v4).heap[g]? = W.heap[g]? := by
  unfold set5
  exact (Below.heap_setCell _ _ _ g h).trans ((Below.heap_setCell _ _ _ g h).trans ((Below.heap_setCell _ _ _ g h).trans ((Below.heap_setCell _ _ _ g h).trans (Below.heap_setCell _ _ _ g h))))
section
variable {w W W' : World} {P L cap : Nat} {ts : List Tok} {k : Nat} {bad : Bool}
theorem Turns.set5 (h : Turns w P L cap ts k bad W) (hP : P < w.heap.size) (hL : L < w.heap.size) {b : Nat} (hb : w.heap.size ≤ b) (v0 v1 v2 v3 v4 : Value) : Turns w P L cap ts k bad (set5 W b v0 v1 v2 v3 v4) :=
  ((((h.setCell hP hL hb 0 v0).setCell hP hL hb 1 v1).setCell hP hL hb 2 v2).setCell hP hL hb 3 v3).setCell hP hL hb 4 v4
/-- a node, read by a call behind which its cells are stored in a block of the caller's own -/
theorem NodeRes.stored {r : Tree × PS} {s : Value} {d B b : Nat} (hP : P < w.heap.size) (hL : L < w.heap.size) (hT : Turns w P L cap ts r.2.1 r.2.2 W) (ho : OwnAt W d r.1.kids s (Between B W.heap.size)) (hf : Fits r.1)
    (hb : w.heap.size ≤ b) (hB : b < B) (v0 v1 v2 v3 v4 : Value) : NodeRes w P L cap ts r (.returned (.agg #[.int .u8 r.1.kind, .string r.1.text, .int .i64 r.1.num, .int .i64 r.1.place, s])) (YtfpohaipmnjflaaGreatDoor.set5 W b v0 v1 v2 v3 v4) := by
  refine ⟨d, s, rfl, hT.set5 hP hL hb _ _ _ _ _, ?_, hf⟩
  refine (ho.keep fun x o hx h => (set5_other (by have := hx.1; omega) _ _ _ _ _).trans h).sub fun x hx => ?_
  have := hx.1
  exact ⟨by omega, by rw [set5_size]; exact hx.2⟩
end
theorem own_nil (W : World) (F : Nat → Prop) : OwnAt W 0 [] (.slice none 0 0) F := ⟨rfl, Or.inl rfl⟩
/-- a token of a kind that must stand there -/
def ofM (ts : List Tok) (σ : PS) (tok kind : Nat) : Tree × PS :=
  (.mk kind (tokM ts σ.1).2.1 0 (tokM ts σ.1).2.2 [], nextK ts.length σ.1 (σ.2 || (tokM ts σ.1).1 != tok), (σ.2 || (tokM ts σ.1).1 != tok))
theorem ofM_fits {ts : List Tok} (h : TsOk ts) (σ : PS) (tok kind : Nat) (hk : kind < 256) : Fits (ofM ts σ tok kind).1 := by
  obtain ⟨_, h2, h3⟩ := tokM_ok h σ.1
  exact ⟨hk, by show (tokM ts σ.1).2.1.size ≤ maxLen; unfold maxLen; omega, by show (-9223372036854775808 : Int) ≤ 0; omega, by show (0 : Int) < 9223372036854775808; omega, by show (-9223372036854775808 : Int) ≤ (tokM ts σ.1).2.2; omega, by show ((tokM ts σ.1).2.2 : Int) < 9223372036854775808; omega⟩
theorem pof_res {w : World} {P L cap : Nat} {ts : List Tok} (hts : TsOk ts) {σ : PS} (h : PAt w P L cap ts σ.1 σ.2) (tok kind : Nat) (hk : kind < 256) :
    Calls Tryz.prog 98 #[.pointer (some ⟨P, 0, none⟩), .int .u8 tok, .int .u8 kind] w (NodeRes w P L cap ts (ofM ts σ tok kind)) :=
  (pof_any h (tokM_at h.k) tok kind).mono fun _e _ ⟨he, ht⟩ => ⟨0, .slice none 0 0, he, ht, own_nil _ _, ofM_fits hts σ tok kind hk⟩
set_option maxHeartbeats 1000000 in
theorem pname_any {w : World} {P L cap : Nat} {ts : List Tok} (hts : TsOk ts) {σ : PS} (h : PAt w P L cap ts σ.1 σ.2) (kind : Nat) (hk : kind < 256) :
    Calls Tryz.prog 57 #[.pointer (some ⟨P, 0, none⟩), .int .u8 kind] w (NodeRes w P L cap ts (ofM ts σ 2 kind)) := by
  have hb0 : Below w.heap.size w (w.alloc (.cells #[.int .u8 0, .string ⟨#[]⟩, .int .i64 0, .int .i64 0, .slice none 0 0] 25)) := (Below.refl _ w).alloc (Nat.le_refl _) _
  have HC := Lib.hid (pof_res hts (h.below hb0) 2 kind hk)
  have H0 := Lib.hid (h.turns hb0)
  have hP := h.lt.1
  have HL := Lib.hid h.lt.2
  have HX := Lib.hid (heap_alloc_new w (.cells #[.int .u8 0, .string ⟨#[]⟩, .int .i64 0, .int .i64 0, .slice none 0 0] 25))
  clear h hb0
  generalize ofM ts σ 2 kind = r at *
  go_enter Tryz.func57, Tryz.ntmps57
  go_wp2_with fail
  refine Calls.mono HC.out ?_
  rintro e w1 ⟨d, s, rfl, hT, ho, hf⟩
  obtain ⟨p, c, rfl⟩ := ho.shape
  have x1 := hT.box HX.out hP (Nat.le_refl _)
  have HX1 := Lib.hid x1
  obtain ⟨a0, a1, a2, a3, a4⟩ := cells5 x1
  have z0 := frozen5 x1 0
  have z1 := frozen5 x1 1
  have z2 := frozen5 x1 2
  have z3 := frozen5 x1 3
  have z4 := frozen5 x1 4
  have HT := Lib.hid (H0.out.trans hT)
  have HO := Lib.hid ho
  have HF := Lib.hid hf
  clear x1 hT ho hf
  go_wp2_with fail
  exact ret_node Tryz.results57 rfl (heap_set5 HX1.out _ _ _ _ _) rfl (NodeRes.stored hP HL.out HT.out HO.out HF.out (Nat.le_refl _) (by simp) _ _ _ _ _)
end Go.Proofs.YtfpohaipmnjflaaGreatDoor
/- The parser as a plain function of the tokens: expressions. No condition. -/
namespace Go.Proofs.YtfpohaipmnjflaaGreatDoor
open Go.RowKit

def isM (ts : List Tok) (σ : PS) (texts : List ByteArray) : Bool := !σ.2 && isT (tokM ts σ.1) texts
def nextM (ts : List Tok) (σ : PS) : PS := (nextK ts.length σ.1 σ.2, σ.2)
def skipM (ts : List Tok) (σ : PS) (texts : List ByteArray) : PS := if isM ts σ texts = true then nextM ts σ else σ
def wantM (ts : List Tok) (σ : PS) (x : ByteArray) : PS := (wantK ts σ.1 σ.2 (tokM ts σ.1) x, wantB σ.2 (tokM ts σ.1) x)
def atM (ts : List Tok) (σ : PS) : Int := (tokM ts σ.1).2.2
def txM (ts : List Tok) (σ : PS) : ByteArray := (tokM ts σ.1).2.1
def kdM (ts : List Tok) (σ : PS) : Nat := (tokM ts σ.1).1
theorem skipM_place (ts : List Tok) (σ : PS) (texts : List ByteArray) : (skipM ts σ texts).1 = skipK ts σ.1 σ.2 (tokM ts σ.1) texts ∧ (skipM ts σ texts).2 = σ.2 := by
  unfold skipM skipK isM
  split
  · exact ⟨rfl, rfl⟩
  · exact ⟨rfl, rfl⟩
def zeroT : Tree := .mk 0 ⟨#[]⟩ 0 0 []
def tMinus : ByteArray := ⟨#[45]⟩
def tNot : ByteArray := ⟨#[110, 111, 116]⟩
def tOpen : ByteArray := ⟨#[40]⟩
def tShut : ByteArray := ⟨#[41]⟩
/-- the operators of a level, as the program lays them -/
def lvl6 : Nat → List ByteArray
  | 0 => [⟨#[111, 114]⟩, ⟨#[]⟩, ⟨#[]⟩, ⟨#[]⟩, ⟨#[]⟩, ⟨#[]⟩]
  | 1 => [⟨#[97, 110, 100]⟩, ⟨#[]⟩, ⟨#[]⟩, ⟨#[]⟩, ⟨#[]⟩, ⟨#[]⟩]
  | 2 => [⟨#[61]⟩, ⟨#[33, 61]⟩, ⟨#[60]⟩, ⟨#[60, 61]⟩, ⟨#[62]⟩, ⟨#[62, 61]⟩]
  | 3 => [⟨#[43]⟩, ⟨#[45]⟩, ⟨#[]⟩, ⟨#[]⟩, ⟨#[]⟩, ⟨#[]⟩]
  | _ => [⟨#[42]⟩, ⟨#[]⟩, ⟨#[]⟩, ⟨#[]⟩, ⟨#[]⟩, ⟨#[]⟩]
/-- operators of a level, one behind the other -/
def loopM (ts : List Tok) (ex : PS → Tree × PS) (lvl : Nat) (pl : Int) : Nat → Tree → PS → Tree × PS
  | 0, T, σ => (T, σ)
  | g + 1, T, σ =>
    if isM ts σ (lvl6 lvl) = true then
      let r := ex (nextM ts σ)
      if lvl = 2 then (.mk 16 (txM ts σ) 0 pl [T, r.1], r.2) else loopM ts ex lvl pl g (.mk 16 (txM ts σ) 0 pl [T, r.1]) r.2
    else (T, σ)
/-- an expression that binds as strongly as a level, or more -/
def exM (ts : List Tok) : Nat → Nat → PS → Tree × PS
  | 0, _, σ => (zeroT, σ)
  | f + 1, lvl, σ =>
    if σ.2 = true then (zeroT, σ)
    else if lvl = 5 then
      if isM ts σ [tMinus, tNot] = true then (.mk 16 (txM ts σ) 0 (atM ts σ) [(exM ts f 5 (nextM ts σ)).1], (exM ts f 5 (nextM ts σ)).2)
      else if isM ts σ [tOpen] = true then ((exM ts f 0 (nextM ts σ)).1, wantM ts (exM ts f 0 (nextM ts σ)).2 tShut)
      else if kdM ts σ = 5 then ofM ts σ 5 15
      else if kdM ts σ = 3 then ofM ts σ 3 13
      else ofM ts σ 4 14
    else loopM ts (exM ts f (lvl + 1)) lvl (atM ts σ) ts.length (exM ts f (lvl + 1) σ).1 (exM ts f (lvl + 1) σ).2
/-! places go on -/
theorem nextM_ge (ts : List Tok) (σ : PS) : σ.1 ≤ (nextM ts σ).1 ∧ (nextM ts σ).2 = σ.2 := ⟨nextK_ge, rfl⟩
theorem wantM_ge (ts : List Tok) (σ : PS) (x : ByteArray) : σ.1 ≤ (wantM ts σ x).1 := by
  unfold wantM wantK skipK; dsimp only; split
  · exact nextK_ge
  · exact Nat.le_refl _
theorem ofM_ge (ts : List Tok) (σ : PS) (tok kind : Nat) : σ.1 ≤ (ofM ts σ tok kind).2.1 := nextK_ge
theorem loopM_ge {ts : List Tok} {ex : PS → Tree × PS} (hex : ∀ σ, σ.1 ≤ (ex σ).2.1) {lvl : Nat} {pl : Int} : ∀ (g : Nat) (T : Tree) (σ : PS), σ.1 ≤ (loopM ts ex lvl pl g T σ).2.1 := by
  intro g
  induction g with
  | zero => intro T σ; exact Nat.le_refl _
  | succ g ih =>
    intro T σ
    unfold loopM
    have h1 := (nextM_ge ts σ).1
    have h2 := hex (nextM ts σ)
    split
    · dsimp only
      split
      · exact Nat.le_trans h1 h2
      · exact Nat.le_trans (Nat.le_trans h1 h2) (ih _ _)
    · exact Nat.le_refl _
theorem exM_ge (ts : List Tok) : ∀ (f lvl : Nat) (σ : PS), σ.1 ≤ (exM ts f lvl σ).2.1 := by
  intro f
  induction f with
  | zero => intro lvl σ; exact Nat.le_refl _
  | succ f ih =>
    intro lvl σ
    unfold exM
    have h1 := (nextM_ge ts σ).1
    (repeat' split)
    · exact Nat.le_refl _
    · exact Nat.le_trans h1 (ih 5 _)
    · exact Nat.le_trans (Nat.le_trans h1 (ih 0 _)) (wantM_ge _ _ _)
    · exact ofM_ge _ _ _ _
    · exact ofM_ge _ _ _ _
    · exact ofM_ge _ _ _ _
    · exact Nat.le_trans (ih (lvl + 1) σ) (loopM_ge (fun σ => ih (lvl + 1) σ) _ _ _)
/-- an operator is not the last token: behind it the place is farther -/
theorem next_on {ts : List Tok} (h : TsOk ts) {σ : PS} (hk : σ.1 < ts.length) {texts : List ByteArray} (hi : isM ts σ texts = true) : (nextM ts σ).1 = σ.1 + 1 ∧ σ.2 = false ∧ σ.1 + 1 < ts.length := by
  unfold isM at hi
  rw [Bool.and_eq_true] at hi
  have hb : σ.2 = false := by have := hi.1; cases h2 : σ.2 <;> simp [h2] at this ⊢
  have hlt : σ.1 + 1 < ts.length := by
    by_cases hlt : σ.1 + 1 < ts.length
    · exact hlt
    · exfalso
      have h7 := h.last σ.1 _ (tokM_at hk) hlt
      have := hi.2
      unfold isT at this
      rw [h7] at this
      simp at this
  exact ⟨by unfold nextM; rw [hb]; exact nextK_on hlt, hb, hlt⟩
end Go.Proofs.YtfpohaipmnjflaaGreatDoor
/- The parser: an operator with one side, or less; by contract, given expressions of less fuel. Condition: at most 16385 tokens, each of at most 16384 bytes. -/
namespace Go.Proofs.YtfpohaipmnjflaaGreatDoor
open Go.RowKit

theorem pskip_res {w : World} {P L cap : Nat} {ts : List Tok} {σ : PS} (h : PAt w P L cap ts σ.1 σ.2) (B off n c : Nat) (texts : List ByteArray) (hB : TextsAt w B off texts) (hn : texts.length = n) (hn2 : n ≤ 100) :
    Calls Tryz.prog 56 #[.pointer (some ⟨P, 0, none⟩), .slice (some ⟨B, off, none⟩) n c] w fun e w' => e = .returned (.bool (isM ts σ texts)) ∧ Turns w P L cap ts (skipM ts σ texts).1 (skipM ts σ texts).2 w' :=
  (pskip_any h (tokM_at h.k) B off n c texts hB hn hn2).mono fun _ _ ⟨he, ht⟩ => ⟨he, by rw [(skipM_place ts σ texts).1, (skipM_place ts σ texts).2]; exact ht⟩
theorem pwant_res {w : World} {P L cap : Nat} {ts : List Tok} {σ : PS} (h : PAt w P L cap ts σ.1 σ.2) (x : ByteArray) :
    Calls Tryz.prog 60 #[.pointer (some ⟨P, 0, none⟩), .string x] w fun e w' => e = .returned (.tuple #[]) ∧ Turns w P L cap ts (wantM ts σ x).1 (wantM ts σ x).2 w' :=
  pwant_any h (tokM_at h.k) x
theorem pnow_res {w : World} {P L cap : Nat} {ts : List Tok} {σ : PS} (h : PAt w P L cap ts σ.1 σ.2) :
    Calls Tryz.prog 35 #[.pointer (some ⟨P, 0, none⟩)] w fun e w' => e = .returned (.agg #[.int .u8 (kdM ts σ), .string (txM ts σ), .int .i64 (atM ts σ)]) ∧ Below w.heap.size w w' :=
  pnow_any h (tokM_at h.k)
theorem textsAt_two {w : World} (o : Obj) (l : List ByteArray) : TextsAt ((w.alloc o).alloc (.cells (l.map Value.string).toArray 9)) (w.heap.size + 1) 0 l := by
  have h := textsAt_new (w := w.alloc o) l
  rw [World.size_alloc] at h
  exact h
theorem fits_mk {kind : Nat} {tx : ByteArray} {pl : Int} {ks : List Tree} (hk : kind < 256) (ht : tx.size ≤ 16384) (h0 : 0 ≤ pl) (h1 : pl ≤ 16384) : Fits (.mk kind tx 0 pl ks) :=
  ⟨hk, by show tx.size ≤ maxLen; unfold maxLen; omega, by show (-9223372036854775808 : Int) ≤ 0; omega, by show (0 : Int) < 9223372036854775808; omega, by show (-9223372036854775808 : Int) ≤ pl; omega, by show pl < 9223372036854775808; omega⟩
/-- of a node that a call has read, while the region goes on -/
def GotN (L0 : Nat) (T : Tree) (W : World) (xs : List Value) : Prop := ∃ (d : Nat) (s : Value), xs = [s] ∧ OwnAt W d T.kids s (Between L0 W.heap.size) ∧ Fits T
/-- of a list of one node, in a block of its own -/
def GotL (L0 : Nat) (T : Tree) (W : World) (xs : List Value) : Prop := ∃ (d g N : Nat) (s : Value), xs = [.int .i64 g] ∧ W.heap[g]? = some (.cells (nodeCells T s).toArray 25 (0, 0)) ∧ OwnAt W d T.kids s (Between L0 N) ∧ Fits T ∧ L0 ≤ N ∧ N ≤ g
theorem GotN.grown {L0 Q : Nat} {T : Tree} {W W' : World} {xs : List Value} (h : GotN L0 T W xs) (hQ : Q < L0) (hg : W.grownBy W' (some Q)) : GotN L0 T W' xs := by
  obtain ⟨d, s, h1, h2, h3⟩ := h
  exact ⟨d, s, h1, (h2.keep fun b o hb ho => grownBy_keep hg ho (by have := hb.1; omega)).sub (fun b hb => ⟨hb.1, Nat.lt_of_lt_of_le hb.2 hg.size⟩), h3⟩
theorem GotL.grown {L0 Q : Nat} {T : Tree} {W W' : World} {xs : List Value} (h : GotL L0 T W xs) (hQ : Q < L0) (hg : W.grownBy W' (some Q)) : GotL L0 T W' xs := by
  obtain ⟨d, g, N, s, h1, h2, h3, h4, h5, h6⟩ := h
  exact ⟨d, g, N, s, h1, grownBy_keep hg h2 (by omega), h3.keep fun b o hb ho => grownBy_keep hg ho (by have := hb.1; omega), h4, h5, h6⟩
/-- a list of one node, read as its own -/
theorem GotL.own {L0 : Nat} {T : Tree} {W : World} {xs : List Value} (h : GotL L0 T W xs) : ∃ (d g : Nat), xs = [.int .i64 g] ∧ OwnAt W (d + 1) [T] (.slice (some ⟨g, 0, none⟩) 1 1) (Between L0 W.heap.size) := by
  obtain ⟨d, g, N, s, h1, h2, h3, h4, h5, h6⟩ := h
  have hgl := (Array.getElem?_eq_some_iff.1 h2).1
  refine ⟨d, g, h1, Or.inr ⟨g, 1, (nodeCells T s).toArray, fun i b => i = 0 ∧ Between L0 N b, by simp, ⟨by omega, hgl⟩, Nat.le_refl _, by unfold maxLen; omega, rfl, h2, rfl, fun i T' hT' => ?_, fun i b hb => ⟨⟨hb.2.1, by have := hb.2.2; omega⟩, by have := hb.2.2; omega⟩, fun i j b hij hi hj => hij (hi.1.trans hj.1.symm)⟩⟩
  cases i with
  | zero =>
    simp at hT'
    subst hT'
    exact ⟨h4, s, fun m u hu => by simpa using hu, h3.sub fun b hb => ⟨rfl, hb⟩⟩
  | succ i => simp at hT'
/-- expressions at a level, told by the model at a fuel -/
def ExOk (ts : List Tok) (f : Nat) : Prop := ∀ (lvl : Nat) (σ : PS) (w : World) (P L cap : Nat), lvl ≤ 5 → PAt w P L cap ts σ.1 σ.2 → (ts.length - σ.1) * 7 + (6 - lvl) ≤ f →
  Calls Tryz.prog 159 #[.pointer (some ⟨P, 0, none⟩), .int .i64 lvl] w (NodeRes w P L cap ts (exM ts f lvl σ))
def OneOk (ts : List Tok) (f : Nat) : Prop := ∀ (σ : PS) (w : World) (P L cap : Nat), σ.2 = false → PAt w P L cap ts σ.1 σ.2 → (ts.length - σ.1) * 7 + 1 ≤ f →
  Calls Tryz.prog 167 #[.pointer (some ⟨P, 0, none⟩)] w (NodeRes w P L cap ts (exM ts f 5 σ))
set_option maxHeartbeats 1000000 in
theorem pexpr_any {ts : List Tok} {f : Nat} (hE : ExOk ts f) (σ : PS) (w : World) (P L cap : Nat) (h : PAt w P L cap ts σ.1 σ.2) (hf : (ts.length - σ.1) * 7 + 6 ≤ f) :
    Calls Tryz.prog 136 #[.pointer (some ⟨P, 0, none⟩)] w (NodeRes w P L cap ts (exM ts f 0 σ)) := by
  have hb0 : Below w.heap.size w (w.alloc (.cells #[.int .u8 0, .string ⟨#[]⟩, .int .i64 0, .int .i64 0, .slice none 0 0] 25)) := (Below.refl _ w).alloc (Nat.le_refl _) _
  have HC := Lib.hid (hE 0 σ _ P L cap (by omega) (h.below hb0) hf)
  have H0 := Lib.hid (h.turns hb0)
  have hP := h.lt.1
  have HL := Lib.hid h.lt.2
  have HX := Lib.hid (heap_alloc_new w (.cells #[.int .u8 0, .string ⟨#[]⟩, .int .i64 0, .int .i64 0, .slice none 0 0] 25))
  clear h hb0 hE hf
  generalize exM ts f 0 σ = r at *
  go_enter Tryz.func136, Tryz.ntmps136
  go_wp2_with fail
  refine Calls.mono HC.out ?_
  rintro e w1 ⟨d, s, rfl, hT, ho, hf⟩
  obtain ⟨p, c, rfl⟩ := ho.shape
  have x1 := hT.box HX.out hP (Nat.le_refl _)
  have HX1 := Lib.hid x1
  obtain ⟨a0, a1, a2, a3, a4⟩ := cells5 x1
  have z0 := frozen5 x1 0
  have z1 := frozen5 x1 1
  have z2 := frozen5 x1 2
  have z3 := frozen5 x1 3
  have z4 := frozen5 x1 4
  have HT := Lib.hid (H0.out.trans hT)
  have HO := Lib.hid ho
  have HF := Lib.hid hf
  clear x1 hT ho hf
  go_wp2_with fail
  exact ret_node Tryz.results136 rfl (heap_set5 HX1.out _ _ _ _ _) rfl (NodeRes.stored hP HL.out HT.out HO.out HF.out (Nat.le_refl _) (by simp) _ _ _ _ _)

set_option maxRecDepth 100000 in
set_option maxHeartbeats 4000000 in
theorem pone_of {ts : List Tok} (hts : TsOk ts) {f : Nat} (h1 : OneOk ts f) (hE : ExOk ts f) : OneOk ts (f + 1) := by
  intro σ w P L cap hb h hf
  have hb0 : Below w.heap.size w (w.alloc (.cells #[.int .u8 0, .string ⟨#[]⟩, .int .i64 0, .int .i64 0, .slice none 0 0] 25)) := (Below.refl _ w).alloc (Nat.le_refl _) _
  have HC := Lib.hid (pnow_res (h.below hb0))
  have H0 := Lib.hid (h.turns hb0)
  have hP := h.lt.1
  have HL := Lib.hid h.lt.2
  have HX := Lib.hid (heap_alloc_new w (.cells #[.int .u8 0, .string ⟨#[]⟩, .int .i64 0, .int .i64 0, .slice none 0 0] 25))
  have HK := Lib.hid h.k
  have HTS := Lib.hid hts
  have HOne := Lib.hid h1
  have HEx := Lib.hid hE
  have HFu := Lib.hid hf
  have hR : exM ts (f + 1) 5 σ = (if isM ts σ [tMinus, tNot] = true then (.mk 16 (txM ts σ) 0 (atM ts σ) [(exM ts f 5 (nextM ts σ)).1], (exM ts f 5 (nextM ts σ)).2)
      else if isM ts σ [tOpen] = true then ((exM ts f 0 (nextM ts σ)).1, wantM ts (exM ts f 0 (nextM ts σ)).2 tShut)
      else if kdM ts σ = 5 then ofM ts σ 5 15
      else if kdM ts σ = 3 then ofM ts σ 3 13
      else ofM ts σ 4 14) := by
    conv => lhs; unfold exM
    rw [if_neg (by rw [hb]; decide), if_pos rfl]
  obtain ⟨R, hRR⟩ : ∃ R, exM ts (f + 1) 5 σ = R := ⟨_, rfl⟩
  rw [hRR]
  rw [hRR] at hR
  have HR := Lib.hid hR
  have HBad := Lib.hid hb
  clear h hb0 hts h1 hE hf hRR hR hb
  obtain ⟨kd, hkd⟩ : ∃ kd, kdM ts σ = kd := ⟨_, rfl⟩
  obtain ⟨tx, htx⟩ : ∃ tx, txM ts σ = tx := ⟨_, rfl⟩
  obtain ⟨at_, hat⟩ : ∃ a, atM ts σ = a := ⟨_, rfl⟩
  rw [hkd, htx, hat] at HC HR
  have HTok : Hid (tx.size ≤ 16384 ∧ 0 ≤ at_ ∧ at_ ≤ 16384) := by
    show _ ∧ _
    obtain ⟨_, g2, g3⟩ := tokM_ok HTS.out σ.1
    rw [← htx, ← hat]
    refine ⟨g2, ?_, ?_⟩
    · unfold atM; omega
    · unfold atM; omega
  clear htx hat
  have HKd := Lib.hid hkd
  clear hkd
  go_enter Tryz.func167, Tryz.ntmps167
  go_wp2_with fail
  refine Calls.mono HC.out ?_
  rintro e w1 ⟨rfl, hb1⟩
  have HT1 := Lib.hid (H0.out.of_below hb1)
  have x0 := heap_below hb1 HX.out (by simp)
  have HX1 := Lib.hid x0
  have hl1 : w.heap.size < w1.heap.size := (Array.getElem?_eq_some_iff.1 x0).1
  clear hb1 x0
  have hTA := HT1.out.alloc (.cells #[.int .u8 kd, .string tx, .int .i64 at_] 67)
  have HTA := Lib.hid hTA
  have HXL := Lib.hid (heap_alloc_new w1 (.cells #[.int .u8 kd, .string tx, .int .i64 at_] 67))
  have HXA := Lib.hid ((Below.heap_alloc w1 (.cells #[.int .u8 kd, .string tx, .int .i64 at_] 67) _ (Array.getElem?_eq_some_iff.1 HX1.out).1).trans HX1.out)
  have HTB := Lib.hid (hTA.alloc (.cells #[.string tMinus, .string tNot] 9))
  have HS := Lib.hid (pskip_res HTB.out.2 (w1.heap.size + 1) 0 2 2 [tMinus, tNot] (textsAt_two _ [tMinus, tNot]) rfl (by omega))
  have hszA : (w1.alloc (.cells #[.int .u8 kd, .string tx, .int .i64 at_] 67)).heap.size = w1.heap.size + 1 := World.size_alloc _ _
  have HXB := Lib.hid ((Below.heap_alloc (w1.alloc (.cells #[.int .u8 kd, .string tx, .int .i64 at_] 67)) (.cells #[.string tMinus, .string tNot] 9) w.heap.size (by rw [hszA]; omega)).trans HXA.out)
  have HXM := Lib.hid ((Below.heap_alloc (w1.alloc (.cells #[.int .u8 kd, .string tx, .int .i64 at_] 67)) (.cells #[.string tMinus, .string tNot] 9) w1.heap.size (by rw [hszA]; omega)).trans HXL.out)
  clear hTA hszA
  go_wp2_with fail
  refine Calls.mono HS.out ?_
  rintro e w2 ⟨rfl, ht2⟩
  have HT2 := Lib.hid (HTB.out.trans ht2)
  have HX2 := Lib.hid (ht2.box HXB.out hP (Nat.le_refl _))
  have HM2 := Lib.hid (ht2.box HXM.out hP (Nat.le_of_lt hl1))
  clear ht2
  by_cases hm : isM ts σ [tMinus, tNot] = true
  · have hR := HR.out
    rw [if_pos hm] at hR
    have hsk : skipM ts σ [tMinus, tNot] = nextM ts σ := by unfold skipM; rw [if_pos hm]
    obtain ⟨q1, q2, q3⟩ := next_on HTS.out HK.out hm
    rw [hsk] at HT2
    rw [hm]
    have HCall := Lib.hid (HOne.out (nextM ts σ) w2.drew P L cap (by rw [(nextM_ge ts σ).2]; exact q2) HT2.out.2.drew (by rw [q1]; have := HFu.out; omega))
    have hR1 : R.1 = .mk 16 tx 0 at_ [(exM ts f 5 (nextM ts σ)).1] := by rw [hR]
    have hR2 : R.2 = (exM ts f 5 (nextM ts σ)).2 := by rw [hR]
    generalize exM ts f 5 (nextM ts σ) = r at *
    generalize nextM ts σ = σ1 at *
    have HR1 := Lib.hid hR1
    have HR2 := Lib.hid hR2
    clear hR HR hsk q1 q2 q3 hm hR1 hR2 HKd
    obtain ⟨c0, c1, c2, _, _, _⟩ := cells3 HM2.out
    go_wp2_with fail
    have hw1P : w1.heap.size ≠ P := by omega
    have C0 := fun x : RE.Gr w2 P => x.cell c0 hw1P
    have C1 := fun x : RE.Gr w2 P => x.cell c1 hw1P
    have C2 := fun x : RE.Gr w2 P => x.cell c2 hw1P
    have hP2 : P < w2.heap.size := HT2.out.2.lt.1
    clear c0 c1 c2
    refine RE.wp_region_eff (by kernel_rfl) 8 [5, 6] [5, 6] (fun s W => if s = 0 then W = w2.drew else Turns w2 P L cap ts r.2.1 r.2.2 W) (fun W W' => W.grownBy W' (some P))
      (fun i xs => if i = 5 then .agg #[.int .u8 r.1.kind, .string r.1.text, .int .i64 r.1.num, .int .i64 r.1.place, xs.getD 0 undef] else .slice (some ⟨RE.natOf xs, 0, none⟩) 1 1)
      (fun i W xs => if i = 5 then GotN w2.heap.size r.1 W xs else GotL w2.heap.size r.1 W xs) (by kernel_rfl) (fun i h1 h2 => by rw [h1] at h2; cases h2) ?_ rfl ?_
    · intro k W W' xs h _ hg
      split at h
      · rw [if_pos (by assumption)]; exact h.grown hP2 hg
      · rw [if_neg (by assumption)]; exact h.grown hP2 hg
    simp only [List.take_succ_cons, List.take_zero, List.drop_succ_cons, List.drop_zero, List.length_cons, List.length_nil, Nat.reduceAdd]
    have hcl : ∀ (n s : Nat) (W : World), s ≤ n → (if s = 0 then W = w2.drew else Turns w2 P L cap ts r.2.1 r.2.2 W) → ∃ x : RE.Gr w2 P, W = x.1 := fun n s W _ h => by
      split at h
      · exact ⟨⟨W, by rw [h]; exact grown_drewN (World.grownBy.refl w2 _) 1⟩, rfl⟩
      · exact ⟨⟨W, h.1⟩, rfl⟩
    have HCl := Lib.hid hcl
    clear hcl
    repeat (refine RE.wpE_read (fun W => ∃ x : RE.Gr w2 P, W = x.1) (HCl.out _) rfl rfl rfl rfl ?_; go_big_quiet_step (fail); refine wpQuiet_nil ?_)
    refine RE.wpE_turn rfl rfl ?_ (fun xs5 => ?_)
    · intro W _ hS _
      obtain rfl : W = w2.drew := hS rfl
      refine RE.upon_call 167 _ _ rfl (enters_of Tryz.func167 (by kernel_rfl) rfl) #[.pointer (some ⟨P, 0, none⟩)] (by simp [Act.eval]) (HCall.out.mono ?_)
      rintro e W' ⟨d, s, rfl, hT, ho, hf⟩
      exact ⟨_, rfl, [s], rfl, hT.of_drew, hT.1, ⟨d, s, rfl, ho, hf⟩⟩
    simp only [Act.put, List.setIfInBounds_toArray, List.set_cons_zero, List.set_cons_succ]
    refine RE.wpE_turn rfl rfl ?_ (fun xs6 => ?_)
    · intro W _ hS hφ
      have hT : Turns w2 P L cap ts r.2.1 r.2.2 W := hS rfl
      obtain ⟨d, s, rfl, ho, hf⟩ : GotN w2.heap.size r.1 W xs5 := hφ 5 xs5 (by kernel_rfl) rfl
      obtain ⟨p, c, rfl⟩ := ho.shape
      refine RE.Upon.told (v := .slice (some ⟨W.heap.size, 0, none⟩) 1 1) (w' := W.alloc (.cells (nodeCells r.1 (.slice p r.1.kids.length c)).toArray 25)) ?_ ⟨[.int .i64 W.heap.size], rfl, hT.alloc _, ?_, ?_⟩
      · unfold RE.Upon
        go_simp
        rfl
      · exact grown_of_below ((Below.refl _ W).alloc (Nat.le_refl _) _) _
      · refine ⟨d, W.heap.size, W.heap.size, _, rfl, heap_alloc_new W _, ?_, hf, hT.1.size, Nat.le_refl _⟩
        exact ho.below (fun b hb => hb.2) ((Below.refl _ W).alloc (Nat.le_refl _) _)
    simp only [Act.put, List.setIfInBounds_toArray, List.set_cons_zero, List.set_cons_succ]
    repeat (refine RE.wpE_read (fun W => ∃ x : RE.Gr w2 P, W = x.1) (HCl.out _) rfl rfl rfl rfl ?_; go_big_quiet_step (fail); refine wpQuiet_nil ?_)
    refine RE.wpE_nil ?_
    intro W3 hS hE
    have hT3 : Turns w2 P L cap ts r.2.1 r.2.2 W3 := hS
    obtain ⟨d, g, rfl, ho⟩ := (show GotL w2.heap.size r.1 W3 xs6 from hE 6 xs6 rfl).own
    have HO := Lib.hid ho
    have HT3 := Lib.hid (HT2.out.trans hT3)
    have y0 := hT3.box HX2.out hP (Nat.le_refl _)
    have HY0 := Lib.hid y0
    obtain ⟨a0, a1, a2, a3, a4⟩ := cells5 y0
    have z0 := frozen5 y0 0
    have z1 := frozen5 y0 1
    have z2 := frozen5 y0 2
    have z3 := frozen5 y0 3
    have z4 := frozen5 y0 4
    have hb2 : w.heap.size < w2.heap.size := (Array.getElem?_eq_some_iff.1 HX2.out).1
    obtain ⟨RT, Rσ⟩ := R
    obtain rfl : RT = _ := HR1.out
    obtain rfl : Rσ = _ := HR2.out
    clear C0 C1 C2 hE hS ho hT3 y0
    go_wp2_with fail
    refine ret_node Tryz.results167 rfl (heap_set5 HY0.out _ _ _ _ _) rfl ?_
    exact NodeRes.stored (r := (.mk 16 tx 0 at_ [r.1], r.2)) hP HL.out HT3.out HO.out (fits_mk (by omega) HTok.out.1 HTok.out.2.1 HTok.out.2.2) (Nat.le_refl _) hb2 _ _ _ _ _
  · have hR := HR.out
    rw [if_neg hm] at hR
    have HR' := Lib.hid hR
    have hsk : skipM ts σ [tMinus, tNot] = σ := by unfold skipM; rw [if_neg hm]
    rw [hsk] at HT2
    have hm' : isM ts σ [tMinus, tNot] = false := by simpa using hm
    rw [hm']
    clear hsk hm hm' hR HR
    have hTC := HT2.out.alloc (.cells #[.string tOpen] 9)
    have HTC := Lib.hid hTC
    have HXC := Lib.hid ((Below.heap_alloc w2 (.cells #[.string tOpen] 9) _ (Array.getElem?_eq_some_iff.1 HX2.out).1).trans HX2.out)
    have HMC := Lib.hid ((Below.heap_alloc w2 (.cells #[.string tOpen] 9) _ (Array.getElem?_eq_some_iff.1 HM2.out).1).trans HM2.out)
    have HS2 := Lib.hid (pskip_res hTC.2 w2.heap.size 0 1 1 [tOpen] (textsAt_new [tOpen]) rfl (by omega))
    clear hTC
    go_wp2_with fail
    refine Calls.mono HS2.out ?_
    rintro e w3 ⟨rfl, ht3⟩
    have HT3 := Lib.hid (HTC.out.trans ht3)
    have HX3 := Lib.hid (ht3.box HXC.out hP (Nat.le_refl _))
    have HM3 := Lib.hid (ht3.box HMC.out hP (Nat.le_of_lt hl1))
    clear ht3
    by_cases hm : isM ts σ [tOpen] = true
    · have hR := HR'.out
      rw [if_pos hm] at hR
      have hsk : skipM ts σ [tOpen] = nextM ts σ := by unfold skipM; rw [if_pos hm]
      obtain ⟨q1, q2, q3⟩ := next_on HTS.out HK.out hm
      rw [hsk] at HT3
      rw [hm]
      have HCall := Lib.hid (pexpr_any HEx.out (nextM ts σ) w3 P L cap HT3.out.2 (by rw [q1]; have := HFu.out; omega))
      have hR1 : R.1 = (exM ts f 0 (nextM ts σ)).1 := by rw [hR]
      have hR2 : R.2 = wantM ts (exM ts f 0 (nextM ts σ)).2 tShut := by rw [hR]
      generalize exM ts f 0 (nextM ts σ) = r at *
      have HR1 := Lib.hid hR1
      have HR2 := Lib.hid hR2
      clear hR HR' hsk q1 q2 q3 hm hR1 hR2 HKd
      go_wp2_with fail
      refine Calls.mono HCall.out ?_
      rintro e w4 ⟨d, s, rfl, hT4, ho, hf⟩
      obtain ⟨p, c, rfl⟩ := ho.shape
      have HT4 := Lib.hid (HT3.out.trans hT4)
      have HX4 := Lib.hid (hT4.box HX3.out hP (Nat.le_refl _))
      have hTD := HT4.out.alloc (.cells #[.int .u8 r.1.kind, .string r.1.text, .int .i64 r.1.num, .int .i64 r.1.place, .slice p r.1.kids.length c] 25)
      have HTD := Lib.hid hTD
      have HN4 := Lib.hid (heap_alloc_new w4 (.cells #[.int .u8 r.1.kind, .string r.1.text, .int .i64 r.1.num, .int .i64 r.1.place, .slice p r.1.kids.length c] 25))
      have HXD := Lib.hid ((Below.heap_alloc w4 (.cells #[.int .u8 r.1.kind, .string r.1.text, .int .i64 r.1.num, .int .i64 r.1.place, .slice p r.1.kids.length c] 25) _ (Array.getElem?_eq_some_iff.1 HX4.out).1).trans HX4.out)
      have HOD := Lib.hid (ho.below (fun b hb => hb.2) ((Below.refl _ w4).alloc (Nat.le_refl _) (.cells #[.int .u8 r.1.kind, .string r.1.text, .int .i64 r.1.num, .int .i64 r.1.place, .slice p r.1.kids.length c] 25)))
      have HW := Lib.hid (pwant_res hTD.2 tShut)
      have HF := Lib.hid hf
      have hb34 : w.heap.size < w3.heap.size := (Array.getElem?_eq_some_iff.1 HX3.out).1
      have hb44 : w3.heap.size ≤ w4.heap.size := hT4.1.size
      clear hTD hT4 ho hf
      go_wp2_with fail
      refine Calls.mono HW.out ?_
      rintro e w5 ⟨rfl, ht5⟩
      have HT5 := Lib.hid (HTD.out.trans ht5)
      have y0 := ht5.box HXD.out hP (Nat.le_refl _)
      have HY0 := Lib.hid y0
      obtain ⟨a0, a1, a2, a3, a4⟩ := cells5 y0
      have z0 := frozen5 y0 0
      have z1 := frozen5 y0 1
      have z2 := frozen5 y0 2
      have z3 := frozen5 y0 3
      have z4 := frozen5 y0 4
      obtain ⟨m0, m1, m2, m3, m4⟩ := cells5 (ht5.box HN4.out hP (by omega))
      have hO5 : OwnAt w5 d r.1.kids (.slice p r.1.kids.length c) (Between w3.heap.size w5.heap.size) :=
        (HOD.out.keep fun b o hb ho => grownBy_keep ht5.1 ho (by have := hb.1; omega)).sub fun b hb => ⟨hb.1, Nat.lt_of_lt_of_le hb.2 (by have := ht5.1.size; rw [World.size_alloc] at this; omega)⟩
      have HO5 := Lib.hid hO5
      obtain ⟨RT, Rσ⟩ := R
      obtain rfl : RT = _ := HR1.out
      obtain rfl : Rσ = _ := HR2.out
      clear ht5 y0 hO5
      go_wp2_with fail
      refine ret_node Tryz.results167 rfl (heap_set5 HY0.out _ _ _ _ _) rfl ?_
      exact NodeRes.stored (r := (r.1, wantM ts r.2 tShut)) hP HL.out HT5.out HO5.out HF.out (Nat.le_refl _) hb34 _ _ _ _ _
    have hR := HR'.out
    rw [if_neg hm] at hR
    have hsk : skipM ts σ [tOpen] = σ := by unfold skipM; rw [if_neg hm]
    rw [hsk] at HT3
    have hm' : isM ts σ [tOpen] = false := by simpa using hm
    rw [hm']
    clear hsk hm hm' HR' HKd
    by_cases hk5 : kd = 5
    · subst hk5
      rw [if_pos rfl] at hR
      subst hR
      have hT4 := HT3.out
      have HO4 := Lib.hid (pof_res HTS.out (w := w3.drew) hT4.2.drew 5 15 (by omega))
      obtain ⟨c0, _, _, _, _, _⟩ := cells3 HM3.out
      have hw1P : w1.heap.size ≠ P := by omega
      have C0 := fun x : RE.Gr w3 P => x.cell c0 hw1P
      have hP3 : P < w3.heap.size := hT4.2.lt.1
      have hcl : ∀ (n s : Nat) (W : World), s ≤ n → (if s = 0 then W = w3.drew else Turns w3 P L cap ts (ofM ts σ 5 15).2.1 (ofM ts σ 5 15).2.2 W) → ∃ x : RE.Gr w3 P, W = x.1 := fun n s W _ h => by
        split at h
        · exact ⟨⟨W, by rw [h]; exact grown_drewN (World.grownBy.refl w3 _) 1⟩, rfl⟩
        · exact ⟨⟨W, h.1⟩, rfl⟩
      have HCl := Lib.hid hcl
      have HFit := Lib.hid (ofM_fits HTS.out σ 5 15 (by omega))
      have hkk : (ofM ts σ 5 15).1.kids = [] := rfl
      have HKK := Lib.hid hkk
      generalize ofM ts σ 5 15 = r at *
      clear hcl hT4 hkk
      go_wp2_with fail
      clear c0
      refine RE.wp_region_eff (by kernel_rfl) 6 [5] [5] (fun s W => if s = 0 then W = w3.drew else Turns w3 P L cap ts r.2.1 r.2.2 W) (fun W W' => W.grownBy W' (some P))
        (fun i xs => .agg #[.int .u8 r.1.kind, .string r.1.text, .int .i64 r.1.num, .int .i64 r.1.place, xs.getD 0 undef])
        (fun i W xs => GotN w3.heap.size r.1 W xs) (by kernel_rfl) (fun i h1 h2 => by rw [h1] at h2; cases h2) (fun k W W' xs h _ hg => h.grown hP3 hg) rfl ?_
      simp only [List.take_succ_cons, List.take_zero, List.drop_succ_cons, List.drop_zero, List.length_cons, List.length_nil, Nat.reduceAdd]
      repeat (refine RE.wpE_read (fun W => ∃ x : RE.Gr w3 P, W = x.1) (HCl.out _) rfl rfl rfl rfl ?_; go_big_quiet_step (fail); refine wpQuiet_nil ?_)
      refine RE.wpE_turn rfl rfl ?_ (fun xs5 => ?_)
      · intro W _ hS _
        obtain rfl : W = w3.drew := hS rfl
        refine RE.upon_call 98 _ _ rfl (enters_of Tryz.func98 (by kernel_rfl) rfl) #[.pointer (some ⟨P, 0, none⟩), .int .u8 5, .int .u8 15] (by simp [Act.eval]) (HO4.out.mono ?_)
        rintro e W' ⟨d, s, rfl, hT, ho, hf⟩
        exact ⟨_, rfl, [s], rfl, hT.of_drew, hT.1, ⟨d, s, rfl, ho, hf⟩⟩
      simp only [Act.put, List.setIfInBounds_toArray, List.set_cons_zero, List.set_cons_succ]
      refine RE.wpE_nil ?_
      intro W4 hS hE
      have hT5 : Turns w3 P L cap ts r.2.1 r.2.2 W4 := hS
      obtain ⟨d, s, rfl, ho, hf⟩ := (show GotN w3.heap.size r.1 W4 xs5 from hE 5 xs5 rfl)
      obtain ⟨p, c, rfl⟩ := ho.shape
      have HO := Lib.hid ho
      have HT5 := Lib.hid (HT3.out.trans hT5)
      have y0 := hT5.box HX3.out hP (Nat.le_refl _)
      have HY0 := Lib.hid y0
      obtain ⟨a0, a1, a2, a3, a4⟩ := cells5 y0
      have z0 := frozen5 y0 0
      have z1 := frozen5 y0 1
      have z2 := frozen5 y0 2
      have z3 := frozen5 y0 3
      have z4 := frozen5 y0 4
      have hb3 : w.heap.size < w3.heap.size := (Array.getElem?_eq_some_iff.1 HX3.out).1
      clear C0 hE hS ho hT5 y0 hf
      go_wp2_with fail
      refine ret_node Tryz.results167 rfl (heap_set5 HY0.out _ _ _ _ _) rfl ?_
      exact NodeRes.stored hP HL.out HT5.out HO.out HFit.out (Nat.le_refl _) hb3 _ _ _ _ _
    rw [if_neg hk5] at hR
    have hk5' : ((kd : Int) == 5) = false := by simp; omega
    by_cases hk3 : kd = 3
    · subst hk3
      rw [if_pos rfl] at hR
      subst hR
      have hT4 := HT3.out
      have HO4 := Lib.hid (pof_res HTS.out (w := w3.drew) hT4.2.drew 3 13 (by omega))
      obtain ⟨c0, _, _, _, _, _⟩ := cells3 HM3.out
      have hw1P : w1.heap.size ≠ P := by omega
      have C0 := fun x : RE.Gr w3 P => x.cell c0 hw1P
      have hP3 : P < w3.heap.size := hT4.2.lt.1
      have hcl : ∀ (n s : Nat) (W : World), s ≤ n → (if s = 0 then W = w3.drew else Turns w3 P L cap ts (ofM ts σ 3 13).2.1 (ofM ts σ 3 13).2.2 W) → ∃ x : RE.Gr w3 P, W = x.1 := fun n s W _ h => by
        split at h
        · exact ⟨⟨W, by rw [h]; exact grown_drewN (World.grownBy.refl w3 _) 1⟩, rfl⟩
        · exact ⟨⟨W, h.1⟩, rfl⟩
      have HCl := Lib.hid hcl
      have HFit := Lib.hid (ofM_fits HTS.out σ 3 13 (by omega))
      have hkk : (ofM ts σ 3 13).1.kids = [] := rfl
      have HKK := Lib.hid hkk
      generalize ofM ts σ 3 13 = r at *
      clear hcl hT4 hkk
      go_wp2_with fail
      clear c0
      refine RE.wp_region_eff (by kernel_rfl) 6 [5] [5] (fun s W => if s = 0 then W = w3.drew else Turns w3 P L cap ts r.2.1 r.2.2 W) (fun W W' => W.grownBy W' (some P))
        (fun i xs => .agg #[.int .u8 r.1.kind, .string r.1.text, .int .i64 r.1.num, .int .i64 r.1.place, xs.getD 0 undef])
        (fun i W xs => GotN w3.heap.size r.1 W xs) (by kernel_rfl) (fun i h1 h2 => by rw [h1] at h2; cases h2) (fun k W W' xs h _ hg => h.grown hP3 hg) rfl ?_
      simp only [List.take_succ_cons, List.take_zero, List.drop_succ_cons, List.drop_zero, List.length_cons, List.length_nil, Nat.reduceAdd]
      repeat (refine RE.wpE_read (fun W => ∃ x : RE.Gr w3 P, W = x.1) (HCl.out _) rfl rfl rfl rfl ?_; go_big_quiet_step (fail); refine wpQuiet_nil ?_)
      refine RE.wpE_turn rfl rfl ?_ (fun xs5 => ?_)
      · intro W _ hS _
        obtain rfl : W = w3.drew := hS rfl
        refine RE.upon_call 98 _ _ rfl (enters_of Tryz.func98 (by kernel_rfl) rfl) #[.pointer (some ⟨P, 0, none⟩), .int .u8 3, .int .u8 13] (by simp [Act.eval]) (HO4.out.mono ?_)
        rintro e W' ⟨d, s, rfl, hT, ho, hf⟩
        exact ⟨_, rfl, [s], rfl, hT.of_drew, hT.1, ⟨d, s, rfl, ho, hf⟩⟩
      simp only [Act.put, List.setIfInBounds_toArray, List.set_cons_zero, List.set_cons_succ]
      refine RE.wpE_nil ?_
      intro W4 hS hE
      have hT5 : Turns w3 P L cap ts r.2.1 r.2.2 W4 := hS
      obtain ⟨d, s, rfl, ho, hf⟩ := (show GotN w3.heap.size r.1 W4 xs5 from hE 5 xs5 rfl)
      obtain ⟨p, c, rfl⟩ := ho.shape
      have HO := Lib.hid ho
      have HT5 := Lib.hid (HT3.out.trans hT5)
      have y0 := hT5.box HX3.out hP (Nat.le_refl _)
      have HY0 := Lib.hid y0
      obtain ⟨a0, a1, a2, a3, a4⟩ := cells5 y0
      have z0 := frozen5 y0 0
      have z1 := frozen5 y0 1
      have z2 := frozen5 y0 2
      have z3 := frozen5 y0 3
      have z4 := frozen5 y0 4
      have hb3 : w.heap.size < w3.heap.size := (Array.getElem?_eq_some_iff.1 HX3.out).1
      clear C0 hE hS ho hT5 y0 hf
      go_wp2_with fail
      refine ret_node Tryz.results167 rfl (heap_set5 HY0.out _ _ _ _ _) rfl ?_
      exact NodeRes.stored hP HL.out HT5.out HO.out HFit.out (Nat.le_refl _) hb3 _ _ _ _ _
    rw [if_neg hk3] at hR
    have hk3' : ((kd : Int) == 3) = false := by simp; omega
    subst hR
    have HO4 := Lib.hid (pof_res HTS.out HT3.out.2 4 14 (by omega))
    obtain ⟨c0, _, _, _, _, _⟩ := cells3 HM3.out
    generalize ofM ts σ 4 14 = r at *
    clear hk5 hk3
    go_wp2_with fail
    refine Calls.mono HO4.out ?_
    rintro e w4 ⟨d, s, rfl, hT4, ho, hf⟩
    obtain ⟨p, c, rfl⟩ := ho.shape
    have HT4 := Lib.hid (HT3.out.trans hT4)
    have y0 := hT4.box HX3.out hP (Nat.le_refl _)
    have HY0 := Lib.hid y0
    obtain ⟨a0, a1, a2, a3, a4⟩ := cells5 y0
    have z0 := frozen5 y0 0
    have z1 := frozen5 y0 1
    have z2 := frozen5 y0 2
    have z3 := frozen5 y0 3
    have z4 := frozen5 y0 4
    have HO := Lib.hid ho
    have HF := Lib.hid hf
    have hb3 : w.heap.size < w3.heap.size := (Array.getElem?_eq_some_iff.1 HX3.out).1
    clear hT4 y0 ho hf c0
    go_wp2_with fail
    refine ret_node Tryz.results167 rfl (heap_set5 HY0.out _ _ _ _ _) rfl ?_
    exact NodeRes.stored hP HL.out HT4.out HO.out HF.out (Nat.le_refl _) hb3 _ _ _ _ _
end Go.Proofs.YtfpohaipmnjflaaGreatDoor
/- The parser: the table of levels; a whole block stored; by contract. No condition. -/
namespace Go.Proofs.YtfpohaipmnjflaaGreatDoor
open Go.RowKit

/-- cells stored in a block -/
theorem scells_heap {g : Nat} {t : TypeId} : ∀ (vs : List Value) (o : Nat) (w : World) (cs : Array Value), w.heap[g]? = some (.cells cs t (0, 0)) → o + vs.length ≤ cs.size →
    ∃ cs' : Array Value, (w.setCells g o vs).heap[g]? = some (.cells cs' t (0, 0)) ∧ cs'.size = cs.size ∧ (∀ i v, vs[i]? = some v → cs'[o + i]? = some v) ∧ ∀ k, k < o ∨ o + vs.length ≤ k → cs'[k]? = cs[k]? := by
  intro vs
  induction vs with
  | nil => intro o w cs h _; exact ⟨cs, h, rfl, fun i v hv => by simp at hv, fun _ _ => rfl⟩
  | cons x r ih =>
    intro o w cs h hl
    simp only [List.length_cons] at hl
    obtain ⟨cs', h1, h2, h3, h4⟩ := ih (o + 1) _ _ (heap_set h o x) (by simpa using (by omega))
    refine ⟨cs', h1, by simpa using h2, fun i v hv => ?_, fun k hk => ?_⟩
    · cases i with
      | zero =>
        simp at hv
        subst hv
        rw [Nat.add_zero, h4 o (Or.inl (by omega)), Array.getElem?_setIfInBounds_self, if_pos (by omega)]
      | succ i =>
        have := h3 i v (by simpa using hv)
        rw [show o + 1 + i = o + (i + 1) by omega] at this
        exact this
    · simp only [List.length_cons] at hk
      rw [h4 k (by omega), Array.getElem?_setIfInBounds_ne (by omega)]
theorem scells_below {B g : Nat} (hg : B ≤ g) {W : World} : ∀ (vs : List Value) (o : Nat) (w : World), Below B W w → Below B W (w.setCells g o vs) := by
  intro vs
  induction vs with
  | nil => intro o w h; exact h
  | cons x r ih => intro o w h; exact ih (o + 1) _ (h.setCell (p := ⟨g, o, none⟩) hg x)
theorem scells_whole {g : Nat} {t : TypeId} {vs : List Value} {w : World} {cs : Array Value} (h : w.heap[g]? = some (.cells cs t (0, 0))) (hl : vs.length = cs.size) : (w.setCells g 0 vs).heap[g]? = some (.cells vs.toArray t (0, 0)) := by
  obtain ⟨cs', h1, h2, h3, _⟩ := scells_heap vs 0 w cs h (by omega)
  have : cs' = vs.toArray := by
    apply Array.ext_getElem?
    intro i
    by_cases hi : i < vs.length
    · have := h3 i vs[i] (by simp)
      rw [Nat.zero_add] at this
      rw [this]; simp
    · rw [Array.getElem?_eq_none (by omega)]
      simp; omega
  rw [h1, this]
theorem there_whole {g : Nat} {t : TypeId} {w : World} {cs : Array Value} (h : w.heap[g]? = some (.cells cs t (0, 0))) {n : Nat} (hn : n = cs.size) : w.there g 0 n := fun j hj => by
  refine ⟨?_, by simp [World.frozen?, h]⟩
  rw [cell_of_row _ _ _ _ _ _ h, Array.getElem?_eq_getElem (by omega)]
  rfl
theorem range_whole {g : Nat} {t : TypeId} {w : World} {vs : List Value} (h : w.heap[g]? = some (.cells vs.toArray t (0, 0))) : w.rangeAt g 0 vs := fun j v hv => by
  rw [cell_of_row _ _ _ _ _ _ h, Nat.zero_add]
  simpa using hv
def lv30 : List ByteArray := lvl6 0 ++ lvl6 1 ++ lvl6 2 ++ lvl6 3 ++ lvl6 4
def blank30 : Array Value := Array.replicate 30 (.string ⟨#[]⟩)
theorem lv30_one : (lv30.map Value.string).toArray.all (·.oneCell') = true := by
  refine all_oneCell_toArray fun v hv => ?_
  obtain ⟨s, _, rfl⟩ := List.mem_map.1 hv
  rfl
/-- a function hands back what lies in its result's block, whole -/
theorem ret_mid {fn : Func} {R : Ending → World → Prop} {a : Act} {W : World} {slot T : Nat} {ty : TypeId} {u : Value} (hr : fn.results = #[.cell slot ty]) (hs : a.tmps.getD slot undef = .pointer (some ⟨T, 0, none⟩))
    (hl : (loadVar ty ⟨T, 0, none⟩).run Tryz.prog W = .ok u W) (hd : a.defers = []) (hR : R (.returned u) W) : bodyPost Tryz.prog fn R .ret a W := by
  have hs' : a.tmps[slot]?.getD undef = .pointer (some ⟨T, 0, none⟩) := by simpa using hs
  refine bodyPost_ret (v := u) ?_ hd hR
  simp [results, hr, hs', asAddr, hl]
set_option maxRecDepth 100000 in
theorem plevels_any (w : World) : Calls Tryz.prog 166 #[] w fun e w' => e = .returned (.agg (lv30.map Value.string).toArray) ∧ Below w.heap.size w w' := by
  go_enter Tryz.func166, Tryz.ntmps166
  go_upto_region 1 with fail
  iterate 19 (go_step)
  have HN := heap_alloc_new w (.cells blank30 181)
  have HB := (Below.refl _ w).alloc (Nat.le_refl _) (.cells blank30 181)
  change wpList _ _ _ _ _ (w.alloc (.cells blank30 181))
  generalize w.alloc (.cells blank30 181) = w1 at *
  refine wpList_store_mid rfl 181 _ _ rfl w.heap.size 0 (lv30.map Value.string).toArray rfl rfl (there_whole HN rfl) (by kernel_rfl) lv30_one ?_
  have HN2 := scells_whole (vs := lv30.map Value.string) HN rfl
  have HB2 := scells_below (Nat.le_refl _) (lv30.map Value.string) 0 w1 HB
  change wpList _ _ _ _ _ (w1.setCells w.heap.size 0 (lv30.map Value.string))
  generalize w1.setCells w.heap.size 0 (lv30.map Value.string) = w2 at *
  clear HN HB w1
  generalize hlv : (lv30.map Value.string) = vs
  rw [hlv] at HN2
  have hlen : vs.length = 30 := by rw [← hlv]; rfl
  go_wp2_with fail
  have hload := run_loadVar_mid (P := Tryz.prog) w2 w.heap.size 0 181 vs (.array 5 180) (range_whole HN2) (by kernel_rfl) rfl (by rw [hlen]; kernel_rfl)
  exact ret_mid Tryz.results166 rfl hload rfl ⟨by rw [hlv], HB2⟩
end Go.Proofs.YtfpohaipmnjflaaGreatDoor
