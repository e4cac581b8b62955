/- Several texts joined, each with its own sentence and conditions ahead of it: OkP, CntP. -/
import Derived.Test.YtfpohaipmnjflaaGreatDoorMZB
import Derived.Test.YtfpohaipmnjflaaGreatDoorMZL
/- What the parser reads is right, but for its size; with no program in sight. Condition: nothing is told, at most 16384 bytes. -/
namespace Go.Proofs.YtfpohaipmnjflaaGreatDoor
open Go.RowKit

def OkT (T : Tree) : Prop := ∀ d, okF d T = true
theorem okT_mk {T : Tree} (h : levelOk T = true) (hk : ∀ x ∈ T.kids, OkT x) : OkT T := fun d => by
  cases d with
  | zero => exact h
  | succ d =>
    show (levelOk T && T.kids.all (okF d)) = true
    rw [h, Bool.true_and, List.all_eq_true]
    exact fun x hx => hk x hx d

/-! the texts of tokens -/
/-- a token's text is as its kind has it -/
def TxOk (t : Tok) : Prop := (t.1 = 2 → namedF t.2.1.data.toList = true ∧ wordB t.2.1.data.toList = false) ∧ (t.1 = 3 ∨ t.1 = 5 → namedF t.2.1.data.toList = true) ∧ (t.1 = 4 → (number t.2.1.data.toList).isSome = true ∧ negB t.2.1.data.toList = false)
theorem on_name {c : UInt8} (h : isOn c = true) (k : Nat) : nameAt (k + 1) c = true := by
  unfold isOn at h
  unfold nameAt
  simp at h ⊢
  rcases h with (h | h) | h
  · exact Or.inl h
  · exact Or.inr (Or.inl h)
  · exact Or.inr (Or.inr h)
theorem on_while : ∀ (l : List UInt8) (k : Nat), nameFrom (k + 1) (l.takeWhile isOn) = true := by
  intro l
  induction l with
  | nil => intro k; rfl
  | cons c r ih =>
    intro k
    rw [List.takeWhile_cons]
    by_cases h : isOn c = true
    · rw [if_pos h]
      show (nameAt (k + 1) c && nameFrom (k + 1 + 1) (r.takeWhile isOn)) = true
      rw [on_name h, ih]; rfl
    · rw [if_neg h]; rfl
theorem low_while {c : UInt8} {r : List UInt8} (h : isLow c = true) (hl : ((c :: r).takeWhile isOn).length ≤ 24) : namedF ((c :: r).takeWhile isOn) = true := by
  have h1 : isOn c = true := by unfold isOn; rw [h]; rfl
  rw [List.takeWhile_cons, if_pos h1] at hl ⊢
  unfold namedF
  have h2 : nameFrom 0 (c :: r.takeWhile isOn) = true := by
    show (nameAt 0 c && nameFrom (0 + 1) (r.takeWhile isOn)) = true
    rw [on_while]
    unfold nameAt
    rw [h]; rfl
  rw [h2]
  simp at hl ⊢
  omega
theorem while_named {r : List UInt8} (h : namedB (r.takeWhile isOn) = true) : namedF (r.takeWhile isOn) = true := by
  cases r with
  | nil => cases h
  | cons c r =>
    have h0 := h
    rw [List.takeWhile_cons] at h0
    by_cases hc : isOn c = true
    · rw [if_pos hc] at h0
      unfold namedB at h0
      dsimp only at h0
      rw [Bool.and_eq_true, decide_eq_true_eq] at h0
      refine low_while h0.2 ?_
      rw [List.takeWhile_cons, if_pos hc]
      exact h0.1
    · rw [if_neg hc] at h0; cases h0
theorem tokL_tx (l : List UInt8) (h : (tokL l).2.2.1 = 0) (pl : Nat) : TxOk ((tokL l).1, (tokL l).2.1, pl) := by
  cases l with
  | nil => cases h
  | cons c r =>
    unfold tokL at h ⊢
    dsimp only at h ⊢
    by_cases h1 : isLow c = true
    · rw [if_pos h1] at h ⊢
      dsimp only at h ⊢
      have hl : ((c :: r).takeWhile isOn).length ≤ 24 := by
        by_cases hl : ((c :: r).takeWhile isOn).length ≤ 24
        · exact hl
        · rw [if_neg hl] at h; cases h
      refine ⟨fun h2 => ?_, fun h2 => ?_, fun h2 => ?_⟩
      · dsimp only at h2
        refine ⟨low_while h1 hl, ?_⟩
        show wordB ((c :: r).takeWhile isOn) = false
        cases hw : wordB ((c :: r).takeWhile isOn)
        · rfl
        · rw [hw] at h2; cases h2
      · dsimp only at h2; split at h2 <;> omega
      · dsimp only at h2; split at h2 <;> omega
    · rw [if_neg h1] at h ⊢
      by_cases h2 : (c == 63 || c == 39) = true
      · rw [if_pos h2] at h ⊢
        dsimp only at h ⊢
        have hn : namedB (r.takeWhile isOn) = true := by
          cases hn : namedB (r.takeWhile isOn)
          · rw [hn] at h; cases h
          · rfl
        refine ⟨fun h3 => ?_, fun _ => while_named hn, fun h3 => ?_⟩
        · dsimp only at h3; split at h3 <;> omega
        · dsimp only at h3; split at h3 <;> omega
      · rw [if_neg h2] at h ⊢
        by_cases h3 : isDig c = true
        · rw [if_pos h3] at h ⊢
          dsimp only at h ⊢
          refine ⟨fun h4 => (by cases h4), fun h4 => (by rcases h4 with h4 | h4 <;> cases h4), fun _ => ⟨?_, ?_⟩⟩
          · show (number ((c :: r).takeWhile isDig)).isSome = true
            cases hn : (number ((c :: r).takeWhile isDig)).isSome
            · rw [hn] at h; cases h
            · rfl
          · show negB ((c :: r).takeWhile isDig) = false
            rw [List.takeWhile_cons, if_pos h3]
            unfold negB
            split
            · rename_i heq
              injection heq with e1 _
              rw [e1] at h3
              revert h3
              decide
            · rfl
        · rw [if_neg h3] at h ⊢
          split
          · exact ⟨fun h4 => (by cases h4), fun h4 => (by rcases h4 with h4 | h4 <;> cases h4), fun h4 => by cases h4⟩
          · exact ⟨fun h4 => (by cases h4), fun h4 => (by rcases h4 with h4 | h4 <;> cases h4), fun h4 => by cases h4⟩
theorem toks_tx (s : ByteArray) : ∀ (n p : Nat), s.size - p ≤ n → p ≤ s.size → ∀ t ∈ (toksFrom s p).1, TxOk t := by
  intro n
  induction n with
  | zero =>
    intro p h hp t ht
    rw [toksFrom_end s p (by rw [skip_end s p (by omega)]; omega)] at ht
    cases ht
  | succ n ih =>
    intro p h hp t ht
    have hge := skip_ge s _ p (Nat.le_refl _)
    by_cases hk : skip s p < s.size
    · by_cases h0 : (tokenAt s (skip s p) s[skip s p]).2.2.1 = 0
      · obtain ⟨n1, n2⟩ := tokenAt_next s (skip s p) hk h0
        rw [toksFrom_ok s p hk h0] at ht
        rcases List.mem_cons.1 ht with rfl | ht
        · have hl := tokenAt_list s (skip s p) hk
          rw [hl] at h0 ⊢
          exact tokL_tx _ h0 _
        · exact ih _ (by omega) n2 t ht
      · rw [toksFrom_bad s p hk h0] at ht; cases ht
    · rw [toksFrom_end s p hk] at ht; cases ht
theorem end_tx (pl : Nat) : TxOk (7, ⟨#[]⟩, pl) := ⟨fun h => (by cases h), fun h => (by rcases h with h | h <;> cases h), fun h => (by cases h)⟩
theorem allTk_tx (s : ByteArray) (j : Nat) : TxOk (tokM (allTk s) j) := by
  by_cases hj : j < (allTk s).length
  · have hm := List.mem_of_getElem? (tokM_at hj)
    unfold allTk at hm
    rcases List.mem_append.1 hm with hm | hm
    · exact toks_tx s _ 0 (Nat.le_refl _) (Nat.zero_le _) _ hm
    · rw [List.mem_singleton] at hm
      unfold allTk
      rw [hm]
      exact end_tx _
  · have : tokM (allTk s) j = (7, ⟨#[]⟩, 0) := by
      unfold tokM
      rw [List.getD_eq_getElem?_getD, List.getElem?_eq_none (by omega)]; rfl
    rw [this]
    exact end_tx 0

theorem strip_of {l : List UInt8} (h : negB l = false) : strip l = l := by
  cases l with
  | nil => rfl
  | cons c r =>
    unfold strip
    split
    · rename_i heq
      injection heq with e1 e2
      subst e1
      cases h
    · rfl
/-! what is read -/
section
variable {ts : List Tok}
theorem is_text {σ : PS} {texts : List ByteArray} (h : isM ts σ texts = true) : σ.2 = false ∧ (texts.any (fun s => !s.data.toList.isEmpty && s.data.toList == (txM ts σ).data.toList)) = true := by
  unfold isM at h
  rw [Bool.and_eq_true] at h
  obtain ⟨h1, h2⟩ := h
  refine ⟨by simpa using h1, ?_⟩
  obtain ⟨kd, tx, pl, hx⟩ : ∃ a b c, tokM ts σ.1 = (a, b, c) := ⟨_, _, _, rfl⟩
  rw [hx, isT_val, Bool.and_eq_true] at h2
  unfold txM
  rw [hx]
  exact h2.2
theorem ofM_kind {σ : PS} {tok kind : Nat} (h : (ofM ts σ tok kind).2.2 = false) : σ.2 = false ∧ (tokM ts σ.1).1 = tok := by
  have h' : (σ.2 || (tokM ts σ.1).1 != tok) = false := h
  rw [Bool.or_eq_false_iff] at h'
  exact ⟨h'.1, by simpa using h'.2⟩
theorem level_leaf {k : Nat} {t : ByteArray} {pl : Nat} (hk : k = 3 ∨ (12 ≤ k ∧ k ≤ 15)) (ht : textOk k t.data.toList 0 = true) : levelOk (.mk k t 0 pl []) = true := by
  unfold levelOk
  show (decide (1 ≤ k) && decide (k ≤ 16) && textOk k t.data.toList 0 && numOk k 0 && decide (0 ≤ (pl : Int)) && kidsOk k []) = true
  rw [ht]
  have hk' : k = 3 ∨ k = 12 ∨ k = 13 ∨ k = 14 ∨ k = 15 := by omega
  have h1 : numOk k 0 = true := by rcases hk' with rfl | rfl | rfl | rfl | rfl <;> rfl
  have h2 : kidsOk k [] = true := by rcases hk' with rfl | rfl | rfl | rfl | rfl <;> rfl
  rw [h1, h2]
  simp
  omega
theorem leaf_ok {k : Nat} {t : ByteArray} {pl : Nat} (hk : k = 3 ∨ (12 ≤ k ∧ k ≤ 15)) (ht : textOk k t.data.toList 0 = true) : OkT (.mk k t 0 pl []) := okT_mk (level_leaf hk ht) (fun x hx => by cases hx)
/-- an expression -/
def ExT (T : Tree) : Prop := OkT T ∧ [13, 14, 15, 16].contains T.kind = true ∧ (T.kind == 14 && negB T.text.data.toList) = false
/-- an argument -/
def ArT (T : Tree) : Prop := OkT T ∧ [12, 13, 14, 15].contains T.kind = true
theorem exprsB_of {l : List Tree} (h : ∀ x ∈ l, ExT x) : exprsB l = true := by
  unfold exprsB among
  rw [Bool.and_eq_true, List.all_eq_true, List.all_eq_true]
  exact ⟨fun x hx => by rw [(h x hx).2.2]; rfl, fun x hx => (h x hx).2.1⟩
theorem among_of {S : List Nat} {l : List Tree} (h : ∀ x ∈ l, S.contains x.kind = true) : among S l = true := by
  unfold among
  rw [List.all_eq_true]
  exact h
variable (hx : ∀ j, TxOk (tokM ts j))
include hx
theorem of_atom {σ : PS} (h : (ofM ts σ 5 15).2.2 = false) : ExT (ofM ts σ 5 15).1 ∧ ArT (ofM ts σ 5 15).1 := by
  have h1 := (hx σ.1).2.1 (Or.inr (ofM_kind h).2)
  have h2 : OkT (ofM ts σ 5 15).1 := leaf_ok (Or.inr (by omega)) h1
  exact ⟨⟨h2, rfl, rfl⟩, h2, rfl⟩
theorem of_var {σ : PS} (h : (ofM ts σ 3 13).2.2 = false) : ExT (ofM ts σ 3 13).1 ∧ ArT (ofM ts σ 3 13).1 := by
  have h1 := (hx σ.1).2.1 (Or.inl (ofM_kind h).2)
  have h2 : OkT (ofM ts σ 3 13).1 := leaf_ok (Or.inr (by omega)) h1
  exact ⟨⟨h2, rfl, rfl⟩, h2, rfl⟩
theorem of_num {σ : PS} (h : (ofM ts σ 4 14).2.2 = false) : ExT (ofM ts σ 4 14).1 ∧ ArT (ofM ts σ 4 14).1 := by
  obtain ⟨h1, h3⟩ := (hx σ.1).2.2 (ofM_kind h).2
  have h2 : OkT (ofM ts σ 4 14).1 := leaf_ok (Or.inr (by omega)) (by
    show (number (strip (tokM ts σ.1).2.1.data.toList)).isSome = true
    rw [strip_of h3]; exact h1)
  refine ⟨⟨h2, rfl, ?_⟩, h2, rfl⟩
  show (true && negB (tokM ts σ.1).2.1.data.toList) = false
  rw [h3]; rfl
omit hx
theorem one_ok {σ : PS} {pl : Nat} {r : Tree} (h : isM ts σ [tMinus, tNot] = true) (hr : ExT r) : ExT (.mk 16 (txM ts σ) 0 pl [r]) := by
  refine ⟨okT_mk ?_ (fun x hx => by rw [List.mem_singleton.1 hx]; exact hr.1), rfl, rfl⟩
  have h1 := (is_text h).2
  have h2 : amongB oneL (txM ts σ).data.toList = true := by
    simp only [List.any_cons, List.any_nil, Bool.or_false, Bool.or_eq_true, Bool.and_eq_true] at h1
    unfold amongB oneL
    simp only [List.any_cons, List.any_nil, Bool.or_false, Bool.or_eq_true]
    rcases h1 with h1 | h1
    · exact Or.inl h1.2
    · exact Or.inr h1.2
  have h3 : exprsB [r] = true := exprsB_of (fun x hx => by rw [List.mem_singleton.1 hx]; exact hr)
  show (decide (1 ≤ 16) && decide (16 ≤ 16) && ((1 == 1 && amongB oneL (txM ts σ).data.toList) || (1 == 2 && amongB twoL (txM ts σ).data.toList)) && true && decide (0 ≤ (pl : Int)) && exprsB [r]) = true
  rw [h2, h3]
  simp
theorem lvl_two {lvl : Nat} (h5 : lvl < 5) (x : List UInt8) (h : (lvl6 lvl).any (fun s => !s.data.toList.isEmpty && s.data.toList == x) = true) : amongB twoL x = true := by
  rw [List.any_eq_true] at h
  obtain ⟨s, hs, hx⟩ := h
  rw [Bool.and_eq_true, beq_iff_eq] at hx
  obtain ⟨h1, h2⟩ := hx
  unfold amongB
  rw [List.any_eq_true]
  subst h2
  have h0 : (List.range 5).all (fun j => (lvl6 j).all fun s => s.data.toList.isEmpty || twoL.any fun b => b.data.toList == s.data.toList) = true := by kernel_rfl
  have h3 := List.all_eq_true.1 (List.all_eq_true.1 h0 lvl (List.mem_range.2 h5)) s hs
  rw [Bool.or_eq_true] at h3
  rcases h3 with h3 | h3
  · rw [h3] at h1; cases h1
  · rw [List.any_eq_true] at h3; exact h3
theorem two_ok {σ : PS} {lvl pl : Nat} {T r : Tree} (h5 : lvl < 5) (h : isM ts σ (lvl6 lvl) = true) (hT : ExT T) (hr : ExT r) : ExT (.mk 16 (txM ts σ) 0 pl [T, r]) := by
  have hk : ∀ x ∈ [T, r], ExT x := fun x hx => by
    rcases List.mem_cons.1 hx with rfl | hx
    · exact hT
    · rw [List.mem_singleton.1 hx]; exact hr
  refine ⟨okT_mk ?_ (fun x hx => (hk x hx).1), rfl, rfl⟩
  have h2 := lvl_two h5 _ (is_text h).2
  have h3 : exprsB [T, r] = true := exprsB_of hk
  show (decide (1 ≤ 16) && decide (16 ≤ 16) && ((2 == 1 && amongB oneL (txM ts σ).data.toList) || (2 == 2 && amongB twoL (txM ts σ).data.toList)) && true && decide (0 ≤ (pl : Int)) && exprsB [T, r]) = true
  rw [h2, h3]
  simp
theorem loopM_ok {ex : PS → Tree × PS} {lvl pl : Nat} (h5 : lvl < 5) (hts : TsOk ts) (k : Nat) (hge : ∀ σ, σ.1 ≤ (ex σ).2.1) (hlt : ∀ σ : PS, σ.1 < ts.length → (ex σ).2.1 < ts.length) (hex : ∀ σ : PS, k ≤ σ.1 → σ.1 < ts.length → (ex σ).2.2 = false → ExT (ex σ).1) :
    ∀ (g : Nat) (T : Tree) (σ : PS), k ≤ σ.1 → σ.1 < ts.length → (σ.2 = false → ExT T) → (loopM ts ex lvl pl g T σ).2.2 = false → ExT (loopM ts ex lvl pl g T σ).1 := by
  intro g
  induction g with
  | zero => intro T σ _ _ hT h; exact hT h
  | succ g ih =>
    intro T σ hk hσ hT h
    rw [loopM_succ] at h ⊢
    by_cases hi : isM ts σ (lvl6 lvl) = true
    · rw [if_pos hi] at h ⊢
      obtain ⟨q1, q2, q3⟩ := next_on hts hσ hi
      have hT' : (ex (nextM ts σ)).2.2 = false → ExT (.mk 16 (txM ts σ) 0 pl [T, (ex (nextM ts σ)).1]) := fun hb => two_ok h5 hi (hT q2) (hex _ (by omega) (by omega) hb)
      split at h
      · rename_i h2
        rw [if_pos h2]
        exact hT' h
      · rename_i h2
        rw [if_neg h2]
        exact ih _ _ (by have := hge (nextM ts σ); omega) (hlt _ (by omega)) hT' h
    · rw [if_neg hi] at h ⊢
      exact hT h
theorem exM_was {f lvl : Nat} {σ : PS} (h : (exM ts f lvl σ).2.2 = false) : σ.2 = false := by
  cases hs : σ.2 with
  | false => rfl
  | true => rw [exM_bad f lvl hs] at h; cases h
include hx
theorem exM_ok (hts : TsOk ts) : ∀ (f lvl : Nat) (σ : PS), lvl ≤ 5 → σ.1 < ts.length → (ts.length - σ.1) * 7 + (6 - lvl) ≤ f → (exM ts f lvl σ).2.2 = false → ExT (exM ts f lvl σ).1 := by
  intro f
  induction f with
  | zero => intro lvl σ hl _ hf; omega
  | succ f ih =>
    intro lvl σ hl hσ hf h
    have hb : ¬ σ.2 = true := by rw [exM_was h]; decide
    unfold exM at h ⊢
    rw [if_neg hb] at h ⊢
    by_cases h5 : lvl = 5
    · rw [if_pos h5] at h ⊢
      by_cases h1 : isM ts σ [tMinus, tNot] = true
      · rw [if_pos h1] at h ⊢
        obtain ⟨q1, q2, q3⟩ := next_on hts hσ h1
        exact one_ok h1 (ih 5 _ (by omega) (by omega) (by omega) h)
      · rw [if_neg h1] at h ⊢
        by_cases h2 : isM ts σ [tOpen] = true
        · rw [if_pos h2] at h ⊢
          obtain ⟨q1, q2, q3⟩ := next_on hts hσ h2
          exact ih 0 _ (by omega) (by omega) (by omega) (want_ok h)
        · rw [if_neg h2] at h ⊢
          split at h
          · rename_i h3
            rw [if_pos h3]
            exact (of_atom hx h).1
          · rename_i h3
            rw [if_neg h3]
            split at h
            · rename_i h4
              rw [if_pos h4]
              exact (of_var hx h).1
            · rename_i h4
              rw [if_neg h4]
              exact (of_num hx h).1
    · rw [if_neg h5] at h ⊢
      have hge := exM_ge ts f (lvl + 1) σ
      exact loopM_ok (pl := (tokM ts σ.1).2.2) (by omega) hts σ.1 (fun σ => exM_ge ts f (lvl + 1) σ) (fun σ h => exM_lt f (lvl + 1) σ h) (fun ρ h1 h2 h3 => ih (lvl + 1) ρ (by omega) h2 (by omega) h3) _ _ _ hge (exM_lt f (lvl + 1) σ hσ) (fun hb => ih (lvl + 1) σ (by omega) hσ (by omega) hb) h
theorem exprM_ok (hts : TsOk ts) {σ : PS} (hσ : σ.1 < ts.length) (h : (exprM ts σ).2.2 = false) : ExT (exprM ts σ).1 :=
  exM_ok hx hts _ 0 σ (by omega) hσ (by have : (ts.length - σ.1) * 7 ≤ ts.length * 7 := Nat.mul_le_mul_right _ (Nat.sub_le _ _); omega) h
theorem argM_ok {σ : PS} (h : (argM ts σ).2.2 = false) : ArT (argM ts σ).1 := by
  unfold argM at h ⊢
  by_cases h1 : isM ts σ [tAny] = true
  · rw [if_pos h1]
    exact ⟨leaf_ok (k := 12) (t := ⟨#[]⟩) (pl := (tokM ts σ.1).2.2) (Or.inr (by omega)) rfl, rfl⟩
  · rw [if_neg h1] at h ⊢
    by_cases h2 : isM ts σ [tMinus] = true
    · rw [if_pos h2] at h ⊢
      obtain ⟨h3, h4⟩ := (hx (nextM ts σ).1).2.2 (ofM_kind (kind := 14) h).2
      refine ⟨leaf_ok (k := 14) (t := tMinus ++ txM ts (nextM ts σ)) (pl := (tokM ts σ.1).2.2) (Or.inr (by omega)) ?_, rfl⟩
      show (number (strip (tMinus ++ txM ts (nextM ts σ)).data.toList)).isSome = true
      have : (tMinus ++ txM ts (nextM ts σ)).data.toList = 45 :: (tokM ts (nextM ts σ).1).2.1.data.toList := by simp [ByteArray.data_append, tMinus, txM]
      rw [this]
      exact h3
    · rw [if_neg h2] at h ⊢
      split at h
      · rename_i h3
        rw [if_pos h3]
        exact (of_atom hx h).2
      · rename_i h3
        rw [if_neg h3]
        split at h
        · rename_i h4
          rw [if_pos h4]
          exact (of_var hx h).2
        · rename_i h4
          rw [if_neg h4]
          exact (of_num hx h).2
omit hx
theorem rowLoop_ok (hts : TsOk ts) {P : Tree → Prop} {one : PS → Tree × PS} (hone : ∀ σ : PS, σ.1 < ts.length → (one σ).2.2 = false → P (one σ).1) (hlt : ∀ σ : PS, σ.1 < ts.length → (one σ).2.1 < ts.length) :
    ∀ (g : Nat) (ks : List Tree) (σ : PS), σ.1 < ts.length → (σ.2 = false → ∀ x ∈ ks, P x) → (rowLoop ts one g ks σ).2.2 = false → ∀ x ∈ (rowLoop ts one g ks σ).1, P x := by
  intro g
  induction g with
  | zero => intro ks σ _ hk h; exact hk h
  | succ g ih =>
    intro ks σ hσ hk h
    rw [rowLoop_succ] at h ⊢
    by_cases hi : isM ts σ [tComma] = true
    · rw [if_pos hi] at h ⊢
      obtain ⟨q1, q2, q3⟩ := next_on hts hσ hi
      refine ih _ _ (hlt _ (by omega)) (fun hb x hx => ?_) h
      rcases List.mem_append.1 hx with hx | hx
      · exact hk q2 x hx
      · rw [List.mem_singleton.1 hx]; exact hone _ (by omega) hb
    · rw [if_neg hi] at h ⊢
      exact hk h
theorem rowM_ok (hts : TsOk ts) {P : Tree → Prop} {one : PS → Tree × PS} (hone : ∀ σ : PS, σ.1 < ts.length → (one σ).2.2 = false → P (one σ).1) (hlt : ∀ σ : PS, σ.1 < ts.length → (one σ).2.1 < ts.length) {σ : PS} (hσ : σ.1 < ts.length) (h : (rowM ts one σ).2.2 = false) :
    (∀ x ∈ (rowM ts one σ).1, P x) ∧ 0 < (rowM ts one σ).1.length := by
  refine ⟨rowLoop_ok hts hone hlt _ _ _ (hlt _ hσ) (fun hb x hx => by rw [List.mem_singleton.1 hx]; exact hone _ hσ hb) h, ?_⟩
  have := rowLoop_len ts one ts.length [(one σ).1] (one σ).2
  unfold rowM
  simp only [List.length_singleton] at this
  omega
theorem listM_ok (hts : TsOk ts) {P : Tree → Prop} {one : PS → Tree × PS} (hone : ∀ σ : PS, σ.1 < ts.length → (one σ).2.2 = false → P (one σ).1) (hlt : ∀ σ : PS, σ.1 < ts.length → (one σ).2.1 < ts.length) {σ : PS} (hσ : σ.1 < ts.length) (h : (listM ts one σ).2.2 = false) :
    ∀ x ∈ (listM ts one σ).1, P x := by
  unfold listM at h ⊢
  by_cases h1 : isM ts (wantM ts σ tOpen) [tShut] = true
  · rw [if_pos h1]; exact fun x hx => by cases hx
  · rw [if_neg h1] at h ⊢
    exact (rowM_ok hts hone hlt (want_in hσ _) (want_ok h)).1
theorem listM_was {one : PS → Tree × PS} (h1 : ∀ σ : PS, σ.2 = true → (one σ).2.2 = true) {σ : PS} (h : (listM ts one σ).2.2 = false) : σ.2 = false := by
  cases hs : σ.2 with
  | false => rfl
  | true => rw [listM_bad h1 hs] at h; cases h
theorem level_mk {k : Nat} {t : ByteArray} {n : Int} {pl : Nat} {l : List Tree} (hk : 1 ≤ k ∧ k ≤ 16) (ht : textOk k t.data.toList l.length = true) (hn : numOk k n = true) (hl : kidsOk k l = true) : levelOk (.mk k t n pl l) = true := by
  show (decide (1 ≤ k) && decide (k ≤ 16) && textOk k t.data.toList l.length && numOk k n && decide (0 ≤ (pl : Int)) && kidsOk k l) = true
  rw [ht, hn, hl]
  simp
  omega
theorem named_text {t : ByteArray} {k n : Nat} (hk : k = 2 ∨ k = 3 ∨ k = 4 ∨ k = 5 ∨ k = 6 ∨ k = 8) (h : namedF t.data.toList = true ∧ wordB t.data.toList = false) : textOk k t.data.toList n = true := by
  have e : textOk k t.data.toList n = (namedF t.data.toList && !wordB t.data.toList) := by
    rcases hk with rfl | rfl | rfl | rfl | rfl | rfl <;> rfl
  rw [e, h.1, h.2]; rfl
include hx
theorem of_name {σ : PS} {k : Nat} (h : (ofM ts σ 2 k).2.2 = false) : namedF (ofM ts σ 2 k).1.text.data.toList = true ∧ wordB (ofM ts σ 2 k).1.text.data.toList = false := (hx σ.1).1 (ofM_kind h).2
/-- a condition -/
theorem condM_ok (hts : TsOk ts) {σ : PS} (hσ : σ.1 < ts.length) (h : (condM ts (argM ts) σ).2.2 = false) : OkT (condM ts (argM ts) σ).1 ∧ condB (condM ts (argM ts) σ).1 = true := by
  have hl : ∀ {ρ : PS}, ρ.1 < ts.length → (listM ts (argM ts) ρ).2.2 = false → ∀ x ∈ (listM ts (argM ts) ρ).1, ArT x := fun h1 h2 => listM_ok hts (fun σ _ h => argM_ok hx h) (fun _ h => argM_lt h) h1 h2
  unfold condM at h ⊢
  by_cases h1 : isM ts σ [tTest] = true
  · rw [if_pos h1] at h ⊢
    have he := exprM_ok hx hts (next_lt hσ) (want_ok h)
    have h3 : exprsB [(exprM ts (nextM ts σ)).1] = true := exprsB_of (fun x hx => by rw [List.mem_singleton.1 hx]; exact he)
    refine ⟨okT_mk (level_mk (k := 7) (t := ⟨#[]⟩) (n := 0) (pl := (tokM ts σ.1).2.2) (by omega) rfl rfl ?_) (fun x hx => by rw [List.mem_singleton.1 hx]; exact he.1), rfl⟩
    show ((1 == 1) && exprsB _) = true
    rw [h3]; rfl
  · rw [if_neg h1] at h ⊢
    by_cases h2 : isM ts σ [tNot] = true
    · rw [if_pos h2] at h ⊢
      have h3 := want_ok h
      have h4 := listM_was (fun _ h => argM_bad h) h3
      have h5 := hl (of_in (next_lt hσ) 2 6) h3
      refine ⟨okT_mk (level_mk (k := 6) (n := 0) (pl := (tokM ts σ.1).2.2) (by omega) (named_text (by omega) (of_name hx h4)) rfl ?_) (fun x hx => (h5 x hx).1), rfl⟩
      exact among_of fun x hx => (h5 x hx).2
    · rw [if_neg h2] at h ⊢
      have h3 := want_ok h
      have h4 := listM_was (fun _ h => argM_bad h) h3
      have h5 := hl (of_in hσ 2 5) h3
      refine ⟨okT_mk (level_mk (k := 5) (n := 0) (pl := (tokM ts σ.1).2.2) (by omega) (named_text (by omega) (of_name hx h4)) rfl ?_) (fun x hx => (h5 x hx).1), rfl⟩
      exact among_of fun x hx => (h5 x hx).2
/-- an action -/
theorem actM_ok (hts : TsOk ts) {σ : PS} (hσ : σ.1 < ts.length) (h : (actM ts σ).2.2 = false) : OkT (actM ts σ).1 ∧ [8, 9, 10, 11].contains (actM ts σ).1.kind = true := by
  have he : ∀ σ : PS, σ.1 < ts.length → (exprM ts σ).2.2 = false → ExT (exprM ts σ).1 := fun σ h1 h2 => exprM_ok hx hts h1 h2
  have hlt : ∀ σ : PS, σ.1 < ts.length → (exprM ts σ).2.1 < ts.length := fun σ h => exM_lt _ _ _ h
  unfold actM at h ⊢
  by_cases h1 : isM ts σ [tAssert] = true
  · rw [if_pos h1] at h ⊢
    have h3 := want_ok h
    have h4 := listM_was (fun _ h => exprM_bad h) h3
    have h5 := listM_ok hts he hlt (of_in (next_lt hσ) 2 8) h3
    refine ⟨okT_mk (level_mk (k := 8) (n := 0) (pl := (tokM ts σ.1).2.2) (by omega) (named_text (by omega) (of_name hx h4)) rfl ?_) (fun x hx => (h5 x hx).1), rfl⟩
    exact exprsB_of h5
  · rw [if_neg h1] at h ⊢
    by_cases h2 : isM ts σ [tRetract] = true
    · rw [if_pos h2]
      refine ⟨okT_mk (level_mk (k := 9) (t := ⟨#[]⟩) (pl := (tokM ts σ.1).2.2) (by omega) rfl ?_ rfl) (fun x hx => by cases hx), rfl⟩
      have := numM_small ts (nextM ts σ)
      show (decide (0 ≤ ((numM ts (nextM ts σ)).1 : Int)) && decide (((numM ts (nextM ts σ)).1 : Int) ≤ 2147483647)) = true
      simp
      omega
    · rw [if_neg h2] at h ⊢
      by_cases h3 : isM ts σ [tSay] = true
      · rw [if_pos h3] at h ⊢
        obtain ⟨h5, h6⟩ := rowM_ok hts he hlt (next_lt hσ) (want_ok h)
        refine ⟨okT_mk (level_mk (k := 10) (t := ⟨#[]⟩) (n := 0) (pl := (tokM ts σ.1).2.2) (by omega) rfl rfl ?_) (fun x hx => (h5 x hx).1), rfl⟩
        show (decide (0 < _) && exprsB _) = true
        rw [exprsB_of h5]
        simpa using h6
      · rw [if_neg h3]
        exact ⟨okT_mk (level_mk (k := 11) (t := ⟨#[]⟩) (n := 0) (pl := (tokM ts σ.1).2.2) (by omega) rfl rfl rfl) (fun x hx => by cases hx), rfl⟩
omit hx
theorem upTo_ok {P : Tree → Prop} {one : PS → Tree × PS} (hone : ∀ σ : PS, σ.1 < ts.length → (one σ).2.2 = false → P (one σ).1) (hlt : ∀ σ : PS, σ.1 < ts.length → (one σ).2.1 < ts.length) (stop : ByteArray) :
    ∀ (g : Nat) (ks : List Tree) (σ : PS), σ.1 < ts.length → (upTo ts one stop g ks σ).2.2 = false → ∃ l, (upTo ts one stop g ks σ).1 = ks ++ l ∧ ∀ x ∈ l, P x := by
  intro g
  induction g with
  | zero => intro ks σ _ _; exact ⟨[], (List.append_nil _).symm, fun x hx => by cases hx⟩
  | succ g ih =>
    intro ks σ hσ h
    rw [upTo_succ] at h ⊢
    by_cases hb : σ.2 = true
    · rw [if_pos hb] at h; rw [hb] at h; cases h
    · rw [if_neg hb] at h ⊢
      by_cases hi : isM ts σ [stop] = true
      · rw [if_pos hi] at h ⊢
        exact ⟨[], (List.append_nil _).symm, fun x hx => by cases hx⟩
      · rw [if_neg hi] at h ⊢
        obtain ⟨l, h1, h2⟩ := ih _ _ (hlt _ hσ) h
        have h3 : (one σ).2.2 = false := by
          cases h3 : (one σ).2.2 with
          | false => rfl
          | true => rw [upTo_bad stop h3] at h; rw [h3] at h; cases h
        refine ⟨(one σ).1 :: l, by rw [h1, List.append_assoc]; rfl, fun x hx => ?_⟩
        rcases List.mem_cons.1 hx with rfl | hx
        · exact hone _ hσ h3
        · exact h2 x hx
theorem upTo_was {one : PS → Tree × PS} {stop : ByteArray} {g : Nat} {ks : List Tree} {σ : PS} (h : (upTo ts one stop g ks σ).2.2 = false) : σ.2 = false := by
  cases hs : σ.2 with
  | false => rfl
  | true => rw [upTo_bad stop hs] at h; rw [hs] at h; cases h
theorem rowB_of {a b : List Tree} (ha : ∀ x ∈ a, condB x = true) (hb : ∀ x ∈ b, [8, 9, 10, 11].contains x.kind = true) : rowB (a ++ b) = true := by
  unfold rowB
  rw [List.dropWhile_append_of_pos ha]
  refine among_of fun x hx => hb x ?_
  exact (List.dropWhile_sublist _).subset hx
theorem salM_in (σ : PS) : -2147483647 ≤ (salM ts σ).1 ∧ (salM ts σ).1 ≤ 2147483647 := by
  unfold salM
  have h1 := numM_small ts (nextM ts (nextM ts σ))
  have h2 := numM_small ts (nextM ts σ)
  (repeat' split) <;> (constructor <;> dsimp only <;> omega)
theorem salM_was {σ : PS} (h : (salM ts σ).2.2 = false) : σ.2 = false := by
  cases hs : σ.2 with
  | false => rfl
  | true =>
    unfold salM at h
    rw [if_neg (by rw [isM_bad hs]; decide)] at h
    have h' : σ.2 = false := h
    rw [hs] at h'; cases h'
include hx
theorem ruleM_ok (hts : TsOk ts) (a : Nat) {σ : PS} (hσ : σ.1 < ts.length) (h : (ruleM ts a σ).2.2 = false) : OkT (ruleM ts a σ).1 ∧ [2, 4].contains (ruleM ts a σ).1.kind = true := by
  unfold ruleM at h ⊢
  dsimp only at h ⊢
  have p3 := want_in (salM_lt (of_in hσ (ts := ts) 2 4)) tLeft
  have hsal := salM_in (ts := ts) (ofM ts σ 2 4).2
  have z0 := want_ok h
  have z1 := want_ok (upTo_was z0)
  have z2 := want_ok (upTo_was z1)
  have z3 := salM_was z2
  have hn := of_name hx z3
  obtain ⟨c, c1, c2⟩ := upTo_ok (P := fun T => OkT T ∧ condB T = true) (fun σ h1 h2 => condM_ok hx hts h1 h2) (fun _ h => condM_lt h) tTo (ts.length + 1) [] _ p3 z1
  have p4 := upTo_lt (fun _ h => condM_lt h) tTo (ts.length + 1) [] _ p3
  generalize upTo ts (condM ts (argM ts)) tTo (ts.length + 1) [] (wantM ts (salM ts (ofM ts σ 2 4).2).2 tLeft) = cs at *
  obtain ⟨b, b1, b2⟩ := upTo_ok (P := fun T => OkT T ∧ [8, 9, 10, 11].contains T.kind = true) (fun σ h1 h2 => actM_ok hx hts h1 h2) (fun _ h => actM_lt h) tRight (ts.length + 1) cs.1 _ (want_in p4 tTo) z0
  generalize upTo ts (actM ts) tRight (ts.length + 1) cs.1 (wantM ts cs.2 tTo) = zs at *
  rw [b1, c1, List.nil_append]
  refine ⟨okT_mk (level_mk (k := 4) (by omega) (named_text (by omega) hn) ?_ ?_) (fun x hx => ?_), rfl⟩
  · show (decide (-2147483647 ≤ (salM ts (ofM ts σ 2 4).2).1) && decide ((salM ts (ofM ts σ 2 4).2).1 ≤ 2147483647)) = true
    simp
    exact hsal
  · exact rowB_of (fun x hx => (c2 x hx).2) (fun x hx => (b2 x hx).2)
  · rcases List.mem_append.1 hx with hx | hx
    · exact (c2 x hx).1
    · exact (b2 x hx).1
theorem declM_ok (hts : TsOk ts) {σ : PS} (hσ : σ.1 < ts.length) (h : (declM ts (ruleM ts) σ).2.2 = false) : OkT (declM ts (ruleM ts) σ).1 ∧ [2, 4].contains (declM ts (ruleM ts) σ).1.kind = true := by
  unfold declM at h ⊢
  by_cases h1 : isM ts σ [tFact] = true
  · rw [if_pos h1] at h ⊢
    have h3 := want_ok h
    have h4 := listM_was (fun _ h => ofM_bad h 2 3) h3
    have h5 := listM_ok hts (P := fun x => OkT x ∧ [3].contains x.kind = true) (fun σ _ h => ⟨leaf_ok (k := 3) (pl := (tokM ts σ.1).2.2) (Or.inl rfl) (named_text (by omega) ((hx σ.1).1 (ofM_kind h).2)), rfl⟩) (fun _ h => of_in h 2 3) (of_in (next_lt hσ) 2 2) h3
    refine ⟨okT_mk (level_mk (k := 2) (n := 0) (pl := (tokM ts σ.1).2.2) (by omega) (named_text (by omega) (of_name hx h4)) rfl ?_) (fun x hx => (h5 x hx).1), rfl⟩
    exact among_of fun x hx => (h5 x hx).2
  · rw [if_neg h1] at h ⊢
    exact ruleM_ok hx hts (tokM ts σ.1).2.2 (want_in hσ _) h
theorem progL_ok (hts : TsOk ts) : ∀ (g : Nat) (ks : List Tree) (σ : PS), σ.1 < ts.length → (σ.2 = false → ∀ x ∈ ks, OkT x ∧ [2, 4].contains x.kind = true) → (progL ts g ks σ).2.2 = false → ∀ x ∈ (progL ts g ks σ).1, OkT x ∧ [2, 4].contains x.kind = true := by
  intro g
  induction g with
  | zero => intro ks σ _ hk h; exact hk h
  | succ g ih =>
    intro ks σ hσ hk h
    rw [progL_succ] at h ⊢
    by_cases hb : σ.2 = true
    · rw [if_pos hb] at h; rw [hb] at h; cases h
    · rw [if_neg hb] at h ⊢
      by_cases h7 : kdM ts σ = 7
      · rw [if_pos h7] at h ⊢; exact hk h
      · rw [if_neg h7] at h ⊢
        refine ih _ _ (declM_lt hσ) (fun hd x hx' => ?_) h
        rcases List.mem_append.1 hx' with hx' | hx'
        · exact hk (by simpa using hb) x hx'
        · rw [List.mem_singleton.1 hx']; exact declM_ok hx hts hσ hd
end
theorem deep_dp : ∀ (n D : Nat) (T : Tree), dpM n T = none → deepF D T ≤ n := by
  intro n
  induction n with
  | zero => intro D T h; cases h
  | succ n ih =>
    intro D T h
    have h' : T.kids.findSome? (dpM n) = none := h
    rw [List.findSome?_eq_none_iff] at h'
    cases D with
    | zero => show 1 ≤ n + 1; omega
    | succ D =>
      show (T.kids.map (deepF D)).foldl Nat.max 0 + 1 ≤ n + 1
      have := foldl_max_le (l := T.kids.map (deepF D)) (a := 0) (n := n) (Nat.zero_le _) (fun v hv => by
        obtain ⟨x, hx, rfl⟩ := List.mem_map.1 hv
        exact ih D x (h' x hx))
      omega
/-- what is read of a source, and is not too deep, is right if it is not too great -/
theorem prog_right {s : ByteArray} (hs : s.size ≤ 16384) (hb : (progD (allTk s)).2.2 = false) (hd : dpM 30 (progT s) = none) : rightF 30 (progT s) = decide (manyF 30 (progT s) ≤ 4096) := by
  have hk := progL_ok (allTk_tx s) (allTk_ok s hs) ((allTk s).length + 1) [] (0, false) (by rw [allTk_len]; exact Nat.succ_pos _) (fun _ x hx => by cases hx) hb
  have hok : OkT (progT s) := okT_mk (level_mk (k := 1) (t := ⟨#[]⟩) (n := 0) (pl := 0) (by omega) rfl rfl (among_of fun x hx => (hk x hx).2)) (fun x hx => (hk x hx).1)
  unfold rightF
  rw [hok 30]
  have h1 : (progT s).kind = 1 := rfl
  have h2 := deep_dp 30 30 _ hd
  rw [h1]
  simp [h2]
/-- what is told of a row of tokens that has been read: its size alone is left to look at -/
theorem progR_size {s : ByteArray} (hs : s.size ≤ 16384) : progR (allTk s) (progD (allTk s)) (progT s) =
    if (progD (allTk s)).2.2 = true then (zeroT, (202 : Int), atM (allTk s) (progD (allTk s)).2)
    else match dpM 30 (progT s) with
      | some p => (zeroT, 203, p)
      | none => if manyF 30 (progT s) ≤ 4096 then (progT s, 0, 0) else (zeroT, 204, 0) := by
  unfold progR
  by_cases hb : (progD (allTk s)).2.2 = true
  · rw [if_pos hb, if_pos hb]
  · rw [if_neg hb, if_neg hb]
    cases hd : dpM 30 (progT s) with
    | some p => rfl
    | none =>
      dsimp only
      rw [prog_right hs (by simpa using hb) hd]
      by_cases h : manyF 30 (progT s) ≤ 4096
      · rw [if_pos h, if_pos (by simpa using h)]
      · rw [if_neg h, if_neg (by simpa using h)]
end Go.Proofs.YtfpohaipmnjflaaGreatDoor
/- What the parser reads has no more nodes than tokens gone by; with no program in sight. Condition: nothing is told. -/
namespace Go.Proofs.YtfpohaipmnjflaaGreatDoor
open Go.RowKit

/-- so many nodes at most, and so many tokens gone by at least -/
def CnT (T : Tree) (k n : Nat) : Prop := ∀ D, manyF D T + k ≤ n
def CnL (l : List Tree) (k n : Nat) : Prop := ∀ D, sumN D l + k ≤ n
theorem sumN_nil (D : Nat) : sumN D [] = 0 := rfl
theorem sumN_app (D : Nat) : ∀ (a b : List Tree), sumN D (a ++ b) = sumN D a + sumN D b := by
  intro a
  induction a with
  | nil => intro b; rw [List.nil_append, sumN_nil, Nat.zero_add]
  | cons x a ih => intro b; rw [List.cons_append, sumN_cons, sumN_cons, ih, Nat.add_assoc]
theorem sumN_one (D : Nat) (x : Tree) : sumN D [x] = manyF D x := by rw [sumN_cons, sumN_nil, Nat.add_zero]
/-- a node around a list -/
theorem cn_mk {k : Nat} {t : ByteArray} {n p : Int} {l : List Tree} {a b c : Nat} (h : CnL l b c) (hab : a + 1 ≤ b) : CnT (.mk k t n p l) a c := fun D => by
  cases D with
  | zero =>
    have := h 0
    show 1 + a ≤ c
    omega
  | succ D =>
    rw [manyF_succ]
    have := h D
    show 1 + sumN D l + a ≤ c
    omega
theorem cn_nil {b c : Nat} (h : b ≤ c) : CnL [] b c := fun D => by rw [sumN_nil]; omega
theorem cn_one {x : Tree} {b c : Nat} (h : CnT x b c) : CnL [x] b c := fun D => by rw [sumN_one]; exact h D
theorem CnL.up {l : List Tree} {k n m : Nat} (h : CnL l k n) (hm : n ≤ m) : CnL l k m := fun D => Nat.le_trans (h D) hm
theorem CnT.up {l : Tree} {k n m : Nat} (h : CnT l k n) (hm : n ≤ m) : CnT l k m := fun D => Nat.le_trans (h D) hm
theorem CnT.down {l : Tree} {k j n : Nat} (h : CnT l k n) (hj : j ≤ k) : CnT l j n := fun D => by have := h D; omega
theorem CnL.down {l : List Tree} {k j n : Nat} (h : CnL l k n) (hj : j ≤ k) : CnL l j n := fun D => by have := h D; omega
theorem CnL.snoc {l : List Tree} {x : Tree} {k n m o : Nat} (h : CnL l k n) (hn : n ≤ m) (hx : CnT x m o) : CnL (l ++ [x]) k o := fun D => by
  rw [sumN_app, sumN_one]
  have := h D
  have := hx D
  omega
section
variable {ts : List Tok} (hts : TsOk ts)
include hts
theorem of_cn {σ : PS} (hσ : σ.1 < ts.length) {tok kind : Nat} (ht : tok ≠ 7) (h : (ofM ts σ tok kind).2.2 = false) : CnT (ofM ts σ tok kind).1 σ.1 (ofM ts σ tok kind).2.1 := by
  rcases ofM_on hts hσ ht kind with h1 | h1
  · rw [h1] at h; cases h
  · exact cn_mk (cn_nil (Nat.le_refl _)) (by omega)
theorem loopM_cn {ex : PS → Tree × PS} {lvl : Nat} {pl : Int} (k0 : Nat) (hge : ∀ σ, σ.1 ≤ (ex σ).2.1) (hlt : ∀ σ : PS, σ.1 < ts.length → (ex σ).2.1 < ts.length) (hex : ∀ σ : PS, k0 ≤ σ.1 → σ.1 < ts.length → (ex σ).2.2 = false → CnT (ex σ).1 σ.1 (ex σ).2.1) :
    ∀ (g : Nat) (T : Tree) (σ : PS), k0 ≤ σ.1 → σ.1 < ts.length → (σ.2 = false → CnT T k0 σ.1) → (loopM ts ex lvl pl g T σ).2.2 = false → CnT (loopM ts ex lvl pl g T σ).1 k0 (loopM ts ex lvl pl g T σ).2.1 := by
  intro g
  induction g with
  | zero => intro T σ _ _ hT h; exact hT h
  | succ g ih =>
    intro T σ hk hσ hT h
    rw [loopM_succ] at h ⊢
    by_cases hi : isM ts σ (lvl6 lvl) = true
    · rw [if_pos hi] at h ⊢
      obtain ⟨q1, q2, q3⟩ := next_on hts hσ hi
      have hT' : (ex (nextM ts σ)).2.2 = false → CnT (.mk 16 (txM ts σ) 0 pl [T, (ex (nextM ts σ)).1]) k0 (ex (nextM ts σ)).2.1 := fun hb => by
        have h1 := hT q2
        have h2 := hex (nextM ts σ) (by omega) (by omega) hb
        intro D
        cases D with
        | zero => have := h1 0; have := h2 0; show 1 + k0 ≤ _; omega
        | succ D =>
          rw [manyF_succ]
          show 1 + sumN D [T, (ex (nextM ts σ)).1] + k0 ≤ _
          rw [sumN_cons, sumN_one]
          have := h1 D
          have := h2 D
          omega
      split at h
      · rename_i h2
        rw [if_pos h2]
        exact hT' h
      · rename_i h2
        rw [if_neg h2]
        exact ih _ _ (by have := hge (nextM ts σ); omega) (hlt _ (by omega)) hT' h
    · rw [if_neg hi] at h ⊢
      exact hT h
theorem exM_cn : ∀ (f lvl : Nat) (σ : PS), lvl ≤ 5 → σ.1 < ts.length → (ts.length - σ.1) * 7 + (6 - lvl) ≤ f → (exM ts f lvl σ).2.2 = false → CnT (exM ts f lvl σ).1 σ.1 (exM ts f lvl σ).2.1 := by
  intro f
  induction f with
  | zero => intro lvl σ hl _ hf; omega
  | succ f ih =>
    intro lvl σ hl hσ hf h
    have hb : ¬ σ.2 = true := by rw [exM_was h]; decide
    unfold exM at h ⊢
    rw [if_neg hb] at h ⊢
    by_cases h5 : lvl = 5
    · rw [if_pos h5] at h ⊢
      by_cases h1 : isM ts σ [tMinus, tNot] = true
      · rw [if_pos h1] at h ⊢
        obtain ⟨q1, q2, q3⟩ := next_on hts hσ h1
        exact cn_mk (cn_one (ih 5 _ (by omega) (by omega) (by omega) h)) (by omega)
      · rw [if_neg h1] at h ⊢
        by_cases h2 : isM ts σ [tOpen] = true
        · rw [if_pos h2] at h ⊢
          obtain ⟨q1, q2, q3⟩ := next_on hts hσ h2
          exact ((ih 0 _ (by omega) (by omega) (by omega) (want_ok h)).up (wantM_ge ts _ _)).down (by omega)
        · rw [if_neg h2] at h ⊢
          split at h
          · rename_i h3
            rw [if_pos h3]
            exact of_cn hts hσ (by omega) h
          · rename_i h3
            rw [if_neg h3]
            split at h
            · rename_i h4
              rw [if_pos h4]
              exact of_cn hts hσ (by omega) h
            · rename_i h4
              rw [if_neg h4]
              exact of_cn hts hσ (by omega) h
    · rw [if_neg h5] at h ⊢
      have hge := exM_ge ts f (lvl + 1) σ
      exact loopM_cn hts σ.1 (fun σ => exM_ge ts f (lvl + 1) σ) (fun σ h => exM_lt f (lvl + 1) σ h) (fun ρ h1 h2 h3 => ih (lvl + 1) ρ (by omega) h2 (by omega) h3) _ _ _ hge (exM_lt f (lvl + 1) σ hσ) (fun hb => ih (lvl + 1) σ (by omega) hσ (by omega) hb) h
theorem exprM_cn {σ : PS} (hσ : σ.1 < ts.length) (h : (exprM ts σ).2.2 = false) : CnT (exprM ts σ).1 σ.1 (exprM ts σ).2.1 :=
  exM_cn hts _ 0 σ (by omega) hσ (by have : (ts.length - σ.1) * 7 ≤ ts.length * 7 := Nat.mul_le_mul_right _ (Nat.sub_le _ _); omega) h
theorem argM_cn {σ : PS} (hσ : σ.1 < ts.length) (h : (argM ts σ).2.2 = false) : CnT (argM ts σ).1 σ.1 (argM ts σ).2.1 := by
  unfold argM at h ⊢
  by_cases h1 : isM ts σ [tAny] = true
  · rw [if_pos h1]
    obtain ⟨q1, _, _⟩ := next_on hts hσ h1
    exact cn_mk (cn_nil (Nat.le_refl _)) (by dsimp only; omega)
  · rw [if_neg h1] at h ⊢
    by_cases h2 : isM ts σ [tMinus] = true
    · rw [if_pos h2]
      obtain ⟨q1, _, _⟩ := next_on hts hσ h2
      have := ofM_ge ts (nextM ts σ) 4 14
      exact cn_mk (cn_nil (Nat.le_refl _)) (by dsimp only; omega)
    · rw [if_neg h2] at h ⊢
      split at h
      · rename_i h3
        rw [if_pos h3]
        exact of_cn hts hσ (by omega) h
      · rename_i h3
        rw [if_neg h3]
        split at h
        · rename_i h4
          rw [if_pos h4]
          exact of_cn hts hσ (by omega) h
        · rename_i h4
          rw [if_neg h4]
          exact of_cn hts hσ (by omega) h
theorem rowLoop_cn {one : PS → Tree × PS} (k0 : Nat) (hone : ∀ σ : PS, σ.1 < ts.length → (one σ).2.2 = false → CnT (one σ).1 σ.1 (one σ).2.1) (hlt : ∀ σ : PS, σ.1 < ts.length → (one σ).2.1 < ts.length) :
    ∀ (g : Nat) (ks : List Tree) (σ : PS), σ.1 < ts.length → (σ.2 = false → CnL ks k0 σ.1) → (rowLoop ts one g ks σ).2.2 = false → CnL (rowLoop ts one g ks σ).1 k0 (rowLoop ts one g ks σ).2.1 := by
  intro g
  induction g with
  | zero => intro ks σ _ hk h; exact hk h
  | succ g ih =>
    intro ks σ hσ hk h
    rw [rowLoop_succ] at h ⊢
    by_cases hi : isM ts σ [tComma] = true
    · rw [if_pos hi] at h ⊢
      obtain ⟨q1, q2, q3⟩ := next_on hts hσ hi
      exact ih _ _ (hlt _ (by omega)) (fun hb => (hk q2).snoc (by omega) (hone _ (by omega) hb)) h
    · rw [if_neg hi] at h ⊢
      exact hk h
theorem rowM_cn {one : PS → Tree × PS} (hone : ∀ σ : PS, σ.1 < ts.length → (one σ).2.2 = false → CnT (one σ).1 σ.1 (one σ).2.1) (hlt : ∀ σ : PS, σ.1 < ts.length → (one σ).2.1 < ts.length) {σ : PS} (hσ : σ.1 < ts.length) (h : (rowM ts one σ).2.2 = false) :
    CnL (rowM ts one σ).1 σ.1 (rowM ts one σ).2.1 := rowLoop_cn hts σ.1 hone hlt _ _ _ (hlt _ hσ) (fun hb => cn_one (hone _ hσ hb)) h
theorem listM_cn {one : PS → Tree × PS} (hone : ∀ σ : PS, σ.1 < ts.length → (one σ).2.2 = false → CnT (one σ).1 σ.1 (one σ).2.1) (hlt : ∀ σ : PS, σ.1 < ts.length → (one σ).2.1 < ts.length) {σ : PS} (hσ : σ.1 < ts.length) (h : (listM ts one σ).2.2 = false) :
    CnL (listM ts one σ).1 σ.1 (listM ts one σ).2.1 := by
  unfold listM at h ⊢
  have hw := wantM_ge ts σ tOpen
  by_cases h1 : isM ts (wantM ts σ tOpen) [tShut] = true
  · rw [if_pos h1]
    exact cn_nil (Nat.le_trans hw (nextM_ge ts _).1)
  · rw [if_neg h1] at h ⊢
    exact ((rowM_cn hts hone hlt (want_in hσ _) (want_ok h)).up (wantM_ge ts _ _)).down hw
theorem condM_cn {σ : PS} (hσ : σ.1 < ts.length) (h : (condM ts (argM ts) σ).2.2 = false) : CnT (condM ts (argM ts) σ).1 σ.1 (condM ts (argM ts) σ).2.1 := by
  have hl : ∀ {ρ : PS}, ρ.1 < ts.length → (listM ts (argM ts) ρ).2.2 = false → CnL (listM ts (argM ts) ρ).1 ρ.1 (listM ts (argM ts) ρ).2.1 := fun h1 h2 => listM_cn hts (fun σ h h2 => argM_cn hts h h2) (fun _ h => argM_lt h) h1 h2
  unfold condM at h ⊢
  by_cases h1 : isM ts σ [tTest] = true
  · rw [if_pos h1] at h ⊢
    obtain ⟨q1, _, _⟩ := next_on hts hσ h1
    exact cn_mk ((cn_one (exprM_cn hts (next_lt hσ) (want_ok h))).up (wantM_ge ts _ _)) (by omega)
  · rw [if_neg h1] at h ⊢
    by_cases h2 : isM ts σ [tNot] = true
    · rw [if_pos h2] at h ⊢
      obtain ⟨q1, _, _⟩ := next_on hts hσ h2
      have h3 := want_ok h
      have h5 := ofM_ge ts (nextM ts σ) 2 6
      exact cn_mk ((hl (of_in (next_lt hσ) 2 6) h3).up (wantM_ge ts _ _)) (by omega)
    · rw [if_neg h2] at h ⊢
      have h3 := want_ok h
      have h4 := listM_was (fun _ h => argM_bad h) h3
      rcases ofM_on hts hσ (show 2 ≠ 7 by omega) 5 with h5 | h5
      · rw [h5] at h4; cases h4
      · exact cn_mk ((hl (of_in hσ 2 5) h3).up (wantM_ge ts _ _)) (by omega)
theorem actM_cn {σ : PS} (hσ : σ.1 < ts.length) (h : (actM ts σ).2.2 = false) : CnT (actM ts σ).1 σ.1 (actM ts σ).2.1 := by
  have he : ∀ σ : PS, σ.1 < ts.length → (exprM ts σ).2.2 = false → CnT (exprM ts σ).1 σ.1 (exprM ts σ).2.1 := fun σ h1 h2 => exprM_cn hts h1 h2
  have hlt : ∀ σ : PS, σ.1 < ts.length → (exprM ts σ).2.1 < ts.length := fun σ h => exM_lt _ _ _ h
  rcases actM_on hts hσ with hon | hon
  · rw [hon] at h; cases h
  unfold actM at h hon ⊢
  by_cases h1 : isM ts σ [tAssert] = true
  · rw [if_pos h1] at h ⊢
    obtain ⟨q1, _, _⟩ := next_on hts hσ h1
    have h5 := ofM_ge ts (nextM ts σ) 2 8
    exact cn_mk ((listM_cn hts he hlt (of_in (next_lt hσ) 2 8) (want_ok h)).up (wantM_ge ts _ _)) (by omega)
  · rw [if_neg h1] at h hon ⊢
    by_cases h2 : isM ts σ [tRetract] = true
    · rw [if_pos h2] at hon ⊢
      exact cn_mk (cn_nil (Nat.le_refl _)) hon
    · rw [if_neg h2] at h hon ⊢
      by_cases h3 : isM ts σ [tSay] = true
      · rw [if_pos h3] at h ⊢
        obtain ⟨q1, _, _⟩ := next_on hts hσ h3
        exact cn_mk ((rowM_cn hts he hlt (next_lt hσ) (want_ok h)).up (wantM_ge ts _ _)) (by omega)
      · rw [if_neg h3] at hon ⊢
        exact cn_mk (cn_nil (Nat.le_refl _)) hon
omit hts in
theorem upTo_cn {one : PS → Tree × PS} (k0 : Nat) (hone : ∀ σ : PS, σ.1 < ts.length → (one σ).2.2 = false → CnT (one σ).1 σ.1 (one σ).2.1) (hlt : ∀ σ : PS, σ.1 < ts.length → (one σ).2.1 < ts.length) (stop : ByteArray) :
    ∀ (g : Nat) (ks : List Tree) (σ : PS), σ.1 < ts.length → (σ.2 = false → CnL ks k0 σ.1) → (upTo ts one stop g ks σ).2.2 = false → CnL (upTo ts one stop g ks σ).1 k0 (upTo ts one stop g ks σ).2.1 := by
  intro g
  induction g with
  | zero => intro ks σ _ hk h; exact hk h
  | succ g ih =>
    intro ks σ hσ hk h
    rw [upTo_succ] at h ⊢
    by_cases hb : σ.2 = true
    · rw [if_pos hb] at h; rw [hb] at h; cases h
    · rw [if_neg hb] at h ⊢
      have hb' : σ.2 = false := by simpa using hb
      by_cases hi : isM ts σ [stop] = true
      · rw [if_pos hi] at h ⊢; exact hk hb'
      · rw [if_neg hi] at h ⊢
        exact ih _ _ (hlt _ hσ) (fun hb => (hk hb').snoc (Nat.le_refl _) (hone _ hσ hb)) h
theorem ruleM_cn (a : Int) {σ : PS} (hσ : σ.1 < ts.length) (h : (ruleM ts a σ).2.2 = false) : CnT (ruleM ts a σ).1 σ.1 (ruleM ts a σ).2.1 := by
  unfold ruleM at h ⊢
  dsimp only at h ⊢
  have p3 := want_in (salM_lt (of_in hσ (ts := ts) 2 4)) tLeft
  have g1 := salM_ge ts (ofM ts σ 2 4).2
  have g2 := wantM_ge ts (salM ts (ofM ts σ 2 4).2).2 tLeft
  have z0 := want_ok h
  have z1 := want_ok (upTo_was z0)
  have z2 := want_ok (upTo_was z1)
  have z3 := salM_was z2
  have hmv : σ.1 + 1 ≤ (ofM ts σ 2 4).2.1 := by
    rcases ofM_on hts hσ (show 2 ≠ 7 by omega) 4 with h5 | h5
    · rw [h5] at z3; cases z3
    · exact h5
  have c1 := upTo_cn (wantM ts (salM ts (ofM ts σ 2 4).2).2 tLeft).1 (fun σ h1 h2 => condM_cn hts h1 h2) (fun _ h => condM_lt h) tTo (ts.length + 1) [] _ p3 (fun _ => cn_nil (Nat.le_refl _)) z1
  have p4 := upTo_lt (fun _ h => condM_lt h) tTo (ts.length + 1) [] _ p3
  generalize upTo ts (condM ts (argM ts)) tTo (ts.length + 1) [] (wantM ts (salM ts (ofM ts σ 2 4).2).2 tLeft) = cs at *
  have b1 := upTo_cn (wantM ts (salM ts (ofM ts σ 2 4).2).2 tLeft).1 (fun σ h1 h2 => actM_cn hts h1 h2) (fun _ h => actM_lt h) tRight (ts.length + 1) cs.1 _ (want_in p4 tTo) (fun _ => c1.up (wantM_ge ts _ _)) z0
  exact cn_mk (b1.up (wantM_ge ts _ _)) (by omega)
theorem declM_cn {σ : PS} (hσ : σ.1 < ts.length) (h : (declM ts (ruleM ts) σ).2.2 = false) : CnT (declM ts (ruleM ts) σ).1 σ.1 (declM ts (ruleM ts) σ).2.1 := by
  unfold declM at h ⊢
  by_cases h1 : isM ts σ [tFact] = true
  · rw [if_pos h1] at h ⊢
    obtain ⟨q1, _, _⟩ := next_on hts hσ h1
    have h5 := ofM_ge ts (nextM ts σ) 2 2
    exact cn_mk ((listM_cn hts (fun σ h1 h2 => of_cn hts h1 (by omega) h2) (fun _ h => of_in h 2 3) (of_in (next_lt hσ) 2 2) (want_ok h)).up (wantM_ge ts _ _)) (by omega)
  · rw [if_neg h1] at h ⊢
    exact (ruleM_cn hts _ (want_in hσ _) h).down (wantM_ge ts _ _)
theorem progL_cn : ∀ (g : Nat) (ks : List Tree) (σ : PS), σ.1 < ts.length → (σ.2 = false → CnL ks 0 σ.1) → (progL ts g ks σ).2.2 = false → CnL (progL ts g ks σ).1 0 (progL ts g ks σ).2.1 := by
  intro g
  induction g with
  | zero => intro ks σ _ hk h; exact hk h
  | succ g ih =>
    intro ks σ hσ hk h
    rw [progL_succ] at h ⊢
    by_cases hb : σ.2 = true
    · rw [if_pos hb] at h; rw [hb] at h; cases h
    · rw [if_neg hb] at h ⊢
      by_cases h7 : kdM ts σ = 7
      · rw [if_pos h7] at h ⊢; exact hk h
      · rw [if_neg h7] at h ⊢
        exact ih _ _ (declM_lt hσ) (fun hd => (hk (by simpa using hb)).snoc (Nat.le_refl _) (declM_cn hts hσ hd)) h
end
/-- a source's program has no more nodes than there are tokens, and one -/
theorem prog_many {s : ByteArray} (hs : s.size ≤ 16384) (hb : (progD (allTk s)).2.2 = false) (D : Nat) : manyF D (progT s) ≤ 16386 := by
  have h0 : 0 < (allTk s).length := by rw [allTk_len]; exact Nat.succ_pos _
  have h1 := progL_cn (allTk_ok s hs) ((allTk s).length + 1) [] (0, false) h0 (fun _ => cn_nil (Nat.le_refl _)) hb
  have h2 := progL_lt (allTk s) ((allTk s).length + 1) [] (0, false) h0
  have h9 := toks_len s (s.size + 1) 0 (Nat.zero_le _)
  have h8 : (toksFrom s 0).1.length + 0 ≤ s.size := h9
  have h7 : (allTk s).length ≤ 16385 := by rw [allTk_len]; omega
  cases D with
  | zero => show 1 ≤ 16386; omega
  | succ D =>
    rw [manyF_succ]
    have h3 := h1 D
    show 1 + sumN D (progL (allTk s) ((allTk s).length + 1) [] (0, false)).1 ≤ _
    omega
end Go.Proofs.YtfpohaipmnjflaaGreatDoor
