/- Several texts joined, each with its own sentence and conditions ahead of it: BackA, BackB, BackC, BackD, BackE. -/
import Derived.Test.YtineejjdbjdliaaGreatDoorMZM
import Derived.Test.YtineejjdbjdliaaGreatDoorMZL
import Derived.Test.YtineejjdbjdliaaGreatDoorMZK
/- The parser reads a tree's tokens as the tree: expressions; with no program in sight. Condition: the tree is right. -/
namespace Go.Proofs.YtineejjdbjdliaaGreatDoor
open Go.RowKit

/-- the same, but for places, however deep -/
def Like (a b : Tree) : Prop := ∀ d, sameF d a b = true
def LikeL (l m : List Tree) : Prop := l.length = m.length ∧ ∀ x ∈ l.zip m, Like x.1 x.2
theorem like_mk {T : Tree} {k : Nat} {t : ByteArray} {n p : Int} {l : List Tree} (hk : T.kind = k) (ht : txL T = t.data.toList) (hn : T.num = n) (hl : LikeL T.kids l) : Like T (.mk k t n p l) := by
  intro d
  have h0 : (T.kind == k && T.text.data.toList == t.data.toList && T.num == n && T.kids.length == l.length) = true := by
    have ht' : T.text.data.toList = t.data.toList := ht
    simp [hk, ht', hn, hl.1]
  cases d with
  | zero => exact h0
  | succ d =>
    show (T.kind == k && T.text.data.toList == t.data.toList && T.num == n && T.kids.length == l.length && (T.kids.zip l).all (fun x => sameF d x.1 x.2)) = true
    rw [h0, Bool.true_and, List.all_eq_true]
    exact fun x hx => hl.2 x hx d
theorem likeL_nil : LikeL [] [] := ⟨rfl, fun x hx => by cases hx⟩
theorem likeL_cons {a b : Tree} {l m : List Tree} (h : Like a b) (hl : LikeL l m) : LikeL (a :: l) (b :: m) := by
  refine ⟨by simp [hl.1], fun x hx => ?_⟩
  rw [List.zip_cons_cons] at hx
  rcases List.mem_cons.1 hx with rfl | hx
  · exact h
  · exact hl.2 x hx
theorem likeL_snoc {a b : Tree} {l m : List Tree} (hl : LikeL l m) (h : Like a b) : LikeL (l ++ [a]) (m ++ [b]) := by
  refine ⟨by simp [hl.1], fun x hx => ?_⟩
  rw [List.zip_append hl.1] at hx
  rcases List.mem_append.1 hx with hx | hx
  · exact hl.2 x hx
  · simp at hx
    subst hx
    exact h
theorem likeL_app {a b c e : List Tree} (h1 : LikeL a b) (h2 : LikeL c e) : LikeL (a ++ c) (b ++ e) := by
  refine ⟨by simp [h1.1, h2.1], fun x hx => ?_⟩
  rw [List.zip_append h1.1] at hx
  rcases List.mem_append.1 hx with hx | hx
  · exact h1.2 x hx
  · exact h2.2 x hx

/-- these tokens stand from a place on -/
def Has (ts : List Tok) (k : Nat) (l : List KT) : Prop := ∀ i t, l[i]? = some t → ∃ pl, ts[k + i]? = some (t.1, t.2, pl)
section
variable {ts : List Tok}
theorem Has.left {k : Nat} {a b : List KT} (h : Has ts k (a ++ b)) : Has ts k a := fun i t hi => h i t (by rw [List.getElem?_append_left (List.getElem?_eq_some_iff.1 hi).1]; exact hi)
theorem Has.right {k : Nat} {a b : List KT} (h : Has ts k (a ++ b)) : Has ts (k + a.length) b := fun i t hi => by
  rw [Nat.add_assoc]
  exact h (a.length + i) t (by rw [List.getElem?_append_right (by omega)]; simpa using hi)
theorem Has.one {k : Nat} {t : KT} (h : Has ts k [t]) : ∃ pl, ts[k]? = some (t.1, t.2, pl) := h 0 t rfl
theorem Has.lt {k : Nat} {l : List KT} (h : Has ts k l) (hl : l ≠ []) : k + l.length ≤ ts.length := by
  obtain ⟨t, q, rfl⟩ := List.exists_cons_of_ne_nil hl
  obtain ⟨u, hu⟩ : ∃ u, (t :: q)[q.length]? = some u := ⟨_, List.getElem?_eq_getElem (by simp)⟩
  obtain ⟨pl, hp⟩ := h q.length u hu
  have := (List.getElem?_eq_some_iff.1 hp).1
  simp only [List.length_cons]
  omega
theorem at_tok {k pl : Nat} {t : KT} (h : ts[k]? = some (t.1, t.2, pl)) : kdM ts (k, false) = t.1 ∧ txM ts (k, false) = t.2 ∧ atM ts (k, false) = pl := by
  have e : tokM ts k = (t.1, t.2, pl) := tokM_get h
  unfold kdM txM atM
  rw [e]
  exact ⟨rfl, rfl, rfl⟩
theorem is_val {k pl : Nat} {t : KT} (h : ts[k]? = some (t.1, t.2, pl)) (texts : List ByteArray) : isM ts (k, false) texts = ((t.1 == 6 || t.1 == 1) && texts.any (fun s => !s.data.toList.isEmpty && s.data.toList == t.2.data.toList)) := isM_val h texts
theorem nxt_val {k : Nat} (h : k + 1 < ts.length) : nextM ts (k, false) = (k + 1, false) := by
  unfold nextM; rw [nextK_on h]
theorem of_val {k pl : Nat} {t : KT} (h : ts[k]? = some (t.1, t.2, pl)) (hk : k + 1 < ts.length) (kind : Nat) : ofM ts (k, false) t.1 kind = (.mk kind t.2 0 pl [], (k + 1, false)) := by
  have e : tokM ts k = (t.1, t.2, pl) := tokM_get h
  unfold ofM
  dsimp only
  rw [e]
  simp only [Bool.false_or, bne_self_eq_false]
  rw [nextK_on hk]
theorem wnt_val {k pl : Nat} {x : ByteArray} {kd : Nat} (h : ts[k]? = some (kd, x, pl)) (hk : k + 1 < ts.length) (hkd : kd = 6 ∨ kd = 1) (hx : x.data.toList.isEmpty = false) : wantM ts (k, false) x = (k + 1, false) := by
  have hi : isM ts (k, false) [x] = true := by
    rw [is_val (t := (kd, x)) h]
    have h2 : ([x].any fun s => !s.data.toList.isEmpty && s.data.toList == x.data.toList) = true := by rw [List.any_cons, hx]; simp
    rw [h2]
    rcases hkd with rfl | rfl <;> rfl
  have h1 := (skipM_place ts (k, false) [x]).1
  have h2 : skipM ts (k, false) [x] = nextM ts (k, false) := by unfold skipM; rw [if_pos hi]
  rw [h2, nxt_val hk] at h1
  unfold wantM
  refine Prod.ext ?_ ?_
  · exact h1.symm
  · show wantB false _ _ = false
    unfold wantB
    have h3 : isT (tokM ts k) [x] = true := by
      unfold isM at hi
      simpa using hi
    simp [h3]
/-- no operator of these levels stands there -/
def NoOp (ts : List Tok) (lvl k : Nat) : Prop := ∀ j, lvl ≤ j → j < 5 → isM ts (k, false) (lvl6 j) = false
theorem NoOp.up {lvl lvl' k : Nat} (h : NoOp ts lvl k) (hl : lvl ≤ lvl') : NoOp ts lvl' k := fun j h1 h2 => h j (by omega) h2
/-- an expression is read at a level: the tree, and how far -/
def Rd5 (ts : List Tok) (lvl k n : Nat) (T : Tree) : Prop := ∃ T', Like T T' ∧ ∀ f, 7 * n + (6 - lvl) ≤ f → exM ts f lvl (k, false) = (T', (k + n, false))
theorem rd_down {lvl k n : Nat} {T : Tree} (hl : lvl < 5) (h : Rd5 ts (lvl + 1) k n T) (hn : isM ts (k + n, false) (lvl6 lvl) = false) : Rd5 ts lvl k n T := by
  obtain ⟨T', h1, h2⟩ := h
  refine ⟨T', h1, fun f hf => ?_⟩
  cases f with
  | zero => omega
  | succ f =>
    unfold exM
    rw [if_neg (fun h => by cases h), if_neg (by omega), h2 f (by omega)]
    dsimp only
    cases hg : ts.length with
    | zero => rfl
    | succ g => rw [loopM_succ, if_neg (by rw [hn]; decide)]
theorem rd_down_to {k n L : Nat} {T : Tree} (hL : L ≤ 5) : ∀ (m lvl : Nat), lvl + m = L → Rd5 ts L k n T → NoOp ts lvl (k + n) → Rd5 ts lvl k n T := by
  intro m
  induction m with
  | zero =>
    intro lvl hl h _
    obtain rfl : lvl = L := by omega
    exact h
  | succ m ih =>
    intro lvl hl h hn
    exact rd_down (by omega) (ih (lvl + 1) (by omega) h (hn.up (by omega))) (hn lvl (Nat.le_refl _) (by omega))
theorem lvl_any {lvl : Nat} (x : List UInt8) : (lvl6 lvl).any (fun s => !s.data.toList.isEmpty && s.data.toList == x) = true ↔ x ∈ ((lvl6 lvl).map (fun s => s.data.toList)).filter (fun l => !l.isEmpty) := by
  rw [List.any_eq_true, List.mem_filter, List.mem_map]
  constructor
  · rintro ⟨s, hs, h⟩
    rw [Bool.and_eq_true, beq_iff_eq] at h
    exact ⟨⟨s, hs, h.2⟩, by rw [← h.2]; exact h.1⟩
  · rintro ⟨⟨s, hs, rfl⟩, h⟩
    exact ⟨s, hs, by simpa using h⟩
theorem not_op {k pl : Nat} {t : KT} (h : ts[k]? = some (t.1, t.2, pl)) (hk : t.1 ≠ 6 ∧ t.1 ≠ 1) (texts : List ByteArray) : isM ts (k, false) texts = false := by
  rw [is_val h]
  simp [hk.1, hk.2]
theorem noOp_text {k pl : Nat} {t : KT} (h : ts[k]? = some (t.1, t.2, pl)) (ht : t.2.data.toList ∈ [[41], [44], [59]]) (lvl : Nat) : NoOp ts lvl k := by
  intro j _ hj
  rw [is_val h]
  have h0 : (List.range 5).all (fun j => [[41], [44], [59]].all fun x => !(lvl6 j).any (fun s => !s.data.toList.isEmpty && s.data.toList == x)) = true := by kernel_rfl
  rw [List.all_eq_true] at h0
  have h1 := h0 j (List.mem_range.2 hj)
  rw [List.all_eq_true] at h1
  have h2 := h1 _ ht
  simp only [Bool.not_eq_true'] at h2
  rw [h2, Bool.and_false]
end
/-- operators with two sides: how strongly they bind says their level -/
theorem op_level {T : Tree} (hk : T.kind = 16) (h2 : T.kids.length = 2) (ht : amongB twoL (txL T) = true) : 1 ≤ bindsM T ∧ bindsM T ≤ 5 ∧ ((if wordB (txL T) then 1 else 6 : Nat) == 6 || (if wordB (txL T) then 1 else 6 : Nat) == 1) = true ∧
    (∀ j, j < 5 → (lvl6 j).any (fun s => !s.data.toList.isEmpty && s.data.toList == txL T) = (j + 1 == bindsM T)) := by
  have h0 : twoL.all (fun g => (List.range 5).all fun j => (lvl6 j).any (fun s => !s.data.toList.isEmpty && s.data.toList == g.data.toList) == (j + 1 == (if g.data.toList = [111, 114] then 1
    else if g.data.toList = [97, 110, 100] then 2
    else if g.data.toList = [43] ∨ g.data.toList = [45] then 4
    else if g.data.toList = [42] then 5 else 3))) = true := by kernel_rfl
  have hb : bindsM T = (if txL T = [111, 114] then 1 else if txL T = [97, 110, 100] then 2 else if txL T = [43] ∨ txL T = [45] then 4 else if txL T = [42] then 5 else 3) := by
    unfold bindsM
    rw [if_pos hk, if_neg (by omega)]
  rw [List.all_eq_true] at h0
  unfold amongB at ht
  rw [List.any_eq_true] at ht
  obtain ⟨g, hg, hgt⟩ := ht
  have hgt : g.data.toList = txL T := by simpa using hgt
  have h1 := h0 g hg
  rw [hgt, ← hb, List.all_eq_true] at h1
  refine ⟨?_, ?_, ?_, fun j hj => by simpa using h1 j (List.mem_range.2 hj)⟩
  · rw [hb]; repeat' split
    all_goals omega
  · rw [hb]; repeat' split
    all_goals omega
  · split <;> rfl
end Go.Proofs.YtineejjdbjdliaaGreatDoor
/- The parser reads an expression's tokens as the expression; with no program in sight. Condition: the tree is right. -/
namespace Go.Proofs.YtineejjdbjdliaaGreatDoor
open Go.RowKit

def Pos5 (T : Tree) : Prop := 13 ≤ T.kind ∧ (T.kind = 14 → negB (txL T) = false)
theorem exprsB_pos {l : List Tree} (h : exprsB l = true) {t : Tree} (ht : t ∈ l) : Pos5 t := by
  refine ⟨(exprsB_kind h ht).1, fun hk => ?_⟩
  unfold exprsB at h
  rw [Bool.and_eq_true, List.all_eq_true] at h
  have := h.1 t ht
  rw [hk] at this
  simpa [txL] using this
theorem bindsM_pos (T : Tree) : 1 ≤ bindsM T := by
  unfold bindsM
  repeat' split
  all_goals omega
theorem op_num {T : Tree} (h : levelOk T = true) (hk : 10 ≤ T.kind ∨ (5 ≤ T.kind ∧ T.kind ≤ 8)) : T.num = 0 := by
  obtain ⟨⟨_, h16⟩, _, h3, _⟩ := level_parts h
  unfold numOk at h3
  rw [if_neg (by simp; omega), if_neg (by simp; omega)] at h3
  simpa using h3
theorem leaf_kids {T : Tree} (h : levelOk T = true) (hk : 12 ≤ T.kind ∧ T.kind ≤ 15) : T.kids = [] := by
  obtain ⟨_, _, _, _, h5⟩ := level_parts h
  obtain hk | hk | hk | hk : T.kind = 12 ∨ T.kind = 13 ∨ T.kind = 14 ∨ T.kind = 15 := by omega
  all_goals (rw [hk] at h5; exact List.isEmpty_iff.1 h5)
section
variable (ts : List Tok)
def BackA (d : Nat) : Prop := ∀ T, okF d T = true → ExpOk d T → Pos5 T → ∀ lvl, lvl ≤ 5 → lvl + 1 ≤ bindsM T → ∀ k, Has ts k (exprT d T) → k + (exprT d T).length < ts.length → NoOp ts lvl (k + (exprT d T).length) → Rd5 ts lvl k (exprT d T).length T
def BackI (d : Nat) : Prop := ∀ T, okF d T = true → ExpOk d T → Pos5 T → ∀ lvl, lvl ≤ 5 → ∀ k, Has ts k (inT T (lvl + 1) (exprT d T)) → k + (inT T (lvl + 1) (exprT d T)).length < ts.length → NoOp ts lvl (k + (inT T (lvl + 1) (exprT d T)).length) → Rd5 ts lvl k (inT T (lvl + 1) (exprT d T)).length T
/-- a left side: what the loop of its level then does -/
def BackL (d : Nat) : Prop := ∀ T, okF d T = true → ExpOk d T → Pos5 T → ∀ lvl, lvl < 5 → lvl ≠ 2 → ∀ k, Has ts k (inT T (lvl + 1) (exprT d T)) → k + (inT T (lvl + 1) (exprT d T)).length < ts.length → NoOp ts (lvl + 1) (k + (inT T (lvl + 1) (exprT d T)).length) →
  ∃ T', Like T T' ∧ ∃ g, ts.length ≤ g + (inT T (lvl + 1) (exprT d T)).length ∧ ∀ f, 7 * (inT T (lvl + 1) (exprT d T)).length + (6 - lvl) ≤ f → exM ts f lvl (k, false) = loopM ts (exM ts (f - 1) (lvl + 1)) lvl (atM ts (k, false)) g T' (k + (inT T (lvl + 1) (exprT d T)).length, false)
end
section
variable {ts : List Tok}
theorem exM_five (f k : Nat) : exM ts (f + 1) 5 (k, false) = if isM ts (k, false) [tMinus, tNot] = true then (.mk 16 (txM ts (k, false)) 0 (atM ts (k, false)) [(exM ts f 5 (nextM ts (k, false))).1], (exM ts f 5 (nextM ts (k, false))).2)
      else if isM ts (k, false) [tOpen] = true then ((exM ts f 0 (nextM ts (k, false))).1, wantM ts (exM ts f 0 (nextM ts (k, false))).2 tShut)
      else if kdM ts (k, false) = 5 then ofM ts (k, false) 5 15
      else if kdM ts (k, false) = 3 then ofM ts (k, false) 3 13
      else ofM ts (k, false) 4 14 := by
  conv => lhs; unfold exM
  rw [if_neg (fun h => by cases h), if_pos rfl]
theorem exM_lvl {f lvl k : Nat} (hl : lvl < 5) : exM ts (f + 1) lvl (k, false) = loopM ts (exM ts f (lvl + 1)) lvl (atM ts (k, false)) ts.length (exM ts f (lvl + 1) (k, false)).1 (exM ts f (lvl + 1) (k, false)).2 := by
  conv => lhs; unfold exM
  rw [if_neg (fun h => by cases h), if_neg (by omega)]
/-- a bracketed expression -/
theorem rd_brack {k n : Nat} {T : Tree} (hb : ∃ pl, ts[k]? = some (6, mkB [40], pl)) (hc : ∃ pl, ts[k + 1 + n]? = some (6, mkB [41], pl)) (hl : k + 1 + n + 1 < ts.length) (h : Rd5 ts 0 (k + 1) n T) : Rd5 ts 5 k (n + 2) T := by
  obtain ⟨T', h1, h2⟩ := h
  obtain ⟨pl, hb⟩ := hb
  obtain ⟨pc, hc⟩ := hc
  refine ⟨T', h1, fun f hf => ?_⟩
  cases f with
  | zero => omega
  | succ f =>
    rw [exM_five, is_val (t := (6, mkB [40])) hb, if_neg (by decide), is_val (t := (6, mkB [40])) hb, if_pos (by decide), nxt_val (by omega), h2 f (by omega)]
    dsimp only
    have e : tShut = mkB [41] := rfl
    rw [e, wnt_val hc hl (Or.inl rfl) (by decide), show k + 1 + n + 1 = k + (n + 2) by omega]
theorem backI_of {d : Nat} (hA : BackA ts d) : BackI ts d := by
  intro T hk he hp lvl hl k hh hlt hn
  by_cases hb : lvl + 1 ≤ bindsM T
  · have e : inT T (lvl + 1) (exprT d T) = exprT d T := by unfold inT; rw [if_pos hb]
    rw [e] at hh hlt hn ⊢
    exact hA T hk he hp lvl hl hb k hh hlt hn
  · have e : inT T (lvl + 1) (exprT d T) = [sgT 40] ++ (exprT d T ++ [sgT 41]) := by unfold inT; rw [if_neg hb]
    rw [e] at hh hlt hn ⊢
    have el : ([sgT 40] ++ (exprT d T ++ [sgT 41])).length = (exprT d T).length + 2 := by simp
    rw [el] at hlt hn ⊢
    have h1 := hh.left.one
    have h2 := hh.right.left
    obtain ⟨pc, h3⟩ := hh.right.right.one
    have h3' : ts[k + 1 + (exprT d T).length]? = some (6, mkB [41], pc) := h3
    have h4 := hA T hk he hp 0 (by omega) (bindsM_pos T) (k + 1) h2 (by omega) (noOp_text (t := sgT 41) h3' (by decide) 0)
    exact rd_down_to (Nat.le_refl 5) (5 - lvl) lvl (by omega) (rd_brack h1 ⟨pc, h3'⟩ (by omega) h4) hn
theorem backL_up {d : Nat} (hA : BackA ts d) {T : Tree} (hk : okF d T = true) (he : ExpOk d T) (hp : Pos5 T) {lvl k : Nat} (hl : lvl < 5) (hne : bindsM T ≠ lvl + 1) (hh : Has ts k (inT T (lvl + 1) (exprT d T))) (hlt : k + (inT T (lvl + 1) (exprT d T)).length < ts.length) (hn : NoOp ts (lvl + 1) (k + (inT T (lvl + 1) (exprT d T)).length)) :
    ∃ T', Like T T' ∧ ∃ g, ts.length ≤ g + (inT T (lvl + 1) (exprT d T)).length ∧ ∀ f, 7 * (inT T (lvl + 1) (exprT d T)).length + (6 - lvl) ≤ f → exM ts f lvl (k, false) = loopM ts (exM ts (f - 1) (lvl + 1)) lvl (atM ts (k, false)) g T' (k + (inT T (lvl + 1) (exprT d T)).length, false) := by
  have e : inT T (lvl + 1) (exprT d T) = inT T (lvl + 1 + 1) (exprT d T) := by
    unfold inT
    by_cases hb : lvl + 1 ≤ bindsM T
    · rw [if_pos hb, if_pos (by omega)]
    · rw [if_neg hb, if_neg (by omega)]
  rw [e] at hh hlt hn ⊢
  obtain ⟨T', h1, h2⟩ := backI_of hA T hk he hp (lvl + 1) (by omega) k hh hlt hn
  refine ⟨T', h1, ts.length, by omega, fun f hf => ?_⟩
  cases f with
  | zero => omega
  | succ f =>
    rw [exM_lvl hl, h2 f (by omega)]
    rfl
theorem back_leaf {d : Nat} {T : Tree} (hk : okF d T = true) (hl : 12 ≤ T.kind ∧ T.kind ≤ 15) (hp : Pos5 T) {lvl : Nat} (hlvl : lvl ≤ 5) {k : Nat} (hh : Has ts k (leafT T)) (hlt : k + (leafT T).length < ts.length) (hn : NoOp ts lvl (k + (leafT T).length)) : Rd5 ts lvl k (leafT T).length T := by
  have hlv := okF_level hk
  have hnum := op_num hlv (Or.inl (by omega))
  have hkids := leaf_kids hlv hl
  obtain ⟨tok, htok⟩ : ∃ tok, leafT T = [(tok, T.text)] ∧ ((T.kind = 13 ∧ tok = 3) ∨ (T.kind = 15 ∧ tok = 5) ∨ (T.kind = 14 ∧ tok = 4)) := by
    unfold leafT
    rw [if_neg (by have := hp.1; omega)]
    obtain hk | hk | hk : T.kind = 13 ∨ T.kind = 14 ∨ T.kind = 15 := by have := hp.1; omega
    · rw [if_pos hk]; exact ⟨3, rfl, Or.inl ⟨hk, rfl⟩⟩
    · rw [if_neg (by omega), if_neg (by omega), hp.2 hk, if_neg (by decide)]; exact ⟨4, rfl, Or.inr (Or.inr ⟨hk, rfl⟩)⟩
    · rw [if_neg (by omega), if_pos hk]; exact ⟨5, rfl, Or.inr (Or.inl ⟨hk, rfl⟩)⟩
  obtain ⟨hlf, hcase⟩ := htok
  rw [hlf] at hh hlt hn ⊢
  obtain ⟨pl, h1⟩ := hh.one
  have h1 : ts[k]? = some (tok, T.text, pl) := h1
  have hlt' : k + 1 < ts.length := hlt
  have h6 : tok ≠ 6 ∧ tok ≠ 1 := by omega
  refine rd_down_to (Nat.le_refl 5) (5 - lvl) lvl (by omega) ?_ hn
  refine ⟨.mk T.kind T.text 0 pl [], like_mk rfl rfl hnum (by rw [hkids]; exact likeL_nil), fun f hf => ?_⟩
  cases f with
  | zero => simp at hf
  | succ f =>
    have hkd := (at_tok (t := (tok, T.text)) h1).1
    rw [exM_five, not_op (t := (tok, T.text)) h1 h6, if_neg (by decide), not_op (t := (tok, T.text)) h1 h6, if_neg (by decide), hkd]
    have hv := of_val (t := (tok, T.text)) h1 hlt' T.kind
    rcases hcase with ⟨e1, rfl⟩ | ⟨e1, rfl⟩ | ⟨e1, rfl⟩
    · rw [if_neg (show ¬ (3 : Nat) = 5 by decide), if_pos rfl]; rw [e1] at hv ⊢; exact hv
    · rw [if_pos rfl]; rw [e1] at hv ⊢; exact hv
    · rw [if_neg (show ¬ (4 : Nat) = 5 by decide), if_neg (show ¬ (4 : Nat) = 3 by decide)]; rw [e1] at hv ⊢; exact hv
theorem back_one {d : Nat} (hA : BackA ts d) {T a : Tree} (hk : okF (d + 1) T = true) (h16 : T.kind = 16) (ha : T.kids = [a]) (htx : txL T = [45] ∨ txL T = [110, 111, 116]) (hea : ExpOk d a) {lvl : Nat} (hlvl : lvl ≤ 5) {k : Nat}
    (hh : Has ts k ([opT T] ++ inT a 6 (exprT d a))) (hlt : k + ([opT T] ++ inT a 6 (exprT d a)).length < ts.length) (hn : NoOp ts lvl (k + ([opT T] ++ inT a 6 (exprT d a)).length)) : Rd5 ts lvl k ([opT T] ++ inT a 6 (exprT d a)).length T := by
  have hlv := okF_level hk
  have hkids : exprsB T.kids = true := by
    have := (level_parts hlv).2.2.2.2
    rw [h16] at this
    exact this
  have el : ([opT T] ++ inT a 6 (exprT d a)).length = 1 + (inT a 6 (exprT d a)).length := by simp; omega
  rw [el] at hlt hn ⊢
  obtain ⟨pl, h1⟩ := hh.left.one
  have h2 : Has ts (k + 1) (inT a 6 (exprT d a)) := hh.right
  have hI : Rd5 ts 5 (k + 1) (inT a 6 (exprT d a)).length a := backI_of hA a (okF_kid hk (by rw [ha]; simp)) hea (exprsB_pos hkids (by rw [ha]; simp)) 5 (Nat.le_refl _) (k + 1) h2 (show k + 1 + (inT a 6 (exprT d a)).length < ts.length by omega) (fun j h1 h2 => by omega)
  obtain ⟨a', g1, g2⟩ := hI
  have hop : isM ts (k, false) [tMinus, tNot] = true := by
    rw [is_val h1]
    unfold opT
    rw [← mkB_txL T]
    rcases htx with htx | htx
    · rw [htx]; decide
    · rw [htx]; decide
  refine rd_down_to (Nat.le_refl 5) (5 - lvl) lvl (by omega) ?_ hn
  refine ⟨.mk 16 T.text 0 (atM ts (k, false)) [a'], like_mk h16 rfl (op_num hlv (Or.inl (by omega))) (by rw [ha]; exact likeL_cons g1 likeL_nil), fun f hf => ?_⟩
  cases f with
  | zero => omega
  | succ f =>
    rw [exM_five, if_pos hop, nxt_val (by omega), g2 f (by omega), (at_tok h1).2.1]
    rw [show k + 1 + (inT a 6 (exprT d a)).length = k + (1 + (inT a 6 (exprT d a)).length) by omega]
    rfl
/-- behind a left side: the operator, and the right side -/
theorem loop_step {lvl k n g f : Nat} {a' : Tree} {pl : Int} {T : Tree} (hop : isM ts (k, false) (lvl6 lvl) = true) (hk : k + 1 < ts.length) (htx : txM ts (k, false) = T.text) {b' : Tree} (hb : exM ts f (lvl + 1) (k + 1, false) = (b', (k + 1 + n, false))) :
    loopM ts (exM ts f (lvl + 1)) lvl pl (g + 1) a' (k, false) = if lvl = 2 then (.mk 16 T.text 0 pl [a', b'], (k + 1 + n, false)) else loopM ts (exM ts f (lvl + 1)) lvl pl g (.mk 16 T.text 0 pl [a', b']) (k + 1 + n, false) := by
  rw [loopM_succ, if_pos hop, nxt_val hk, hb, htx]
theorem back_two {d : Nat} (hA : BackA ts d) (hL : BackL ts d) {T a b : Tree} (hk : okF (d + 1) T = true) (h16 : T.kind = 16) (hab : T.kids = [a, b]) (htw : amongB twoL (txL T) = true) (hea : ExpOk d a) (heb : ExpOk d b) {k : Nat} {L : List KT}
    (hLt : L = inT a (if bindsM T = 3 then 4 else bindsM T) (exprT d a) ++ ([opT T] ++ inT b (bindsM T + 1) (exprT d b)))
    (hh : Has ts k L) (hlt : k + L.length < ts.length) :
    (∀ lvl, lvl + 1 ≤ bindsM T → NoOp ts lvl (k + L.length) → Rd5 ts lvl k L.length T) ∧ (∀ lvl, lvl + 1 = bindsM T → lvl ≠ 2 → NoOp ts (lvl + 1) (k + L.length) →
      ∃ T', Like T T' ∧ ∃ g, ts.length ≤ g + L.length ∧ ∀ f, 7 * L.length + (6 - lvl) ≤ f → exM ts f lvl (k, false) = loopM ts (exM ts (f - 1) (lvl + 1)) lvl (atM ts (k, false)) g T' (k + L.length, false)) := by
  have hlv := okF_level hk
  have hkids : exprsB T.kids = true := by
    have := (level_parts hlv).2.2.2.2
    rw [h16] at this
    exact this
  have hpa : Pos5 a := exprsB_pos hkids (by rw [hab]; simp)
  have hpb : Pos5 b := exprsB_pos hkids (by rw [hab]; simp)
  have hoa := okF_kid hk (show a ∈ T.kids by rw [hab]; simp)
  have hob := okF_kid hk (show b ∈ T.kids by rw [hab]; simp)
  obtain ⟨b1, b5, bk, bl⟩ := op_level h16 (by rw [hab]; rfl) htw
  obtain ⟨lv, hlvb⟩ : ∃ lv, bindsM T = lv + 1 := ⟨bindsM T - 1, by omega⟩
  rw [hlvb] at hLt bl b5 ⊢
  obtain ⟨la, hla⟩ : ∃ l, inT a (if lv + 1 = 3 then 4 else lv + 1) (exprT d a) = l := ⟨_, rfl⟩
  obtain ⟨lb, hlb⟩ : ∃ l, inT b (lv + 1 + 1) (exprT d b) = l := ⟨_, rfl⟩
  rw [hla, hlb] at hLt
  subst hLt
  have el : (la ++ ([opT T] ++ lb)).length = la.length + 1 + lb.length := by simp; omega
  rw [el] at hlt ⊢
  have h1 := hh.left
  obtain ⟨pl, h2⟩ := hh.right.left.one
  have h3 : Has ts (k + la.length + 1) lb := hh.right.right
  have hopj : ∀ j, j < 5 → isM ts (k + la.length, false) (lvl6 j) = (j == lv) := fun j hj => by
    rw [is_val h2]
    show (((opT T).1 == 6 || (opT T).1 == 1) && (lvl6 j).any (fun s => !s.data.toList.isEmpty && s.data.toList == txL T)) = _
    rw [bl j hj]
    have : ((opT T).1 == 6 || (opT T).1 == 1) = true := bk
    rw [this, Bool.true_and]
    rw [Bool.eq_iff_iff, beq_iff_eq, beq_iff_eq]
    omega
  have hop : isM ts (k + la.length, false) (lvl6 lv) = true := by rw [hopj lv (by omega)]; simp
  have hno : NoOp ts (lv + 1) (k + la.length) := fun j h1 h2 => by rw [hopj j h2]; simp; omega
  have htx : txM ts (k + la.length, false) = T.text := (at_tok h2).2.1
  have rb : NoOp ts (lv + 1) (k + (la.length + 1 + lb.length)) → Rd5 ts (lv + 1) (k + la.length + 1) lb.length b := fun hn => by
    rw [← hlb] at h3 hlt hn ⊢
    exact backI_of hA b hob heb hpb (lv + 1) (by omega) _ h3 (by omega) (by
      rw [show k + la.length + 1 + (inT b (lv + 1 + 1) (exprT d b)).length = k + (la.length + 1 + (inT b (lv + 1 + 1) (exprT d b)).length) by omega]
      exact hn)
  have hlike : ∀ {a' b' : Tree} {p : Int}, Like a a' → Like b b' → Like T (.mk 16 T.text 0 p [a', b']) := fun ha hb => like_mk h16 rfl (op_num hlv (Or.inl (by omega))) (by rw [hab]; exact likeL_cons ha (likeL_cons hb likeL_nil))
  have loopB : ∀ lvl, lvl = lv → lvl ≠ 2 → NoOp ts (lvl + 1) (k + (la.length + 1 + lb.length)) → ∃ T', Like T T' ∧ ∃ g, ts.length ≤ g + (la.length + 1 + lb.length) ∧ ∀ f, 7 * (la.length + 1 + lb.length) + (6 - lvl) ≤ f → exM ts f lvl (k, false) = loopM ts (exM ts (f - 1) (lvl + 1)) lvl (atM ts (k, false)) g T' (k + (la.length + 1 + lb.length), false) := by
    intro lvl hl2 hne hn
    subst hl2
    have ea : inT a (lvl + 1) (exprT d a) = la := by rw [← hla, if_neg (by omega)]
    obtain ⟨b', hb1, hb2⟩ := rb hn
    obtain ⟨a', ha1, g, hg, ha2⟩ := hL a hoa hea hpa lvl (by omega) hne k (by rw [ea]; exact h1) (by rw [ea]; omega) (by rw [ea]; exact hno)
    rw [ea] at hg ha2
    obtain ⟨g', rfl⟩ : ∃ g', g = g' + 1 := ⟨g - 1, by omega⟩
    refine ⟨_, hlike (p := atM ts (k, false)) ha1 hb1, g', by omega, fun f hf => ?_⟩
    rw [ha2 f (by omega), loop_step (T := T) hop (by omega) htx (hb2 (f - 1) (by omega)), if_neg hne]
    rw [show k + la.length + 1 + lb.length = k + (la.length + 1 + lb.length) by omega]
  refine ⟨fun lvl hle hn => ?_, fun lvl hle hne hn => loopB lvl (by omega) hne hn⟩
  refine rd_down_to (L := lv) (by omega) (lv - lvl) lvl (by omega) ?_ hn
  have hnl : NoOp ts lv (k + (la.length + 1 + lb.length)) := hn.up (by omega)
  by_cases h2l : lv = 2
  · subst h2l
    have ea : inT a (3 + 1) (exprT d a) = la := by rw [← hla, if_pos rfl]
    obtain ⟨b', hb1, hb2⟩ := rb (hnl.up (by omega))
    obtain ⟨a', ha1, ha2⟩ := backI_of hA a hoa hea hpa 3 (by omega) k (by rw [ea]; exact h1) (by rw [ea]; omega) (by rw [ea]; exact hno)
    rw [ea] at ha2
    refine ⟨_, hlike (p := atM ts (k, false)) ha1 hb1, fun f hf => ?_⟩
    cases f with
    | zero => omega
    | succ f =>
      rw [exM_lvl (by omega), ha2 f (by omega)]
      dsimp only
      obtain ⟨g, hg⟩ : ∃ g, ts.length = g + 1 := ⟨ts.length - 1, by omega⟩
      rw [hg, loop_step (T := T) hop (by omega) htx (hb2 f (by omega)), if_pos rfl]
      rw [show k + la.length + 1 + lb.length = k + (la.length + 1 + lb.length) by omega]
  · obtain ⟨T', t1, g, hg, t2⟩ := loopB lv rfl h2l (hnl.up (by omega))
    refine ⟨T', t1, fun f hf => ?_⟩
    rw [t2 f (by omega)]
    obtain ⟨g', rfl⟩ : ∃ g', g = g' + 1 := ⟨g - 1, by omega⟩
    rw [loopM_succ, if_neg (by rw [hnl lv (Nat.le_refl _) (by omega)]; decide)]
theorem back_all : ∀ d, BackA ts d ∧ BackL ts d := by
  intro d
  induction d with
  | zero =>
    have hA : BackA ts 0 := fun T hk he hp lvl hl hb k hh hlt hn => back_leaf hk he hp hl hh hlt hn
    refine ⟨hA, fun T hk he hp lvl hl hne k hh hlt hn => backL_up hA hk he hp hl ?_ hh hlt hn⟩
    have he : 12 ≤ T.kind ∧ T.kind ≤ 15 := he
    have : bindsM T = 7 := by unfold bindsM; rw [if_neg (by omega)]
    omega
  | succ d ih =>
    have hA : BackA ts (d + 1) := by
      intro T hk he hp lvl hl hb k hh hlt hn
      rcases he with he | ⟨h16, he⟩
      · have e : exprT (d + 1) T = leafT T := by rw [exprT, if_neg (by omega)]
        rw [e] at hh hlt hn ⊢
        exact back_leaf hk he hp hl hh hlt hn
      · rcases he with ⟨a, ha, htx, hea⟩ | ⟨a, b, hab, hea, heb⟩
        · have e : exprT (d + 1) T = [opT T] ++ inT a 6 (exprT d a) := by rw [exprT, if_pos h16, ha]
          rw [e] at hh hlt hn ⊢
          exact back_one ih.1 hk h16 ha htx hea hl hh hlt hn
        · have htw : amongB twoL (txL T) = true := by
            rcases op_shape (okF_level hk) h16 with ⟨a', ha', _⟩ | ⟨_, _, _, h2⟩
            · rw [hab] at ha'; cases ha'
            · exact h2
          have e : exprT (d + 1) T = inT a (if bindsM T = 3 then 4 else bindsM T) (exprT d a) ++ ([opT T] ++ inT b (bindsM T + 1) (exprT d b)) := by rw [exprT, if_pos h16, hab]
          exact (back_two ih.1 ih.2 hk h16 hab htw hea heb e hh hlt).1 lvl hb hn
    refine ⟨hA, fun T hk he hp lvl hl hne k hh hlt hn => ?_⟩
    by_cases hb : bindsM T = lvl + 1
    · have e0 : inT T (lvl + 1) (exprT (d + 1) T) = exprT (d + 1) T := by unfold inT; rw [if_pos (by omega)]
      rw [e0] at hh hlt hn ⊢
      rcases he with he | ⟨h16, he⟩
      · exfalso
        have : bindsM T = 7 := by unfold bindsM; rw [if_neg (by omega)]
        omega
      · rcases he with ⟨a, ha, htx, hea⟩ | ⟨a, b, hab, hea, heb⟩
        · exfalso
          have : bindsM T = 6 := by unfold bindsM; rw [if_pos h16, if_pos (by rw [ha]; rfl)]
          omega
        · have htw : amongB twoL (txL T) = true := by
            rcases op_shape (okF_level hk) h16 with ⟨a', ha', _⟩ | ⟨_, _, _, h2⟩
            · rw [hab] at ha'; cases ha'
            · exact h2
          have e : exprT (d + 1) T = inT a (if bindsM T = 3 then 4 else bindsM T) (exprT d a) ++ ([opT T] ++ inT b (bindsM T + 1) (exprT d b)) := by rw [exprT, if_pos h16, hab]
          exact (back_two ih.1 ih.2 hk h16 hab htw hea heb e hh hlt).2 lvl hb.symm hne hn
    · exact backL_up hA hk he hp hl hb hh hlt hn
/-- AN EXPRESSION is read as it is -/
theorem expr_back {d : Nat} {T : Tree} (hk : okF d T = true) (he : ExpOk d T) (hp : Pos5 T) {k : Nat} (hh : Has ts k (exprT d T)) (hlt : k + (exprT d T).length < ts.length) (hn : NoOp ts 0 (k + (exprT d T).length)) :
    ∃ T', Like T T' ∧ exprM ts (k, false) = (T', (k + (exprT d T).length, false)) := by
  obtain ⟨T', h1, h2⟩ := (back_all d).1 T hk he hp 0 (by omega) (bindsM_pos T) k hh hlt hn
  exact ⟨T', h1, h2 _ (by omega)⟩
end
end Go.Proofs.YtineejjdbjdliaaGreatDoor
/- The parser reads a tree's tokens as the tree: arguments, rows, lists, conditions, actions, rules, types, programs; with no program in sight. Condition: the tree is right. -/
namespace Go.Proofs.YtineejjdbjdliaaGreatDoor
open Go.RowKit

section
variable {ts : List Tok}
/-- behind a part: a sign that ends it -/
def EndAt (ts : List Tok) (k : Nat) : Prop := ∃ pl x, ts[k]? = some (6, x, pl) ∧ x.data.toList ∈ [[41], [44], [59]]
theorem EndAt.noOp {k : Nat} (h : EndAt ts k) : NoOp ts 0 k := by
  obtain ⟨pl, x, h1, h2⟩ := h
  exact noOp_text (t := (6, x)) h1 h2 0
theorem EndAt.of {k : Nat} {c : UInt8} (h : Has ts k [sgT c]) (hc : c ∈ [41, 44, 59]) : EndAt ts k := by
  obtain ⟨pl, h1⟩ := h.one
  refine ⟨pl, mkB [c], h1, ?_⟩
  show [c] ∈ _
  simp only [List.mem_cons, List.not_mem_nil, or_false] at hc ⊢
  rcases hc with rfl | rfl | rfl <;> simp
/-- a reader reads a node's tokens as the node -/
def Reads (ts : List Tok) (one : PS → Tree × PS) (g : Tree → List KT) (T : Tree) : Prop := ∀ k, Has ts k (g T) → k + (g T).length < ts.length → EndAt ts (k + (g T).length) → ∃ T', Like T T' ∧ one (k, false) = (T', (k + (g T).length, false))
theorem bk_expr {d : Nat} {T : Tree} (hk : okF d T = true) (he : ExpOk d T) (hp : Pos5 T) : Reads ts (exprM ts) (exprT d) T := fun _ hh hlt hn => expr_back hk he hp hh hlt hn.noOp
theorem is_one {k pl : Nat} {t : KT} (h : ts[k]? = some (t.1, t.2, pl)) (x : ByteArray) (hx : x.data.toList.isEmpty = false) : isM ts (k, false) [x] = ((t.1 == 6 || t.1 == 1) && (x.data.toList == t.2.data.toList)) := by
  rw [is_val h, List.any_cons, List.any_nil, hx]
  simp
theorem leaf_of {k pl : Nat} {t : KT} (h : ts[k]? = some (t.1, t.2, pl)) (hk : k + 1 < ts.length) {tok kind : Nat} (ht : t.1 = tok) : ofM ts (k, false) tok kind = (.mk kind t.2 0 pl [], (k + 1, false)) := by
  subst ht; exact of_val h hk kind
theorem reads_arg {d : Nat} {T : Tree} (hk : okF d T = true) (hl : 12 ≤ T.kind ∧ T.kind ≤ 15) : Reads ts (argM ts) leafT T := by
  intro k hh hlt hn
  have hlv := okF_level hk
  have hnum := op_num hlv (Or.inl (by omega))
  have hkids := leaf_kids hlv hl
  unfold leafT at hh hlt hn ⊢
  obtain h | h | h | h : T.kind = 12 ∨ T.kind = 13 ∨ T.kind = 15 ∨ T.kind = 14 := by omega
  · rw [if_pos h] at hh hlt hn ⊢
    obtain ⟨pl, h1⟩ := hh.one
    have htx : txL T = [] := by
      have := (level_parts hlv).2.1
      rw [h] at this
      exact List.isEmpty_iff.1 this
    refine ⟨.mk 12 ⟨#[]⟩ 0 (atM ts (k, false)) [], like_mk h htx hnum (by rw [hkids]; exact likeL_nil), ?_⟩
    unfold argM
    rw [if_pos (by rw [is_one h1 tAny (by decide)]; decide), nxt_val hlt]
    rfl
  · rw [if_neg (by omega), if_pos h] at hh hlt hn ⊢
    obtain ⟨pl, h1⟩ := hh.one
    refine ⟨.mk 13 T.text 0 pl [], like_mk h rfl hnum (by rw [hkids]; exact likeL_nil), ?_⟩
    unfold argM
    rw [if_neg (by rw [is_one h1 tAny (by decide)]; simp), if_neg (by rw [is_one h1 tMinus (by decide)]; simp), (at_tok h1).1, if_neg (show ¬ (3 : Nat) = 5 by decide), if_pos rfl]
    exact leaf_of h1 hlt rfl
  · rw [if_neg (by omega), if_neg (by omega), if_pos h] at hh hlt hn ⊢
    obtain ⟨pl, h1⟩ := hh.one
    refine ⟨.mk 15 T.text 0 pl [], like_mk h rfl hnum (by rw [hkids]; exact likeL_nil), ?_⟩
    unfold argM
    rw [if_neg (by rw [is_one h1 tAny (by decide)]; simp), if_neg (by rw [is_one h1 tMinus (by decide)]; simp), (at_tok h1).1, if_pos rfl]
    exact leaf_of h1 hlt rfl
  · rw [if_neg (by omega), if_neg (by omega), if_neg (by omega)] at hh hlt hn ⊢
    cases hneg : negB (txL T) with
    | false =>
      rw [hneg, if_neg (by decide)] at hh hlt hn
      rw [if_neg (by decide)]
      obtain ⟨pl, h1⟩ := hh.one
      refine ⟨.mk 14 T.text 0 pl [], like_mk h rfl hnum (by rw [hkids]; exact likeL_nil), ?_⟩
      unfold argM
      rw [if_neg (by rw [is_one h1 tAny (by decide)]; simp), if_neg (by rw [is_one h1 tMinus (by decide)]; simp), (at_tok h1).1, if_neg (show ¬ (4 : Nat) = 5 by decide), if_neg (show ¬ (4 : Nat) = 3 by decide)]
      exact leaf_of h1 hlt rfl
    | true =>
      rw [hneg, if_pos rfl] at hh hlt hn
      rw [if_pos rfl]
      obtain ⟨q, hq⟩ : ∃ q, txL T = 45 :: q := by
        unfold negB at hneg
        split at hneg
        · rename_i q hq; exact ⟨q, hq⟩
        · cases hneg
      have es : strip (txL T) = q := by rw [hq]; rfl
      obtain ⟨pl, h1⟩ := (Has.left (a := [sgT 45]) hh).one
      obtain ⟨pl2, h2⟩ := (Has.right (a := [sgT 45]) hh).one
      have hlt' : k + 1 + 1 < ts.length := hlt
      refine ⟨.mk 14 (tMinus ++ mkB (strip (txL T))) 0 (atM ts (k, false)) [], like_mk h (by rw [ByteArray.data_append, es, hq]; simp [tMinus, mkB]) hnum (by rw [hkids]; exact likeL_nil), ?_⟩
      unfold argM
      have h2' : ts[k + 1]? = some (4, mkB (strip (txL T)), pl2) := h2
      rw [if_neg (by rw [is_one h1 tAny (by decide)]; decide), if_pos (by rw [is_one h1 tMinus (by decide)]; decide), nxt_val (by omega), (at_tok (t := (4, mkB (strip (txL T)))) h2').2.1, leaf_of (t := (4, mkB (strip (txL T)))) h2' hlt' rfl]
      rfl
theorem reads_field {d : Nat} {T : Tree} (hk : okF d T = true) (h3 : T.kind = 3) : Reads ts (fun σ => ofM ts σ 2 3) fieldT T := by
  intro k hh hlt _
  have hlv := okF_level hk
  obtain ⟨pl, h1⟩ := hh.one
  have hkids : T.kids = [] := by
    have := (level_parts hlv).2.2.2.2
    rw [h3] at this
    exact List.isEmpty_iff.1 this
  have hnum : T.num = 0 := by
    have := (level_parts hlv).2.2.1
    rw [h3] at this
    simpa [numOk] using this
  exact ⟨_, like_mk h3 rfl hnum (by rw [hkids]; exact likeL_nil), leaf_of h1 hlt rfl⟩
/-- the first token is no ')' -/
def NotShut (l : List KT) : Prop := ∃ t r, l = t :: r ∧ ((t.1 = 6 ∨ t.1 = 1) → t.2.data.toList ≠ [41])
theorem shut_leaf {T : Tree} : NotShut (leafT T) := by
  unfold leafT
  repeat' split
  · exact ⟨_, _, rfl, fun _ => by decide⟩
  · exact ⟨_, _, rfl, fun h => by simp at h⟩
  · exact ⟨_, _, rfl, fun h => by simp at h⟩
  · exact ⟨_, _, rfl, fun _ => by decide⟩
  · exact ⟨_, _, rfl, fun h => by simp at h⟩
theorem NotShut.app {a b : List KT} (h : NotShut a) : NotShut (a ++ b) := by
  obtain ⟨t, r, rfl, h1⟩ := h
  exact ⟨t, r ++ b, rfl, h1⟩
theorem shut_in {T : Tree} {k : Nat} {l : List KT} (h : NotShut l) : NotShut (inT T k l) := by
  unfold inT
  split
  · exact h
  · exact ⟨_, _, rfl, fun _ => by decide⟩
theorem shut_expr : ∀ (d : Nat) (T : Tree), okF d T = true → ExpOk d T → NotShut (exprT d T) := by
  intro d
  induction d with
  | zero => intro T _ _; exact shut_leaf
  | succ d ih =>
    intro T hk he
    rcases he with he | ⟨h16, he⟩
    · rw [exprT, if_neg (by omega)]; exact shut_leaf
    · rcases he with ⟨a, ha, htx, hea⟩ | ⟨a, b, hab, hea, heb⟩
      · rw [exprT, if_pos h16, ha]
        refine ⟨_, _, rfl, fun _ => ?_⟩
        show txL T ≠ [41]
        rcases htx with h | h <;> (rw [h]; decide)
      · rw [exprT, if_pos h16, hab]
        exact (shut_in (ih a (okF_kid hk (by rw [hab]; simp)) hea)).app
theorem not_shut {k : Nat} {l : List KT} (hh : Has ts k l) (h : NotShut l) : isM ts (k, false) [tShut] = false := by
  obtain ⟨t, r, rfl, h1⟩ := h
  obtain ⟨pl, h2⟩ := hh 0 t rfl
  rw [Nat.add_zero] at h2
  rw [is_one h2 tShut (by decide)]
  by_cases ht : t.1 = 6 ∨ t.1 = 1
  · have h3 := h1 ht
    have : (tShut.data.toList == t.2.data.toList) = false := by
      rw [beq_eq_false_iff_ne]
      exact fun e => h3 e.symm
    rw [this, Bool.and_false]
  · have : (t.1 == 6 || t.1 == 1) = false := by simp; omega
    rw [this, Bool.false_and]
/-- parts behind commas -/
def tailT (g : Tree → List KT) (l : List Tree) : List KT := (l.map fun T => [sgT 44] ++ g T).flatten
theorem rowT_cons (g : Tree → List KT) : ∀ (l : List Tree) (x : Tree), rowT g (x :: l) = g x ++ tailT g l := by
  intro l
  induction l with
  | nil => intro x; simp [rowT, tailT]
  | cons y l ih =>
    intro x
    show g x ++ ([sgT 44] ++ rowT g (y :: l)) = _
    rw [ih y]
    simp [tailT]
theorem tail_len (g : Tree → List KT) : ∀ l : List Tree, l.length ≤ (tailT g l).length := by
  intro l
  induction l with
  | nil => exact Nat.le_refl _
  | cons x l ih =>
    show _ ≤ ([sgT 44] ++ g x ++ tailT g l).length
    simp only [List.length_append, List.length_cons, List.length_nil]
    omega
/-- what stands behind a whole row: an end that is no comma -/
def EndRow (ts : List Tok) (k : Nat) : Prop := ∃ pl x, ts[k]? = some (6, x, pl) ∧ x.data.toList ∈ [[41], [59]]
theorem EndRow.end_ {k : Nat} (h : EndRow ts k) : EndAt ts k := by
  obtain ⟨pl, x, h1, h2⟩ := h
  refine ⟨pl, x, h1, ?_⟩
  simp only [List.mem_cons, List.not_mem_nil, or_false] at h2 ⊢
  rcases h2 with h | h <;> simp [h]
theorem tail_back {one : PS → Tree × PS} {g : Tree → List KT} : ∀ (l : List Tree) (n : Nat) (ks : List Tree) (k : Nat), (∀ x ∈ l, Reads ts one g x) → l.length ≤ n → Has ts k (tailT g l) → k + (tailT g l).length < ts.length → EndRow ts (k + (tailT g l).length) →
    ∃ l', LikeL l l' ∧ rowLoop ts one n ks (k, false) = (ks ++ l', (k + (tailT g l).length, false)) := by
  intro l
  induction l with
  | nil =>
    intro n ks k _ _ _ hlt he
    refine ⟨[], likeL_nil, ?_⟩
    rw [List.append_nil]
    cases n with
    | zero => rfl
    | succ n =>
      obtain ⟨pl, x, h1, h2⟩ := he
      have h1' : ts[k]? = some (6, x, pl) := h1
      rw [rowLoop_succ, if_neg (by
        rw [is_one (t := (6, x)) h1' tComma (by decide)]
        simp only [List.mem_cons, List.not_mem_nil, or_false] at h2
        rcases h2 with h | h <;> (rw [h]; simp [tComma]))]
      rfl
  | cons x l ih =>
    intro n ks k hr hn hh hlt he
    have e : tailT g (x :: l) = [sgT 44] ++ (g x ++ tailT g l) := by simp [tailT]
    have el : ([sgT 44] ++ (g x ++ tailT g l)).length = 1 + (g x).length + (tailT g l).length := by simp; omega
    rw [e] at hh hlt he ⊢
    rw [el] at hlt he ⊢
    cases n with
    | zero => simp at hn
    | succ n =>
      obtain ⟨pl, h1⟩ := hh.left.one
      have h2 : Has ts (k + 1) (g x) := hh.right.left
      have h3 : Has ts (k + 1 + (g x).length) (tailT g l) := hh.right.right
      have hend : EndAt ts (k + 1 + (g x).length) := by
        cases l with
        | nil =>
          have : k + 1 + (g x).length = k + (1 + (g x).length + (tailT g ([] : List Tree)).length) := by simp [tailT]; omega
          rw [this]
          exact he.end_
        | cons y l =>
          have e2 : tailT g (y :: l) = [sgT 44] ++ (g y ++ tailT g l) := by simp [tailT]
          rw [e2] at h3
          exact EndAt.of h3.left (by simp)
      obtain ⟨x', hx1, hx2⟩ := hr x (by simp) (k + 1) h2 (by omega) hend
      obtain ⟨l', hl1, hl2⟩ := ih n (ks ++ [x']) (k + 1 + (g x).length) (fun y hy => hr y (List.mem_cons_of_mem _ hy)) (by simpa using hn) h3 (by omega) (by
        rw [show k + 1 + (g x).length + (tailT g l).length = k + (1 + (g x).length + (tailT g l).length) by omega]
        exact he)
      refine ⟨x' :: l', likeL_cons hx1 hl1, ?_⟩
      rw [rowLoop_succ, if_pos (by rw [is_one h1 tComma (by decide)]; decide), nxt_val (by omega), hx2]
      dsimp only
      rw [hl2, show k + 1 + (g x).length + (tailT g l).length = k + (1 + (g x).length + (tailT g l).length) by omega]
      simp
theorem row_back {one : PS → Tree × PS} {g : Tree → List KT} {x : Tree} {l : List Tree} {k : Nat} (hr : ∀ y ∈ x :: l, Reads ts one g y) (hh : Has ts k (rowT g (x :: l))) (hlt : k + (rowT g (x :: l)).length < ts.length) (he : EndRow ts (k + (rowT g (x :: l)).length)) :
    ∃ l', LikeL (x :: l) l' ∧ rowM ts one (k, false) = (l', (k + (rowT g (x :: l)).length, false)) := by
  rw [rowT_cons] at hh hlt he ⊢
  rw [List.length_append] at hlt he ⊢
  have hend : EndAt ts (k + (g x).length) := by
    cases l with
    | nil => have := he.end_; simpa [tailT] using this
    | cons y l =>
      have h3 := hh.right
      have e2 : tailT g (y :: l) = [sgT 44] ++ (g y ++ tailT g l) := by simp [tailT]
      rw [e2] at h3
      exact EndAt.of h3.left (by simp)
  obtain ⟨x', hx1, hx2⟩ := hr x (by simp) k hh.left (by omega) hend
  have htl := tail_len g l
  obtain ⟨l', hl1, hl2⟩ := tail_back l ts.length [x'] (k + (g x).length) (fun y hy => hr y (List.mem_cons_of_mem _ hy)) (by omega) hh.right (by omega) (by rw [Nat.add_assoc]; exact he)
  refine ⟨x' :: l', likeL_cons hx1 hl1, ?_⟩
  unfold rowM
  rw [hx2]
  dsimp only
  rw [hl2, Nat.add_assoc]
  rfl
theorem EndRow.of {k : Nat} {c : UInt8} (h : Has ts k [sgT c]) (hc : c ∈ [41, 59]) : EndRow ts k := by
  obtain ⟨pl, h1⟩ := h.one
  refine ⟨pl, mkB [c], h1, ?_⟩
  show [c] ∈ _
  simp only [List.mem_cons, List.not_mem_nil, or_false] at hc ⊢
  rcases hc with rfl | rfl <;> simp
/-- '(' row ')' -/
theorem list_back {one : PS → Tree × PS} {g : Tree → List KT} {ks : List Tree} {k : Nat} (hr : ∀ y ∈ ks, Reads ts one g y) (hs : ∀ y ∈ ks, NotShut (g y)) (hh : Has ts k ([sgT 40] ++ (rowT g ks ++ [sgT 41]))) (hlt : k + (1 + (rowT g ks).length + 1) < ts.length) :
    ∃ l', LikeL ks l' ∧ listM ts one (k, false) = (l', (k + (1 + (rowT g ks).length + 1), false)) := by
  obtain ⟨p0, h0⟩ := hh.left.one
  have h1 : Has ts (k + 1) (rowT g ks) := hh.right.left
  have h2 : Has ts (k + 1 + (rowT g ks).length) [sgT 41] := hh.right.right
  obtain ⟨p2, h2'⟩ := h2.one
  have hw : wantM ts (k, false) tOpen = (k + 1, false) := wnt_val (x := tOpen) (kd := 6) h0 (by omega) (Or.inl rfl) (by decide)
  unfold listM
  rw [hw]
  cases ks with
  | nil =>
    have h2'' : ts[k + 1]? = some (6, mkB [41], p2) := h2'
    refine ⟨[], likeL_nil, ?_⟩
    rw [if_pos (by rw [is_one (t := (6, mkB [41])) h2'' tShut (by decide)]; decide), nxt_val (by simp [rowT] at hlt; omega)]
    rfl
  | cons x l =>
    have hns : NotShut (rowT g (x :: l)) := by rw [rowT_cons]; exact (hs x (by simp)).app
    rw [if_neg (by rw [not_shut h1 hns]; decide)]
    obtain ⟨l', hl1, hl2⟩ := row_back hr h1 (by omega) (EndRow.of h2 (by simp))
    refine ⟨l', hl1, ?_⟩
    rw [hl2]
    dsimp only
    have hw2 : wantM ts (k + 1 + (rowT g (x :: l)).length, false) tShut = (k + 1 + (rowT g (x :: l)).length + 1, false) := wnt_val (x := tShut) (kd := 6) h2' (by omega) (Or.inl rfl) (by decide)
    rw [hw2, show k + 1 + (rowT g (x :: l)).length + 1 = k + (1 + (rowT g (x :: l)).length + 1) by omega]
theorem semi_back {k : Nat} (h : Has ts k [sgT 59]) (hk : k + 1 < ts.length) : wantM ts (k, false) tSemi = (k + 1, false) := by
  obtain ⟨pl, h1⟩ := h.one
  exact wnt_val (x := tSemi) (kd := 6) h1 hk (Or.inl rfl) (by decide)
theorem is_word {k : Nat} {x : List UInt8} (h : Has ts k [wdT x]) (y : ByteArray) (hy : y.data.toList.isEmpty = false) : isM ts (k, false) [y] = (y.data.toList == x) := by
  obtain ⟨pl, h1⟩ := h.one
  rw [is_one h1 y hy]
  rfl
theorem is_name {k : Nat} {T : Tree} (h : Has ts k [nameKT T]) (texts : List ByteArray) : isM ts (k, false) texts = false := by
  obtain ⟨pl, h1⟩ := h.one
  exact not_op (t := nameKT T) h1 (by show (2 : Nat) ≠ 6 ∧ (2 : Nat) ≠ 1; omega) texts
theorem name_of {k : Nat} {T : Tree} (h : Has ts k [nameKT T]) (hk : k + 1 < ts.length) (kind : Nat) : ∃ pl : Nat, ofM ts (k, false) 2 kind = (.mk kind T.text 0 pl [], (k + 1, false)) := by
  obtain ⟨pl, h1⟩ := h.one
  exact ⟨pl, leaf_of h1 hk rfl⟩
theorem partT_of (d : Nat) (T : Tree) : (T.kind = 5 → partT d T = listT (exprT d) T ++ [sgT 59]) ∧ (T.kind = 6 → partT d T = [wdT [110, 111, 116]] ++ listT (exprT d) T ++ [sgT 59]) ∧ (T.kind = 7 → partT d T = [wdT [116, 101, 115, 116]] ++ rowT (exprT d) T.kids ++ [sgT 59]) ∧
    (T.kind = 8 → partT d T = [wdT [97, 115, 115, 101, 114, 116]] ++ listT (exprT d) T ++ [sgT 59]) ∧ (T.kind = 9 → partT d T = [wdT [114, 101, 116, 114, 97, 99, 116]] ++ itoaT T.num ++ [sgT 59]) ∧ (T.kind = 10 → partT d T = [wdT [115, 97, 121]] ++ rowT (exprT d) T.kids ++ [sgT 59]) ∧ (T.kind = 11 → partT d T = [wdT [104, 97, 108, 116]] ++ [sgT 59]) := by
  unfold partT
  refine ⟨fun h => ?_, fun h => ?_, fun h => ?_, fun h => ?_, fun h => ?_, fun h => ?_, fun h => ?_⟩ <;> (rw [h]; rfl)
/-- a condition or an action is read as it is -/
def ReadsP (ts : List Tok) (one : PS → Tree × PS) (g : Tree → List KT) (T : Tree) : Prop := ∀ k, Has ts k (g T) → k + (g T).length < ts.length → ∃ T', Like T T' ∧ one (k, false) = (T', (k + (g T).length, false))
theorem listT_len (g : Tree → List KT) (T : Tree) : (listT g T).length = 1 + (1 + (rowT g T.kids).length + 1) := by unfold listT; simp; omega
theorem cond_back {d : Nat} {T : Tree} (hk : okF (d + 1) T = true) (hd : Dep (d + 1) T) (hp : PartOk d T) (h7 : T.kind ≤ 7) : ReadsP ts (condM ts (argM ts)) (partT d) T := by
  intro k hh hlt
  have hlv := okF_level hk
  have hnum := op_num hlv (Or.inr (by have := hp.1; omega))
  have hkok := (level_parts hlv).2.2.2.2
  have hargs : (T.kind = 5 ∨ T.kind = 6) → (∀ y ∈ T.kids, Reads ts (argM ts) (exprT d) y) ∧ ∀ y ∈ T.kids, NotShut (exprT d y) := fun h56 => by
    have h1 : among [12, 13, 14, 15] T.kids = true := by
      rcases h56 with h | h <;> (rw [h] at hkok; exact hkok)
    have h2 : ∀ y ∈ T.kids, 12 ≤ y.kind ∧ y.kind ≤ 15 := fun y hy => by
      have := among_mem h1 hy
      simp only [List.mem_cons, List.not_mem_nil, or_false] at this
      omega
    have h3 : ∀ y ∈ T.kids, exprT d y = leafT y := fun y hy => by
      have := h2 y hy
      cases d with
      | zero => rfl
      | succ d => rw [exprT, if_neg (by omega)]
    refine ⟨fun y hy => ?_, fun y hy => by rw [h3 y hy]; exact shut_leaf⟩
    intro k hh hlt hn
    rw [h3 y hy] at hh hlt hn ⊢
    exact reads_arg (okF_kid hk hy) (h2 y hy) k hh hlt hn
  obtain h | h | h : T.kind = 5 ∨ T.kind = 6 ∨ T.kind = 7 := by have := hp.1; omega
  · rw [(partT_of d T).1 h] at hh hlt ⊢
    unfold condM
    rw [List.length_append, listT_len] at hlt ⊢
    have hl : Has ts k ([nameKT T] ++ ([sgT 40] ++ (rowT (exprT d) T.kids ++ [sgT 41]))) := hh.left
    have hn := hl.left
    obtain ⟨pl, hof⟩ := name_of hn (by simp at hlt; omega) 5
    obtain ⟨l', hl1, hl2⟩ := list_back (hargs (Or.inl h)).1 (hargs (Or.inl h)).2 (show Has ts (k + 1) _ from hl.right) (by simp at hlt; omega)
    have hsemi : Has ts (k + (1 + (1 + (rowT (exprT d) T.kids).length + 1))) [sgT 59] := by have := hh.right; rw [listT_len] at this; exact this
    have hw := semi_back hsemi (by simp at hlt; omega)
    refine ⟨.mk 5 T.text 0 (atM ts (k, false)) l', like_mk h rfl hnum hl1, ?_⟩
    rw [if_neg (by rw [is_name hn]; decide), if_neg (by rw [is_name hn]; decide), hof]
    dsimp only
    rw [hl2]
    dsimp only
    rw [show k + 1 + (1 + (rowT (exprT d) T.kids).length + 1) = k + (1 + (1 + (rowT (exprT d) T.kids).length + 1)) by omega, hw]
    rfl
  · rw [(partT_of d T).2.1 h] at hh hlt ⊢
    unfold condM
    rw [List.length_append, List.length_append, listT_len] at hlt ⊢
    have hwd : Has ts k [wdT [110, 111, 116]] := hh.left.left
    have hl : Has ts (k + 1) ([nameKT T] ++ ([sgT 40] ++ (rowT (exprT d) T.kids ++ [sgT 41]))) := hh.left.right
    have hn := hl.left
    obtain ⟨pl, hof⟩ := name_of hn (by simp at hlt; omega) 6
    obtain ⟨l', hl1, hl2⟩ := list_back (hargs (Or.inr h)).1 (hargs (Or.inr h)).2 (show Has ts (k + 1 + 1) _ from hl.right) (by simp at hlt; omega)
    have hsemi : Has ts (k + ([wdT [110, 111, 116]].length + (1 + (1 + (rowT (exprT d) T.kids).length + 1)))) [sgT 59] := by have := hh.right; rw [List.length_append, listT_len] at this; exact this
    have hw := semi_back hsemi (by simp at hlt; omega)
    refine ⟨.mk 6 T.text 0 (atM ts (k, false)) l', like_mk h rfl hnum hl1, ?_⟩
    rw [if_neg (by rw [is_word hwd tTest (by decide)]; decide), if_pos (by rw [is_word hwd tNot (by decide)]; decide), nxt_val (by simp at hlt; omega), hof]
    dsimp only
    rw [hl2]
    dsimp only
    rw [show k + 1 + 1 + (1 + (rowT (exprT d) T.kids).length + 1) = k + ([wdT [110, 111, 116]].length + (1 + (1 + (rowT (exprT d) T.kids).length + 1))) by simp; omega, hw]
    rfl
  · rw [(partT_of d T).2.2.1 h] at hh hlt ⊢
    unfold condM
    rw [h] at hkok
    have hk1 : (T.kids.length == 1 && exprsB T.kids) = true := hkok
    rw [Bool.and_eq_true, beq_iff_eq] at hk1
    obtain ⟨x, hx⟩ := List.length_eq_one_iff.1 hk1.1
    rw [hx] at hh hlt ⊢
    have hr : rowT (exprT d) [x] = exprT d x := rfl
    rw [hr] at hh hlt ⊢
    rw [List.length_append, List.length_append] at hlt ⊢
    have hwd : Has ts k [wdT [116, 101, 115, 116]] := hh.left.left
    have he : Has ts (k + 1) (exprT d x) := hh.left.right
    have hsemi : Has ts (k + ([wdT [116, 101, 115, 116]].length + (exprT d x).length)) [sgT 59] := by have := hh.right; rw [List.length_append] at this; exact this
    have hsemi' : Has ts (k + 1 + (exprT d x).length) [sgT 59] := by
      rw [show k + 1 + (exprT d x).length = k + ([wdT [116, 101, 115, 116]].length + (exprT d x).length) by simp; omega]
      exact hsemi
    obtain ⟨x', hx1, hx2⟩ := bk_expr (okF_kid hk (by rw [hx]; simp)) (hp.2 x (by rw [hx]; simp)) (exprsB_pos hk1.2 (by rw [hx]; simp)) (k + 1) he (by simp at hlt; omega) (EndAt.of hsemi' (by simp))
    have hw := semi_back hsemi' (by simp at hlt; omega)
    have htx : txL T = [] := by
      have := (level_parts hlv).2.1
      rw [h] at this
      exact List.isEmpty_iff.1 this
    refine ⟨.mk 7 ⟨#[]⟩ 0 (atM ts (k, false)) [x'], like_mk h htx hnum (by rw [hx]; exact likeL_cons hx1 likeL_nil), ?_⟩
    rw [if_pos (by rw [is_word hwd tTest (by decide)]; decide), nxt_val (by simp at hlt; omega), hx2]
    dsimp only
    rw [hw, show k + 1 + (exprT d x).length + 1 = k + ([wdT [116, 101, 115, 116]].length + (exprT d x).length + [sgT 59].length) by simp; omega]
theorem act_back {d : Nat} {T : Tree} (hk : okF (d + 1) T = true) (hp : PartOk d T) (h8 : 8 ≤ T.kind) : ReadsP ts (actM ts) (partT d) T := by
  intro k hh hlt
  have hlv := okF_level hk
  have hkok := (level_parts hlv).2.2.2.2
  have hexp : exprsB T.kids = true → (∀ y ∈ T.kids, Reads ts (exprM ts) (exprT d) y) ∧ ∀ y ∈ T.kids, NotShut (exprT d y) := fun hb => ⟨fun y hy => bk_expr (okF_kid hk hy) (hp.2 y hy) (exprsB_pos hb hy), fun y hy => shut_expr d y (okF_kid hk hy) (hp.2 y hy)⟩
  have htext : T.kind ≠ 8 → txL T = [] := fun hne => by
    have := (level_parts hlv).2.1
    obtain h | h | h : T.kind = 9 ∨ T.kind = 10 ∨ T.kind = 11 := by have := hp.1; omega
    all_goals (rw [h] at this; exact List.isEmpty_iff.1 this)
  obtain h | h | h | h : T.kind = 8 ∨ T.kind = 9 ∨ T.kind = 10 ∨ T.kind = 11 := by have := hp.1; omega
  · rw [(partT_of d T).2.2.2.1 h] at hh hlt ⊢
    unfold actM
    rw [h] at hkok
    have hb : exprsB T.kids = true := hkok
    rw [List.length_append, List.length_append, listT_len] at hlt ⊢
    have hwd : Has ts k [wdT [97, 115, 115, 101, 114, 116]] := hh.left.left
    have hl : Has ts (k + 1) ([nameKT T] ++ ([sgT 40] ++ (rowT (exprT d) T.kids ++ [sgT 41]))) := hh.left.right
    have hn := hl.left
    obtain ⟨pl, hof⟩ := name_of hn (by simp at hlt; omega) 8
    obtain ⟨l', hl1, hl2⟩ := list_back (hexp hb).1 (hexp hb).2 (show Has ts (k + 1 + 1) _ from hl.right) (by simp at hlt; omega)
    have hsemi : Has ts (k + ([wdT [97, 115, 115, 101, 114, 116]].length + (1 + (1 + (rowT (exprT d) T.kids).length + 1)))) [sgT 59] := by have := hh.right; rw [List.length_append, listT_len] at this; exact this
    have hw := semi_back hsemi (by simp at hlt; omega)
    refine ⟨.mk 8 T.text 0 (atM ts (k, false)) l', like_mk h rfl (op_num hlv (Or.inr (by omega))) hl1, ?_⟩
    rw [if_pos (by rw [is_word hwd tAssert (by decide)]; decide), nxt_val (by simp at hlt; omega), hof]
    dsimp only
    rw [hl2]
    dsimp only
    rw [show k + 1 + 1 + (1 + (rowT (exprT d) T.kids).length + 1) = k + ([wdT [97, 115, 115, 101, 114, 116]].length + (1 + (1 + (rowT (exprT d) T.kids).length + 1))) by simp; omega, hw]
    rfl
  · rw [(partT_of d T).2.2.2.2.1 h] at hh hlt ⊢
    unfold actM
    have hb := (num_bounds hlv).2 h
    have hit : itoaT T.num = [(4, mkB (Lib.decDigits T.num.toNat))] := by unfold itoaT; rw [if_neg (by omega)]
    rw [hit] at hh hlt ⊢
    have hwd : Has ts k [wdT [114, 101, 116, 114, 97, 99, 116]] := hh.left.left
    obtain ⟨pl, h1⟩ := hh.left.right.one
    have h1' : ts[k + 1]? = some (4, mkB (Lib.decDigits T.num.toNat), pl) := h1
    have hsemi : Has ts (k + 1 + 1) [sgT 59] := hh.right
    have hlt' : k + 3 < ts.length := by simpa using hlt
    have hkids : T.kids = [] := by rw [h] at hkok; exact List.isEmpty_iff.1 hkok
    have hnum : number (Lib.decDigits T.num.toNat) = some T.num.toNat := number_dec (by unfold maxI; omega)
    have hnm : numM ts (k + 1, false) = (T.num.toNat, (k + 1 + 1, false)) := by
      have htk := at_tok (t := (4, mkB (Lib.decDigits T.num.toNat))) h1'
      unfold numM smallOk
      rw [htk.1, htk.2.1]
      have hm : (mkB (Lib.decDigits T.num.toNat)).data.toList = Lib.decDigits T.num.toNat := rfl
      rw [hm, hnum]
      rw [if_pos (by simp; omega), nxt_val (by omega)]
      rfl
    refine ⟨.mk 9 ⟨#[]⟩ (T.num.toNat : Nat) (atM ts (k, false)) [], like_mk h (htext (by omega)) (by omega) (by rw [hkids]; exact likeL_nil), ?_⟩
    rw [if_neg (by rw [is_word hwd tAssert (by decide)]; decide), if_pos (by rw [is_word hwd tRetract (by decide)]; decide), nxt_val (by omega), hnm]
    dsimp only
    rw [semi_back hsemi (by omega)]
    rfl
  · rw [(partT_of d T).2.2.2.2.2.1 h] at hh hlt ⊢
    unfold actM
    rw [h] at hkok
    have hk1 : (decide (0 < T.kids.length) && exprsB T.kids) = true := hkok
    rw [Bool.and_eq_true, decide_eq_true_eq] at hk1
    obtain ⟨x, l, hx⟩ : ∃ x l, T.kids = x :: l := by
      cases hc : T.kids with
      | nil => rw [hc] at hk1; simp at hk1
      | cons x l => exact ⟨x, l, rfl⟩
    have hrd := (hexp hk1.2).1
    rw [hx] at hh hlt hrd ⊢
    rw [List.length_append, List.length_append] at hlt ⊢
    have hwd : Has ts k [wdT [115, 97, 121]] := hh.left.left
    have he : Has ts (k + 1) (rowT (exprT d) (x :: l)) := hh.left.right
    have hsemi : Has ts (k + 1 + (rowT (exprT d) (x :: l)).length) [sgT 59] := by
      have := hh.right
      rw [List.length_append] at this
      rw [show k + 1 + (rowT (exprT d) (x :: l)).length = k + ([wdT [115, 97, 121]].length + (rowT (exprT d) (x :: l)).length) by simp; omega]
      exact this
    obtain ⟨l', hl1, hl2⟩ := row_back hrd he (by simp at hlt; omega) (EndRow.of hsemi (by simp))
    have hw := semi_back hsemi (by simp at hlt; omega)
    refine ⟨.mk 10 ⟨#[]⟩ 0 (atM ts (k, false)) l', like_mk h (htext (by omega)) (op_num hlv (Or.inl (by omega))) (by rw [hx]; exact hl1), ?_⟩
    rw [if_neg (by rw [is_word hwd tAssert (by decide)]; decide), if_neg (by rw [is_word hwd tRetract (by decide)]; decide), if_pos (by rw [is_word hwd tSay (by decide)]; decide), nxt_val (by simp at hlt; omega), hl2]
    dsimp only
    rw [hw, show k + 1 + (rowT (exprT d) (x :: l)).length + 1 = k + ([wdT [115, 97, 121]].length + (rowT (exprT d) (x :: l)).length + [sgT 59].length) by simp; omega]
  · rw [(partT_of d T).2.2.2.2.2.2 h] at hh hlt ⊢
    unfold actM
    have hwd : Has ts k [wdT [104, 97, 108, 116]] := hh.left
    have hsemi : Has ts (k + 1) [sgT 59] := hh.right
    have hlt' : k + 2 < ts.length := by simpa using hlt
    have hkids : T.kids = [] := by rw [h] at hkok; exact List.isEmpty_iff.1 hkok
    obtain ⟨pl, h1⟩ := hwd.one
    have hw0 : wantM ts (k, false) tHalt = (k + 1, false) := wnt_val (x := tHalt) (kd := 1) h1 (by omega) (Or.inr rfl) (by decide)
    refine ⟨.mk 11 ⟨#[]⟩ 0 (atM ts (k, false)) [], like_mk h (htext (by omega)) (op_num hlv (Or.inl (by omega))) (by rw [hkids]; exact likeL_nil), ?_⟩
    rw [if_neg (by rw [is_word hwd tAssert (by decide)]; decide), if_neg (by rw [is_word hwd tRetract (by decide)]; decide), if_neg (by rw [is_word hwd tSay (by decide)]; decide), hw0, semi_back hsemi (by omega)]
    rfl
end
end Go.Proofs.YtineejjdbjdliaaGreatDoor
/- The parser reads a tree's tokens as the tree: rules, types, programs; with no program in sight. Condition: the tree is right. -/
namespace Go.Proofs.YtineejjdbjdliaaGreatDoor
open Go.RowKit

section
variable {ts : List Tok}
theorem part_first {d : Nat} {T : Tree} (hp : PartOk d T) {k : Nat} (h : Has ts k (partT d T)) : isM ts (k, false) [tTo] = false ∧ isM ts (k, false) [tRight] = false := by
  have wd : ∀ {x : List UInt8} {r : List KT}, Has ts k ([wdT x] ++ r) → tTo.data.toList ≠ x → tRight.data.toList ≠ x → isM ts (k, false) [tTo] = false ∧ isM ts (k, false) [tRight] = false := fun {x r} h h1 h2 => by
    rw [is_word h.left tTo (by decide), is_word h.left tRight (by decide)]
    exact ⟨beq_eq_false_iff_ne.2 h1, beq_eq_false_iff_ne.2 h2⟩
  obtain ⟨h5, h6, h7, h8, h9, h10, h11⟩ := partT_of d T
  obtain e | e | e | e | e | e | e : T.kind = 5 ∨ T.kind = 6 ∨ T.kind = 7 ∨ T.kind = 8 ∨ T.kind = 9 ∨ T.kind = 10 ∨ T.kind = 11 := by have := hp.1; omega
  · rw [h5 e] at h
    have h1 : Has ts k ([nameKT T] ++ ([sgT 40] ++ (rowT (exprT d) T.kids ++ [sgT 41]))) := h.left
    exact ⟨is_name h1.left _, is_name h1.left _⟩
  · rw [h6 e, List.append_assoc] at h; exact wd h (by decide) (by decide)
  · rw [h7 e, List.append_assoc] at h; exact wd h (by decide) (by decide)
  · rw [h8 e, List.append_assoc] at h; exact wd h (by decide) (by decide)
  · rw [h9 e, List.append_assoc] at h; exact wd h (by decide) (by decide)
  · rw [h10 e, List.append_assoc] at h; exact wd h (by decide) (by decide)
  · rw [h11 e] at h; exact wd h (by decide) (by decide)
theorem partT_pos (d : Nat) (T : Tree) : 1 ≤ (partT d T).length := by
  unfold partT
  rw [List.length_append]
  show 1 ≤ _ + 1
  omega
theorem partsT_cons (d : Nat) (x : Tree) (l : List Tree) : partsT d (x :: l) = partT d x ++ partsT d l := by unfold partsT; simp
theorem partsT_len (d : Nat) : ∀ l : List Tree, l.length ≤ (partsT d l).length := by
  intro l
  induction l with
  | nil => exact Nat.le_refl _
  | cons x l ih =>
    have := partT_pos d x
    rw [partsT_cons, List.length_append, List.length_cons]
    omega
theorem upTo_back {one : PS → Tree × PS} {d : Nat} {stop : ByteArray} : ∀ (l : List Tree) (n : Nat) (ks : List Tree) (k : Nat), (∀ x ∈ l, ReadsP ts one (partT d) x) → (∀ x ∈ l, ∀ j, Has ts j (partT d x) → isM ts (j, false) [stop] = false) → l.length + 1 ≤ n → Has ts k (partsT d l) → k + (partsT d l).length < ts.length → isM ts (k + (partsT d l).length, false) [stop] = true →
    ∃ l', LikeL l l' ∧ upTo ts one stop n ks (k, false) = (ks ++ l', (k + (partsT d l).length, false)) := by
  intro l
  induction l with
  | nil =>
    intro n ks k _ _ hn _ _ hs
    obtain ⟨n, rfl⟩ : ∃ m, n = m + 1 := ⟨n - 1, by omega⟩
    have hs' : isM ts (k, false) [stop] = true := hs
    refine ⟨[], likeL_nil, ?_⟩
    rw [upTo_succ, if_neg (fun h => by cases h), if_pos hs', List.append_nil]
    rfl
  | cons x l ih =>
    intro n ks k hr hf hn hh hlt hs
    obtain ⟨n, rfl⟩ : ∃ m, n = m + 1 := ⟨n - 1, by omega⟩
    rw [partsT_cons] at hh hlt hs ⊢
    rw [List.length_append] at hlt hs ⊢
    obtain ⟨x', hx1, hx2⟩ := hr x (by simp) k hh.left (by omega)
    obtain ⟨l', hl1, hl2⟩ := ih n (ks ++ [x']) (k + (partT d x).length) (fun y hy => hr y (List.mem_cons_of_mem _ hy)) (fun y hy => hf y (List.mem_cons_of_mem _ hy)) (by simp at hn; omega) hh.right (by omega) (by rw [Nat.add_assoc]; exact hs)
    refine ⟨x' :: l', likeL_cons hx1 hl1, ?_⟩
    rw [upTo_succ, if_neg (fun h => by cases h), if_neg (by rw [hf x (by simp) k hh.left]; decide), hx2]
    dsimp only
    rw [hl2, Nat.add_assoc]
    simp
theorem num_back {k u : Nat} (h : Has ts k [(4, mkB (Lib.decDigits u))]) (hu : u ≤ 2147483647) (hk : k + 1 < ts.length) : numM ts (k, false) = (u, (k + 1, false)) := by
  obtain ⟨pl, h1⟩ := h.one
  have h1' : ts[k]? = some (4, mkB (Lib.decDigits u), pl) := h1
  have hnum : number (Lib.decDigits u) = some u := number_dec (by unfold maxI; omega)
  have htk := at_tok (t := (4, mkB (Lib.decDigits u))) h1'
  unfold numM smallOk
  rw [htk.1, htk.2.1]
  have hm : (mkB (Lib.decDigits u)).data.toList = Lib.decDigits u := rfl
  rw [hm, hnum, if_pos (by simp; omega), nxt_val hk]
  rfl
theorem sal_back {n : Int} (h0 : -2147483647 ≤ n) (h1 : n ≤ 2147483647) {k : Nat} (hh : Has ts k (salT n)) (hb : Has ts (k + (salT n).length) [sgT 123]) (hlt : k + (salT n).length < ts.length) : salM ts (k, false) = (n, (k + (salT n).length, false)) := by
  unfold salT at hh hb hlt ⊢
  by_cases hn : n = 0
  · rw [if_pos hn] at hh hb hlt ⊢
    obtain ⟨pl, h2⟩ := hb.one
    have h2' : ts[k]? = some (6, mkB [123], pl) := h2
    unfold salM
    rw [if_neg (by rw [is_one (t := (6, mkB [123])) h2' tSal (by decide)]; decide), hn]
    rfl
  · rw [if_neg hn] at hh hb hlt ⊢
    rw [List.length_append] at hlt ⊢
    have hw : Has ts k [wdT [115, 97, 108, 105, 101, 110, 99, 101]] := hh.left
    have hi : Has ts (k + 1) (itoaT n) := hh.right
    unfold salM
    rw [if_pos (by rw [is_word hw tSal (by decide)]; decide)]
    unfold itoaT at hi hlt ⊢
    by_cases hneg : n < 0
    · rw [if_pos hneg] at hi hlt ⊢
      have hlt' : k + 3 < ts.length := by simpa using hlt
      obtain ⟨pl, hm⟩ := (Has.left (a := [sgT 45]) hi).one
      have hd : Has ts (k + 1 + 1) [(4, mkB (Lib.decDigits n.natAbs))] := Has.right (a := [sgT 45]) hi
      rw [nxt_val (by omega), if_pos (by rw [is_one hm tMinus (by decide)]; decide), nxt_val (by omega), num_back hd (by omega) (by omega)]
      have : -((n.natAbs : Nat) : Int) = n := by omega
      dsimp only
      rw [this]
      rfl
    · rw [if_neg hneg] at hi hlt ⊢
      have hlt' : k + 2 < ts.length := by simpa using hlt
      obtain ⟨pl, hm⟩ := hi.one
      rw [nxt_val (by omega), if_neg (by rw [not_op hm (show (4 : Nat) ≠ 6 ∧ (4 : Nat) ≠ 1 by omega)]; decide), num_back hi (by omega) (by omega)]
      have : ((n.toNat : Nat) : Int) = n := by omega
      dsimp only
      rw [this]
      rfl
theorem sign_back {k : Nat} {x : List UInt8} (h : Has ts k [(6, mkB x)]) (hx : x.isEmpty = false) (hk : k + 1 < ts.length) : wantM ts (k, false) (mkB x) = (k + 1, false) ∧ isM ts (k, false) [mkB x] = true := by
  obtain ⟨pl, h1⟩ := h.one
  refine ⟨wnt_val (x := mkB x) (kd := 6) h1 hk (Or.inl rfl) hx, ?_⟩
  rw [is_one h1 (mkB x) hx]
  simp
theorem rule_back {d : Nat} {T : Tree} (hk : okF (d + 2) T = true) (hd : Dep (d + 2) T) (h4 : T.kind = 4) (hp : RuleOk' d T) (a : Int) {k : Nat} {L : List KT}
    (hL : L = [nameKT T] ++ (salT T.num ++ ([sgT 123] ++ (partsT d (T.kids.takeWhile condB) ++ ([(6, mkB [61, 62])] ++ (partsT d (T.kids.dropWhile condB) ++ [sgT 125])))))) (hh : Has ts k L) (hlt : k + L.length < ts.length) :
    ∃ T', Like T T' ∧ ruleM ts a (k, false) = (T', (k + L.length, false)) := by
  subst hL
  have hlv := okF_level hk
  have hkid : ∀ x ∈ T.kids, okF (d + 1) x = true ∧ Dep (d + 1) x ∧ PartOk d x := fun x hx => ⟨okF_kid hk hx, hd x hx, hp.1 x hx⟩
  have ht : ∀ x ∈ T.kids.takeWhile condB, x ∈ T.kids := fun x hx => (List.takeWhile_sublist condB).subset hx
  have hdr : ∀ x ∈ T.kids.dropWhile condB, x ∈ T.kids := fun x hx => (List.dropWhile_sublist condB).subset hx
  have hpc := hp.2.1
  have hpz := hp.2.2
  generalize hcs : T.kids.takeWhile condB = cs at *
  generalize hzs : T.kids.dropWhile condB = zs at *
  have hkz : T.kids = cs ++ zs := by rw [← hcs, ← hzs, List.takeWhile_append_dropWhile]
  have el : ([nameKT T] ++ (salT T.num ++ ([sgT 123] ++ (partsT d cs ++ ([(6, mkB [61, 62])] ++ (partsT d zs ++ [sgT 125])))))).length = 1 + (salT T.num).length + 1 + (partsT d cs).length + 1 + (partsT d zs).length + 1 := by
    simp only [List.length_append, List.length_cons, List.length_nil]; omega
  rw [el] at hlt ⊢
  have hb := (num_bounds hlv).1 h4
  have g1 := hh.left
  have g2 : Has ts (k + 1) (salT T.num) := hh.right.left
  have g3 : Has ts (k + 1 + (salT T.num).length) [sgT 123] := hh.right.right.left
  have g4 : Has ts (k + 1 + (salT T.num).length + 1) (partsT d cs) := hh.right.right.right.left
  have g5 : Has ts (k + 1 + (salT T.num).length + 1 + (partsT d cs).length) [(6, mkB [61, 62])] := hh.right.right.right.right.left
  have g6 : Has ts (k + 1 + (salT T.num).length + 1 + (partsT d cs).length + 1) (partsT d zs) := hh.right.right.right.right.right.left
  have g7 : Has ts (k + 1 + (salT T.num).length + 1 + (partsT d cs).length + 1 + (partsT d zs).length) [sgT 125] := hh.right.right.right.right.right.right
  obtain ⟨pl, hof⟩ := name_of g1 (by omega) 4
  have s1 := sal_back hb.1 hb.2 g2 g3 (by omega)
  have s2 : wantM ts (k + 1 + (salT T.num).length, false) tLeft = (k + 1 + (salT T.num).length + 1, false) := (sign_back g3 (by rfl) (by omega)).1
  have t5 := sign_back g5 (by rfl) (by omega)
  have t7 := sign_back (x := [125]) g7 (by rfl) (by omega)
  have l1 := partsT_len d cs
  have l2 := partsT_len d zs
  obtain ⟨cs', c1, c2⟩ := upTo_back (one := condM ts (argM ts)) (stop := tTo) cs (ts.length + 1) [] _ (fun x hx => cond_back (hkid x (ht x hx)).1 (hkid x (ht x hx)).2.1 (hkid x (ht x hx)).2.2 (hpc x hx)) (fun x hx j h => (part_first (hkid x (ht x hx)).2.2 h).1) (by omega) g4 (by omega) t5.2
  obtain ⟨zs', z1, z2⟩ := upTo_back (one := actM ts) (stop := tRight) zs (ts.length + 1) cs' _ (fun x hx => act_back (hkid x (hdr x hx)).1 (hkid x (hdr x hx)).2.2 (hpz x hx)) (fun x hx j h => (part_first (hkid x (hdr x hx)).2.2 h).2) (by omega) g6 (by omega) t7.2
  refine ⟨.mk 4 T.text T.num a (cs' ++ zs'), like_mk h4 rfl rfl ?_, ?_⟩
  · rw [hkz]
    exact likeL_app c1 z1
  · unfold ruleM
    dsimp only
    rw [hof]
    dsimp only
    rw [s1]
    dsimp only
    rw [s2, c2]
    dsimp only
    have e5 : wantM ts (k + 1 + (salT T.num).length + 1 + (partsT d cs).length, false) tTo = (k + 1 + (salT T.num).length + 1 + (partsT d cs).length + 1, false) := t5.1
    rw [e5, List.nil_append, z2]
    dsimp only
    have e7 : wantM ts (k + 1 + (salT T.num).length + 1 + (partsT d cs).length + 1 + (partsT d zs).length, false) tRight = (k + 1 + (salT T.num).length + 1 + (partsT d cs).length + 1 + (partsT d zs).length + 1, false) := t7.1
    rw [e7, show k + 1 + (salT T.num).length + 1 + (partsT d cs).length + 1 + (partsT d zs).length + 1 = k + (1 + (salT T.num).length + 1 + (partsT d cs).length + 1 + (partsT d zs).length + 1) by omega]
    rfl
theorem decl_back {d : Nat} {T : Tree} (hk : okF (d + 2) T = true) (hd : Dep (d + 2) T) (ho : DeclOk' d T) : ReadsP ts (declM ts (ruleM ts)) (declT d) T := by
  intro k hh hlt
  have hlv := okF_level hk
  unfold declM
  rcases ho with ⟨h4, hp⟩ | h2
  · have e : declT d T = [wdT [114, 117, 108, 101]] ++ ([nameKT T] ++ (salT T.num ++ ([sgT 123] ++ (partsT d (T.kids.takeWhile condB) ++ ([(6, mkB [61, 62])] ++ (partsT d (T.kids.dropWhile condB) ++ [sgT 125])))))) := by
      unfold declT ruleTk
      rw [if_pos h4]
      simp
    rw [e] at hh hlt ⊢
    have hwd := hh.left
    have hr := hh.right
    rw [List.length_append] at hlt ⊢
    obtain ⟨T', t1, t2⟩ := rule_back hk hd h4 hp (atM ts (k, false)) rfl (show Has ts (k + 1) _ from hr) (by simp at hlt ⊢; omega)
    obtain ⟨pl, h1⟩ := hwd.one
    have hw : wantM ts (k, false) tRule = (k + 1, false) := wnt_val (x := tRule) (kd := 1) h1 (by simp at hlt; omega) (Or.inr rfl) (by decide)
    refine ⟨T', t1, ?_⟩
    rw [if_neg (by rw [is_word hwd tFact (by decide)]; decide), hw, t2]
    rw [Nat.add_assoc]
    rfl
  · have e : declT d T = [wdT [102, 97, 99, 116]] ++ (listT fieldT T ++ [sgT 59]) := by
      unfold declT
      rw [if_neg (by omega)]
    rw [e] at hh hlt ⊢
    have el : ([wdT [102, 97, 99, 116]] ++ (listT fieldT T ++ [sgT 59])).length = 1 + (1 + (1 + (rowT fieldT T.kids).length + 1)) + 1 := by
      rw [List.length_append, List.length_append, listT_len]; simp; omega
    rw [el] at hlt ⊢
    have hkids : ∀ x ∈ T.kids, x.kind = 3 := fun x hx => by
      have := (level_parts hlv).2.2.2.2
      rw [h2] at this
      have h3 := among_mem (show among [3] T.kids = true from this) hx
      simpa using h3
    have hwd := hh.left
    have hl : Has ts (k + 1) ([nameKT T] ++ ([sgT 40] ++ (rowT fieldT T.kids ++ [sgT 41]))) := hh.right.left
    have hsemi : Has ts (k + 1 + (listT fieldT T).length) [sgT 59] := hh.right.right
    rw [listT_len] at hsemi
    obtain ⟨pl, hof⟩ := name_of hl.left (by omega) 2
    obtain ⟨l', hl1, hl2⟩ := list_back (one := fun σ => ofM ts σ 2 3) (g := fieldT) (ks := T.kids) (fun y hy => reads_field (okF_kid hk hy) (hkids y hy)) (fun y hy => ⟨_, _, rfl, fun h => by simp [nameKT] at h⟩) (show Has ts (k + 1 + 1) _ from hl.right) (by omega)
    have hnum : T.num = 0 := by
      have := (level_parts hlv).2.2.1
      rw [h2] at this
      simpa [numOk] using this
    refine ⟨.mk 2 T.text 0 (atM ts (k, false)) l', like_mk h2 rfl hnum hl1, ?_⟩
    rw [if_pos (by rw [is_word hwd tFact (by decide)]; decide), nxt_val (by omega), hof]
    dsimp only
    rw [hl2]
    dsimp only
    rw [show k + 1 + 1 + (1 + (rowT fieldT T.kids).length + 1) = k + 1 + (1 + (1 + (rowT fieldT T.kids).length + 1)) by omega, semi_back hsemi (by omega)]
    rw [show k + 1 + (1 + (1 + (rowT fieldT T.kids).length + 1)) + 1 = k + (1 + (1 + (1 + (rowT fieldT T.kids).length + 1)) + 1) by omega]
    rfl
theorem declsT_cons (d : Nat) (x : Tree) (l : List Tree) : declsT d (x :: l) = declT d x ++ declsT d l := by unfold declsT; simp
theorem declT_first (d : Nat) (T : Tree) : ∃ w r, declT d T = [wdT w] ++ r := by
  unfold declT ruleTk
  split
  · exact ⟨_, _, by rw [List.append_assoc]⟩
  · exact ⟨_, _, rfl⟩
theorem declsT_len (d : Nat) : ∀ l : List Tree, l.length ≤ (declsT d l).length := by
  intro l
  induction l with
  | nil => exact Nat.le_refl _
  | cons x l ih =>
    obtain ⟨w, r, h⟩ := declT_first d x
    rw [declsT_cons, List.length_append, List.length_cons, h]
    simp
    omega
theorem progL_back {d : Nat} : ∀ (l : List Tree) (n : Nat) (ks : List Tree) (k : Nat), (∀ x ∈ l, ReadsP ts (declM ts (ruleM ts)) (declT d) x) → l.length + 1 ≤ n → Has ts k (declsT d l) → k + (declsT d l).length < ts.length → kdM ts (k + (declsT d l).length, false) = 7 →
    ∃ l', LikeL l l' ∧ progL ts n ks (k, false) = (ks ++ l', (k + (declsT d l).length, false)) := by
  intro l
  induction l with
  | nil =>
    intro n ks k _ hn _ _ hs
    obtain ⟨n, rfl⟩ : ∃ m, n = m + 1 := ⟨n - 1, by omega⟩
    have hs' : kdM ts (k, false) = 7 := hs
    refine ⟨[], likeL_nil, ?_⟩
    rw [progL_succ, if_neg (fun h => by cases h), if_pos hs', List.append_nil]
    rfl
  | cons x l ih =>
    intro n ks k hr hn hh hlt hs
    obtain ⟨n, rfl⟩ : ∃ m, n = m + 1 := ⟨n - 1, by omega⟩
    rw [declsT_cons] at hh hlt hs ⊢
    rw [List.length_append] at hlt hs ⊢
    obtain ⟨x', hx1, hx2⟩ := hr x (by simp) k hh.left (by omega)
    obtain ⟨l', hl1, hl2⟩ := ih n (ks ++ [x']) (k + (declT d x).length) (fun y hy => hr y (List.mem_cons_of_mem _ hy)) (by simp at hn; omega) hh.right (by omega) (by rw [Nat.add_assoc]; exact hs)
    have hk7 : ¬ kdM ts (k, false) = 7 := by
      obtain ⟨w, r, h⟩ := declT_first d x
      have h1 := hh.left
      rw [h] at h1
      obtain ⟨pl, h2⟩ := h1.left.one
      rw [(at_tok h2).1]
      show ¬ (1 : Nat) = 7
      decide
    refine ⟨x' :: l', likeL_cons hx1 hl1, ?_⟩
    rw [progL_succ, if_neg (fun h => by cases h), if_neg hk7, hx2]
    dsimp only
    rw [hl2, Nat.add_assoc]
    simp
end
end Go.Proofs.YtineejjdbjdliaaGreatDoor
/- A right tree's text, parsed, is the tree, but for places; with no program in sight. Condition: at most 16384 bytes. -/
namespace Go.Proofs.YtineejjdbjdliaaGreatDoor
open Go.RowKit

theorem Like.parts {a b : Tree} (h : Like a b) : a.kind = b.kind ∧ txL a = txL b ∧ a.num = b.num ∧ LikeL a.kids b.kids := by
  have h0 : sameF 0 a b = true := h 0
  unfold sameF at h0
  simp only [Bool.and_eq_true, beq_iff_eq] at h0
  refine ⟨h0.1.1.1, h0.1.1.2, h0.1.2, h0.2, fun x hx d => ?_⟩
  have h1 : sameF (d + 1) a b = true := h (d + 1)
  unfold sameF at h1
  rw [Bool.and_eq_true, List.all_eq_true] at h1
  exact h1.2 x hx
theorem likeL_inv {a b : Tree} {l m : List Tree} (h : LikeL (a :: l) (b :: m)) : Like a b ∧ LikeL l m := by
  obtain ⟨h1, h2⟩ := h
  refine ⟨h2 (a, b) (by simp), by simpa using h1, fun x hx => h2 x (by simp [hx])⟩
theorem likeL_map {α : Type} (f : Tree → α) : ∀ {l m : List Tree}, LikeL l m → (∀ a b, a ∈ l → b ∈ m → Like a b → f b = f a) → m.map f = l.map f := by
  intro l
  induction l with
  | nil =>
    intro m h _
    cases m with
    | nil => rfl
    | cons b m => have := h.1; simp at this
  | cons a l ih =>
    intro m h hf
    cases m with
    | nil => have := h.1; simp at this
    | cons b m =>
      obtain ⟨h1, h2⟩ := likeL_inv h
      rw [List.map_cons, List.map_cons, hf a b (by simp) (by simp) h1, ih h2 fun x y hx hy => hf x y (List.mem_cons_of_mem _ hx) (List.mem_cons_of_mem _ hy)]
theorem likeL_mem : ∀ {l m : List Tree}, LikeL l m → ∀ b ∈ m, ∃ a ∈ l, Like a b := by
  intro l
  induction l with
  | nil =>
    intro m h b hb
    cases m with
    | nil => cases hb
    | cons b m => have := h.1; simp at this
  | cons a l ih =>
    intro m h b hb
    cases m with
    | nil => cases hb
    | cons c m =>
      obtain ⟨h1, h2⟩ := likeL_inv h
      rcases List.mem_cons.1 hb with rfl | hb
      · exact ⟨a, by simp, h1⟩
      · obtain ⟨x, hx, hl⟩ := ih h2 b hb
        exact ⟨x, List.mem_cons_of_mem _ hx, hl⟩
def keyT (t : Tree) : Nat × List UInt8 := (t.kind, txL t)
theorem among_key (S : List Nat) (l : List Tree) : among S l = (l.map keyT).all fun p => S.contains p.1 := by
  unfold among
  rw [List.all_map]
  rfl
theorem exprsB_key (l : List Tree) : exprsB l = ((l.map keyT).all (fun p => !(p.1 == 14 && negB p.2)) && (l.map keyT).all fun p => [13, 14, 15, 16].contains p.1) := by
  unfold exprsB
  rw [among_key, List.all_map, List.all_map]
  rfl
theorem rowB_key (l : List Tree) : rowB l = ((l.map keyT).dropWhile (fun p => [5, 6, 7].contains p.1)).all fun p => [8, 9, 10, 11].contains p.1 := by
  unfold rowB
  rw [among_key, List.dropWhile_map]
  rfl
theorem kidsOk_like {l m : List Tree} (h : LikeL l m) (k : Nat) : kidsOk k m = kidsOk k l := by
  have hk : m.map keyT = l.map keyT := likeL_map keyT h fun a b _ _ hab => by
    obtain ⟨h1, h2, _, _⟩ := hab.parts
    unfold keyT
    rw [h1, h2]
  have hl : m.length = l.length := h.1.symm
  have hi : m.isEmpty = l.isEmpty := by
    cases m <;> cases l <;> simp at hl <;> rfl
  unfold kidsOk
  simp only [among_key, exprsB_key, rowB_key, hk, hl, hi]
theorem level_like {a b : Tree} (h : Like a b) (hp : 0 ≤ b.place) (ha : levelOk a = true) : levelOk b = true := by
  obtain ⟨h1, h2, h3, h4⟩ := h.parts
  have h2' : b.text.data.toList = a.text.data.toList := h2.symm
  unfold levelOk at ha ⊢
  rw [← h1, h2', ← h3, kidsOk_like h4, ← h4.1]
  have e7 : decide (0 ≤ b.place) = true := by simpa using hp
  have e6 : decide (0 ≤ a.place) = true := by
    cases hd : decide (0 ≤ a.place)
    · rw [hd] at ha; simp at ha
    · rfl
  rw [e6] at ha
  rw [e7]
  exact ha
theorem okF_like : ∀ (d : Nat) {a b : Tree}, Like a b → Trim d b → okF d a = true → okF d b = true := by
  intro d
  induction d with
  | zero => intro a b h hb ha; exact level_like h hb.place.1 ha
  | succ d ih =>
    intro a b h hb ha
    unfold okF at ha ⊢
    rw [Bool.and_eq_true] at ha ⊢
    refine ⟨level_like h hb.place.1 ha.1, List.all_eq_true.2 fun y hy => ?_⟩
    obtain ⟨x, hx, hl⟩ := likeL_mem h.parts.2.2.2 y hy
    exact ih hl (hb.2.2.2 y hy) (List.all_eq_true.1 ha.2 x hx)
theorem deep_like : ∀ (d : Nat) {a b : Tree}, Like a b → deepF d b = deepF d a ∧ manyF d b = manyF d a := by
  intro d
  induction d with
  | zero => intro a b _; exact ⟨rfl, rfl⟩
  | succ d ih =>
    intro a b h
    have h4 := h.parts.2.2.2
    unfold deepF manyF
    rw [likeL_map (deepF d) h4 fun x y _ _ hl => (ih hl).1, likeL_map (manyF d) h4 fun x y _ _ hl => (ih hl).2]
    exact ⟨rfl, rfl⟩
/-! at another depth -/
theorem foldl_max_le {l : List Nat} {a n : Nat} (ha : a ≤ n) (h : ∀ x ∈ l, x ≤ n) : l.foldl Nat.max a ≤ n := by
  induction l generalizing a with
  | nil => exact ha
  | cons x l ih =>
    rw [List.foldl_cons]
    exact ih (Nat.max_le.2 ⟨ha, h x (by simp)⟩) fun y hy => h y (List.mem_cons_of_mem _ hy)
theorem le_foldl_max : ∀ {l : List Nat} {a : Nat}, a ≤ l.foldl Nat.max a ∧ ∀ x ∈ l, x ≤ l.foldl Nat.max a := by
  intro l
  induction l with
  | nil => intro a; exact ⟨Nat.le_refl _, fun x hx => by cases hx⟩
  | cons y l ih =>
    intro a
    rw [List.foldl_cons]
    obtain ⟨h1, h2⟩ := ih (a := Nat.max a y)
    refine ⟨Nat.le_trans (Nat.le_max_left _ _) h1, fun x hx => ?_⟩
    rcases List.mem_cons.1 hx with rfl | hx
    · exact Nat.le_trans (Nat.le_max_right _ _) h1
    · exact h2 x hx
theorem deep_kid {d : Nat} {T x : Tree} (hx : x ∈ T.kids) : deepF d x + 1 ≤ deepF (d + 1) T := by
  show _ ≤ (T.kids.map (deepF d)).foldl Nat.max 0 + 1
  have := (le_foldl_max (l := T.kids.map (deepF d)) (a := 0)).2 (deepF d x) (List.mem_map.2 ⟨x, hx, rfl⟩)
  omega
theorem deepF_pos (d : Nat) (T : Tree) : 1 ≤ deepF d T := by
  cases d with
  | zero => exact Nat.le_refl _
  | succ d => show 1 ≤ _ + 1; omega
theorem other_depth : ∀ (d : Nat) (T : Tree), Dep d T → ∀ D, (okF d T = true → okF D T = true) ∧ deepF D T ≤ deepF d T ∧ manyF D T ≤ manyF d T := by
  intro d
  induction d with
  | zero =>
    intro T hd D
    have hd' : T.kids = [] := hd
    cases D with
    | zero => exact ⟨id, Nat.le_refl _, Nat.le_refl _⟩
    | succ D =>
      unfold okF deepF manyF
      rw [hd']
      exact ⟨fun h => by rw [h]; rfl, Nat.le_refl _, Nat.le_refl _⟩
  | succ d ih =>
    intro T hd D
    cases D with
    | zero =>
      exact ⟨fun h => okF_level h, deepF_pos _ _, manyF_pos _ _⟩
    | succ D =>
      refine ⟨fun h => ?_, ?_, ?_⟩
      · unfold okF at h ⊢
        rw [Bool.and_eq_true, List.all_eq_true] at h ⊢
        exact ⟨h.1, fun x hx => (ih x (hd x hx) D).1 (h.2 x hx)⟩
      · show (T.kids.map (deepF D)).foldl Nat.max 0 + 1 ≤ _
        have h1 : (T.kids.map (deepF D)).foldl Nat.max 0 ≤ deepF (d + 1) T - 1 := foldl_max_le (Nat.zero_le _) fun v hv => by
          obtain ⟨x, hx, rfl⟩ := List.mem_map.1 hv
          have h2 := (ih x (hd x hx) D).2.1
          have h3 := deep_kid (d := d) hx
          omega
        have h4 := deepF_pos (d + 1) T
        omega
      · have h0 : ∀ l : List Tree, (∀ x ∈ l, manyF D x ≤ manyF d x) → sumN D l ≤ sumN d l := by
          intro l
          induction l with
          | nil => intro _; exact Nat.le_refl _
          | cons x l ihl =>
            intro h
            rw [sumN_cons, sumN_cons]
            have := h x (by simp)
            have := ihl fun y hy => h y (List.mem_cons_of_mem _ hy)
            omega
        rw [manyF_succ, manyF_succ]
        have := h0 T.kids fun x hx => (ih x (hd x hx) D).2.2
        omega
theorem dp_none : ∀ (n d : Nat) (T : Tree), Dep d T → deepF d T ≤ n → dpM n T = none := by
  intro n
  induction n with
  | zero => intro d T _ h; have := deepF_pos d T; omega
  | succ n ih =>
    intro d T hd h
    show T.kids.findSome? (dpM n) = none
    rw [List.findSome?_eq_none_iff]
    intro x hx
    cases d with
    | zero => have hd' : T.kids = [] := hd; rw [hd'] at hx; cases hx
    | succ d =>
      have := deep_kid (d := d) hx
      exact ih d x (hd x hx) (by omega)
theorem dp_like : ∀ (n : Nat) {a b : Tree}, Like a b → dpM n a = none → dpM n b = none := by
  intro n
  induction n with
  | zero => intro a b _ h; cases h
  | succ n ih =>
    intro a b h ha
    have ha' : a.kids.findSome? (dpM n) = none := ha
    show b.kids.findSome? (dpM n) = none
    rw [List.findSome?_eq_none_iff] at ha' ⊢
    intro y hy
    obtain ⟨x, hx, hl⟩ := likeL_mem h.parts.2.2.2 y hy
    exact ih hl (ha' x hx)
/-- A RIGHT TREE's TEXT is parsed as the tree -/
theorem prog_back {d : Nat} {T : Tree} (hr : rightF (d + 3) T = true) (hd : Dep (d + 3) T) {s : ByteArray} (hs : s.data.toList = progS d T) (hsz : s.size ≤ 16384) : ∃ T', Like T T' ∧ progM s = (T', 0, 0) := by
  have hdo := progOk_of d T hr hd
  have hr' := hr
  unfold rightF at hr'
  simp only [Bool.and_eq_true, beq_iff_eq, decide_eq_true_eq] at hr'
  obtain ⟨⟨⟨h1, hok⟩, hdeep⟩, hmany⟩ := hr'
  have hkid : ∀ x ∈ T.kids, okF (d + 2) x = true ∧ DeclOk' d x := fun x hx => ⟨okF_kid hok hx, hdo x hx⟩
  obtain ⟨l1, l2⟩ := prog_lex hkid hs
  have hlen : (allTk s).length = (declsT d T.kids).length + 1 := by
    rw [allTk_len, ← l2, List.length_map]
  have hhas : Has (allTk s) 0 (declsT d T.kids) := by
    intro i t hi
    rw [← l2, List.getElem?_map] at hi
    cases hg : (toksFrom s 0).1[i]? with
    | none => rw [hg] at hi; cases hi
    | some q =>
      rw [hg] at hi
      have e : ktOf q = t := Option.some.inj hi
      subst e
      refine ⟨q.2.2, ?_⟩
      rw [Nat.zero_add]
      unfold allTk
      rw [List.getElem?_append_left (List.getElem?_eq_some_iff.1 hg).1, hg]
      rfl
  have hend : kdM (allTk s) (0 + (declsT d T.kids).length, false) = 7 := by
    have e : (allTk s)[0 + (declsT d T.kids).length]? = some (7, ⟨#[]⟩, s.size) := by
      unfold allTk
      rw [List.getElem?_append_right (by rw [← l2, List.length_map]; omega), Nat.zero_add, ← l2, List.length_map, Nat.sub_self]
      rfl
    exact (at_tok (t := (7, ⟨#[]⟩)) e).1
  have hcl := declsT_len d T.kids
  obtain ⟨l', hl1, hl2⟩ := progL_back (ts := allTk s) T.kids ((allTk s).length + 1) [] 0 (fun x hx => decl_back (hkid x hx).1 (hd x hx) (hkid x hx).2) (by omega) hhas (by omega) hend
  have hlv := okF_level hok
  have htx : txL T = [] := by
    have := (level_parts hlv).2.1
    rw [h1] at this
    exact List.isEmpty_iff.1 this
  have hnum : T.num = 0 := by
    have := (level_parts hlv).2.2.1
    rw [h1] at this
    simpa [numOk] using this
  have hlike : Like T (.mk 1 ⟨#[]⟩ 0 0 l') := like_mk h1 htx hnum hl1
  have hslim : SlimL (progD (allTk s)).1 := progD_slim (allTk_ok s hsz) (by
    have h9 := toks_len s (s.size + 1) 0 (Nat.zero_le _)
    have h8 : (toksFrom s 0).1.length + 0 ≤ s.size := h9
    rw [allTk_len]
    omega) (by omega)
  have hpd : progD (allTk s) = (l', (0 + (declsT d T.kids).length, false)) := by
    unfold progD
    rw [hl2]
    rfl
  rw [hpd] at hslim
  have htrim : Trim 30 (.mk 1 ⟨#[]⟩ 0 0 l') := ⟨Nat.zero_le _, ⟨Int.le_refl _, by show (0 : Int) ≤ 16384; decide⟩, hslim.1, fun x hx => hslim.2 x hx 29⟩
  have hdp : dpM 30 (.mk 1 ⟨#[]⟩ 0 0 l') = none := dp_like 30 hlike (dp_none 30 (d + 3) T hd hdeep)
  refine ⟨_, hlike, ?_⟩
  rw [progM_of hsz l1 hpd hdp]
  obtain ⟨o1, o2, o3⟩ := other_depth (d + 3) T hd 30
  obtain ⟨e1, e2⟩ := deep_like 30 hlike
  have hright : rightF 30 (.mk 1 ⟨#[]⟩ 0 0 l') = true := by
    unfold rightF
    rw [e1, e2, okF_like 30 hlike htrim (o1 hok)]
    simp only [Bool.and_eq_true, beq_iff_eq, decide_eq_true_eq]
    exact ⟨⟨⟨rfl, trivial⟩, by omega⟩, by omega⟩
  rw [if_pos hright]
end Go.Proofs.YtineejjdbjdliaaGreatDoor
