/- Several texts joined, each with its own sentence and conditions ahead of it: LexS, LexT, LexU. -/
import Derived.Test.YtineejjdbjdliaaGreatDoorMZL
import Derived.Test.YtineejjdbjdliaaGreatDoorME
import Derived.Test.YtineejjdbjdliaaGreatDoorMSA
/- What the scanner reads of a text that is written token by token; with no program in sight. No condition. -/
namespace Go.Proofs.YtineejjdbjdliaaGreatDoor
open Go.RowKit

/-- a token without its place -/
def ktOf (t : Tok) : Nat × ByteArray := (t.1, t.2.1)
/-- SCANNING what begins with l, and has r behind it: these tokens, then r is left -/
def Lx (l : List UInt8) (ks : List (Nat × ByteArray)) (r : List UInt8) : Prop :=
  ∀ (S : ByteArray) (p : Nat), S.data.toList.drop p = l ++ r → p ≤ S.size →
    (toksFrom S p).1.map ktOf = ks ++ (toksFrom S (p + l.length)).1.map ktOf ∧ (toksFrom S p).2 = (toksFrom S (p + l.length)).2 ∧ S.data.toList.drop (p + l.length) = r ∧ p + l.length ≤ S.size
theorem Lx.nil (r : List UInt8) : Lx [] [] r := fun _ _ h hp => ⟨rfl, rfl, by simpa using h, by simpa using hp⟩
theorem Lx.app {a b r : List UInt8} {ka kb : List (Nat × ByteArray)} (h1 : Lx a ka (b ++ r)) (h2 : Lx b kb r) : Lx (a ++ b) (ka ++ kb) r := by
  intro S p h hp
  obtain ⟨x1, x2, x3, x4⟩ := h1 S p (by rw [h, List.append_assoc]) hp
  obtain ⟨y1, y2, y3, y4⟩ := h2 S _ x3 x4
  have e : p + (a ++ b).length = p + a.length + b.length := by rw [List.length_append]; omega
  rw [e]
  exact ⟨by rw [x1, y1, List.append_assoc], x2.trans y2, y3, y4⟩
theorem drop_lt {S : ByteArray} {p : Nat} {c : UInt8} {r : List UInt8} (h : S.data.toList.drop p = c :: r) : p < S.size := by
  rcases Nat.lt_or_ge p S.size with hp | hp
  · exact hp
  · rw [drop_end S p hp] at h; cases h
theorem Lx.blank {c : UInt8} (hc : blankB c = true) (r : List UInt8) : Lx [c] [] r := by
  intro S p h _
  obtain ⟨h1, h2⟩ := blank_step S p c r hc h
  have := drop_lt h
  exact ⟨by rw [h1]; rfl, by rw [h1]; rfl, h2, this⟩
theorem Lx.tok {x r : List UInt8} {kd : Nat} {tx : ByteArray} (hx : x ≠ []) (hs : skS false (x ++ r) = x ++ r) (hT : tokL (x ++ r) = (kd, tx, 0, x.length)) : Lx x [(kd, tx)] r := by
  intro S p h hp0
  obtain ⟨c, q, hcq⟩ := List.exists_cons_of_ne_nil hx
  have hp : p < S.size := drop_lt (c := c) (r := q ++ r) (by rw [h, hcq]; rfl)
  have hl := skip_len S p hp0
  rw [h, hs] at hl
  have hdl := congrArg List.length h
  rw [List.length_drop] at hdl
  have e : S.data.toList.length = S.size := by simp
  have hk : skip S p = p := by omega
  have hlen : p + x.length ≤ S.size := by rw [List.length_append] at hdl; omega
  have htk : tokenAt S (skip S p) (S[skip S p]'(by omega)) = (kd, tx, 0, p + x.length) := by
    rw [tokenAt_list S _ (by omega), hk, h, hT]
  have e2 := toksFrom_ok S p (by omega) (by rw [htk])
  simp only [htk] at e2
  rw [e2]
  exact ⟨rfl, rfl, by rw [← List.drop_drop, h, List.drop_left], hlen⟩
/-- what may stand behind a name, a number -/
def Stop (r : List UInt8) : Prop := r = [] ∨ ∃ c q, r = c :: q ∧ isOn c = false
theorem Stop.cons {c : UInt8} (h : isOn c = false) (q : List UInt8) : Stop (c :: q) := Or.inr ⟨c, q, rfl, h⟩
theorem while_stop (f : UInt8 → Bool) (hf : ∀ c, isOn c = false → f c = false) {r : List UInt8} (hr : Stop r) : ∀ {x : List UInt8}, x.all f = true → (x ++ r).takeWhile f = x ∧ (x ++ r).dropWhile f = r := by
  intro x
  induction x with
  | nil =>
    intro _
    rcases hr with rfl | ⟨c, q, rfl, hc⟩
    · exact ⟨rfl, rfl⟩
    · rw [List.nil_append, List.takeWhile_cons, List.dropWhile_cons, if_neg (by rw [hf c hc]; decide), if_neg (by rw [hf c hc]; decide)]
      exact ⟨rfl, rfl⟩
  | cons y x ih =>
    intro h
    rw [List.all_cons, Bool.and_eq_true] at h
    obtain ⟨h1, h2⟩ := ih h.2
    rw [List.cons_append, List.takeWhile_cons, List.dropWhile_cons, if_pos h.1, if_pos h.1, h1, h2]
    exact ⟨rfl, rfl⟩
theorem dig_on (c : UInt8) (h : isDig c = true) : isOn c = true := by
  have := all_u8 (fun c => !isDig c || isOn c) (by kernel_rfl) c
  simp [h] at this
  exact this
theorem namedF_parts {x : List UInt8} (h : namedF x = true) : ∃ c q, x = c :: q ∧ isLow c = true ∧ x.all isOn = true ∧ x.length ≤ 24 := by
  cases x with
  | nil => rw [namedF_nil] at h; cases h
  | cons c q =>
    rw [namedF_cons] at h
    simp only [Bool.and_eq_true, decide_eq_true_eq] at h
    obtain ⟨⟨h1, h2⟩, h3⟩ := h
    exact ⟨c, q, rfl, h1, by rw [List.all_cons, low_on c h1, h2]; rfl, by simpa using h3⟩
theorem sk_first {c : UInt8} (hb : blankB c = false) (h35 : (c == 35) = false) (r : List UInt8) : skS false (c :: r) = c :: r := by
  rw [skS_plain, if_neg (by rw [hb]; decide), if_neg (by simpa using h35)]
/-- a word, or a name -/
theorem Lx.name {x r : List UInt8} (h : namedF x = true) (hr : Stop r) : Lx x [(if wordB x then 1 else 2, mkB x)] r := by
  obtain ⟨c, q, rfl, hc, hall, hlen⟩ := namedF_parts h
  obtain ⟨f1, f2, f3⟩ := low_facts c hc
  have h1 := while_stop isOn (fun c h => h) hr hall
  refine Lx.tok (by simp) (sk_first f2 f3 _) ?_
  unfold tokL
  rw [List.cons_append]
  dsimp only
  rw [if_pos hc, ← List.cons_append, h1.1, if_pos hlen]
/-- a variable, an atom -/
theorem Lx.mark {x r : List UInt8} (m : UInt8) (kd : Nat) (hm : (m = 63 ∧ kd = 3) ∨ (m = 39 ∧ kd = 5)) (h : namedF x = true) (hr : Stop r) : Lx ([m] ++ x) [(kd, mkB x)] r := by
  obtain ⟨c, q, hx, hc, hall, hlen⟩ := namedF_parts h
  have h1 := while_stop isOn (fun c h => h) hr hall
  have hnb : namedB x = true := by rw [hx]; show (decide _ && _) = true; rw [hc, decide_eq_true (by rw [← hx]; exact hlen)]; rfl
  have hl : isLow m = false ∧ (m == 63 || m == 39) = true ∧ blankB m = false ∧ (m == 35) = false ∧ (if m == 39 then 5 else 3) = kd := by
    rcases hm with ⟨rfl, rfl⟩ | ⟨rfl, rfl⟩ <;> decide
  refine Lx.tok (by simp) (sk_first hl.2.2.1 hl.2.2.2.1 _) ?_
  unfold tokL
  show (if isLow m = true then _ else _) = _
  rw [if_neg (by rw [hl.1]; decide), if_pos hl.2.1]
  show ((if (m == 39) = true then 5 else 3), mkB ((x ++ r).takeWhile isOn), (if namedB ((x ++ r).takeWhile isOn) = true then 0 else 201), ((x ++ r).takeWhile isOn).length + 1) = _
  rw [h1.1, hnb, hl.2.2.2.2]
  simp
theorem number_digs : ∀ (l : List UInt8) (a : Nat), (numGo a l).isSome = true → l.all isDig = true := by
  intro l
  induction l with
  | nil => intro a _; rfl
  | cons c r ih =>
    intro a h
    unfold numGo at h
    split at h
    · rename_i hc
      rw [Bool.and_eq_true] at hc
      rw [List.all_cons, hc.1, ih _ h]; rfl
    · cases h
/-- a number -/
theorem Lx.num {x r : List UInt8} (h : (number x).isSome = true) (hr : Stop r) : Lx x [(4, mkB x)] r := by
  cases hx : x with
  | nil => rw [hx] at h; cases h
  | cons c q =>
    rw [← hx]
    have hn : number x = numGo 0 x := by unfold number; rw [hx]; rfl
    have hall := number_digs x 0 (by rw [← hn]; exact h)
    have hc : isDig c = true := by rw [hx, List.all_cons, Bool.and_eq_true] at hall; exact hall.1
    obtain ⟨f1, f2, f3, f4⟩ := dig_facts c hc
    have h1 := while_stop isDig (fun c h => by
      cases hd : isDig c with
      | false => rfl
      | true => rw [dig_on c hd] at h; cases h) hr hall
    have h2 : (r.head?.any isOn) = false := by
      rcases hr with rfl | ⟨c, q, rfl, hc⟩
      · rfl
      · exact hc
    refine Lx.tok (by rw [hx]; simp) (by rw [hx]; exact sk_first f3 f4 _) ?_
    have e : tokL (x ++ r) = (4, mkB ((x ++ r).takeWhile isDig), (if (number ((x ++ r).takeWhile isDig)).isSome && !(((x ++ r).dropWhile isDig).head?.any isOn) then 0 else 201), ((x ++ r).takeWhile isDig).length) := by
      conv => lhs; unfold tokL
      rw [hx, List.cons_append]
      dsimp only
      rw [if_neg (by rw [f1]; decide), if_neg (by rw [f2]; decide), if_pos hc]
    rw [e, h1.1, h1.2, h, h2]
    rfl
/-- a sign, by what stands behind it -/
theorem Lx.sign {g : ByteArray} {r : List UInt8} (hg : g ∈ signsL) (hf : signsL.find? (fun x => Lib.hasPrefix (g.data.toList ++ r) x.data.toList) = some g) : Lx g.data.toList [(6, g)] r := by
  have hsz : g.size = g.data.toList.length := by simp
  have hpos := signs_pos g hg
  obtain ⟨c, q, hc⟩ : ∃ c q, g.data.toList = c :: q := by
    cases hh : g.data.toList with
    | nil =>
      have : g.size = 0 := by rw [hsz, hh]; rfl
      omega
    | cons c q => exact ⟨c, q, rfl⟩
  obtain ⟨f1, f2, f3, f4, f5⟩ := sign_facts c (List.any_eq_true.2 ⟨g, hg, by rw [hc]; simp⟩)
  refine Lx.tok (by rw [hc]; simp) (by rw [hc]; exact sk_first f4 f5 _) ?_
  unfold tokL
  rw [hc, List.cons_append]
  dsimp only
  rw [if_neg (by rw [f1]; decide), if_neg (by rw [f2]; decide), if_neg (by rw [f3]; decide)]
  rw [hc, List.cons_append] at hf
  rw [hf]
  simp [hsz, hc]
theorem Lx.sign_gap {g : ByteArray} {b : UInt8} {r : List UInt8} (hg : g ∈ signsL) (hb : gapB b = true) : Lx g.data.toList [(6, g)] (b :: r) := Lx.sign hg (sign_first g hg b hb r)
theorem prefix_one (c d : UInt8) (r : List UInt8) : Lib.hasPrefix (c :: r) [d] = (d == c) := by
  unfold Lib.hasPrefix
  simp [List.isPrefixOf]
/-- signs that begin no other sign -/
theorem Lx.lone {c : UInt8} (hc : c ∈ [40, 41, 123, 125, 44, 59, 43, 45, 42, 95]) (r : List UInt8) : Lx [c] [(6, mkB [c])] r := by
  have h0 : [40, 41, 123, 125, 44, 59, 43, 45, 42, 95].all (fun c => (signsL.any fun g => g.data.toList == [c]) && ((signsL.find? (fun g => g.data.toList.head? == some c)).map (fun g => g.data.toList) == some [c]) && (signsL.all fun g => (g.data.toList.head? != some c) || g.data.toList.length == 1)) = true := by kernel_rfl
  rw [List.all_eq_true] at h0
  have h1 := h0 c hc
  simp only [Bool.and_eq_true, List.any_eq_true, beq_iff_eq] at h1
  obtain ⟨⟨⟨g0, h1, h1'⟩, h2⟩, h3⟩ := h1
  have hg0 : g0 = mkB [c] := bytes_ext _ _ h1'
  rw [hg0] at h1
  refine Lx.sign (g := mkB [c]) h1 ?_
  have h2 : signsL.find? (fun g => g.data.toList.head? == some c) = some (mkB [c]) := by
    cases hf : signsL.find? (fun g => g.data.toList.head? == some c) with
    | none => rw [hf] at h2; cases h2
    | some g1 =>
      rw [hf] at h2
      have : g1 = mkB [c] := bytes_ext _ _ (Option.some.inj h2)
      rw [this]
  rw [← h2]
  refine find_congr signsL fun g hg => ?_
  rw [List.all_eq_true] at h3
  have h4 := h3 g hg
  show Lib.hasPrefix (c :: r) g.data.toList = _
  cases hgl : g.data.toList with
  | nil =>
    have hsz : g.size = g.data.toList.length := by simp
    have h5 := signs_pos g hg
    have h6 : g.size = 0 := by rw [hsz, hgl]; rfl
    omega
  | cons d q =>
    rw [hgl] at h4
    by_cases hd : d = c
    · subst hd
      have : q = [] := by simpa using h4
      subst this
      rw [prefix_one]
      simp
    · have e : Lib.hasPrefix (c :: r) (d :: q) = false := by
        unfold Lib.hasPrefix
        simp [List.isPrefixOf, hd]
      rw [e]
      simp [hd]
end Go.Proofs.YtineejjdbjdliaaGreatDoor
/- The tokens of a tree's text; with no program in sight. Condition: the tree is right. -/
namespace Go.Proofs.YtineejjdbjdliaaGreatDoor
open Go.RowKit

abbrev KT := Nat × ByteArray
def sgT (c : UInt8) : KT := (6, mkB [c])
def leafT (T : Tree) : List KT :=
  if T.kind = 12 then [sgT 95] else if T.kind = 13 then [(3, T.text)] else if T.kind = 15 then [(5, T.text)]
  else if negB (txL T) then [sgT 45, (4, mkB (strip (txL T)))] else [(4, T.text)]
def opT (T : Tree) : KT := (if wordB (txL T) then 1 else 6, T.text)
def inT (T : Tree) (least : Nat) (l : List KT) : List KT := if least ≤ bindsM T then l else [sgT 40] ++ (l ++ [sgT 41])
def exprT : Nat → Tree → List KT
  | 0, T => leafT T
  | d + 1, T =>
    if T.kind = 16 then
      match T.kids with
      | [] => []
      | [a] => [opT T] ++ inT a 6 (exprT d a)
      | a :: b :: _ => inT a (if bindsM T = 3 then 4 else bindsM T) (exprT d a) ++ ([opT T] ++ inT b (bindsM T + 1) (exprT d b))
    else leafT T
def rowT (f : Tree → List KT) : List Tree → List KT
  | [] => []
  | [a] => f a
  | a :: b :: l => f a ++ ([sgT 44] ++ rowT f (b :: l))
def nameKT (T : Tree) : KT := (2, T.text)
def listT (f : Tree → List KT) (T : Tree) : List KT := [nameKT T] ++ ([sgT 40] ++ (rowT f T.kids ++ [sgT 41]))
def wdT (x : List UInt8) : KT := (1, mkB x)
def itoaT (n : Int) : List KT := if n < 0 then [sgT 45, (4, mkB (Lib.decDigits n.natAbs))] else [(4, mkB (Lib.decDigits n.toNat))]
def partT (d : Nat) (T : Tree) : List KT :=
  (if T.kind = 5 then listT (exprT d) T
   else if T.kind = 6 then [wdT [110, 111, 116]] ++ listT (exprT d) T
   else if T.kind = 7 then [wdT [116, 101, 115, 116]] ++ rowT (exprT d) T.kids
   else if T.kind = 8 then [wdT [97, 115, 115, 101, 114, 116]] ++ listT (exprT d) T
   else if T.kind = 9 then [wdT [114, 101, 116, 114, 97, 99, 116]] ++ itoaT T.num
   else if T.kind = 10 then [wdT [115, 97, 121]] ++ rowT (exprT d) T.kids
   else if T.kind = 11 then [wdT [104, 97, 108, 116]] else []) ++ [sgT 59]
def partsT (d : Nat) (l : List Tree) : List KT := (l.map (partT d)).flatten
def salT (n : Int) : List KT := if n = 0 then [] else [wdT [115, 97, 108, 105, 101, 110, 99, 101]] ++ itoaT n
def ruleTk (d : Nat) (T : Tree) : List KT :=
  ([wdT [114, 117, 108, 101]] ++ [nameKT T]) ++ (salT T.num ++ ([sgT 123] ++ (partsT d (T.kids.takeWhile condB) ++ ([(6, mkB [61, 62])] ++ (partsT d (T.kids.dropWhile condB) ++ [sgT 125])))))
def fieldT (T : Tree) : List KT := [nameKT T]
def declT (d : Nat) (T : Tree) : List KT := if T.kind = 4 then ruleTk d T else [wdT [102, 97, 99, 116]] ++ (listT fieldT T ++ [sgT 59])
def declsT (d : Nat) (l : List Tree) : List KT := (l.map (declT d)).flatten

theorem mkB_txL (T : Tree) : mkB (txL T) = T.text := bytes_ext _ _ rfl
theorem blank32 : blankB 32 = true := by decide
theorem on32 : isOn 32 = false ∧ isOn 40 = false ∧ isOn 41 = false ∧ isOn 44 = false ∧ isOn 59 = false ∧ isOn 10 = false := by decide
theorem gap32 : gapB 32 = true := by decide
theorem stop32 (r : List UInt8) : Stop ([32] ++ r) := Stop.cons on32.1 r
theorem stop40 (r : List UInt8) : Stop ([40] ++ r) := Stop.cons on32.2.1 r
theorem stop41 (r : List UInt8) : Stop ([41] ++ r) := Stop.cons on32.2.2.1 r
theorem stop44 (r : List UInt8) : Stop ([44] ++ r) := Stop.cons on32.2.2.2.1 r
theorem stop59 (r : List UInt8) : Stop ([59] ++ r) := Stop.cons on32.2.2.2.2.1 r
theorem Lx.sp (r : List UInt8) : Lx [32] [] r := Lx.blank blank32 r
/-- a token, and a blank behind it -/
theorem Lx.then_sp {x : List UInt8} {k : List KT} {r : List UInt8} (h : Lx x k ([32] ++ r)) : Lx (x ++ [32]) k r := by
  have := h.app (Lx.sp r)
  simpa using this
/-- the text of a kind that has a name -/
theorem name_text {T : Tree} (h : levelOk T = true) (hk : T.kind = 2 ∨ T.kind = 3 ∨ T.kind = 4 ∨ T.kind = 5 ∨ T.kind = 6 ∨ T.kind = 8) : namedF (txL T) = true ∧ wordB (txL T) = false := by
  obtain ⟨_, h2, _⟩ := level_parts h
  have h3 : (namedF (txL T) && !wordB (txL T)) = true := by
    rcases hk with hk | hk | hk | hk | hk | hk <;> (rw [hk] at h2; exact h2)
  rw [Bool.and_eq_true] at h3
  exact ⟨h3.1, by simpa using h3.2⟩
theorem Lx.nameOf {T : Tree} (h : levelOk T = true) (hk : T.kind = 2 ∨ T.kind = 3 ∨ T.kind = 4 ∨ T.kind = 5 ∨ T.kind = 6 ∨ T.kind = 8) {r : List UInt8} (hr : Stop r) : Lx (txL T) [nameKT T] r := by
  obtain ⟨h1, h2⟩ := name_text h hk
  have h3 := Lx.name h1 hr
  rw [h2, mkB_txL] at h3
  exact h3
theorem twoL_tok {T : Tree} (h : amongB twoL (txL T) = true) (r : List UInt8) : Lx (txL T) [opT T] ([32] ++ r) := by
  have h0 : twoL.all (fun g => (wordB g.data.toList && namedF g.data.toList) || (!wordB g.data.toList && signsL.any fun s => s.data.toList == g.data.toList)) = true := by kernel_rfl
  rw [List.all_eq_true] at h0
  unfold amongB at h
  rw [List.any_eq_true] at h
  obtain ⟨g, hg, hgt⟩ := h
  have hgt : g.data.toList = txL T := by simpa using hgt
  have hge : g = T.text := bytes_ext _ _ hgt
  have h1 := h0 g hg
  rw [hgt] at h1
  unfold opT
  simp only [Bool.or_eq_true, Bool.and_eq_true] at h1
  rcases h1 with ⟨h1, h2⟩ | ⟨h1, h2⟩
  · have h3 := Lx.name h2 (stop32 r)
    rw [h1, mkB_txL] at h3
    rw [h1]
    exact h3
  · have h4 : wordB (txL T) = false := by simpa using h1
    rw [h4]
    rw [List.any_eq_true] at h2
    obtain ⟨s, hs, hsg⟩ := h2
    have hsg' : s = g := bytes_ext _ _ ((eq_of_beq hsg).trans hgt.symm)
    have h5 := Lx.sign_gap (g := g) (b := 32) (r := r) (by rw [← hsg']; exact hs) gap32
    rw [hgt] at h5
    rw [hge] at h5
    exact h5
theorem leaf_lex {T : Tree} (h : levelOk T = true) (hk : 12 ≤ T.kind ∧ T.kind ≤ 15) {r : List UInt8} (hr : Stop r) : Lx (leafS T) (leafT T) r := by
  obtain ⟨_, h2, _⟩ := level_parts h
  unfold leafS leafT
  obtain hk | hk | hk | hk : T.kind = 12 ∨ T.kind = 13 ∨ T.kind = 14 ∨ T.kind = 15 := by omega
  · rw [if_pos hk, if_pos hk]
    exact Lx.lone (by decide) r
  · rw [hk] at h2 ⊢
    have h3 : namedF (txL T) = true := h2
    have h4 := Lx.mark (r := r) 63 3 (Or.inl ⟨rfl, rfl⟩) h3 hr
    rw [mkB_txL] at h4
    exact h4
  · rw [hk] at h2 ⊢
    have h3 : (number (strip (txL T))).isSome = true := h2
    rw [if_neg (by decide), if_neg (by decide), if_neg (by decide), if_neg (by decide), if_neg (by decide), if_neg (by decide)]
    cases hn : negB (txL T) with
    | true =>
      rw [if_pos rfl]
      obtain ⟨q, hq⟩ : ∃ q, txL T = 45 :: q := by
        unfold negB at hn
        split at hn
        · rename_i q hq; exact ⟨q, hq⟩
        · cases hn
      have e : strip (txL T) = q := by rw [hq]; rfl
      rw [e] at h3 ⊢
      rw [hq]
      have h5 := (Lx.lone (c := 45) (by decide) (q ++ r)).app (Lx.num h3 hr)
      exact h5
    | false =>
      rw [if_neg (by decide)]
      have e : strip (txL T) = txL T := by
        unfold strip
        split
        · rename_i q hq
          rw [hq] at hn
          cases hn
        · rfl
      rw [e] at h3
      have h5 := Lx.num h3 hr
      rw [mkB_txL] at h5
      exact h5
  · rw [hk] at h2 ⊢
    have h3 : namedF (txL T) = true := h2
    have h4 := Lx.mark (r := r) 39 5 (Or.inr ⟨rfl, rfl⟩) h3 hr
    rw [mkB_txL] at h4
    exact h4
theorem in_lex {T : Tree} {k : Nat} {l : List UInt8} {t : List KT} (h : ∀ r, Stop r → Lx l t r) : ∀ r, Stop r → Lx (inB T k l) (inT T k t) r := by
  intro r hr
  unfold inB inT
  split
  · exact h r hr
  · exact (Lx.lone (c := 40) (by decide) _).app ((h _ (stop41 r)).app (Lx.lone (c := 41) (by decide) r))
theorem expr_lex : ∀ (d : Nat) (T : Tree), okF d T = true → ExpOk d T → ∀ r, Stop r → Lx (exprS d T) (exprT d T) r := by
  intro d
  induction d with
  | zero => intro T h he r hr; exact leaf_lex (okF_level h) he hr
  | succ d ih =>
    intro T h he r hr
    have hl := okF_level h
    rcases he with he | ⟨hk, he⟩
    · unfold exprS exprT
      rw [if_neg (by omega), if_neg (by omega)]
      exact leaf_lex hl he hr
    · unfold exprS exprT
      rw [if_pos hk, if_pos hk]
      rcases he with ⟨a, ha, htx, hea⟩ | ⟨a, b, hab, hea, heb⟩
      · rw [ha]
        dsimp only
        have hka := in_lex (T := a) (k := 6) (ih a (okF_kid h (by rw [ha]; simp)) hea) r hr
        rcases htx with htx | htx
        · have e1 : opT T = sgT 45 := by
            unfold opT sgT
            rw [← mkB_txL T, htx]; rfl
          rw [e1, htx, if_neg (by decide)]
          exact (Lx.lone (c := 45) (by decide) _).app hka
        · have e1 : opT T = (1, mkB [110, 111, 116]) := by
            unfold opT
            rw [← mkB_txL T, htx]; rfl
          rw [e1, htx, if_pos rfl]
          have h1 := Lx.name (x := [110, 111, 116]) (r := [32] ++ (inB a 6 (exprS d a) ++ r)) (by decide) (stop32 _)
          rw [show wordB [110, 111, 116] = true by decide] at h1
          have h2 := (Lx.then_sp h1).app hka
          simpa using h2
      · rw [hab]
        dsimp only
        have htwo : amongB twoL (txL T) = true := by
          rcases op_shape hl hk with ⟨a', ha', _⟩ | ⟨_, _, _, h2⟩
          · rw [hab] at ha'; cases ha'
          · exact h2
        have hb := in_lex (T := b) (k := bindsM T + 1) (ih b (okF_kid h (by rw [hab]; simp)) heb) r hr
        have h1 := (Lx.sp _).app ((Lx.then_sp (twoL_tok htwo (inB b (bindsM T + 1) (exprS d b) ++ r))))
        have h2 := h1.app hb
        have h3 := (in_lex (T := a) (k := if bindsM T = 3 then 4 else bindsM T) (ih a (okF_kid h (by rw [hab]; simp)) hea) ([32] ++ (txL T ++ [32] ++ inB b (bindsM T + 1) (exprS d b)) ++ r) (stop32 _)).app (by simpa using h2)
        simpa using h3
theorem row_lex {f : Tree → List UInt8} {g : Tree → List KT} : ∀ (l : List Tree), (∀ x ∈ l, ∀ r, Stop r → Lx (f x) (g x) r) → ∀ r, Stop r → Lx (rowS f l) (rowT g l) r := by
  intro l
  induction l with
  | nil => intro _ r _; exact Lx.nil r
  | cons x l ih =>
    intro h r hr
    have hx := h x (by simp)
    cases l with
    | nil =>
      have e : rowS f [x] = f x := by unfold rowS; simp
      rw [e]
      exact hx r hr
    | cons y l =>
      have e : rowS f (x :: y :: l) = f x ++ ([44] ++ ([32] ++ rowS f (y :: l))) := by unfold rowS; simp
      rw [e]
      have h1 := ih (fun z hz => h z (List.mem_cons_of_mem _ hz)) r hr
      have h2 := (Lx.lone (c := 44) (by decide) _).app ((Lx.sp (rowS f (y :: l) ++ r)).app h1)
      have h3 := (hx ([44] ++ ([32] ++ rowS f (y :: l)) ++ r) (stop44 _)).app h2
      simpa [rowT, sgT] using h3
theorem list_lex {f : Tree → List UInt8} {g : Tree → List KT} {T : Tree} (hl : levelOk T = true) (hk : T.kind = 2 ∨ T.kind = 3 ∨ T.kind = 4 ∨ T.kind = 5 ∨ T.kind = 6 ∨ T.kind = 8) (h : ∀ x ∈ T.kids, ∀ r, Stop r → Lx (f x) (g x) r) (r : List UInt8) : Lx (listS f T) (listT g T) r := by
  unfold listS listT
  have h1 := (row_lex T.kids h ([41] ++ r) (stop41 r)).app (Lx.lone (c := 41) (by decide) r)
  have h2 := (Lx.lone (c := 40) (by decide) _).app h1
  exact Lx.app (Lx.nameOf hl hk (r := ([40] ++ (rowS f T.kids ++ [41])) ++ r) (Stop.cons on32.2.1 _)) h2
theorem word_lex {x : List UInt8} (hn : namedF x = true) (hw : wordB x = true) (r : List UInt8) : Lx (x ++ [32]) [wdT x] r := by
  have h1 := Lx.name hn (stop32 r)
  rw [hw] at h1
  exact Lx.then_sp h1
end Go.Proofs.YtineejjdbjdliaaGreatDoor
/- The tokens of a program's text; numbers told again; with no program in sight. Condition: the tree is right. -/
namespace Go.Proofs.YtineejjdbjdliaaGreatDoor
open Go.RowKit

theorem numGo_app : ∀ (a b : List UInt8) (n : Nat), numGo n (a ++ b) = (numGo n a).bind fun m => numGo m b := by
  intro a
  induction a with
  | nil => intro b n; rfl
  | cons c a ih =>
    intro b n
    rw [List.cons_append, numGo, numGo]
    split
    · exact ih b _
    · rfl
theorem dig_byte {v : Nat} (h : v < 10) : isDig (UInt8.ofNat (48 + v)) = true ∧ (UInt8.ofNat (48 + v)).toNat - 48 = v := by
  have h1 : (UInt8.ofNat (48 + v)).toNat = 48 + v := by
    rw [UInt8.toNat_ofNat']
    exact Nat.mod_eq_of_lt (by omega)
  refine ⟨?_, by omega⟩
  unfold isDig
  rw [h1]
  simp
  omega
theorem numGo_one {n v : Nat} (hv : v < 10) (hn : 10 * n + v ≤ maxI) : numGo n [UInt8.ofNat (48 + v)] = some (10 * n + v) := by
  obtain ⟨h1, h2⟩ := dig_byte hv
  rw [numGo, h1, h2, if_pos (by simp; exact hn)]
  rfl
theorem numGo_dec : ∀ (u : Nat), u ≤ maxI → numGo 0 (Lib.decDigits u) = some u := by
  intro u
  induction u using Nat.strongRecOn with
  | _ u ih =>
    intro hu
    rw [Lib.decDigits]
    split
    · rename_i h
      have := numGo_one (n := 0) h (by omega)
      simpa using this
    · rename_i h
      rw [numGo_app, ih (u / 10) (by omega) (by omega)]
      show numGo (u / 10) _ = _
      rw [numGo_one (Nat.mod_lt _ (by omega)) (by omega)]
      congr 1
      omega
theorem dec_ne (u : Nat) : Lib.decDigits u ≠ [] := by
  rw [Lib.decDigits]
  split <;> simp
theorem number_dec {u : Nat} (hu : u ≤ maxI) : number (Lib.decDigits u) = some u := by
  unfold number
  have h : (Lib.decDigits u).isEmpty = false := by
    cases hd : Lib.decDigits u with
    | nil => exact absurd hd (dec_ne u)
    | cons _ _ => rfl
  rw [h, if_neg (by decide)]
  exact numGo_dec u hu
theorem itoa_lex {n : Int} (h0 : -2147483647 ≤ n) (h1 : n ≤ 2147483647) {r : List UInt8} (hr : Stop r) : Lx (Lib.itoa n) (itoaT n) r := by
  unfold Lib.itoa itoaT
  split
  · have h2 := Lx.num (x := Lib.decDigits n.natAbs) (by rw [number_dec (by unfold maxI; omega)]; rfl) hr
    exact (Lx.lone (c := 45) (by decide) _).app h2
  · exact Lx.num (by rw [number_dec (by unfold maxI; omega)]; rfl) hr
theorem num_bounds {T : Tree} (h : levelOk T = true) : (T.kind = 4 → -2147483647 ≤ T.num ∧ T.num ≤ 2147483647) ∧ (T.kind = 9 → 0 ≤ T.num ∧ T.num ≤ 2147483647) := by
  obtain ⟨_, _, h3, _⟩ := level_parts h
  unfold numOk at h3
  constructor
  · intro hk
    rw [hk] at h3
    simpa using h3
  · intro hk
    rw [hk] at h3
    simpa using h3
theorem part_lex {d : Nat} {T : Tree} (hk : okF (d + 1) T = true) (hp : PartOk d T) (r : List UInt8) : Lx (partS d T) (partT d T) r := by
  have hl := okF_level hk
  have hx : ∀ x ∈ T.kids, ∀ r, Stop r → Lx (exprS d x) (exprT d x) r := fun x hx => expr_lex d x (okF_kid hk hx) (hp.2 x hx)
  have semi : ∀ {x : List UInt8} {t : List KT}, (∀ r, Stop r → Lx x t r) → Lx (x ++ [59, 32]) (t ++ [sgT 59]) r := fun {x t} h => by
    have h1 := (Lx.lone (c := 59) (by decide) ([32] ++ r)).app (b := [32]) (kb := []) (Lx.sp r)
    have h2 := (h ([59, 32] ++ r) (Stop.cons on32.2.2.2.2.1 _)).app h1
    simpa [sgT] using h2
  have hlist : T.kind = 5 ∨ T.kind = 6 ∨ T.kind = 8 → ∀ r, Stop r → Lx (listS (exprS d) T) (listT (exprT d) T) r := fun h r _ => list_lex hl (by omega) hx r
  have hrow : ∀ r, Stop r → Lx (rowS (exprS d) T.kids) (rowT (exprT d) T.kids) r := row_lex T.kids hx
  have wd : ∀ {x : List UInt8} {y : List UInt8} {t : List KT}, namedF x = true → wordB x = true → (∀ r, Stop r → Lx y t r) → ∀ r, Stop r → Lx (x ++ [32] ++ y) ([wdT x] ++ t) r := fun {x y t} h1 h2 h3 r hr => (word_lex h1 h2 (y ++ r)).app (h3 r hr)
  unfold partS partT
  obtain h | h | h | h | h | h | h : T.kind = 5 ∨ T.kind = 6 ∨ T.kind = 7 ∨ T.kind = 8 ∨ T.kind = 9 ∨ T.kind = 10 ∨ T.kind = 11 := by have := hp.1; omega
  · rw [if_pos h, if_pos h]
    exact semi (hlist (by omega))
  · rw [if_neg (by omega), if_pos h, if_neg (by omega), if_pos h]
    exact semi (wd (x := [110, 111, 116]) (by decide) (by decide) (hlist (by omega)))
  · rw [if_neg (by omega), if_neg (by omega), if_pos h, if_neg (by omega), if_neg (by omega), if_pos h]
    exact semi (wd (x := [116, 101, 115, 116]) (by decide) (by decide) hrow)
  · rw [if_neg (by omega), if_neg (by omega), if_neg (by omega), if_pos h, if_neg (by omega), if_neg (by omega), if_neg (by omega), if_pos h]
    exact semi (wd (x := [97, 115, 115, 101, 114, 116]) (by decide) (by decide) (hlist (by omega)))
  · rw [if_neg (by omega), if_neg (by omega), if_neg (by omega), if_neg (by omega), if_pos h, if_neg (by omega), if_neg (by omega), if_neg (by omega), if_neg (by omega), if_pos h]
    have hb := (num_bounds hl).2 h
    exact semi (wd (x := [114, 101, 116, 114, 97, 99, 116]) (by decide) (by decide) (fun r hr => itoa_lex (by omega) hb.2 hr))
  · rw [if_neg (by omega), if_neg (by omega), if_neg (by omega), if_neg (by omega), if_neg (by omega), if_pos h, if_neg (by omega), if_neg (by omega), if_neg (by omega), if_neg (by omega), if_neg (by omega), if_pos h]
    exact semi (wd (x := [115, 97, 121]) (by decide) (by decide) hrow)
  · rw [if_neg (by omega), if_neg (by omega), if_neg (by omega), if_neg (by omega), if_neg (by omega), if_neg (by omega), if_pos h, if_neg (by omega), if_neg (by omega), if_neg (by omega), if_neg (by omega), if_neg (by omega), if_neg (by omega), if_pos h]
    refine semi fun r hr => ?_
    have h1 := Lx.name (x := [104, 97, 108, 116]) (by decide) hr
    rw [show wordB [104, 97, 108, 116] = true by decide] at h1
    exact h1
theorem parts_lex {d : Nat} : ∀ (l : List Tree), (∀ x ∈ l, okF (d + 1) x = true ∧ PartOk d x) → ∀ r, Lx (partsS d l) (partsT d l) r := by
  intro l
  induction l with
  | nil => intro _ r; exact Lx.nil r
  | cons x l ih =>
    intro h r
    have h1 := ih (fun y hy => h y (List.mem_cons_of_mem _ hy)) r
    exact (part_lex (h x (by simp)).1 (h x (by simp)).2 _).app h1
theorem rule_lex {d : Nat} {T : Tree} (hk : okF (d + 2) T = true) (h4 : T.kind = 4) (hp : RuleOk' d T) (r : List UInt8) : Lx (ruleS d T) (ruleTk d T) r := by
  have hl := okF_level hk
  have hparts : ∀ x ∈ T.kids, okF (d + 1) x = true ∧ PartOk d x := fun x hx => ⟨okF_kid hk hx, hp.1 x hx⟩
  have hc := parts_lex (d := d) (T.kids.takeWhile condB) (fun x hx => hparts x ((List.takeWhile_sublist condB).subset hx))
  have ha := parts_lex (d := d) (T.kids.dropWhile condB) (fun x hx => hparts x ((List.dropWhile_sublist condB).subset hx))
  unfold ruleS ruleTk
  have e1 : Lx [125, 10] [sgT 125] r := by
    have h1 := (Lx.lone (c := 125) (by decide) ([10] ++ r)).app (b := [10]) (kb := []) (Lx.blank (by decide) r)
    simpa [sgT] using h1
  have e2 := (ha ([125, 10] ++ r)).app e1
  have e3 : Lx [61, 62, 32] [(6, mkB [61, 62])] (partsS d (T.kids.dropWhile condB) ++ [125, 10] ++ r) := by
    have h1 := Lx.sign_gap (g := mkB [61, 62]) (b := 32) (r := partsS d (T.kids.dropWhile condB) ++ [125, 10] ++ r) (by unfold signsL; exact List.mem_cons_self) gap32
    exact Lx.then_sp (r := partsS d (T.kids.dropWhile condB) ++ [125, 10] ++ r) h1
  have e4 := (hc ([61, 62, 32] ++ (partsS d (T.kids.dropWhile condB) ++ [125, 10]) ++ r)).app (by simpa using e3.app (by simpa using e2))
  have e5 : ∀ q, Lx [32, 123, 32] [sgT 123] q := fun q => by
    have h1 := (Lx.sp ([123, 32] ++ q)).app (a := [32]) (b := [123, 32]) (kb := [sgT 123]) (r := q) (by
      have h2 := (Lx.lone (c := 123) (by decide) ([32] ++ q)).app (b := [32]) (kb := []) (Lx.sp q)
      simpa [sgT] using h2)
    simpa using h1
  have e6 := (e5 _).app (by simpa using e4)
  have hsal : ∀ q, Lx (salS T.num) (salT T.num) ([32] ++ q) := fun q => by
    unfold salS salT
    split
    · exact Lx.nil _
    · have hb := (num_bounds hl).1 h4
      have h1 := (Lx.sp _).app ((word_lex (x := [115, 97, 108, 105, 101, 110, 99, 101]) (by decide) (by decide) (Lib.itoa T.num ++ ([32] ++ q))).app (itoa_lex hb.1 hb.2 (stop32 q)))
      simpa using h1
  have e6' : Lx ([32] ++ ([123, 32] ++ (partsS d (T.kids.takeWhile condB) ++ ([61, 62, 32] ++ (partsS d (T.kids.dropWhile condB) ++ [125, 10]))))) ([sgT 123] ++ (partsT d (T.kids.takeWhile condB) ++ ([(6, mkB [61, 62])] ++ (partsT d (T.kids.dropWhile condB) ++ [sgT 125])))) r := by simpa using e6
  have hs := hsal ([123, 32] ++ (partsS d (T.kids.takeWhile condB) ++ ([61, 62, 32] ++ (partsS d (T.kids.dropWhile condB) ++ [125, 10]))) ++ r)
  rw [show ∀ X : List UInt8, [32] ++ ([123, 32] ++ X ++ r) = [32] ++ ([123, 32] ++ X) ++ r from fun X => by simp] at hs
  have e7 := hs.app e6'
  have hst : Stop (salS T.num ++ ([32] ++ ([123, 32] ++ (partsS d (T.kids.takeWhile condB) ++ ([61, 62, 32] ++ (partsS d (T.kids.dropWhile condB) ++ [125, 10]))))) ++ r) := by
    unfold salS
    split
    · exact Stop.cons on32.1 _
    · exact Stop.cons on32.1 _
  have e8 := (word_lex (x := [114, 117, 108, 101]) (by decide) (by decide) _).app ((Lx.nameOf hl (by omega) hst).app e7)
  simpa using e8
theorem decl_lex {d : Nat} {T : Tree} (hk : okF (d + 2) T = true) (hd : DeclOk' d T) (r : List UInt8) : Lx (declS d T) (declT d T) r := by
  have hl := okF_level hk
  unfold declS declT
  rcases hd with ⟨h4, hp⟩ | h2
  · rw [if_pos h4, if_pos h4]
    exact rule_lex hk h4 hp r
  · rw [if_neg (by omega), if_neg (by omega)]
    have hkid : ∀ x ∈ T.kids, ∀ r, Stop r → Lx (txL x) (fieldT x) r := fun x hx r hr => by
      have hx3 : x.kind = 3 := by
        have := (level_parts hl).2.2.2.2
        rw [h2] at this
        have h3 := among_mem (show among [3] T.kids = true from this) hx
        simpa using h3
      exact Lx.nameOf (okF_level (okF_kid hk hx)) (by omega) hr
    have h1 : Lx [59, 10] [sgT 59] r := by
      have h1 := (Lx.lone (c := 59) (by decide) ([10] ++ r)).app (b := [10]) (kb := []) (Lx.blank (by decide) r)
      simpa [sgT] using h1
    have h3 := (list_lex (f := txL) (g := fieldT) hl (by omega) hkid ([59, 10] ++ r)).app h1
    exact (word_lex (x := [102, 97, 99, 116]) (by decide) (by decide) _).app h3
theorem decls_lex {d : Nat} : ∀ (l : List Tree), (∀ x ∈ l, okF (d + 2) x = true ∧ DeclOk' d x) → ∀ r, Lx (declsS d l) (declsT d l) r := by
  intro l
  induction l with
  | nil => intro _ r; exact Lx.nil r
  | cons x l ih =>
    intro h r
    have h1 := ih (fun y hy => h y (List.mem_cons_of_mem _ hy)) r
    exact (decl_lex (h x (by simp)).1 (h x (by simp)).2 _).app h1
/-- A TREE's TEXT, scanned -/
theorem prog_lex {d : Nat} {T : Tree} (h : ∀ x ∈ T.kids, okF (d + 2) x = true ∧ DeclOk' d x) {S : ByteArray} (hS : S.data.toList = progS d T) : (toksFrom S 0).2 = none ∧ (toksFrom S 0).1.map ktOf = declsT d T.kids := by
  obtain ⟨h1, h2, h3, h4⟩ := decls_lex T.kids h [] S 0 (by rw [List.drop_zero, hS, List.append_nil]; rfl) (Nat.zero_le _)
  have he : S.size ≤ 0 + (declsS d T.kids).length := by
    have : S.size = S.data.toList.length := by simp
    rw [this, hS]
    show _ ≤ 0 + (progS d T).length
    omega
  rw [toks_done S _ he] at h1 h2
  exact ⟨h2, by rw [h1]; simp⟩
end Go.Proofs.YtineejjdbjdliaaGreatDoor
