/- Several texts joined, each with its own sentence and conditions ahead of it: CutA, SimA, RightA, SlimP, JoinA. -/
import Derived.Test.YtgifapamogbkeaaDoorMDD
import Derived.Test.YtgifapamogbkeaaDoorMX
import Derived.Test.YtgifapamogbkeaaDoorME
/- Texts within texts, texts that are cut: their tokens, with no program in sight. No condition. -/
namespace Go.Proofs.YtgifapamogbkeaaDoor
open Go.RowKit

/-! ### A token, as a function of the bytes that are left -/
def mkB (l : List UInt8) : ByteArray := ⟨l.toArray⟩
/-- THE TOKEN at the head of what is left: kind, text, an error, how long -/
def tokL (l : List UInt8) : Nat × ByteArray × Nat × Nat :=
  match l with
  | [] => (0, ⟨#[]⟩, 200, 0)
  | c :: r =>
    if isLow c then (if wordB (l.takeWhile isOn) then 1 else 2, mkB (l.takeWhile isOn), if (l.takeWhile isOn).length ≤ 24 then 0 else 201, (l.takeWhile isOn).length)
    else if c == 63 || c == 39 then (if c == 39 then 5 else 3, mkB (r.takeWhile isOn), if namedB (r.takeWhile isOn) then 0 else 201, (r.takeWhile isOn).length + 1)
    else if isDig c then (4, mkB (l.takeWhile isDig), if (number (l.takeWhile isDig)).isSome && !((l.dropWhile isDig).head?.any isOn) then 0 else 201, (l.takeWhile isDig).length)
    else match signsL.find? (fun g => Lib.hasPrefix l g.data.toList) with
      | some g => (6, g, 0, g.size)
      | none => (0, ⟨#[]⟩, 200, 0)
theorem ext_while (f : UInt8 → Bool) (s : ByteArray) (k : Nat) : (s.extract k (scanTo f s k)).data.toList = (s.data.toList.drop k).takeWhile f := by
  rw [ext_data]
  unfold scanTo
  rw [Nat.add_sub_cancel_left]
  exact (List.prefix_iff_eq_take.1 (List.takeWhile_prefix f)).symm
theorem ext_mk (f : UInt8 → Bool) (s : ByteArray) (k : Nat) : s.extract k (scanTo f s k) = mkB ((s.data.toList.drop k).takeWhile f) := by
  apply bytes_ext
  rw [ext_while]; rfl
theorem drop_len_while (f : UInt8 → Bool) : ∀ (l : List UInt8), l.drop (l.takeWhile f).length = l.dropWhile f := by
  intro l
  induction l with
  | nil => rfl
  | cons c r ih =>
    rw [List.takeWhile_cons, List.dropWhile_cons]
    split
    · exact ih
    · rfl
theorem drop_while (f : UInt8 → Bool) (s : ByteArray) (k : Nat) : s.data.toList.drop (scanTo f s k) = (s.data.toList.drop k).dropWhile f := by
  unfold scanTo
  rw [← List.drop_drop]
  exact drop_len_while f _
theorem tokenAt_list (s : ByteArray) (k : Nat) (h : k < s.size) : tokenAt s k s[k] = ((tokL (s.data.toList.drop k)).1, (tokL (s.data.toList.drop k)).2.1, (tokL (s.data.toList.drop k)).2.2.1, k + (tokL (s.data.toList.drop k)).2.2.2) := by
  have hd := drop_cons s k h
  have hl : ∀ f, scanTo f s k = k + ((s.data.toList.drop k).takeWhile f).length := fun f => rfl
  unfold tokenAt
  rw [ext_mk, ext_mk, ext_mk, drop_while]
  rw [hd] at hl ⊢
  unfold tokL
  dsimp only
  by_cases h1 : isLow s[k] = true
  · rw [if_pos h1, if_pos h1, hl, Nat.add_sub_cancel_left]; rfl
  · rw [if_neg h1, if_neg h1]
    by_cases h2 : (s[k] == 63 || s[k] == 39) = true
    · rw [if_pos h2, if_pos h2]
      have : scanTo isOn s (k + 1) = k + ((s.data.toList.drop (k + 1)).takeWhile isOn).length + 1 := by unfold scanTo; omega
      rw [this]; rfl
    · rw [if_neg h2, if_neg h2]
      by_cases h3 : isDig s[k] = true
      · rw [if_pos h3, if_pos h3, hl]; rfl
      · rw [if_neg h3, if_neg h3]
        cases signsL.find? (fun g => Lib.hasPrefix (s[k] :: s.data.toList.drop (k + 1)) g.data.toList) <;> rfl
/-- what is left behind blanks and comments; b: within a comment -/
def skS : Bool → List UInt8 → List UInt8
  | _, [] => []
  | true, c :: r => if c = 10 then skS false r else skS true r
  | false, c :: r => if blankB c then skS false r else if c = 35 then skS true r else c :: r
theorem skS_note : ∀ (l : List UInt8), skS true l = skS false (l.dropWhile (· != 10)) := by
  intro l
  induction l with
  | nil => rfl
  | cons c r ih =>
    rw [List.dropWhile_cons]
    by_cases h : c = 10
    · subst h; rfl
    · have h1 : (c != 10) = true := by simpa using h
      rw [if_pos h1, ← ih]
      show (if c = 10 then _ else _) = _
      rw [if_neg h]
theorem skip_list (s : ByteArray) : ∀ (n k : Nat), s.size - k ≤ n → s.data.toList.drop (skip s k) = skS false (s.data.toList.drop k) := by
  intro n
  induction n with
  | zero => intro k h; rw [skip_end s k (by omega), drop_end s k (by omega)]; rfl
  | succ n ih =>
    intro k h
    by_cases hk : k < s.size
    · rw [drop_cons s k hk]
      by_cases hb : blankB s[k] = true
      · rw [skip_blank s k hk hb, ih (k + 1) (by omega)]
        show _ = if blankB s[k] = true then _ else _
        rw [if_pos hb]
      · by_cases hc : s[k] = 35
        · have h1 := scan_hash s k hk hc
          rw [skip_hash s k hk hc, ih _ (by omega), drop_while, drop_cons s k hk, hc]
          show _ = skS true (s.data.toList.drop (k + 1))
          rw [skS_note, List.dropWhile_cons, if_pos (by decide)]
        · rw [skip_stop s k hk (by simpa using hb) (by simpa using hc), drop_cons s k hk]
          show _ = if blankB s[k] = true then _ else if s[k] = 35 then _ else _
          rw [if_neg hb, if_neg hc]
    · rw [skip_end s k (by omega), drop_end s k (by omega)]; rfl
theorem skip_len (s : ByteArray) (k : Nat) (h : k ≤ s.size) : skip s k + (skS false (s.data.toList.drop k)).length = s.size := by
  rw [← skip_list s _ k (Nat.le_refl _), List.length_drop]
  have := skip_le s _ k (Nat.le_refl _) h
  have e : s.data.toList.length = s.size := by simp
  omega
theorem skS_len : ∀ (b : Bool) (l : List UInt8), (skS b l).length ≤ l.length := by
  intro b l
  induction l generalizing b with
  | nil => cases b <;> exact Nat.le_refl _
  | cons c r ih =>
    cases b
    · show (if blankB c = true then _ else if c = 35 then _ else _ : List UInt8).length ≤ _
      split
      · exact Nat.le_trans (ih _) (Nat.le_succ _)
      · split
        · exact Nat.le_trans (ih _) (Nat.le_succ _)
        · exact Nat.le_refl _
    · show (if c = 10 then _ else _ : List UInt8).length ≤ _
      split
      · exact Nat.le_trans (ih _) (Nat.le_succ _)
      · exact Nat.le_trans (ih _) (Nat.le_succ _)
theorem skS_plain (c : UInt8) (r : List UInt8) : skS false (c :: r) = if blankB c then skS false r else if c = 35 then skS true r else c :: r := rfl
theorem skS_in (c : UInt8) (r : List UInt8) : skS true (c :: r) = if c = 10 then skS false r else skS true r := rfl
/-- blanks and comments of two texts, one behind the other -/
theorem skS_append : ∀ (b : Bool) (a t : List UInt8), (skS b a ≠ [] ∧ skS b (a ++ t) = skS b a ++ t) ∨ (skS b a = [] ∧ ∃ b', skS b (a ++ t) = skS b' t) := by
  intro b a t
  induction a generalizing b with
  | nil => right; exact ⟨by cases b <;> rfl, b, rfl⟩
  | cons c r ih =>
    rw [List.cons_append]
    cases b
    · rw [skS_plain, skS_plain]
      by_cases h1 : blankB c = true
      · rw [if_pos h1, if_pos h1]; exact ih false
      · by_cases h2 : c = 35
        · rw [if_neg h1, if_neg h1, if_pos h2, if_pos h2]; exact ih true
        · rw [if_neg h1, if_neg h1, if_neg h2, if_neg h2]
          left
          exact ⟨by simp, rfl⟩
    · rw [skS_in, skS_in]
      by_cases h1 : c = 10
      · rw [if_pos h1, if_pos h1]; exact ih false
      · rw [if_neg h1, if_neg h1]; exact ih true
/-- what ends a line, or nothing -/
def LineEnd (t : List UInt8) : Prop := t = [] ∨ ∃ r, t = 10 :: r
theorem skS_line (b : Bool) {t : List UInt8} (h : LineEnd t) : skS b t = skS false t := by
  rcases h with rfl | ⟨r, rfl⟩
  · cases b <;> rfl
  · cases b <;> rfl
/-- a blank or what ends a line, or nothing -/
def GapEnd (t : List UInt8) : Prop := t = [] ∨ ∃ c r, t = c :: r ∧ (c = 10 ∨ c = 32)
theorem LineEnd.gap {t : List UInt8} (h : LineEnd t) : GapEnd t := by
  rcases h with h | ⟨r, h⟩
  · exact Or.inl h
  · exact Or.inr ⟨10, r, h, Or.inl rfl⟩
theorem while_line (f : UInt8 → Bool) (hf : f 10 = false ∧ f 32 = false) (x : List UInt8) {t : List UInt8} (h : GapEnd t) : (x ++ t).takeWhile f = x.takeWhile f := by
  induction x with
  | nil =>
    rcases h with rfl | ⟨c, r, rfl, rfl | rfl⟩
    · rfl
    · simp [hf.1]
    · simp [hf.2]
  | cons c r ih => rw [List.cons_append, List.takeWhile_cons, List.takeWhile_cons, ih]
theorem dropw_line (f : UInt8 → Bool) (hf : f 10 = false ∧ f 32 = false) (x : List UInt8) {t : List UInt8} (h : GapEnd t) : (x ++ t).dropWhile f = x.dropWhile f ++ t := by
  induction x with
  | nil =>
    rcases h with rfl | ⟨c, r, rfl, rfl | rfl⟩
    · rfl
    · simp [hf.1]
    · simp [hf.2]
  | cons c r ih =>
    rw [List.cons_append, List.dropWhile_cons, List.dropWhile_cons, ih]
    split <;> rfl
theorem sign_line (g : ByteArray) (hg : g ∈ signsL) (x : List UInt8) {t : List UInt8} (h : GapEnd t) : Lib.hasPrefix (x ++ t) g.data.toList = Lib.hasPrefix x g.data.toList := by
  have hn : signsL.all (fun g => g.data.toList.all (fun c => c != 10 && c != 32)) = true := by rfl
  have := List.all_eq_true.1 hn g hg
  generalize g.data.toList = q at *
  clear hn hg
  unfold Lib.hasPrefix
  induction q generalizing x with
  | nil => simp
  | cons c q ih =>
    simp only [List.all_cons, Bool.and_eq_true] at this
    cases x with
    | nil =>
      rcases h with rfl | ⟨b, r, rfl, rfl | rfl⟩
      · rfl
      · have : (c == 10) = false := by simpa using this.1.1
        simp [List.isPrefixOf, this]
      · have : (c == 32) = false := by simpa using this.1.2
        simp [List.isPrefixOf, this]
    | cons y x =>
      simp only [List.cons_append, List.isPrefixOf]
      rw [ih x this.2]
theorem find_congr {p q : ByteArray → Bool} : ∀ (l : List ByteArray), (∀ g ∈ l, p g = q g) → l.find? p = l.find? q := by
  intro l
  induction l with
  | nil => intro _; rfl
  | cons a r ih =>
    intro h
    rw [List.find?_cons, List.find?_cons, h a (List.mem_cons_self ..), ih (fun g hg => h g (List.mem_cons_of_mem _ hg))]
/-- a token that a blank or a line's end stands behind, or nothing, is the one that it is alone -/
theorem tokL_line {x : List UInt8} (hx : x ≠ []) {t : List UInt8} (h : GapEnd t) : tokL (x ++ t) = tokL x := by
  obtain ⟨c, r, rfl⟩ := List.exists_cons_of_ne_nil hx
  have e1 := while_line isOn (by decide) (c :: r) h
  have e2 := while_line isOn (by decide) r h
  have e3 := while_line isDig (by decide) (c :: r) h
  have e4 := dropw_line isDig (by decide) (c :: r) h
  have e5 : (((c :: r).dropWhile isDig ++ t).head?.any isOn) = (((c :: r).dropWhile isDig).head?.any isOn) := by
    cases (c :: r).dropWhile isDig with
    | nil =>
      rcases h with rfl | ⟨b, q, rfl, rfl | rfl⟩
      · rfl
      · rfl
      · rfl
    | cons _ _ => rfl
  have e6 := find_congr signsL (fun g hg => sign_line g hg (c :: r) h)
  rw [List.cons_append] at *
  unfold tokL
  dsimp only
  rw [e1, e2, e3, e4, e5, e6]
theorem tokL_len {x : List UInt8} : (tokL x).2.2.2 ≤ x.length ∨ (tokL x).2.2.1 ≠ 0 := by
  cases x with
  | nil => exact Or.inl (Nat.le_refl _)
  | cons c r =>
    have w1 := fun f => (List.takeWhile_prefix (l := c :: r) f).length_le
    have w2 := (List.takeWhile_prefix (l := r) isOn).length_le
    left
    unfold tokL
    dsimp only
    split
    · exact w1 _
    · split
      · simp only [List.length_cons]; omega
      · split
        · exact w1 _
        · split
          · rename_i g hg
            have := List.find?_some hg
            unfold Lib.hasPrefix at this
            have := (List.isPrefixOf_iff_prefix.1 this).length_le
            simpa using this
          · exact Nat.zero_le _
def shTk (o : Nat) (t : Tok) : Tok := (t.1, t.2.1, t.2.2 + o)
/-- THE TOKENS of a text that stands within another: with a line's end behind it, or nothing -/
theorem toks_in (X a : ByteArray) (o : Nat) (t : List UInt8) (h : X.data.toList.drop o = a.data.toList ++ t) (ht : LineEnd t) (ho : o ≤ X.size) : ∀ (n p : Nat), a.size - p ≤ n → p ≤ a.size →
    ((toksFrom a p).2 = none → toksFrom X (o + p) = ((toksFrom a p).1.map (shTk o) ++ (toksFrom X (o + a.size)).1, (toksFrom X (o + a.size)).2)) ∧
    (∀ er pl, (toksFrom a p).2 = some (er, pl) → (toksFrom X (o + p)).2 = some (er, pl + o)) := by
  have hal : a.data.toList.length = a.size := by simp
  have hXl : X.data.toList.length = X.size := by simp
  have hszX : o + a.size + t.length = X.size := by
    have := congrArg List.length h
    rw [List.length_drop, List.length_append, hal, hXl] at this
    omega
  have hdrop : ∀ p, p ≤ a.size → X.data.toList.drop (o + p) = a.data.toList.drop p ++ t := fun p hp => by
    rw [← List.drop_drop, h, List.drop_append_of_le_length (by omega)]
  intro n
  induction n with
  | zero =>
    intro p hn hp
    obtain rfl : p = a.size := by omega
    rw [toksFrom_end a a.size (by rw [skip_end a _ (Nat.le_refl _)]; omega)]
    exact ⟨fun _ => rfl, fun er pl h => by cases h⟩
  | succ n ih =>
    intro p hn hp
    have hd := hdrop p hp
    have hs1 := skip_len a p hp
    have hge := skip_ge a _ p (Nat.le_refl _)
    have hoX : o + p ≤ X.size := by omega
    have hs2 := skip_len X (o + p) hoX
    rw [hd] at hs2
    rcases skS_append false (a.data.toList.drop p) t with ⟨h1, h2⟩ | ⟨h1, b', h2⟩
    · -- a token
      rw [h2, List.length_append] at hs2
      have hlen : 0 < (skS false (a.data.toList.drop p)).length := List.length_pos_iff.2 h1
      have hka : skip a p < a.size := by omega
      have hkX : skip X (o + p) = o + skip a p := by omega
      have hkX' : skip X (o + p) = skip a p + o := by omega
      have hka' : skip X (o + p) < X.size := by omega
      have hda := skip_list a _ p (Nat.le_refl _)
      have htk : tokenAt X (skip X (o + p)) X[skip X (o + p)] = ((tokenAt a (skip a p) a[skip a p]).1, (tokenAt a (skip a p) a[skip a p]).2.1, (tokenAt a (skip a p) a[skip a p]).2.2.1, o + (tokenAt a (skip a p) a[skip a p]).2.2.2) := by
        rw [tokenAt_list X _ hka', tokenAt_list a _ hka, hkX, hdrop (skip a p) (by omega), tokL_line (by rw [hda]; exact h1) ht.gap, Nat.add_assoc]
      by_cases h0 : (tokenAt a (skip a p) a[skip a p]).2.2.1 = 0
      · obtain ⟨n1, n2⟩ := tokenAt_next a (skip a p) hka h0
        obtain ⟨i1, i2⟩ := ih (tokenAt a (skip a p) a[skip a p]).2.2.2 (by omega) n2
        rw [toksFrom_ok a p hka h0, toksFrom_ok X (o + p) hka' (by rw [htk]; exact h0)]
        simp only [htk]
        refine ⟨fun hn => ?_, fun er pl hn => ?_⟩
        · rw [i1 hn]
          simp only [List.map_cons, List.cons_append, shTk, hkX']
        · exact i2 er pl hn
      · rw [toksFrom_bad a p hka h0, toksFrom_bad X (o + p) hka' (by rw [htk]; exact h0)]
        refine ⟨fun hn => (by cases hn), fun er pl hn => ?_⟩
        simp only [Option.some.injEq, Prod.mk.injEq] at hn
        obtain ⟨rfl, rfl⟩ := hn
        show some ((tokenAt X (skip X (o + p)) X[skip X (o + p)]).2.2.1, skip X (o + p)) = _
        rw [htk, hkX']
    · -- no more
      rw [h1] at hs1
      rw [toksFrom_end a p (by simp only [List.length_nil] at hs1; omega)]
      refine ⟨fun _ => ?_, fun er pl h => by cases h⟩
      have hoa : o + a.size ≤ X.size := by omega
      have hs3 := skip_len X (o + a.size) hoa
      rw [hdrop a.size (Nat.le_refl _), List.drop_eq_nil_of_le (by omega), List.nil_append, ← skS_line b' ht, ← h2] at hs3
      have : skip X (o + p) = skip X (o + a.size) := by omega
      rw [← toksFrom_skip X (o + p), this, toksFrom_skip]
      rfl
/-! ### A text that is cut where a token begins -/
theorem while_cut (f : UInt8 → Bool) : ∀ (z y : List UInt8), ((z ++ y).takeWhile f).length ≤ z.length → (z ++ y).takeWhile f = z.takeWhile f ∧ (z ++ y).dropWhile f = z.dropWhile f ++ y := by
  intro z
  induction z with
  | nil =>
    intro y h
    have h1 : (y.takeWhile f) = [] := List.eq_nil_of_length_eq_zero (by simpa using h)
    have h2 := List.takeWhile_append_dropWhile (p := f) (l := y)
    rw [h1, List.nil_append] at h2
    exact ⟨h1, h2⟩
  | cons c z ih =>
    intro y h
    rw [List.cons_append, List.takeWhile_cons] at h
    rw [List.cons_append, List.takeWhile_cons, List.takeWhile_cons, List.dropWhile_cons, List.dropWhile_cons]
    by_cases hc : f c = true
    · rw [if_pos hc] at h
      simp only [List.length_cons] at h
      obtain ⟨i1, i2⟩ := ih y (by omega)
      rw [if_pos hc, if_pos hc, if_pos hc, if_pos hc, i1, i2]
      exact ⟨rfl, rfl⟩
    · rw [if_neg hc, if_neg hc, if_neg hc, if_neg hc]
      exact ⟨rfl, rfl⟩
theorem prefix_cut (g z y : List UInt8) (h : g.length ≤ z.length) : Lib.hasPrefix (z ++ y) g = Lib.hasPrefix z g := by
  unfold Lib.hasPrefix
  induction g generalizing z with
  | nil => simp
  | cons c g ih =>
    cases z with
    | nil => simp at h
    | cons b z =>
      simp only [List.length_cons] at h
      simp only [List.cons_append, List.isPrefixOf]
      rw [ih z (by omega)]
theorem prefix_long (g z : List UInt8) (h : z.length < g.length) : Lib.hasPrefix z g = false := by
  cases hx : Lib.hasPrefix z g
  · rfl
  · unfold Lib.hasPrefix at hx
    have := (List.isPrefixOf_iff_prefix.1 hx).length_le
    omega
theorem find_cut : ∀ (l : List ByteArray) (z y : List UInt8) (g : ByteArray), l.find? (fun g => Lib.hasPrefix (z ++ y) g.data.toList) = some g → g.size ≤ z.length → l.find? (fun g => Lib.hasPrefix z g.data.toList) = some g := by
  intro l
  induction l with
  | nil => intro z y g h; cases h
  | cons a l ih =>
    intro z y g h hg
    have hsz : ∀ x : ByteArray, x.data.toList.length = x.size := fun x => by simp
    rw [List.find?_cons] at h ⊢
    rcases Nat.lt_or_ge z.length a.data.toList.length with hl | hl
    · rw [prefix_long _ _ hl]
      cases ha : Lib.hasPrefix (z ++ y) a.data.toList with
      | true =>
        rw [ha] at h
        injection h with h
        subst h
        rw [hsz] at hl; omega
      | false =>
        rw [ha] at h
        exact ih z y g h hg
    · rw [prefix_cut _ z y hl] at h
      cases ha : Lib.hasPrefix z a.data.toList with
      | true => rw [ha] at h; exact h
      | false => rw [ha] at h; exact ih z y g h hg
/-- a token that ends where the text is cut, or ahead of it, is the one that it is -/
theorem tokL_cut {z y : List UInt8} (hz : z ≠ []) (h0 : (tokL (z ++ y)).2.2.1 = 0) (hn : (tokL (z ++ y)).2.2.2 ≤ z.length) : tokL z = tokL (z ++ y) := by
  obtain ⟨c, r, rfl⟩ := List.exists_cons_of_ne_nil hz
  rw [List.cons_append] at h0 hn ⊢
  unfold tokL at h0 hn ⊢
  dsimp only at h0 hn ⊢
  by_cases h1 : isLow c = true
  · rw [if_pos h1] at hn
    rw [if_pos h1, if_pos h1]
    have := while_cut isOn (c :: r) y hn
    rw [List.cons_append] at this
    rw [this.1]
  · rw [if_neg h1] at h0 hn
    rw [if_neg h1, if_neg h1]
    by_cases h2 : (c == 63 || c == 39) = true
    · rw [if_pos h2] at hn
      rw [if_pos h2, if_pos h2]
      have := while_cut isOn r y (by simpa using hn)
      rw [this.1]
    · rw [if_neg h2] at h0 hn
      rw [if_neg h2, if_neg h2]
      by_cases h3 : isDig c = true
      · rw [if_pos h3] at h0 hn
        rw [if_pos h3, if_pos h3]
        have hw := while_cut isDig (c :: r) y hn
        rw [List.cons_append] at hw
        dsimp only at h0
        rw [hw.1, hw.2] at h0 ⊢
        have hx : ((number ((c :: r).takeWhile isDig)).isSome && !(((c :: r).dropWhile isDig ++ y).head?.any isOn)) = true := by
          cases hh : ((number ((c :: r).takeWhile isDig)).isSome && !(((c :: r).dropWhile isDig ++ y).head?.any isOn))
          · rw [hh] at h0; cases h0
          · rfl
        have hy : ((number ((c :: r).takeWhile isDig)).isSome && !(((c :: r).dropWhile isDig).head?.any isOn)) = true := by
          cases hh : (c :: r).dropWhile isDig with
          | nil => rw [hh] at hx; simp at hx ⊢; exact hx.1
          | cons a b => rw [hh] at hx; simpa using hx
        rw [hx, hy]
      · rw [if_neg h3] at h0 hn
        rw [if_neg h3, if_neg h3]
        cases hf : signsL.find? (fun g => Lib.hasPrefix (c :: (r ++ y)) g.data.toList) with
        | none => rw [hf] at h0; simp at h0
        | some g =>
          rw [hf] at hn
          have := find_cut signsL (c :: r) y g (by rw [List.cons_append]; exact hf) hn
          rw [this]
theorem drop_ext (s : ByteArray) (e p : Nat) (hp : p ≤ e) (he : e ≤ s.size) : s.data.toList.drop p = (s.extract 0 e).data.toList.drop p ++ s.data.toList.drop e := by
  rw [ext_data, List.drop_zero, Nat.sub_zero]
  have hl : s.data.toList.length = s.size := by simp
  conv => lhs; rw [← List.take_append_drop e s.data.toList]
  rw [List.drop_append_of_le_length (by rw [List.length_take]; omega)]
theorem toks_from_ge (s : ByteArray) : ∀ (n p : Nat), s.size - p ≤ n → ∀ t ∈ (toksFrom s p).1, p ≤ t.2.2 := by
  intro n
  induction n with
  | zero =>
    intro p h t ht
    rw [toksFrom_end s p (by rw [skip_end s p (by omega)]; omega)] at ht
    cases ht
  | succ n ih =>
    intro p h t ht
    have hge := skip_ge s _ p (Nat.le_refl _)
    by_cases hk : skip s p < s.size
    · by_cases h0 : (tokenAt s (skip s p) s[skip s p]).2.2.1 = 0
      · obtain ⟨n1, n2⟩ := tokenAt_next s (skip s p) hk h0
        rw [toksFrom_ok s p hk h0] at ht
        rcases List.mem_cons.1 ht with rfl | ht
        · exact hge
        · have := ih _ (by omega) t ht; omega
      · rw [toksFrom_bad s p hk h0] at ht; cases ht
    · rw [toksFrom_end s p hk] at ht; cases ht
/-- THE TOKENS of a source that is cut where one of them begins: those ahead of it -/
theorem toks_cut (s : ByteArray) (e : Nat) (he : e < s.size) : ∀ (n p : Nat), s.size - p ≤ n → p ≤ e → (toksFrom s p).2 = none → (∃ t ∈ (toksFrom s p).1, t.2.2 = e) →
    ∃ L R, (toksFrom s p).1 = L ++ R ∧ toksFrom (s.extract 0 e) p = (L, none) ∧ (∀ t ∈ L, t.2.2 < e) ∧ ∃ t r, R = t :: r ∧ t.2.2 = e := by
  have hsx : (s.extract 0 e).size = e := by rw [ext_size s 0 e (by omega)]; omega
  have hye : (s.data.toList.drop e).length = s.size - e := by simp
  intro n
  induction n with
  | zero => intro p hn hp; omega
  | succ n ih =>
    intro p hn hp h2 hex
    have hd := drop_ext s e p hp (by omega)
    have hs1 := skip_len s p (by omega)
    have hs2 := skip_len (s.extract 0 e) p (by rw [hsx]; exact hp)
    have hge := skip_ge s _ p (Nat.le_refl _)
    rw [hsx] at hs2
    rw [hd] at hs1
    have hks : skip s p < s.size := by
      rcases Nat.lt_or_ge (skip s p) s.size with h | h
      · exact h
      · rw [toksFrom_end s p (by omega)] at hex
        obtain ⟨t, ht, _⟩ := hex
        cases ht
    have hok : (tokenAt s (skip s p) s[skip s p]).2.2.1 = 0 := by
      by_cases h0 : (tokenAt s (skip s p) s[skip s p]).2.2.1 = 0
      · exact h0
      · rw [toksFrom_bad s p hks h0] at h2; cases h2
    obtain ⟨n1, n2⟩ := tokenAt_next s (skip s p) hks hok
    have hto := toksFrom_ok s p hks hok
    have hplaces : ∀ t ∈ (toksFrom s (tokenAt s (skip s p) s[skip s p]).2.2.2).1, (tokenAt s (skip s p) s[skip s p]).2.2.2 ≤ t.2.2 := toks_from_ge s _ _ (Nat.le_refl _)
    have htk := tokenAt_list s (skip s p) hks
    have hsl := skip_list s _ p (Nat.le_refl _)
    rw [hd] at hsl
    rcases skS_append false ((s.extract 0 e).data.toList.drop p) (s.data.toList.drop e) with ⟨h1, h3⟩ | ⟨h1, b', h3⟩
    · -- a token ahead of the cut
      rw [h3, List.length_append, hye] at hs1
      have hlen := List.length_pos_iff.2 h1
      have hlt : skip s p < e := by omega
      have hkx : skip (s.extract 0 e) p = skip s p := by omega
      have hkx' : skip (s.extract 0 e) p < (s.extract 0 e).size := by omega
      have hne : (tokenAt s (skip s p) s[skip s p]).2.2.2 ≤ e := by
        rw [hto] at hex
        obtain ⟨t, ht, hte⟩ := hex
        rcases List.mem_cons.1 ht with rfl | ht
        · dsimp only at hte; omega
        · have := hplaces t ht; omega
      rw [h3] at hsl
      rw [hsl] at htk
      have hl0 : (tokL (skS false ((s.extract 0 e).data.toList.drop p) ++ s.data.toList.drop e)).2.2.1 = 0 := by rw [htk] at hok; exact hok
      have hl1 : (tokL (skS false ((s.extract 0 e).data.toList.drop p) ++ s.data.toList.drop e)).2.2.2 ≤ (skS false ((s.extract 0 e).data.toList.drop p)).length := by
        rw [htk] at hne
        dsimp only at hne
        omega
      have hcut := tokL_cut h1 hl0 hl1
      have hslx := skip_list (s.extract 0 e) _ p (Nat.le_refl _)
      have htk2 : tokenAt (s.extract 0 e) (skip (s.extract 0 e) p) (s.extract 0 e)[skip (s.extract 0 e) p] = tokenAt s (skip s p) s[skip s p] := by
        rw [tokenAt_list _ _ hkx', hslx, hcut, htk, hkx]
      rw [hto] at h2 hex
      obtain ⟨L, R, k1, k2, k3, k4⟩ := ih (tokenAt s (skip s p) s[skip s p]).2.2.2 (by omega) hne h2 (by
        obtain ⟨t, ht, hte⟩ := hex
        rcases List.mem_cons.1 ht with rfl | ht
        · dsimp only at hte; omega
        · exact ⟨t, ht, hte⟩)
      refine ⟨((tokenAt s (skip s p) s[skip s p]).1, (tokenAt s (skip s p) s[skip s p]).2.1, skip s p) :: L, R, ?_, ?_, ?_, k4⟩
      · rw [hto, k1]; rfl
      · rw [toksFrom_ok (s.extract 0 e) p hkx' (by rw [htk2]; exact hok)]
        simp only [htk2]
        rw [k2, hkx]
      · intro t ht
        rcases List.mem_cons.1 ht with rfl | ht
        · exact hlt
        · exact k3 t ht
    · -- none
      have hle := skS_len b' (s.data.toList.drop e)
      rw [h3] at hs1
      rw [h1] at hs2
      refine ⟨[], (toksFrom s p).1, rfl, ?_, (fun t ht => by cases ht), ?_⟩
      · rw [toksFrom_end (s.extract 0 e) p (by rw [hsx]; simp only [List.length_nil] at hs2; omega)]
      · rw [hto]
        refine ⟨_, _, rfl, ?_⟩
        rw [hto] at hex
        obtain ⟨t, ht, hte⟩ := hex
        rcases List.mem_cons.1 ht with rfl | ht
        · exact hte
        · have := hplaces t ht; omega
end Go.Proofs.YtgifapamogbkeaaDoor
/- The parser as a plain function of the tokens: a row of tokens that lies within another is read alike, with its places farther on. No condition. -/
namespace Go.Proofs.YtgifapamogbkeaaDoor
open Go.RowKit

/-- a tree, all its places farther on -/
def shT (d : Nat) : Tree → Tree
  | .mk k t n p l => .mk k t n (p + d) (l.map (shT d))
theorem shT_mk (d k : Nat) (t : ByteArray) (n p : Int) (l : List Tree) : shT d (.mk k t n p l) = .mk k t n (p + d) (l.map (shT d)) := by rw [shT]
theorem shT_parts (d : Nat) (T : Tree) : (shT d T).kind = T.kind ∧ (shT d T).text = T.text ∧ (shT d T).num = T.num ∧ (shT d T).place = T.place + d ∧ (shT d T).kids = T.kids.map (shT d) := by
  obtain ⟨k, t, n, p, l⟩ := T
  rw [shT_mk]
  exact ⟨rfl, rfl, rfl, rfl, rfl⟩
def shP (o : Nat) (σ : PS) : PS := (σ.1 + o, σ.2)
/-- what is read there is what is read here, with its places farther on; where all may be there the trees are alike too -/
def SameR (o d : Nat) (r r' : Tree × PS) : Prop := r'.2 = shP o r.2 ∧ (r.2.2 = false → r'.1 = shT d r.1)
def SameL (o d : Nat) (r r' : List Tree × PS) : Prop := r'.2 = shP o r.2 ∧ (r.2.2 = false → r'.1 = r.1.map (shT d))
/-- so many tokens lie in another row too, with their places farther on; e: behind them stands a ; here and a ) there -/
structure Sim (ts us : List Tok) (o d m : Nat) (e : Bool) : Prop where
  tok : ∀ j, j < m → tokM us (j + o) = ((tokM ts j).1, (tokM ts j).2.1, (tokM ts j).2.2 + d)
  on : ∀ j, j < m → (j + 1 < ts.length ↔ j + o + 1 < us.length)
  edge : e = true → (tokM ts m).1 = 6 ∧ (tokM us (m + o)).1 = 6 ∧ (tokM ts m).2.1 = tSemi ∧ (tokM us (m + o)).2.1 = tShut
  len : m ≤ ts.length ∧ m + o ≤ us.length
/-- a place ahead of the end of what both have, or at it with nothing told -/
def InS (m : Nat) (e : Bool) (σ : PS) : Prop := σ.1 < m ∨ (e = true ∧ σ.1 = m ∧ σ.2 = false)
def plainB (texts : List ByteArray) : Bool := !(texts.any (fun s => !s.toList.isEmpty && s.toList == tSemi.toList)) && !(texts.any (fun s => !s.toList.isEmpty && s.toList == tShut.toList))
section
variable {ts us : List Tok} {o d m : Nat} {e : Bool}
theorem InS.back {σ ρ : PS} (h : InS m e ρ) (h1 : σ.1 ≤ ρ.1) (h2 : σ.2 = true → ρ.2 = true) : InS m e σ := by
  rcases h with h | ⟨he, hm, hb⟩
  · exact Or.inl (by omega)
  · rcases Nat.lt_or_ge σ.1 m with h | h
    · exact Or.inl h
    · refine Or.inr ⟨he, by omega, ?_⟩
      cases hs : σ.2
      · rfl
      · rw [h2 hs] at hb; cases hb
theorem Sim.is (S : Sim ts us o d m e) {σ : PS} (h : InS m e σ) {texts : List ByteArray} (hp : e = true → plainB texts = true) : isM us (shP o σ) texts = isM ts σ texts := by
  unfold isM shP
  dsimp only
  rcases h with h | ⟨he, hm, hb⟩
  · rw [S.tok σ.1 h]; rfl
  · obtain ⟨k1, k2, x1, x2⟩ := S.edge he
    have := hp he
    unfold plainB at this
    rw [Bool.and_eq_true, Bool.not_eq_true', Bool.not_eq_true'] at this
    unfold isT
    rw [hm, k1, k2, x1, x2, this.1, this.2]
theorem Sim.is_lt (S : Sim ts us o d m e) {σ : PS} (h : InS m e σ) {texts : List ByteArray} (hp : e = true → plainB texts = true) (hi : isM ts σ texts = true) : σ.1 < m := by
  rcases h with h | ⟨he, hm, hb⟩
  · exact h
  · exfalso
    obtain ⟨k1, k2, x1, x2⟩ := S.edge he
    have := hp he
    unfold plainB at this
    rw [Bool.and_eq_true, Bool.not_eq_true', Bool.not_eq_true'] at this
    unfold isM isT at hi
    rw [hm, x1, this.1] at hi
    simp at hi
theorem Sim.next (S : Sim ts us o d m e) {σ : PS} (h : σ.1 < m) : nextM us (shP o σ) = shP o (nextM ts σ) := by
  unfold nextM shP nextK
  have := S.on σ.1 h
  dsimp only
  by_cases h2 : σ.2 = false ∧ σ.1 + 1 < ts.length
  · rw [if_pos h2, if_pos ⟨h2.1, this.1 h2.2⟩, Nat.add_right_comm]
  · rw [if_neg h2, if_neg (fun h3 => h2 ⟨h3.1, this.2 h3.2⟩)]
theorem Sim.want (S : Sim ts us o d m e) {σ : PS} (h : σ.1 < m) (x : ByteArray) : wantM us (shP o σ) x = shP o (wantM ts σ x) := by
  have h1 := S.next h
  have h2 : isT (tokM us (σ.1 + o)) [x] = isT (tokM ts σ.1) [x] := by rw [S.tok σ.1 h]; rfl
  unfold nextM shP at h1
  injection h1 with h3 _
  unfold wantM wantK wantB skipK shP
  dsimp only at h3 ⊢
  rw [h2]
  split
  · rw [h3]
  · rfl
theorem Sim.of (S : Sim ts us o d m e) {σ : PS} (h : σ.1 < m) (tok kind : Nat) : (ofM us (shP o σ) tok kind).1 = shT d (ofM ts σ tok kind).1 ∧ (ofM us (shP o σ) tok kind).2 = shP o (ofM ts σ tok kind).2 := by
  unfold ofM shP
  dsimp only
  rw [S.tok σ.1 h, shT_mk]
  dsimp only
  refine ⟨by simp, ?_⟩
  have h1 := S.next (σ := (σ.1, σ.2 || (tokM ts σ.1).1 != tok)) h
  unfold nextM shP at h1
  exact h1
theorem Sim.ofR (S : Sim ts us o d m e) {σ : PS} (h : σ.1 < m) (tok kind : Nat) : SameR o d (ofM ts σ tok kind) (ofM us (shP o σ) tok kind) := ⟨(S.of h tok kind).2, fun _ => (S.of h tok kind).1⟩
theorem Sim.tx (S : Sim ts us o d m e) {σ : PS} (h : σ.1 < m) : txM us (shP o σ) = txM ts σ ∧ kdM us (shP o σ) = kdM ts σ ∧ atM us (shP o σ) = atM ts σ + d := by
  unfold txM kdM atM shP
  dsimp only
  rw [S.tok σ.1 h]
  exact ⟨rfl, rfl, by simp⟩
/-- where a ; stands no node of one token is read -/
theorem Sim.of_lt (S : Sim ts us o d m e) {σ : PS} (h : InS m e σ) {tok kind : Nat} (ht : tok ≠ 6) (hr : InS m e (ofM ts σ tok kind).2) : σ.1 < m := by
  rcases h with h | ⟨he, hm, hb⟩
  · exact h
  · exfalso
    obtain ⟨k1, k2, x1, x2⟩ := S.edge he
    have hbad : (ofM ts σ tok kind).2.2 = true := by
      show (σ.2 || (tokM ts σ.1).1 != tok) = true
      rw [hm, k1]
      have : (6 != tok) = true := by simp; omega
      rw [this, Bool.or_true]
    rcases hr with hr | ⟨_, _, hr⟩
    · have := ofM_ge ts σ tok kind; omega
    · rw [hbad] at hr; cases hr
/-- where a ; stands there is no ) -/
theorem Sim.want_lt (S : Sim ts us o d m e) {σ : PS} (h : InS m e σ) (hr : InS m e (wantM ts σ tShut)) : σ.1 < m := by
  rcases h with h | ⟨he, hm, hb⟩
  · exact h
  · exfalso
    obtain ⟨k1, k2, x1, x2⟩ := S.edge he
    have hbad : (wantM ts σ tShut).2 = true := by
      show wantB σ.2 (tokM ts σ.1) tShut = true
      unfold wantB isT
      rw [hm, x1]
      have : ([tShut].any fun s => !s.toList.isEmpty && s.toList == tSemi.toList) = false := by simp [tShut, tSemi, ByteArray.toList_eq]
      rw [this]
      simp
    rcases hr with hr | ⟨_, _, hr⟩
    · have := wantM_ge ts σ tShut; omega
    · rw [hbad] at hr; cases hr
end
theorem plain_lvl {k : Nat} (h : k < 5) : plainB (lvl6 k) = true := by
  match k, h with
  | 0, _ | 1, _ | 2, _ | 3, _ | 4, _ => simp [plainB, lvl6, tSemi, tShut, ByteArray.toList_eq]
theorem plain_one : plainB [tMinus, tNot] = true ∧ plainB [tOpen] = true := by simp [plainB, tMinus, tNot, tOpen, tSemi, tShut, ByteArray.toList_eq]
theorem loopM_succ (ts : List Tok) (ex : PS → Tree × PS) (lvl : Nat) (pl : Int) (g : Nat) (T : Tree) (σ : PS) :
    loopM ts ex lvl pl (g + 1) T σ = if isM ts σ (lvl6 lvl) = true then (if lvl = 2 then (.mk 16 (txM ts σ) 0 pl [T, (ex (nextM ts σ)).1], (ex (nextM ts σ)).2) else loopM ts ex lvl pl g (.mk 16 (txM ts σ) 0 pl [T, (ex (nextM ts σ)).1]) (ex (nextM ts σ)).2) else (T, σ) := rfl
/-- where a ; stands there is no expression -/
theorem exM_edge {ts us : List Tok} {o d m : Nat} {e : Bool} (S : Sim ts us o d m e) (he : e = true) : ∀ (f lvl : Nat) (σ : PS), lvl ≤ 5 → 6 - lvl ≤ f → σ.1 = m → (exM ts f lvl σ).2.2 = true := by
  intro f
  induction f with
  | zero => intro lvl σ h1 h2; omega
  | succ f ih =>
    intro lvl σ hl hf hm
    by_cases hb : σ.2 = true
    · exact exM_bad _ _ hb
    · have hin : InS m e σ := Or.inr ⟨he, hm, by simpa using hb⟩
      obtain ⟨k1, _⟩ := S.edge he
      have hk : kdM ts σ = 6 := by unfold kdM; rw [hm]; exact k1
      unfold exM
      rw [if_neg hb]
      by_cases h5 : lvl = 5
      · have n1 : ¬ isM ts σ [tMinus, tNot] = true := fun h => by have := S.is_lt hin (fun _ => plain_one.1) h; omega
        have n2 : ¬ isM ts σ [tOpen] = true := fun h => by have := S.is_lt hin (fun _ => plain_one.2) h; omega
        rw [if_pos h5, if_neg n1, if_neg n2, if_neg (by rw [hk]; decide), if_neg (by rw [hk]; decide)]
        show (σ.2 || (tokM ts σ.1).1 != 4) = true
        rw [hm, k1]; simp
      · rw [if_neg h5]
        have := ih (lvl + 1) σ (by omega) (by omega) hm
        rw [loopM_bad this]
        exact this
/-- trees hang on here and there alike, level by level -/
theorem loopM_sim {ts us : List Tok} {o d m : Nat} {e : Bool} (S : Sim ts us o d m e) (hts : TsOk ts) {ex ex' : PS → Tree × PS} {lvl : Nat} (hlvl : lvl < 5) (hge : ∀ σ, σ.1 ≤ (ex σ).2.1) (pl : Int) {B : Nat}
    (hlt : ∀ σ : PS, σ.1 < ts.length → (ex σ).2.1 < ts.length)
    (hex : ∀ σ : PS, σ.1 < ts.length → B ≤ σ.1 → InS m e (ex σ).2 → SameR o d (ex σ) (ex' (shP o σ))) :
    ∀ (g g' : Nat) (T T' : Tree) (σ : PS), (σ.2 = false → T' = shT d T) → σ.1 < ts.length → B ≤ σ.1 + 1 → ts.length - σ.1 ≤ g → us.length - (σ.1 + o) ≤ g' → InS m e (loopM ts ex lvl pl g T σ).2 →
      SameR o d (loopM ts ex lvl pl g T σ) (loopM us ex' lvl (pl + d) g' T' (shP o σ)) := by
  intro g
  induction g with
  | zero => intro g' T T' σ _ h; omega
  | succ g ih =>
    intro g' T T' σ hT hσ hB hg hg' hr
    have hin : InS m e σ := hr.back (loopM_ge hge _ _ _) (fun hb => by rw [loopM_bad hb]; exact hb)
    have hi := S.is hin (texts := lvl6 lvl) (fun _ => plain_lvl hlvl)
    rw [loopM_succ] at hr ⊢
    cases hb : isM ts σ (lvl6 lvl) with
    | false =>
      rw [if_neg (by decide)]
      cases g' with
      | zero => exact ⟨rfl, hT⟩
      | succ g' =>
        rw [hb] at hi
        rw [loopM_succ, if_neg (by rw [hi]; decide)]
        exact ⟨rfl, hT⟩
    | true =>
      rw [hb] at hi hr
      have hm := S.is_lt hin (fun _ => plain_lvl hlvl) hb
      obtain ⟨q1, q2, q3⟩ := next_on hts hσ hb
      have hon := (S.on _ hm).1 q3
      obtain ⟨g', rfl⟩ : ∃ x, g' = x + 1 := ⟨g' - 1, by omega⟩
      obtain ⟨t1, t2, t3⟩ := S.tx hm
      rw [loopM_succ, if_pos rfl, if_pos hi, S.next hm, t1]
      rw [if_pos rfl] at hr
      have h1 := hge (nextM ts σ)
      have h3 := hlt (nextM ts σ) (by omega)
      have htr : ∀ T1 : Tree, (σ.2 = false → T' = shT d T) → T1 = shT d (ex (nextM ts σ)).1 → (.mk 16 (txM ts σ) 0 (pl + d) [T', T1] : Tree) = shT d (.mk 16 (txM ts σ) 0 pl [T, (ex (nextM ts σ)).1]) := by
        intro T1 h1 h2
        rw [shT_mk, h1 q2, h2]; rfl
      by_cases h2 : lvl = 2
      · rw [if_pos h2, if_pos h2]
        rw [if_pos h2] at hr
        obtain ⟨r1, r2⟩ := hex (nextM ts σ) (by omega) (by omega) hr
        exact ⟨r1, fun hf => htr _ hT (r2 hf)⟩
      · rw [if_neg h2, if_neg h2]
        rw [if_neg h2] at hr
        obtain ⟨r1, r2⟩ := hex (nextM ts σ) (by omega) (by omega) (hr.back (loopM_ge hge _ _ _) (fun hb => by rw [loopM_bad hb]; exact hb))
        rw [r1]
        exact ih g' _ _ _ (fun hf => htr _ hT (r2 hf)) h3 (by omega) (by omega) (by omega) hr
theorem exM_lt {ts : List Tok} : ∀ (f lvl : Nat) (σ : PS), σ.1 < ts.length → (exM ts f lvl σ).2.1 < ts.length := by
  intro f
  have hn : ∀ σ : PS, σ.1 < ts.length → (nextM ts σ).1 < ts.length := fun σ h => nextK_lt h
  have hw : ∀ (σ : PS) (x : ByteArray), σ.1 < ts.length → (wantM ts σ x).1 < ts.length := fun σ x h => by
    unfold wantM wantK skipK; dsimp only; split
    · exact nextK_lt h
    · exact h
  have ho : ∀ (σ : PS) (a b : Nat), σ.1 < ts.length → (ofM ts σ a b).2.1 < ts.length := fun σ a b h => nextK_lt h
  induction f with
  | zero => intro lvl σ h; exact h
  | succ f ih =>
    intro lvl σ h
    unfold exM
    (repeat' split)
    · exact h
    · exact ih _ _ (hn _ h)
    · exact hw _ _ (ih _ _ (hn _ h))
    · exact ho _ _ _ h
    · exact ho _ _ _ h
    · exact ho _ _ _ h
    · have : ∀ (g : Nat) (T : Tree) (σ : PS) (pl : Int), σ.1 < ts.length → (loopM ts (exM ts f (lvl + 1)) lvl pl g T σ).2.1 < ts.length := by
        intro g
        induction g with
        | zero => intro T σ pl h; exact h
        | succ g ihg =>
          intro T σ pl h
          unfold loopM
          split
          · dsimp only
            split
            · exact ih _ _ (hn _ h)
            · exact ihg _ _ _ (ih _ _ (hn _ h))
          · exact h
      exact this _ _ _ _ (ih _ _ h)
theorem exM_sim {ts us : List Tok} {o d m : Nat} {e : Bool} (S : Sim ts us o d m e) (hts : TsOk ts) : ∀ (f g lvl : Nat) (σ : PS), lvl ≤ 5 → σ.1 < ts.length → (ts.length - σ.1) * 7 + (6 - lvl) ≤ f → (us.length - (σ.1 + o)) * 7 + (6 - lvl) ≤ g →
    InS m e (exM ts f lvl σ).2 → SameR o d (exM ts f lvl σ) (exM us g lvl (shP o σ)) := by
  intro f
  induction f with
  | zero => intro g lvl σ hl _ hf; omega
  | succ f ih =>
    intro g lvl σ hl hσ hf hg hr
    obtain ⟨g, rfl⟩ : ∃ x, g = x + 1 := ⟨g - 1, by omega⟩
    have hin : InS m e σ := hr.back (exM_ge ts _ _ _) (fun hb => exM_bad _ _ hb)
    have hm : σ.1 < m := by
      rcases hin with h | ⟨he, hm, _⟩
      · exact h
      · have h1 := exM_edge S he (f + 1) lvl σ hl (by omega) hm
        have h2 := exM_ge ts (f + 1) lvl σ
        rcases hr with hr | ⟨_, _, hr⟩
        · omega
        · rw [h1] at hr; cases hr
    by_cases hb : σ.2 = true
    · unfold exM
      rw [if_pos hb, if_pos (show (shP o σ).2 = true from hb)]
      exact ⟨rfl, fun h => by rw [hb] at h; cases h⟩
    · have hb' : (shP o σ).2 = σ.2 := rfl
      unfold exM at hr ⊢
      rw [if_neg hb] at hr
      rw [if_neg hb, hb', if_neg hb]
      by_cases h5 : lvl = 5
      · rw [if_pos h5] at hr
        rw [if_pos h5, if_pos h5]
        have hi1 := S.is hin (texts := [tMinus, tNot]) (fun _ => plain_one.1)
        have hi2 := S.is hin (texts := [tOpen]) (fun _ => plain_one.2)
        rw [hi1, hi2]
        by_cases hm1 : isM ts σ [tMinus, tNot] = true
        · rw [if_pos hm1] at hr
          rw [if_pos hm1, if_pos hm1]
          obtain ⟨q1, q2, q3⟩ := next_on hts hσ hm1
          have hon := (S.on _ hm).1 q3
          obtain ⟨t1, t2, t3⟩ := S.tx hm
          rw [S.next hm, t1, t3]
          dsimp only at hr
          obtain ⟨r1, r2⟩ := ih g 5 (nextM ts σ) (by omega) (by omega) (by omega) (by omega) hr
          refine ⟨r1, fun hf => ?_⟩
          rw [shT_mk, r2 hf]; rfl
        · rw [if_neg hm1] at hr
          rw [if_neg hm1, if_neg hm1]
          by_cases hm2 : isM ts σ [tOpen] = true
          · rw [if_pos hm2] at hr
            rw [if_pos hm2, if_pos hm2]
            obtain ⟨q1, q2, q3⟩ := next_on hts hσ hm2
            have hon := (S.on _ hm).1 q3
            rw [S.next hm]
            dsimp only at hr
            have hr0 := hr.back (wantM_ge ts _ _) (fun hb => wantM_bad hb _)
            have hlt := S.want_lt hr0 hr
            obtain ⟨r1, r2⟩ := ih g 0 (nextM ts σ) (by omega) (by omega) (by omega) (by omega) hr0
            refine ⟨?_, fun hf => ?_⟩
            · show wantM us _ tShut = _
              rw [r1]
              exact S.want hlt _
            · refine r2 ?_
              cases hx : (exM ts f 0 (nextM ts σ)).2.2
              · rfl
              · have := wantM_bad (ts := ts) hx tShut
                dsimp only at hf
                rw [this] at hf; cases hf
          · rw [if_neg hm2] at hr
            rw [if_neg hm2, if_neg hm2]
            obtain ⟨t1, t2, t3⟩ := S.tx hm
            rw [t2]
            split
            · exact S.ofR hm _ _
            · split
              · exact S.ofR hm _ _
              · exact S.ofR hm _ _
      · rw [if_neg h5] at hr
        rw [if_neg h5, if_neg h5]
        have hge : ∀ σ, σ.1 ≤ (exM ts f (lvl + 1) σ).2.1 := exM_ge ts _ _
        have hr0 : InS m e (exM ts f (lvl + 1) σ).2 := hr.back (loopM_ge hge _ _ _) (fun hb => by rw [loopM_bad hb]; exact hb)
        have hex : ∀ ρ : PS, ρ.1 < ts.length → σ.1 ≤ ρ.1 → InS m e (exM ts f (lvl + 1) ρ).2 → SameR o d (exM ts f (lvl + 1) ρ) (exM us g (lvl + 1) (shP o ρ)) := fun ρ h1 h2 h3 =>
          ih g (lvl + 1) ρ (by omega) h1 (by have := Nat.mul_le_mul_right 7 (show ts.length - ρ.1 ≤ ts.length - σ.1 by omega); omega) (by have := Nat.mul_le_mul_right 7 (show us.length - (ρ.1 + o) ≤ us.length - (σ.1 + o) by omega); omega) h3
        have h1 := hge σ
        obtain ⟨r1, r2⟩ := hex σ hσ (Nat.le_refl _) hr0
        rw [r1, (S.tx hm).2.2]
        exact loopM_sim S hts (by omega) hge _ (fun σ h => exM_lt _ _ _ h) hex _ _ _ _ _ r2 (exM_lt _ _ _ hσ) (by omega) (by omega) (by omega) hr
theorem next_lt {ts : List Tok} {σ : PS} (h : σ.1 < ts.length) : (nextM ts σ).1 < ts.length := nextK_lt h
theorem want_in {ts : List Tok} {σ : PS} (h : σ.1 < ts.length) (x : ByteArray) : (wantM ts σ x).1 < ts.length := by
  unfold wantM wantK skipK
  dsimp only
  split
  · exact nextK_lt h
  · exact h
theorem of_in {ts : List Tok} {σ : PS} (h : σ.1 < ts.length) (a b : Nat) : (ofM ts σ a b).2.1 < ts.length := nextK_lt h
theorem want_ok {ts : List Tok} {σ : PS} {x : ByteArray} (h : (wantM ts σ x).2 = false) : σ.2 = false := by
  cases hs : σ.2
  · rfl
  · rw [wantM_bad hs] at h; cases h
/-- a word that must stand there, and does, is gone by -/
theorem want_step {ts : List Tok} (hts : TsOk ts) {σ : PS} (hσ : σ.1 < ts.length) {x : ByteArray} (h : (wantM ts σ x).2 = false) : (wantM ts σ x).1 = σ.1 + 1 := by
  have h0 := want_ok h
  have hi : isM ts σ [x] = true := by
    have : (!(!σ.2 && isT (tokM ts σ.1) [x])) = false := h
    unfold isM
    simpa using this
  obtain ⟨q1, _, _⟩ := next_on hts hσ hi
  rw [← q1]
  show skipK ts σ.1 σ.2 (tokM ts σ.1) [x] = _
  rw [← (skipM_place ts σ [x]).1]
  unfold skipM
  rw [if_pos hi]
/-- two readers, of two rows of tokens, that read alike -/
structure Rd (ts us : List Tok) (o d m : Nat) (one one' : PS → Tree × PS) : Prop where
  ge : ∀ σ, σ.1 ≤ (one σ).2.1
  bad : ∀ σ : PS, σ.2 = true → (one σ).2.2 = true
  lt : ∀ σ : PS, σ.1 < ts.length → (one σ).2.1 < ts.length
  sim : ∀ σ : PS, σ.1 < ts.length → (one σ).2.1 < m → SameR o d (one σ) (one' (shP o σ))
theorem rowLoop_succ (ts : List Tok) (one : PS → Tree × PS) (g : Nat) (ks : List Tree) (σ : PS) :
    rowLoop ts one (g + 1) ks σ = if isM ts σ [tComma] = true then rowLoop ts one g (ks ++ [(one (nextM ts σ)).1]) (one (nextM ts σ)).2 else (ks, σ) := rfl
theorem upTo_succ (ts : List Tok) (one : PS → Tree × PS) (stop : ByteArray) (g : Nat) (ks : List Tree) (σ : PS) :
    upTo ts one stop (g + 1) ks σ = if σ.2 = true then (ks, σ) else if isM ts σ [stop] = true then (ks, σ) else upTo ts one stop g (ks ++ [(one σ).1]) (one σ).2 := rfl
section
variable {ts us : List Tok} {o d m : Nat} {one one' : PS → Tree × PS}
theorem rowLoop_lt (hlt : ∀ σ : PS, σ.1 < ts.length → (one σ).2.1 < ts.length) : ∀ (g : Nat) (ks : List Tree) (σ : PS), σ.1 < ts.length → (rowLoop ts one g ks σ).2.1 < ts.length := by
  intro g
  induction g with
  | zero => intro ks σ h; exact h
  | succ g ih =>
    intro ks σ h
    rw [rowLoop_succ]
    split
    · exact ih _ _ (hlt _ (next_lt h))
    · exact h
theorem upTo_lt (hlt : ∀ σ : PS, σ.1 < ts.length → (one σ).2.1 < ts.length) (stop : ByteArray) : ∀ (g : Nat) (ks : List Tree) (σ : PS), σ.1 < ts.length → (upTo ts one stop g ks σ).2.1 < ts.length := by
  intro g
  induction g with
  | zero => intro ks σ h; exact h
  | succ g ih =>
    intro ks σ h
    rw [upTo_succ]
    split
    · exact h
    · split
      · exact h
      · exact ih _ _ (hlt _ h)
theorem upTo_bad (stop : ByteArray) {σ : PS} (h : σ.2 = true) (g : Nat) (ks : List Tree) : upTo ts one stop g ks σ = (ks, σ) := by
  cases g with
  | zero => rfl
  | succ g => rw [upTo_succ, if_pos h]
theorem rowLoop_sim (S : Sim ts us o d m false) (hts : TsOk ts) (R : Rd ts us o d m one one') : ∀ (g g' : Nat) (ks ks' : List Tree) (σ : PS), (σ.2 = false → ks' = ks.map (shT d)) → σ.1 < ts.length → ts.length - σ.1 ≤ g → us.length - (σ.1 + o) ≤ g' →
    (rowLoop ts one g ks σ).2.1 < m → SameL o d (rowLoop ts one g ks σ) (rowLoop us one' g' ks' (shP o σ)) := by
  intro g
  induction g with
  | zero => intro g' ks ks' σ _ h; omega
  | succ g ih =>
    intro g' ks ks' σ hk hσ hg hg' hr
    have hm : σ.1 < m := Nat.lt_of_le_of_lt (rowLoop_ge R.ge _ _ _) hr
    have hi := S.is (Or.inl hm) (texts := [tComma]) (fun h => by cases h)
    rw [rowLoop_succ] at hr ⊢
    cases hb : isM ts σ [tComma] with
    | false =>
      rw [if_neg (by decide)]
      cases g' with
      | zero => exact ⟨rfl, hk⟩
      | succ g' =>
        rw [hb] at hi
        rw [rowLoop_succ, if_neg (by rw [hi]; decide)]
        exact ⟨rfl, hk⟩
    | true =>
      rw [hb] at hi hr
      rw [if_pos rfl] at hr ⊢
      obtain ⟨q1, q2, q3⟩ := next_on hts hσ hb
      have hon := (S.on _ hm).1 q3
      obtain ⟨g', rfl⟩ : ∃ x, g' = x + 1 := ⟨g' - 1, by omega⟩
      have h1 := R.ge (nextM ts σ)
      have h3 := R.lt (nextM ts σ) (by omega)
      have hr0 : (one (nextM ts σ)).2.1 < m := Nat.lt_of_le_of_lt (rowLoop_ge R.ge _ _ _) hr
      obtain ⟨r1, r2⟩ := R.sim (nextM ts σ) (by omega) hr0
      rw [rowLoop_succ, if_pos hi, S.next hm, r1]
      refine ih g' _ _ _ (fun hf => ?_) h3 (by omega) (by omega) hr
      rw [hk q2, r2 hf, List.map_append]; rfl
theorem upTo_sim (S : Sim ts us o d m false) (R : Rd ts us o d m one one') (hon : ∀ σ : PS, σ.1 < ts.length → (one σ).2.2 = true ∨ σ.1 < (one σ).2.1) (stop : ByteArray) : ∀ (g g' : Nat) (ks ks' : List Tree) (σ : PS), (σ.2 = false → ks' = ks.map (shT d)) → σ.1 < ts.length →
    (σ.2 = true ∨ ts.length - σ.1 + 1 ≤ g) → (σ.2 = true ∨ us.length - (σ.1 + o) + 1 ≤ g') → (upTo ts one stop g ks σ).2.1 < m → SameL o d (upTo ts one stop g ks σ) (upTo us one' stop g' ks' (shP o σ)) := by
  intro g
  induction g with
  | zero =>
    intro g' ks ks' σ hk hσ hg hg' hr
    have hb : σ.2 = true := by
      rcases hg with h | h
      · exact h
      · omega
    rw [upTo_bad stop hb, upTo_bad stop (show (shP o σ).2 = true from hb)]
    exact ⟨rfl, hk⟩
  | succ g ih =>
    intro g' ks ks' σ hk hσ hg hg' hr
    by_cases hb : σ.2 = true
    · rw [upTo_bad stop hb, upTo_bad stop (show (shP o σ).2 = true from hb)]
      exact ⟨rfl, hk⟩
    · have hg1 : ts.length - σ.1 + 1 ≤ g + 1 := by rcases hg with h | h; exact absurd h hb; exact h
      have hg2 : us.length - (σ.1 + o) + 1 ≤ g' := by rcases hg' with h | h; exact absurd h hb; exact h
      obtain ⟨g', rfl⟩ : ∃ x, g' = x + 1 := ⟨g' - 1, by omega⟩
      have hm : σ.1 < m := Nat.lt_of_le_of_lt (upTo_ge R.ge _ _ _ _) hr
      have hi := S.is (Or.inl hm) (texts := [stop]) (fun h => by cases h)
      rw [upTo_succ, if_neg hb] at hr
      rw [upTo_succ, upTo_succ, if_neg hb, if_neg (show ¬ (shP o σ).2 = true from hb)]
      by_cases hs : isM ts σ [stop] = true
      · rw [if_pos hs, if_pos (by rw [hi]; exact hs)]
        exact ⟨rfl, hk⟩
      · rw [if_neg hs] at hr
        rw [if_neg hs, if_neg (by rw [hi]; exact hs)]
        have hr0 : (one σ).2.1 < m := Nat.lt_of_le_of_lt (upTo_ge R.ge _ _ _ _) hr
        obtain ⟨r1, r2⟩ := R.sim σ hσ hr0
        have hl := S.len
        rw [r1]
        refine ih g' _ _ _ (fun hf => ?_) (R.lt σ hσ) ?_ ?_ hr
        · rw [hk (by simpa using hb), r2 hf, List.map_append]; rfl
        · rcases hon σ hσ with h | h
          · exact Or.inl h
          · exact Or.inr (by omega)
        · rcases hon σ hσ with h | h
          · exact Or.inl h
          · exact Or.inr (by omega)
theorem exprM_sim {e : Bool} (S : Sim ts us o d m e) (hts : TsOk ts) {σ : PS} (hσ : σ.1 < ts.length) (hr : InS m e (exprM ts σ).2) : SameR o d (exprM ts σ) (exprM us (shP o σ)) := by
  have h1 : (ts.length - σ.1) * 7 ≤ ts.length * 7 := Nat.mul_le_mul_right _ (Nat.sub_le _ _)
  have h2 : (us.length - (σ.1 + o)) * 7 ≤ us.length * 7 := Nat.mul_le_mul_right _ (Nat.sub_le _ _)
  exact exM_sim S hts _ _ 0 σ (by omega) hσ (by omega) (by omega) hr
theorem exprM_rd (S : Sim ts us o d m false) (hts : TsOk ts) : Rd ts us o d m (exprM ts) (exprM us) :=
  ⟨exprM_ge ts, fun _ h => exprM_bad h, fun _ h => exM_lt _ _ _ h, fun _ hσ hr => exprM_sim S hts hσ (Or.inl hr)⟩
theorem ofM_rd (S : Sim ts us o d m false) (a b : Nat) : Rd ts us o d m (fun σ => ofM ts σ a b) (fun σ => ofM us σ a b) :=
  ⟨fun σ => ofM_ge ts σ a b, fun _ h => ofM_bad h a b, fun _ h => of_in h a b, fun σ _ hr => S.ofR (Nat.lt_of_le_of_lt (ofM_ge ts σ a b) hr) a b⟩
theorem argM_rd (S : Sim ts us o d m false) : Rd ts us o d m (argM ts) (argM us) := by
  refine ⟨argM_ge ts, fun _ h => argM_bad h, fun σ h => ?_, fun σ hσ hr => ?_⟩
  · unfold argM
    (repeat' split)
    · exact next_lt h
    · exact of_in (next_lt h) 4 14
    · exact of_in h _ _
    · exact of_in h _ _
    · exact of_in h _ _
  · have hm : σ.1 < m := Nat.lt_of_le_of_lt (argM_ge ts σ) hr
    have hi : ∀ x, isM us (shP o σ) [x] = isM ts σ [x] := fun x => S.is (Or.inl hm) (fun h => by cases h)
    obtain ⟨t1, t2, t3⟩ := S.tx hm
    unfold argM at hr ⊢
    rw [hi, hi, t2, t3, S.next hm]
    by_cases h1 : isM ts σ [tAny] = true
    · rw [if_pos h1, if_pos h1]
      exact ⟨rfl, fun _ => by rw [shT_mk]; rfl⟩
    · rw [if_neg h1] at hr
      rw [if_neg h1, if_neg h1]
      by_cases h2 : isM ts σ [tMinus] = true
      · rw [if_pos h2] at hr
        rw [if_pos h2, if_pos h2]
        have hm2 : (nextM ts σ).1 < m := Nat.lt_of_le_of_lt (ofM_ge ts _ 4 14) hr
        obtain ⟨t1, t2, t3⟩ := S.tx hm2
        exact ⟨(S.of hm2 4 14).2, fun _ => by rw [shT_mk, t1]; rfl⟩
      · rw [if_neg h2, if_neg h2]
        split
        · exact S.ofR hm _ _
        · split
          · exact S.ofR hm _ _
          · exact S.ofR hm _ _
theorem rowM_sim (S : Sim ts us o d m false) (hts : TsOk ts) (R : Rd ts us o d m one one') {σ : PS} (hσ : σ.1 < ts.length) (hr : (rowM ts one σ).2.1 < m) : SameL o d (rowM ts one σ) (rowM us one' (shP o σ)) := by
  unfold rowM at hr ⊢
  obtain ⟨r1, r2⟩ := R.sim σ hσ (Nat.lt_of_le_of_lt (rowLoop_ge R.ge _ _ _) hr)
  rw [r1]
  exact rowLoop_sim S hts R _ _ _ _ _ (fun hf => by rw [r2 hf]; rfl) (R.lt σ hσ) (by omega) (by omega) hr
theorem rowM_lt (hlt : ∀ σ : PS, σ.1 < ts.length → (one σ).2.1 < ts.length) {σ : PS} (hσ : σ.1 < ts.length) : (rowM ts one σ).2.1 < ts.length := rowLoop_lt hlt _ _ _ (hlt _ hσ)
theorem listM_lt (hlt : ∀ σ : PS, σ.1 < ts.length → (one σ).2.1 < ts.length) {σ : PS} (hσ : σ.1 < ts.length) : (listM ts one σ).2.1 < ts.length := by
  unfold listM
  split
  · exact next_lt (want_in hσ _)
  · exact want_in (rowM_lt hlt (want_in hσ _)) _
theorem listM_sim (S : Sim ts us o d m false) (hts : TsOk ts) (R : Rd ts us o d m one one') {σ : PS} (hσ : σ.1 < ts.length) (hr : (listM ts one σ).2.1 < m) : SameL o d (listM ts one σ) (listM us one' (shP o σ)) := by
  have hm : σ.1 < m := Nat.lt_of_le_of_lt (listM_ge R.ge _) hr
  unfold listM at hr ⊢
  rw [S.want hm]
  by_cases h1 : isM ts (wantM ts σ tOpen) [tShut] = true
  · rw [if_pos h1] at hr
    have hm2 : (wantM ts σ tOpen).1 < m := Nat.lt_of_le_of_lt (nextM_ge ts _).1 hr
    rw [if_pos h1, if_pos (by rw [S.is (Or.inl hm2) (fun h => by cases h)]; exact h1), S.next hm2]
    exact ⟨rfl, fun _ => rfl⟩
  · rw [if_neg h1] at hr
    have hr2 : (rowM ts one (wantM ts σ tOpen)).2.1 < m := Nat.lt_of_le_of_lt (wantM_ge ts _ _) hr
    have hm2 : (wantM ts σ tOpen).1 < m := Nat.lt_of_le_of_lt (rowM_ge R.ge _) hr2
    rw [if_neg h1, if_neg (by rw [S.is (Or.inl hm2) (fun h => by cases h)]; exact h1)]
    obtain ⟨r1, r2⟩ := rowM_sim S hts R (want_in hσ _) hr2
    rw [r1, S.want hr2]
    exact ⟨rfl, fun hf => r2 (want_ok hf)⟩
theorem numM_sim (S : Sim ts us o d m false) {σ : PS} (hm : σ.1 < m) : numM us (shP o σ) = ((numM ts σ).1, shP o (numM ts σ).2) := by
  obtain ⟨t1, t2, _⟩ := S.tx hm
  have hs : smallOk us (shP o σ) = smallOk ts σ := by unfold smallOk; rw [t1, t2]
  unfold numM
  rw [hs, t1, S.next hm]
  split <;> rfl
theorem numM_lt {σ : PS} (h : σ.1 < ts.length) : (numM ts σ).2.1 < ts.length := by
  unfold numM
  split
  · exact next_lt h
  · exact h
theorem condM_rd (S : Sim ts us o d m false) (hts : TsOk ts) (R : Rd ts us o d m one one') : Rd ts us o d m (condM ts one) (condM us one') := by
  refine ⟨condM_ge R.ge, fun σ h => ?_, fun σ h => ?_, fun σ hσ hr => ?_⟩
  · unfold condM
    rw [if_neg (by rw [isM_bad h]; decide), if_neg (by rw [isM_bad h]; decide)]
    exact wantM_bad (listM_bad R.bad (ofM_bad h _ _)) _
  · unfold condM
    (repeat' split)
    · exact want_in (exM_lt _ _ _ (next_lt h)) _
    · exact want_in (listM_lt R.lt (of_in (next_lt h) _ _)) _
    · exact want_in (listM_lt R.lt (of_in h _ _)) _
  · have hm : σ.1 < m := Nat.lt_of_le_of_lt (condM_ge R.ge σ) hr
    have hi : ∀ x, isM us (shP o σ) [x] = isM ts σ [x] := fun x => S.is (Or.inl hm) (fun h => by cases h)
    obtain ⟨_, _, t3⟩ := S.tx hm
    unfold condM at hr ⊢
    rw [hi, hi, t3, S.next hm]
    by_cases h1 : isM ts σ [tTest] = true
    · rw [if_pos h1] at hr
      rw [if_pos h1, if_pos h1]
      have hr2 : (exprM ts (nextM ts σ)).2.1 < m := Nat.lt_of_le_of_lt (wantM_ge ts _ _) hr
      obtain ⟨r1, r2⟩ := exprM_sim S hts (next_lt hσ) (Or.inl hr2)
      rw [r1, S.want hr2]
      exact ⟨rfl, fun hf => by rw [shT_mk, r2 (want_ok hf)]; rfl⟩
    · rw [if_neg h1] at hr
      rw [if_neg h1, if_neg h1]
      by_cases h2 : isM ts σ [tNot] = true
      · rw [if_pos h2] at hr
        rw [if_pos h2, if_pos h2]
        have hr2 : (listM ts one (ofM ts (nextM ts σ) 2 6).2).2.1 < m := Nat.lt_of_le_of_lt (wantM_ge ts _ _) hr
        have hm2 : (nextM ts σ).1 < m := Nat.lt_of_le_of_lt (ofM_ge ts _ 2 6) (Nat.lt_of_le_of_lt (listM_ge R.ge _) hr2)
        obtain ⟨k1, k2⟩ := S.of hm2 2 6
        obtain ⟨r1, r2⟩ := listM_sim S hts R (of_in (next_lt hσ) 2 6) hr2
        rw [k1, k2, r1, S.want hr2, (shT_parts d _).2.1]
        exact ⟨rfl, fun hf => by rw [shT_mk, r2 (want_ok hf)]⟩
      · rw [if_neg h2] at hr
        rw [if_neg h2, if_neg h2]
        have hr2 : (listM ts one (ofM ts σ 2 5).2).2.1 < m := Nat.lt_of_le_of_lt (wantM_ge ts _ _) hr
        obtain ⟨k1, k2⟩ := S.of hm 2 5
        obtain ⟨r1, r2⟩ := listM_sim S hts R (of_in hσ 2 5) hr2
        rw [k1, k2, r1, S.want hr2, (shT_parts d _).2.1]
        exact ⟨rfl, fun hf => by rw [shT_mk, r2 (want_ok hf)]⟩
theorem actM_bad {σ : PS} (h : σ.2 = true) : (actM ts σ).2.2 = true := by
  unfold actM
  rw [if_neg (by rw [isM_bad h]; decide), if_neg (by rw [isM_bad h]; decide), if_neg (by rw [isM_bad h]; decide)]
  exact wantM_bad (wantM_bad h _) _
theorem actM_lt {σ : PS} (h : σ.1 < ts.length) : (actM ts σ).2.1 < ts.length := by
  have hx : ∀ σ : PS, σ.1 < ts.length → (exprM ts σ).2.1 < ts.length := fun σ h => exM_lt _ _ _ h
  unfold actM
  (repeat' split)
  · exact want_in (listM_lt hx (of_in (next_lt h) _ _)) _
  · exact want_in (numM_lt (next_lt h)) _
  · exact want_in (rowM_lt hx (next_lt h)) _
  · exact want_in (want_in h _) _
theorem actM_rd (S : Sim ts us o d m false) (hts : TsOk ts) : Rd ts us o d m (actM ts) (actM us) := by
  refine ⟨actM_ge ts, fun σ h => actM_bad h, fun σ h => actM_lt h, fun σ hσ hr => ?_⟩
  have hm : σ.1 < m := Nat.lt_of_le_of_lt (actM_ge ts σ) hr
  have hi : ∀ x, isM us (shP o σ) [x] = isM ts σ [x] := fun x => S.is (Or.inl hm) (fun h => by cases h)
  obtain ⟨_, _, t3⟩ := S.tx hm
  have R := exprM_rd S hts
  unfold actM at hr ⊢
  rw [hi, hi, hi, t3, S.next hm]
  by_cases h1 : isM ts σ [tAssert] = true
  · rw [if_pos h1] at hr
    rw [if_pos h1, if_pos h1]
    have hr2 : (listM ts (exprM ts) (ofM ts (nextM ts σ) 2 8).2).2.1 < m := Nat.lt_of_le_of_lt (wantM_ge ts _ _) hr
    have hm2 : (nextM ts σ).1 < m := Nat.lt_of_le_of_lt (ofM_ge ts _ 2 8) (Nat.lt_of_le_of_lt (listM_ge R.ge _) hr2)
    obtain ⟨k1, k2⟩ := S.of hm2 2 8
    obtain ⟨r1, r2⟩ := listM_sim S hts R (of_in (next_lt hσ) 2 8) hr2
    rw [k1, k2, r1, S.want hr2, (shT_parts d _).2.1]
    exact ⟨rfl, fun hf => by rw [shT_mk, r2 (want_ok hf)]⟩
  · rw [if_neg h1] at hr
    rw [if_neg h1, if_neg h1]
    by_cases h2 : isM ts σ [tRetract] = true
    · rw [if_pos h2] at hr
      rw [if_pos h2, if_pos h2]
      have hr2 : (numM ts (nextM ts σ)).2.1 < m := Nat.lt_of_le_of_lt (wantM_ge ts _ _) hr
      have hm2 : (nextM ts σ).1 < m := Nat.lt_of_le_of_lt (numM_ge ts _) hr2
      rw [numM_sim S hm2, S.want hr2]
      exact ⟨rfl, fun _ => by rw [shT_mk]; rfl⟩
    · rw [if_neg h2] at hr
      rw [if_neg h2, if_neg h2]
      by_cases h3 : isM ts σ [tSay] = true
      · rw [if_pos h3] at hr
        rw [if_pos h3, if_pos h3]
        have hr2 : (rowM ts (exprM ts) (nextM ts σ)).2.1 < m := Nat.lt_of_le_of_lt (wantM_ge ts _ _) hr
        obtain ⟨r1, r2⟩ := rowM_sim S hts R (next_lt hσ) hr2
        rw [r1, S.want hr2]
        exact ⟨rfl, fun hf => by rw [shT_mk, r2 (want_ok hf)]⟩
      · rw [if_neg h3] at hr
        rw [if_neg h3, if_neg h3]
        have hr2 : (wantM ts σ tHalt).1 < m := Nat.lt_of_le_of_lt (wantM_ge ts _ _) hr
        rw [S.want hm, S.want hr2]
        exact ⟨rfl, fun _ => by rw [shT_mk]; rfl⟩
theorem salM_sim (S : Sim ts us o d m false) {σ : PS} (hr : (salM ts σ).2.1 < m) : salM us (shP o σ) = ((salM ts σ).1, shP o (salM ts σ).2) := by
  have hm : σ.1 < m := Nat.lt_of_le_of_lt (salM_ge ts σ) hr
  unfold salM at hr ⊢
  rw [S.is (Or.inl hm) (fun h => by cases h), S.next hm]
  by_cases h1 : isM ts σ [tSal] = true
  · rw [if_pos h1] at hr
    rw [if_pos h1, if_pos h1]
    have hm2 : (nextM ts σ).1 < m := by
      by_cases h2 : isM ts (nextM ts σ) [tMinus] = true
      · rw [if_pos h2] at hr
        exact Nat.lt_of_le_of_lt (Nat.le_trans (nextM_ge ts _).1 (numM_ge ts _)) hr
      · rw [if_neg h2] at hr
        exact Nat.lt_of_le_of_lt (numM_ge ts _) hr
    rw [S.is (Or.inl hm2) (fun h => by cases h), S.next hm2]
    by_cases h2 : isM ts (nextM ts σ) [tMinus] = true
    · rw [if_pos h2] at hr
      rw [if_pos h2, if_pos h2, numM_sim S (Nat.lt_of_le_of_lt (numM_ge ts _) hr)]
    · rw [if_neg h2] at hr
      rw [if_neg h2, if_neg h2, numM_sim S (Nat.lt_of_le_of_lt (numM_ge ts _) hr)]
  · rw [if_neg h1, if_neg h1]
theorem salM_lt {σ : PS} (h : σ.1 < ts.length) : (salM ts σ).2.1 < ts.length := by
  unfold salM
  (repeat' split)
  · exact numM_lt (next_lt (next_lt h))
  · exact numM_lt (next_lt h)
  · exact h
theorem salM_bad {σ : PS} (h : σ.2 = true) : (salM ts σ).2.2 = true := by
  unfold salM
  rw [if_neg (by rw [isM_bad h]; decide)]
  exact h
end
/-- behind a word that must stand there: where the reading ended ahead of the end, or at it with nothing told, the word stands ahead of it -/
theorem want_back {ts : List Tok} (hts : TsOk ts) {σ : PS} (hσ : σ.1 < ts.length) {x : ByteArray} {m : Nat} (h : (wantM ts σ x).1 < m ∨ ((wantM ts σ x).1 ≤ m ∧ (wantM ts σ x).2 = false)) : σ.1 < m := by
  have h1 := wantM_ge ts σ x
  rcases h with h | ⟨h, hb⟩
  · omega
  · have := want_step hts hσ hb; omega
theorem ruleM_bad {ts : List Tok} {a : Int} {σ : PS} (h : σ.2 = true) : (ruleM ts a σ).2.2 = true := by
  unfold ruleM
  dsimp only
  have h1 : (wantM ts (salM ts (ofM ts σ 2 4).2).2 tLeft).2 = true := wantM_bad (salM_bad (ofM_bad h 2 4)) _
  rw [upTo_bad tTo h1]
  dsimp only
  rw [upTo_bad tRight (wantM_bad h1 _)]
  exact wantM_bad (wantM_bad h1 _) _
theorem argM_lt {ts : List Tok} {σ : PS} (h : σ.1 < ts.length) : (argM ts σ).2.1 < ts.length := by
  unfold argM
  (repeat' split)
  · exact next_lt h
  · exact of_in (next_lt h) 4 14
  · exact of_in h _ _
  · exact of_in h _ _
  · exact of_in h _ _
theorem condM_lt {ts : List Tok} {σ : PS} (h : σ.1 < ts.length) : (condM ts (argM ts) σ).2.1 < ts.length := by
  unfold condM
  (repeat' split)
  · exact want_in (exM_lt _ _ _ (next_lt h)) _
  · exact want_in (listM_lt (fun _ h => argM_lt h) (of_in (next_lt h) _ _)) _
  · exact want_in (listM_lt (fun _ h => argM_lt h) (of_in h _ _)) _
theorem ruleM_lt {ts : List Tok} {a : Int} {σ : PS} (h : σ.1 < ts.length) : (ruleM ts a σ).2.1 < ts.length := by
  unfold ruleM
  exact want_in (upTo_lt (fun _ h => actM_lt h) _ _ _ _ (want_in (upTo_lt (fun _ h => condM_lt h) _ _ _ _ (want_in (salM_lt (of_in h 2 4)) _)) _)) _
theorem ruleM_sim {ts us : List Tok} {o d m : Nat} (S : Sim ts us o d m false) (hts : TsOk ts) (a : Int) {σ : PS} (hσ : σ.1 < ts.length) (hr : (ruleM ts a σ).2.1 < m ∨ ((ruleM ts a σ).2.1 ≤ m ∧ (ruleM ts a σ).2.2 = false)) :
    SameR o d (ruleM ts a σ) (ruleM us (a + d) (shP o σ)) := by
  have A := argM_rd S
  have C := condM_rd S hts A
  have X := actM_rd S hts
  have hl := S.len
  unfold ruleM at hr ⊢
  dsimp only at hr ⊢
  have p1 := of_in hσ (ts := ts) 2 4
  have p2 := salM_lt p1
  have p3 := want_in p2 tLeft
  have p4 := upTo_lt (fun _ h => condM_lt h) tTo (ts.length + 1) [] _ p3
  have p5 := want_in p4 tTo
  have p6 := fun ks => upTo_lt (fun _ h => actM_lt h) tRight (ts.length + 1) ks _ p5
  have m6 := want_back hts (p6 _) hr
  have m5 : (wantM ts (upTo ts (condM ts (argM ts)) tTo (ts.length + 1) [] (wantM ts (salM ts (ofM ts σ 2 4).2).2 tLeft)).2 tTo).1 < m := Nat.lt_of_le_of_lt (upTo_ge X.ge _ _ _ _) m6
  have m4 : (upTo ts (condM ts (argM ts)) tTo (ts.length + 1) [] (wantM ts (salM ts (ofM ts σ 2 4).2).2 tLeft)).2.1 < m := Nat.lt_of_le_of_lt (wantM_ge ts _ _) m5
  have m3 : (wantM ts (salM ts (ofM ts σ 2 4).2).2 tLeft).1 < m := Nat.lt_of_le_of_lt (upTo_ge C.ge _ _ _ _) m4
  have m2 : (salM ts (ofM ts σ 2 4).2).2.1 < m := Nat.lt_of_le_of_lt (wantM_ge ts _ _) m3
  have m1 : σ.1 < m := Nat.lt_of_le_of_lt (ofM_ge ts σ 2 4) (Nat.lt_of_le_of_lt (salM_ge ts _) m2)
  obtain ⟨k1, k2⟩ := S.of m1 2 4
  rw [k1, k2, salM_sim S m2]
  dsimp only
  rw [S.want m2]
  obtain ⟨r1, r2⟩ := upTo_sim S C (fun σ h => condM_on hts (argM_ge ts) (fun _ h => argM_bad h) h) tTo (ts.length + 1) (us.length + 1) [] [] _ (fun _ => rfl) p3 (Or.inr (by omega)) (Or.inr (by omega)) m4
  rw [r1, S.want m4]
  obtain ⟨s1, s2⟩ := upTo_sim S X (fun σ h => actM_on hts h) tRight (ts.length + 1) (us.length + 1) _ (upTo us (condM us (argM us)) tTo (us.length + 1) [] (shP o (wantM ts (salM ts (ofM ts σ 2 4).2).2 tLeft))).1 _
    (fun hf => r2 (want_ok hf)) p5 (Or.inr (by omega)) (Or.inr (by omega)) m6
  rw [s1, S.want m6, (shT_parts d _).2.1]
  exact ⟨rfl, fun hf => by rw [shT_mk, s2 (want_ok hf)]⟩
theorem declM_bad {ts : List Tok} {σ : PS} (h : σ.2 = true) : (declM ts (ruleM ts) σ).2.2 = true := by
  unfold declM
  rw [if_neg (by rw [isM_bad h]; decide)]
  exact ruleM_bad (wantM_bad h _)
theorem declM_lt {ts : List Tok} {σ : PS} (h : σ.1 < ts.length) : (declM ts (ruleM ts) σ).2.1 < ts.length := by
  unfold declM
  split
  · exact want_in (listM_lt (fun _ h => of_in h 2 3) (of_in (next_lt h) _ _)) _
  · exact ruleM_lt (want_in h _)
theorem declM_on {ts : List Tok} (hts : TsOk ts) {σ : PS} (hσ : σ.1 < ts.length) : (declM ts (ruleM ts) σ).2.2 = true ∨ σ.1 < (declM ts (ruleM ts) σ).2.1 := by
  unfold declM
  by_cases h1 : isM ts σ [tFact] = true
  · rw [if_pos h1]
    right
    obtain ⟨q1, _, _⟩ := next_on hts hσ h1
    have h2 := ofM_ge ts (nextM ts σ) 2 2
    have h3 := listM_ge (ts := ts) (fun σ => ofM_ge ts σ 2 3) (ofM ts (nextM ts σ) 2 2).2
    have h4 := wantM_ge ts (listM ts (fun σ => ofM ts σ 2 3) (ofM ts (nextM ts σ) 2 2).2).2 tSemi
    dsimp only
    omega
  · rw [if_neg h1]
    cases h2 : (wantM ts σ tRule).2 with
    | true => exact Or.inl (ruleM_bad h2)
    | false =>
      right
      have h3 := want_step hts hσ h2
      have h4 := ruleM_ge ts (atM ts σ) (wantM ts σ tRule)
      omega
theorem declM_sim {ts us : List Tok} {o d m : Nat} (S : Sim ts us o d m false) (hts : TsOk ts) {σ : PS} (hσ : σ.1 < ts.length) (hm : σ.1 < m) (hr : (declM ts (ruleM ts) σ).2.1 < m ∨ ((declM ts (ruleM ts) σ).2.1 ≤ m ∧ (declM ts (ruleM ts) σ).2.2 = false)) :
    SameR o d (declM ts (ruleM ts) σ) (declM us (ruleM us) (shP o σ)) := by
  obtain ⟨_, _, t3⟩ := S.tx hm
  unfold declM at hr ⊢
  rw [S.is (Or.inl hm) (fun h => by cases h), t3, S.next hm, S.want hm]
  by_cases h1 : isM ts σ [tFact] = true
  · rw [if_pos h1] at hr
    rw [if_pos h1, if_pos h1]
    have p2 := listM_lt (ts := ts) (fun _ h => of_in h 2 3) (of_in (next_lt hσ) 2 2)
    have m2 := want_back hts p2 hr
    have m1 : (nextM ts σ).1 < m := Nat.lt_of_le_of_lt (ofM_ge ts _ 2 2) (Nat.lt_of_le_of_lt (listM_ge (fun σ => ofM_ge ts σ 2 3) _) m2)
    obtain ⟨k1, k2⟩ := S.of m1 2 2
    obtain ⟨r1, r2⟩ := listM_sim S hts (ofM_rd S 2 3) (of_in (next_lt hσ) 2 2) m2
    rw [k1, k2, r1, S.want m2, (shT_parts d _).2.1]
    exact ⟨rfl, fun hf => by rw [shT_mk, r2 (want_ok hf)]⟩
  · rw [if_neg h1] at hr
    rw [if_neg h1, if_neg h1]
    exact ruleM_sim S hts _ (want_in hσ _) hr
/-- a program's declarations, one behind the other -/
def progL (ts : List Tok) : Nat → List Tree → PS → List Tree × PS
  | 0, ks, σ => (ks, σ)
  | g + 1, ks, σ => if σ.2 = true then (ks, σ) else if kdM ts σ = 7 then (ks, σ) else progL ts g (ks ++ [(declM ts (ruleM ts) σ).1]) (declM ts (ruleM ts) σ).2
def progD (ts : List Tok) : List Tree × PS := progL ts (ts.length + 1) [] (0, false)
theorem progL_succ (ts : List Tok) (g : Nat) (ks : List Tree) (σ : PS) : progL ts (g + 1) ks σ = if σ.2 = true then (ks, σ) else if kdM ts σ = 7 then (ks, σ) else progL ts g (ks ++ [(declM ts (ruleM ts) σ).1]) (declM ts (ruleM ts) σ).2 := rfl
theorem progL_bad (ts : List Tok) {σ : PS} (h : σ.2 = true) (g : Nat) (ks : List Tree) : progL ts g ks σ = (ks, σ) := by
  cases g with
  | zero => rfl
  | succ g => rw [progL_succ, if_pos h]
theorem progL_ge (ts : List Tok) : ∀ (g : Nat) (ks : List Tree) (σ : PS), σ.1 ≤ (progL ts g ks σ).2.1 := by
  intro g
  induction g with
  | zero => intro ks σ; exact Nat.le_refl _
  | succ g ih =>
    intro ks σ
    rw [progL_succ]
    split
    · exact Nat.le_refl _
    · split
      · exact Nat.le_refl _
      · exact Nat.le_trans (declM_ge (ruleM_ge ts) σ) (ih _ _)
theorem progL_lt (ts : List Tok) : ∀ (g : Nat) (ks : List Tree) (σ : PS), σ.1 < ts.length → (progL ts g ks σ).2.1 < ts.length := by
  intro g
  induction g with
  | zero => intro ks σ h; exact h
  | succ g ih =>
    intro ks σ h
    rw [progL_succ]
    split
    · exact h
    · split
      · exact h
      · exact ih _ _ (declM_lt h)
/-- a reading that ends ahead of the end of what both have -/
theorem progL_sim {ts us : List Tok} {o d m : Nat} (S : Sim ts us o d m false) (hts : TsOk ts) : ∀ (g g' : Nat) (ks ks' : List Tree) (σ : PS), (σ.2 = false → ks' = ks.map (shT d)) → σ.1 < ts.length → (σ.2 = true ∨ ts.length - σ.1 + 1 ≤ g) → (σ.2 = true ∨ us.length - (σ.1 + o) + 1 ≤ g') →
    (progL ts g ks σ).2.1 < m → SameL o d (progL ts g ks σ) (progL us g' ks' (shP o σ)) := by
  have hl := S.len
  intro g
  induction g with
  | zero =>
    intro g' ks ks' σ hk hσ hg hg' hr
    have hb : σ.2 = true := by
      rcases hg with h | h
      · exact h
      · omega
    rw [progL_bad ts hb, progL_bad us (show (shP o σ).2 = true from hb)]
    exact ⟨rfl, hk⟩
  | succ g ih =>
    intro g' ks ks' σ hk hσ hg hg' hr
    by_cases hb : σ.2 = true
    · rw [progL_bad ts hb, progL_bad us (show (shP o σ).2 = true from hb)]
      exact ⟨rfl, hk⟩
    · have hg1 : ts.length - σ.1 + 1 ≤ g + 1 := by rcases hg with h | h; exact absurd h hb; exact h
      have hg2 : us.length - (σ.1 + o) + 1 ≤ g' := by rcases hg' with h | h; exact absurd h hb; exact h
      obtain ⟨g', rfl⟩ : ∃ x, g' = x + 1 := ⟨g' - 1, by omega⟩
      have hm : σ.1 < m := Nat.lt_of_le_of_lt (progL_ge ts _ _ _) hr
      obtain ⟨_, t2, _⟩ := S.tx hm
      rw [progL_succ, if_neg hb] at hr
      rw [progL_succ, progL_succ, if_neg hb, if_neg (show ¬ (shP o σ).2 = true from hb), t2]
      by_cases hs : kdM ts σ = 7
      · rw [if_pos hs, if_pos hs]
        exact ⟨rfl, hk⟩
      · rw [if_neg hs] at hr
        rw [if_neg hs, if_neg hs]
        have hr0 : (declM ts (ruleM ts) σ).2.1 < m := Nat.lt_of_le_of_lt (progL_ge ts _ _ _) hr
        obtain ⟨r1, r2⟩ := declM_sim S hts hσ hm (Or.inl hr0)
        rw [r1]
        refine ih g' _ _ _ (fun hf => ?_) (declM_lt hσ) ?_ ?_ hr
        · rw [hk (by simpa using hb), r2 hf, List.map_append]; rfl
        · rcases declM_on hts hσ with h | h
          · exact Or.inl h
          · exact Or.inr (by omega)
        · rcases declM_on hts hσ with h | h
          · exact Or.inl h
          · exact Or.inr (by omega)
/-- a whole program, read within another row of tokens up to its end -/
theorem progL_part {ts us : List Tok} {o d m : Nat} (S : Sim ts us o d m false) (hts : TsOk ts) : ∀ (g : Nat) (ks ks' : List Tree) (σ : PS), ks' = ks.map (shT d) → σ.2 = false → σ.1 ≤ m → σ.1 < ts.length → ts.length - σ.1 + 1 ≤ g →
    (progL ts g ks σ).2 = (m, false) → ∃ n, n ≤ m - σ.1 ∧ ∀ g', progL us (n + g') ks' (shP o σ) = progL us g' ((progL ts g ks σ).1.map (shT d)) (m + o, false) := by
  intro g
  induction g with
  | zero => intro ks ks' σ hk hb hm hσ hg hr; omega
  | succ g ih =>
    intro ks ks' σ hk hb hm hσ hg hr
    rw [progL_succ, if_neg (by rw [hb]; decide)] at hr ⊢
    by_cases hs : kdM ts σ = 7
    · rw [if_pos hs] at hr ⊢
      have : σ = (m, false) := hr
      subst this
      refine ⟨0, Nat.zero_le _, fun g' => ?_⟩
      rw [Nat.zero_add, hk]; rfl
    · rw [if_neg hs] at hr ⊢
      have hne : σ.1 < m := by
        rcases Nat.lt_or_ge σ.1 m with h | h
        · exact h
        · exfalso
          have h1 := progL_ge ts g (ks ++ [(declM ts (ruleM ts) σ).1]) (declM ts (ruleM ts) σ).2
          rw [hr] at h1
          rcases declM_on hts hσ with h2 | h2
          · rw [progL_bad ts h2] at hr
            have h3 : (declM ts (ruleM ts) σ).2 = (m, false) := hr
            rw [h3] at h2; cases h2
          · dsimp only at h1; omega
      have hnb : (declM ts (ruleM ts) σ).2.2 = false := by
        cases h2 : (declM ts (ruleM ts) σ).2.2
        · rfl
        · rw [progL_bad ts h2] at hr
          have h3 : (declM ts (ruleM ts) σ).2 = (m, false) := hr
          rw [h3] at h2; cases h2
      have hle : (declM ts (ruleM ts) σ).2.1 ≤ m := by
        have h1 := progL_ge ts g (ks ++ [(declM ts (ruleM ts) σ).1]) (declM ts (ruleM ts) σ).2
        rw [hr] at h1; exact h1
      have hon : σ.1 < (declM ts (ruleM ts) σ).2.1 := by
        rcases declM_on hts hσ with h2 | h2
        · rw [hnb] at h2; cases h2
        · exact h2
      obtain ⟨r1, r2⟩ := declM_sim S hts hσ hne (Or.inr ⟨hle, hnb⟩)
      obtain ⟨n, n1, n2⟩ := ih _ (ks' ++ [(declM us (ruleM us) (shP o σ)).1]) (declM ts (ruleM ts) σ).2 (by rw [hk, r2 hnb, List.map_append]; rfl) hnb hle (declM_lt hσ) (by omega) hr
      refine ⟨n + 1, by omega, fun g' => ?_⟩
      rw [← n2 g', show n + 1 + g' = (n + g') + 1 by omega, progL_succ, if_neg (show ¬ (shP o σ).2 = true by rw [show (shP o σ).2 = σ.2 from rfl, hb]; decide), if_neg (by rw [(S.tx hne).2.1]; exact hs), r1]
end Go.Proofs.YtgifapamogbkeaaDoor
/- ParseRight, the plain law: a source that is cut behind the token that may not be there is told the same fault. Condition: at most 16384 bytes. -/
namespace Go.Proofs.YtgifapamogbkeaaDoor
open Go.RowKit

/-- a source's tokens, as they are handed out, where none of them is at fault -/
def allTk (s : ByteArray) : List Tok := (toksFrom s 0).1 ++ [(7, ⟨#[]⟩, s.size)]
theorem toks_sorted (s : ByteArray) : ∀ (n p : Nat), s.size - p ≤ n → ((toksFrom s p).1).Pairwise (fun a b => a.2.2 < b.2.2) ∧ ∀ t ∈ (toksFrom s p).1, t.2.2 < s.size := by
  intro n
  induction n with
  | zero =>
    intro p h
    rw [toksFrom_end s p (by rw [skip_end s p (by omega)]; omega)]
    exact ⟨List.Pairwise.nil, fun t ht => by cases ht⟩
  | succ n ih =>
    intro p h
    have hge := skip_ge s _ p (Nat.le_refl _)
    by_cases hk : skip s p < s.size
    · by_cases h0 : (tokenAt s (skip s p) s[skip s p]).2.2.1 = 0
      · obtain ⟨n1, n2⟩ := tokenAt_next s (skip s p) hk h0
        rw [toksFrom_ok s p hk h0]
        obtain ⟨i1, i2⟩ := ih (tokenAt s (skip s p) s[skip s p]).2.2.2 (by omega)
        refine ⟨List.Pairwise.cons (fun t ht => ?_) i1, fun t ht => ?_⟩
        · have := toks_from_ge s _ _ (Nat.le_refl _) t ht
          show skip s p < t.2.2
          omega
        · rcases List.mem_cons.1 ht with rfl | ht
          · exact hk
          · exact i2 t ht
      · rw [toksFrom_bad s p hk h0]
        exact ⟨List.Pairwise.nil, fun t ht => by cases ht⟩
    · rw [toksFrom_end s p hk]
      exact ⟨List.Pairwise.nil, fun t ht => by cases ht⟩
theorem allTk_sorted (s : ByteArray) : (allTk s).Pairwise (fun a b => a.2.2 < b.2.2) := by
  obtain ⟨h1, h2⟩ := toks_sorted s _ 0 (Nat.le_refl _)
  unfold allTk
  rw [List.pairwise_append]
  refine ⟨h1, List.pairwise_singleton _ _, fun a ha b hb => ?_⟩
  rw [List.mem_singleton] at hb
  subst hb
  exact h2 a ha
theorem toks_fields (s : ByteArray) : ∀ (n p : Nat), s.size - p ≤ n → p ≤ s.size → ∀ t ∈ (toksFrom s p).1, t.1 < 7 ∧ t.2.1.size ≤ s.size := by
  intro n
  induction n with
  | zero =>
    intro p h hp t ht
    rw [toksFrom_end s p (by rw [skip_end s p (by omega)]; omega)] at ht
    cases ht
  | succ n ih =>
    intro p h hp t ht
    have hge := skip_ge s _ p (Nat.le_refl _)
    by_cases hk : skip s p < s.size
    · by_cases h0 : (tokenAt s (skip s p) s[skip s p]).2.2.1 = 0
      · obtain ⟨n1, n2⟩ := tokenAt_next s (skip s p) hk h0
        obtain ⟨s1, s2, s3⟩ := tokenAt_span s (skip s p) hk h0
        rw [toksFrom_ok s p hk h0] at ht
        rcases List.mem_cons.1 ht with rfl | ht
        · refine ⟨s3, ?_⟩
          dsimp only
          omega
        · exact ih _ (by omega) n2 t ht
      · rw [toksFrom_bad s p hk h0] at ht; cases ht
    · rw [toksFrom_end s p hk] at ht; cases ht
theorem allTk_len (s : ByteArray) : (allTk s).length = (toksFrom s 0).1.length + 1 := by unfold allTk; simp
theorem allTk_ok (s : ByteArray) (hs : s.size ≤ 16384) : TsOk (allTk s) := by
  have hf := toks_fields s _ 0 (Nat.le_refl _) (Nat.zero_le _)
  obtain ⟨_, hp⟩ := toks_sorted s _ 0 (Nat.le_refl _)
  refine ⟨fun t ht => ?_, fun k t hk hl => ?_⟩
  · unfold allTk at ht
    rcases List.mem_append.1 ht with ht | ht
    · obtain ⟨a, b⟩ := hf t ht
      have := hp t ht
      exact ⟨by omega, by omega, by omega⟩
    · rw [List.mem_singleton] at ht
      subst ht
      exact ⟨by show 7 < 256; omega, by show (0 : Nat) ≤ 16384; omega, hs⟩
  · rw [allTk_len] at hl
    unfold allTk at hk
    have hk2 : k < ((toksFrom s 0).1 ++ [(7, (⟨#[]⟩ : ByteArray), s.size)]).length := (List.getElem?_eq_some_iff.1 hk).1
    rw [List.length_append, List.length_singleton] at hk2
    obtain rfl : k = (toksFrom s 0).1.length := by omega
    rw [List.getElem?_append_right (Nat.le_refl _), Nat.sub_self] at hk
    have : (7, (⟨#[]⟩ : ByteArray), s.size) = t := by simpa using hk
    rw [← this]
theorem tokM_append_left {a b : List Tok} {j : Nat} (h : j < a.length) : tokM (a ++ b) j = tokM a j := by
  unfold tokM
  rw [List.getD_eq_getElem?_getD, List.getD_eq_getElem?_getD, List.getElem?_append_left h]
/-- where the token behind one begins, or the source ends -/
def endOf (s : ByteArray) (k : Nat) : Nat := if k + 1 < (allTk s).length then (tokM (allTk s) (k + 1)).2.2 else s.size
theorem ext_whole (s : ByteArray) : s.extract 0 s.size = s := by
  apply bytes_ext
  rw [ext_data, List.drop_zero, Nat.sub_zero]
  exact List.take_of_length_le (by simp)
/-- THE STAGE'S THEOREM, plain: a source that is cut behind the token that may not be there is told the same -/
theorem cut_same (s : ByteArray) (hs : s.size ≤ 16384) (h0 : (toksFrom s 0).2 = none) (k : Nat) (hb : (progD (allTk s)).2 = (k, true)) :
    endOf s k ≤ s.size ∧ (toksFrom (s.extract 0 (endOf s k)) 0).2 = none ∧ (progD (allTk (s.extract 0 (endOf s k)))).2 = (k, true) ∧ (tokM (allTk (s.extract 0 (endOf s k))) k).2.2 = (tokM (allTk s) k).2.2 := by
  have hk : k < (allTk s).length := by
    have := progL_lt (allTk s) ((allTk s).length + 1) [] (0, false) (by rw [allTk_len]; exact Nat.succ_pos _)
    show k < _
    have h2 : (progL (allTk s) ((allTk s).length + 1) [] (0, false)).2 = (k, true) := hb
    rw [h2] at this
    exact this
  have whole : endOf s k = s.size → endOf s k ≤ s.size ∧ (toksFrom (s.extract 0 (endOf s k)) 0).2 = none ∧ (progD (allTk (s.extract 0 (endOf s k)))).2 = (k, true) ∧ (tokM (allTk (s.extract 0 (endOf s k))) k).2.2 = (tokM (allTk s) k).2.2 := by
    intro he
    rw [he, ext_whole]
    exact ⟨Nat.le_refl _, h0, hb, rfl⟩
  by_cases hk1 : k + 1 < (allTk s).length
  · have he : endOf s k = (tokM (allTk s) (k + 1)).2.2 := by unfold endOf; rw [if_pos hk1]
    by_cases hlast : k + 1 < (toksFrom s 0).1.length
    · obtain ⟨hsort, hin⟩ := toks_sorted s _ 0 (Nat.le_refl _)
      have htk : tokM (allTk s) (k + 1) = (toksFrom s 0).1[k + 1] := by
        unfold allTk
        rw [tokM_append_left hlast]
        unfold tokM
        rw [List.getD_eq_getElem?_getD, List.getElem?_eq_getElem hlast]; rfl
      have hmem : (toksFrom s 0).1[k + 1] ∈ (toksFrom s 0).1 := List.getElem_mem hlast
      have hlt := hin _ hmem
      rw [← htk, ← he] at hlt
      obtain ⟨L, R, c1, c2, c3, t, r, c4, c5⟩ := toks_cut s (endOf s k) hlt _ 0 (Nat.le_refl _) (Nat.zero_le _) h0 ⟨_, hmem, by rw [he, htk]⟩
      have hLl : L.length = k + 1 := by
        rw [List.pairwise_iff_getElem] at hsort
        have hR : L.length < (toksFrom s 0).1.length := by rw [c1, c4, List.length_append, List.length_cons]; omega
        have hat : ((toksFrom s 0).1[L.length]).2.2 = endOf s k := by
          have : (toksFrom s 0).1[L.length]? = some t := by rw [c1, c4, List.getElem?_append_right (Nat.le_refl _), Nat.sub_self]; rfl
          have h2 := Option.some.inj ((List.getElem?_eq_getElem hR).symm.trans this)
          rw [h2]; exact c5
        rcases Nat.lt_trichotomy L.length (k + 1) with h | h | h
        · have := hsort _ _ hR hlast h
          rw [hat, he, htk] at this; omega
        · exact h
        · have := hsort _ _ hlast hR h
          rw [hat, he, htk] at this; omega
      have hsx : (s.extract 0 (endOf s k)).size = endOf s k := by rw [ext_size s 0 _ (by omega)]; omega
      have hus : allTk (s.extract 0 (endOf s k)) = L ++ [(7, ⟨#[]⟩, endOf s k)] := by unfold allTk; rw [c2, hsx]
      have hts : allTk s = L ++ (R ++ [(7, ⟨#[]⟩, s.size)]) := by unfold allTk; rw [c1, List.append_assoc]
      have hul : (allTk (s.extract 0 (endOf s k))).length = k + 2 := by rw [hus, List.length_append, hLl]; rfl
      have htok : ∀ j, j < k + 1 → tokM (allTk (s.extract 0 (endOf s k))) j = tokM (allTk s) j := fun j hj => by
        rw [hus, hts, tokM_append_left (by omega), tokM_append_left (by omega)]
      have S : Sim (allTk s) (allTk (s.extract 0 (endOf s k))) 0 0 (k + 1) false :=
        ⟨fun j hj => htok j hj, fun j hj => ⟨fun _ => by omega, fun _ => by omega⟩, (fun h => by cases h), by omega⟩
      have hr : progL (allTk s) ((allTk s).length + 1) [] (0, false) = ((progD (allTk s)).1, (k, true)) := by rw [← hb]; rfl
      obtain ⟨q1, _⟩ := progL_sim S (allTk_ok s hs) ((allTk s).length + 1) ((allTk (s.extract 0 (endOf s k))).length + 1) [] [] (0, false) (fun _ => rfl) (by omega) (Or.inr (by omega)) (Or.inr (by omega)) (by rw [hr]; exact Nat.lt_succ_self _)
      rw [hr] at q1
      refine ⟨by omega, by rw [c2], q1, by rw [htok k (by omega)]⟩
    · refine whole ?_
      rw [allTk_len] at hk1
      rw [he]
      unfold tokM allTk
      rw [List.getD_eq_getElem?_getD, List.getElem?_append_right (by omega)]
      have : k + 1 - (toksFrom s 0).1.length = 0 := by omega
      rw [this]; rfl
  · exact whole (by unfold endOf; rw [if_neg hk1])
end Go.Proofs.YtgifapamogbkeaaDoor
/- What the parser reads is slim: short texts, short lists, places within a source; with no program in sight. Condition: at most 16385 tokens. -/
namespace Go.Proofs.YtgifapamogbkeaaDoor
open Go.RowKit

/-- as the parser makes trees: short texts, places within a source, short lists -/
def Trim : Nat → Tree → Prop
  | 0, T => T.text.size ≤ 16390 ∧ (0 ≤ T.place ∧ T.place ≤ 16384)
  | d + 1, T => T.text.size ≤ 16390 ∧ (0 ≤ T.place ∧ T.place ≤ 16384) ∧ T.kids.length ≤ 16390 ∧ ∀ k ∈ T.kids, Trim d k
theorem Trim.place {d : Nat} {T : Tree} (h : Trim d T) : 0 ≤ T.place ∧ T.place ≤ 16384 := by
  cases d with
  | zero => exact h.2
  | succ d => exact h.2.1
theorem Trim.slim : ∀ {d : Nat} {T : Tree}, Trim d T → Slim d T := by
  intro d
  induction d with
  | zero => intro T h; exact (show T.text.size ≤ 72007 by have := h.1; omega)
  | succ d ih => intro T h; exact ⟨by have := h.1; omega, by have := h.2.2.1; omega, fun k hk => ih (h.2.2.2 k hk)⟩
theorem slim_mk {k : Nat} {t : ByteArray} {n p : Int} {l : List Tree} (ht : t.size ≤ 16390) (hp : 0 ≤ p ∧ p ≤ 16384) (hl : l.length ≤ 16390) (h : ∀ x ∈ l, ∀ d, Trim d x) : ∀ d, Trim d (.mk k t n p l) := by
  intro d
  cases d with
  | zero => exact ⟨ht, hp⟩
  | succ d => exact ⟨ht, hp, hl, fun x hx => h x hx d⟩
section
variable {ts : List Tok}
theorem atM_in (hts : TsOk ts) (σ : PS) : 0 ≤ atM ts σ ∧ atM ts σ ≤ 16384 := by
  have := (tokM_ok hts σ.1).2.2
  unfold atM
  omega
theorem txM_size (hts : TsOk ts) (σ : PS) : (txM ts σ).size ≤ 16384 := (tokM_ok hts σ.1).2.1
theorem ofM_slim (hts : TsOk ts) (σ : PS) (a b : Nat) : ∀ d, Trim d (ofM ts σ a b).1 := slim_mk (by have := (tokM_ok hts σ.1).2.1; omega) (atM_in hts σ) (by simp) (fun x hx => by cases hx)
theorem zero_slim : ∀ d, Trim d zeroT := slim_mk (show (0 : Nat) ≤ 16390 by omega) (by omega) (by simp) (fun x hx => by cases hx)
theorem loopM_slim (hts : TsOk ts) {ex : PS → Tree × PS} (hex : ∀ σ, ∀ d, Trim d (ex σ).1) (lvl : Nat) (pl : Int) (hpl : 0 ≤ pl ∧ pl ≤ 16384) : ∀ (g : Nat) (T : Tree) (σ : PS), (∀ d, Trim d T) → ∀ d, Trim d (loopM ts ex lvl pl g T σ).1 := by
  intro g
  induction g with
  | zero => intro T σ h; exact h
  | succ g ih =>
    intro T σ h
    rw [loopM_succ]
    have h2 : ∀ d, Trim d (.mk 16 (txM ts σ) 0 pl [T, (ex (nextM ts σ)).1]) := slim_mk (by have := txM_size hts σ; omega) hpl (by simp) (fun x hx => by
      rcases List.mem_cons.1 hx with rfl | hx
      · exact h
      · rw [List.mem_singleton] at hx; subst hx; exact hex _)
    split
    · split
      · exact h2
      · exact ih _ _ h2
    · exact h
theorem exM_slim (hts : TsOk ts) : ∀ (f lvl : Nat) (σ : PS), ∀ d, Trim d (exM ts f lvl σ).1 := by
  intro f
  induction f with
  | zero => intro lvl σ; exact zero_slim
  | succ f ih =>
    intro lvl σ
    unfold exM
    (repeat' split)
    · exact zero_slim
    · exact slim_mk (by have := txM_size hts σ; omega) (atM_in hts σ) (by simp) (fun x hx => by rw [List.mem_singleton] at hx; subst hx; exact ih _ _)
    · exact ih _ _
    · exact ofM_slim hts _ _ _
    · exact ofM_slim hts _ _ _
    · exact ofM_slim hts _ _ _
    · exact loopM_slim hts (fun σ => ih _ σ) _ _ (atM_in hts σ) _ _ _ (ih _ _)
/-- a list of parts, no longer than the tokens gone by -/
def SlimL (l : List Tree) : Prop := l.length ≤ 16390 ∧ ∀ x ∈ l, ∀ d, Trim d x
theorem slim_push {ks : List Tree} {t : Tree} (h : ∀ x ∈ ks, ∀ d, Trim d x) (ht : ∀ d, Trim d t) : ∀ x ∈ ks ++ [t], ∀ d, Trim d x := fun x hx => by
  rcases List.mem_append.1 hx with hx | hx
  · exact h x hx
  · rw [List.mem_singleton] at hx; subst hx; exact ht
theorem rowLoop_slim (hts : TsOk ts) (hn : ts.length ≤ 16385) {one : PS → Tree × PS} (hone : ∀ σ, ∀ d, Trim d (one σ).1) (hge : ∀ σ, σ.1 ≤ (one σ).2.1) (hlt : ∀ σ : PS, σ.1 < ts.length → (one σ).2.1 < ts.length) :
    ∀ (g : Nat) (ks : List Tree) (σ : PS), σ.1 < ts.length → ks.length ≤ σ.1 + 1 → (∀ x ∈ ks, ∀ d, Trim d x) → SlimL (rowLoop ts one g ks σ).1 := by
  intro g
  induction g with
  | zero => intro ks σ hσ hl h; exact ⟨by show ks.length ≤ _; omega, h⟩
  | succ g ih =>
    intro ks σ hσ hl h
    rw [rowLoop_succ]
    by_cases hi : isM ts σ [tComma] = true
    · rw [if_pos hi]
      obtain ⟨q1, q2, q3⟩ := next_on hts hσ hi
      have h1 := hge (nextM ts σ)
      exact ih _ _ (hlt _ (by omega)) (by rw [List.length_append, List.length_singleton]; omega) (slim_push h (hone _))
    · rw [if_neg hi]
      exact ⟨by show ks.length ≤ _; omega, h⟩
theorem rowM_slim (hts : TsOk ts) (hn : ts.length ≤ 16385) {one : PS → Tree × PS} (hone : ∀ σ, ∀ d, Trim d (one σ).1) (hge : ∀ σ, σ.1 ≤ (one σ).2.1) (hlt : ∀ σ : PS, σ.1 < ts.length → (one σ).2.1 < ts.length) {σ : PS} (hσ : σ.1 < ts.length) : SlimL (rowM ts one σ).1 :=
  rowLoop_slim hts hn hone hge hlt _ _ _ (hlt _ hσ) (by simp) (fun x hx => by rw [List.mem_singleton] at hx; subst hx; exact hone _)
theorem listM_slim (hts : TsOk ts) (hn : ts.length ≤ 16385) {one : PS → Tree × PS} (hone : ∀ σ, ∀ d, Trim d (one σ).1) (hge : ∀ σ, σ.1 ≤ (one σ).2.1) (hlt : ∀ σ : PS, σ.1 < ts.length → (one σ).2.1 < ts.length) {σ : PS} (hσ : σ.1 < ts.length) : SlimL (listM ts one σ).1 := by
  unfold listM
  split
  · exact ⟨by simp, fun x hx => by cases hx⟩
  · exact rowM_slim hts hn hone hge hlt (want_in hσ _)
theorem upTo_slim (hn : ts.length ≤ 16385) {one : PS → Tree × PS} (hone : ∀ σ : PS, σ.1 < ts.length → ∀ d, Trim d (one σ).1) (hge : ∀ σ, σ.1 ≤ (one σ).2.1) (hlt : ∀ σ : PS, σ.1 < ts.length → (one σ).2.1 < ts.length) (hon : ∀ σ : PS, σ.1 < ts.length → (one σ).2.2 = true ∨ σ.1 < (one σ).2.1) (stop : ByteArray) :
    ∀ (g : Nat) (ks : List Tree) (σ : PS), σ.1 < ts.length → ks.length ≤ σ.1 + (if σ.2 = true then 1 else 0) → (∀ x ∈ ks, ∀ d, Trim d x) → SlimL (upTo ts one stop g ks σ).1 ∧ (upTo ts one stop g ks σ).1.length ≤ (upTo ts one stop g ks σ).2.1 + (if (upTo ts one stop g ks σ).2.2 = true then 1 else 0) := by
  intro g
  induction g with
  | zero =>
    intro ks σ hσ hl h
    refine ⟨⟨?_, h⟩, hl⟩
    show ks.length ≤ _
    split at hl <;> omega
  | succ g ih =>
    intro ks σ hσ hl h
    have done : SlimL ks := ⟨by split at hl <;> omega, h⟩
    rw [upTo_succ]
    by_cases hb : σ.2 = true
    · rw [if_pos hb]; exact ⟨done, hl⟩
    · rw [if_neg hb]
      by_cases hi : isM ts σ [stop] = true
      · rw [if_pos hi]; exact ⟨done, hl⟩
      · rw [if_neg hi]
        rw [if_neg hb] at hl
        have h1 := hge σ
        refine ih _ _ (hlt _ hσ) ?_ (slim_push h (hone _ hσ))
        rw [List.length_append, List.length_singleton]
        rcases hon σ hσ with h | h
        · rw [if_pos h]; omega
        · split <;> omega
theorem argM_slim (hts : TsOk ts) (σ : PS) : ∀ d, Trim d (argM ts σ).1 := by
  unfold argM
  (repeat' split)
  · exact slim_mk (show (0 : Nat) ≤ 16390 by omega) (atM_in hts σ) (by simp) (fun x hx => by cases hx)
  · refine slim_mk ?_ (atM_in hts σ) (by simp) (fun x hx => by cases hx)
    have h1 := txM_size hts (nextM ts σ)
    have h2 : (tMinus ++ txM ts (nextM ts σ)).size = 1 + (txM ts (nextM ts σ)).size := by rw [ByteArray.size_append]; rfl
    omega
  · exact ofM_slim hts _ _ _
  · exact ofM_slim hts _ _ _
  · exact ofM_slim hts _ _ _
theorem ofM_text (hts : TsOk ts) (σ : PS) (a b : Nat) : (ofM ts σ a b).1.text.size ≤ 16390 := by
  have := (tokM_ok hts σ.1).2.1
  show (tokM ts σ.1).2.1.size ≤ _
  omega
theorem condM_slim (hts : TsOk ts) (hn : ts.length ≤ 16385) {σ : PS} (hσ : σ.1 < ts.length) : ∀ d, Trim d (condM ts (argM ts) σ).1 := by
  have hl : ∀ {ρ : PS}, ρ.1 < ts.length → SlimL (listM ts (argM ts) ρ).1 := fun h => listM_slim hts hn (argM_slim hts) (argM_ge ts) (fun _ h => argM_lt h) h
  unfold condM
  (repeat' split)
  · exact slim_mk (show (0 : Nat) ≤ 16390 by omega) (atM_in hts σ) (by simp) (fun x hx => by rw [List.mem_singleton] at hx; subst hx; exact exM_slim hts _ _ _)
  · exact slim_mk (ofM_text hts _ _ _) (atM_in hts σ) (hl (of_in (next_lt hσ) 2 6)).1 (hl (of_in (next_lt hσ) 2 6)).2
  · exact slim_mk (ofM_text hts _ _ _) (atM_in hts σ) (hl (of_in hσ 2 5)).1 (hl (of_in hσ 2 5)).2
theorem actM_slim (hts : TsOk ts) (hn : ts.length ≤ 16385) {σ : PS} (hσ : σ.1 < ts.length) : ∀ d, Trim d (actM ts σ).1 := by
  have hx : ∀ σ : PS, σ.1 < ts.length → (exprM ts σ).2.1 < ts.length := fun σ h => exM_lt _ _ _ h
  have hl : ∀ {ρ : PS}, ρ.1 < ts.length → SlimL (listM ts (exprM ts) ρ).1 := fun h => listM_slim hts hn (fun σ => exM_slim hts _ _ σ) (exprM_ge ts) hx h
  have hr : ∀ {ρ : PS}, ρ.1 < ts.length → SlimL (rowM ts (exprM ts) ρ).1 := fun h => rowM_slim hts hn (fun σ => exM_slim hts _ _ σ) (exprM_ge ts) hx h
  unfold actM
  (repeat' split)
  · exact slim_mk (ofM_text hts _ _ _) (atM_in hts σ) (hl (of_in (next_lt hσ) 2 8)).1 (hl (of_in (next_lt hσ) 2 8)).2
  · exact slim_mk (show (0 : Nat) ≤ 16390 by omega) (atM_in hts σ) (by simp) (fun x hx => by cases hx)
  · exact slim_mk (show (0 : Nat) ≤ 16390 by omega) (atM_in hts σ) (hr (next_lt hσ)).1 (hr (next_lt hσ)).2
  · exact slim_mk (show (0 : Nat) ≤ 16390 by omega) (atM_in hts σ) (by simp) (fun x hx => by cases hx)
theorem ruleM_slim (hts : TsOk ts) (hn : ts.length ≤ 16385) (a : Int) (ha : 0 ≤ a ∧ a ≤ 16384) {σ : PS} (hσ : σ.1 < ts.length) : ∀ d, Trim d (ruleM ts a σ).1 := by
  unfold ruleM
  dsimp only
  have p3 := want_in (salM_lt (of_in hσ (ts := ts) 2 4)) tLeft
  obtain ⟨c1, c2⟩ := upTo_slim hn (fun σ h => condM_slim hts hn h) (condM_ge (argM_ge ts)) (fun _ h => condM_lt h) (fun σ h => condM_on hts (argM_ge ts) (fun _ h => argM_bad h) h) tTo (ts.length + 1) [] _ p3 (Nat.zero_le _) (fun x hx => by cases hx)
  have p4 := upTo_lt (fun _ h => condM_lt h) tTo (ts.length + 1) [] _ p3
  generalize upTo ts (condM ts (argM ts)) tTo (ts.length + 1) [] (wantM ts (salM ts (ofM ts σ 2 4).2).2 tLeft) = cs at *
  have hw := wantM_ge ts cs.2 tTo
  obtain ⟨z1, _⟩ := upTo_slim hn (fun σ h => actM_slim hts hn h) (actM_ge ts) (fun _ h => actM_lt h) (fun σ h => actM_on hts h) tRight (ts.length + 1) cs.1 _ (want_in p4 tTo) (by
    by_cases h : cs.2.2 = true
    · rw [if_pos h] at c2; rw [if_pos (wantM_bad h _)]; omega
    · rw [if_neg h] at c2; omega) c1.2
  exact slim_mk (ofM_text hts _ _ _) ha z1.1 z1.2
theorem declM_slim (hts : TsOk ts) (hn : ts.length ≤ 16385) {σ : PS} (hσ : σ.1 < ts.length) : ∀ d, Trim d (declM ts (ruleM ts) σ).1 := by
  have hl : ∀ {ρ : PS}, ρ.1 < ts.length → SlimL (listM ts (fun σ => ofM ts σ 2 3) ρ).1 := fun h => listM_slim hts hn (fun σ => ofM_slim hts σ 2 3) (fun σ => ofM_ge ts σ 2 3) (fun _ h => of_in h 2 3) h
  unfold declM
  split
  · exact slim_mk (ofM_text hts _ _ _) (atM_in hts σ) (hl (of_in (next_lt hσ) 2 2)).1 (hl (of_in (next_lt hσ) 2 2)).2
  · exact ruleM_slim hts hn _ (atM_in hts σ) (want_in hσ _)
theorem progL_slim (hts : TsOk ts) (hn : ts.length ≤ 16385) : ∀ (g : Nat) (ks : List Tree) (σ : PS), σ.1 < ts.length → ks.length ≤ σ.1 + (if σ.2 = true then 1 else 0) → (∀ x ∈ ks, ∀ d, Trim d x) → SlimL (progL ts g ks σ).1 := by
  intro g
  induction g with
  | zero =>
    intro ks σ hσ hl h
    refine ⟨?_, h⟩
    show ks.length ≤ _
    split at hl <;> omega
  | succ g ih =>
    intro ks σ hσ hl h
    have done : SlimL ks := ⟨by split at hl <;> omega, h⟩
    rw [progL_succ]
    by_cases hb : σ.2 = true
    · rw [if_pos hb]; exact done
    · rw [if_neg hb]
      split
      · exact done
      · rw [if_neg hb] at hl
        have h1 := declM_ge (ts := ts) (ruleM_ge ts) σ
        refine ih _ _ (declM_lt hσ) ?_ (slim_push h (declM_slim hts hn hσ))
        rw [List.length_append, List.length_singleton]
        rcases declM_on hts hσ with h | h
        · rw [if_pos h]; omega
        · split <;> omega
theorem progD_slim (hts : TsOk ts) (hn : ts.length ≤ 16385) (h0 : 0 < ts.length) : SlimL (progD ts).1 := progL_slim hts hn _ _ _ h0 (Nat.zero_le _) (fun x hx => by cases hx)
end
end Go.Proofs.YtgifapamogbkeaaDoor
/- ParseParts, the plain law: two programs, one behind the other; an expression in brackets, with a comment around it. Condition: at most 16384 bytes. -/
namespace Go.Proofs.YtgifapamogbkeaaDoor
open Go.RowKit

theorem shT_zero : ∀ T : Tree, shT 0 T = T
  | .mk k t n p l => by
    rw [shT_mk]
    have h : l.map (shT 0) = l := by
      conv => rhs; rw [← List.map_id l]
      exact List.map_congr_left fun x hx => shT_zero x
    rw [h]; simp
theorem progL_acc (ts : List Tok) (k0 : List Tree) : ∀ (g : Nat) (ks : List Tree) (σ : PS), progL ts g (k0 ++ ks) σ = (k0 ++ (progL ts g ks σ).1, (progL ts g ks σ).2) := by
  intro g
  induction g with
  | zero => intro ks σ; rfl
  | succ g ih =>
    intro ks σ
    rw [progL_succ, progL_succ]
    split
    · rfl
    · split
      · rfl
      · rw [List.append_assoc]; exact ih _ _
theorem shTk_zero (L : List Tok) : L.map (shTk 0) = L := by
  conv => rhs; rw [← List.map_id L]
  exact List.map_congr_left fun x _ => rfl
theorem blank_step (S : ByteArray) (p : Nat) (c : UInt8) (r : List UInt8) (hc : blankB c = true) (h : S.data.toList.drop p = c :: r) : toksFrom S p = toksFrom S (p + 1) ∧ S.data.toList.drop (p + 1) = r := by
  have hp : p < S.size := by
    rcases Nat.lt_or_ge p S.size with hp | hp
    · exact hp
    · rw [drop_end S p hp] at h; cases h
  rw [drop_cons S p hp] at h
  injection h with h1 h2
  refine ⟨?_, h2⟩
  rw [← toksFrom_skip, skip_blank S p hp (by rw [h1]; exact hc), toksFrom_skip]
theorem toks_join (a b S : ByteArray) (hS : S.data.toList = a.data.toList ++ 10 :: b.data.toList) (ha : (toksFrom a 0).2 = none) (hb : (toksFrom b 0).2 = none) :
    (toksFrom S 0).2 = none ∧ allTk S = (toksFrom a 0).1 ++ (allTk b).map (shTk (a.size + 1)) := by
  have hal : a.data.toList.length = a.size := by simp
  have hbl : b.data.toList.length = b.size := by simp
  have hSl : S.size = a.size + 1 + b.size := by
    have := congrArg List.length hS
    rw [List.length_append, List.length_cons, hal, hbl] at this
    have e : S.data.toList.length = S.size := by simp
    omega
  obtain ⟨h1, _⟩ := toks_in S a 0 (10 :: b.data.toList) (by rw [List.drop_zero]; exact hS) (Or.inr ⟨_, rfl⟩) (Nat.zero_le _) _ 0 (Nat.le_refl _) (Nat.zero_le _)
  have h2 := h1 ha
  have hd : S.data.toList.drop (0 + a.size) = 10 :: b.data.toList := by rw [hS, Nat.zero_add, ← hal, List.drop_left]
  obtain ⟨h3, h4⟩ := blank_step S (0 + a.size) 10 _ rfl hd
  obtain ⟨h5, _⟩ := toks_in S b (a.size + 1) [] (by rw [show a.size + 1 = 0 + a.size + 1 by omega, h4, List.append_nil]) (Or.inl rfl) (by omega) _ 0 (Nat.le_refl _) (Nat.zero_le _)
  have h6 := h5 hb
  rw [Nat.add_zero] at h6
  have h7 : toksFrom S (a.size + 1 + b.size) = ([], none) := toksFrom_end S _ (by rw [skip_end S _ (by omega)]; omega)
  rw [h7, List.append_nil] at h6
  have h8 : toksFrom S 0 = ((toksFrom a 0).1 ++ (toksFrom b 0).1.map (shTk (a.size + 1)), none) := by
    have e : toksFrom S 0 = _ := h2
    rw [e, h3, show 0 + a.size + 1 = a.size + 1 by omega, h6, shTk_zero]
  refine ⟨by rw [h8], ?_⟩
  unfold allTk
  rw [h8, List.map_append, List.append_assoc]
  have : [((7, ⟨#[]⟩, b.size) : Tok)].map (shTk (a.size + 1)) = [(7, ⟨#[]⟩, S.size)] := by
    rw [List.map_singleton]
    unfold shTk
    rw [hSl]; dsimp only
    rw [show b.size + (a.size + 1) = a.size + 1 + b.size by omega]
  rw [this]
theorem tokM_get {l : List Tok} {j : Nat} {t : Tok} (h : l[j]? = some t) : tokM l j = t := by unfold tokM; rw [List.getD_eq_getElem?_getD, h]; rfl
/-- two programs, one behind the other -/
theorem prog_join (a b S : ByteArray) (ka kb : List Tree) (na nb : Nat) (hS : S.data.toList = a.data.toList ++ 10 :: b.data.toList) (hsz : S.size ≤ 16384) (ha : (toksFrom a 0).2 = none) (hb : (toksFrom b 0).2 = none)
    (hpa : progD (allTk a) = (ka, (na, false))) (hpb : progD (allTk b) = (kb, (nb, false))) (hna : kdM (allTk a) (na, false) = 7) :
    (toksFrom S 0).2 = none ∧ ∃ n, progD (allTk S) = (ka ++ kb.map (shT (a.size + 1)), (n, false)) := by
  obtain ⟨h0, hts⟩ := toks_join a b S hS ha hb
  refine ⟨h0, na + nb, ?_⟩
  have hal := allTk_len a
  have hbl := allTk_len b
  have hSl : (allTk S).length = (toksFrom a 0).1.length + (allTk b).length := by rw [hts, List.length_append, List.length_map]
  have hsa : a.size ≤ S.size := by
    have := congrArg List.length hS
    simp at this
    omega
  have hsb : b.size ≤ S.size := by
    have := congrArg List.length hS
    simp at this
    omega
  have hA := allTk_ok a (by omega)
  have hB := allTk_ok b (by omega)
  have hnl : na < (allTk a).length := by
    have := progL_lt (allTk a) ((allTk a).length + 1) [] (0, false) (by rw [hal]; exact Nat.succ_pos _)
    have h2 : progL (allTk a) ((allTk a).length + 1) [] (0, false) = (ka, (na, false)) := hpa
    rw [h2] at this; exact this
  have hna' : na = (toksFrom a 0).1.length := by
    rcases Nat.lt_or_ge na (toksFrom a 0).1.length with h | h
    · exfalso
      have h1 : tokM (allTk a) na = (toksFrom a 0).1[na] := by
        unfold allTk
        rw [tokM_append_left h]
        exact tokM_get (List.getElem?_eq_getElem h)
      have h2 := (toks_fields a _ 0 (Nat.le_refl _) (Nat.zero_le _) _ (List.getElem_mem h)).1
      rw [← h1] at h2
      have h3 : (tokM (allTk a) na).1 = 7 := hna
      omega
    · omega
  have S1 : Sim (allTk a) (allTk S) 0 0 (toksFrom a 0).1.length false := by
    refine ⟨fun j hj => ?_, fun j hj => ⟨fun _ => by omega, fun _ => by omega⟩, (fun h => by cases h), by omega⟩
    rw [Nat.add_zero, hts, tokM_append_left hj]
    show _ = tokM (allTk a) j
    unfold allTk
    rw [tokM_append_left hj]
  have S2 : Sim (allTk b) (allTk S) (toksFrom a 0).1.length (a.size + 1) (allTk b).length false := by
    refine ⟨fun j hj => ?_, fun j hj => ⟨fun _ => by omega, fun _ => by omega⟩, (fun h => by cases h), by omega⟩
    have h1 := tokM_at hj
    refine tokM_get ?_
    rw [hts, List.getElem?_append_right (by omega), Nat.add_sub_cancel, List.getElem?_map, h1]; rfl
  have ea : progL (allTk a) ((allTk a).length + 1) [] (0, false) = (ka, (na, false)) := hpa
  have eb : progL (allTk b) ((allTk b).length + 1) [] (0, false) = (kb, (nb, false)) := hpb
  obtain ⟨n, n1, n2⟩ := progL_part S1 hA ((allTk a).length + 1) [] [] (0, false) rfl rfl (Nat.zero_le _) (by omega) (by omega) (by rw [ea, hna'])
  rw [ea] at n2
  have hkz : ka.map (shT 0) = ka := by
    conv => rhs; rw [← List.map_id ka]
    exact List.map_congr_left fun x _ => shT_zero x
  show progL (allTk S) ((allTk S).length + 1) [] (0, false) = _
  have n3 := n2 ((allTk S).length + 1 - n)
  rw [show n + ((allTk S).length + 1 - n) = (allTk S).length + 1 by omega] at n3
  have n4 : progL (allTk S) ((allTk S).length + 1) [] (0, false) = progL (allTk S) ((allTk S).length + 1 - n) ka (shP (toksFrom a 0).1.length (0, false)) := by
    refine Eq.trans n3 ?_
    show progL _ _ (ka.map (shT 0)) _ = _
    rw [hkz]
    unfold shP
    rw [Nat.zero_add]; rfl
  rw [n4]
  have nbl : nb < (allTk b).length := by
    have := progL_lt (allTk b) ((allTk b).length + 1) [] (0, false) (by rw [hbl]; exact Nat.succ_pos _)
    rw [eb] at this; exact this
  obtain ⟨q1, q2⟩ := progL_sim S2 hB ((allTk b).length + 1) ((allTk S).length + 1 - n) [] [] (0, false) (fun _ => rfl) (by omega) (Or.inr (by omega)) (Or.inr (by simp only [Nat.sub_zero] at n1; omega)) (by rw [eb]; exact nbl)
  rw [eb] at q1 q2
  have q3 := q2 rfl
  have q4 := progL_acc (allTk S) ka ((allTk S).length + 1 - n) [] (shP (toksFrom a 0).1.length (0, false))
  rw [List.append_nil, q1, q3] at q4
  rw [q4]
  unfold shP
  dsimp only
  rw [hna', Nat.add_comm nb]
/-- a word of a source, with a blank behind it, or a line's end, or nothing -/
theorem word_step (S : ByteArray) (p : Nat) (x t : List UInt8) (kd : Nat) (tx : ByteArray) (h : S.data.toList.drop p = x ++ t) (ht : GapEnd t) (hx : x ≠ []) (hs : skS false (x ++ t) = x ++ t) (hT : tokL x = (kd, tx, 0, x.length)) :
    toksFrom S p = ((kd, tx, p) :: (toksFrom S (p + x.length)).1, (toksFrom S (p + x.length)).2) ∧ S.data.toList.drop (p + x.length) = t := by
  have hp : p < S.size := by
    rcases Nat.lt_or_ge p S.size with hp | hp
    · exact hp
    · rw [drop_end S p hp] at h
      have := congrArg List.length h
      have := List.length_pos_iff.2 hx
      simp at *
      omega
  have hl := skip_len S p (by omega)
  rw [h, hs] at hl
  have hdl := congrArg List.length h
  rw [List.length_drop] at hdl
  have e : S.data.toList.length = S.size := by simp
  have hk : skip S p = p := by omega
  have htk : tokenAt S (skip S p) (S[skip S p]'(by omega)) = (kd, tx, 0, p + x.length) := by
    rw [tokenAt_list S _ (by omega), hk, h, tokL_line hx ht, hT]
  refine ⟨?_, by rw [← List.drop_drop, h, List.drop_left]⟩
  rw [toksFrom_ok S p (by omega) (by rw [htk])]
  simp only [htk]
  rw [hk]
theorem progL_end {ts : List Tok} (hts : TsOk ts) : ∀ (g : Nat) (ks : List Tree) (σ : PS) (n : Nat), σ.1 < ts.length → (σ.2 = true ∨ ts.length - σ.1 + 1 ≤ g) → (progL ts g ks σ).2 = (n, false) → kdM ts (n, false) = 7 := by
  intro g
  induction g with
  | zero =>
    intro ks σ n hσ hg h
    have h2 : σ = (n, false) := h
    rcases hg with hg | hg
    · rw [h2] at hg; cases hg
    · omega
  | succ g ih =>
    intro ks σ n hσ hg h
    by_cases hb : σ.2 = true
    · rw [progL_bad ts hb] at h
      have h2 : σ = (n, false) := h
      rw [h2] at hb; cases hb
    · rw [progL_succ, if_neg hb] at h
      by_cases hk : kdM ts σ = 7
      · rw [if_pos hk] at h
        have h2 : σ = (n, false) := h
        rw [← h2]; exact hk
      · rw [if_neg hk] at h
        refine ih _ _ n (declM_lt hσ) ?_ h
        rcases declM_on hts hσ with h3 | h3
        · exact Or.inl h3
        · right
          rcases hg with hg | hg
          · exact absurd hg hb
          · omega
theorem progL_len (ts : List Tok) : ∀ (g : Nat) (ks : List Tree) (σ : PS), ks.length ≤ (progL ts g ks σ).1.length := by
  intro g
  induction g with
  | zero => intro ks σ; exact Nat.le_refl _
  | succ g ih =>
    intro ks σ
    rw [progL_succ]
    split
    · exact Nat.le_refl _
    · split
      · exact Nat.le_refl _
      · have := ih (ks ++ [(declM ts (ruleM ts) σ).1]) (declM ts (ruleM ts) σ).2
        rw [List.length_append] at this
        omega
theorem upTo_len (ts : List Tok) (one : PS → Tree × PS) (stop : ByteArray) : ∀ (g : Nat) (ks : List Tree) (σ : PS), ks.length ≤ (upTo ts one stop g ks σ).1.length := by
  intro g
  induction g with
  | zero => intro ks σ; exact Nat.le_refl _
  | succ g ih =>
    intro ks σ
    rw [upTo_succ]
    split
    · exact Nat.le_refl _
    · split
      · exact Nat.le_refl _
      · have := ih (ks ++ [(one σ).1]) (one σ).2
        rw [List.length_append] at this
        omega
theorem rowLoop_len (ts : List Tok) (one : PS → Tree × PS) : ∀ (g : Nat) (ks : List Tree) (σ : PS), ks.length ≤ (rowLoop ts one g ks σ).1.length := by
  intro g
  induction g with
  | zero => intro ks σ; exact Nat.le_refl _
  | succ g ih =>
    intro ks σ
    rw [rowLoop_succ]
    split
    · have := ih (ks ++ [(one (nextM ts σ)).1]) (one (nextM ts σ)).2
      rw [List.length_append] at this
      omega
    · exact Nat.le_refl _
def preL : List UInt8 := [114, 117, 108, 101, 32, 114, 32, 123, 32, 61, 62, 32, 115, 97, 121, 32]
def tNameR : ByteArray := ⟨#[114]⟩
def frontT : List Tok := [(1, tRule, 0), (2, tNameR, 5), (6, tLeft, 7), (6, tTo, 9), (1, tSay, 12)]
theorem gap_sp (r : List UInt8) : GapEnd (32 :: r) := Or.inr ⟨32, r, rfl, Or.inr rfl⟩
theorem toks_front (S : ByteArray) (t : List UInt8) (hS : S.data.toList = preL ++ t) : toksFrom S 0 = (frontT ++ (toksFrom S 16).1, (toksFrom S 16).2) ∧ S.data.toList.drop 16 = t := by
  have d0 : S.data.toList.drop 0 = [114, 117, 108, 101] ++ (32 :: ([114, 32, 123, 32, 61, 62, 32, 115, 97, 121, 32] ++ t)) := by rw [List.drop_zero, hS]; rfl
  obtain ⟨w1, d1⟩ := word_step S 0 _ _ 1 tRule d0 (gap_sp _) (by decide) rfl rfl
  obtain ⟨b1, d1'⟩ := blank_step S _ 32 _ rfl d1
  obtain ⟨w2, d2⟩ := word_step S 5 [114] (32 :: ([123, 32, 61, 62, 32, 115, 97, 121, 32] ++ t)) 2 tNameR (by exact d1') (gap_sp _) (by decide) rfl rfl
  obtain ⟨b2, d2'⟩ := blank_step S _ 32 _ rfl d2
  obtain ⟨w3, d3⟩ := word_step S 7 [123] (32 :: ([61, 62, 32, 115, 97, 121, 32] ++ t)) 6 tLeft (by exact d2') (gap_sp _) (by decide) rfl rfl
  obtain ⟨b3, d3'⟩ := blank_step S _ 32 _ rfl d3
  obtain ⟨w4, d4⟩ := word_step S 9 [61, 62] (32 :: ([115, 97, 121, 32] ++ t)) 6 tTo (by exact d3') (gap_sp _) (by decide) rfl rfl
  obtain ⟨b4, d4'⟩ := blank_step S _ 32 _ rfl d4
  obtain ⟨w5, d5⟩ := word_step S 12 [115, 97, 121] (32 :: t) 1 tSay (by exact d4') (gap_sp _) (by decide) rfl rfl
  obtain ⟨b5, d5'⟩ := blank_step S _ 32 _ rfl d5
  have e5 : toksFrom S 12 = ((1, tSay, 12) :: (toksFrom S 16).1, (toksFrom S 16).2) := by rw [w5, b5]; rfl
  have e4 : toksFrom S 9 = ((6, tTo, 9) :: (toksFrom S 12).1, (toksFrom S 12).2) := by rw [w4, b4]; rfl
  have e3 : toksFrom S 7 = ((6, tLeft, 7) :: (toksFrom S 9).1, (toksFrom S 9).2) := by rw [w3, b3]; rfl
  have e2 : toksFrom S 5 = ((2, tNameR, 5) :: (toksFrom S 7).1, (toksFrom S 7).2) := by rw [w2, b2]; rfl
  have e1 : toksFrom S 0 = ((1, tRule, 0) :: (toksFrom S 5).1, (toksFrom S 5).2) := by rw [w1, b1]; rfl
  refine ⟨?_, d5'⟩
  rw [e1, e2, e3, e4, e5]; rfl
theorem toks_done (S : ByteArray) (p : Nat) (h : S.size ≤ p) : toksFrom S p = ([], none) := toksFrom_end S p (by rw [skip_end S p h]; omega)
/-- the tokens of the one source -/
theorem toks_one (S a : ByteArray) (hS : S.data.toList = preL ++ (a.data.toList ++ [10, 59, 32, 125])) (h0 : (toksFrom S 0).2 = none) :
    (toksFrom a 0).2 = none ∧ allTk S = frontT ++ ((toksFrom a 0).1.map (shTk 16) ++ [(6, tSemi, 17 + a.size), (6, tRight, 19 + a.size), (7, ⟨#[]⟩, 20 + a.size)]) := by
  have hal : a.data.toList.length = a.size := by simp
  have hsz : S.size = 20 + a.size := by
    have := congrArg List.length hS
    have e : S.data.toList.length = S.size := by simp
    rw [e, List.length_append, List.length_append, hal] at this
    have e2 : preL.length = 16 := rfl
    simp only [List.length_cons, List.length_nil] at this
    omega
  obtain ⟨f1, f2⟩ := toks_front S _ hS
  obtain ⟨g1, g2⟩ := toks_in S a 16 [10, 59, 32, 125] f2 (Or.inr ⟨_, rfl⟩) (by omega) _ 0 (Nat.le_refl _) (Nat.zero_le _)
  have ha : (toksFrom a 0).2 = none := by
    cases hx : (toksFrom a 0).2 with
    | none => rfl
    | some q =>
      exfalso
      obtain ⟨er, pl⟩ := q
      have := g2 er pl hx
      rw [f1] at h0
      have h3 : (toksFrom S 16).2 = none := h0
      rw [Nat.add_zero, h3] at this
      cases this
  refine ⟨ha, ?_⟩
  have g3 := g1 ha
  have d0 : S.data.toList.drop (16 + a.size) = 10 :: [59, 32, 125] := by rw [← List.drop_drop, f2, ← hal, List.drop_left]
  obtain ⟨b1, d1⟩ := blank_step S _ 10 _ rfl d0
  obtain ⟨w2, d2⟩ := word_step S _ [59] [32, 125] 6 tSemi (by exact d1) (gap_sp _) (by decide) rfl rfl
  obtain ⟨b2, d2'⟩ := blank_step S _ 32 _ rfl d2
  obtain ⟨w3, d3⟩ := word_step S _ [125] [] 6 tRight (by exact d2') (Or.inl rfl) (by decide) rfl rfl
  have e : toksFrom S 0 = (frontT ++ ((toksFrom a 0).1.map (shTk 16) ++ [(6, tSemi, 16 + a.size + 1), (6, tRight, 16 + a.size + 1 + 1 + 1)]), none) := by
    rw [f1]
    rw [Nat.add_zero] at g3
    rw [g3, b1, w2]
    have w4 : toksFrom S (16 + a.size + 1 + [(59 : UInt8)].length) = ((6, tRight, 16 + a.size + 1 + 1 + 1) :: [], none) := by
      rw [b2, w3, toks_done S _ (by simp only [List.length_cons, List.length_nil]; omega)]; rfl
    rw [w4]
  unfold allTk
  rw [e, hsz, List.append_assoc, List.append_assoc]
  rw [show 16 + a.size + 1 = 17 + a.size by omega, show 17 + a.size + 1 + 1 = 19 + a.size by omega]
  rfl
/-- the tokens of the other, with brackets and a comment -/
theorem toks_two (S a : ByteArray) (hS : S.data.toList = preL ++ ([40, 32, 35, 32, 99, 10] ++ (a.data.toList ++ [10, 41, 32, 59, 32, 125]))) (ha : (toksFrom a 0).2 = none) :
    (toksFrom S 0).2 = none ∧ allTk S = frontT ++ ((6, tOpen, 16) :: ((toksFrom a 0).1.map (shTk 22) ++ [(6, tShut, 23 + a.size), (6, tSemi, 25 + a.size), (6, tRight, 27 + a.size), (7, ⟨#[]⟩, 28 + a.size)])) := by
  have hal : a.data.toList.length = a.size := by simp
  have hsz : S.size = 28 + a.size := by
    have := congrArg List.length hS
    have e : S.data.toList.length = S.size := by simp
    rw [e, List.length_append, List.length_append, List.length_append, hal] at this
    have e2 : preL.length = 16 := rfl
    simp only [List.length_cons, List.length_nil] at this
    omega
  obtain ⟨f1, f2⟩ := toks_front S _ hS
  obtain ⟨o1, o2⟩ := word_step S 16 [40] (32 :: ([35, 32, 99, 10] ++ (a.data.toList ++ [10, 41, 32, 59, 32, 125]))) 6 tOpen (by exact f2) (gap_sp _) (by decide) rfl rfl
  have hsk : skip S (16 + [(40 : UInt8)].length) = skip S 22 := by
    have hx := skip_len S (16 + [(40 : UInt8)].length) (by simp only [List.length_cons, List.length_nil]; omega)
    rw [o2] at hx
    have d22 : S.data.toList.drop 22 = a.data.toList ++ [10, 41, 32, 59, 32, 125] := by
      have := congrArg (List.drop 6) f2
      rw [List.drop_drop] at this
      exact this
    have hy := skip_len S 22 (by omega)
    rw [d22] at hy
    have : skS false (32 :: ([35, 32, 99, 10] ++ (a.data.toList ++ [10, 41, 32, 59, 32, 125]))) = skS false (a.data.toList ++ [10, 41, 32, 59, 32, 125]) := rfl
    rw [this] at hx
    omega
  have d22 : S.data.toList.drop 22 = a.data.toList ++ [10, 41, 32, 59, 32, 125] := by
    have := congrArg (List.drop 6) f2
    rw [List.drop_drop] at this
    exact this
  have h22 : toksFrom S (16 + [(40 : UInt8)].length) = toksFrom S 22 := by rw [← toksFrom_skip, hsk, toksFrom_skip]
  obtain ⟨g1, _⟩ := toks_in S a 22 [10, 41, 32, 59, 32, 125] d22 (Or.inr ⟨_, rfl⟩) (by omega) _ 0 (Nat.le_refl _) (Nat.zero_le _)
  have g3 := g1 ha
  rw [Nat.add_zero] at g3
  have d0 : S.data.toList.drop (22 + a.size) = 10 :: [41, 32, 59, 32, 125] := by rw [← List.drop_drop, d22, ← hal, List.drop_left]
  obtain ⟨b1, d1⟩ := blank_step S _ 10 _ rfl d0
  obtain ⟨w2, d2⟩ := word_step S _ [41] [32, 59, 32, 125] 6 tShut (by exact d1) (gap_sp _) (by decide) rfl rfl
  obtain ⟨b2, d2'⟩ := blank_step S _ 32 _ rfl d2
  obtain ⟨w3, d3⟩ := word_step S _ [59] [32, 125] 6 tSemi (by exact d2') (gap_sp _) (by decide) rfl rfl
  obtain ⟨b3, d3'⟩ := blank_step S _ 32 _ rfl d3
  obtain ⟨w4, d4⟩ := word_step S _ [125] [] 6 tRight (by exact d3') (Or.inl rfl) (by decide) rfl rfl
  simp only [List.length_cons, List.length_nil, Nat.zero_add] at b1 w2 b2 w3 b3 w4 o1 h22
  have e : toksFrom S 0 = (frontT ++ ((6, tOpen, 16) :: ((toksFrom a 0).1.map (shTk 22) ++ [(6, tShut, 23 + a.size), (6, tSemi, 25 + a.size), (6, tRight, 27 + a.size)])), none) := by
    have e4 : toksFrom S (27 + a.size) = ([(6, tRight, 27 + a.size)], none) := by
      rw [show 27 + a.size = 22 + a.size + 1 + 1 + 1 + 1 + 1 by omega, w4, toks_done S _ (by omega)]
    have e3 : toksFrom S (25 + a.size) = ([(6, tSemi, 25 + a.size), (6, tRight, 27 + a.size)], none) := by
      rw [show 25 + a.size = 22 + a.size + 1 + 1 + 1 by omega, w3, b3, show 22 + a.size + 1 + 1 + 1 + 1 + 1 = 27 + a.size by omega, e4]
    have e2 : toksFrom S (23 + a.size) = ([(6, tShut, 23 + a.size), (6, tSemi, 25 + a.size), (6, tRight, 27 + a.size)], none) := by
      rw [show 23 + a.size = 22 + a.size + 1 by omega, w2, b2, show 22 + a.size + 1 + 1 + 1 = 25 + a.size by omega, e3]
    rw [f1, o1, h22, g3, b1, show 22 + a.size + 1 = 23 + a.size by omega, e2]
  refine ⟨by rw [e], ?_⟩
  unfold allTk
  rw [e, hsz, List.append_assoc, List.cons_append, List.append_assoc]
  rfl
theorem isT_val (kd pl : Nat) (tx : ByteArray) (texts : List ByteArray) : isT (kd, tx, pl) texts = ((kd == 6 || kd == 1) && texts.any (fun s => !s.data.toList.isEmpty && s.data.toList == tx.data.toList)) := by
  unfold isT
  simp only [ByteArray.toList_eq]
theorem isM_val {ts : List Tok} {k kd pl : Nat} {tx : ByteArray} (h : ts[k]? = some (kd, tx, pl)) (texts : List ByteArray) : isM ts (k, false) texts = ((kd == 6 || kd == 1) && texts.any (fun s => !s.data.toList.isEmpty && s.data.toList == tx.data.toList)) := by
  unfold isM
  rw [show tokM ts ((k, false) : PS).1 = (kd, tx, pl) from tokM_get h, isT_val]; rfl
theorem next_val {ts : List Tok} {k : Nat} (h : k + 1 < ts.length) : nextM ts (k, false) = (k + 1, false) := by
  unfold nextM
  rw [nextK_on h]
theorem want_val {ts : List Tok} {k : Nat} {x : ByteArray} (hi : isM ts (k, false) [x] = true) (h : k + 1 < ts.length) : wantM ts (k, false) x = (k + 1, false) := by
  have h1 : (wantM ts (k, false) x).2 = false := by
    show (!(!false && isT (tokM ts k) [x])) = false
    have : isT (tokM ts k) [x] = true := by
      unfold isM at hi
      simpa using hi
    rw [this]; rfl
  have h2 : (wantM ts (k, false) x).1 = k + 1 := by
    show skipK ts k false (tokM ts k) [x] = _
    rw [← (skipM_place ts (k, false) [x]).1]
    unfold skipM
    rw [if_pos hi, next_val h]
  exact Prod.ext h2 h1
theorem want_no {ts : List Tok} {σ : PS} {x : ByteArray} (hi : isM ts σ [x] = false) : (wantM ts σ x).2 = true := by
  show (!(!σ.2 && isT (tokM ts σ.1) [x])) = true
  unfold isM at hi
  rw [hi]; rfl
/-- a row that begins with 'rule r { => say': what is read of it -/
theorem front_read {ts rest : List Tok} (hts : ts = frontT ++ rest) (hr : 2 ≤ rest.length) :
    declM ts (ruleM ts) (0, false) = (.mk 4 tNameR 0 0 (upTo ts (actM ts) tRight (ts.length + 1) [] (4, false)).1, wantM ts (upTo ts (actM ts) tRight (ts.length + 1) [] (4, false)).2 tRight) ∧
    actM ts (4, false) = (.mk 10 ⟨#[]⟩ 0 12 (rowM ts (exprM ts) (5, false)).1, wantM ts (rowM ts (exprM ts) (5, false)).2 tSemi) ∧ isM ts (4, false) [tRight] = false ∧ kdM ts (0, false) ≠ 7 := by
  have hl : ts.length = 5 + rest.length := by rw [hts, List.length_append]; rfl
  have t0 : ts[0]? = some (1, tRule, 0) := by rw [hts]; rfl
  have t1 : ts[1]? = some (2, tNameR, 5) := by rw [hts]; rfl
  have t2 : ts[2]? = some (6, tLeft, 7) := by rw [hts]; rfl
  have t3 : ts[3]? = some (6, tTo, 9) := by rw [hts]; rfl
  have t4 : ts[4]? = some (1, tSay, 12) := by rw [hts]; rfl
  have k0 := tokM_get t0
  have k1 := tokM_get t1
  have k4 := tokM_get t4
  refine ⟨?_, ?_, by rw [isM_val t4]; rfl, by show (tokM ts 0).1 ≠ 7; rw [k0]; decide⟩
  · unfold declM
    rw [if_neg (by rw [isM_val t0]; decide), want_val (by rw [isM_val t0]; rfl) (by omega)]
    have hof : ofM ts (0 + 1, false) 2 4 = (.mk 4 tNameR 0 5 [], (2, false)) := by
      unfold ofM
      rw [show tokM ts ((0 + 1, false) : PS).1 = (2, tNameR, 5) from k1]
      show ((.mk 4 tNameR 0 5 [] : Tree), nextK ts.length 1 false, false) = _
      rw [nextK_on (by omega)]
    have hat : atM ts (0, false) = 0 := by unfold atM; rw [show tokM ts ((0, false) : PS).1 = (1, tRule, 0) from k0]; rfl
    unfold ruleM
    dsimp only
    rw [hof, hat]
    have hsal : salM ts (2, false) = (0, (2, false)) := by unfold salM; rw [if_neg (by rw [isM_val t2]; decide)]
    dsimp only
    rw [hsal]
    dsimp only
    rw [want_val (by rw [isM_val t2]; rfl) (by omega)]
    have hup : upTo ts (condM ts (argM ts)) tTo (ts.length + 1) [] (2 + 1, false) = ([], (3, false)) := by
      rw [upTo_succ, if_neg (by decide), if_pos (by rw [isM_val t3]; rfl)]
    rw [hup]
    dsimp only
    rw [want_val (by rw [isM_val t3]; rfl) (by omega)]
    rfl
  · have hat : atM ts (4, false) = 12 := by unfold atM; rw [show tokM ts ((4, false) : PS).1 = (1, tSay, 12) from k4]; rfl
    unfold actM
    rw [if_neg (by rw [isM_val t4]; decide), if_neg (by rw [isM_val t4]; decide), if_pos (by rw [isM_val t4]; rfl), hat, next_val (by omega)]
theorem drop_TsOk {ts : List Tok} (h : TsOk ts) (c : Nat) : TsOk (ts.drop c) := by
  refine ⟨fun t ht => h.each t (List.mem_of_mem_drop ht), fun k t hk hl => ?_⟩
  rw [List.getElem?_drop] at hk
  rw [List.length_drop] at hl
  have := (List.getElem?_eq_some_iff.1 hk).1
  exact h.last (c + k) t hk (by omega)
theorem drop_sim (ts : List Tok) (c : Nat) (hc : c ≤ ts.length) : Sim (ts.drop c) ts c 0 (ts.length - c) false := by
  refine ⟨fun j hj => ?_, fun j hj => ?_, (fun h => by cases h), by rw [List.length_drop]; omega⟩
  · show tokM ts (j + c) = tokM (ts.drop c) j
    unfold tokM
    rw [List.getD_eq_getElem?_getD, List.getD_eq_getElem?_getD, List.getElem?_drop, Nat.add_comm]
  · rw [List.length_drop]; omega
/-- THE LAW OF BRACKETS, plain -/
theorem brack (a S1 S2 : ByteArray) (hs1 : S1.size ≤ 16384) (hS1 : S1.data.toList = preL ++ (a.data.toList ++ [10, 59, 32, 125])) (hS2 : S2.data.toList = preL ++ ([40, 32, 35, 32, 99, 10] ++ (a.data.toList ++ [10, 41, 32, 59, 32, 125])))
    (h0 : (toksFrom S1 0).2 = none) (r1 a1 p1 : Tree) (n : Nat) (hp : progD (allTk S1) = ([r1], (n, false))) (hr1 : r1.kids = [a1]) (ha1 : a1.kids = [p1]) :
    r1 = .mk 4 tNameR 0 0 [.mk 10 ⟨#[]⟩ 0 12 [p1]] ∧ (toksFrom S2 0).2 = none ∧ ∃ n', progD (allTk S2) = ([.mk 4 tNameR 0 0 [.mk 10 ⟨#[]⟩ 0 12 [shT 6 p1]]], (n', false)) := by
  obtain ⟨ha, e1⟩ := toks_one S1 a hS1 h0
  obtain ⟨h02, e2⟩ := toks_two S2 a hS2 ha
  have hts := allTk_ok S1 hs1
  obtain ⟨f1, f2, f3, f4⟩ := front_read e1 (by rw [List.length_append]; simp)
  obtain ⟨g1, g2, g3, g4⟩ := front_read e2 (by rw [List.length_cons, List.length_append]; simp)
  have h7 : ∀ j, j + 1 < (allTk S1).length → (tokM (allTk S1) j).1 ≠ 7 := fun j hj => by
    rw [allTk_len] at hj
    have hj' : j < (toksFrom S1 0).1.length := by omega
    have h2 := (toks_fields S1 _ 0 (Nat.le_refl _) (Nat.zero_le _) _ (List.getElem_mem hj')).1
    have h1 : tokM (allTk S1) j = (toksFrom S1 0).1[j] := by
      unfold allTk
      rw [tokM_append_left hj']
      exact tokM_get (List.getElem?_eq_getElem hj')
    rw [h1]; omega
  generalize hts1 : allTk S1 = ts at *
  generalize hts2 : allTk S2 = us at *
  obtain ⟨q, hq⟩ : ∃ q, (toksFrom a 0).1.length = q := ⟨_, rfl⟩
  have hl1 : ts.length = q + 8 := by rw [e1, List.length_append, List.length_append, List.length_map, hq]; show 5 + _ = _; simp only [List.length_cons, List.length_nil]; omega
  have hl2 : us.length = q + 10 := by rw [e2, List.length_append, List.length_cons, List.length_append, List.length_map, hq]; show 5 + _ = _; simp only [List.length_cons, List.length_nil]; omega
  have hat1 : ∀ j t, [((6, tSemi, 17 + a.size) : Tok), (6, tRight, 19 + a.size), (7, ⟨#[]⟩, 20 + a.size)][j]? = some t → ts[q + 5 + j]? = some t := fun j t h => by
    have e5 : frontT.length = 5 := rfl
    rw [e1, List.getElem?_append_right (by rw [e5]; omega), List.getElem?_append_right (by rw [List.length_map, hq, e5]; omega), List.length_map, hq, e5, show q + 5 + j - 5 - q = j by omega]
    exact h
  have hat2 : ∀ j t, [((6, tShut, 23 + a.size) : Tok), (6, tSemi, 25 + a.size), (6, tRight, 27 + a.size), (7, ⟨#[]⟩, 28 + a.size)][j]? = some t → us[q + 6 + j]? = some t := fun j t h => by
    have e5 : frontT.length = 5 := rfl
    rw [e2, List.getElem?_append_right (by rw [e5]; omega), e5, show q + 6 + j - 5 = (q + j) + 1 by omega, List.getElem?_cons_succ, List.getElem?_append_right (by rw [List.length_map, hq]; omega), List.length_map, hq, show q + j - q = j by omega]
    exact h
  have s0 := hat1 0 _ rfl
  have s1 := hat1 1 _ rfl
  have s2 := hat1 2 _ rfl
  have u0 := hat2 0 _ rfl
  have u1 := hat2 1 _ rfl
  have u2 := hat2 2 _ rfl
  have u3 := hat2 3 _ rfl
  have hus1 : ∀ j, j < q → us[j + 6]? = (ts[j + 5]?).map (shTk 6) := fun j hj => by
    have e5 : frontT.length = 5 := rfl
    have hj' : j < (toksFrom a 0).1.length := by omega
    rw [e2, List.getElem?_append_right (by rw [e5]; omega), e5, show j + 6 - 5 = j + 1 by omega, List.getElem?_cons_succ, List.getElem?_append_left (by rw [List.length_map]; omega), List.getElem?_map,
      e1, List.getElem?_append_right (by rw [e5]; omega), e5, show j + 5 - 5 = j by omega, List.getElem?_append_left (by rw [List.length_map]; omega), List.getElem?_map, List.getElem?_eq_getElem hj']
    simp only [Option.map_some, shTk, Nat.add_assoc]
  have h5us : us[5]? = some (6, tOpen, 16) := by rw [e2]; rfl
  clear e1 e2 hts1 hts2 hat1 hat2
  -- the one source: what is read of it
  have hD : declM ts (ruleM ts) (0, false) = (r1, (n, false)) ∧ kdM ts (n, false) = 7 := by
    have hp' : progL ts (ts.length + 1) [] (0, false) = ([r1], (n, false)) := hp
    rw [progL_succ, if_neg (by decide), if_neg f4, List.nil_append, show ts.length = (q + 7) + 1 by omega] at hp'
    by_cases hb : (declM ts (ruleM ts) (0, false)).2.2 = true
    · rw [progL_bad ts hb] at hp'
      have := congrArg (fun x => x.2.2) hp'
      dsimp only at this
      rw [hb] at this; cases this
    · rw [progL_succ, if_neg hb] at hp'
      by_cases hk : kdM ts (declM ts (ruleM ts) (0, false)).2 = 7
      · rw [if_pos hk] at hp'
        have x1 := congrArg (fun x => x.1) hp'
        have x2 : (declM ts (ruleM ts) (0, false)).2 = (n, false) := congrArg (fun x => x.2) hp'
        have x3 : (declM ts (ruleM ts) (0, false)).1 = r1 := by simpa using x1
        exact ⟨Prod.ext x3 x2, by rw [← x2]; exact hk⟩
      · rw [if_neg hk] at hp'
        have := progL_len ts (q + 7) ([(declM ts (ruleM ts) (0, false)).1] ++ [(declM ts (ruleM ts) (declM ts (ruleM ts) (0, false)).2).1]) (declM ts (ruleM ts) (declM ts (ruleM ts) (0, false)).2).2
        rw [hp'] at this
        simp at this
  obtain ⟨hD, hk7⟩ := hD
  rw [f1] at hD
  have hr : r1 = .mk 4 tNameR 0 0 (upTo ts (actM ts) tRight (ts.length + 1) [] (4, false)).1 := (congrArg Prod.fst hD).symm
  have hw : wantM ts (upTo ts (actM ts) tRight (ts.length + 1) [] (4, false)).2 tRight = (n, false) := congrArg Prod.snd hD
  have hZ1 : (upTo ts (actM ts) tRight (ts.length + 1) [] (4, false)).1 = [a1] := by rw [hr] at hr1; exact hr1
  have hZ : upTo ts (actM ts) tRight (ts.length + 1) [] (4, false) = ([(actM ts (4, false)).1], (actM ts (4, false)).2) ∧ (actM ts (4, false)).2.2 = false := by
    have hz := upTo_succ ts (actM ts) tRight ts.length [] (4, false)
    rw [if_neg (by decide), if_neg (by rw [f3]; decide), List.nil_append, show upTo ts (actM ts) tRight ts.length = upTo ts (actM ts) tRight ((q + 7) + 1) by rw [hl1]] at hz
    by_cases hb : (actM ts (4, false)).2.2 = true
    · rw [upTo_bad tRight hb] at hz
      rw [hz, wantM] at hw
      have := congrArg Prod.snd hw
      rw [show (wantB (actM ts (4, false)).2.2 (tokM ts (actM ts (4, false)).2.1) tRight) = true by unfold wantB; rw [hb]; rfl] at this
      cases this
    · conv at hz => rhs; rw [upTo_succ, if_neg hb]
      by_cases hi : isM ts (actM ts (4, false)).2 [tRight] = true
      · rw [if_pos hi] at hz
        exact ⟨hz, by simpa using hb⟩
      · rw [if_neg hi] at hz
        have := upTo_len ts (actM ts) tRight (q + 7) ([(actM ts (4, false)).1] ++ [(actM ts (actM ts (4, false)).2).1]) (actM ts (actM ts (4, false)).2).2
        rw [← hz, hZ1] at this
        simp at this
  obtain ⟨hZ, hAb⟩ := hZ
  rw [hZ] at hw hr hZ1
  have hA1 : (actM ts (4, false)).1 = a1 := by simpa using hZ1
  rw [f2] at hA1 hAb hw hr
  have hR1 : (rowM ts (exprM ts) (5, false)).1 = [p1] := by rw [← hA1] at ha1; exact ha1
  have hE : rowM ts (exprM ts) (5, false) = ([(exprM ts (5, false)).1], (exprM ts (5, false)).2) := by
    have hz : rowM ts (exprM ts) (5, false) = rowLoop ts (exprM ts) ((q + 7) + 1) [(exprM ts (5, false)).1] (exprM ts (5, false)).2 := by unfold rowM; rw [hl1]
    rw [rowLoop_succ] at hz
    by_cases hi : isM ts (exprM ts (5, false)).2 [tComma] = true
    · rw [if_pos hi] at hz
      have := rowLoop_len ts (exprM ts) (q + 7) ([(exprM ts (5, false)).1] ++ [(exprM ts (nextM ts (exprM ts (5, false)).2)).1]) (exprM ts (nextM ts (exprM ts (5, false)).2)).2
      rw [← hz, hR1] at this
      simp at this
    · rw [if_neg hi] at hz; exact hz
  rw [hE] at hw hr hAb hR1
  have hp1 : (exprM ts (5, false)).1 = p1 := by simpa using hR1
  have hElt : (exprM ts (5, false)).2.1 < ts.length := exM_lt _ _ _ (by show 5 < _; omega)
  have hw1 := want_step hts hElt (x := tSemi) hAb
  have hw1lt := want_in (ts := ts) hElt tSemi
  have hw2 := want_step hts hw1lt (x := tRight) (by rw [hw])
  have hnlt := want_in (ts := ts) hw1lt tRight
  rw [hw] at hw2 hnlt
  have hn : n = q + 7 := by
    rcases Nat.lt_or_ge (n + 1) ts.length with h | h
    · exact absurd hk7 (h7 n h)
    · dsimp only at hnlt; omega
  have hE2 : (exprM ts (5, false)).2 = (q + 5, false) := by
    refine Prod.ext ?_ (want_ok hAb)
    dsimp only at hw2 ⊢
    omega
  refine ⟨by rw [hr, hp1], h02, q + 9, ?_⟩
  -- the expression, alone
  have D := drop_sim ts 5 (by omega)
  have hdl : (ts.drop 5).length = q + 3 := by rw [List.length_drop]; omega
  have hdt := drop_TsOk hts 5
  have h0lt : ((0, false) : PS).1 < (ts.drop 5).length := by rw [hdl]; exact Nat.succ_pos _
  have hF : (ts.drop 5).length * 7 ≤ ts.length * 7 := Nat.mul_le_mul_right _ (by omega)
  obtain ⟨m1, m2⟩ := exM_sim D hdt (ts.length * 7 + 6) (ts.length * 7 + 6) 0 (0, false) (by omega) h0lt (by dsimp only; omega) (by dsimp only; omega) (Or.inl (by have := exM_lt (ts := ts.drop 5) (ts.length * 7 + 6) 0 (0, false) h0lt; omega))
  have hEE : exM ts (ts.length * 7 + 6) 0 (shP 5 (0, false)) = (p1, (q + 5, false)) := Prod.ext hp1 hE2
  rw [hEE] at m1 m2
  generalize hE0 : exM (ts.drop 5) (ts.length * 7 + 6) 0 (0, false) = E0 at *
  have hE02 : E0.2 = (q, false) := by
    have x1 := congrArg Prod.fst m1
    have x2 := congrArg Prod.snd m1
    unfold shP at x1 x2
    dsimp only at x1 x2
    exact Prod.ext (by show E0.2.1 = q; omega) x2.symm
  have hE01 : E0.1 = p1 := by
    have := m2 (by rw [hE02])
    rw [shT_zero] at this
    exact this.symm
  have T : Sim (ts.drop 5) us 6 6 q true := by
    refine ⟨fun j hj => ?_, fun j hj => ?_, fun _ => ?_, by omega⟩
    · have h1 : j < (ts.drop 5).length := by omega
      have h2 := tokM_at h1
      refine tokM_get ?_
      rw [hus1 j hj, Nat.add_comm j 5, ← List.getElem?_drop, h2]; rfl
    · omega
    · have x1 : tokM (ts.drop 5) q = (6, tSemi, 17 + a.size) := tokM_get (by rw [List.getElem?_drop, Nat.add_comm 5 q]; exact s0)
      have x2 : tokM us (q + 6) = (6, tShut, 23 + a.size) := tokM_get u0
      rw [x1, x2]
      exact ⟨rfl, rfl, rfl, rfl⟩
  have inner : ∀ g, (q + 4) * 7 + 6 ≤ g → exM us g 0 (6, false) = (shT 6 p1, (q + 6, false)) := fun g hg => by
    obtain ⟨k1, k2⟩ := exM_sim T hdt (ts.length * 7 + 6) g 0 (0, false) (by omega) h0lt (by dsimp only; omega) (by dsimp only; omega) (by rw [hE0, hE02]; exact Or.inr ⟨rfl, rfl, rfl⟩)
    rw [hE0] at k1 k2
    have k3 := k2 (by rw [hE02])
    rw [hE02] at k1
    rw [hE01] at k3
    exact Prod.ext k3 k1
  have outer : ∀ i lvl g, lvl + i = 5 → (q + 4) * 7 + 7 + i ≤ g → exM us g lvl (5, false) = (shT 6 p1, (q + 7, false)) := by
    intro i
    induction i with
    | zero =>
      intro lvl g hl hg
      obtain ⟨g, rfl⟩ : ∃ x, g = x + 1 := ⟨g - 1, by omega⟩
      obtain rfl : lvl = 5 := by omega
      unfold exM
      rw [if_neg (by decide), if_pos rfl, if_neg (by rw [isM_val h5us]; decide), if_pos (by rw [isM_val h5us]; rfl), next_val (by omega), inner g (by omega)]
      dsimp only
      rw [want_val (by rw [isM_val (show us[q + 6]? = _ from u0)]; rfl) (by omega)]
    | succ i ih =>
      intro lvl g hl hg
      obtain ⟨g, rfl⟩ : ∃ x, g = x + 1 := ⟨g - 1, by omega⟩
      have hx := ih (lvl + 1) g (by omega) (by omega)
      unfold exM
      rw [if_neg (by decide), if_neg (by omega), hx]
      dsimp only
      have hno : isM us (q + 7, false) (lvl6 lvl) = false := by
        rw [isM_val (show us[q + 7]? = _ from u1)]
        have : lvl < 5 := by omega
        match lvl, this with
        | 0, _ | 1, _ | 2, _ | 3, _ | 4, _ => rfl
      rw [show us.length = (q + 9) + 1 by omega, loopM_succ, if_neg (by rw [hno]; decide)]
  have hEu : exprM us (5, false) = (shT 6 p1, (q + 7, false)) := outer 5 0 _ rfl (by omega)
  have hRu : rowM us (exprM us) (5, false) = ([shT 6 p1], (q + 7, false)) := by
    have hz : rowM us (exprM us) (5, false) = rowLoop us (exprM us) ((q + 9) + 1) [(exprM us (5, false)).1] (exprM us (5, false)).2 := by unfold rowM; rw [hl2]
    rw [hz, hEu, rowLoop_succ, if_neg (by rw [isM_val (show us[q + 7]? = _ from u1)]; decide)]
  rw [hRu] at g2
  dsimp only at g2
  rw [want_val (by rw [isM_val (show us[q + 7]? = _ from u1)]; rfl) (by omega)] at g2
  have hZu : upTo us (actM us) tRight (us.length + 1) [] (4, false) = ([.mk 10 ⟨#[]⟩ 0 12 [shT 6 p1]], (q + 7 + 1, false)) := by
    rw [upTo_succ, if_neg (by decide), if_neg (by rw [g3]; decide), List.nil_append, g2, show upTo us (actM us) tRight us.length = upTo us (actM us) tRight ((q + 9) + 1) by rw [hl2], upTo_succ, if_neg Bool.false_ne_true, if_pos (by rw [isM_val (show us[q + 7 + 1]? = _ from u2)]; rfl)]
  rw [hZu] at g1
  dsimp only at g1
  rw [want_val (by rw [isM_val (show us[q + 7 + 1]? = _ from u2)]; rfl) (by omega)] at g1
  show progL us (us.length + 1) [] (0, false) = _
  rw [progL_succ, if_neg (by decide), if_neg g4, List.nil_append, g1, show us.length = (q + 9) + 1 by omega, progL_succ, if_neg Bool.false_ne_true, if_pos (show kdM us (q + 7 + 1 + 1, false) = 7 by unfold kdM; rw [show tokM us ((q + 7 + 1 + 1, false) : PS).1 = _ from tokM_get u3])]
end Go.Proofs.YtgifapamogbkeaaDoor
