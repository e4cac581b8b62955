/- Tokens written with blanks or comments between are told again: the plain law of ScanBack, with no program in sight. No condition. -/
import Derived.Test.YtondgnefggglcaaDoorPlainA
import Derived.Test.YtondgnefggglcaaDoorRefD
import Derived.KernelRfl
namespace Go.Proofs.YtondgnefggglcaaDoor
open Go.RowKit

theorem drop_succ_of (S : ByteArray) (p : Nat) (c : UInt8) (r : List UInt8) (h : S.data.toList.drop p = c :: r) : ∃ hp : p < S.size, S[p] = c ∧ S.data.toList.drop (p + 1) = r := by
  rcases Nat.lt_or_ge p S.size with hp | hp
  · rw [drop_cons S p hp] at h
    injection h with h1 h2
    exact ⟨hp, h1, h2⟩
  · rw [drop_end S p hp] at h
    cases h
theorem drop_more (S : ByteArray) (p : Nat) (a r : List UInt8) (h : S.data.toList.drop p = a ++ r) : S.data.toList.drop (p + a.length) = r := by
  rw [← List.drop_drop, h, List.drop_left]
theorem takeWhile_stop (f : UInt8 → Bool) (a : List UInt8) (b : UInt8) (r : List UInt8) (ha : a.all f = true) (hb : f b = false) : (a ++ b :: r).takeWhile f = a := by
  induction a with
  | nil => simp [hb]
  | cons x a ih =>
    simp only [List.all_cons, Bool.and_eq_true] at ha
    simp [ha.1, ih ha.2]
theorem scanTo_of (f : UInt8 → Bool) (S : ByteArray) (p : Nat) (a : List UInt8) (b : UInt8) (r : List UInt8) (h : S.data.toList.drop p = a ++ b :: r) (ha : a.all f = true) (hb : f b = false) : scanTo f S p = p + a.length := by
  unfold scanTo
  rw [h, takeWhile_stop f a b r ha hb]
theorem ext_of (S : ByteArray) (p : Nat) (x : ByteArray) (r : List UInt8) (h : S.data.toList.drop p = x.data.toList ++ r) : S.extract p (p + x.size) = x := by
  apply bytes_ext
  rw [ext_data, h, Nat.add_sub_cancel_left]
  have e : x.size = x.data.toList.length := by simp
  rw [e, List.take_left]

/-- what a token is written with ahead of it -/
def markL (kd : Nat) : List UInt8 := if kd == 3 then [63] else if kd == 5 then [39] else []
/-- a token that may be written again -/
def Good (kd : Nat) (tx : ByteArray) : Prop :=
  ((kd = if wordB tx.data.toList then 1 else 2) ∧ tx.size ≤ 24 ∧ tx.data.toList.all isOn = true ∧ ∃ c r, tx.data.toList = c :: r ∧ isLow c = true) ∨
  ((kd = 3 ∨ kd = 5) ∧ tx.data.toList.all isOn = true ∧ namedB tx.data.toList = true) ∨
  (kd = 4 ∧ tx.data.toList.all isDig = true ∧ (number tx.data.toList).isSome = true ∧ ∃ c r, tx.data.toList = c :: r ∧ isDig c = true) ∨
  (kd = 6 ∧ tx ∈ signsL)
/-- what may begin behind a token -/
def gapB (b : UInt8) : Bool := b == 32 || b == 9 || b == 10
theorem gap_off (b : UInt8) (h : gapB b = true) : isOn b = false ∧ isDig b = false := by
  unfold gapB at h
  simp only [Bool.or_eq_true, beq_iff_eq] at h
  rcases h with (rfl | rfl) | rfl <;> exact ⟨by decide, by decide⟩
theorem low_facts (c : UInt8) (h : isLow c = true) : isOn c = true ∧ blankB c = false ∧ (c == 35) = false := by
  have := all_u8 (fun c => !isLow c || (isOn c && !blankB c && !(c == 35))) (by kernel_rfl) c
  simpa [h, and_assoc] using this
theorem dig_facts (c : UInt8) (h : isDig c = true) : isLow c = false ∧ (c == 63 || c == 39) = false ∧ blankB c = false ∧ (c == 35) = false := by
  have := all_u8 (fun c => !isDig c || (!isLow c && !(c == 63 || c == 39) && !blankB c && !(c == 35))) (by kernel_rfl) c
  simpa [h, and_assoc] using this
theorem sign_facts (c : UInt8) (hc : signsL.any (fun g => g.data.toList.head? == some c) = true) : isLow c = false ∧ (c == 63 || c == 39) = false ∧ isDig c = false ∧ blankB c = false ∧ (c == 35) = false := by
  have := all_u8 (fun c => !(signsL.any (fun g => g.data.toList.head? == some c)) || (!isLow c && !(c == 63 || c == 39) && !isDig c && !blankB c && !(c == 35))) (by kernel_rfl) c
  simpa [hc, and_assoc] using this

theorem sign_first (g : ByteArray) (hg : g ∈ signsL) (b : UInt8) (hb : gapB b = true) (r : List UInt8) : signsL.find? (fun x => Lib.hasPrefix (g.data.toList ++ b :: r) x.data.toList) = some g := by
  unfold gapB at hb
  simp only [Bool.or_eq_true, beq_iff_eq] at hb
  simp only [signsL, List.mem_cons, List.not_mem_nil, or_false] at hg
  rcases hb with (rfl | rfl) | rfl <;> (rcases hg with rfl | rfl | rfl | rfl | rfl | rfl | rfl | rfl | rfl | rfl | rfl | rfl | rfl | rfl | rfl | rfl | rfl <;> rfl)

theorem good_of (s : ByteArray) (k : Nat) (hk : k < s.size) (h0 : (tokenAt s k s[k]).2.2.1 = 0) : Good (tokenAt s k s[k]).1 (tokenAt s k s[k]).2.1 := by
  unfold tokenAt at h0 ⊢
  by_cases hc : isLow s[k] = true
  · rw [if_pos hc] at h0 ⊢
    have h1 := scanTo_ge isOn s (k + 1)
    have hy := scanTo_yes isOn s k hk (low_facts _ hc).1
    have h2 := scanTo_le isOn s k (by omega)
    have hz : scanTo isOn s k - k ≤ 24 := by
      by_cases hz : scanTo isOn s k - k ≤ 24
      · exact hz
      · rw [if_neg hz] at h0; cases h0
    refine Or.inl ⟨rfl, ?_, scanTo_all _ _ _, s[k], ?_, ?_, hc⟩
    · rw [ByteArray.size_extract]; omega
    · exact (s.data.toList.drop (k + 1)).take (scanTo isOn s k - (k + 1))
    · rw [ext_data, drop_cons s k hk]
      obtain ⟨n, hn⟩ : ∃ n, scanTo isOn s k - k = n + 1 := ⟨scanTo isOn s k - k - 1, by omega⟩
      rw [hn, List.take_succ_cons, show scanTo isOn s k - (k + 1) = n from by omega]
  · rw [if_neg hc] at h0 ⊢
    by_cases hq : (s[k] == 63 || s[k] == 39) = true
    · rw [if_pos hq] at h0 ⊢
      refine Or.inr (Or.inl ⟨?_, scanTo_all _ _ _, ?_⟩)
      · dsimp only
        split
        · exact Or.inr rfl
        · exact Or.inl rfl
      · cases hn : namedB (s.extract (k + 1) (scanTo isOn s (k + 1))).data.toList
        · rw [hn] at h0; cases h0
        · rfl
    · rw [if_neg hq] at h0 ⊢
      by_cases hd : isDig s[k] = true
      · rw [if_pos hd] at h0 ⊢
        have h1 := scanTo_ge isDig s (k + 1)
        have hy := scanTo_yes isDig s k hk hd
        refine Or.inr (Or.inr (Or.inl ⟨rfl, scanTo_all _ _ _, ?_, s[k], ?_, ?_, hd⟩))
        · cases hn : (number (s.extract k (scanTo isDig s k)).data.toList).isSome
          · rw [hn] at h0; cases h0
          · rfl
        · exact (s.data.toList.drop (k + 1)).take (scanTo isDig s k - (k + 1))
        · rw [ext_data, drop_cons s k hk]
          obtain ⟨n, hn⟩ : ∃ n, scanTo isDig s k - k = n + 1 := ⟨scanTo isDig s k - k - 1, by omega⟩
          rw [hn, List.take_succ_cons, show scanTo isDig s k - (k + 1) = n from by omega]
      · rw [if_neg hd] at h0 ⊢
        cases hf : signsL.find? (fun g => Lib.hasPrefix (s.data.toList.drop k) g.data.toList) with
        | none => rw [hf] at h0; simp at h0
        | some g => exact Or.inr (Or.inr (Or.inr ⟨rfl, List.mem_of_find?_eq_some hf⟩))

theorem toks_good (s : ByteArray) : ∀ (f k : Nat) (t : Tok), t ∈ (toks f s k).1 → Good t.1 t.2.1 := by
  intro f
  induction f with
  | zero => intro k t h; cases h
  | succ f ih =>
    intro k t h
    unfold toks at h
    split at h
    · rename_i h1
      split at h
      · rename_i h2
        rcases List.mem_cons.1 h with rfl | h
        · exact good_of s _ h1 h2
        · exact ih _ _ h
      · cases h
    · cases h

theorem toksFrom_good (s : ByteArray) (k : Nat) (t : Tok) (h : t ∈ (toksFrom s k).1) : Good t.1 t.2.1 := toks_good s _ k t h
/-- a good token, written with something behind it, is told again -/
theorem rescan (kd : Nat) (tx : ByteArray) (hg : Good kd tx) (S : ByteArray) (p : Nat) (b : UInt8) (r : List UInt8) (hb : gapB b = true) (h : S.data.toList.drop p = markL kd ++ (tx.data.toList ++ b :: r)) :
    ∃ hp : p < S.size, tokenAt S p S[p] = (kd, tx, 0, p + (markL kd).length + tx.size) ∧ blankB S[p] = false ∧ (S[p] == 35) = false := by
  obtain ⟨hon, hdg⟩ := gap_off b hb
  have hsz : tx.size = tx.data.toList.length := by simp
  rcases hg with ⟨rfl, h24, hall, c, q, hc, hlow⟩ | ⟨hkd, hall, hnm⟩ | ⟨rfl, hall, hnum, c, q, hc, hd⟩ | ⟨rfl, hmem⟩
  · have hm : markL (if wordB tx.data.toList then 1 else 2) = [] := by split <;> rfl
    rw [hm, List.nil_append] at h
    obtain ⟨f1, f2, f3⟩ := low_facts c hlow
    obtain ⟨hp, h1, _⟩ := drop_succ_of S p c (q ++ b :: r) (by rw [h, hc]; rfl)
    have h2 := scanTo_of isOn S p _ b r h hall hon
    refine ⟨hp, ?_, by rw [h1]; exact f2, by rw [h1]; exact f3⟩
    unfold tokenAt
    rw [h1, if_pos hlow, h2, ← hsz, ext_of S p tx _ h, show (if p + tx.size - p ≤ 24 then 0 else 201) = 0 from if_pos (by omega), hm]
    rfl
  · have hm : markL kd = [if kd == 5 then 39 else 63] := by rcases hkd with rfl | rfl <;> rfl
    rw [hm] at h
    obtain ⟨hp, h1, h1'⟩ := drop_succ_of S p _ _ h
    have h2 := scanTo_of isOn S (p + 1) _ b r h1' hall hon
    have hcc : isLow S[p] = false ∧ (S[p] == 63 || S[p] == 39) = true ∧ (if S[p] == 39 then 5 else 3) = kd ∧ blankB S[p] = false ∧ (S[p] == 35) = false := by
      rw [h1]
      rcases hkd with rfl | rfl <;> decide
    obtain ⟨c1, c2, c3, c4, c5⟩ := hcc
    refine ⟨hp, ?_, c4, c5⟩
    unfold tokenAt
    rw [if_neg (by rw [c1]; decide), if_pos c2, c3, h2, ← hsz, ext_of S (p + 1) tx _ h1', hnm, if_pos rfl, hm]
    rfl
  · rw [show markL 4 = [] from rfl, List.nil_append] at h
    obtain ⟨f1, f2, f3, f4⟩ := dig_facts c hd
    obtain ⟨hp, h1, _⟩ := drop_succ_of S p c (q ++ b :: r) (by rw [h, hc]; rfl)
    have h2 := scanTo_of isDig S p _ b r h hall hdg
    have h3 := drop_more S p _ _ h
    refine ⟨hp, ?_, by rw [h1]; exact f3, by rw [h1]; exact f4⟩
    unfold tokenAt
    rw [h1, if_neg (by rw [f1]; decide), if_neg (by rw [f2]; decide), if_pos hd, h2, h3, ← hsz, ext_of S p tx _ h, hnum]
    simp [hon, markL]
  · rw [show markL 6 = [] from rfl, List.nil_append] at h
    have hpos := signs_pos tx hmem
    obtain ⟨c, q, hc⟩ : ∃ c q, tx.data.toList = c :: q := by
      cases hh : tx.data.toList with
      | nil =>
        rw [hh] at hsz
        have : tx.size = 0 := hsz
        omega
      | cons c q => exact ⟨c, q, rfl⟩
    obtain ⟨hp, h1, _⟩ := drop_succ_of S p c (q ++ b :: r) (by rw [h, hc]; rfl)
    obtain ⟨f1, f2, f3, f4, f5⟩ := sign_facts c (List.any_eq_true.2 ⟨tx, hmem, by rw [hc]; simp⟩)
    refine ⟨hp, ?_, by rw [h1]; exact f4, by rw [h1]; exact f5⟩
    unfold tokenAt
    rw [h1, if_neg (by rw [f1]; decide), if_neg (by rw [f2]; decide), if_neg (by rw [f3]; decide), h, sign_first tx hmem b hb r]
    rfl

/-- what stands between two tokens -/
def Gap (bt : List UInt8) : Prop := (∃ b r, bt = b :: r ∧ gapB b = true) ∧ ∀ (S : ByteArray) (p : Nat) (r : List UInt8), S.data.toList.drop p = bt ++ r → skip S p = skip S (p + bt.length)
theorem skip_one (S : ByteArray) (p : Nat) (b : UInt8) (r : List UInt8) (hb : blankB b = true) (h : S.data.toList.drop p = b :: r) : skip S p = skip S (p + 1) ∧ S.data.toList.drop (p + 1) = r := by
  obtain ⟨hp, h1, h2⟩ := drop_succ_of S p b r h
  exact ⟨skip_blank S p hp (by rw [h1]; exact hb), h2⟩
theorem gap_blank : Gap [32] := by
  refine ⟨⟨32, [], rfl, rfl⟩, fun S p r h => ?_⟩
  exact (skip_one S p 32 r rfl h).1
theorem gap_tab : Gap [9, 13] := by
  refine ⟨⟨9, [13], rfl, rfl⟩, fun S p r h => ?_⟩
  obtain ⟨h1, h2⟩ := skip_one S p 9 (13 :: r) rfl h
  rw [h1, (skip_one S (p + 1) 13 r rfl h2).1]
  rfl
theorem gap_lines : Gap [10, 10] := by
  refine ⟨⟨10, [10], rfl, rfl⟩, fun S p r h => ?_⟩
  obtain ⟨h1, h2⟩ := skip_one S p 10 (10 :: r) rfl h
  rw [h1, (skip_one S (p + 1) 10 r rfl h2).1]
  rfl
theorem gap_note (note : List UInt8) (hn : note.all (· != 10) = true) : Gap ([32, 35, 32] ++ note ++ [10]) := by
  refine ⟨⟨32, _, rfl, rfl⟩, fun S p r h => ?_⟩
  obtain ⟨h1, h2⟩ := skip_one S p 32 (35 :: 32 :: note ++ 10 :: r) rfl (by rw [h]; simp)
  obtain ⟨hp, h3, _⟩ := drop_succ_of S (p + 1) 35 _ h2
  have h4 := scanTo_of (· != 10) S (p + 1) (35 :: 32 :: note) 10 r (by rw [h2]) (by simpa using hn) (by decide)
  have h5 := drop_more S (p + 1) (35 :: 32 :: note) (10 :: r) (by rw [h2])
  rw [h1, skip_hash S (p + 1) hp h3, h4, (skip_one S _ 10 r rfl h5).1]
  congr 1
  simp
  omega

/-- tokens written with something behind each -/
def wr (bt : List UInt8) (l : List Tok) : List UInt8 := l.flatMap fun t => markL t.1 ++ t.2.1.data.toList ++ bt
theorem wr_cons (bt : List UInt8) (t : Tok) (l : List Tok) : wr bt (t :: l) = markL t.1 ++ (t.2.1.data.toList ++ (bt ++ wr bt l)) := by
  simp [wr, List.append_assoc]

theorem wr_back (bt : List UInt8) (hbt : Gap bt) (S : ByteArray) (e : Tok) (he : e.1 = 7 ∧ e.2.1 = ⟨#[]⟩) : ∀ (l : List Tok) (p : Nat), (∀ t ∈ l, Good t.1 t.2.1) → S.data.toList.drop p = wr bt (l ++ [e]) →
    (toksFrom S p).2 = none ∧ (toksFrom S p).1.map (fun t => (t.1, t.2.1)) = l.map (fun t => (t.1, t.2.1)) := by
  obtain ⟨⟨b, r, rfl, hb⟩, hskip⟩ := hbt
  intro l
  induction l with
  | nil =>
    intro p _ h
    have hw : wr (b :: r) ([] ++ [e]) = b :: r := by
      rw [List.nil_append, wr_cons, he.1, he.2]; simp [markL, wr]
    rw [hw] at h
    have h1 := hskip S p [] (by rw [h]; simp)
    have h2 := drop_more S p (b :: r) [] (by rw [h]; simp)
    have h3 : S.size ≤ p + (b :: r).length := by
      rcases Nat.lt_or_ge (p + (b :: r).length) S.size with hlt | hge
      · rw [drop_cons S _ hlt] at h2; cases h2
      · exact hge
    rw [toksFrom_end S p (by rw [h1, skip_end S _ h3]; omega)]
    exact ⟨rfl, rfl⟩
  | cons t l ih =>
    intro p hgood h
    rw [List.cons_append, wr_cons, List.cons_append] at h
    obtain ⟨hp, h1, h2, h3⟩ := rescan t.1 t.2.1 (hgood t (List.mem_cons_self ..)) S p b _ hb h
    have hs : skip S p = p := skip_stop S p hp h2 h3
    have e1 := drop_more S p _ _ h
    have e2 := drop_more S _ _ _ e1
    have e3 := hskip S (p + (markL t.1).length + t.2.1.data.toList.length) (wr (b :: r) (l ++ [e])) e2
    have e4 := drop_more S _ (b :: r) _ e2
    have hsz : t.2.1.size = t.2.1.data.toList.length := by simp
    obtain ⟨i1, i2⟩ := ih _ (fun u hu => hgood u (List.mem_cons_of_mem _ hu)) e4
    have hto : toksFrom S (p + (markL t.1).length + t.2.1.size) = toksFrom S (p + (markL t.1).length + t.2.1.data.toList.length + (b :: r).length) := by
      rw [hsz, ← toksFrom_skip S (p + (markL t.1).length + t.2.1.data.toList.length), e3, toksFrom_skip]
    have hok : toksFrom S p = ((t.1, t.2.1, p) :: (toksFrom S (p + (markL t.1).length + t.2.1.size)).1, (toksFrom S (p + (markL t.1).length + t.2.1.size)).2) := by
      have hh := toksFrom_ok S p (by rw [hs]; exact hp) (by simp only [hs, h1])
      simp only [hs, h1] at hh
      exact hh
    rw [hok, hto]
    refine ⟨i1, ?_⟩
    rw [List.map_cons, List.map_cons, i2]
end Go.Proofs.YtondgnefggglcaaDoor
