/- Several texts joined, each with its own sentence and conditions ahead of it: JoinA, PlainC, JoinR. -/
import Derived.Test.YtineejjdbjdliaaGreatDoorMZK
import Derived.Test.YtineejjdbjdliaaGreatDoorMDD
import Derived.KernelRfl
/- ParseParts, the plain law: two programs, one behind the other; an expression in brackets, with a comment around it. Condition: at most 16384 bytes. -/
namespace Go.Proofs.YtineejjdbjdliaaGreatDoor
open Go.RowKit

theorem shT_zero : ∀ T : Tree, shT 0 T = T
  | .mk k t n p l => by
    rw [shT_mk]
    have h : l.map (shT 0) = l := by
      conv => rhs; rw [← List.map_id l]
      exact List.map_congr_left fun x hx => shT_zero x
    rw [h]; simp
theorem progL_acc (ts : List Tok) (k0 : List Tree) : ∀ (g : Nat) (ks : List Tree) (σ : PS), progL ts g (k0 ++ ks) σ = (k0 ++ (progL ts g ks σ).1, (progL ts g ks σ).2) := by
  intro g
  induction g with
  | zero => intro ks σ; rfl
  | succ g ih =>
    intro ks σ
    rw [progL_succ, progL_succ]
    split
    · rfl
    · split
      · rfl
      · rw [List.append_assoc]; exact ih _ _
theorem shTk_zero (L : List Tok) : L.map (shTk 0) = L := by
  conv => rhs; rw [← List.map_id L]
  exact List.map_congr_left fun x _ => rfl
theorem blank_step (S : ByteArray) (p : Nat) (c : UInt8) (r : List UInt8) (hc : blankB c = true) (h : S.data.toList.drop p = c :: r) : toksFrom S p = toksFrom S (p + 1) ∧ S.data.toList.drop (p + 1) = r := by
  have hp : p < S.size := by
    rcases Nat.lt_or_ge p S.size with hp | hp
    · exact hp
    · rw [drop_end S p hp] at h; cases h
  rw [drop_cons S p hp] at h
  injection h with h1 h2
  refine ⟨?_, h2⟩
  rw [← toksFrom_skip, skip_blank S p hp (by rw [h1]; exact hc), toksFrom_skip]
theorem toks_join (a b S : ByteArray) (hS : S.data.toList = a.data.toList ++ 10 :: b.data.toList) (ha : (toksFrom a 0).2 = none) (hb : (toksFrom b 0).2 = none) :
    (toksFrom S 0).2 = none ∧ allTk S = (toksFrom a 0).1 ++ (allTk b).map (shTk (a.size + 1)) := by
  have hal : a.data.toList.length = a.size := by simp
  have hbl : b.data.toList.length = b.size := by simp
  have hSl : S.size = a.size + 1 + b.size := by
    have := congrArg List.length hS
    rw [List.length_append, List.length_cons, hal, hbl] at this
    have e : S.data.toList.length = S.size := by simp
    omega
  obtain ⟨h1, _⟩ := toks_in S a 0 (10 :: b.data.toList) (by rw [List.drop_zero]; exact hS) (Or.inr ⟨_, rfl⟩) (Nat.zero_le _) _ 0 (Nat.le_refl _) (Nat.zero_le _)
  have h2 := h1 ha
  have hd : S.data.toList.drop (0 + a.size) = 10 :: b.data.toList := by rw [hS, Nat.zero_add, ← hal, List.drop_left]
  obtain ⟨h3, h4⟩ := blank_step S (0 + a.size) 10 _ rfl hd
  obtain ⟨h5, _⟩ := toks_in S b (a.size + 1) [] (by rw [show a.size + 1 = 0 + a.size + 1 by omega, h4, List.append_nil]) (Or.inl rfl) (by omega) _ 0 (Nat.le_refl _) (Nat.zero_le _)
  have h6 := h5 hb
  rw [Nat.add_zero] at h6
  have h7 : toksFrom S (a.size + 1 + b.size) = ([], none) := toksFrom_end S _ (by rw [skip_end S _ (by omega)]; omega)
  rw [h7, List.append_nil] at h6
  have h8 : toksFrom S 0 = ((toksFrom a 0).1 ++ (toksFrom b 0).1.map (shTk (a.size + 1)), none) := by
    have e : toksFrom S 0 = _ := h2
    rw [e, h3, show 0 + a.size + 1 = a.size + 1 by omega, h6, shTk_zero]
  refine ⟨by rw [h8], ?_⟩
  unfold allTk
  rw [h8, List.map_append, List.append_assoc]
  have : [((7, ⟨#[]⟩, b.size) : Tok)].map (shTk (a.size + 1)) = [(7, ⟨#[]⟩, S.size)] := by
    rw [List.map_singleton]
    unfold shTk
    rw [hSl]; dsimp only
    rw [show b.size + (a.size + 1) = a.size + 1 + b.size by omega]
  rw [this]
theorem tokM_get {l : List Tok} {j : Nat} {t : Tok} (h : l[j]? = some t) : tokM l j = t := by unfold tokM; rw [List.getD_eq_getElem?_getD, h]; rfl
/-- two programs, one behind the other -/
theorem prog_join (a b S : ByteArray) (ka kb : List Tree) (na nb : Nat) (hS : S.data.toList = a.data.toList ++ 10 :: b.data.toList) (hsz : S.size ≤ 16384) (ha : (toksFrom a 0).2 = none) (hb : (toksFrom b 0).2 = none)
    (hpa : progD (allTk a) = (ka, (na, false))) (hpb : progD (allTk b) = (kb, (nb, false))) (hna : kdM (allTk a) (na, false) = 7) :
    (toksFrom S 0).2 = none ∧ ∃ n, progD (allTk S) = (ka ++ kb.map (shT (a.size + 1)), (n, false)) := by
  obtain ⟨h0, hts⟩ := toks_join a b S hS ha hb
  refine ⟨h0, na + nb, ?_⟩
  have hal := allTk_len a
  have hbl := allTk_len b
  have hSl : (allTk S).length = (toksFrom a 0).1.length + (allTk b).length := by rw [hts, List.length_append, List.length_map]
  have hsa : a.size ≤ S.size := by
    have := congrArg List.length hS
    simp at this
    omega
  have hsb : b.size ≤ S.size := by
    have := congrArg List.length hS
    simp at this
    omega
  have hA := allTk_ok a (by omega)
  have hB := allTk_ok b (by omega)
  have hnl : na < (allTk a).length := by
    have := progL_lt (allTk a) ((allTk a).length + 1) [] (0, false) (by rw [hal]; exact Nat.succ_pos _)
    have h2 : progL (allTk a) ((allTk a).length + 1) [] (0, false) = (ka, (na, false)) := hpa
    rw [h2] at this; exact this
  have hna' : na = (toksFrom a 0).1.length := by
    rcases Nat.lt_or_ge na (toksFrom a 0).1.length with h | h
    · exfalso
      have h1 : tokM (allTk a) na = (toksFrom a 0).1[na] := by
        unfold allTk
        rw [tokM_append_left h]
        exact tokM_get (List.getElem?_eq_getElem h)
      have h2 := (toks_fields a _ 0 (Nat.le_refl _) (Nat.zero_le _) _ (List.getElem_mem h)).1
      rw [← h1] at h2
      have h3 : (tokM (allTk a) na).1 = 7 := hna
      omega
    · omega
  have S1 : Sim (allTk a) (allTk S) 0 0 (toksFrom a 0).1.length false := by
    refine ⟨fun j hj => ?_, fun j hj => ⟨fun _ => by omega, fun _ => by omega⟩, (fun h => by cases h), by omega⟩
    rw [Nat.add_zero, hts, tokM_append_left hj]
    show _ = tokM (allTk a) j
    unfold allTk
    rw [tokM_append_left hj]
  have S2 : Sim (allTk b) (allTk S) (toksFrom a 0).1.length (a.size + 1) (allTk b).length false := by
    refine ⟨fun j hj => ?_, fun j hj => ⟨fun _ => by omega, fun _ => by omega⟩, (fun h => by cases h), by omega⟩
    have h1 := tokM_at hj
    refine tokM_get ?_
    rw [hts, List.getElem?_append_right (by omega), Nat.add_sub_cancel, List.getElem?_map, h1]; rfl
  have ea : progL (allTk a) ((allTk a).length + 1) [] (0, false) = (ka, (na, false)) := hpa
  have eb : progL (allTk b) ((allTk b).length + 1) [] (0, false) = (kb, (nb, false)) := hpb
  obtain ⟨n, n1, n2⟩ := progL_part S1 hA ((allTk a).length + 1) [] [] (0, false) rfl rfl (Nat.zero_le _) (by omega) (by omega) (by rw [ea, hna'])
  rw [ea] at n2
  have hkz : ka.map (shT 0) = ka := by
    conv => rhs; rw [← List.map_id ka]
    exact List.map_congr_left fun x _ => shT_zero x
  show progL (allTk S) ((allTk S).length + 1) [] (0, false) = _
  have n3 := n2 ((allTk S).length + 1 - n)
  rw [show n + ((allTk S).length + 1 - n) = (allTk S).length + 1 by omega] at n3
  have n4 : progL (allTk S) ((allTk S).length + 1) [] (0, false) = progL (allTk S) ((allTk S).length + 1 - n) ka (shP (toksFrom a 0).1.length (0, false)) := by
    refine Eq.trans n3 ?_
    show progL _ _ (ka.map (shT 0)) _ = _
    rw [hkz]
    unfold shP
    rw [Nat.zero_add]; rfl
  rw [n4]
  have nbl : nb < (allTk b).length := by
    have := progL_lt (allTk b) ((allTk b).length + 1) [] (0, false) (by rw [hbl]; exact Nat.succ_pos _)
    rw [eb] at this; exact this
  obtain ⟨q1, q2⟩ := progL_sim S2 hB ((allTk b).length + 1) ((allTk S).length + 1 - n) [] [] (0, false) (fun _ => rfl) (by omega) (Or.inr (by omega)) (Or.inr (by simp only [Nat.sub_zero] at n1; omega)) (by rw [eb]; exact nbl)
  rw [eb] at q1 q2
  have q3 := q2 rfl
  have q4 := progL_acc (allTk S) ka ((allTk S).length + 1 - n) [] (shP (toksFrom a 0).1.length (0, false))
  rw [List.append_nil, q1, q3] at q4
  rw [q4]
  unfold shP
  dsimp only
  rw [hna', Nat.add_comm nb]
/-- a word of a source, with a blank behind it, or a line's end, or nothing -/
theorem word_step (S : ByteArray) (p : Nat) (x t : List UInt8) (kd : Nat) (tx : ByteArray) (h : S.data.toList.drop p = x ++ t) (ht : GapEnd t) (hx : x ≠ []) (hs : skS false (x ++ t) = x ++ t) (hT : tokL x = (kd, tx, 0, x.length)) :
    toksFrom S p = ((kd, tx, p) :: (toksFrom S (p + x.length)).1, (toksFrom S (p + x.length)).2) ∧ S.data.toList.drop (p + x.length) = t := by
  have hp : p < S.size := by
    rcases Nat.lt_or_ge p S.size with hp | hp
    · exact hp
    · rw [drop_end S p hp] at h
      have := congrArg List.length h
      have := List.length_pos_iff.2 hx
      simp at *
      omega
  have hl := skip_len S p (by omega)
  rw [h, hs] at hl
  have hdl := congrArg List.length h
  rw [List.length_drop] at hdl
  have e : S.data.toList.length = S.size := by simp
  have hk : skip S p = p := by omega
  have htk : tokenAt S (skip S p) (S[skip S p]'(by omega)) = (kd, tx, 0, p + x.length) := by
    rw [tokenAt_list S _ (by omega), hk, h, tokL_line hx ht, hT]
  refine ⟨?_, by rw [← List.drop_drop, h, List.drop_left]⟩
  rw [toksFrom_ok S p (by omega) (by rw [htk])]
  simp only [htk]
  rw [hk]
theorem progL_end {ts : List Tok} (hts : TsOk ts) : ∀ (g : Nat) (ks : List Tree) (σ : PS) (n : Nat), σ.1 < ts.length → (σ.2 = true ∨ ts.length - σ.1 + 1 ≤ g) → (progL ts g ks σ).2 = (n, false) → kdM ts (n, false) = 7 := by
  intro g
  induction g with
  | zero =>
    intro ks σ n hσ hg h
    have h2 : σ = (n, false) := h
    rcases hg with hg | hg
    · rw [h2] at hg; cases hg
    · omega
  | succ g ih =>
    intro ks σ n hσ hg h
    by_cases hb : σ.2 = true
    · rw [progL_bad ts hb] at h
      have h2 : σ = (n, false) := h
      rw [h2] at hb; cases hb
    · rw [progL_succ, if_neg hb] at h
      by_cases hk : kdM ts σ = 7
      · rw [if_pos hk] at h
        have h2 : σ = (n, false) := h
        rw [← h2]; exact hk
      · rw [if_neg hk] at h
        refine ih _ _ n (declM_lt hσ) ?_ h
        rcases declM_on hts hσ with h3 | h3
        · exact Or.inl h3
        · right
          rcases hg with hg | hg
          · exact absurd hg hb
          · omega
theorem progL_len (ts : List Tok) : ∀ (g : Nat) (ks : List Tree) (σ : PS), ks.length ≤ (progL ts g ks σ).1.length := by
  intro g
  induction g with
  | zero => intro ks σ; exact Nat.le_refl _
  | succ g ih =>
    intro ks σ
    rw [progL_succ]
    split
    · exact Nat.le_refl _
    · split
      · exact Nat.le_refl _
      · have := ih (ks ++ [(declM ts (ruleM ts) σ).1]) (declM ts (ruleM ts) σ).2
        rw [List.length_append] at this
        omega
theorem upTo_len (ts : List Tok) (one : PS → Tree × PS) (stop : ByteArray) : ∀ (g : Nat) (ks : List Tree) (σ : PS), ks.length ≤ (upTo ts one stop g ks σ).1.length := by
  intro g
  induction g with
  | zero => intro ks σ; exact Nat.le_refl _
  | succ g ih =>
    intro ks σ
    rw [upTo_succ]
    split
    · exact Nat.le_refl _
    · split
      · exact Nat.le_refl _
      · have := ih (ks ++ [(one σ).1]) (one σ).2
        rw [List.length_append] at this
        omega
theorem rowLoop_len (ts : List Tok) (one : PS → Tree × PS) : ∀ (g : Nat) (ks : List Tree) (σ : PS), ks.length ≤ (rowLoop ts one g ks σ).1.length := by
  intro g
  induction g with
  | zero => intro ks σ; exact Nat.le_refl _
  | succ g ih =>
    intro ks σ
    rw [rowLoop_succ]
    split
    · have := ih (ks ++ [(one (nextM ts σ)).1]) (one (nextM ts σ)).2
      rw [List.length_append] at this
      omega
    · exact Nat.le_refl _
def preL : List UInt8 := [114, 117, 108, 101, 32, 114, 32, 123, 32, 61, 62, 32, 115, 97, 121, 32]
def tNameR : ByteArray := ⟨#[114]⟩
def frontT : List Tok := [(1, tRule, 0), (2, tNameR, 5), (6, tLeft, 7), (6, tTo, 9), (1, tSay, 12)]
theorem gap_sp (r : List UInt8) : GapEnd (32 :: r) := Or.inr ⟨32, r, rfl, Or.inr rfl⟩
theorem toks_front (S : ByteArray) (t : List UInt8) (hS : S.data.toList = preL ++ t) : toksFrom S 0 = (frontT ++ (toksFrom S 16).1, (toksFrom S 16).2) ∧ S.data.toList.drop 16 = t := by
  have d0 : S.data.toList.drop 0 = [114, 117, 108, 101] ++ (32 :: ([114, 32, 123, 32, 61, 62, 32, 115, 97, 121, 32] ++ t)) := by rw [List.drop_zero, hS]; rfl
  obtain ⟨w1, d1⟩ := word_step S 0 _ _ 1 tRule d0 (gap_sp _) (by decide) rfl rfl
  obtain ⟨b1, d1'⟩ := blank_step S _ 32 _ rfl d1
  obtain ⟨w2, d2⟩ := word_step S 5 [114] (32 :: ([123, 32, 61, 62, 32, 115, 97, 121, 32] ++ t)) 2 tNameR (by exact d1') (gap_sp _) (by decide) rfl rfl
  obtain ⟨b2, d2'⟩ := blank_step S _ 32 _ rfl d2
  obtain ⟨w3, d3⟩ := word_step S 7 [123] (32 :: ([61, 62, 32, 115, 97, 121, 32] ++ t)) 6 tLeft (by exact d2') (gap_sp _) (by decide) rfl rfl
  obtain ⟨b3, d3'⟩ := blank_step S _ 32 _ rfl d3
  obtain ⟨w4, d4⟩ := word_step S 9 [61, 62] (32 :: ([115, 97, 121, 32] ++ t)) 6 tTo (by exact d3') (gap_sp _) (by decide) rfl rfl
  obtain ⟨b4, d4'⟩ := blank_step S _ 32 _ rfl d4
  obtain ⟨w5, d5⟩ := word_step S 12 [115, 97, 121] (32 :: t) 1 tSay (by exact d4') (gap_sp _) (by decide) rfl rfl
  obtain ⟨b5, d5'⟩ := blank_step S _ 32 _ rfl d5
  have e5 : toksFrom S 12 = ((1, tSay, 12) :: (toksFrom S 16).1, (toksFrom S 16).2) := by rw [w5, b5]; rfl
  have e4 : toksFrom S 9 = ((6, tTo, 9) :: (toksFrom S 12).1, (toksFrom S 12).2) := by rw [w4, b4]; rfl
  have e3 : toksFrom S 7 = ((6, tLeft, 7) :: (toksFrom S 9).1, (toksFrom S 9).2) := by rw [w3, b3]; rfl
  have e2 : toksFrom S 5 = ((2, tNameR, 5) :: (toksFrom S 7).1, (toksFrom S 7).2) := by rw [w2, b2]; rfl
  have e1 : toksFrom S 0 = ((1, tRule, 0) :: (toksFrom S 5).1, (toksFrom S 5).2) := by rw [w1, b1]; rfl
  refine ⟨?_, d5'⟩
  rw [e1, e2, e3, e4, e5]; rfl
theorem toks_done (S : ByteArray) (p : Nat) (h : S.size ≤ p) : toksFrom S p = ([], none) := toksFrom_end S p (by rw [skip_end S p h]; omega)
/-- the tokens of the one source -/
theorem toks_one (S a : ByteArray) (hS : S.data.toList = preL ++ (a.data.toList ++ [10, 59, 32, 125])) (h0 : (toksFrom S 0).2 = none) :
    (toksFrom a 0).2 = none ∧ allTk S = frontT ++ ((toksFrom a 0).1.map (shTk 16) ++ [(6, tSemi, 17 + a.size), (6, tRight, 19 + a.size), (7, ⟨#[]⟩, 20 + a.size)]) := by
  have hal : a.data.toList.length = a.size := by simp
  have hsz : S.size = 20 + a.size := by
    have := congrArg List.length hS
    have e : S.data.toList.length = S.size := by simp
    rw [e, List.length_append, List.length_append, hal] at this
    have e2 : preL.length = 16 := rfl
    simp only [List.length_cons, List.length_nil] at this
    omega
  obtain ⟨f1, f2⟩ := toks_front S _ hS
  obtain ⟨g1, g2⟩ := toks_in S a 16 [10, 59, 32, 125] f2 (Or.inr ⟨_, rfl⟩) (by omega) _ 0 (Nat.le_refl _) (Nat.zero_le _)
  have ha : (toksFrom a 0).2 = none := by
    cases hx : (toksFrom a 0).2 with
    | none => rfl
    | some q =>
      exfalso
      obtain ⟨er, pl⟩ := q
      have := g2 er pl hx
      rw [f1] at h0
      have h3 : (toksFrom S 16).2 = none := h0
      rw [Nat.add_zero, h3] at this
      cases this
  refine ⟨ha, ?_⟩
  have g3 := g1 ha
  have d0 : S.data.toList.drop (16 + a.size) = 10 :: [59, 32, 125] := by rw [← List.drop_drop, f2, ← hal, List.drop_left]
  obtain ⟨b1, d1⟩ := blank_step S _ 10 _ rfl d0
  obtain ⟨w2, d2⟩ := word_step S _ [59] [32, 125] 6 tSemi (by exact d1) (gap_sp _) (by decide) rfl rfl
  obtain ⟨b2, d2'⟩ := blank_step S _ 32 _ rfl d2
  obtain ⟨w3, d3⟩ := word_step S _ [125] [] 6 tRight (by exact d2') (Or.inl rfl) (by decide) rfl rfl
  have e : toksFrom S 0 = (frontT ++ ((toksFrom a 0).1.map (shTk 16) ++ [(6, tSemi, 16 + a.size + 1), (6, tRight, 16 + a.size + 1 + 1 + 1)]), none) := by
    rw [f1]
    rw [Nat.add_zero] at g3
    rw [g3, b1, w2]
    have w4 : toksFrom S (16 + a.size + 1 + [(59 : UInt8)].length) = ((6, tRight, 16 + a.size + 1 + 1 + 1) :: [], none) := by
      rw [b2, w3, toks_done S _ (by simp only [List.length_cons, List.length_nil]; omega)]; rfl
    rw [w4]
  unfold allTk
  rw [e, hsz, List.append_assoc, List.append_assoc]
  rw [show 16 + a.size + 1 = 17 + a.size by omega, show 17 + a.size + 1 + 1 = 19 + a.size by omega]
  rfl
/-- the tokens of the other, with brackets and a comment -/
theorem toks_two (S a : ByteArray) (hS : S.data.toList = preL ++ ([40, 32, 35, 32, 99, 10] ++ (a.data.toList ++ [10, 41, 32, 59, 32, 125]))) (ha : (toksFrom a 0).2 = none) :
    (toksFrom S 0).2 = none ∧ allTk S = frontT ++ ((6, tOpen, 16) :: ((toksFrom a 0).1.map (shTk 22) ++ [(6, tShut, 23 + a.size), (6, tSemi, 25 + a.size), (6, tRight, 27 + a.size), (7, ⟨#[]⟩, 28 + a.size)])) := by
  have hal : a.data.toList.length = a.size := by simp
  have hsz : S.size = 28 + a.size := by
    have := congrArg List.length hS
    have e : S.data.toList.length = S.size := by simp
    rw [e, List.length_append, List.length_append, List.length_append, hal] at this
    have e2 : preL.length = 16 := rfl
    simp only [List.length_cons, List.length_nil] at this
    omega
  obtain ⟨f1, f2⟩ := toks_front S _ hS
  obtain ⟨o1, o2⟩ := word_step S 16 [40] (32 :: ([35, 32, 99, 10] ++ (a.data.toList ++ [10, 41, 32, 59, 32, 125]))) 6 tOpen (by exact f2) (gap_sp _) (by decide) rfl rfl
  have hsk : skip S (16 + [(40 : UInt8)].length) = skip S 22 := by
    have hx := skip_len S (16 + [(40 : UInt8)].length) (by simp only [List.length_cons, List.length_nil]; omega)
    rw [o2] at hx
    have d22 : S.data.toList.drop 22 = a.data.toList ++ [10, 41, 32, 59, 32, 125] := by
      have := congrArg (List.drop 6) f2
      rw [List.drop_drop] at this
      exact this
    have hy := skip_len S 22 (by omega)
    rw [d22] at hy
    have : skS false (32 :: ([35, 32, 99, 10] ++ (a.data.toList ++ [10, 41, 32, 59, 32, 125]))) = skS false (a.data.toList ++ [10, 41, 32, 59, 32, 125]) := rfl
    rw [this] at hx
    omega
  have d22 : S.data.toList.drop 22 = a.data.toList ++ [10, 41, 32, 59, 32, 125] := by
    have := congrArg (List.drop 6) f2
    rw [List.drop_drop] at this
    exact this
  have h22 : toksFrom S (16 + [(40 : UInt8)].length) = toksFrom S 22 := by rw [← toksFrom_skip, hsk, toksFrom_skip]
  obtain ⟨g1, _⟩ := toks_in S a 22 [10, 41, 32, 59, 32, 125] d22 (Or.inr ⟨_, rfl⟩) (by omega) _ 0 (Nat.le_refl _) (Nat.zero_le _)
  have g3 := g1 ha
  rw [Nat.add_zero] at g3
  have d0 : S.data.toList.drop (22 + a.size) = 10 :: [41, 32, 59, 32, 125] := by rw [← List.drop_drop, d22, ← hal, List.drop_left]
  obtain ⟨b1, d1⟩ := blank_step S _ 10 _ rfl d0
  obtain ⟨w2, d2⟩ := word_step S _ [41] [32, 59, 32, 125] 6 tShut (by exact d1) (gap_sp _) (by decide) rfl rfl
  obtain ⟨b2, d2'⟩ := blank_step S _ 32 _ rfl d2
  obtain ⟨w3, d3⟩ := word_step S _ [59] [32, 125] 6 tSemi (by exact d2') (gap_sp _) (by decide) rfl rfl
  obtain ⟨b3, d3'⟩ := blank_step S _ 32 _ rfl d3
  obtain ⟨w4, d4⟩ := word_step S _ [125] [] 6 tRight (by exact d3') (Or.inl rfl) (by decide) rfl rfl
  simp only [List.length_cons, List.length_nil, Nat.zero_add] at b1 w2 b2 w3 b3 w4 o1 h22
  have e : toksFrom S 0 = (frontT ++ ((6, tOpen, 16) :: ((toksFrom a 0).1.map (shTk 22) ++ [(6, tShut, 23 + a.size), (6, tSemi, 25 + a.size), (6, tRight, 27 + a.size)])), none) := by
    have e4 : toksFrom S (27 + a.size) = ([(6, tRight, 27 + a.size)], none) := by
      rw [show 27 + a.size = 22 + a.size + 1 + 1 + 1 + 1 + 1 by omega, w4, toks_done S _ (by omega)]
    have e3 : toksFrom S (25 + a.size) = ([(6, tSemi, 25 + a.size), (6, tRight, 27 + a.size)], none) := by
      rw [show 25 + a.size = 22 + a.size + 1 + 1 + 1 by omega, w3, b3, show 22 + a.size + 1 + 1 + 1 + 1 + 1 = 27 + a.size by omega, e4]
    have e2 : toksFrom S (23 + a.size) = ([(6, tShut, 23 + a.size), (6, tSemi, 25 + a.size), (6, tRight, 27 + a.size)], none) := by
      rw [show 23 + a.size = 22 + a.size + 1 by omega, w2, b2, show 22 + a.size + 1 + 1 + 1 = 25 + a.size by omega, e3]
    rw [f1, o1, h22, g3, b1, show 22 + a.size + 1 = 23 + a.size by omega, e2]
  refine ⟨by rw [e], ?_⟩
  unfold allTk
  rw [e, hsz, List.append_assoc, List.cons_append, List.append_assoc]
  rfl
theorem isT_val (kd pl : Nat) (tx : ByteArray) (texts : List ByteArray) : isT (kd, tx, pl) texts = ((kd == 6 || kd == 1) && texts.any (fun s => !s.data.toList.isEmpty && s.data.toList == tx.data.toList)) := by
  unfold isT
  simp only [ByteArray.toList_eq]
theorem isM_val {ts : List Tok} {k kd pl : Nat} {tx : ByteArray} (h : ts[k]? = some (kd, tx, pl)) (texts : List ByteArray) : isM ts (k, false) texts = ((kd == 6 || kd == 1) && texts.any (fun s => !s.data.toList.isEmpty && s.data.toList == tx.data.toList)) := by
  unfold isM
  rw [show tokM ts ((k, false) : PS).1 = (kd, tx, pl) from tokM_get h, isT_val]; rfl
theorem next_val {ts : List Tok} {k : Nat} (h : k + 1 < ts.length) : nextM ts (k, false) = (k + 1, false) := by
  unfold nextM
  rw [nextK_on h]
theorem want_val {ts : List Tok} {k : Nat} {x : ByteArray} (hi : isM ts (k, false) [x] = true) (h : k + 1 < ts.length) : wantM ts (k, false) x = (k + 1, false) := by
  have h1 : (wantM ts (k, false) x).2 = false := by
    show (!(!false && isT (tokM ts k) [x])) = false
    have : isT (tokM ts k) [x] = true := by
      unfold isM at hi
      simpa using hi
    rw [this]; rfl
  have h2 : (wantM ts (k, false) x).1 = k + 1 := by
    show skipK ts k false (tokM ts k) [x] = _
    rw [← (skipM_place ts (k, false) [x]).1]
    unfold skipM
    rw [if_pos hi, next_val h]
  exact Prod.ext h2 h1
theorem want_no {ts : List Tok} {σ : PS} {x : ByteArray} (hi : isM ts σ [x] = false) : (wantM ts σ x).2 = true := by
  show (!(!σ.2 && isT (tokM ts σ.1) [x])) = true
  unfold isM at hi
  rw [hi]; rfl
/-- a row that begins with 'rule r { => say': what is read of it -/
theorem front_read {ts rest : List Tok} (hts : ts = frontT ++ rest) (hr : 2 ≤ rest.length) :
    declM ts (ruleM ts) (0, false) = (.mk 4 tNameR 0 0 (upTo ts (actM ts) tRight (ts.length + 1) [] (4, false)).1, wantM ts (upTo ts (actM ts) tRight (ts.length + 1) [] (4, false)).2 tRight) ∧
    actM ts (4, false) = (.mk 10 ⟨#[]⟩ 0 12 (rowM ts (exprM ts) (5, false)).1, wantM ts (rowM ts (exprM ts) (5, false)).2 tSemi) ∧ isM ts (4, false) [tRight] = false ∧ kdM ts (0, false) ≠ 7 := by
  have hl : ts.length = 5 + rest.length := by rw [hts, List.length_append]; rfl
  have t0 : ts[0]? = some (1, tRule, 0) := by rw [hts]; rfl
  have t1 : ts[1]? = some (2, tNameR, 5) := by rw [hts]; rfl
  have t2 : ts[2]? = some (6, tLeft, 7) := by rw [hts]; rfl
  have t3 : ts[3]? = some (6, tTo, 9) := by rw [hts]; rfl
  have t4 : ts[4]? = some (1, tSay, 12) := by rw [hts]; rfl
  have k0 := tokM_get t0
  have k1 := tokM_get t1
  have k4 := tokM_get t4
  refine ⟨?_, ?_, by rw [isM_val t4]; rfl, by show (tokM ts 0).1 ≠ 7; rw [k0]; decide⟩
  · unfold declM
    rw [if_neg (by rw [isM_val t0]; decide), want_val (by rw [isM_val t0]; rfl) (by omega)]
    have hof : ofM ts (0 + 1, false) 2 4 = (.mk 4 tNameR 0 5 [], (2, false)) := by
      unfold ofM
      rw [show tokM ts ((0 + 1, false) : PS).1 = (2, tNameR, 5) from k1]
      show ((.mk 4 tNameR 0 5 [] : Tree), nextK ts.length 1 false, false) = _
      rw [nextK_on (by omega)]
    have hat : atM ts (0, false) = 0 := by unfold atM; rw [show tokM ts ((0, false) : PS).1 = (1, tRule, 0) from k0]; rfl
    unfold ruleM
    dsimp only
    rw [hof, hat]
    have hsal : salM ts (2, false) = (0, (2, false)) := by unfold salM; rw [if_neg (by rw [isM_val t2]; decide)]
    dsimp only
    rw [hsal]
    dsimp only
    rw [want_val (by rw [isM_val t2]; rfl) (by omega)]
    have hup : upTo ts (condM ts (argM ts)) tTo (ts.length + 1) [] (2 + 1, false) = ([], (3, false)) := by
      rw [upTo_succ, if_neg (by decide), if_pos (by rw [isM_val t3]; rfl)]
    rw [hup]
    dsimp only
    rw [want_val (by rw [isM_val t3]; rfl) (by omega)]
    rfl
  · have hat : atM ts (4, false) = 12 := by unfold atM; rw [show tokM ts ((4, false) : PS).1 = (1, tSay, 12) from k4]; rfl
    unfold actM
    rw [if_neg (by rw [isM_val t4]; decide), if_neg (by rw [isM_val t4]; decide), if_pos (by rw [isM_val t4]; rfl), hat, next_val (by omega)]
theorem drop_TsOk {ts : List Tok} (h : TsOk ts) (c : Nat) : TsOk (ts.drop c) := by
  refine ⟨fun t ht => h.each t (List.mem_of_mem_drop ht), fun k t hk hl => ?_⟩
  rw [List.getElem?_drop] at hk
  rw [List.length_drop] at hl
  have := (List.getElem?_eq_some_iff.1 hk).1
  exact h.last (c + k) t hk (by omega)
theorem drop_sim (ts : List Tok) (c : Nat) (hc : c ≤ ts.length) : Sim (ts.drop c) ts c 0 (ts.length - c) false := by
  refine ⟨fun j hj => ?_, fun j hj => ?_, (fun h => by cases h), by rw [List.length_drop]; omega⟩
  · show tokM ts (j + c) = tokM (ts.drop c) j
    unfold tokM
    rw [List.getD_eq_getElem?_getD, List.getD_eq_getElem?_getD, List.getElem?_drop, Nat.add_comm]
  · rw [List.length_drop]; omega
/-- THE LAW OF BRACKETS, plain -/
theorem brack (a S1 S2 : ByteArray) (hs1 : S1.size ≤ 16384) (hS1 : S1.data.toList = preL ++ (a.data.toList ++ [10, 59, 32, 125])) (hS2 : S2.data.toList = preL ++ ([40, 32, 35, 32, 99, 10] ++ (a.data.toList ++ [10, 41, 32, 59, 32, 125])))
    (h0 : (toksFrom S1 0).2 = none) (r1 a1 p1 : Tree) (n : Nat) (hp : progD (allTk S1) = ([r1], (n, false))) (hr1 : r1.kids = [a1]) (ha1 : a1.kids = [p1]) :
    r1 = .mk 4 tNameR 0 0 [.mk 10 ⟨#[]⟩ 0 12 [p1]] ∧ (toksFrom S2 0).2 = none ∧ ∃ n', progD (allTk S2) = ([.mk 4 tNameR 0 0 [.mk 10 ⟨#[]⟩ 0 12 [shT 6 p1]]], (n', false)) := by
  obtain ⟨ha, e1⟩ := toks_one S1 a hS1 h0
  obtain ⟨h02, e2⟩ := toks_two S2 a hS2 ha
  have hts := allTk_ok S1 hs1
  obtain ⟨f1, f2, f3, f4⟩ := front_read e1 (by rw [List.length_append]; simp)
  obtain ⟨g1, g2, g3, g4⟩ := front_read e2 (by rw [List.length_cons, List.length_append]; simp)
  have h7 : ∀ j, j + 1 < (allTk S1).length → (tokM (allTk S1) j).1 ≠ 7 := fun j hj => by
    rw [allTk_len] at hj
    have hj' : j < (toksFrom S1 0).1.length := by omega
    have h2 := (toks_fields S1 _ 0 (Nat.le_refl _) (Nat.zero_le _) _ (List.getElem_mem hj')).1
    have h1 : tokM (allTk S1) j = (toksFrom S1 0).1[j] := by
      unfold allTk
      rw [tokM_append_left hj']
      exact tokM_get (List.getElem?_eq_getElem hj')
    rw [h1]; omega
  generalize hts1 : allTk S1 = ts at *
  generalize hts2 : allTk S2 = us at *
  obtain ⟨q, hq⟩ : ∃ q, (toksFrom a 0).1.length = q := ⟨_, rfl⟩
  have hl1 : ts.length = q + 8 := by rw [e1, List.length_append, List.length_append, List.length_map, hq]; show 5 + _ = _; simp only [List.length_cons, List.length_nil]; omega
  have hl2 : us.length = q + 10 := by rw [e2, List.length_append, List.length_cons, List.length_append, List.length_map, hq]; show 5 + _ = _; simp only [List.length_cons, List.length_nil]; omega
  have hat1 : ∀ j t, [((6, tSemi, 17 + a.size) : Tok), (6, tRight, 19 + a.size), (7, ⟨#[]⟩, 20 + a.size)][j]? = some t → ts[q + 5 + j]? = some t := fun j t h => by
    have e5 : frontT.length = 5 := rfl
    rw [e1, List.getElem?_append_right (by rw [e5]; omega), List.getElem?_append_right (by rw [List.length_map, hq, e5]; omega), List.length_map, hq, e5, show q + 5 + j - 5 - q = j by omega]
    exact h
  have hat2 : ∀ j t, [((6, tShut, 23 + a.size) : Tok), (6, tSemi, 25 + a.size), (6, tRight, 27 + a.size), (7, ⟨#[]⟩, 28 + a.size)][j]? = some t → us[q + 6 + j]? = some t := fun j t h => by
    have e5 : frontT.length = 5 := rfl
    rw [e2, List.getElem?_append_right (by rw [e5]; omega), e5, show q + 6 + j - 5 = (q + j) + 1 by omega, List.getElem?_cons_succ, List.getElem?_append_right (by rw [List.length_map, hq]; omega), List.length_map, hq, show q + j - q = j by omega]
    exact h
  have s0 := hat1 0 _ rfl
  have s1 := hat1 1 _ rfl
  have s2 := hat1 2 _ rfl
  have u0 := hat2 0 _ rfl
  have u1 := hat2 1 _ rfl
  have u2 := hat2 2 _ rfl
  have u3 := hat2 3 _ rfl
  have hus1 : ∀ j, j < q → us[j + 6]? = (ts[j + 5]?).map (shTk 6) := fun j hj => by
    have e5 : frontT.length = 5 := rfl
    have hj' : j < (toksFrom a 0).1.length := by omega
    rw [e2, List.getElem?_append_right (by rw [e5]; omega), e5, show j + 6 - 5 = j + 1 by omega, List.getElem?_cons_succ, List.getElem?_append_left (by rw [List.length_map]; omega), List.getElem?_map,
      e1, List.getElem?_append_right (by rw [e5]; omega), e5, show j + 5 - 5 = j by omega, List.getElem?_append_left (by rw [List.length_map]; omega), List.getElem?_map, List.getElem?_eq_getElem hj']
    simp only [Option.map_some, shTk, Nat.add_assoc]
  have h5us : us[5]? = some (6, tOpen, 16) := by rw [e2]; rfl
  clear e1 e2 hts1 hts2 hat1 hat2
  -- the one source: what is read of it
  have hD : declM ts (ruleM ts) (0, false) = (r1, (n, false)) ∧ kdM ts (n, false) = 7 := by
    have hp' : progL ts (ts.length + 1) [] (0, false) = ([r1], (n, false)) := hp
    rw [progL_succ, if_neg (by decide), if_neg f4, List.nil_append, show ts.length = (q + 7) + 1 by omega] at hp'
    by_cases hb : (declM ts (ruleM ts) (0, false)).2.2 = true
    · rw [progL_bad ts hb] at hp'
      have := congrArg (fun x => x.2.2) hp'
      dsimp only at this
      rw [hb] at this; cases this
    · rw [progL_succ, if_neg hb] at hp'
      by_cases hk : kdM ts (declM ts (ruleM ts) (0, false)).2 = 7
      · rw [if_pos hk] at hp'
        have x1 := congrArg (fun x => x.1) hp'
        have x2 : (declM ts (ruleM ts) (0, false)).2 = (n, false) := congrArg (fun x => x.2) hp'
        have x3 : (declM ts (ruleM ts) (0, false)).1 = r1 := by simpa using x1
        exact ⟨Prod.ext x3 x2, by rw [← x2]; exact hk⟩
      · rw [if_neg hk] at hp'
        have := progL_len ts (q + 7) ([(declM ts (ruleM ts) (0, false)).1] ++ [(declM ts (ruleM ts) (declM ts (ruleM ts) (0, false)).2).1]) (declM ts (ruleM ts) (declM ts (ruleM ts) (0, false)).2).2
        rw [hp'] at this
        simp at this
  obtain ⟨hD, hk7⟩ := hD
  rw [f1] at hD
  have hr : r1 = .mk 4 tNameR 0 0 (upTo ts (actM ts) tRight (ts.length + 1) [] (4, false)).1 := (congrArg Prod.fst hD).symm
  have hw : wantM ts (upTo ts (actM ts) tRight (ts.length + 1) [] (4, false)).2 tRight = (n, false) := congrArg Prod.snd hD
  have hZ1 : (upTo ts (actM ts) tRight (ts.length + 1) [] (4, false)).1 = [a1] := by rw [hr] at hr1; exact hr1
  have hZ : upTo ts (actM ts) tRight (ts.length + 1) [] (4, false) = ([(actM ts (4, false)).1], (actM ts (4, false)).2) ∧ (actM ts (4, false)).2.2 = false := by
    have hz := upTo_succ ts (actM ts) tRight ts.length [] (4, false)
    rw [if_neg (by decide), if_neg (by rw [f3]; decide), List.nil_append, show upTo ts (actM ts) tRight ts.length = upTo ts (actM ts) tRight ((q + 7) + 1) by rw [hl1]] at hz
    by_cases hb : (actM ts (4, false)).2.2 = true
    · rw [upTo_bad tRight hb] at hz
      rw [hz, wantM] at hw
      have := congrArg Prod.snd hw
      rw [show (wantB (actM ts (4, false)).2.2 (tokM ts (actM ts (4, false)).2.1) tRight) = true by unfold wantB; rw [hb]; rfl] at this
      cases this
    · conv at hz => rhs; rw [upTo_succ, if_neg hb]
      by_cases hi : isM ts (actM ts (4, false)).2 [tRight] = true
      · rw [if_pos hi] at hz
        exact ⟨hz, by simpa using hb⟩
      · rw [if_neg hi] at hz
        have := upTo_len ts (actM ts) tRight (q + 7) ([(actM ts (4, false)).1] ++ [(actM ts (actM ts (4, false)).2).1]) (actM ts (actM ts (4, false)).2).2
        rw [← hz, hZ1] at this
        simp at this
  obtain ⟨hZ, hAb⟩ := hZ
  rw [hZ] at hw hr hZ1
  have hA1 : (actM ts (4, false)).1 = a1 := by simpa using hZ1
  rw [f2] at hA1 hAb hw hr
  have hR1 : (rowM ts (exprM ts) (5, false)).1 = [p1] := by rw [← hA1] at ha1; exact ha1
  have hE : rowM ts (exprM ts) (5, false) = ([(exprM ts (5, false)).1], (exprM ts (5, false)).2) := by
    have hz : rowM ts (exprM ts) (5, false) = rowLoop ts (exprM ts) ((q + 7) + 1) [(exprM ts (5, false)).1] (exprM ts (5, false)).2 := by unfold rowM; rw [hl1]
    rw [rowLoop_succ] at hz
    by_cases hi : isM ts (exprM ts (5, false)).2 [tComma] = true
    · rw [if_pos hi] at hz
      have := rowLoop_len ts (exprM ts) (q + 7) ([(exprM ts (5, false)).1] ++ [(exprM ts (nextM ts (exprM ts (5, false)).2)).1]) (exprM ts (nextM ts (exprM ts (5, false)).2)).2
      rw [← hz, hR1] at this
      simp at this
    · rw [if_neg hi] at hz; exact hz
  rw [hE] at hw hr hAb hR1
  have hp1 : (exprM ts (5, false)).1 = p1 := by simpa using hR1
  have hElt : (exprM ts (5, false)).2.1 < ts.length := exM_lt _ _ _ (by show 5 < _; omega)
  have hw1 := want_step hts hElt (x := tSemi) hAb
  have hw1lt := want_in (ts := ts) hElt tSemi
  have hw2 := want_step hts hw1lt (x := tRight) (by rw [hw])
  have hnlt := want_in (ts := ts) hw1lt tRight
  rw [hw] at hw2 hnlt
  have hn : n = q + 7 := by
    rcases Nat.lt_or_ge (n + 1) ts.length with h | h
    · exact absurd hk7 (h7 n h)
    · dsimp only at hnlt; omega
  have hE2 : (exprM ts (5, false)).2 = (q + 5, false) := by
    refine Prod.ext ?_ (want_ok hAb)
    dsimp only at hw2 ⊢
    omega
  refine ⟨by rw [hr, hp1], h02, q + 9, ?_⟩
  -- the expression, alone
  have D := drop_sim ts 5 (by omega)
  have hdl : (ts.drop 5).length = q + 3 := by rw [List.length_drop]; omega
  have hdt := drop_TsOk hts 5
  have h0lt : ((0, false) : PS).1 < (ts.drop 5).length := by rw [hdl]; exact Nat.succ_pos _
  have hF : (ts.drop 5).length * 7 ≤ ts.length * 7 := Nat.mul_le_mul_right _ (by omega)
  obtain ⟨m1, m2⟩ := exM_sim D hdt (ts.length * 7 + 6) (ts.length * 7 + 6) 0 (0, false) (by omega) h0lt (by dsimp only; omega) (by dsimp only; omega) (Or.inl (by have := exM_lt (ts := ts.drop 5) (ts.length * 7 + 6) 0 (0, false) h0lt; omega))
  have hEE : exM ts (ts.length * 7 + 6) 0 (shP 5 (0, false)) = (p1, (q + 5, false)) := Prod.ext hp1 hE2
  rw [hEE] at m1 m2
  generalize hE0 : exM (ts.drop 5) (ts.length * 7 + 6) 0 (0, false) = E0 at *
  have hE02 : E0.2 = (q, false) := by
    have x1 := congrArg Prod.fst m1
    have x2 := congrArg Prod.snd m1
    unfold shP at x1 x2
    dsimp only at x1 x2
    exact Prod.ext (by show E0.2.1 = q; omega) x2.symm
  have hE01 : E0.1 = p1 := by
    have := m2 (by rw [hE02])
    rw [shT_zero] at this
    exact this.symm
  have T : Sim (ts.drop 5) us 6 6 q true := by
    refine ⟨fun j hj => ?_, fun j hj => ?_, fun _ => ?_, by omega⟩
    · have h1 : j < (ts.drop 5).length := by omega
      have h2 := tokM_at h1
      refine tokM_get ?_
      rw [hus1 j hj, Nat.add_comm j 5, ← List.getElem?_drop, h2]; rfl
    · omega
    · have x1 : tokM (ts.drop 5) q = (6, tSemi, 17 + a.size) := tokM_get (by rw [List.getElem?_drop, Nat.add_comm 5 q]; exact s0)
      have x2 : tokM us (q + 6) = (6, tShut, 23 + a.size) := tokM_get u0
      rw [x1, x2]
      exact ⟨rfl, rfl, rfl, rfl⟩
  have inner : ∀ g, (q + 4) * 7 + 6 ≤ g → exM us g 0 (6, false) = (shT 6 p1, (q + 6, false)) := fun g hg => by
    obtain ⟨k1, k2⟩ := exM_sim T hdt (ts.length * 7 + 6) g 0 (0, false) (by omega) h0lt (by dsimp only; omega) (by dsimp only; omega) (by rw [hE0, hE02]; exact Or.inr ⟨rfl, rfl, rfl⟩)
    rw [hE0] at k1 k2
    have k3 := k2 (by rw [hE02])
    rw [hE02] at k1
    rw [hE01] at k3
    exact Prod.ext k3 k1
  have outer : ∀ i lvl g, lvl + i = 5 → (q + 4) * 7 + 7 + i ≤ g → exM us g lvl (5, false) = (shT 6 p1, (q + 7, false)) := by
    intro i
    induction i with
    | zero =>
      intro lvl g hl hg
      obtain ⟨g, rfl⟩ : ∃ x, g = x + 1 := ⟨g - 1, by omega⟩
      obtain rfl : lvl = 5 := by omega
      unfold exM
      rw [if_neg (by decide), if_pos rfl, if_neg (by rw [isM_val h5us]; decide), if_pos (by rw [isM_val h5us]; rfl), next_val (by omega), inner g (by omega)]
      dsimp only
      rw [want_val (by rw [isM_val (show us[q + 6]? = _ from u0)]; rfl) (by omega)]
    | succ i ih =>
      intro lvl g hl hg
      obtain ⟨g, rfl⟩ : ∃ x, g = x + 1 := ⟨g - 1, by omega⟩
      have hx := ih (lvl + 1) g (by omega) (by omega)
      unfold exM
      rw [if_neg (by decide), if_neg (by omega), hx]
      dsimp only
      have hno : isM us (q + 7, false) (lvl6 lvl) = false := by
        rw [isM_val (show us[q + 7]? = _ from u1)]
        have : lvl < 5 := by omega
        match lvl, this with
        | 0, _ | 1, _ | 2, _ | 3, _ | 4, _ => rfl
      rw [show us.length = (q + 9) + 1 by omega, loopM_succ, if_neg (by rw [hno]; decide)]
  have hEu : exprM us (5, false) = (shT 6 p1, (q + 7, false)) := outer 5 0 _ rfl (by omega)
  have hRu : rowM us (exprM us) (5, false) = ([shT 6 p1], (q + 7, false)) := by
    have hz : rowM us (exprM us) (5, false) = rowLoop us (exprM us) ((q + 9) + 1) [(exprM us (5, false)).1] (exprM us (5, false)).2 := by unfold rowM; rw [hl2]
    rw [hz, hEu, rowLoop_succ, if_neg (by rw [isM_val (show us[q + 7]? = _ from u1)]; decide)]
  rw [hRu] at g2
  dsimp only at g2
  rw [want_val (by rw [isM_val (show us[q + 7]? = _ from u1)]; rfl) (by omega)] at g2
  have hZu : upTo us (actM us) tRight (us.length + 1) [] (4, false) = ([.mk 10 ⟨#[]⟩ 0 12 [shT 6 p1]], (q + 7 + 1, false)) := by
    rw [upTo_succ, if_neg (by decide), if_neg (by rw [g3]; decide), List.nil_append, g2, show upTo us (actM us) tRight us.length = upTo us (actM us) tRight ((q + 9) + 1) by rw [hl2], upTo_succ, if_neg Bool.false_ne_true, if_pos (by rw [isM_val (show us[q + 7 + 1]? = _ from u2)]; rfl)]
  rw [hZu] at g1
  dsimp only at g1
  rw [want_val (by rw [isM_val (show us[q + 7 + 1]? = _ from u2)]; rfl) (by omega)] at g1
  show progL us (us.length + 1) [] (0, false) = _
  rw [progL_succ, if_neg (by decide), if_neg g4, List.nil_append, g1, show us.length = (q + 9) + 1 by omega, progL_succ, if_neg Bool.false_ne_true, if_pos (show kdM us (q + 7 + 1 + 1, false) = 7 by unfold kdM; rw [show tokM us ((q + 7 + 1 + 1, false) : PS).1 = _ from tokM_get u3])]
end Go.Proofs.YtineejjdbjdliaaGreatDoor
/- Tokens written with blanks or comments between are told again: the plain law of ScanBack, with no program in sight. No condition. -/
namespace Go.Proofs.YtineejjdbjdliaaGreatDoor
open Go.RowKit

theorem drop_succ_of (S : ByteArray) (p : Nat) (c : UInt8) (r : List UInt8) (h : S.data.toList.drop p = c :: r) : ∃ hp : p < S.size, S[p] = c ∧ S.data.toList.drop (p + 1) = r := by
  rcases Nat.lt_or_ge p S.size with hp | hp
  · rw [drop_cons S p hp] at h
    injection h with h1 h2
    exact ⟨hp, h1, h2⟩
  · rw [drop_end S p hp] at h
    cases h
theorem drop_more (S : ByteArray) (p : Nat) (a r : List UInt8) (h : S.data.toList.drop p = a ++ r) : S.data.toList.drop (p + a.length) = r := by
  rw [← List.drop_drop, h, List.drop_left]
theorem takeWhile_stop (f : UInt8 → Bool) (a : List UInt8) (b : UInt8) (r : List UInt8) (ha : a.all f = true) (hb : f b = false) : (a ++ b :: r).takeWhile f = a := by
  induction a with
  | nil => simp [hb]
  | cons x a ih =>
    simp only [List.all_cons, Bool.and_eq_true] at ha
    simp [ha.1, ih ha.2]
theorem scanTo_of (f : UInt8 → Bool) (S : ByteArray) (p : Nat) (a : List UInt8) (b : UInt8) (r : List UInt8) (h : S.data.toList.drop p = a ++ b :: r) (ha : a.all f = true) (hb : f b = false) : scanTo f S p = p + a.length := by
  unfold scanTo
  rw [h, takeWhile_stop f a b r ha hb]
theorem ext_of (S : ByteArray) (p : Nat) (x : ByteArray) (r : List UInt8) (h : S.data.toList.drop p = x.data.toList ++ r) : S.extract p (p + x.size) = x := by
  apply bytes_ext
  rw [ext_data, h, Nat.add_sub_cancel_left]
  have e : x.size = x.data.toList.length := by simp
  rw [e, List.take_left]

/-- what a token is written with ahead of it -/
def markL (kd : Nat) : List UInt8 := if kd == 3 then [63] else if kd == 5 then [39] else []
/-- a token that may be written again -/
def Good (kd : Nat) (tx : ByteArray) : Prop :=
  ((kd = if wordB tx.data.toList then 1 else 2) ∧ tx.size ≤ 24 ∧ tx.data.toList.all isOn = true ∧ ∃ c r, tx.data.toList = c :: r ∧ isLow c = true) ∨
  ((kd = 3 ∨ kd = 5) ∧ tx.data.toList.all isOn = true ∧ namedB tx.data.toList = true) ∨
  (kd = 4 ∧ tx.data.toList.all isDig = true ∧ (number tx.data.toList).isSome = true ∧ ∃ c r, tx.data.toList = c :: r ∧ isDig c = true) ∨
  (kd = 6 ∧ tx ∈ signsL)
/-- what may begin behind a token -/
def gapB (b : UInt8) : Bool := b == 32 || b == 9 || b == 10
theorem gap_off (b : UInt8) (h : gapB b = true) : isOn b = false ∧ isDig b = false := by
  unfold gapB at h
  simp only [Bool.or_eq_true, beq_iff_eq] at h
  rcases h with (rfl | rfl) | rfl <;> exact ⟨by decide, by decide⟩
theorem low_facts (c : UInt8) (h : isLow c = true) : isOn c = true ∧ blankB c = false ∧ (c == 35) = false := by
  have := all_u8 (fun c => !isLow c || (isOn c && !blankB c && !(c == 35))) (by kernel_rfl) c
  simpa [h, and_assoc] using this
theorem dig_facts (c : UInt8) (h : isDig c = true) : isLow c = false ∧ (c == 63 || c == 39) = false ∧ blankB c = false ∧ (c == 35) = false := by
  have := all_u8 (fun c => !isDig c || (!isLow c && !(c == 63 || c == 39) && !blankB c && !(c == 35))) (by kernel_rfl) c
  simpa [h, and_assoc] using this
theorem sign_facts (c : UInt8) (hc : signsL.any (fun g => g.data.toList.head? == some c) = true) : isLow c = false ∧ (c == 63 || c == 39) = false ∧ isDig c = false ∧ blankB c = false ∧ (c == 35) = false := by
  have := all_u8 (fun c => !(signsL.any (fun g => g.data.toList.head? == some c)) || (!isLow c && !(c == 63 || c == 39) && !isDig c && !blankB c && !(c == 35))) (by kernel_rfl) c
  simpa [hc, and_assoc] using this

theorem sign_first (g : ByteArray) (hg : g ∈ signsL) (b : UInt8) (hb : gapB b = true) (r : List UInt8) : signsL.find? (fun x => Lib.hasPrefix (g.data.toList ++ b :: r) x.data.toList) = some g := by
  unfold gapB at hb
  simp only [Bool.or_eq_true, beq_iff_eq] at hb
  simp only [signsL, List.mem_cons, List.not_mem_nil, or_false] at hg
  rcases hb with (rfl | rfl) | rfl <;> (rcases hg with rfl | rfl | rfl | rfl | rfl | rfl | rfl | rfl | rfl | rfl | rfl | rfl | rfl | rfl | rfl | rfl | rfl <;> rfl)

theorem good_of (s : ByteArray) (k : Nat) (hk : k < s.size) (h0 : (tokenAt s k s[k]).2.2.1 = 0) : Good (tokenAt s k s[k]).1 (tokenAt s k s[k]).2.1 := by
  unfold tokenAt at h0 ⊢
  by_cases hc : isLow s[k] = true
  · rw [if_pos hc] at h0 ⊢
    have h1 := scanTo_ge isOn s (k + 1)
    have hy := scanTo_yes isOn s k hk (low_facts _ hc).1
    have h2 := scanTo_le isOn s k (by omega)
    have hz : scanTo isOn s k - k ≤ 24 := by
      by_cases hz : scanTo isOn s k - k ≤ 24
      · exact hz
      · rw [if_neg hz] at h0; cases h0
    refine Or.inl ⟨rfl, ?_, scanTo_all _ _ _, s[k], ?_, ?_, hc⟩
    · rw [ByteArray.size_extract]; omega
    · exact (s.data.toList.drop (k + 1)).take (scanTo isOn s k - (k + 1))
    · rw [ext_data, drop_cons s k hk]
      obtain ⟨n, hn⟩ : ∃ n, scanTo isOn s k - k = n + 1 := ⟨scanTo isOn s k - k - 1, by omega⟩
      rw [hn, List.take_succ_cons, show scanTo isOn s k - (k + 1) = n from by omega]
  · rw [if_neg hc] at h0 ⊢
    by_cases hq : (s[k] == 63 || s[k] == 39) = true
    · rw [if_pos hq] at h0 ⊢
      refine Or.inr (Or.inl ⟨?_, scanTo_all _ _ _, ?_⟩)
      · dsimp only
        split
        · exact Or.inr rfl
        · exact Or.inl rfl
      · cases hn : namedB (s.extract (k + 1) (scanTo isOn s (k + 1))).data.toList
        · rw [hn] at h0; cases h0
        · rfl
    · rw [if_neg hq] at h0 ⊢
      by_cases hd : isDig s[k] = true
      · rw [if_pos hd] at h0 ⊢
        have h1 := scanTo_ge isDig s (k + 1)
        have hy := scanTo_yes isDig s k hk hd
        refine Or.inr (Or.inr (Or.inl ⟨rfl, scanTo_all _ _ _, ?_, s[k], ?_, ?_, hd⟩))
        · cases hn : (number (s.extract k (scanTo isDig s k)).data.toList).isSome
          · rw [hn] at h0; cases h0
          · rfl
        · exact (s.data.toList.drop (k + 1)).take (scanTo isDig s k - (k + 1))
        · rw [ext_data, drop_cons s k hk]
          obtain ⟨n, hn⟩ : ∃ n, scanTo isDig s k - k = n + 1 := ⟨scanTo isDig s k - k - 1, by omega⟩
          rw [hn, List.take_succ_cons, show scanTo isDig s k - (k + 1) = n from by omega]
      · rw [if_neg hd] at h0 ⊢
        cases hf : signsL.find? (fun g => Lib.hasPrefix (s.data.toList.drop k) g.data.toList) with
        | none => rw [hf] at h0; simp at h0
        | some g => exact Or.inr (Or.inr (Or.inr ⟨rfl, List.mem_of_find?_eq_some hf⟩))

theorem toks_good (s : ByteArray) : ∀ (f k : Nat) (t : Tok), t ∈ (toks f s k).1 → Good t.1 t.2.1 := by
  intro f
  induction f with
  | zero => intro k t h; cases h
  | succ f ih =>
    intro k t h
    unfold toks at h
    split at h
    · rename_i h1
      split at h
      · rename_i h2
        rcases List.mem_cons.1 h with rfl | h
        · exact good_of s _ h1 h2
        · exact ih _ _ h
      · cases h
    · cases h

theorem toksFrom_good (s : ByteArray) (k : Nat) (t : Tok) (h : t ∈ (toksFrom s k).1) : Good t.1 t.2.1 := toks_good s _ k t h
/-- a good token, written with something behind it, is told again -/
theorem rescan (kd : Nat) (tx : ByteArray) (hg : Good kd tx) (S : ByteArray) (p : Nat) (b : UInt8) (r : List UInt8) (hb : gapB b = true) (h : S.data.toList.drop p = markL kd ++ (tx.data.toList ++ b :: r)) :
    ∃ hp : p < S.size, tokenAt S p S[p] = (kd, tx, 0, p + (markL kd).length + tx.size) ∧ blankB S[p] = false ∧ (S[p] == 35) = false := by
  obtain ⟨hon, hdg⟩ := gap_off b hb
  have hsz : tx.size = tx.data.toList.length := by simp
  rcases hg with ⟨rfl, h24, hall, c, q, hc, hlow⟩ | ⟨hkd, hall, hnm⟩ | ⟨rfl, hall, hnum, c, q, hc, hd⟩ | ⟨rfl, hmem⟩
  · have hm : markL (if wordB tx.data.toList then 1 else 2) = [] := by split <;> rfl
    rw [hm, List.nil_append] at h
    obtain ⟨f1, f2, f3⟩ := low_facts c hlow
    obtain ⟨hp, h1, _⟩ := drop_succ_of S p c (q ++ b :: r) (by rw [h, hc]; rfl)
    have h2 := scanTo_of isOn S p _ b r h hall hon
    refine ⟨hp, ?_, by rw [h1]; exact f2, by rw [h1]; exact f3⟩
    unfold tokenAt
    rw [h1, if_pos hlow, h2, ← hsz, ext_of S p tx _ h, show (if p + tx.size - p ≤ 24 then 0 else 201) = 0 from if_pos (by omega), hm]
    rfl
  · have hm : markL kd = [if kd == 5 then 39 else 63] := by rcases hkd with rfl | rfl <;> rfl
    rw [hm] at h
    obtain ⟨hp, h1, h1'⟩ := drop_succ_of S p _ _ h
    have h2 := scanTo_of isOn S (p + 1) _ b r h1' hall hon
    have hcc : isLow S[p] = false ∧ (S[p] == 63 || S[p] == 39) = true ∧ (if S[p] == 39 then 5 else 3) = kd ∧ blankB S[p] = false ∧ (S[p] == 35) = false := by
      rw [h1]
      rcases hkd with rfl | rfl <;> decide
    obtain ⟨c1, c2, c3, c4, c5⟩ := hcc
    refine ⟨hp, ?_, c4, c5⟩
    unfold tokenAt
    rw [if_neg (by rw [c1]; decide), if_pos c2, c3, h2, ← hsz, ext_of S (p + 1) tx _ h1', hnm, if_pos rfl, hm]
    rfl
  · rw [show markL 4 = [] from rfl, List.nil_append] at h
    obtain ⟨f1, f2, f3, f4⟩ := dig_facts c hd
    obtain ⟨hp, h1, _⟩ := drop_succ_of S p c (q ++ b :: r) (by rw [h, hc]; rfl)
    have h2 := scanTo_of isDig S p _ b r h hall hdg
    have h3 := drop_more S p _ _ h
    refine ⟨hp, ?_, by rw [h1]; exact f3, by rw [h1]; exact f4⟩
    unfold tokenAt
    rw [h1, if_neg (by rw [f1]; decide), if_neg (by rw [f2]; decide), if_pos hd, h2, h3, ← hsz, ext_of S p tx _ h, hnum]
    simp [hon, markL]
  · rw [show markL 6 = [] from rfl, List.nil_append] at h
    have hpos := signs_pos tx hmem
    obtain ⟨c, q, hc⟩ : ∃ c q, tx.data.toList = c :: q := by
      cases hh : tx.data.toList with
      | nil =>
        rw [hh] at hsz
        have : tx.size = 0 := hsz
        omega
      | cons c q => exact ⟨c, q, rfl⟩
    obtain ⟨hp, h1, _⟩ := drop_succ_of S p c (q ++ b :: r) (by rw [h, hc]; rfl)
    obtain ⟨f1, f2, f3, f4, f5⟩ := sign_facts c (List.any_eq_true.2 ⟨tx, hmem, by rw [hc]; simp⟩)
    refine ⟨hp, ?_, by rw [h1]; exact f4, by rw [h1]; exact f5⟩
    unfold tokenAt
    rw [h1, if_neg (by rw [f1]; decide), if_neg (by rw [f2]; decide), if_neg (by rw [f3]; decide), h, sign_first tx hmem b hb r]
    rfl

/-- what stands between two tokens -/
def Gap (bt : List UInt8) : Prop := (∃ b r, bt = b :: r ∧ gapB b = true) ∧ ∀ (S : ByteArray) (p : Nat) (r : List UInt8), S.data.toList.drop p = bt ++ r → skip S p = skip S (p + bt.length)
theorem skip_one (S : ByteArray) (p : Nat) (b : UInt8) (r : List UInt8) (hb : blankB b = true) (h : S.data.toList.drop p = b :: r) : skip S p = skip S (p + 1) ∧ S.data.toList.drop (p + 1) = r := by
  obtain ⟨hp, h1, h2⟩ := drop_succ_of S p b r h
  exact ⟨skip_blank S p hp (by rw [h1]; exact hb), h2⟩
theorem gap_blank : Gap [32] := by
  refine ⟨⟨32, [], rfl, rfl⟩, fun S p r h => ?_⟩
  exact (skip_one S p 32 r rfl h).1
theorem gap_tab : Gap [9, 13] := by
  refine ⟨⟨9, [13], rfl, rfl⟩, fun S p r h => ?_⟩
  obtain ⟨h1, h2⟩ := skip_one S p 9 (13 :: r) rfl h
  rw [h1, (skip_one S (p + 1) 13 r rfl h2).1]
  rfl
theorem gap_lines : Gap [10, 10] := by
  refine ⟨⟨10, [10], rfl, rfl⟩, fun S p r h => ?_⟩
  obtain ⟨h1, h2⟩ := skip_one S p 10 (10 :: r) rfl h
  rw [h1, (skip_one S (p + 1) 10 r rfl h2).1]
  rfl
theorem gap_note (note : List UInt8) (hn : note.all (· != 10) = true) : Gap ([32, 35, 32] ++ note ++ [10]) := by
  refine ⟨⟨32, _, rfl, rfl⟩, fun S p r h => ?_⟩
  obtain ⟨h1, h2⟩ := skip_one S p 32 (35 :: 32 :: note ++ 10 :: r) rfl (by rw [h]; simp)
  obtain ⟨hp, h3, _⟩ := drop_succ_of S (p + 1) 35 _ h2
  have h4 := scanTo_of (· != 10) S (p + 1) (35 :: 32 :: note) 10 r (by rw [h2]) (by simpa using hn) (by decide)
  have h5 := drop_more S (p + 1) (35 :: 32 :: note) (10 :: r) (by rw [h2])
  rw [h1, skip_hash S (p + 1) hp h3, h4, (skip_one S _ 10 r rfl h5).1]
  congr 1
  simp
  omega

/-- tokens written with something behind each -/
def wr (bt : List UInt8) (l : List Tok) : List UInt8 := l.flatMap fun t => markL t.1 ++ t.2.1.data.toList ++ bt
theorem wr_cons (bt : List UInt8) (t : Tok) (l : List Tok) : wr bt (t :: l) = markL t.1 ++ (t.2.1.data.toList ++ (bt ++ wr bt l)) := by
  simp [wr, List.append_assoc]

theorem wr_back (bt : List UInt8) (hbt : Gap bt) (S : ByteArray) (e : Tok) (he : e.1 = 7 ∧ e.2.1 = ⟨#[]⟩) : ∀ (l : List Tok) (p : Nat), (∀ t ∈ l, Good t.1 t.2.1) → S.data.toList.drop p = wr bt (l ++ [e]) →
    (toksFrom S p).2 = none ∧ (toksFrom S p).1.map (fun t => (t.1, t.2.1)) = l.map (fun t => (t.1, t.2.1)) := by
  obtain ⟨⟨b, r, rfl, hb⟩, hskip⟩ := hbt
  intro l
  induction l with
  | nil =>
    intro p _ h
    have hw : wr (b :: r) ([] ++ [e]) = b :: r := by
      rw [List.nil_append, wr_cons, he.1, he.2]; simp [markL, wr]
    rw [hw] at h
    have h1 := hskip S p [] (by rw [h]; simp)
    have h2 := drop_more S p (b :: r) [] (by rw [h]; simp)
    have h3 : S.size ≤ p + (b :: r).length := by
      rcases Nat.lt_or_ge (p + (b :: r).length) S.size with hlt | hge
      · rw [drop_cons S _ hlt] at h2; cases h2
      · exact hge
    rw [toksFrom_end S p (by rw [h1, skip_end S _ h3]; omega)]
    exact ⟨rfl, rfl⟩
  | cons t l ih =>
    intro p hgood h
    rw [List.cons_append, wr_cons, List.cons_append] at h
    obtain ⟨hp, h1, h2, h3⟩ := rescan t.1 t.2.1 (hgood t (List.mem_cons_self ..)) S p b _ hb h
    have hs : skip S p = p := skip_stop S p hp h2 h3
    have e1 := drop_more S p _ _ h
    have e2 := drop_more S _ _ _ e1
    have e3 := hskip S (p + (markL t.1).length + t.2.1.data.toList.length) (wr (b :: r) (l ++ [e])) e2
    have e4 := drop_more S _ (b :: r) _ e2
    have hsz : t.2.1.size = t.2.1.data.toList.length := by simp
    obtain ⟨i1, i2⟩ := ih _ (fun u hu => hgood u (List.mem_cons_of_mem _ hu)) e4
    have hto : toksFrom S (p + (markL t.1).length + t.2.1.size) = toksFrom S (p + (markL t.1).length + t.2.1.data.toList.length + (b :: r).length) := by
      rw [hsz, ← toksFrom_skip S (p + (markL t.1).length + t.2.1.data.toList.length), e3, toksFrom_skip]
    have hok : toksFrom S p = ((t.1, t.2.1, p) :: (toksFrom S (p + (markL t.1).length + t.2.1.size)).1, (toksFrom S (p + (markL t.1).length + t.2.1.size)).2) := by
      have hh := toksFrom_ok S p (by rw [hs]; exact hp) (by simp only [hs, h1])
      simp only [hs, h1] at hh
      exact hh
    rw [hok, hto]
    refine ⟨i1, ?_⟩
    rw [List.map_cons, List.map_cons, i2]
end Go.Proofs.YtineejjdbjdliaaGreatDoor
/- A source's program, whole; places farther on make no difference to what is right; with no program in sight. Condition: at most 16384 bytes. -/
namespace Go.Proofs.YtineejjdbjdliaaGreatDoor
open Go.RowKit

/-! places farther on make no difference to what is right, how deep it is -/
section
variable (m : Nat)
theorem shT_kt (t : Tree) : (shT m t).kind = t.kind ∧ (shT m t).text = t.text := ⟨(shT_parts m t).1, (shT_parts m t).2.1⟩
theorem among_sh (S : List Nat) (l : List Tree) : among S (l.map (shT m)) = among S l := by
  unfold among
  rw [List.all_map]
  congr 1
  funext t
  show S.contains (shT m t).kind = _
  rw [(shT_kt m t).1]
theorem exprsB_sh (l : List Tree) : exprsB (l.map (shT m)) = exprsB l := by
  unfold exprsB
  rw [among_sh, List.all_map]
  congr 2
  funext t
  show (!((shT m t).kind == 14 && negB (shT m t).text.data.toList)) = _
  rw [(shT_kt m t).1, (shT_kt m t).2]
theorem rowB_sh (l : List Tree) : rowB (l.map (shT m)) = rowB l := by
  unfold rowB
  have e : (l.map (shT m)).dropWhile condB = (l.dropWhile condB).map (shT m) := by
    induction l with
    | nil => rfl
    | cons x l ih =>
      rw [List.map_cons, List.dropWhile_cons, List.dropWhile_cons]
      have : condB (shT m x) = condB x := by unfold condB; rw [(shT_kt m x).1]
      rw [this]
      split
      · exact ih
      · rfl
  rw [e, among_sh]
theorem kidsOk_sh (kind : Nat) (l : List Tree) : kidsOk kind (l.map (shT m)) = kidsOk kind l := by
  unfold kidsOk
  simp only [among_sh, exprsB_sh, rowB_sh, List.length_map]
  congr 7
  cases l <;> rfl
theorem levelOk_sh (T : Tree) (h : levelOk T = true) : levelOk (shT m T) = true := by
  obtain ⟨e1, e2, e3, e4, e5⟩ := shT_parts m T
  unfold levelOk at h ⊢
  rw [e1, e2, e3, e4, e5, kidsOk_sh, List.length_map]
  have e6 : decide (0 ≤ T.place) = true := by
    cases hd : decide (0 ≤ T.place)
    · rw [hd] at h; simp at h
    · rfl
  have e7 : decide (0 ≤ T.place + m) = true := by simp at e6 ⊢; omega
  rw [e6] at h
  rw [e7]; exact h
theorem okF_sh : ∀ (d : Nat) (T : Tree), okF d T = true → okF d (shT m T) = true := by
  intro d
  induction d with
  | zero => intro T h; exact levelOk_sh m T h
  | succ d ih =>
    intro T h
    unfold okF at h ⊢
    rw [Bool.and_eq_true] at h ⊢
    refine ⟨levelOk_sh m T h.1, ?_⟩
    rw [(shT_parts m T).2.2.2.2, List.all_map]
    exact List.all_eq_true.2 fun t ht => ih t (List.all_eq_true.1 h.2 t ht)
theorem deepF_sh : ∀ (d : Nat) (T : Tree), deepF d (shT m T) = deepF d T ∧ manyF d (shT m T) = manyF d T := by
  intro d
  induction d with
  | zero => intro T; exact ⟨rfl, rfl⟩
  | succ d ih =>
    intro T
    unfold deepF manyF
    rw [(shT_parts m T).2.2.2.2, List.map_map, List.map_map]
    have h1 : (deepF d ∘ shT m) = deepF d := by funext t; exact (ih t).1
    have h2 : (manyF d ∘ shT m) = manyF d := by funext t; exact (ih t).2
    rw [h1, h2]
    exact ⟨rfl, rfl⟩
theorem dpM_sh : ∀ (n : Nat) (T : Tree), dpM n T = none → dpM n (shT m T) = none := by
  intro n
  induction n with
  | zero => intro T h; cases h
  | succ n ih =>
    intro T h
    unfold dpM at h ⊢
    rw [(shT_parts m T).2.2.2.2]
    rw [List.findSome?_eq_none_iff] at h ⊢
    intro t ht
    obtain ⟨u, hu, rfl⟩ := List.mem_map.1 ht
    exact ih u (h u hu)
end
/-- what a source that is told a program has -/
theorem progM_ok {s : ByteArray} {T : Tree} {at_ : Int} (h : progM s = (T, 0, at_)) : s.size ≤ 16384 ∧ (toksFrom s 0).2 = none ∧ T = progT s ∧ (∃ n, progD (allTk s) = (T.kids, (n, false))) ∧ dpM 30 T = none ∧ rightF 30 T = true ∧ at_ = 0 := by
  unfold progM at h
  by_cases hs : 16384 < s.size
  · rw [if_pos hs] at h
    have := congrArg (fun x => x.2.1) h
    cases this
  · rw [if_neg hs] at h
    cases h0 : (toksFrom s 0).2 with
    | some q =>
      obtain ⟨er, pl⟩ := q
      rw [h0] at h
      have h1 : ((er : Int)) = 0 := congrArg (fun x => x.2.1) h
      have := (toks_err s _ 0 er pl h0).1
      omega
    | none =>
      rw [h0] at h
      have h' : progR (allTk s) (progD (allTk s)) (progT s) = (T, 0, at_) := h
      have hk : (progT s).kids = (progD (allTk s)).1 := rfl
      refine ⟨by omega, rfl, ?_⟩
      unfold progR at h'
      generalize progD (allTk s) = R at *
      generalize progT s = T0 at *
      by_cases hb : R.2.2 = true
      · rw [if_pos hb] at h'
        have := congrArg (fun x => x.2.1) h'
        cases this
      · rw [if_neg hb] at h'
        cases hd : dpM 30 T0 with
        | some p =>
          rw [hd] at h'
          have := congrArg (fun x => x.2.1) h'
          cases this
        | none =>
          rw [hd] at h'
          dsimp only at h'
          by_cases hr : rightF 30 T0 = true
          · rw [if_pos hr] at h'
            have e1 : T0 = T := congrArg (fun x => x.1) h'
            have e2 : (0 : Int) = at_ := congrArg (fun x => x.2.2) h'
            subst e1
            refine ⟨rfl, ⟨R.2.1, ?_⟩, hd, hr, e2.symm⟩
            rw [hk]
            refine Prod.ext rfl (Prod.ext rfl ?_)
            simpa using hb
          · rw [if_neg hr] at h'
            have := congrArg (fun x => x.2.1) h'
            cases this
theorem progM_of {s : ByteArray} (hs : s.size ≤ 16384) (h0 : (toksFrom s 0).2 = none) {n : Nat} {ks : List Tree} (hp : progD (allTk s) = (ks, (n, false))) (hd : dpM 30 (.mk 1 ⟨#[]⟩ 0 0 ks) = none) :
    progM s = if rightF 30 (.mk 1 ⟨#[]⟩ 0 0 ks) = true then (.mk 1 ⟨#[]⟩ 0 0 ks, 0, 0) else (zeroT, 204, 0) := by
  have hT : progT s = .mk 1 ⟨#[]⟩ 0 0 ks := by unfold progT; rw [hp]
  unfold progM
  rw [if_neg (by omega), h0]
  show progR _ _ _ = _
  unfold progR
  rw [hp, hT, if_neg (show ¬ false = true by decide), hd]
theorem tree_of (T : Tree) {s : ByteArray} (h : T = progT s) : T = .mk 1 ⟨#[]⟩ 0 0 T.kids := by rw [h]; rfl
/-- TWO PROGRAMS, one behind the other -/
theorem join_told {a b S : ByteArray} {Ta Tb : Tree} {xa xb : Int} (hS : S.data.toList = a.data.toList ++ 10 :: b.data.toList) (hsz : S.size ≤ 16384) (ha : progM a = (Ta, 0, xa)) (hb : progM b = (Tb, 0, xb)) :
    progM S = (.mk 1 ⟨#[]⟩ 0 0 (Ta.kids ++ Tb.kids.map (shT (a.size + 1))), 0, 0) ∨ progM S = (zeroT, 204, 0) := by
  obtain ⟨a1, a2, a3, ⟨na, a4⟩, a5, _⟩ := progM_ok ha
  obtain ⟨b1, b2, b3, ⟨nb, b4⟩, b5, _⟩ := progM_ok hb
  have hna : kdM (allTk a) (na, false) = 7 := progL_end (allTk_ok a a1) ((allTk a).length + 1) [] (0, false) na (by rw [allTk_len]; exact Nat.succ_pos _) (Or.inr (by omega)) (congrArg Prod.snd a4)
  obtain ⟨h0, n, hn⟩ := prog_join a b S Ta.kids Tb.kids na nb hS hsz a2 b2 a4 b4 hna
  have hd : dpM 30 (.mk 1 ⟨#[]⟩ 0 0 (Ta.kids ++ Tb.kids.map (shT (a.size + 1)))) = none := by
    have h1 : Ta.kids.findSome? (dpM 29) = none := a5
    have h2 : Tb.kids.findSome? (dpM 29) = none := b5
    show (Ta.kids ++ Tb.kids.map (shT (a.size + 1))).findSome? (dpM 29) = none
    rw [List.findSome?_append, h1, Option.none_or]
    rw [List.findSome?_eq_none_iff] at h2 ⊢
    intro t ht
    obtain ⟨u, hu, rfl⟩ := List.mem_map.1 ht
    exact dpM_sh _ 29 u (h2 u hu)
  have := progM_of hsz h0 hn hd
  by_cases hr : rightF 30 (.mk 1 ⟨#[]⟩ 0 0 (Ta.kids ++ Tb.kids.map (shT (a.size + 1)))) = true
  · rw [if_pos hr] at this; exact Or.inl this
  · rw [if_neg hr] at this; exact Or.inr this
end Go.Proofs.YtineejjdbjdliaaGreatDoor
