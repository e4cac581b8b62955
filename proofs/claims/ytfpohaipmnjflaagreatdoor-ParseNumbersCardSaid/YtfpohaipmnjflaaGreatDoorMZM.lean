/- Several texts joined, each with its own sentence and conditions ahead of it: LexS, LexT, LexU. -/
import Derived.Test.YtfpohaipmnjflaaGreatDoorMZL
import Derived.Test.YtfpohaipmnjflaaGreatDoorME
import Derived.Test.YtfpohaipmnjflaaGreatDoorMSA
/- What the scanner reads of a text that is written token by token; with no program in sight. No condition. -/
namespace Go.Proofs.YtfpohaipmnjflaaGreatDoor
open Go.RowKit

/-- a token without its place -/
def ktOf (t : Tok) : Nat × ByteArray := (t.1, t.2.1)
/-- SCANNING what begins with l, and has r behind it: these tokens, then r is left -/
def Lx (l : List UInt8) (ks : List (Nat × ByteArray)) (r : List UInt8) : Prop :=
  ∀ (S : ByteArray) (p : Nat), S.data.toList.drop p = l ++ r → p ≤ S.size →
    (toksFrom S p).1.map ktOf = ks ++ (toksFrom S (p + l.length)).1.map ktOf ∧ (toksFrom S p).2 = (toksFrom S (p + l.length)).2 ∧ S.data.toList.drop (p + l.length) = r ∧ p + l.length ≤ S.size
theorem Lx.nil (r : List UInt8) : Lx [] [] r := fun _ _ h hp => ⟨rfl, rfl, by simpa using h, by simpa using hp⟩
theorem drop_lt {S : ByteArray} {p : Nat} {c : UInt8} {r : List UInt8} (h : S.data.toList.drop p = c :: r) : p < S.size := by
  rcases Nat.lt_or_ge p S.size with hp | hp
  · exact hp
  · rw [drop_end S p hp] at h; cases h
theorem Lx.blank {c : UInt8} (hc : blankB c = true) (r : List UInt8) : Lx [c] [] r := by
  intro S p h _
  obtain ⟨h1, h2⟩ := blank_step S p c r hc h
  have := drop_lt h
  exact ⟨by rw [h1]; rfl, by rw [h1]; rfl, h2, this⟩
theorem Lx.tok {x r : List UInt8} {kd : Nat} {tx : ByteArray} (hx : x ≠ []) (hs : skS false (x ++ r) = x ++ r) (hT : tokL (x ++ r) = (kd, tx, 0, x.length)) : Lx x [(kd, tx)] r := by
  intro S p h hp0
  obtain ⟨c, q, hcq⟩ := List.exists_cons_of_ne_nil hx
  have hp : p < S.size := drop_lt (c := c) (r := q ++ r) (by rw [h, hcq]; rfl)
  have hl := skip_len S p hp0
  rw [h, hs] at hl
  have hdl := congrArg List.length h
  rw [List.length_drop] at hdl
  have e : S.data.toList.length = S.size := by simp
  have hk : skip S p = p := by omega
  have hlen : p + x.length ≤ S.size := by rw [List.length_append] at hdl; omega
  have htk : tokenAt S (skip S p) (S[skip S p]'(by omega)) = (kd, tx, 0, p + x.length) := by
    rw [tokenAt_list S _ (by omega), hk, h, hT]
  have e2 := toksFrom_ok S p (by omega) (by rw [htk])
  simp only [htk] at e2
  rw [e2]
  exact ⟨rfl, rfl, by rw [← List.drop_drop, h, List.drop_left], hlen⟩
/-- what may stand behind a name, a number -/
def Stop (r : List UInt8) : Prop := r = [] ∨ ∃ c q, r = c :: q ∧ isOn c = false
theorem Stop.cons {c : UInt8} (h : isOn c = false) (q : List UInt8) : Stop (c :: q) := Or.inr ⟨c, q, rfl, h⟩
theorem while_stop (f : UInt8 → Bool) (hf : ∀ c, isOn c = false → f c = false) {r : List UInt8} (hr : Stop r) : ∀ {x : List UInt8}, x.all f = true → (x ++ r).takeWhile f = x ∧ (x ++ r).dropWhile f = r := by
  intro x
  induction x with
  | nil =>
    intro _
    rcases hr with rfl | ⟨c, q, rfl, hc⟩
    · exact ⟨rfl, rfl⟩
    · rw [List.nil_append, List.takeWhile_cons, List.dropWhile_cons, if_neg (by rw [hf c hc]; decide), if_neg (by rw [hf c hc]; decide)]
      exact ⟨rfl, rfl⟩
  | cons y x ih =>
    intro h
    rw [List.all_cons, Bool.and_eq_true] at h
    obtain ⟨h1, h2⟩ := ih h.2
    rw [List.cons_append, List.takeWhile_cons, List.dropWhile_cons, if_pos h.1, if_pos h.1, h1, h2]
    exact ⟨rfl, rfl⟩
theorem dig_on (c : UInt8) (h : isDig c = true) : isOn c = true := by
  have := all_u8 (fun c => !isDig c || isOn c) (by kernel_rfl) c
  simp [h] at this
  exact this
theorem sk_first {c : UInt8} (hb : blankB c = false) (h35 : (c == 35) = false) (r : List UInt8) : skS false (c :: r) = c :: r := by
  rw [skS_plain, if_neg (by rw [hb]; decide), if_neg (by simpa using h35)]
theorem number_digs : ∀ (l : List UInt8) (a : Nat), (numGo a l).isSome = true → l.all isDig = true := by
  intro l
  induction l with
  | nil => intro a _; rfl
  | cons c r ih =>
    intro a h
    unfold numGo at h
    split at h
    · rename_i hc
      rw [Bool.and_eq_true] at hc
      rw [List.all_cons, hc.1, ih _ h]; rfl
    · cases h
/-- a number -/
theorem Lx.num {x r : List UInt8} (h : (number x).isSome = true) (hr : Stop r) : Lx x [(4, mkB x)] r := by
  cases hx : x with
  | nil => rw [hx] at h; cases h
  | cons c q =>
    rw [← hx]
    have hn : number x = numGo 0 x := by unfold number; rw [hx]; rfl
    have hall := number_digs x 0 (by rw [← hn]; exact h)
    have hc : isDig c = true := by rw [hx, List.all_cons, Bool.and_eq_true] at hall; exact hall.1
    obtain ⟨f1, f2, f3, f4⟩ := dig_facts c hc
    have h1 := while_stop isDig (fun c h => by
      cases hd : isDig c with
      | false => rfl
      | true => rw [dig_on c hd] at h; cases h) hr hall
    have h2 : (r.head?.any isOn) = false := by
      rcases hr with rfl | ⟨c, q, rfl, hc⟩
      · rfl
      · exact hc
    refine Lx.tok (by rw [hx]; simp) (by rw [hx]; exact sk_first f3 f4 _) ?_
    have e : tokL (x ++ r) = (4, mkB ((x ++ r).takeWhile isDig), (if (number ((x ++ r).takeWhile isDig)).isSome && !(((x ++ r).dropWhile isDig).head?.any isOn) then 0 else 201), ((x ++ r).takeWhile isDig).length) := by
      conv => lhs; unfold tokL
      rw [hx, List.cons_append]
      dsimp only
      rw [if_neg (by rw [f1]; decide), if_neg (by rw [f2]; decide), if_pos hc]
    rw [e, h1.1, h1.2, h, h2]
    rfl
/-- a sign, by what stands behind it -/
theorem Lx.sign {g : ByteArray} {r : List UInt8} (hg : g ∈ signsL) (hf : signsL.find? (fun x => Lib.hasPrefix (g.data.toList ++ r) x.data.toList) = some g) : Lx g.data.toList [(6, g)] r := by
  have hsz : g.size = g.data.toList.length := by simp
  have hpos := signs_pos g hg
  obtain ⟨c, q, hc⟩ : ∃ c q, g.data.toList = c :: q := by
    cases hh : g.data.toList with
    | nil =>
      have : g.size = 0 := by rw [hsz, hh]; rfl
      omega
    | cons c q => exact ⟨c, q, rfl⟩
  obtain ⟨f1, f2, f3, f4, f5⟩ := sign_facts c (List.any_eq_true.2 ⟨g, hg, by rw [hc]; simp⟩)
  refine Lx.tok (by rw [hc]; simp) (by rw [hc]; exact sk_first f4 f5 _) ?_
  unfold tokL
  rw [hc, List.cons_append]
  dsimp only
  rw [if_neg (by rw [f1]; decide), if_neg (by rw [f2]; decide), if_neg (by rw [f3]; decide)]
  rw [hc, List.cons_append] at hf
  rw [hf]
  simp [hsz, hc]
theorem prefix_one (c d : UInt8) (r : List UInt8) : Lib.hasPrefix (c :: r) [d] = (d == c) := by
  unfold Lib.hasPrefix
  simp [List.isPrefixOf]
/-- signs that begin no other sign -/
theorem Lx.lone {c : UInt8} (hc : c ∈ [40, 41, 123, 125, 44, 59, 43, 45, 42, 95]) (r : List UInt8) : Lx [c] [(6, mkB [c])] r := by
  have h0 : [40, 41, 123, 125, 44, 59, 43, 45, 42, 95].all (fun c => (signsL.any fun g => g.data.toList == [c]) && ((signsL.find? (fun g => g.data.toList.head? == some c)).map (fun g => g.data.toList) == some [c]) && (signsL.all fun g => (g.data.toList.head? != some c) || g.data.toList.length == 1)) = true := by kernel_rfl
  rw [List.all_eq_true] at h0
  have h1 := h0 c hc
  simp only [Bool.and_eq_true, List.any_eq_true, beq_iff_eq] at h1
  obtain ⟨⟨⟨g0, h1, h1'⟩, h2⟩, h3⟩ := h1
  have hg0 : g0 = mkB [c] := bytes_ext _ _ h1'
  rw [hg0] at h1
  refine Lx.sign (g := mkB [c]) h1 ?_
  have h2 : signsL.find? (fun g => g.data.toList.head? == some c) = some (mkB [c]) := by
    cases hf : signsL.find? (fun g => g.data.toList.head? == some c) with
    | none => rw [hf] at h2; cases h2
    | some g1 =>
      rw [hf] at h2
      have : g1 = mkB [c] := bytes_ext _ _ (Option.some.inj h2)
      rw [this]
  rw [← h2]
  refine find_congr signsL fun g hg => ?_
  rw [List.all_eq_true] at h3
  have h4 := h3 g hg
  show Lib.hasPrefix (c :: r) g.data.toList = _
  cases hgl : g.data.toList with
  | nil =>
    have hsz : g.size = g.data.toList.length := by simp
    have h5 := signs_pos g hg
    have h6 : g.size = 0 := by rw [hsz, hgl]; rfl
    omega
  | cons d q =>
    rw [hgl] at h4
    by_cases hd : d = c
    · subst hd
      have : q = [] := by simpa using h4
      subst this
      rw [prefix_one]
      simp
    · have e : Lib.hasPrefix (c :: r) (d :: q) = false := by
        unfold Lib.hasPrefix
        simp [List.isPrefixOf, hd]
      rw [e]
      simp [hd]
end Go.Proofs.YtfpohaipmnjflaaGreatDoor
/- The tokens of a tree's text; with no program in sight. Condition: the tree is right. -/
namespace Go.Proofs.YtfpohaipmnjflaaGreatDoor
open Go.RowKit

abbrev KT := Nat × ByteArray
def sgT (c : UInt8) : KT := (6, mkB [c])
def leafT (T : Tree) : List KT :=
  if T.kind = 12 then [sgT 95] else if T.kind = 13 then [(3, T.text)] else if T.kind = 15 then [(5, T.text)]
  else if negB (txL T) then [sgT 45, (4, mkB (strip (txL T)))] else [(4, T.text)]
theorem blank32 : blankB 32 = true := by decide
theorem Lx.sp (r : List UInt8) : Lx [32] [] r := Lx.blank blank32 r
end Go.Proofs.YtfpohaipmnjflaaGreatDoor
/- The tokens of a program's text; numbers told again; with no program in sight. Condition: the tree is right. -/
namespace Go.Proofs.YtfpohaipmnjflaaGreatDoor
open Go.RowKit
end Go.Proofs.YtfpohaipmnjflaaGreatDoor
