/- Several texts joined, each with its own sentence and conditions ahead of it: ShowM, ShowN, ShowA, ShowB, ShowC, ShowD, ShowE. -/
import Derived.Test.YtoekldhdojpceaaGreatDoorSE
import Derived.Lib.ItoaNum
import Derived.Test.YtoekldhdojpceaaGreatDoorSF
import Derived.Lib.OthersKept
import Derived.Lib.FrozenHead
import Derived.Lib.Builder
import Derived.Lib.AppendStr
import Derived.Lib.UnsafeStr
import Derived.Lib.Walk
import Derived.Lib.Strings
import Derived.Laws.Externs
/- A tree's text, as the document says it, and how long it is; with no program in sight. No condition. -/
namespace Go.Proofs.YtoekldhdojpceaaGreatDoor
open Go.RowKit

def txL (T : Tree) : List UInt8 := T.text.data.toList
/-- how strongly an expression binds -/
def bindsM (T : Tree) : Nat :=
  if T.kind = 16 then
    if T.kids.length = 1 then 6
    else if txL T = [111, 114] then 1
    else if txL T = [97, 110, 100] then 2
    else if txL T = [43] ∨ txL T = [45] then 4
    else if txL T = [42] then 5 else 3
  else 7
/-- in brackets, if it binds less than is asked for -/
def inB (T : Tree) (least : Nat) (l : List UInt8) : List UInt8 := if least ≤ bindsM T then l else [40] ++ (l ++ [41])
def leafS (T : Tree) : List UInt8 := if T.kind = 12 then [95] else if T.kind = 13 then [63] ++ txL T else if T.kind = 15 then [39] ++ txL T else txL T
/-- an expression's text, or an argument's -/
def exprS : Nat → Tree → List UInt8
  | 0, T => leafS T
  | d + 1, T =>
    if T.kind = 16 then
      match T.kids with
      | [] => []
      | [a] => txL T ++ ((if txL T = [110, 111, 116] then [32] else []) ++ inB a 6 (exprS d a))
      | a :: b :: _ => inB a (if bindsM T = 3 then 4 else bindsM T) (exprS d a) ++ (([32] ++ (txL T ++ [32])) ++ inB b (bindsM T + 1) (exprS d b))
    else leafS T
/-- a row, with commas between -/
def rowS (f : Tree → List UInt8) (l : List Tree) : List UInt8 := ((l.map fun T => [44, 32] ++ f T).flatten).drop 2
def listS (f : Tree → List UInt8) (T : Tree) : List UInt8 := txL T ++ ([40] ++ (rowS f T.kids ++ [41]))
/-- a condition's text, an action's -/
def partS (d : Nat) (T : Tree) : List UInt8 :=
  (if T.kind = 5 then listS (exprS d) T
   else if T.kind = 6 then [110, 111, 116, 32] ++ listS (exprS d) T
   else if T.kind = 7 then [116, 101, 115, 116, 32] ++ rowS (exprS d) T.kids
   else if T.kind = 8 then [97, 115, 115, 101, 114, 116, 32] ++ listS (exprS d) T
   else if T.kind = 9 then [114, 101, 116, 114, 97, 99, 116, 32] ++ Lib.itoa T.num
   else if T.kind = 10 then [115, 97, 121, 32] ++ rowS (exprS d) T.kids
   else if T.kind = 11 then [104, 97, 108, 116] else []) ++ [59, 32]
def partsS (d : Nat) (l : List Tree) : List UInt8 := (l.map (partS d)).flatten
def salS (n : Int) : List UInt8 := if n = 0 then [] else [32, 115, 97, 108, 105, 101, 110, 99, 101, 32] ++ Lib.itoa n
/-- a rule's -/
def ruleS (d : Nat) (T : Tree) : List UInt8 :=
  ([114, 117, 108, 101, 32] ++ txL T) ++ (salS T.num ++ ([32, 123, 32] ++ (partsS d (T.kids.takeWhile condB) ++ ([61, 62, 32] ++ (partsS d (T.kids.dropWhile condB) ++ [125, 10])))))
/-- a type's, a rule's -/
def declS (d : Nat) (T : Tree) : List UInt8 := if T.kind = 4 then ruleS d T else [102, 97, 99, 116, 32] ++ (listS txL T ++ [59, 10])
def declsS (d : Nat) (l : List Tree) : List UInt8 := (l.map (declS d)).flatten
/-- a program's: kids' kids' kids are so deep -/
def progS (d : Nat) (T : Tree) : List UInt8 := declsS d T.kids

theorem rowS_snoc (f : Tree → List UInt8) (l : List Tree) (x : Tree) : rowS f (l ++ [x]) = rowS f l ++ ((if l = [] then [] else [44, 32]) ++ f x) := by
  unfold rowS
  rw [List.map_append, List.flatten_append]
  cases l with
  | nil => simp
  | cons y r => simp
theorem partsS_snoc (d : Nat) (l : List Tree) (x : Tree) : partsS d (l ++ [x]) = partsS d l ++ partS d x := by unfold partsS; simp
theorem declsS_snoc (d : Nat) (l : List Tree) (x : Tree) : declsS d (l ++ [x]) = declsS d l ++ declS d x := by unfold declsS; simp

/-! how long -/
theorem manyF_pos (d : Nat) (T : Tree) : 1 ≤ manyF d T := by
  cases d with
  | zero => exact Nat.le_refl _
  | succ d => show 1 ≤ (T.kids.map (manyF d)).foldl (· + ·) 1; rw [foldl_add]; omega
def sumN (d : Nat) (l : List Tree) : Nat := (l.map (manyF d)).foldl (· + ·) 0
theorem sumN_cons (d : Nat) (x : Tree) (l : List Tree) : sumN d (x :: l) = manyF d x + sumN d l := by
  unfold sumN; rw [List.map_cons, List.foldl_cons, foldl_add]; omega
theorem manyF_succ (d : Nat) (T : Tree) : manyF (d + 1) T = 1 + sumN d T.kids := by
  show (T.kids.map (manyF d)).foldl (· + ·) 1 = _; rw [foldl_add]; rfl
theorem inB_len (T : Tree) (k : Nat) (l : List UInt8) : (inB T k l).length ≤ l.length + 2 := by unfold inB; split <;> simp
theorem leafS_len (T : Tree) : (leafS T).length ≤ (txL T).length + 1 := by
  unfold leafS
  repeat' split
  all_goals first | omega | (simp only [List.length_append, List.length_cons, List.length_nil]; omega)
theorem txL_len {d : Nat} {T : Tree} (h : Slim d T) : (txL T).length ≤ 72007 := by
  have h1 := h.text
  unfold txL
  rw [Array.length_toList]
  exact h1
theorem exprS_len : ∀ (d : Nat) (T : Tree), Slim d T → (exprS d T).length ≤ 72020 * manyF d T := by
  intro d
  induction d with
  | zero =>
    intro T h
    have h1 := leafS_len T
    have h2 := txL_len h
    show (leafS T).length ≤ 72020 * 1
    omega
  | succ d ih =>
    intro T h
    have h2 := txL_len h
    rw [manyF_succ]
    unfold exprS
    split
    · rename_i hk
      split
      · exact Nat.zero_le _
      · rename_i a ha
        rw [ha, sumN_cons]
        have h3 := ih a (h.2.2 a (by rw [ha]; simp))
        have h4 := inB_len a 6 (exprS d a)
        have h5 : (if txL T = [110, 111, 116] then [32] else [] : List UInt8).length ≤ 1 := by split <;> simp
        simp only [List.length_append]
        have h6 : 0 ≤ sumN d [] := Nat.zero_le _
        omega
      · rename_i a b r ha
        rw [ha, sumN_cons, sumN_cons]
        have h3 := ih a (h.2.2 a (by rw [ha]; simp))
        have h4 := inB_len a (if bindsM T = 3 then 4 else bindsM T) (exprS d a)
        have h5 := ih b (h.2.2 b (by rw [ha]; simp))
        have h6 := inB_len b (bindsM T + 1) (exprS d b)
        simp only [List.length_append, List.length_cons, List.length_nil]
        omega
    · have h1 := leafS_len T
      omega
theorem flat_len {f : Tree → List UInt8} {d c : Nat} : ∀ (l : List Tree), (∀ x ∈ l, (f x).length ≤ c * manyF d x) → ((l.map f).flatten).length ≤ c * sumN d l := by
  intro l
  induction l with
  | nil => intro _; simp
  | cons x l ih =>
    intro h
    rw [sumN_cons, List.map_cons, List.flatten_cons, List.length_append, Nat.mul_add]
    have h1 := h x (by simp)
    have h2 := ih fun y hy => h y (List.mem_cons_of_mem _ hy)
    omega
theorem rowS_len {f : Tree → List UInt8} {d c : Nat} (l : List Tree) (h : ∀ x ∈ l, (f x).length ≤ c * manyF d x) : (rowS f l).length ≤ (c + 2) * sumN d l := by
  unfold rowS
  rw [List.length_drop]
  have h1 := flat_len (f := fun T => [44, 32] ++ f T) (d := d) (c := c + 2) l fun x hx => by
    have h1 := h x hx
    have h2 := manyF_pos d x
    simp only [List.length_append, List.length_cons, List.length_nil, Nat.add_mul]
    omega
  omega
theorem listS_len {f : Tree → List UInt8} {d c : Nat} {T : Tree} (hT : (txL T).length ≤ 72007) (h : ∀ x ∈ T.kids, (f x).length ≤ c * manyF d x) : (listS f T).length ≤ 72009 + (c + 2) * sumN d T.kids := by
  have h1 := rowS_len T.kids h
  unfold listS
  simp only [List.length_append, List.length_cons, List.length_nil]
  omega
theorem partS_len (d : Nat) (T : Tree) (h : Slim (d + 1) T) (hn : (Lib.itoa T.num).length ≤ 21) : (partS d T).length ≤ 72030 * manyF (d + 1) T := by
  have hx : ∀ x ∈ T.kids, (exprS d x).length ≤ 72020 * manyF d x := fun x hx => exprS_len d x (h.2.2 x hx)
  have h1 := rowS_len T.kids hx
  have h2 := listS_len (txL_len h) hx
  rw [manyF_succ]
  unfold partS
  repeat' split
  all_goals first | omega | (simp only [List.length_append, List.length_cons, List.length_nil]; omega)
theorem takeWhile_sum (d : Nat) (p : Tree → Bool) : ∀ l : List Tree, sumN d (l.takeWhile p) + sumN d (l.dropWhile p) = sumN d l := by
  intro l
  induction l with
  | nil => rfl
  | cons x l ih =>
    rw [List.takeWhile_cons, List.dropWhile_cons]
    split
    · rw [sumN_cons, sumN_cons]; omega
    · show 0 + _ = _; omega
theorem salS_len (n : Int) (h : (Lib.itoa n).length ≤ 21) : (salS n).length ≤ 31 := by
  unfold salS
  split
  · simp
  · simp only [List.length_append, List.length_cons, List.length_nil]; omega
theorem ruleS_len (d : Nat) (T : Tree) (h : Slim (d + 2) T) (hn : (Lib.itoa T.num).length ≤ 21) (hk : ∀ k ∈ T.kids, (Lib.itoa k.num).length ≤ 21) : (ruleS d T).length ≤ 72100 * manyF (d + 2) T := by
  have hp : ∀ x ∈ T.kids, (partS d x).length ≤ 72030 * manyF (d + 1) x := fun x hx => partS_len d x (h.2.2 x hx) (hk x hx)
  have h1 := flat_len (f := partS d) (d := d + 1) (T.kids.takeWhile condB) fun x hx => hp x ((List.takeWhile_sublist condB).subset hx)
  have h2 := flat_len (f := partS d) (d := d + 1) (T.kids.dropWhile condB) fun x hx => hp x ((List.dropWhile_sublist condB).subset hx)
  have h3 := takeWhile_sum (d + 1) condB T.kids
  have h4 := salS_len T.num hn
  have h5 := txL_len h
  rw [manyF_succ]
  unfold ruleS partsS
  simp only [List.length_append, List.length_cons, List.length_nil]
  omega
theorem declS_len (d : Nat) (T : Tree) (h : Slim (d + 2) T) (hn : (Lib.itoa T.num).length ≤ 21) (hk : ∀ k ∈ T.kids, (Lib.itoa k.num).length ≤ 21) : (declS d T).length ≤ 72100 * manyF (d + 2) T := by
  unfold declS
  split
  · exact ruleS_len d T h hn hk
  · have h2 := listS_len (f := txL) (d := d + 1) (c := 72007) (txL_len h) fun x hx => by
      have h1 := txL_len (h.2.2 x hx)
      have h2 := manyF_pos (d + 1) x
      omega
    rw [manyF_succ]
    simp only [List.length_append, List.length_cons, List.length_nil]
    omega
theorem progS_len (d : Nat) (T : Tree) (h : Slim (d + 3) T) (hn : ∀ t ∈ T.kids, (Lib.itoa t.num).length ≤ 21 ∧ ∀ k ∈ t.kids, (Lib.itoa k.num).length ≤ 21) : (progS d T).length ≤ 72100 * manyF (d + 3) T := by
  have h1 := flat_len (f := declS d) (d := d + 2) (c := 72100) T.kids fun x hx => declS_len d x (h.2.2 x hx) (hn x hx).1 (hn x hx).2
  rw [manyF_succ]
  unfold progS declsS
  omega
theorem decDigits_len : ∀ (k u : Nat), u < 10 ^ (k + 1) → (Lib.decDigits u).length ≤ k + 1 := by
  intro k
  induction k with
  | zero =>
    intro u h
    rw [Lib.decDigits, dif_pos (by simpa using h)]
    simp
  | succ k ih =>
    intro u h
    rw [Lib.decDigits]
    split
    · simp
    · rw [List.length_append]
      have := ih (u / 10) (by rw [Nat.pow_succ] at h; omega)
      simp only [List.length_cons, List.length_nil]
      omega
theorem itoa_len {n : Int} (h0 : -9223372036854775808 ≤ n) (h1 : n < 9223372036854775808) : (Lib.itoa n).length ≤ 21 := by
  unfold Lib.itoa
  split
  · have := decDigits_len 19 n.natAbs (by have : n.natAbs ≤ 9223372036854775808 := by omega
                                          omega)
    simp only [List.length_cons]
    omega
  · have := decDigits_len 19 n.toNat (by have : n.toNat ≤ 9223372036854775808 := by omega
                                         omega)
    omega
end Go.Proofs.YtoekldhdojpceaaGreatDoor
/- What the document's table says of expressions, of rules and of types in a tree that is right; with no program in sight. No condition. -/
namespace Go.Proofs.YtoekldhdojpceaaGreatDoor
open Go.RowKit

/-- a tree that is no deeper than that -/
def Dep : Nat → Tree → Prop
  | 0, T => T.kids = []
  | d + 1, T => ∀ k ∈ T.kids, Dep d k
/-- an expression, or an argument -/
def ExpOk : Nat → Tree → Prop
  | 0, T => 12 ≤ T.kind ∧ T.kind ≤ 15
  | d + 1, T => (12 ≤ T.kind ∧ T.kind ≤ 15) ∨ (T.kind = 16 ∧ ((∃ a, T.kids = [a] ∧ (txL T = [45] ∨ txL T = [110, 111, 116]) ∧ ExpOk d a) ∨ ∃ a b, T.kids = [a, b] ∧ ExpOk d a ∧ ExpOk d b))
theorem among_mem {S : List Nat} {l : List Tree} (h : among S l = true) {t : Tree} (ht : t ∈ l) : t.kind ∈ S := by
  unfold among at h
  rw [List.all_eq_true] at h
  simpa using h t ht
theorem exprsB_kind {l : List Tree} (h : exprsB l = true) {t : Tree} (ht : t ∈ l) : 13 ≤ t.kind ∧ t.kind ≤ 16 := by
  unfold exprsB at h
  rw [Bool.and_eq_true] at h
  have h1 := among_mem h.2 ht
  simp only [List.mem_cons, List.not_mem_nil, or_false] at h1
  omega
theorem level_parts {T : Tree} (h : levelOk T = true) : (1 ≤ T.kind ∧ T.kind ≤ 16) ∧ textOk T.kind T.text.data.toList T.kids.length = true ∧ numOk T.kind T.num = true ∧ 0 ≤ T.place ∧ kidsOk T.kind T.kids = true := by
  unfold levelOk at h
  simp only [Bool.and_eq_true, decide_eq_true_eq] at h
  obtain ⟨⟨⟨⟨⟨h1, h2⟩, h3⟩, h4⟩, h5⟩, h6⟩ := h
  exact ⟨⟨h1, h2⟩, h3, h4, h5, h6⟩
theorem okF_level {d : Nat} {T : Tree} (h : okF d T = true) : levelOk T = true := by
  cases d with
  | zero => exact h
  | succ d =>
    have h' : (levelOk T && T.kids.all (okF d)) = true := h
    rw [Bool.and_eq_true] at h'
    exact h'.1
theorem okF_kid {d : Nat} {T k : Tree} (h : okF (d + 1) T = true) (hk : k ∈ T.kids) : okF d k = true := by
  have h' : (levelOk T && T.kids.all (okF d)) = true := h
  rw [Bool.and_eq_true, List.all_eq_true] at h'
  exact h'.2 k hk
theorem oneL_in {l : List UInt8} (h : amongB oneL l = true) : l = [45] ∨ l = [110, 111, 116] := by
  unfold amongB oneL at h
  simp only [List.any_cons, List.any_nil, Bool.or_false, Bool.or_eq_true, beq_iff_eq] at h
  rcases h with h | h
  · exact Or.inl h.symm
  · exact Or.inr h.symm
theorem op_shape {T : Tree} (h : levelOk T = true) (hk : T.kind = 16) : (∃ a, T.kids = [a] ∧ (txL T = [45] ∨ txL T = [110, 111, 116])) ∨ ∃ a b, T.kids = [a, b] ∧ amongB twoL (txL T) = true := by
  obtain ⟨_, h2, _⟩ := level_parts h
  rw [hk] at h2
  have h3 : ((T.kids.length == 1 && amongB oneL T.text.data.toList) || (T.kids.length == 2 && amongB twoL T.text.data.toList)) = true := h2
  simp only [Bool.or_eq_true, Bool.and_eq_true, beq_iff_eq] at h3
  rcases h3 with ⟨h3, h4⟩ | ⟨h3, h4⟩
  · left
    obtain ⟨a, ha⟩ := List.length_eq_one_iff.1 h3
    exact ⟨a, ha, oneL_in h4⟩
  · right
    obtain ⟨a, b, hab⟩ : ∃ a b, T.kids = [a, b] := by
      match hh : T.kids with
      | [] => rw [hh] at h3; cases h3
      | [_] => rw [hh] at h3; cases h3
      | [a, b] => exact ⟨a, b, rfl⟩
      | _ :: _ :: _ :: _ => rw [hh] at h3; simp at h3
    exact ⟨a, b, hab, h4⟩
theorem expOk_of : ∀ (d : Nat) (T : Tree), okF d T = true → Dep d T → 12 ≤ T.kind → ExpOk d T := by
  intro d
  induction d with
  | zero =>
    intro T h hd h12
    have hl := okF_level h
    refine ⟨h12, ?_⟩
    by_cases hk : T.kind = 16
    · exfalso
      have hd' : T.kids = [] := hd
      rcases op_shape hl hk with ⟨a, ha, _⟩ | ⟨a, b, ha, _⟩
      · rw [hd'] at ha; cases ha
      · rw [hd'] at ha; cases ha
    · have := (level_parts hl).1.2; omega
  | succ d ih =>
    intro T h hd h12
    have hl := okF_level h
    by_cases hk : T.kind = 16
    · right
      refine ⟨hk, ?_⟩
      have hkids : exprsB T.kids = true := by
        have := (level_parts hl).2.2.2.2
        rw [hk] at this
        exact this
      have kid : ∀ k ∈ T.kids, ExpOk d k := fun k hm => ih k (okF_kid h hm) (hd k hm) (by have := (exprsB_kind hkids hm).1; omega)
      rcases op_shape hl hk with ⟨a, ha, h1⟩ | ⟨a, b, ha, _⟩
      · exact Or.inl ⟨a, ha, h1, kid a (by rw [ha]; simp)⟩
      · exact Or.inr ⟨a, b, ha, kid a (by rw [ha]; simp), kid b (by rw [ha]; simp)⟩
    · left
      have := (level_parts hl).1.2
      exact ⟨h12, by omega⟩
/-- a condition, or an action, so deep below -/
def PartOk (d : Nat) (T : Tree) : Prop := (5 ≤ T.kind ∧ T.kind ≤ 11) ∧ ∀ k ∈ T.kids, ExpOk d k
/-- a rule's parts: conditions, then actions -/
def RuleOk' (d : Nat) (T : Tree) : Prop := (∀ k ∈ T.kids, PartOk d k) ∧ (∀ k ∈ T.kids.takeWhile condB, k.kind ≤ 7) ∧ ∀ k ∈ T.kids.dropWhile condB, 8 ≤ k.kind
def DeclOk' (d : Nat) (T : Tree) : Prop := (T.kind = 4 ∧ RuleOk' d T) ∨ T.kind = 2
theorem condB_iff (t : Tree) : condB t = true ↔ 5 ≤ t.kind ∧ t.kind ≤ 7 := by
  unfold condB
  simp only [List.contains_cons, List.contains_nil, Bool.or_false, Bool.or_eq_true, beq_iff_eq]
  omega
theorem takeWhile_all (p : Tree → Bool) : ∀ (l : List Tree) (x : Tree), x ∈ l.takeWhile p → p x = true := by
  intro l
  induction l with
  | nil => intro x h; cases h
  | cons y r ih =>
    intro x h
    rw [List.takeWhile_cons] at h
    split at h
    · rcases List.mem_cons.1 h with rfl | h
      · assumption
      · exact ih x h
    · cases h
theorem partOk_of (d : Nat) (T : Tree) (h : okF (d + 1) T = true) (hd : Dep (d + 1) T) (h5 : 5 ≤ T.kind) (h11 : T.kind ≤ 11) : PartOk d T := by
  refine ⟨⟨h5, h11⟩, fun k hk => expOk_of d k (okF_kid h hk) (hd k hk) ?_⟩
  have hkid := (level_parts (okF_level h)).2.2.2.2
  have hk16 := (level_parts (okF_level (okF_kid h hk))).1
  unfold kidsOk at hkid
  obtain h' | h' | h' | h' | h' | h' | h' : T.kind = 5 ∨ T.kind = 6 ∨ T.kind = 7 ∨ T.kind = 8 ∨ T.kind = 9 ∨ T.kind = 10 ∨ T.kind = 11 := by omega
  all_goals rw [h'] at hkid
  · have h1 := among_mem (show among [12, 13, 14, 15] T.kids = true from hkid) hk
    simp only [List.mem_cons, List.not_mem_nil, or_false] at h1
    omega
  · have h1 := among_mem (show among [12, 13, 14, 15] T.kids = true from hkid) hk
    simp only [List.mem_cons, List.not_mem_nil, or_false] at h1
    omega
  · have h1 : (T.kids.length == 1 && exprsB T.kids) = true := hkid
    rw [Bool.and_eq_true] at h1
    have := exprsB_kind h1.2 hk
    omega
  · have := exprsB_kind (show exprsB T.kids = true from hkid) hk
    omega
  · have h1 : T.kids.isEmpty = true := hkid
    rw [List.isEmpty_iff] at h1
    rw [h1] at hk
    cases hk
  · have h1 : (decide (0 < T.kids.length) && exprsB T.kids) = true := hkid
    rw [Bool.and_eq_true] at h1
    have := exprsB_kind h1.2 hk
    omega
  · have h1 : T.kids.isEmpty = true := hkid
    rw [List.isEmpty_iff] at h1
    rw [h1] at hk
    cases hk
theorem declOk_of (d : Nat) (T : Tree) (h : okF (d + 2) T = true) (hd : Dep (d + 2) T) (hk : T.kind = 2 ∨ T.kind = 4) : DeclOk' d T := by
  rcases hk with hk | hk
  · exact Or.inr hk
  · left
    have hkid := (level_parts (okF_level h)).2.2.2.2
    rw [hk] at hkid
    have h1 : among [8, 9, 10, 11] (T.kids.dropWhile condB) = true := hkid
    have hc : ∀ k ∈ T.kids.takeWhile condB, 5 ≤ k.kind ∧ k.kind ≤ 7 := fun k hk => (condB_iff k).1 (takeWhile_all condB _ k hk)
    have ha : ∀ k ∈ T.kids.dropWhile condB, 8 ≤ k.kind ∧ k.kind ≤ 11 := fun k hk => by
      have h2 := among_mem h1 hk
      simp only [List.mem_cons, List.not_mem_nil, or_false] at h2
      omega
    refine ⟨hk, fun k hm => ?_, fun k hm => (hc k hm).2, fun k hm => (ha k hm).1⟩
    have hkk : 5 ≤ k.kind ∧ k.kind ≤ 11 := by
      rw [← List.takeWhile_append_dropWhile (p := condB) (l := T.kids)] at hm
      rcases List.mem_append.1 hm with hm | hm
      · have := hc k hm; omega
      · have := ha k hm; omega
    exact partOk_of d k (okF_kid h hm) (hd k hm) hkk.1 hkk.2
theorem progOk_of (d : Nat) (T : Tree) (h : rightF (d + 3) T = true) (hd : Dep (d + 3) T) : ∀ k ∈ T.kids, DeclOk' d k := by
  intro k hk
  unfold rightF at h
  simp only [Bool.and_eq_true, beq_iff_eq] at h
  have h1 := h.1.1.2
  have hkid := (level_parts (okF_level h1)).2.2.2.2
  rw [h.1.1.1] at hkid
  have h2 := among_mem (show among [2, 4] T.kids = true from hkid) hk
  simp only [List.mem_cons, List.not_mem_nil, or_false] at h2
  exact declOk_of d k (okF_kid h1 hk) (hd k hk) h2
end Go.Proofs.YtoekldhdojpceaaGreatDoor
/- A strings.Builder that lies in a writer of the program's own: what its methods do; by contract. Condition: at most 2^47 bytes. -/
namespace Go.Proofs.YtoekldhdojpceaaGreatDoor
open Go.RowKit

theorem infoByte : (Tryz.prog.info? 5).map (fun i => (i.zero, i.size, i.bytes)) = some (some (.int .u8 0), 1, 1) := by kernel_rfl
abbrev IsW (B b : Nat) (l : List UInt8) (w : World) : Prop := Lib.IsBuilderF 182 5 B b (Lib.byteCells l) w
abbrev Kept (b : Nat) (w w' : World) : Prop := Lib.OthersKept 5 (some b) w w'

set_option maxHeartbeats 1000000 in
set_option maxRecDepth 100000 in
theorem scheck_used (b : Nat) (w : World) (h0 : w.cell? ⟨b, 0, none⟩ = some (.pointer (some ⟨b, 0, none⟩))) :
    Calls Tryz.prog 116 #[.pointer (some ⟨b, 0, none⟩)] w fun e w' => e = .returned (.tuple #[]) ∧ w' = w := by
  obtain ⟨j, hj, _⟩ := Option.map_eq_some_iff.1 (show (Tryz.prog.info? 115).map (·.size) = some 2 by kernel_rfl)
  go_enter Tryz.func116, Tryz.ntmps116
  go_wp2
  rw [Lib.run_neq_ptr_same w _ Tryz.underlying112 hj]
  go_wp2
  go_end0
  exact ⟨rfl, rfl⟩
set_option maxHeartbeats 1000000 in
set_option maxRecDepth 100000 in
theorem scheck_fresh (b : Nat) (w : World) (h0 : w.cell? ⟨b, 0, none⟩ = some (.pointer none)) (hsh : w.shape? b = some (182, 2)) (hfz : w.frozen? ⟨b, 0, none⟩ = false) :
    Calls Tryz.prog 116 #[.pointer (some ⟨b, 0, none⟩)] w fun e w' => e = .returned (.tuple #[]) ∧ w' = w.setCell ⟨b, 0, none⟩ (.pointer (some ⟨b, 0, none⟩)) := by
  obtain ⟨j, hj, hjs⟩ := Option.map_eq_some_iff.1 (show (Tryz.prog.info? 115).map (·.size) = some 2 by kernel_rfl)
  go_enter Tryz.func116, Tryz.ntmps116
  go_wp2
  rw [Lib.run_to_unsafe w ⟨b, 0, none⟩ Tryz.underlying112 Tryz.underlying334 hj (by rw [hjs]; decide) hsh (Nat.zero_lt_succ 1)]
  simp only [Result.andThen]
  rw [Oper.upon_value]
  go_wp2
  rw [run_callFunc_extern Tryz.func207 (by kernel_rfl) (by kernel_rfl) (by kernel_rfl) (e := Extern.AbiNoEscape.same) (by kernel_rfl)]
  rw [Lib.run_noEscape]
  simp only [Result.andThen]
  rw [Oper.upon_value]
  go_wp2
  rw [Lib.run_from_unsafe w ⟨b, 0, none⟩ Tryz.underlying334 Tryz.underlying112 hj hsh (by kernel_rfl)]
  simp only [Result.andThen]
  rw [Oper.upon_value]
  go_wp2
  go_end0
  exact ⟨rfl, rfl⟩
theorem scheck_any (B b : Nat) (bs : List Value) (w : World) (h : Lib.IsBuilderF 182 5 B b bs w) :
    Calls Tryz.prog 116 #[.pointer (some ⟨b, 0, none⟩)] w fun e w' => e = .returned (.tuple #[]) ∧ (Lib.BuilderAtF 182 5 B b (.pointer (some ⟨b, 0, none⟩)) bs w' ∧ Below B w w' ∧ Kept b w w') := by
  rcases h with h | h
  · refine (scheck_fresh b w h.cell0 h.shape h.frozen0).mono ?_
    rintro e w' ⟨rfl, rfl⟩
    exact ⟨rfl, h.used _, (Below.refl B w).setCell (p := ⟨b, 0, none⟩) h.1 _, (Lib.OthersKept.refl _ _ w).setCell ⟨b, 0, none⟩ rfl _⟩
  · refine (scheck_used b w h.cell0).mono ?_
    rintro e w' ⟨rfl, rfl⟩
    exact ⟨rfl, h, Below.refl B _, Lib.OthersKept.refl _ _ _⟩
set_option maxHeartbeats 2000000 in
set_option maxRecDepth 100000 in
theorem swrite_any (B b : Nat) (bs : List Value) (s : ByteArray) (w : World) (h : Lib.IsBuilderF 182 5 B b bs w) (hlen : bs.length + s.size ≤ 140737488355328) (hBw : B ≤ w.heap.size) :
    Calls Tryz.prog 56 #[.pointer (some ⟨b, 0, none⟩), .string s] w fun e w' => e = .returned (.tuple #[.int .i64 s.size, .nilIface]) ∧ (Lib.BuilderAtF 182 5 B b (.pointer (some ⟨b, 0, none⟩)) (bs ++ Lib.strCells s) w' ∧ Below B w w' ∧ Kept b w w') := by
  obtain ⟨i0, hi, hz0, hz1, hz2⟩ := info_parts infoByte
  have HC := Lib.hid (scheck_any B b bs w h)
  clear h
  go_enter Tryz.func56, Tryz.ntmps56
  go_wp2_with fail
  refine Calls.mono HC.out ?_
  rintro e w1 ⟨rfl, h1, hb1, hk1⟩
  obtain ⟨hB, v, hbk, hown, hne⟩ := h1
  have c0 : w1.cell? ⟨b, 0, none⟩ = some (.pointer (some ⟨b, 0, none⟩)) := by rw [Lib.cell_of_heap hbk]; rfl
  have c1 : w1.cell? ⟨b, 1, none⟩ = some v := by rw [Lib.cell_of_heap hbk]; rfl
  go_wp2_with (at_builtin; refine Lib.wpList_append_own_stringF _ rfl _ _ 113 9 rfl B 5 i0 Tryz.underlying113 Tryz.underlying9 hi hz0 hz1 hz2 _ _ _ rfl hown s rfl ?c3 ?c4 ?c5 ?_)
  case c3 => unfold maxLen; omega
  case c4 => omega
  case c5 => have := hb1.size; omega
  intro v' w2 hown' hgrow _
  have hlt : b < w1.heap.size := by
    rcases Nat.lt_or_ge b w1.heap.size with h' | h'
    · exact h'
    · simp [Array.getElem?_eq_none h'] at hbk
  have hb2 : w2.heap[b]? = some (.cells #[.pointer (some ⟨b, 0, none⟩), v] 182 (0, 0)) := by
    rw [hgrow.block b hlt (fun e => hne e.symm)]
    exact hbk
  have d0 : w2.cell? ⟨b, 0, none⟩ = some (.pointer (some ⟨b, 0, none⟩)) := by rw [Lib.cell_of_heap hb2]; rfl
  have d1 : w2.cell? ⟨b, 1, none⟩ = some v := by rw [Lib.cell_of_heap hb2]; rfl
  have f1 : w2.frozen? ⟨b, 1, none⟩ = false := Lib.frozen_of_heap hb2 1
  obtain ⟨ao, n', cap, rfl⟩ : ∃ ao n' cap, v' = .slice ao n' cap := by
    rcases hown'.2 with ⟨hv, _⟩ | ⟨g, cap, cur, fz, hv, _⟩
    · exact ⟨_, _, _, hv⟩
    · exact ⟨_, _, _, hv⟩
  go_wp2
  go_ret2
  refine ⟨rfl, ?_, ?_, (hk1.grown hgrow (Lib.ownsRowF_kind hown)).setCell ⟨b, 1, none⟩ rfl _⟩
  · exact Lib.BuilderAtF.put (T := 182) (e := 5) hB hb2 (bs' := bs ++ Lib.strCells s) (by simpa [Lib.strCells_length] using hown') (by decide)
  · exact (hb1.grown hgrow (by have := hb1.size; omega) (fun k hk => (hown.lt k hk).1)).setCell (p := ⟨b, 1, none⟩) hB _
theorem strCells_bytes (s : ByteArray) : Lib.strCells s = Lib.byteCells s.data.toList := by
  simp [Lib.strCells, Lib.byteCells]
theorem byteCells_app (a b : List UInt8) : Lib.byteCells (a ++ b) = Lib.byteCells a ++ Lib.byteCells b := by simp [Lib.byteCells]
theorem swrite_w (B b : Nat) (l : List UInt8) (s : ByteArray) (w : World) (h : IsW B b l w) (hlen : l.length + s.size ≤ 140737488355328) (hBw : B ≤ w.heap.size) :
    Calls Tryz.prog 56 #[.pointer (some ⟨b, 0, none⟩), .string s] w fun e w' => e = .returned (.tuple #[.int .i64 s.size, .nilIface]) ∧ IsW B b (l ++ s.data.toList) w' ∧ Below B w w' ∧ Kept b w w' := by
  refine (swrite_any B b _ s w h (by rw [Lib.byteCells_length]; exact hlen) hBw).mono ?_
  rintro e w' ⟨rfl, h1, h2, h3⟩
  refine ⟨rfl, .inr ?_, h2, h3⟩
  rw [byteCells_app, ← strCells_bytes]
  exact h1
set_option maxHeartbeats 1000000 in
set_option maxRecDepth 100000 in
theorem sstring_some (B b : Nat) (l : List UInt8) (w : World) (h : IsW B b l w) (h0 : l ≠ []) :
    Calls Tryz.prog 57 #[.pointer (some ⟨b, 0, none⟩)] w fun e w' => e = .returned (.string ⟨l.toArray⟩) ∧ Below B w w' := by
  obtain ⟨p, hAt⟩ : ∃ p, Lib.BuilderAtF 182 5 B b p (Lib.byteCells l) w := by
    rcases h with h | h
    · exact ⟨_, h⟩
    · exact ⟨_, h⟩
  obtain ⟨hB, v, hbk, hown, hne⟩ := hAt
  have hl0 : l.length ≠ 0 := by simpa using h0
  rw [Lib.byteCells_length] at hown
  obtain ⟨g, cap, cur, fz, rfl, hbg, hg, hfz, hnc, hcm, hcs, htake⟩ : ∃ g cap cur fz, v = .slice (some ⟨g, 0, none⟩) l.length cap ∧ B ≤ g ∧ w.heap[g]? = some (.cells cur 5 fz) ∧ fz.2 ≤ l.length * 1 ∧ l.length ≤ cap ∧ cap ≤ maxLen ∧ cur.size = cap * 1 ∧ cur.toList.take (l.length * 1) = Lib.byteCells l := by
    rcases hown.2 with ⟨_, hz⟩ | ⟨g, cap, cur, fz, hv, r⟩
    · exact absurd hz hl0
    · exact ⟨g, cap, cur, fz, hv, r⟩
  have c1 : w.drew.cell? ⟨b, 1, none⟩ = some (.slice (some ⟨g, 0, none⟩) l.length cap) := by
    have : w.drew.heap[b]? = some (.cells #[p, .slice (some ⟨g, 0, none⟩) l.length cap] 182 (0, 0)) := hbk
    rw [Lib.cell_of_heap this]; rfl
  have hSD : (Builtin.unsafeSliceData_ #[113] 187 #[.slice (some ⟨g, 0, none⟩) l.length cap]).run Tryz.prog w.drew = .ok (.pointer (some ⟨g, 0, none⟩)) w.drew :=
    Lib.run_unsafeSliceData_row _ _ _ _ _ _ (by omega)
  have hUS : (Builtin.unsafeString_ #[187, 3] 9 #[.pointer (some ⟨g, 0, none⟩), .int .i64 l.length]).run Tryz.prog w.drew = .ok (.string ⟨l.toArray⟩) (w.drew.freeze ⟨g, 0, none⟩ l.length) := by
    refine Lib.run_unsafeString_row w.drew 187 3 9 5 Tryz.underlying187 (by kernel_rfl) g cur.size (by have hg' : w.drew.heap[g]? = some (.cells cur 5 fz) := hg; simp [World.shape?, hg']) l h0 (by omega) (by unfold maxLen at hcm; omega) ?_
    intro j x hx
    have := hown.cells (g := g) rfl j (.int .u8 x.toNat) (by simp [Lib.byteCells, hx])
    exact this
  clear hown htake hcs hfz
  go_enter Tryz.func57, Tryz.ntmps57
  go_wp2
  go_region
  all_goals (go_wp2; go_ret; exact ⟨rfl, Lib.below_freeze (Below.drew (Below.refl B w)) (p := ⟨g, 0, none⟩) hbg _⟩)
set_option maxHeartbeats 1000000 in
set_option maxRecDepth 100000 in
/-- a builder that has never been written into -/
theorem sstring_none (b : Nat) (p : Value) (w : World) (hbk : w.heap[b]? = some (.cells #[p, .slice none 0 0] 182 (0, 0))) :
    Calls Tryz.prog 57 #[.pointer (some ⟨b, 0, none⟩)] w fun e w' => e = .returned (.string ⟨#[]⟩) ∧ Below w.heap.size w w' := by
  have hUS : ∀ (W : World) (q : Option Addr), (Builtin.unsafeString_ #[187, 3] 9 #[.pointer q, .int .i64 0]).run Tryz.prog W = .ok (.string .empty) W := fun W q => Lib.run_unsafeString_none W _ _ _ q
  have c1 : w.drew.cell? ⟨b, 1, none⟩ = some (.slice none 0 0) := by
    have : w.drew.heap[b]? = some (.cells #[p, .slice none 0 0] 182 (0, 0)) := hbk
    rw [Lib.cell_of_heap this]; rfl
  have hSD : (Builtin.unsafeSliceData_ #[113] 187 #[.slice none 0 0]).run Tryz.prog w.drew = .ok (.pointer none) w.drew := rfl
  go_enter Tryz.func57, Tryz.ntmps57
  go_wp2
  go_region
  all_goals (go_wp2; go_ret; exact ⟨rfl, Below.drew (Below.refl _ w)⟩)
end Go.Proofs.YtoekldhdojpceaaGreatDoor
/- The writer: texts; by contract. Condition: at most 2^47 bytes. -/
namespace Go.Proofs.YtoekldhdojpceaaGreatDoor
open Go.RowKit

/-- from a world on: a writer that holds these bytes; all else stands -/
structure WS (B b : Nat) (w : World) (l : List UInt8) (w' : World) : Prop where
  is : IsW B b l w'
  bl : Below B w w'
  kp : Kept b w w'
/-- what a call of a writer's method leaves -/
def WPost (B b : Nat) (w : World) (l : List UInt8) (e : Ending) (w' : World) : Prop := e = .returned (.tuple #[]) ∧ WS B b w l w'
theorem isW_block {B b : Nat} {l : List UInt8} {w : World} (h : IsW B b l w) : B ≤ b ∧ ∃ p v, w.heap[b]? = some (.cells #[p, v] 182 (0, 0)) := by
  rcases h with h | h
  · obtain ⟨h1, v, h2, _⟩ := h; exact ⟨h1, _, v, h2⟩
  · obtain ⟨h1, v, h2, _⟩ := h; exact ⟨h1, _, v, h2⟩
theorem WS.refl {B b : Nat} {l : List UInt8} {w : World} (h : IsW B b l w) : WS B b w l w := ⟨h, Below.refl _ _, Lib.OthersKept.refl _ _ _⟩
theorem WS.trans {B b : Nat} {l l' : List UInt8} {w w1 w2 : World} (h : WS B b w l w1) (h2 : WS B b w1 l' w2) : WS B b w l' w2 := ⟨h2.is, h.bl.trans h2.bl, h.kp.trans h2.kp⟩
theorem WS.alloc {B b : Nat} {l : List UInt8} {w w1 : World} (h : WS B b w l w1) (hB : B ≤ w.heap.size) (o : Obj) : WS B b w l (w1.alloc o) :=
  ⟨Lib.IsBuilderF.alloc h.is o, h.bl.alloc (Nat.le_trans hB h.bl.size) o, h.kp.alloc o⟩
theorem WS.drew {B b : Nat} {l : List UInt8} {w w1 : World} (h : WS B b w l w1) : WS B b w l w1.drew := ⟨h.is, h.bl.drew, h.kp.drew⟩
theorem WS.sz {B b : Nat} {l : List UInt8} {w w1 : World} (h : WS B b w l w1) (hB : B ≤ w.heap.size) : B ≤ w1.heap.size := Nat.le_trans hB h.bl.size
/-- a block that is no writer and no row of bytes -/
theorem WS.box {B b g : Nat} {l l0 : List UInt8} {w w1 : World} {cs : Array Value} {t : TypeId} (h : WS B b w l w1) (h0 : IsW B b l0 w) (hg : w.heap[g]? = some (.cells cs t (0, 0))) (ht : t ≠ 182) (ht2 : t ≠ 5) : w1.heap[g]? = some (.cells cs t (0, 0)) := by
  obtain ⟨_, p, v, hb⟩ := isW_block h0
  refine h.kp g _ hg (fun e => ?_) (fun c fz e => ?_)
  · injection e with e
    subst e
    rw [hb] at hg
    injection hg with hg
    injection hg with _ hg
    exact ht hg.symm
  · injection e with _ e
    exact ht2 e
def flatL (l : List ByteArray) : List UInt8 := (l.map fun s => s.data.toList).flatten
theorem flatL_snoc (l : List ByteArray) (s : ByteArray) : flatL (l ++ [s]) = flatL l ++ s.data.toList := by unfold flatL; simp
/-- the loop of put: so many texts are written -/
def PutRel (B b : Nat) (w : World) (l : List UInt8) (texts : List ByteArray) (n : Nat) (i : Value) (W : World) : Prop :=
  ∃ (W1 : World) (k : Nat), W1 = W ∧ k ≤ n ∧ i = .int .i64 k ∧ WS B b w (l ++ flatL (texts.take k)) W1
theorem flat_take_le (texts : List ByteArray) (k : Nat) : (flatL (texts.take k)).length ≤ (flatL texts).length := by
  conv => rhs; rw [← List.take_append_drop k texts]
  unfold flatL
  rw [List.map_append, List.flatten_append, List.length_append]
  omega
set_option maxRecDepth 100000 in
set_option maxHeartbeats 1000000 in
theorem wput_any (B b : Nat) (l : List UInt8) (g n : Nat) (texts : List ByteArray) (w : World) (h : IsW B b l w) (hB : B ≤ w.heap.size) (hg : w.heap[g]? = some (.cells (texts.map Value.string).toArray 9 (0, 0))) (hn : texts.length = n) (hn2 : n ≤ 100)
    (hlen : (l ++ flatL texts).length ≤ 140737488355328) : Calls Tryz.prog 111 #[.pointer (some ⟨b, 0, none⟩), .slice (some ⟨g, 0, none⟩) n n] w (WPost B b w (l ++ flatL texts)) := by
  have H := Lib.hid h
  have HG := Lib.hid hg
  have HN := Lib.hid hn
  have HLen := Lib.hid (fun (k : Nat) => (show (l ++ flatL (texts.take k)).length ≤ 140737488355328 by
    have := flat_take_le texts k
    rw [List.length_append] at hlen ⊢
    omega))
  have HFlat : Hid (flatL (texts.take n) = flatL texts) := by show _ = _; rw [← hn, List.take_length]
  clear h hg hn hlen
  go_enter Tryz.func111, Tryz.ntmps111
  go_wp2_with fail
  go_loopw [8] (PutRel B b w l texts n) (fun i _ => n - (intOf i).toNat)
  case atStart => exact ⟨_, 0, rfl, Nat.zero_le _, rfl, by simpa [flatL] using WS.refl H.out⟩
  case round =>
    obtain ⟨W1, k, rfl, hk, rfl, hW⟩ := hrel
    have HW := Lib.hid hW
    clear hW
    have hk0 : (0 : Int) ≤ k := by omega
    by_cases hlt : k < n
    · obtain ⟨s, hs⟩ : ∃ s, texts[k]? = some s := ⟨texts[k]'(by rw [HN.out]; exact hlt), List.getElem?_eq_getElem (by rw [HN.out]; exact hlt)⟩
      have HG1 := Lib.hid (HW.out.box H.out HG.out (by decide) (by decide))
      have c0 : W1.cell? ⟨g, k, none⟩ = some (.string s) := by
        rw [cell_of_row _ _ _ _ _ _ HG1.out]
        simp [hs]
      have hk1 : (k : Int) < n := by omega
      have HNext := Lib.hid (show flatL (texts.take (k + 1)) = flatL (texts.take k) ++ s.data.toList by rw [List.take_add_one, hs]; exact flatL_snoc _ _)
      have hlk := HLen.out (k + 1)
      rw [HNext.out, ← List.append_assoc, List.length_append] at hlk
      have HC := Lib.hid (swrite_w B b _ s W1 HW.out.is (by simpa using hlk) (HW.out.sz hB))
      clear hs hlk
      go_wp2_with fail
      refine Calls.mono HC.out ?_
      rintro e W2 ⟨rfl, h1, h2, h3⟩
      have HW2 := Lib.hid (HW.out.trans ⟨h1, h2, h3⟩)
      clear h1 h2 h3
      go_wp2_with fail
      refine ⟨⟨_, k + 1, rfl, by omega, by go_num, ?_⟩, by simp [intOf]; omega⟩
      rw [HNext.out, ← List.append_assoc]
      exact HW2.out
    · obtain rfl : k = n := by omega
      go_wp2_with fail
      go_returns
      refine ⟨rfl, ?_⟩
      have := HW.out
      rw [HFlat.out] at this
      exact this
/-- texts that have just been laid -/
theorem wput_new (B b : Nat) (l l' : List UInt8) (n : Nat) (texts : List ByteArray) (w : World) (h : IsW B b l w) (hB : B ≤ w.heap.size) (hn : texts.length = n) (hn2 : n ≤ 100) (hl : l ++ flatL texts = l') (hlen : l'.length ≤ 140737488355328) :
    Calls Tryz.prog 111 #[.pointer (some ⟨b, 0, none⟩), .slice (some ⟨w.heap.size, 0, none⟩) n n] (w.alloc (.cells (texts.map Value.string).toArray 9)) (WPost B b w l') := by
  have h1 := (WS.refl h).alloc hB (.cells (texts.map Value.string).toArray 9)
  refine (wput_any B b l w.heap.size n texts _ h1.is (by simp; omega) (heap_alloc_new w _) hn hn2 (by rw [hl]; exact hlen)).mono ?_
  rintro e w' ⟨rfl, h2⟩
  rw [hl] at h2
  exact ⟨rfl, h1.trans h2⟩
end Go.Proofs.YtoekldhdojpceaaGreatDoor
/- How strongly an expression binds: the writer's word; by contract. No condition. -/
namespace Go.Proofs.YtoekldhdojpceaaGreatDoor
open Go.RowKit
set_option maxRecDepth 100000 in
set_option maxHeartbeats 1000000 in
theorem sbinds_any (d : Nat) (T : Tree) (u : Value) (B : Nat) (w : World) (hu : NodeAt w B d T u) (_hn : T.kids.length ≤ 20000) : Calls Tryz.prog 284 #[u] w fun e w' => e = .returned (.int .i64 (bindsM T : Nat)) ∧ Below w.heap.size w w' := by
  obtain ⟨_, s, rfl, hk⟩ := hu
  obtain ⟨p, c, rfl, _, _⟩ := hk.rows
  clear hk
  obtain ⟨x0, x1, x2, x3, x4⟩ := cells5 (heap_alloc_new w (.cells #[.int .u8 T.kind, .string T.text, .int .i64 T.num, .int .i64 T.place, .slice p T.kids.length c] 25))
  have HB := Lib.hid ((Below.refl _ w).alloc (Nat.le_refl _) (.cells #[.int .u8 T.kind, .string T.text, .int .i64 T.num, .int .i64 T.place, .slice p T.kids.length c] 25))
  have hT : bindsM T = (if T.kind = 16 then
    if T.kids.length = 1 then 6
    else if T.text.toList = [111, 114] then 1
    else if T.text.toList = [97, 110, 100] then 2
    else if T.text.toList = [43] ∨ T.text.toList = [45] then 4
    else if T.text.toList = [42] then 5 else 3
  else 7) := by
    unfold bindsM txL
    rw [ByteArray.toList_eq]
  obtain ⟨m, hm⟩ : ∃ m, bindsM T = m := ⟨_, rfl⟩
  rw [hm] at hT ⊢
  generalize T.kind = kd at *
  generalize T.text = tx at *
  generalize T.kids.length = n at *
  generalize T.num = nu at *
  generalize T.place = pl at *
  have HT := Lib.hid hT
  clear hT hm
  by_cases h1 : kd = 16
  · have e1 := HT.out
    rw [if_pos h1] at e1
    have h1' : ((kd : Int) != 16) = false := by simp; omega
    by_cases h2 : n = 1
    · rw [if_pos h2] at e1
      have h2' : ((n : Int) == 1) = true := by simp; omega
      have HE := Lib.hid e1
      clear e1 h1 h2
      go_enter Tryz.func284, Tryz.ntmps284
      go_wp2_with fail
      go_ret
      exact ⟨by rw [HE.out]; rfl, HB.out⟩
    · rw [if_neg h2] at e1
      have h2' : ((n : Int) == 1) = false := by simp; omega
      by_cases h3 : tx.toList = [111, 114]
      · rw [if_pos h3] at e1
        have HE := Lib.hid e1
        clear e1 h1 h2
        go_enter Tryz.func284, Tryz.ntmps284
        go_wp2_with fail
        go_ret
        exact ⟨by rw [HE.out]; rfl, HB.out⟩
      · rw [if_neg h3] at e1
        have h3' : (tx.toList == [111, 114]) = false := by simpa using h3
        by_cases h4 : tx.toList = [97, 110, 100]
        · rw [if_pos h4] at e1
          have HE := Lib.hid e1
          clear e1 h1 h2
          go_enter Tryz.func284, Tryz.ntmps284
          go_wp2_with fail
          go_ret
          exact ⟨by rw [HE.out]; rfl, HB.out⟩
        · rw [if_neg h4] at e1
          have h4' : (tx.toList == [97, 110, 100]) = false := by simpa using h4
          by_cases h5 : tx.toList = [43]
          · rw [if_pos (Or.inl h5)] at e1
            have HE := Lib.hid e1
            clear e1 h1 h2
            go_enter Tryz.func284, Tryz.ntmps284
            go_wp2_with fail
            go_ret
            exact ⟨by rw [HE.out]; rfl, HB.out⟩
          · have h5' : (tx.toList == [43]) = false := by simpa using h5
            by_cases h6 : tx.toList = [45]
            · rw [if_pos (Or.inr h6)] at e1
              have HE := Lib.hid e1
              clear e1 h1 h2
              go_enter Tryz.func284, Tryz.ntmps284
              go_wp2_with fail
              go_ret
              exact ⟨by rw [HE.out]; rfl, HB.out⟩
            · rw [if_neg (by rintro (h | h); exact h5 h; exact h6 h)] at e1
              have h6' : (tx.toList == [45]) = false := by simpa using h6
              by_cases h7 : tx.toList = [42]
              · rw [if_pos h7] at e1
                have HE := Lib.hid e1
                clear e1 h1 h2
                go_enter Tryz.func284, Tryz.ntmps284
                go_wp2_with fail
                go_ret
                exact ⟨by rw [HE.out]; rfl, HB.out⟩
              · rw [if_neg h7] at e1
                have h7' : (tx.toList == [42]) = false := by simpa using h7
                have HE := Lib.hid e1
                clear e1 h1 h2
                go_enter Tryz.func284, Tryz.ntmps284
                go_wp2_with fail
                go_ret
                exact ⟨by rw [HE.out]; rfl, HB.out⟩
  · have e1 := HT.out
    rw [if_neg h1] at e1
    have h1' : ((kd : Int) != 16) = true := by simp; omega
    have HE := Lib.hid e1
    clear e1 h1
    go_enter Tryz.func284, Tryz.ntmps284
    go_wp2_with fail
    go_ret
    exact ⟨by rw [HE.out]; rfl, HB.out⟩
end Go.Proofs.YtoekldhdojpceaaGreatDoor
/- The writer: expressions; by contract. Condition: at most 2^47 bytes. -/
namespace Go.Proofs.YtoekldhdojpceaaGreatDoor
open Go.RowKit

theorem IsW.below {B b : Nat} {l : List UInt8} {w w' : World} (h : IsW B b l w) (hb : Below w.heap.size w w') : IsW B b l w' := by
  have key : ∀ p, Lib.BuilderAtF 182 5 B b p (Lib.byteCells l) w → Lib.BuilderAtF 182 5 B b p (Lib.byteCells l) w' := by
    rintro p ⟨h1, v, h2, h3, h4⟩
    exact ⟨h1, v, heap_below hb h2 (Array.getElem?_eq_some_iff.1 h2).1, h3.kept (grown_of_below hb none) (by
      cases hv : v.ownBlock with
      | none => exact .inl rfl
      | some k => exact .inr (by simp)), h4⟩
  exact h.elim (fun h => .inl (key _ h)) (fun h => .inr (key _ h))
theorem WS.below {B b : Nat} {l : List UInt8} {w w1 w2 : World} (h : WS B b w l w1) (hb : Below w1.heap.size w1 w2) (hB : B ≤ w1.heap.size) : WS B b w l w2 :=
  ⟨h.is.below hb, h.bl.trans (hb.mono hB), fun k o hk hne ho => heap_below hb (h.kp k o hk hne ho) (Array.getElem?_eq_some_iff.1 (h.kp k o hk hne ho)).1⟩
def maxW : Nat := 140737488355328
/-- an expression is written -/
def ShE (d : Nat) : Prop := ∀ (T : Tree) (u : Value) (B b : Nat) (l : List UInt8) (w : World), ExpOk d T → Slim d T → NodeAt w B d T u → IsW B b l w → B ≤ w.heap.size → (l ++ exprS d T).length ≤ maxW →
  Calls Tryz.prog 250 #[.pointer (some ⟨b, 0, none⟩), u] w (WPost B b w (l ++ exprS d T))
def ShO (d : Nat) : Prop := ∀ (T : Tree) (u : Value) (B b least : Nat) (l : List UInt8) (w : World), ExpOk d T → Slim d T → NodeAt w B d T u → IsW B b l w → B ≤ w.heap.size → least ≤ 100 → (l ++ inB T least (exprS d T)).length ≤ maxW →
  Calls Tryz.prog 285 #[.pointer (some ⟨b, 0, none⟩), u, .int .i64 least] w (WPost B b w (l ++ inB T least (exprS d T)))
theorem node_zero {w : World} {B : Nat} {T : Tree} {u : Value} (h : NodeAt w B 0 T u) : T.kids = [] := by
  obtain ⟨_, s, _, hk⟩ := h
  exact hk.1
theorem node_len {w : World} {B d : Nat} {T : Tree} {u : Value} (h : NodeAt w B d T u) (hs : Slim d T) : T.kids.length ≤ 20000 := by
  cases d with
  | zero => rw [node_zero h]; exact Nat.zero_le _
  | succ d => exact hs.2.1
def tx1 (c : UInt8) : ByteArray := ⟨#[c]⟩
set_option maxRecDepth 100000 in
set_option maxHeartbeats 1000000 in
theorem wof_of {d : Nat} (hE : ShE d) : ShO d := by
  intro T u B b least l w he hs hu h hB hleast hlen
  have HU := Lib.hid hu
  have hn := node_len hu hs
  obtain ⟨_, s, rfl, hk⟩ := hu
  obtain ⟨p, n, c, rfl⟩ := hk.shape
  obtain ⟨w0, hw0⟩ : ∃ w0, w0 = w.alloc (.cells #[.int .u8 T.kind, .string T.text, .int .i64 T.num, .int .i64 T.place, .slice p n c] 25) := ⟨_, rfl⟩
  have HS0 : Hid (WS B b w l w0) := by show WS B b w l w0; rw [hw0]; exact (WS.refl h).alloc hB _
  have HX0 : Hid (w0.heap[w.heap.size]? = some (.cells #[.int .u8 T.kind, .string T.text, .int .i64 T.num, .int .i64 T.place, .slice p n c] 25 (0, 0))) := by show _ = _; rw [hw0]; exact heap_alloc_new w _
  have hB0 := HS0.out.sz hB
  have HBi := Lib.hid (sbinds_any d T _ B w0 (HU.out.below HS0.out.bl) hn)
  have HE2 := Lib.hid (fun W l' (hW : WS B b w l' W) (hl' : (l' ++ exprS d T).length ≤ maxW) => hE T (.agg #[.int .u8 T.kind, .string T.text, .int .i64 T.num, .int .i64 T.place, .slice p n c]) B b l' W he hs (HU.out.below hW.bl) hW.is (hW.sz hB) hl')
  clear hk hE
  have HLen := Lib.hid hlen
  obtain ⟨ex, hex⟩ : ∃ ex, exprS d T = ex := ⟨_, rfl⟩
  rw [hex] at HE2 HLen ⊢
  have HIn : Hid (inB T least ex = if least ≤ bindsM T then ex else [40] ++ (ex ++ [41])) := rfl
  obtain ⟨z, hz⟩ : ∃ z, inB T least ex = z := ⟨_, rfl⟩
  rw [hz] at HIn HLen ⊢
  have hm7 : bindsM T ≤ 7 := by
    unfold bindsM
    repeat' split
    all_goals omega
  generalize bindsM T = m at *
  have HH := Lib.hid h
  have HB := Lib.hid hB
  clear hlen hex hz he hs h
  go_enter Tryz.func285, Tryz.ntmps285
  go_upto_region 1 with fail
  change Code.wp _ _ _ _ (w.alloc (.cells #[.int .u8 T.kind, .string T.text, .int .i64 T.num, .int .i64 T.place, .slice p n c] 25))
  rw [← hw0]
  clear hw0
  obtain ⟨x0, x1, x2, x3, x4⟩ := cells5 HX0.out
  go_wp2_with fail
  refine Calls.mono HBi.out ?_
  rintro e w1 ⟨rfl, hb1⟩
  have HS1 := Lib.hid (HS0.out.below hb1 hB0)
  have HX1 := Lib.hid (heap_below hb1 HX0.out (Array.getElem?_eq_some_iff.1 HX0.out).1)
  clear x0 x1 x2 x3 x4 hb1 hB0
  obtain ⟨x0, x1, x2, x3, x4⟩ := cells5 HX1.out
  by_cases hc : least ≤ m
  · have hc1 : (least : Int) ≤ m := by omega
    have hz := HIn.out
    rw [if_pos hc] at hz
    have hl := HLen.out
    rw [hz] at hl
    have HZ := Lib.hid hz
    have HC := Lib.hid (HE2.out w1 l HS1.out hl)
    clear hz hl hc
    go_wp2_with fail
    refine Calls.mono HC.out ?_
    rintro e w2 ⟨rfl, h2⟩
    have H2 := Lib.hid (HS1.out.trans h2)
    clear h2
    go_wp2_with fail
    go_returns
    rw [HZ.out]
    exact ⟨rfl, H2.out⟩
  · have hc1 : ¬ ((least : Int) ≤ m) := by omega
    have hz := HIn.out
    rw [if_neg hc] at hz
    have hl := HLen.out
    rw [hz] at hl
    simp only [List.length_append, List.length_cons, List.length_nil] at hl
    unfold maxW at hl
    have HZ := Lib.hid hz
    have HL := Lib.hid hl
    have HP := Lib.hid (wput_new B b l (l ++ [40]) 1 [tx1 40] w1 HS1.out.is (HS1.out.sz hB) rfl (by omega) rfl (by simp only [List.length_append, List.length_cons, List.length_nil]; omega))
    clear hz hl hc
    go_wp2_with fail
    refine Calls.mono HP.out ?_
    rintro e w2 ⟨rfl, h2⟩
    have H2 := Lib.hid (HS1.out.trans h2)
    have HX2 := Lib.hid (h2.box HS1.out.is HX1.out (by decide) (by decide))
    clear h2 x0 x1 x2 x3 x4
    obtain ⟨x0, x1, x2, x3, x4⟩ := cells5 HX2.out
    have HC := Lib.hid (HE2.out w2 _ H2.out (by unfold maxW; have := HL.out; simp only [List.length_append, List.length_cons, List.length_nil]; omega))
    go_wp2_with fail
    refine Calls.mono HC.out ?_
    rintro e w3 ⟨rfl, h3⟩
    have H3 := Lib.hid (H2.out.trans h3)
    clear h3 x0 x1 x2 x3 x4
    have HP3 := Lib.hid (wput_new B b (l ++ [40] ++ ex) (l ++ ([40] ++ (ex ++ [41]))) 1 [tx1 41] w3 H3.out.is (H3.out.sz hB) rfl (by omega) (by simp [flatL, tx1]) (by have := HL.out; simp only [List.length_append, List.length_cons, List.length_nil]; omega))
    go_wp2_with fail
    refine Calls.mono HP3.out ?_
    rintro e w4 ⟨rfl, h4⟩
    have H4 := Lib.hid (H3.out.trans h4)
    clear h4
    go_wp2_with fail
    go_returns
    refine ⟨rfl, ?_⟩
    rw [HZ.out]
    exact H4.out
end Go.Proofs.YtoekldhdojpceaaGreatDoor
/- The writer: leaves, operators, whole expressions; by contract. Condition: at most 2^47 bytes. -/
namespace Go.Proofs.YtoekldhdojpceaaGreatDoor
open Go.RowKit

set_option maxRecDepth 100000 in
set_option maxHeartbeats 2000000 in
theorem wexpr_leaf (d : Nat) (T : Tree) (u : Value) (B b : Nat) (l : List UInt8) (w : World) (hk : 12 ≤ T.kind ∧ T.kind ≤ 15) (hu : NodeAt w B d T u) (h : IsW B b l w) (hB : B ≤ w.heap.size) (hlen : (l ++ leafS T).length ≤ maxW) :
    Calls Tryz.prog 250 #[.pointer (some ⟨b, 0, none⟩), u] w (WPost B b w (l ++ leafS T)) := by
  obtain ⟨_, s, rfl, hks⟩ := hu
  obtain ⟨p, n, c, rfl⟩ := hks.shape
  obtain ⟨w0, hw0⟩ : ∃ w0, w0 = w.alloc (.cells #[.int .u8 T.kind, .string T.text, .int .i64 T.num, .int .i64 T.place, .slice p n c] 25) := ⟨_, rfl⟩
  have HS0 : Hid (WS B b w l w0) := by show WS B b w l w0; rw [hw0]; exact (WS.refl h).alloc hB _
  have HX0 : Hid (w0.heap[w.heap.size]? = some (.cells #[.int .u8 T.kind, .string T.text, .int .i64 T.num, .int .i64 T.place, .slice p n c] 25 (0, 0))) := by show _ = _; rw [hw0]; exact heap_alloc_new w _
  clear hks
  have fin : ∀ (m : Nat) (texts : List ByteArray), texts.length = m → m ≤ 100 → flatL texts = leafS T → Calls Tryz.prog 111 #[.pointer (some ⟨b, 0, none⟩), .slice (some ⟨w0.heap.size, 0, none⟩) m m] (w0.alloc (.cells (texts.map Value.string).toArray 9)) (WPost B b w0 (l ++ leafS T)) :=
    fun m texts hm hm2 hf => wput_new B b l _ m texts w0 HS0.out.is (HS0.out.sz hB) hm hm2 (by rw [hf]) hlen
  have HF := Lib.hid fin
  have hL : leafS T = if T.kind = 12 then [95] else if T.kind = 13 then [63] ++ txL T else if T.kind = 15 then [39] ++ txL T else txL T := rfl
  obtain ⟨z, hz⟩ : ∃ z, leafS T = z := ⟨_, rfl⟩
  rw [hz] at HF hL ⊢
  have HL := Lib.hid hL
  clear fin hlen hL hz h hB
  obtain ⟨x0, x1, x2, x3, x4⟩ := cells5 HX0.out
  have htx : txL T = T.text.data.toList := rfl
  generalize T.kind = kd at *
  generalize T.text = tx at *
  generalize T.num = nu at *
  generalize T.place = pl at *
  rw [htx] at HL
  clear htx
  obtain h1 | h1 | h1 | h1 : kd = 12 ∨ kd = 13 ∨ kd = 15 ∨ kd = 14 := by omega
  · have e12 : ((kd : Int) == 12) = true := by simp; omega
    have e13 : ((kd : Int) == 13) = false := by simp; omega
    have e15 : ((kd : Int) == 15) = false := by simp; omega
    have e16 : ((kd : Int) == 16) = false := by simp; omega
    have HP := Lib.hid (HF.out 1 [tx1 95] rfl (by omega) (by rw [HL.out, if_pos h1]; rfl))
    clear h1
    go_enter Tryz.func250, Tryz.ntmps250
    go_upto_region 1 with fail
    change Code.wp _ _ _ _ (w.alloc _)
    rw [← hw0]
    clear hw0
    go_wp2_with fail
    refine Calls.mono HP.out ?_
    rintro e w1 ⟨rfl, h1⟩
    have H1 := Lib.hid (HS0.out.trans h1)
    clear h1
    go_wp2_with fail
    go_returns
    exact ⟨rfl, H1.out⟩
  · have e12 : ((kd : Int) == 12) = false := by simp; omega
    have e13 : ((kd : Int) == 13) = true := by simp; omega
    have e15 : ((kd : Int) == 15) = false := by simp; omega
    have e16 : ((kd : Int) == 16) = false := by simp; omega
    have HP := Lib.hid (HF.out 2 [tx1 63, tx] rfl (by omega) (by rw [HL.out, if_neg (by omega), if_pos h1]; simp [flatL, tx1]))
    clear h1
    go_enter Tryz.func250, Tryz.ntmps250
    go_upto_region 1 with fail
    change Code.wp _ _ _ _ (w.alloc _)
    rw [← hw0]
    clear hw0
    go_wp2_with fail
    refine Calls.mono HP.out ?_
    rintro e w1 ⟨rfl, h1⟩
    have H1 := Lib.hid (HS0.out.trans h1)
    clear h1
    go_wp2_with fail
    go_returns
    exact ⟨rfl, H1.out⟩
  · have e12 : ((kd : Int) == 12) = false := by simp; omega
    have e13 : ((kd : Int) == 13) = false := by simp; omega
    have e15 : ((kd : Int) == 15) = true := by simp; omega
    have e16 : ((kd : Int) == 16) = false := by simp; omega
    have HP := Lib.hid (HF.out 2 [tx1 39, tx] rfl (by omega) (by rw [HL.out, if_neg (by omega), if_neg (by omega), if_pos h1]; simp [flatL, tx1]))
    clear h1
    go_enter Tryz.func250, Tryz.ntmps250
    go_upto_region 1 with fail
    change Code.wp _ _ _ _ (w.alloc _)
    rw [← hw0]
    clear hw0
    go_wp2_with fail
    refine Calls.mono HP.out ?_
    rintro e w1 ⟨rfl, h1⟩
    have H1 := Lib.hid (HS0.out.trans h1)
    clear h1
    go_wp2_with fail
    go_returns
    exact ⟨rfl, H1.out⟩
  · have e12 : ((kd : Int) == 12) = false := by simp; omega
    have e13 : ((kd : Int) == 13) = false := by simp; omega
    have e15 : ((kd : Int) == 15) = false := by simp; omega
    have e16 : ((kd : Int) == 16) = false := by simp; omega
    have HP := Lib.hid (HF.out 1 [tx] rfl (by omega) (by rw [HL.out, if_neg (by omega), if_neg (by omega), if_neg (by omega)]; simp [flatL]))
    clear h1
    go_enter Tryz.func250, Tryz.ntmps250
    go_upto_region 1 with fail
    change Code.wp _ _ _ _ (w.alloc _)
    rw [← hw0]
    clear hw0
    go_wp2_with fail
    refine Calls.mono HP.out ?_
    rintro e w1 ⟨rfl, h1⟩
    have H1 := Lib.hid (HS0.out.trans h1)
    clear h1
    go_wp2_with fail
    go_returns
    exact ⟨rfl, H1.out⟩
theorem binds_one {T a : Tree} (hk : T.kind = 16) (ha : T.kids = [a]) : bindsM T = 6 := by
  unfold bindsM
  rw [if_pos hk, if_pos (by rw [ha]; rfl)]
theorem binds_two {T a b : Tree} (hk : T.kind = 16) (ha : T.kids = [a, b]) : 1 ≤ bindsM T ∧ bindsM T ≤ 5 := by
  unfold bindsM
  rw [if_pos hk, if_neg (by rw [ha]; simp)]
  repeat' split
  all_goals omega
set_option maxRecDepth 100000 in
set_option maxHeartbeats 2000000 in
theorem wop_one {d : Nat} (hO : ShO d) {T a : Tree} {u : Value} {B b : Nat} {l : List UInt8} {w : World} (h16 : T.kind = 16) (ha : T.kids = [a]) (htx : txL T = [45] ∨ txL T = [110, 111, 116]) (he : ExpOk d a) (hs : Slim (d + 1) T) (hu : NodeAt w B (d + 1) T u) (h : IsW B b l w) (hB : B ≤ w.heap.size)
    (hlen : (l ++ exprS (d + 1) T).length ≤ maxW) : Calls Tryz.prog 268 #[.pointer (some ⟨b, 0, none⟩), u] w (WPost B b w (l ++ exprS (d + 1) T)) := by
  have HU := Lib.hid hu
  obtain ⟨_, s, rfl, hk⟩ := hu
  obtain ⟨p, c, rfl, _, hrow⟩ := hk.rows
  obtain ⟨_, bk, off, rfl, hbB, hkid⟩ := hrow 0 a (by rw [ha]; rfl)
  have hn1 : T.kids.length = 1 := by rw [ha]; rfl
  rw [hn1] at HU ⊢
  obtain ⟨w0, hw0⟩ : ∃ w0, w0 = w.alloc (.cells #[.int .u8 T.kind, .string T.text, .int .i64 T.num, .int .i64 T.place, .slice (some ⟨bk, off, none⟩) 1 c] 25) := ⟨_, rfl⟩
  have HS0 : Hid (WS B b w l w0) := by show WS B b w l w0; rw [hw0]; exact (WS.refl h).alloc hB _
  have HX0 : Hid (w0.heap[w.heap.size]? = some (.cells #[.int .u8 T.kind, .string T.text, .int .i64 T.num, .int .i64 T.place, .slice (some ⟨bk, off, none⟩) 1 c] 25 (0, 0))) := by show _ = _; rw [hw0]; exact heap_alloc_new w _
  have hB0 := HS0.out.sz hB
  have HBi := Lib.hid (sbinds_any (d + 1) T _ B w0 (HU.out.below HS0.out.bl) (by rw [hn1]; omega))
  rw [binds_one h16 ha] at HBi
  have HKid := Lib.hid (fun W (hW : Below B w W) => hkid.node hW hbB)
  have hsa := hs.2.2 a (by rw [ha]; simp)
  have hE : exprS (d + 1) T = txL T ++ ((if txL T = [110, 111, 116] then [32] else []) ++ inB a 6 (exprS d a)) := by rw [exprS, if_pos h16, ha]
  rw [hE] at hlen
  obtain ⟨E, hEE⟩ : ∃ E, exprS (d + 1) T = E := ⟨_, rfl⟩
  rw [hEE] at hE ⊢
  have HO := Lib.hid (fun W l' v (hW : WS B b w l' W) (hl' : (l' ++ inB a 6 (exprS d a)).length ≤ maxW) (hv : NodeAt W B d a v) => hO a v B b 6 l' W he hsa hv hW.is (hW.sz hB) (by omega) hl')
  generalize inB a 6 (exprS d a) = z at *
  have htx' : txL T = T.text.data.toList := rfl
  have hft : T.text.toList = [45] ∨ T.text.toList = [110, 111, 116] := by rw [ByteArray.toList_eq]; exact htx
  rw [htx'] at hlen hE
  have HE := Lib.hid hE
  simp only [List.length_append] at hlen
  unfold maxW at hlen HO
  have HLen := Lib.hid hlen
  clear hk hrow hkid hE hEE hs hsa hlen htx' htx he h hO hn1 HU
  generalize T.kind = kd at *
  generalize T.text = tx at *
  generalize T.num = nu at *
  generalize T.place = pl at *
  clear h16
  go_enter Tryz.func268, Tryz.ntmps268
  go_upto_region 1 with fail
  change Code.wp _ _ _ _ (w.alloc _)
  rw [← hw0]
  clear hw0
  obtain ⟨x0, x1, x2, x3, x4⟩ := cells5 HX0.out
  go_wp2_with fail
  refine Calls.mono HBi.out ?_
  rintro e w1 ⟨rfl, hb1⟩
  have HS1 := Lib.hid (HS0.out.below hb1 hB0)
  have HX1 := Lib.hid (heap_below hb1 HX0.out (Array.getElem?_eq_some_iff.1 HX0.out).1)
  clear x0 x1 x2 x3 x4 hb1 hB0
  obtain ⟨x0, x1, x2, x3, x4⟩ := cells5 HX1.out
  have HP := Lib.hid (wput_new B b l (l ++ tx.data.toList) 1 [tx] w1 HS1.out.is (HS1.out.sz hB) rfl (by omega) (by simp [flatL]) (by have := HLen.out; rw [List.length_append]; omega))
  go_wp2_with fail
  refine Calls.mono HP.out ?_
  rintro e w2 ⟨rfl, h2⟩
  have H2 := Lib.hid (HS1.out.trans h2)
  have HX2 := Lib.hid (h2.box HS1.out.is HX1.out (by decide) (by decide))
  clear h2 x0 x1 x2 x3 x4
  obtain ⟨x0, x1, x2, x3, x4⟩ := cells5 HX2.out
  rcases hft with hft | hft
  · have hd : tx.data.toList = [45] := by rw [← ByteArray.toList_eq]; exact hft
    obtain ⟨p', l', c', d0, d1, d2, d3, d4, hnode⟩ := HKid.out w2 H2.out.bl
    rw [show off + 0 * 5 = off by omega] at d0 d1 d2 d3 d4
    have HC := Lib.hid (HO.out w2 _ _ H2.out (by have := HLen.out; rw [List.length_append, List.length_append]; omega) hnode)
    have HD := Lib.hid hd
    clear hnode hd
    go_wp2_with fail
    refine Calls.mono HC.out ?_
    rintro e w3 ⟨rfl, h3⟩
    have H3 := Lib.hid (H2.out.trans h3)
    clear h3
    go_wp2_with fail
    go_returns
    refine ⟨rfl, ?_⟩
    have h9 := H3.out
    rw [HE.out, HD.out, if_neg (by decide), List.nil_append, ← List.append_assoc, ← HD.out]
    exact h9
  · have hd : tx.data.toList = [110, 111, 116] := by rw [← ByteArray.toList_eq]; exact hft
    have HD := Lib.hid hd
    have hlen := HLen.out
    rw [if_pos hd] at hlen
    have HL2 := Lib.hid hlen
    have HP2 := Lib.hid (wput_new B b (l ++ tx.data.toList) (l ++ tx.data.toList ++ [32]) 1 [tx1 32] w2 H2.out.is (H2.out.sz hB) rfl (by omega) rfl (by have := HL2.out; simp only [List.length_append, List.length_cons, List.length_nil] at this ⊢; omega))
    clear hd hlen
    go_wp2_with fail
    refine Calls.mono HP2.out ?_
    rintro e w3 ⟨rfl, h3⟩
    have H3 := Lib.hid (H2.out.trans h3)
    have HX3 := Lib.hid (h3.box H2.out.is HX2.out (by decide) (by decide))
    clear h3 x0 x1 x2 x3 x4
    obtain ⟨x0, x1, x2, x3, x4⟩ := cells5 HX3.out
    obtain ⟨p', l', c', d0, d1, d2, d3, d4, hnode⟩ := HKid.out w3 H3.out.bl
    rw [show off + 0 * 5 = off by omega] at d0 d1 d2 d3 d4
    have HC := Lib.hid (HO.out w3 _ _ H3.out (by have := HL2.out; simp only [List.length_append, List.length_cons, List.length_nil] at this ⊢; omega) hnode)
    clear hnode
    go_wp2_with fail
    refine Calls.mono HC.out ?_
    rintro e w4 ⟨rfl, h4⟩
    have H4 := Lib.hid (H3.out.trans h4)
    clear h4
    go_wp2_with fail
    go_returns
    refine ⟨rfl, ?_⟩
    have h9 := H4.out
    rw [HE.out, if_pos HD.out]
    simpa using h9
set_option maxRecDepth 100000 in
set_option maxHeartbeats 2000000 in
theorem wop_two {d : Nat} (hO : ShO d) {T a a2 : Tree} {u : Value} {B b : Nat} {l : List UInt8} {w : World} (h16 : T.kind = 16) (hab : T.kids = [a, a2]) (he : ExpOk d a) (he2 : ExpOk d a2) (hs : Slim (d + 1) T) (hu : NodeAt w B (d + 1) T u) (h : IsW B b l w) (hB : B ≤ w.heap.size)
    (hlen : (l ++ exprS (d + 1) T).length ≤ maxW) : Calls Tryz.prog 268 #[.pointer (some ⟨b, 0, none⟩), u] w (WPost B b w (l ++ exprS (d + 1) T)) := by
  have HU := Lib.hid hu
  obtain ⟨_, s, rfl, hk⟩ := hu
  obtain ⟨p, c, rfl, _, hrow⟩ := hk.rows
  obtain ⟨_, bk, off, rfl, hbB, hkid⟩ := hrow 0 a (by rw [hab]; rfl)
  obtain ⟨_, bk2, off2, hpp, _, hkid2⟩ := hrow 1 a2 (by rw [hab]; rfl)
  have hbo : bk2 = bk ∧ off2 = off := by injection hpp with hpp; injection hpp with h1 h2; exact ⟨h1.symm, h2.symm⟩
  rw [hbo.1, hbo.2] at hkid2
  have hn1 : T.kids.length = 2 := by rw [hab]; rfl
  rw [hn1] at HU ⊢
  obtain ⟨w0, hw0⟩ : ∃ w0, w0 = w.alloc (.cells #[.int .u8 T.kind, .string T.text, .int .i64 T.num, .int .i64 T.place, .slice (some ⟨bk, off, none⟩) 2 c] 25) := ⟨_, rfl⟩
  have HS0 : Hid (WS B b w l w0) := by show WS B b w l w0; rw [hw0]; exact (WS.refl h).alloc hB _
  have HX0 : Hid (w0.heap[w.heap.size]? = some (.cells #[.int .u8 T.kind, .string T.text, .int .i64 T.num, .int .i64 T.place, .slice (some ⟨bk, off, none⟩) 2 c] 25 (0, 0))) := by show _ = _; rw [hw0]; exact heap_alloc_new w _
  have hB0 := HS0.out.sz hB
  have HBi := Lib.hid (sbinds_any (d + 1) T _ B w0 (HU.out.below HS0.out.bl) (by rw [hn1]; omega))
  have HKid := Lib.hid (fun W (hW : Below B w W) => hkid.node hW hbB)
  have HKid2 := Lib.hid (fun W (hW : Below B w W) => hkid2.node hW hbB)
  have hsa := hs.2.2 a (by rw [hab]; simp)
  have hsb := hs.2.2 a2 (by rw [hab]; simp)
  obtain ⟨m1, m5⟩ := binds_two h16 hab
  have hE : exprS (d + 1) T = inB a (if bindsM T = 3 then 4 else bindsM T) (exprS d a) ++ (([32] ++ (txL T ++ [32])) ++ inB a2 (bindsM T + 1) (exprS d a2)) := by rw [exprS, if_pos h16, hab]
  rw [hE] at hlen
  obtain ⟨E, hEE⟩ : ∃ E, exprS (d + 1) T = E := ⟨_, rfl⟩
  rw [hEE] at hE ⊢
  generalize bindsM T = m at *
  have HO := Lib.hid (fun W l' v (hW : WS B b w l' W) (hl' : (l' ++ inB a (if m = 3 then 4 else m) (exprS d a)).length ≤ maxW) (hv : NodeAt W B d a v) => hO a v B b (if m = 3 then 4 else m) l' W he hsa hv hW.is (hW.sz hB) (by split <;> omega) hl')
  have HO2 := Lib.hid (fun W l' v (hW : WS B b w l' W) (hl' : (l' ++ inB a2 (m + 1) (exprS d a2)).length ≤ maxW) (hv : NodeAt W B d a2 v) => hO a2 v B b (m + 1) l' W he2 hsb hv hW.is (hW.sz hB) (by omega) hl')
  generalize inB a (if m = 3 then 4 else m) (exprS d a) = z at *
  generalize inB a2 (m + 1) (exprS d a2) = z2 at *
  have htx' : txL T = T.text.data.toList := rfl
  rw [htx'] at hlen hE
  have HE := Lib.hid hE
  simp only [List.length_append, List.length_cons, List.length_nil] at hlen
  unfold maxW at hlen HO HO2
  have HLen := Lib.hid hlen
  clear hk hrow hkid hkid2 hE hEE hs hsa hsb hlen htx' he he2 h hO hn1 HU hpp hbo
  generalize T.kind = kd at *
  generalize T.text = tx at *
  generalize T.num = nu at *
  generalize T.place = pl at *
  clear h16
  obtain ⟨lf, hlf⟩ : ∃ lf, (if m = 3 then 4 else m) = lf := ⟨_, rfl⟩
  rw [hlf] at HO
  have hm6 : ((m : Int) == 6) = false := by simp; omega
  have hcase : (m = 3 ∧ (lf : Int) = (m : Int) + 1) ∨ (m ≠ 3 ∧ (lf : Int) = m) := by
    by_cases h3 : m = 3
    · rw [if_pos h3] at hlf; omega
    · rw [if_neg h3] at hlf; omega
  clear hlf
  rcases hcase with ⟨h3, hl⟩ | ⟨h3, hl⟩
  · have e3 : ((m : Int) == 3) = true := by simp; omega
    rw [hl] at HO
    clear h3 hl
    go_enter Tryz.func268, Tryz.ntmps268
    go_upto_region 1 with fail
    change Code.wp _ _ _ _ (w.alloc _)
    rw [← hw0]
    clear hw0
    obtain ⟨x0, x1, x2, x3, x4⟩ := cells5 HX0.out
    go_wp2_with fail
    refine Calls.mono HBi.out ?_
    rintro e w1 ⟨rfl, hb1⟩
    have HS1 := Lib.hid (HS0.out.below hb1 hB0)
    have HX1 := Lib.hid (heap_below hb1 HX0.out (Array.getElem?_eq_some_iff.1 HX0.out).1)
    clear x0 x1 x2 x3 x4 hb1 hB0
    obtain ⟨x0, x1, x2, x3, x4⟩ := cells5 HX1.out
    obtain ⟨p', l', c', d0, d1, d2, d3, d4, hnode⟩ := HKid.out w1 HS1.out.bl
    rw [show off + 0 * 5 = off by omega] at d0 d1 d2 d3 d4
    have HC := Lib.hid (HO.out w1 l _ HS1.out (by have := HLen.out; rw [List.length_append]; omega) hnode)
    clear hnode
    go_wp2_with fail
    refine Calls.mono HC.out ?_
    rintro e w2 ⟨rfl, h2⟩
    have H2 := Lib.hid (HS1.out.trans h2)
    have HX2 := Lib.hid (h2.box HS1.out.is HX1.out (by decide) (by decide))
    clear h2 x0 x1 x2 x3 x4 d0 d1 d2 d3 d4
    obtain ⟨x0, x1, x2, x3, x4⟩ := cells5 HX2.out
    have HP := Lib.hid (wput_new B b (l ++ z) (l ++ z ++ ([32] ++ (tx.data.toList ++ [32]))) 3 [tx1 32, tx, tx1 32] w2 H2.out.is (H2.out.sz hB) rfl (by omega) (by simp [flatL, tx1]) (by have := HLen.out; simp only [List.length_append, List.length_cons, List.length_nil]; omega))
    go_wp2_with fail
    refine Calls.mono HP.out ?_
    rintro e w3 ⟨rfl, h3⟩
    have H3 := Lib.hid (H2.out.trans h3)
    have HX3 := Lib.hid (h3.box H2.out.is HX2.out (by decide) (by decide))
    clear h3 x0 x1 x2 x3 x4
    obtain ⟨x0, x1, x2, x3, x4⟩ := cells5 HX3.out
    obtain ⟨p'', l'', c'', d0, d1, d2, d3, d4, hnode⟩ := HKid2.out w3 H3.out.bl
    rw [show off + 1 * 5 = off + 5 by omega] at d0 d1 d2 d3 d4
    have HC2 := Lib.hid (HO2.out w3 _ _ H3.out (by have := HLen.out; simp only [List.length_append, List.length_cons, List.length_nil]; omega) hnode)
    rw [Int.natCast_succ] at HC2
    clear hnode
    go_wp2_with fail
    refine Calls.mono HC2.out ?_
    rintro e w4 ⟨rfl, h4⟩
    have H4 := Lib.hid (H3.out.trans h4)
    clear h4
    go_wp2_with fail
    go_returns
    refine ⟨rfl, ?_⟩
    have h9 := H4.out
    rw [HE.out]
    simpa using h9
  · have e3 : ((m : Int) == 3) = false := by simp; omega
    rw [hl] at HO
    clear h3 hl
    go_enter Tryz.func268, Tryz.ntmps268
    go_upto_region 1 with fail
    change Code.wp _ _ _ _ (w.alloc _)
    rw [← hw0]
    clear hw0
    obtain ⟨x0, x1, x2, x3, x4⟩ := cells5 HX0.out
    go_wp2_with fail
    refine Calls.mono HBi.out ?_
    rintro e w1 ⟨rfl, hb1⟩
    have HS1 := Lib.hid (HS0.out.below hb1 hB0)
    have HX1 := Lib.hid (heap_below hb1 HX0.out (Array.getElem?_eq_some_iff.1 HX0.out).1)
    clear x0 x1 x2 x3 x4 hb1 hB0
    obtain ⟨x0, x1, x2, x3, x4⟩ := cells5 HX1.out
    obtain ⟨p', l', c', d0, d1, d2, d3, d4, hnode⟩ := HKid.out w1 HS1.out.bl
    rw [show off + 0 * 5 = off by omega] at d0 d1 d2 d3 d4
    have HC := Lib.hid (HO.out w1 l _ HS1.out (by have := HLen.out; rw [List.length_append]; omega) hnode)
    clear hnode
    go_wp2_with fail
    refine Calls.mono HC.out ?_
    rintro e w2 ⟨rfl, h2⟩
    have H2 := Lib.hid (HS1.out.trans h2)
    have HX2 := Lib.hid (h2.box HS1.out.is HX1.out (by decide) (by decide))
    clear h2 x0 x1 x2 x3 x4 d0 d1 d2 d3 d4
    obtain ⟨x0, x1, x2, x3, x4⟩ := cells5 HX2.out
    have HP := Lib.hid (wput_new B b (l ++ z) (l ++ z ++ ([32] ++ (tx.data.toList ++ [32]))) 3 [tx1 32, tx, tx1 32] w2 H2.out.is (H2.out.sz hB) rfl (by omega) (by simp [flatL, tx1]) (by have := HLen.out; simp only [List.length_append, List.length_cons, List.length_nil]; omega))
    go_wp2_with fail
    refine Calls.mono HP.out ?_
    rintro e w3 ⟨rfl, h3⟩
    have H3 := Lib.hid (H2.out.trans h3)
    have HX3 := Lib.hid (h3.box H2.out.is HX2.out (by decide) (by decide))
    clear h3 x0 x1 x2 x3 x4
    obtain ⟨x0, x1, x2, x3, x4⟩ := cells5 HX3.out
    obtain ⟨p'', l'', c'', d0, d1, d2, d3, d4, hnode⟩ := HKid2.out w3 H3.out.bl
    rw [show off + 1 * 5 = off + 5 by omega] at d0 d1 d2 d3 d4
    have HC2 := Lib.hid (HO2.out w3 _ _ H3.out (by have := HLen.out; simp only [List.length_append, List.length_cons, List.length_nil]; omega) hnode)
    rw [Int.natCast_succ] at HC2
    clear hnode
    go_wp2_with fail
    refine Calls.mono HC2.out ?_
    rintro e w4 ⟨rfl, h4⟩
    have H4 := Lib.hid (H3.out.trans h4)
    clear h4
    go_wp2_with fail
    go_returns
    refine ⟨rfl, ?_⟩
    have h9 := H4.out
    rw [HE.out]
    simpa using h9
theorem shE_all : ∀ d, ShE d := by
  intro d
  induction d with
  | zero => intro T u B b l w he hs hu h hB hlen; exact wexpr_leaf 0 T u B b l w he hu h hB hlen
  | succ d ih =>
    intro T u B b l w he hs hu h hB hlen
    rcases he with he | ⟨h16, he⟩
    · have e : exprS (d + 1) T = leafS T := by rw [exprS, if_neg (by omega)]
      rw [e] at hlen ⊢
      exact wexpr_leaf _ T u B b l w he hu h hB hlen
    · have HOp : ∀ (W : World), WS B b w l W → Calls Tryz.prog 268 #[.pointer (some ⟨b, 0, none⟩), u] W (WPost B b W (l ++ exprS (d + 1) T)) := fun W hW => by
        rcases he with ⟨a, ha, htx, hea⟩ | ⟨a, a2, hab, hea, heb⟩
        · exact wop_one (wof_of ih) h16 ha htx hea hs (hu.below hW.bl) hW.is (hW.sz hB) hlen
        · exact wop_two (wof_of ih) h16 hab hea heb hs (hu.below hW.bl) hW.is (hW.sz hB) hlen
      have HOp := Lib.hid HOp
      clear he
      obtain ⟨_, s, rfl, hk⟩ := hu
      obtain ⟨p, n, c, rfl⟩ := hk.shape
      generalize exprS (d + 1) T = E at *
      obtain ⟨w0, hw0⟩ : ∃ w0, w0 = w.alloc (.cells #[.int .u8 T.kind, .string T.text, .int .i64 T.num, .int .i64 T.place, .slice p n c] 25) := ⟨_, rfl⟩
      have HS0 : Hid (WS B b w l w0) := by show WS B b w l w0; rw [hw0]; exact (WS.refl h).alloc hB _
      have HX0 : Hid (w0.heap[w.heap.size]? = some (.cells #[.int .u8 T.kind, .string T.text, .int .i64 T.num, .int .i64 T.place, .slice p n c] 25 (0, 0))) := by show _ = _; rw [hw0]; exact heap_alloc_new w _
      have HC := Lib.hid (HOp.out w0 HS0.out)
      clear hk ih hs h hlen
      have e12 : ((T.kind : Int) == 12) = false := by simp; omega
      have e13 : ((T.kind : Int) == 13) = false := by simp; omega
      have e15 : ((T.kind : Int) == 15) = false := by simp; omega
      have e16 : ((T.kind : Int) == 16) = true := by simp; omega
      clear h16
      generalize T.kind = kd at *
      obtain ⟨x0, x1, x2, x3, x4⟩ := cells5 HX0.out
      go_enter Tryz.func250, Tryz.ntmps250
      go_upto_region 1 with fail
      change Code.wp _ _ _ _ (w.alloc _)
      rw [← hw0]
      clear hw0
      go_wp2_with fail
      refine Calls.mono HC.out ?_
      rintro e w1 ⟨rfl, h1⟩
      have H1 := Lib.hid (HS0.out.trans h1)
      clear h1
      go_wp2_with fail
      go_returns
      exact ⟨rfl, H1.out⟩
end Go.Proofs.YtoekldhdojpceaaGreatDoor
