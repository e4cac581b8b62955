/- The scanner: numbers, words, names; by contract. Conditions: texts of at most 16384 bytes. -/
import Derived.Test.YtondgnefggglcaaDoorScanC
import Derived.Laws.IdiomStrings
namespace Go.Proofs.YtondgnefggglcaaDoor
open Go.RowKit

def isDig (c : UInt8) : Bool := decide (48 ≤ c.toNat) && decide (c.toNat ≤ 57)
def maxI : Nat := 9223372036854775807
/-- what digits say, if it is no more than 2^63 - 1 -/
def numGo : Nat → List UInt8 → Option Nat
  | n, [] => some n
  | n, c :: r => if isDig c && decide (10 * n + (c.toNat - 48) ≤ maxI) then numGo (10 * n + (c.toNat - 48)) r else none
def number (l : List UInt8) : Option Nat := if l.isEmpty then none else numGo 0 l

/-- '[]byte(s)': a new row that holds the bytes -/
theorem conv_bytes (s : ByteArray) (w : World) : ∃ c w', (convert 9 36 (.string s)).run Tryd.prog w = .ok (.slice (some ⟨w.heap.size, 0, none⟩) s.size c) w' ∧ Below w.heap.size w w' ∧
    ∀ j (hj : j < s.size), w'.cell? ⟨w.heap.size, j, none⟩ = some (.int .u8 (s[j].toNat : Int)) := by
  refine ⟨_, _, run_bytes_of_string w 9 36 5 s Tryd.underlying9 Tryd.underlying36 Tryd.underlying5, (Below.refl _ w).drew.alloc (Nat.le_refl _) _, fun j hj => ?_⟩
  have h : (w.drew.alloc (.cells (bytesRow s (grownCap w s.size 0 5)) 5 ((bytesRow s (grownCap w s.size 0 5)).size, (bytesRow s (grownCap w s.size 0 5)).size + 1))).heap[w.heap.size]? = _ := heap_alloc_new w.drew _
  unfold World.cell?
  rw [h]
  exact bytesRow_at s _ j hj

theorem numGo_yes (s : ByteArray) (k m : Nat) (h : k < s.size) (hd : isDig s[k] = true) (hm : 10 * m + (s[k].toNat - 48) ≤ maxI) :
    numGo m (s.data.toList.drop k) = numGo (10 * m + (s[k].toNat - 48)) (s.data.toList.drop (k + 1)) := by
  rw [drop_cons s k h]; simp only [numGo, hd, Bool.true_and, decide_eq_true_eq, hm, if_true]
theorem numGo_no (s : ByteArray) (k m : Nat) (h : k < s.size) (hd : isDig s[k] = false ∨ maxI < 10 * m + (s[k].toNat - 48)) :
    numGo m (s.data.toList.drop k) = none := by
  rw [drop_cons s k h]
  simp only [numGo]
  rw [if_neg]
  rcases hd with hd | hd
  · simp [hd]
  · simp only [Bool.and_eq_true, decide_eq_true_eq, not_and]; intro _; omega
theorem number_of (s : ByteArray) (h : 0 < s.size) : number s.data.toList = numGo 0 s.data.toList := by
  unfold number
  rw [if_neg]
  have := bne_of_size s h
  rw [ByteArray.toList_eq] at this
  rw [this]; simp
theorem number_nil (s : ByteArray) (h : s.size = 0) : number s.data.toList = none := by
  have e : s.data.toList = [] := by
    have h2 : s.data.toList.length = 0 := by rw [Array.length_toList]; exact h
    exact List.eq_nil_of_length_eq_zero h2
  rw [e]; rfl

set_option maxRecDepth 100000 in
theorem number_any (s : ByteArray) (w : World) (hs : s.size ≤ 16384) :
    Calls Tryd.prog 12 #[.string s] w fun e w' => e = .returned (.tuple #[.int .i64 (((number s.data.toList).getD 0 : Nat) : Int), .bool (number s.data.toList).isSome]) ∧ Below w.heap.size w w' := by
  obtain ⟨c, w1, hrun, hb1, hcell⟩ := conv_bytes s w
  have HC := Lib.hid hcell
  clear hcell
  have hfin : ∀ (o : Option Nat), number s.data.toList = o → ∀ (e : Ending) (w' : World), e = .returned (.tuple #[.int .i64 ((o.getD 0 : Nat) : Int), .bool o.isSome]) → Below w.heap.size w w' → (e = .returned (.tuple #[.int .i64 (((number s.data.toList).getD 0 : Nat) : Int), .bool (number s.data.toList).isSome]) ∧ Below w.heap.size w w') := by
    intro o ho e w' he hb; rw [ho]; exact ⟨he, hb⟩
  have HF := Lib.hid hfin
  clear hfin
  go_enter Tryd.func12, Tryd.ntmps12
  go_wp2
  clear hrun
  go_loopw [4, 11] (fun n i wr => ∃ (k m : Nat), k ≤ s.size ∧ i = .int .i64 k ∧ n = .int .i64 m ∧ m ≤ 9223372036854775807 ∧ numGo m (s.data.toList.drop k) = numGo 0 s.data.toList ∧ wr = w1) (fun _ i _ => s.size - (intOf i).toNat)
  case atStart => exact ⟨0, 0, Nat.zero_le _, rfl, rfl, by omega, rfl, rfl⟩
  case round =>
    obtain ⟨k, m, hk, rfl, rfl, hm, hnum, rfl⟩ := hrel
    have HN := Lib.hid hnum
    clear hnum
    by_cases hlt : k < s.size
    · have hck := HC.out k hlt
      have hd := s[k].toNat_lt
      have HY := Lib.hid (numGo_yes s k m hlt)
      have HO := Lib.hid (numGo_no s k m hlt)
      have HD : Hid (isDig s[k] = (decide (48 ≤ s[k].toNat) && decide (s[k].toNat ≤ 57))) := rfl
      generalize isDig s[k] = dg at *
      generalize s[k].toNat = d at *
      have hdg : ∀ h : 48 ≤ d ∧ d ≤ 57, dg = true := fun h => by rw [HD.out]; simp [h.1, h.2]
      have hdn : ∀ h : ¬ (48 ≤ d ∧ d ≤ 57), dg = false := fun h => by rw [HD.out]; simp; omega
      have HDG := Lib.hid hdg
      have HDN := Lib.hid hdn
      clear hdg hdn
      have hno : (dg = false ∨ maxI < 10 * m + (d - 48)) → number s.data.toList = none := fun h => by
        rw [number_of s (by omega), ← HN.out]; exact HO.out h
      have HNO := Lib.hid hno
      clear hno
      go_wp2
      · go_ret2
        have h2 : 9223372036854775807 < 10 * m + (d - 48) := by omega
        exact HF.out none (HNO.out (.inr h2)) _ _ rfl hb1
      · have h2 : 10 * m + (d - 48) ≤ 9223372036854775807 := by omega
        refine ⟨⟨k + 1, 10 * m + (d - 48), by omega, by go_num, ?_, h2, ?_, by trivial⟩, by simp [intOf]; omega⟩
        · congr 1; omega
        · rw [← HY.out (HDG.out (by omega)) h2]; exact HN.out
      · go_ret2
        exact HF.out none (HNO.out (.inl (HDN.out (by omega)))) _ _ rfl hb1
      · go_ret2
        exact HF.out none (HNO.out (.inl (HDN.out (by omega)))) _ _ rfl hb1
    · obtain rfl : k = s.size := by omega
      rcases Nat.eq_zero_or_pos s.size with h0 | h0
      · have hm0 : m = 0 := by
          have h1 := HN.out
          have e : s.data.toList = [] := List.eq_nil_of_length_eq_zero (by rw [Array.length_toList]; exact h0)
          rw [e] at h1
          simp [numGo] at h1
          exact h1
        have he : s.toList.isEmpty = true := by
          rw [ByteArray.toList_eq, List.eq_nil_of_length_eq_zero (l := s.data.toList) (by rw [Array.length_toList]; exact h0)]; rfl
        have HH0 := Lib.hid h0
        subst hm0
        clear h0
        go_wp2
        go_ret2
        exact HF.out none (number_nil s HH0.out) _ _ rfl hb1
      · have he : s.toList.isEmpty = false := bne_of_size s h0
        have hv : number s.data.toList = some m := by
          rw [number_of s h0, ← HN.out, drop_end s _ (Nat.le_refl _)]; rfl
        have HV := Lib.hid hv
        clear hv
        go_wp2
        go_ret2
        exact HF.out _ HV.out _ _ rfl hb1

/-! ### Bytes of a kind; the constants of the text -/
theorem all_u8 (p : UInt8 → Bool) (h : (List.range 256).all (fun n => p (UInt8.ofNat n)) = true) (c : UInt8) : p c = true := by
  have h1 := List.all_eq_true.1 h c.toNat (List.mem_range.2 c.toNat_lt)
  simpa using h1
def isLow (c : UInt8) : Bool := decide (97 ≤ c.toNat) && decide (c.toNat ≤ 122)
def isOn (c : UInt8) : Bool := isLow c || isDig c || c == 95
def lettersB : ByteArray := ⟨#[97, 98, 99, 100, 101, 102, 103, 104, 105, 106, 107, 108, 109, 110, 111, 112, 113, 114, 115, 116, 117, 118, 119, 120, 121, 122]⟩
def digitsB : ByteArray := ⟨#[48, 49, 50, 51, 52, 53, 54, 55, 56, 57]⟩
def moreB : ByteArray := ⟨#[97, 98, 99, 100, 101, 102, 103, 104, 105, 106, 107, 108, 109, 110, 111, 112, 113, 114, 115, 116, 117, 118, 119, 120, 121, 122, 48, 49, 50, 51, 52, 53, 54, 55, 56, 57, 95]⟩
theorem has_letters (c : UInt8) : hasB lettersB c = isLow c := by
  have := all_u8 (fun c => hasB lettersB c == isLow c) (by kernel_rfl) c
  simpa using this
theorem has_digits (c : UInt8) : hasB digitsB c = isDig c := by
  have := all_u8 (fun c => hasB digitsB c == isDig c) (by kernel_rfl) c
  simpa using this
theorem has_more (c : UInt8) : hasB moreB c = isOn c := by
  have := all_u8 (fun c => hasB moreB c == isOn c) (by kernel_rfl) c
  simpa using this

/-- is a text a name's? -/
def namedB (l : List UInt8) : Bool :=
  match l with
  | [] => false
  | c :: _ => decide (l.length ≤ 24) && isLow c

theorem named_any (s : ByteArray) (w : World) (hs : s.size ≤ 16384) :
    Calls Tryd.prog 42 #[.string s] w fun e w' => e = .returned (.bool (namedB s.data.toList)) ∧ w = w' := by
  rcases Nat.eq_zero_or_pos s.size with h0 | h0
  · have e : s.data.toList = [] := List.eq_nil_of_length_eq_zero (by rw [Array.length_toList]; exact h0)
    have he : s.toList.isEmpty = true := by rw [ByteArray.toList_eq, e]; rfl
    have HE := Lib.hid e
    clear e h0
    go_enter Tryd.func42, Tryd.ntmps42
    go_wp2
    go_ret
    rw [HE.out]
    exact ⟨rfl, rfl⟩
  · have he : s.toList.isEmpty = false := bne_of_size s h0
    have hd : s.data.toList = s[0] :: s.data.toList.drop 1 := by
      have := drop_cons s 0 h0
      simpa using this
    have hn : namedB s.data.toList = (decide (s.size ≤ 24) && hasB lettersB s[0]) := by
      rw [has_letters, hd]; unfold namedB; simp only [← hd, Array.length_toList]; rfl
    have HN := Lib.hid hn
    have HC := Lib.hid ((strings_IndexByte' lettersB s[0] w).mono (R' := fun e w' => (∃ i : Int, e = .returned (.int .i64 i) ∧ decide (0 ≤ i) = hasB lettersB s[0]) ∧ w = w') (fun e w' hh => ⟨⟨_, hh.1, indexbyte_has _ _⟩, hh.2⟩))
    clear hn hd
    go_enter Tryd.func42, Tryd.ntmps42
    by_cases hl : s.size ≤ 24
    · go_wp2_with (first
        | (go_at_call 47; refine Calls.mono HC.out ?_; rintro e w' ⟨⟨i, rfl, hi⟩, rfl⟩; have HI := Lib.hid hi; clear hi))
      go_ret
      rw [HN.out, ← HI.out]
      exact ⟨by simp [hl], rfl⟩
    · go_wp2
      go_ret
      rw [HN.out]
      exact ⟨by simp [hl], rfl⟩
end Go.Proofs.YtondgnefggglcaaDoor
