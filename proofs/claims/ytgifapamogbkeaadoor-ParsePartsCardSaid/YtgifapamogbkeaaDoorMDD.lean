/- Several texts joined, each with its own sentence and conditions ahead of it: RefD, RefE, RefF, PlainA. -/
import Derived.Test.YtgifapamogbkeaaDoorMD
import Derived.Handy
/- The reference's token; by contract. Conditions: the source has at most 16384 bytes. -/
namespace Go.Proofs.YtgifapamogbkeaaDoor
open Go.RowKit

theorem nameFrom_on (l : List UInt8) (k : Nat) (hk : k ≠ 0) (h : l.all isOn = true) : nameFrom k l = true := by
  induction l generalizing k with
  | nil => rfl
  | cons c r ih =>
    simp only [List.all_cons, Bool.and_eq_true] at h
    simp only [nameFrom, ih (k + 1) (by omega) h.2, Bool.and_true]
    have hc := h.1
    unfold isOn at hc
    unfold nameAt
    cases hl : isLow c
    · rw [hl] at hc; simp only [Bool.false_or] at hc ⊢; rw [hc]; simp [hk]
    · rfl
theorem namedF_on (l : List UInt8) (h : l.all isOn = true) : namedF l = namedB l := by
  cases l with
  | nil => rfl
  | cons c r =>
    simp only [List.all_cons, Bool.and_eq_true] at h
    unfold namedF namedB
    simp only [nameFrom, nameFrom_on r 1 (by omega) h.2, Bool.and_true]
    have : nameAt 0 c = isLow c := by simp [nameAt]
    rw [this]
    have h1 : decide (1 ≤ (c :: r).length) = true := by simp
    rw [h1, Bool.and_true, Bool.and_comm]
theorem scanTo_all (p : UInt8 → Bool) (s : ByteArray) (k : Nat) : (s.extract k (scanTo p s k)).data.toList.all p = true := by
  have e : (s.extract k (scanTo p s k)).data.toList = (s.data.toList.drop k).takeWhile p := by
    rw [ByteArray.data_extract, Array.toList_extract]
    show (s.data.toList.drop k).take (scanTo p s k - k) = _
    unfold scanTo
    rw [Nat.add_sub_cancel_left]
    exact (List.prefix_iff_eq_take.1 (List.takeWhile_prefix p)).symm
  rw [e, List.all_takeWhile]

/-- what the reference's token answers -/
def RTokPost (w : World) (s : ByteArray) (k : Nat) (c : UInt8) (e : Ending) (W : World) : Prop :=
  Below w.heap.size w W ∧
  (((tokenAt s k c).2.2.1 = 0 ∧ e = .returned (.tuple #[.agg #[.int .u8 (tokenAt s k c).1, .string (tokenAt s k c).2.1, .int .i64 k], .int .i64 (tokenAt s k c).2.2.2, .int .i64 0])) ∨
   ((tokenAt s k c).2.2.1 ≠ 0 ∧ e = .returned (.tuple #[.agg #[.int .u8 0, .string ⟨#[]⟩, .int .i64 0], .int .i64 0, .int .i64 (tokenAt s k c).2.2.1])))
theorem rtok_ok {w W : World} {s : ByteArray} {k : Nat} {c : UInt8} {kd en : Nat} {tx : ByteArray} (hb : Below w.heap.size w W) (h : tokenAt s k c = (kd, tx, 0, en)) :
    RTokPost w s k c (.returned (.tuple #[.agg #[.int .u8 kd, .string tx, .int .i64 k], .int .i64 en, .int .i64 0])) W := by
  unfold RTokPost; rw [h]; exact ⟨hb, .inl ⟨rfl, rfl⟩⟩
theorem rtok_bad {w W : World} {s : ByteArray} {k : Nat} {c : UInt8} {kd en er : Nat} {tx : ByteArray} (hb : Below w.heap.size w W) (h : tokenAt s k c = (kd, tx, er, en)) (he : er ≠ 0) :
    RTokPost w s k c (.returned (.tuple #[.agg #[.int .u8 0, .string ⟨#[]⟩, .int .i64 0], .int .i64 0, .int .i64 er])) W := by
  unfold RTokPost; rw [h]; exact ⟨hb, .inr ⟨he, rfl⟩⟩

end Go.Proofs.YtgifapamogbkeaaDoor
/- The reference's token: marks and numbers; by contract. Conditions: the source has at most 16384 bytes. -/
namespace Go.Proofs.YtgifapamogbkeaaDoor
open Go.RowKit

theorem two_new (w : World) (a b : Obj) : ((w.alloc a).alloc b).heap[w.heap.size]? = some a ∧ ((w.alloc a).alloc b).heap[w.heap.size + 1]? = some b ∧ Below w.heap.size w ((w.alloc a).alloc b) :=
  ⟨by rw [at_alloc, World.size_alloc, if_neg (by omega), at_alloc, if_pos rfl], by rw [at_alloc, World.size_alloc, if_pos rfl], ((Below.refl _ w).alloc (Nat.le_refl _) _).alloc (by simp) _⟩
theorem byte_eq (c : UInt8) (n : Nat) (hn : n < 256) : (c == UInt8.ofNat n) = ((c.toNat : Int) == (n : Int)) := by
  rw [Bool.eq_iff_iff]
  simp only [beq_iff_eq]
  constructor
  · intro h; subst h; simp; omega
  · intro h
    have h1 : c.toNat = n := by omega
    rw [← h1]; simp

end Go.Proofs.YtgifapamogbkeaaDoor
/- The reference's token: signs; the token whole; by contract. Conditions: the source has at most 16384 bytes. -/
namespace Go.Proofs.YtgifapamogbkeaaDoor
open Go.RowKit

theorem ext_data (s : ByteArray) (a b : Nat) : (s.extract a b).data.toList = (s.data.toList.drop a).take (b - a) := by
  rw [ByteArray.data_extract, Array.toList_extract]
theorem signAt_ext (s : ByteArray) (k : Nat) (g : ByteArray) (h : k + g.size ≤ s.size) : ((s.extract k (k + g.size)).toList == g.toList) = signAt s k g := by
  unfold signAt
  rw [← Lib.hasPrefix_of_take, ByteArray.toList_eq, ByteArray.toList_eq, ext_data, Nat.add_sub_cancel_left]
  have e : g.data.toList.length = g.size := by simp
  rw [e]
  have h1 : decide (g.size ≤ (s.data.toList.drop k).length) = true := by simp; omega
  rw [h1, Bool.true_and]
theorem signAt_far (s : ByteArray) (k : Nat) (g : ByteArray) (hk : k ≤ s.size) (h : s.size < k + g.size) : signAt s k g = false := by
  cases hs : signAt s k g
  · rfl
  · have := signAt_le s k g hk hs; omega
theorem signs_size (m : Nat) (g : ByteArray) (h : signsL[m]? = some g) : g.size ≤ 2 := by
  have : signsL.all (fun g => decide (g.size ≤ 2)) = true := by kernel_rfl
  simpa using List.all_eq_true.1 this g (List.mem_of_getElem? h)

end Go.Proofs.YtgifapamogbkeaaDoor
/- Where the tokens stand: the plain law of ScanPlaces, with no program in sight. No condition. -/
namespace Go.Proofs.YtgifapamogbkeaaDoor
open Go.RowKit

/-- the mark ahead of a token's text -/
def offOf (kd : Nat) : Nat := if kd == 3 || kd == 5 then 1 else 0
theorem bytes_ext (x y : ByteArray) (h : x.data.toList = y.data.toList) : x = y := by
  obtain ⟨⟨x⟩⟩ := x
  obtain ⟨⟨y⟩⟩ := y
  simpa using h
theorem tokenAt_span (s : ByteArray) (k : Nat) (hk : k < s.size) (h0 : (tokenAt s k s[k]).2.2.1 = 0) :
    (tokenAt s k s[k]).2.2.2 = k + offOf (tokenAt s k s[k]).1 + (tokenAt s k s[k]).2.1.size ∧
    s.extract (k + offOf (tokenAt s k s[k]).1) (tokenAt s k s[k]).2.2.2 = (tokenAt s k s[k]).2.1 ∧ (tokenAt s k s[k]).1 < 7 := by
  unfold tokenAt at h0 ⊢
  by_cases hc : isLow s[k] = true
  · rw [if_pos hc]
    have h1 := scanTo_ge isOn s k
    have h2 := scanTo_le isOn s k (by omega)
    have e : ∀ x : Bool, offOf (if x = true then 1 else 2) = 0 ∧ (if x = true then 1 else 2) < 7 := by intro x; cases x <;> decide
    dsimp only
    rw [(e _).1, ext_size s _ _ h2]
    exact ⟨by omega, rfl, (e _).2⟩
  · rw [if_neg hc] at h0 ⊢
    by_cases hq : (s[k] == 63 || s[k] == 39) = true
    · rw [if_pos hq]
      have h1 := scanTo_ge isOn s (k + 1)
      have h2 := scanTo_le isOn s (k + 1) (by omega)
      have e : ∀ x : Bool, offOf (if x = true then 5 else 3) = 1 ∧ (if x = true then 5 else 3) < 7 := by intro x; cases x <;> decide
      dsimp only
      rw [(e _).1, ext_size s _ _ h2]
      exact ⟨by omega, rfl, (e _).2⟩
    · rw [if_neg hq] at h0 ⊢
      by_cases hd : isDig s[k] = true
      · rw [if_pos hd]
        have h1 := scanTo_ge isDig s k
        have h2 := scanTo_le isDig s k (by omega)
        have e : offOf 4 = 0 := rfl
        dsimp only
        rw [e, ext_size s _ _ h2]
        exact ⟨by omega, rfl, by omega⟩
      · rw [if_neg hd] at h0 ⊢
        cases hf : signsL.find? (fun g => Lib.hasPrefix (s.data.toList.drop k) g.data.toList) with
        | none => rw [hf] at h0; simp at h0
        | some g =>
          have hp : signAt s k g = true := List.find?_some hf
          have h2 := signAt_le s k g (by omega) hp
          have h3 := signAt_ext s k g h2
          rw [hp] at h3
          refine ⟨rfl, bytes_ext _ _ ?_, (by show 6 < 7; omega)⟩
          have h4 : (s.extract k (k + g.size)).toList = g.toList := by simpa using h3
          rw [ByteArray.toList_eq, ByteArray.toList_eq] at h4
          exact h4

/-- tokens in order, each where it is told -/
def Places (s : ByteArray) : Nat → List Tok → Prop
  | _, [] => True
  | a, t :: r => a ≤ t.2.2 ∧ t.2.2 + offOf t.1 + t.2.1.size ≤ s.size ∧ s.extract (t.2.2 + offOf t.1) (t.2.2 + offOf t.1 + t.2.1.size) = t.2.1 ∧ t.1 ≤ 7 ∧ Places s (t.2.2 + offOf t.1 + t.2.1.size) r

theorem places_toks (s : ByteArray) : ∀ (n k : Nat), s.size - k ≤ n → k ≤ s.size → (toksFrom s k).2 = none → Places s k ((toksFrom s k).1 ++ [(7, ⟨#[]⟩, s.size)]) := by
  intro n
  induction n with
  | zero =>
    intro k hn hk _
    rw [toksFrom_end s k (by rw [skip_end s k (by omega)]; omega)]
    exact ⟨hk, Nat.le_refl _, bytes_ext _ _ (by rw [ext_data]; simp [offOf]), Nat.le_refl _, trivial⟩
  | succ n ih =>
    intro k hn hk h2
    have hge := skip_ge s _ k (Nat.le_refl _)
    by_cases h : skip s k < s.size
    · by_cases h0 : (tokenAt s (skip s k) s[skip s k]).2.2.1 = 0
      · obtain ⟨h3, h4, h5⟩ := tokenAt_span s (skip s k) h h0
        obtain ⟨h6, h7⟩ := tokenAt_next s (skip s k) h h0
        rw [toksFrom_ok s k h h0] at h2 ⊢
        have := ih (tokenAt s (skip s k) s[skip s k]).2.2.2 (by omega) h7 h2
        generalize tokenAt s (skip s k) s[skip s k] = T at *
        obtain ⟨kd, tx, er, en⟩ := T
        dsimp only at *
        subst h3
        exact ⟨hge, h7, h4, by omega, this⟩
      · rw [toksFrom_bad s k h h0] at h2
        cases h2
    · rw [toksFrom_end s k h]
      exact ⟨hk, Nat.le_refl _, bytes_ext _ _ (by rw [ext_data]; simp [offOf]), Nat.le_refl _, trivial⟩

/-- a fault is one, and stands in the source -/
theorem toks_err (s : ByteArray) : ∀ (f k er pl : Nat), (toks f s k).2 = some (er, pl) → er ≠ 0 ∧ pl < s.size := by
  intro f
  induction f with
  | zero => intro k er pl h; cases h
  | succ f ih =>
    intro k er pl h
    unfold toks at h
    split at h
    · rename_i h1
      split at h
      · exact ih _ _ _ h
      · rename_i h2
        simp only [Option.some.injEq, Prod.mk.injEq] at h
        obtain ⟨rfl, rfl⟩ := h
        exact ⟨h2, h1⟩
    · cases h
theorem toksFrom_err (s : ByteArray) (k er pl : Nat) (h : (toksFrom s k).2 = some (er, pl)) : er ≠ 0 ∧ pl < s.size := toks_err s _ k er pl h
end Go.Proofs.YtgifapamogbkeaaDoor
