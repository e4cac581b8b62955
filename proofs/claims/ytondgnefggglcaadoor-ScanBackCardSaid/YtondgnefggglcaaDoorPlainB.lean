/- Sources at the limits: plain facts on their tokens, with no program in sight. No condition. -/
import Derived.Test.YtondgnefggglcaaDoorRefF
namespace Go.Proofs.YtondgnefggglcaaDoor
open Go.RowKit

theorem takeWhile_all (p : UInt8 → Bool) (l : List UInt8) (h : l.all p = true) : l.takeWhile p = l := by
  induction l with
  | nil => rfl
  | cons a r ih =>
    simp only [List.all_cons, Bool.and_eq_true] at h
    simp [h.1, ih h.2]
/-- a source of blanks has no token -/
theorem toks_blank (s : ByteArray) (h : s.data.toList.all blankB = true) : toksFrom s 0 = ([], none) := by
  have e : scanTo blankB s 0 = s.size := by
    unfold scanTo
    rw [List.drop_zero, takeWhile_all _ _ h]
    simp
  refine toksFrom_end s 0 ?_
  rw [← skip_take s _ 0 (Nat.le_refl _), e, skip_end s _ (Nat.le_refl _)]
  omega

/-- one token, or the fault of too long a one at the beginning -/
def limitB (k : Nat) (s : ByteArray) : Bool :=
  match toksFrom s 0 with
  | ([_], none) => decide (k < 2)
  | (_, some (er, pl)) => k == 2 && er == 201 && pl == 0
  | _ => false
def nameT (k : Nat) (b : UInt8) : ByteArray := ⟨(List.replicate (23 + k) b).toArray⟩
def markT (m : UInt8) (k : Nat) (b : UInt8) : ByteArray := ⟨(m :: List.replicate (23 + k) b).toArray⟩
def greatT (k : Nat) : ByteArray := ⟨#[57, 50, 50, 51, 51, 55, 50, 48, 51, 54, 56, 53, 52, 55, 55, 53, 56, 48, UInt8.ofNat (54 + k)]⟩
theorem great_ok : (List.range 3).all (fun k => limitB k (greatT k)) = true := by kernel_rfl
theorem names_ok : (List.range 3).all (fun k => (List.range 26).all fun c => limitB k (nameT k (UInt8.ofNat (97 + c)))) = true := by kernel_rfl
theorem vars_ok : (List.range 3).all (fun k => (List.range 26).all fun c => limitB k (markT 63 k (UInt8.ofNat (97 + c)))) = true := by kernel_rfl
theorem atoms_ok : (List.range 3).all (fun k => (List.range 26).all fun c => limitB k (markT 39 k (UInt8.ofNat (97 + c)))) = true := by kernel_rfl
theorem limit_at {p : Nat → Nat → Bool} (h : (List.range 3).all (fun k => (List.range 26).all fun c => p k c) = true) {k c : Nat} (hk : k < 3) (hc : c < 26) : p k c = true :=
  List.all_eq_true.1 (List.all_eq_true.1 h k (List.mem_range.2 hk)) c (List.mem_range.2 hc)
/-- what that says -/
theorem limitB_low {k : Nat} {s : ByteArray} (h : limitB k s = true) (hk : k < 2) : (toksFrom s 0).2 = none ∧ (toksFrom s 0).1.length = 1 := by
  unfold limitB at h
  split at h
  · rename_i e; rw [e]; exact ⟨rfl, rfl⟩
  · simp only [Bool.and_eq_true, beq_iff_eq] at h; omega
  · cases h
theorem limitB_high {s : ByteArray} (h : limitB 2 s = true) : (toksFrom s 0).2 = some (201, 0) := by
  unfold limitB at h
  split at h
  · exact absurd h (by decide)
  · rename_i e
    simp only [Bool.and_eq_true, beq_iff_eq] at h
    rw [e, h.1.2, h.2]
  · cases h

/-- Pick -/
def PickPost (n : Nat) (w : World) (e : Ending) (w' : World) : Prop := ∃ k : Nat, k < n ∧ e = .returned (.int .i64 k) ∧ w = w'
theorem pickPost_of {n : Nat} {w : World} (x : Int) (h0 : 0 ≤ x) (h1 : x < n) : PickPost n w (.returned (.int .i64 x)) w :=
  ⟨x.toNat, by omega, by rw [Int.toNat_of_nonneg h0], rfl⟩
theorem pick_any (x : Int) (n : Nat) (w : World) (hn : 1 ≤ n) (hn2 : n ≤ 1000000) :
    Calls Tryd.prog 16 #[.int .i64 x, .int .i64 n] w (PickPost n w) := by
  have hn0 : (1 : Int) ≤ n := by omega
  have hn3 : (n : Int) ≤ 1000000 := by omega
  have hlt := Int.tmod_lt_of_pos x (b := (n : Int)) (by omega)
  have hgt : -(n : Int) < x.tmod n := by
    have h := Int.lt_tmod_of_pos x (b := (n : Int)) (by omega)
    exact h
  go_enter Tryd.func16, Tryd.ntmps16
  by_cases hneg : x.tmod n < 0
  · go_wp2
    go_ret
    exact pickPost_of _ (by omega) (by omega)
  · go_wp2
    go_ret
    exact pickPost_of _ (by omega) hlt
end Go.Proofs.YtondgnefggglcaaDoor
