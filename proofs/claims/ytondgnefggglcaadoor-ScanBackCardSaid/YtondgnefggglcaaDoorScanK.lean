/- The scanner's iterator, by contract. Conditions: the source has at most 16384 bytes; the library's table of blanks lies as laid. -/
import Derived.Test.YtondgnefggglcaaDoorScanJ
namespace Go.Proofs.YtondgnefggglcaaDoor
open Go.RowKit Go.Shelf
attribute [local go_sem] Oper.semAt_some

/-- what lies behind the iterator's call -/
def AllPost (s : ByteArray) (J : List Tok → World → Prop) (Jx : Nat → Nat → World → Prop) (e : Ending) (W : World) : Prop :=
  (∃ v, e = .returned v) ∧ (((toksFrom s 0).2 = none ∧ J (toksFrom s 0).1 W) ∨ ∃ er pl, (toksFrom s 0).2 = some (er, pl) ∧ Jx er pl W)

/-- what a round answers -/
def YieldPost (R Q : Nat) (s : ByteArray) (k : Nat) (t : Nat × ByteArray × Nat × Nat) (pre : List Tok) (J : List Tok → World → Prop) (Jx : Nat → Nat → World → Prop) (W : World) (e : Ending) (W' : World) : Prop :=
  (t.2.2.1 = 0 ∧ e = .returned (.bool true) ∧ J (pre ++ [(t.1, t.2.1, k)]) W' ∧ ∀ j, Rdr W R Q s j → Rdr W' R Q s j) ∨ (t.2.2.1 ≠ 0 ∧ e = .returned (.bool false) ∧ Jx t.2.2.1 k W')

set_option maxHeartbeats 1000000 in
theorem all1_in (n l Bx R Q : Nat) (s : ByteArray) (hs : s.size ≤ 16384) (hQ : Q ≠ 0) (J : List Tok → World → Prop) (Jx : Nat → Nat → World → Prop)
    (hJ : ∀ pre W W', J pre W → W.grownBy W' (some Q) → J pre W')
    (hJR : ∀ pre W, J pre W → AsciiTab W ∧ W.cell? ⟨Bx, 0, none⟩ = some (.pointer (some ⟨R, 0, none⟩)))
    (hY : ∀ pre k W, (hk : k < s.size) → pre.length ≤ s.size → J pre W → YieldAt Fence.wide (n - 1) Tryd.prog l #[.agg #[.int .u8 (tokenAt s k s[k]).1, .string (tokenAt s k s[k]).2.1, .int .i64 k], .int .i64 (tokenAt s k s[k]).2.2.1] W (YieldPost R Q s k (tokenAt s k s[k]) pre J Jx W))
    (W : World) (hr : Rdr W R Q s 0) (h0 : J [] W) :
    CallsIn Fence.wide n Tryd.prog 23 #[.func (.yield l) #[] #[], .pointer (some ⟨Bx, 0, none⟩)] W (AllPost s J Jx) := by
  have HJ := Lib.hid hJ
  have HJR := Lib.hid hJR
  have HY := Lib.hid hY
  clear hJ hJR hY
  refine callsIn_of_wp Tryd.func23 rfl trivial ?_ rfl
  simp only [Tryd.ntmps23, List.size_toArray, List.length_cons, List.length_nil, Nat.reduceAdd, Nat.reduceSub, Array.replicate_succ, Array.replicate_zero, List.push_toArray, List.append_toArray, List.nil_append, List.cons_append]
  obtain ⟨ht, hbx⟩ := HJR.out _ _ h0
  gi_wp2_with fail
  refine ⟨trivial, (fun h => by cases h), callsIn_wide.2 ((blank_any R Q 0 s W hr (Nat.zero_le _) hs).mono ?_)⟩
  rintro e w1 ⟨rfl, hg1, hr1⟩
  have hj1 := HJ.out _ _ _ h0 hg1
  clear ht hbx
  gi_wp2_with fail
  gi_loopw [5, 20] (fun _ _ wr => ∃ pre k, k ≤ s.size ∧ skip s k = k ∧ Rdr wr R Q s k ∧ J pre wr ∧ pre ++ (toksFrom s k).1 = (toksFrom s 0).1 ∧ (toksFrom s k).2 = (toksFrom s 0).2) (fun _ _ wr => s.size - posOf wr Q)
  case atStart => exact ⟨[], skip s 0, skip_le _ _ _ (Nat.le_refl _) (Nat.zero_le _), skip_skip _ _, hr1, hj1, by rw [toksFrom_skip]; rfl, by rw [toksFrom_skip]⟩
  case round =>
    obtain ⟨pre, k, hk, hsk, hrk, hjk, hp1, hp2⟩ := hrel
    have HSK := Lib.hid hsk
    have HP1 := Lib.hid hp1
    have HP2 := Lib.hid hp2
    clear hsk hp1 hp2 h0 hr hr1 hj1 hg1
    obtain ⟨ht, hbx⟩ := HJR.out _ _ hjk
    obtain ⟨r0, r1, q0, q1, ⟨p, q2⟩, f1, f2, hRl, hQl⟩ := hrk.cells
    gi_wp2_with fail
    refine ⟨trivial, (fun h => by cases h), callsIn_wide.2 ((rlen_any Q k s wr q0 q1 hk hs).mono ?_)⟩
    rintro e w2 ⟨rfl, nd, rfl⟩
    have hb2 : Below wr.heap.size wr (wr.drewN nd) := below_drewN (Below.refl _ _) nd
    have hr2 := hrk.keep hb2
    have hj2 := HJ.out _ _ _ hjk (grown_of_below hb2 _)
    generalize wr.drewN nd = w2 at *
    clear ht hbx r0 r1 q0 q1 q2 f1 f2 hRl hQl
    obtain ⟨ht, hbx⟩ := HJR.out _ _ hj2
    by_cases hlt : k < s.size
    · gi_wp2_with fail
      refine ⟨trivial, (fun h => by cases h), callsIn_wide.2 ((token_any R Q k s w2 hr2 hlt hs ht hQ).mono ?_)⟩
      rintro e w3 ⟨rfl, hg3, hr3⟩
      have hj3 := HJ.out _ _ _ hj2 hg3
      clear ht hbx
      obtain ⟨ht, hbx⟩ := HJR.out _ _ hj3
      have hpl : pre.length ≤ s.size := by
        have h1 := toks_len s (s.size + 1) 0 (Nat.zero_le _)
        have h2 := congrArg List.length HP1.out
        simp only [List.length_append] at h2
        have h3 : (toksFrom s 0).1.length + 0 ≤ s.size := h1
        omega
      have hY := HY.out pre k w3 hlt hpl hj3
      clear hpl
      generalize hT : tokenAt s k s[k] = t at *
      obtain ⟨kd, tx, er, en⟩ := t
      dsimp only at hY hr3 ⊢
      have HT := Lib.hid hT
      clear hT
      obtain ⟨fn, tmps, assign, body, hy, hR⟩ := hY
      have hss : skip s k < s.size := by rw [HSK.out]; exact hlt
      have hE : tokenAt s (skip s k) s[skip s k] = (kd, tx, er, en) := by simp only [HSK.out]; exact HT.out
      have HE := Lib.hid hE
      clear hE
      gi_wp2_with fail
      refine ⟨(fun h => by cases h), hR.mono ?_⟩
      rintro e w4 (⟨her, rfl, hj4, hkeep⟩ | ⟨her, rfl, hjx⟩)
      · have hr4 := hkeep _ hr3
        have HER := Lib.hid her
        clear her hy ht hbx hkeep
        obtain ⟨ht, hbx⟩ := HJR.out _ _ hj4
        have hnx := tokenAt_next s k hlt (by rw [HT.out]; exact HER.out)
        rw [HT.out] at hnx
        obtain ⟨hn1, hn2⟩ : k < en ∧ en ≤ s.size := hnx
        gi_wp2_with fail
        refine ⟨trivial, (fun h => by cases h), callsIn_wide.2 ((blank_any R Q en s w4 hr4 hn2 hs).mono ?_)⟩
        rintro e w5 ⟨rfl, hg5, hr5⟩
        have hj5 := HJ.out _ _ _ hj4 hg5
        have hle := skip_le s _ en (Nat.le_refl _) hn2
        have hge := skip_ge s _ en (Nat.le_refl _)
        clear ht hbx
        have hok := toksFrom_ok s k hss (by rw [HE.out]; exact HER.out)
        rw [HE.out] at hok
        have HOK := Lib.hid hok
        clear hok
        gi_wp2_with fail
        refine ⟨⟨pre ++ [(kd, tx, k)], skip s en, hle, skip_skip _ _, hr5, hj5, ?_, ?_⟩, ?_⟩
        · rw [toksFrom_skip, ← HP1.out, HOK.out]
          simp [HSK.out]
        · rw [toksFrom_skip, ← HP2.out, HOK.out]
        · rw [hr5.pos, hrk.pos]; omega
      · have hbad := toksFrom_bad s k hss (by rw [HE.out]; exact her)
        rw [HE.out] at hbad
        have HB := Lib.hid hbad
        have HER := Lib.hid her
        clear hbad her hy
        gi_wp2_with fail
        refine bodyPost_ret (results_none rfl _ _ _) rfl ?_
        refine ⟨⟨_, rfl⟩, .inr ⟨er, k, ?_, hjx⟩⟩
        rw [← HP2.out, HB.out]
        simp only [HSK.out]
    · have hend := toksFrom_end s k (by rw [HSK.out]; exact hlt)
      have HEND := Lib.hid hend
      clear hend
      gi_wp2_with fail
      go_end0
      refine ⟨⟨_, rfl⟩, .inl ⟨?_, ?_⟩⟩
      · rw [← HP2.out, HEND.out]
      · rw [← HP1.out, HEND.out]
        simpa using hj2
end Go.Proofs.YtondgnefggglcaaDoor
