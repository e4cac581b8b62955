/- Several texts joined, each with its own sentence and conditions ahead of it: TurnD, TurnH. -/
import Derived.Test.YtfpohaipmnjflaaGreatDoorMTA
import Derived.Test.YtfpohaipmnjflaaGreatDoorMTB
import Derived.Lib.Repeat
/- turned, where the node is the one (at = 0): by contract. No condition. -/
namespace Go.Proofs.YtfpohaipmnjflaaGreatDoor
open Go.RowKit

theorem rept_any (c : Nat) (hc : c ≤ 1000) : ∃ r : ByteArray, r.size ≤ 1000 ∧ ∀ W, Calls Tryz.prog 22 #[.string ⟨#[97]⟩, .int .i64 (c : Int)] W fun e w' => e = .returned (.string r) ∧ Below W.heap.size W w' := by
  refine ⟨⟨(Lib.repeatL [97] c).toArray⟩, ?_, fun W => Tryz.strings_Repeat ⟨#[97]⟩ c W (by omega) (by show 1 * c ≤ _; omega)⟩
  show (Lib.repeatL [97] c).toArray.size ≤ 1000
  rw [List.size_toArray, Lib.repeatL_length]
  simp; omega
theorem wbs {W5 W W' : World} (h : ∃ x : Wb W5, W = x.1) (hb : Below W.heap.size W W') : ∃ x : Wb W5, W' = x.1 := by
  obtain ⟨x, rfl⟩ := h
  exact ⟨⟨W', x.2.trans (hb.mono x.2.size)⟩, rfl⟩
set_option maxRecDepth 100000 in
set_option maxHeartbeats 4000000 in
theorem turned_here (d : Nat) (T : Tree) (s : Value) (b off q : Nat) (cs : Array Value) (F : Nat → Prop) (how : Nat) (w : World)
    (hb : w.heap[b]? = some (.cells cs 25 (0, 0))) (hin : NodeIn cs off T s) (hf : Fits T) (ho : OwnAt w d T.kids s F) (hF : ∀ x, F x → x < w.heap.size ∧ x ≠ b ∧ x ≠ q) (hq : w.heap[q]? = some (.cells #[.int .i64 0] 3 (0, 0))) (hqb : q ≠ b) (hhow : how < 84) (ht : TxtA T) (hm : manyF d T ≤ 10000) :
    Calls Tryz.prog 7 #[.pointer (some ⟨b, off, none⟩), .pointer (some ⟨q, 0, none⟩), .int .i64 how] w (TurnPost (d + 1) b off q cs F w (2 * manyF d T) 0) := by
  obtain ⟨r1, hr1, hR1⟩ := rept_any 24 (by omega)
  obtain ⟨r2, hr2, hR2⟩ := rept_any 25 (by omega)
  have HR1 := Lib.hid hR1
  have HR2 := Lib.hid hR2
  have HB := Lib.hid hb
  have HIn := Lib.hid hin
  have HQ := Lib.hid hq
  have q0 : w.cell? ⟨q, 0, none⟩ = some (.int .i64 0) := by rw [cell_of_row _ _ _ _ _ _ hq]; rfl
  have hbw : b < w.heap.size := (Array.getElem?_eq_some_iff.1 hb).1
  have hqw : q < w.heap.size := (Array.getElem?_eq_some_iff.1 hq).1
  clear hR1 hR2 hb hin hq
  go_enter Tryz.func7, Tryz.ntmps7
  go_upto_if 12 with fail
  go_cut [] from 6 to 102 (fun wx => TurnedTo (d + 1) b off q cs F w (2 * manyF d T) 0 wx)
  case first =>
    go_wp2_with fail
    refine Calls.mono (HR1.out w) ?_
    rintro e w1 ⟨rfl, hb1⟩
    have HB1 := Lib.hid hb1
    clear hb1 q0
    go_wp2_with fail
    refine Calls.mono (HR2.out w1) ?_
    rintro e w2 ⟨rfl, hb2⟩
    have HB2 := Lib.hid (HB1.out.trans (hb2.mono HB1.out.size))
    clear hb2
    obtain ⟨w4, hw4⟩ : ∃ w4, w4 = (w2.alloc (.cells ((txtX r1 r2).map Value.string).toArray 9)).alloc (.cells (numsX.map (Value.int .i64)).toArray 3) := ⟨_, rfl⟩
    obtain ⟨X0, X1, _⟩ := two_new' w2 (.cells ((txtX r1 r2).map Value.string).toArray 9) (.cells (numsX.map (Value.int .i64)).toArray 3)
    have hb24 := below_two w2 (.cells ((txtX r1 r2).map Value.string).toArray 9) (.cells (numsX.map (Value.int .i64)).toArray 3)
    rw [← hw4] at X0 X1 hb24
    have HB4 := Lib.hid (HB2.out.trans (hb24.mono HB2.out.size))
    have HX0 := Lib.hid X0
    have HX1 := Lib.hid X1
    clear X0 X1 hb24
    go_upto_region 4 with fail
    change Code.wp _ _ _ _ ((w2.alloc (.cells ((txtX r1 r2).map Value.string).toArray 9)).alloc (.cells (numsX.map (Value.int .i64)).toArray 3))
    rw [← hw4]
    clear hw4
    have hb4 := heap_below HB4.out HB.out hbw
    have e : ∀ m u, (nodeCells T s)[m]? = some u → w4.cell? ⟨b, off + m, none⟩ = some u := fun m u hm => by
      rw [cell_of_row _ _ _ _ _ _ hb4]; exact HIn.out m u hm
    have k0 := e 0 _ rfl
    have k1 := e 1 _ rfl
    have k2 := e 2 _ rfl
    have k3 := e 3 _ rfl
    have k4 := e 4 _ rfl
    rw [Nat.add_zero] at k0
    have f0 := frozen_of hb4 off
    have f1 := frozen_of hb4 (off + 1)
    have f2 := frozen_of hb4 (off + 2)
    have f3 := frozen_of hb4 (off + 3)
    have f4 := frozen_of hb4 (off + 4)
    clear hb4 e
    have hh0 : (0 : Int) ≤ how := by omega
    by_cases h18 : how < 18
    · have g18 : (how : Int) < 18 := by omega
      have HA : Hid (TurnedTo (d + 1) b off q cs F w (2 * manyF d T) 0 (w4.setCell ⟨b, off + 0, none⟩ (.int .u8 (how : Int)))) := arm_field (i := 0) (T' := .mk how T.text T.num T.place T.kids) HB4.out HB.out HIn.out ho hF HQ.out hqb (by omega) rfl rfl ⟨by show how < 256; omega, hf.2⟩ (TxtA.mk ht.text ht.kid)
      have hmod : (how : Int) % 256 = how := by omega
      go_wp2_with fail
      go_meet
      case rel => exact HA.out
    have g18 : ¬ ((how : Int) < 18) := by omega
    by_cases h37 : how < 37
    · have g37 : (how : Int) < 37 := by omega
      obtain ⟨j, rfl⟩ : ∃ j, how = j + 18 := ⟨how - 18, by omega⟩
      obtain ⟨x, hx, hxs⟩ := txt_at r1 r2 hr1 hr2 j (by omega)
      have C := RowS.cell (show RowS w4 w2.heap.size (txtX r1 r2) from HX0.out) j x hx
      have HA : Hid (TurnedTo (d + 1) b off q cs F w (2 * manyF d T) 0 (w4.setCell ⟨b, off + 1, none⟩ (.string x))) := arm_field (i := 1) (T' := .mk T.kind x T.num T.place T.kids) HB4.out HB.out HIn.out ho hF HQ.out hqb (by omega) rfl rfl ⟨hf.1, by show x.size ≤ maxLen; unfold maxLen; omega, hf.2.2⟩ (TxtA.mk hxs ht.kid)
      have hj : (j : Int) + 18 - 18 = j := by omega
      have hj1 : (j : Int) < 19 := by omega
      go_wp2_with fail
      go_meet
      case rel => exact HA.out
    have g37 : ¬ ((how : Int) < 37) := by omega
    by_cases h45 : how < 45
    · have g45 : (how : Int) < 45 := by omega
      obtain ⟨j, rfl⟩ : ∃ j, how = j + 37 := ⟨how - 37, by omega⟩
      obtain ⟨z, hz, hz1, hz2⟩ := num_at j (by omega)
      have C : w4.cell? ⟨w2.heap.size + 1, j, none⟩ = some (.int .i64 z) := by rw [cell_of_row _ _ _ _ _ _ HX1.out]; simp [hz]
      have HA : Hid (TurnedTo (d + 1) b off q cs F w (2 * manyF d T) 0 (w4.setCell ⟨b, off + 2, none⟩ (.int .i64 z))) := arm_field (i := 2) (T' := .mk T.kind T.text z T.place T.kids) HB4.out HB.out HIn.out ho hF HQ.out hqb (by omega) rfl rfl ⟨hf.1, hf.2.1, hz1, hz2, hf.2.2.2.2⟩ (TxtA.mk ht.text ht.kid)
      have hj : (j : Int) + 37 - 37 = j := by omega
      have hj1 : (j : Int) < 8 := by omega
      go_wp2_with fail
      go_meet
      case rel => exact HA.out
    have g45 : ¬ ((how : Int) < 45) := by omega
    by_cases h47 : how < 47
    · have g47 : (how : Int) < 47 := by omega
      have HA : Hid (TurnedTo (d + 1) b off q cs F w (2 * manyF d T) 0 (w4.setCell ⟨b, off + 3, none⟩ (.int .i64 (45 - (how : Int))))) := arm_field (i := 3) (T' := .mk T.kind T.text T.num (45 - (how : Int)) T.kids) HB4.out HB.out HIn.out ho hF HQ.out hqb (by omega) rfl rfl ⟨hf.1, hf.2.1, hf.2.2.1, hf.2.2.2.1, by show -9223372036854775808 ≤ 45 - (how : Int); omega, by show 45 - (how : Int) < _; omega⟩ (TxtA.mk ht.text ht.kid)
      go_wp2_with fail
      go_meet
      case rel => exact HA.out
    have g47 : ¬ ((how : Int) < 47) := by omega
    obtain ⟨p, c, rfl⟩ := ho.shape
    obtain ⟨n, hn⟩ : ∃ n, T.kids.length = n := ⟨_, rfl⟩
    have hn2 : n ≤ 10000 := by
      cases d with
      | zero => rw [← hn, ho.1]; exact Nat.zero_le _
      | succ d => rw [manyF_sum] at hm; have := len_le_sumT (manyF d) (manyF_pos1 d) T.kids; omega
    rw [hn] at ho k4 HIn
    by_cases h48 : how < 48
    · have g48 : (how : Int) < 48 := by omega
      have hnc : n ≤ c := own_le ho hn
      have hp := own_addr ho
      have HA0 := Lib.hid (fun m (hm : m ≤ n) W (hW : Below w.heap.size w W) => arm_cut (m := m) hW HB.out HIn.out ho hF HQ.out hqb hn hm hf ht)
      by_cases hn0 : n = 0
      · subst hn0
        have hsl := slice_to p 0 c 0 (by omega) hp
        have hmx : max (0 : Int) (-1) = 0 := by decide
        have C4 := fun x : Wb w4 => x.cell k4
        go_wp2_with fail
        refine RE.wp_region_eff (by kernel_rfl) 15 [] [] (fun _ W => ∃ x : Wb w4, W = x.1) (fun W W' => Below W.heap.size W W') (fun _ _ => undef) (fun _ _ _ => True) (by kernel_rfl) (fun _ _ _ _ _ _ h hb => wbs h hb) (fun _ _ _ _ _ _ _ => trivial) ⟨⟨w4.drew, (Below.refl _ _).drew⟩, rfl⟩ ?_
        simp only [List.take_succ_cons, List.take_zero, List.drop_succ_cons, List.drop_zero]
        repeat (refine RE.wpE_read (fun W => ∃ x : Wb w4, W = x.1) (fun _ _ _ h => h) rfl rfl rfl ⟨⟨w4.drew, (Below.refl _ _).drew⟩, rfl⟩ ?_; go_big_quiet_step (fail); refine wpQuiet_nil ?_)
        refine RE.wpE_nil ?_
        intro W hS hE
        obtain ⟨x, rfl⟩ := hS
        have HA := Lib.hid (HA0.out 0 (by omega) x.1 (HB4.out.trans (x.2.mono HB4.out.size)))
        have hbx := heap_below x.2 (heap_below HB4.out HB.out hbw) (Nat.lt_of_lt_of_le hbw HB4.out.size)
        have kx : x.1.cell? ⟨b, off + 4, none⟩ = some (.slice p 0 c) := C4 x
        have fx := frozen_of hbx (off + 4)
        clear hbx C4 hE k0 k1 k2 k3 k4 f0 f1 f2 f3 f4
        go_wp2_with fail
        go_meet
        case rel => exact HA.out
      · obtain ⟨m, rfl⟩ : ∃ m, n = m + 1 := ⟨n - 1, by omega⟩
        have hsl := slice_to p (m + 1) c m (by omega) hp
        have hm1 : (m : Int) ≤ 10000 := by omega
        have hm2 : (0 : Int) ≤ m := by omega
        have hmx : max (0 : Int) (m : Int) = m := by omega
        have C4 := fun x : Wb w4 => x.cell k4
        go_wp2_with fail
        refine RE.wp_region_eff (by kernel_rfl) 15 [] [] (fun _ W => ∃ x : Wb w4, W = x.1) (fun W W' => Below W.heap.size W W') (fun _ _ => undef) (fun _ _ _ => True) (by kernel_rfl) (fun _ _ _ _ _ _ h hb => wbs h hb) (fun _ _ _ _ _ _ _ => trivial) ⟨⟨w4.drew, (Below.refl _ _).drew⟩, rfl⟩ ?_
        simp only [List.take_succ_cons, List.take_zero, List.drop_succ_cons, List.drop_zero]
        repeat (refine RE.wpE_read (fun W => ∃ x : Wb w4, W = x.1) (fun _ _ _ h => h) rfl rfl rfl ⟨⟨w4.drew, (Below.refl _ _).drew⟩, rfl⟩ ?_; go_big_quiet_step (fail); refine wpQuiet_nil ?_)
        refine RE.wpE_nil ?_
        intro W hS hE
        obtain ⟨x, rfl⟩ := hS
        have HA := Lib.hid (HA0.out m (by omega) x.1 (HB4.out.trans (x.2.mono HB4.out.size)))
        have hbx := heap_below x.2 (heap_below HB4.out HB.out hbw) (Nat.lt_of_lt_of_le hbw HB4.out.size)
        have kx : x.1.cell? ⟨b, off + 4, none⟩ = some (.slice p (m + 1) c) := C4 x
        have fx := frozen_of hbx (off + 4)
        clear hbx C4 hE k0 k1 k2 k3 k4 f0 f1 f2 f3 f4
        go_wp2_with fail
        go_meet
        case rel => exact HA.out
    have g48 : ¬ ((how : Int) < 48) := by omega
    obtain ⟨xs, hown, hsF, Fs, hrow, hFs, hdis⟩ := ho.row
    rw [hn] at hown
    have hone := row_one hn hown.1 hrow
    have HOwn := Lib.hid hown
    have HRow := Lib.hid hrow
    have HOne := Lib.hid hone
    have HFs := Lib.hid hFs
    have HDis := Lib.hid hdis
    have HsF := Lib.hid hsF
    have hn3 : (n : Int) ≤ 10000 := by omega
    clear hown hrow hone hFs hdis hsF
    by_cases h66 : how < 66
    · have g66 : (how : Int) < 66 := by omega
      obtain ⟨j, rfl⟩ : ∃ j, how = j + 48 := ⟨how - 48, by omega⟩
      have hj : (j : Int) + 48 - 48 = j := by omega
      have hj1 : (j : Int) % 256 = j := by omega
      have hj2 : (0 : Int) ≤ j := by omega
      have hj3 : (j : Int) < 18 := by omega
      have C4 := fun x : Kb w4 b => x.cell k4
      have HKb := Lib.hid (back_kb (row := xs ++ leafC 0 ⟨#[]⟩) (Nat.lt_of_lt_of_le hbw HB4.out.size) (fun e => (hF b (HsF.out b e)).2.1 rfl) : ∀ (m s : Nat) (W : World), s ≤ m → (if s = 0 then (∃ x : Wb w4, W = x.1) else BackS w4 p n c (xs ++ leafC 0 ⟨#[]⟩) W) → ∃ x : Kb w4 b, W = x.1)
      go_wp2_with fail
      refine RE.wp_region_eff_any (by kernel_rfl) 11 [7, 9, 10] [10] (fun s W => if s = 0 then (∃ x : Wb w4, W = x.1) else BackS w4 p n c (xs ++ leafC 0 ⟨#[]⟩) W) (BackR w4) (fun i ys => if i = 7 then .agg (leafC j ⟨#[97]⟩).toArray else at0 ys) (phB w4 p n c (leafC 0 ⟨#[]⟩) (xs ++ leafC 0 ⟨#[]⟩)) (by kernel_rfl) (fun _ _ _ s W W' h hb => by split at h; (rw [if_pos (by assumption)]; exact wbs h hb); (rw [if_neg (by assumption)]; exact h.below hb)) (fun _ _ _ _ h _ hR => h.keep hR) ⟨⟨w4.drew, (Below.refl _ _).drew⟩, rfl⟩ ?_
      simp only [List.take_succ_cons, List.take_zero]
      repeat (refine RE.wpE_read (fun W => ∃ x : Kb w4 b, W = x.1) (HKb.out _) rfl rfl rfl ⟨⟨w4.drew, (Below.refl _ _).drew⟩, rfl⟩ ?_; go_big_quiet_step (fail); refine wpQuiet_nil ?_)
      refine RE.wpE_turn rfl rfl ?_ (fun ys7 => ?_)
      · intro W hC hS hE
        refine RE.upon_call 13 _ _ rfl (enters_of Tryz.func13 (by kernel_rfl) rfl) #[.int .u8 (j : Int), .string ⟨#[97]⟩, .slice none 0 0] (by simp [Act.eval]) ((lawOf_any j ⟨#[97]⟩ none 0 0 W).mono ?_)
        rintro e W' ⟨rfl, hb⟩
        exact ⟨_, rfl, [], rfl, hb, BackR.of_below hb, trivial⟩
      simp only [Act.put, List.setIfInBounds_toArray, List.set_cons_zero, List.set_cons_succ, reduceIte]
      repeat (refine RE.wpE_read (fun W => ∃ x : Kb w4 b, W = x.1) (HKb.out _) rfl rfl rfl ⟨⟨w4.drew, (Below.refl _ _).drew⟩, rfl⟩ ?_; go_big_quiet_step (fail); refine wpQuiet_nil ?_)
      refine RE.wpE_turn rfl rfl ?_ (fun ys9 => ?_)
      · intro W hC hS hE
        obtain ⟨s9, _, h9⟩ := hC
        exact upon_leaf 0 ⟨#[]⟩ _ rfl rfl (back_size h9) (fun v W' hb hv => ⟨[v], rfl, hb, BackR.of_below hb, hv⟩)
      simp only [Act.put, List.setIfInBounds_toArray, List.set_cons_zero, List.set_cons_succ, Nat.reduceEqDiff, reduceIte]
      refine RE.wpE_turn rfl rfl ?_ (fun ys10 => ?_)
      · intro W hC hS hE
        obtain ⟨x, rfl⟩ : ∃ x : Wb w4, W = x.1 := hS rfl
        obtain ⟨g9, e9, l9, h9⟩ : Fr1 w4.heap.size (leafC 0 ⟨#[]⟩) x.1 (at0 ys9) := hE 9 ys9 (by kernel_rfl) rfl
        exact upon_back (p := p) (n := n) (c := c) (w4 := w4) (g9 := g9) (xs := xs) _ _ rfl rfl e9 h9 x.2 (owns_below HOwn.out HB4.out) hn2 (fun v' W' h1 h2 h3 => ⟨[v'], rfl, h1, h2, h3⟩)
      simp only [Act.put, List.setIfInBounds_toArray, List.set_cons_zero, List.set_cons_succ, Nat.reduceEqDiff, reduceIte]
      refine RE.wpE_nil ?_
      intro W hS hE
      have hS : BackS w4 p n c (xs ++ leafC 0 ⟨#[]⟩) W := hS
      have hV : BackV w4 p n c (xs ++ leafC 0 ⟨#[]⟩) W (at0 ys10) := hE 10 ys10 rfl
      obtain ⟨g, cap, eg, hg, hC, hownW⟩ := back_end hS hV
      rw [eg]
      clear hS hV hE
      have hbg : b ≠ g := by
        rcases hg with h | h
        · exact fun e => (hF g (HsF.out g h)).2.1 e.symm
        · have := HB4.out.size; omega
      have hbW : W.heap[b]? = some (.cells cs 25 (0, 0)) := (hC.block b (Nat.lt_of_lt_of_le hbw HB4.out.size) (fun e => (hF b (HsF.out b e)).2.1 rfl)).trans (heap_below HB4.out HB.out hbw)
      have hoff : off + 4 < cs.size := HIn.out.lt
      obtain ⟨cur, hcur, hcsz⟩ : ∃ cur, W.heap[g]? = some (.cells cur 25 (0, 0)) ∧ (n + 1) * 5 ≤ cur.size := by
        rcases hownW.2 with ⟨h, _⟩ | ⟨g1, cap1, cur, h, _, hc, h2, h3, h4, h5⟩
        · cases h
        · injection h with e1 _ e3
          injection e1 with e1
          injection e1 with e1
          subst e1; subst e3
          exact ⟨cur, hc, by rw [h4]; exact Nat.mul_le_mul_right 5 h2⟩
      have eL : RE.firstM 16 11 = Lg 0 0 := by kernel_rfl
      change wpAny _ _ _ _ 5 (RE.firstM 16 11) _ _
      rw [eL]
      refine back_tail (s89 := 89) (s96 := 96) (s97 := 97) (s99 := 99) (s1 := 100) (s2 := 101) (s3 := 102) (t := ⟨#[97]⟩) (k := j) rfl rfl rfl rfl rfl rfl rfl rfl rfl rfl rfl rfl rfl rfl rfl rfl rfl rfl rfl rfl ⟨by omega, by omega, by omega, by omega, by omega, by omega, by simp⟩ ?_ rfl rfl rfl rfl hcur hcsz hbW hoff hbg ?_
      · intro i j hi hj
        have hi' : i = 0 ∨ i = 1 ∨ i = 2 := by omega
        have hj' : j = 0 ∨ j = 1 ∨ j = 2 ∨ j = 3 := by omega
        rcases hi' with rfl | rfl | rfl <;> rcases hj' with rfl | rfl | rfl | rfl <;> (show _ = _; kernel_rfl)
      intro W' hB
      have HA : Hid (TurnedTo (d + 1) b off q cs F w (2 * manyF d T) 0 W') := arm_back (k := j) (t := ⟨#[97]⟩) HB4.out HB.out HIn.out hF HQ.out hqb hn ho HOwn.out.1 (by omega) (by decide) HRow.out HsF.out HFs.out HDis.out hf ht hg hC hownW hB.gb hB.bb hB.oth hB.size hB.os hB.tape hB.output
      simp only [fr3, Nat.reduceLeDiff, if_true, Act.put, List.setIfInBounds_toArray, List.set_cons_succ, List.set_cons_zero]
      clear hB C4 k0 k1 k2 k3 k4 f0 f1 f2 f3 f4 hC hownW hbW hcur hcsz eg
      go_wp2_with fail
      go_meet
      case rel => exact HA.out
    · have g66 : ¬ ((how : Int) < 66) := by omega
      obtain ⟨j, rfl⟩ : ∃ j, how = j + 66 := ⟨how - 66, by omega⟩
      have hj : (j : Int) + 66 - 66 = j := by omega
      have hj1 : (j : Int) % 256 = j := by omega
      have hj2 : (0 : Int) ≤ j := by omega
      have hj3 : (j : Int) < 18 := by omega
      have C4 := fun x : Wb w4 => x.cell k4
      go_wp2_with fail
      refine RE.wp_region_eff (by kernel_rfl) 11 [4, 5, 10] [] (fun _ W => ∃ x : Wb w4, W = x.1) (fun W W' => Below W.heap.size W W') (fun i ys => if i = 4 then .agg (leafC j ⟨#[]⟩).toArray else at0 ys) (phF w4.heap.size n (leafC j ⟨#[]⟩) xs) (by kernel_rfl) (fun _ _ _ _ _ _ h hb => wbs h hb) (fun _ _ _ _ h _ hb => h.keep hb) ⟨⟨w4.drew, (Below.refl _ _).drew⟩, rfl⟩ ?_
      simp only [List.take_succ_cons, List.take_zero, List.drop_succ_cons, List.drop_zero]
      repeat (refine RE.wpE_read (fun W => ∃ x : Wb w4, W = x.1) (fun _ _ _ h => h) rfl rfl rfl ⟨⟨w4.drew, (Below.refl _ _).drew⟩, rfl⟩ ?_; go_big_quiet_step (fail); refine wpQuiet_nil ?_)
      refine RE.wpE_turn rfl rfl ?_ (fun ys4 => ?_)
      · intro W hC _ hE
        obtain ⟨s, _, x, rfl⟩ := hC
        refine RE.upon_call 13 _ _ rfl (enters_of Tryz.func13 (by kernel_rfl) rfl) #[.int .u8 (j : Int), .string ⟨#[]⟩, .slice none 0 0] (by simp [Act.eval]) ((lawOf_any j ⟨#[]⟩ none 0 0 x.1).mono ?_)
        rintro e W' ⟨rfl, hb⟩
        exact ⟨_, rfl, [], rfl, hb, hb, trivial⟩
      simp only [Act.put, List.setIfInBounds_toArray, List.set_cons_zero, List.set_cons_succ, reduceIte]
      refine RE.wpE_turn rfl rfl ?_ (fun ys5 => ?_)
      · intro W hC _ hE
        obtain ⟨s, _, x, rfl⟩ := hC
        exact upon_leaf j ⟨#[]⟩ _ rfl rfl x.2.size (fun v W' hb hv => ⟨[v], rfl, hb, hb, hv⟩)
      simp only [Act.put, List.setIfInBounds_toArray, List.set_cons_zero, List.set_cons_succ, Nat.reduceEqDiff, reduceIte]
      repeat (refine RE.wpE_read (fun W => ∃ x : Wb w4, W = x.1) (fun _ _ _ h => h) rfl rfl rfl ⟨⟨w4.drew, (Below.refl _ _).drew⟩, rfl⟩ ?_; go_big_quiet_step (fail); refine wpQuiet_nil ?_)
      refine RE.wpE_turn rfl rfl ?_ (fun ys10 => ?_)
      · intro W hC _ hE
        obtain ⟨s, _, x, rfl⟩ := hC
        obtain ⟨g5, e5, l5, h5⟩ : Fr1 w4.heap.size (leafC j ⟨#[]⟩) x.1 (at0 ys5) := hE 5 ys5 (by kernel_rfl) rfl
        refine upon_front (L := w4.heap.size) (g5 := g5) (p := p) (n := n) (c := c) (lc := leafC j ⟨#[]⟩) (xs := xs) _ _ rfl e5 h5 rfl l5 x.2.size rfl (owns_below (owns_below HOwn.out HB4.out) x.2) hn2 HOne.out (fun g cap W' hb hg hw => ?_)
        exact ⟨[_], rfl, hb, hb, g, cap, rfl, hg, hw⟩
      simp only [Act.put, List.setIfInBounds_toArray, List.set_cons_zero, List.set_cons_succ, Nat.reduceEqDiff, reduceIte]
      refine RE.wpE_nil ?_
      intro W hS hE
      obtain ⟨x, rfl⟩ := hS
      obtain ⟨g, cap, eg, lg, hw⟩ : Fr2 w4.heap.size n (leafC j ⟨#[]⟩ ++ xs) x.1 (at0 ys10) := hE 10 ys10 rfl
      rw [eg] at hw ⊢
      have hWx := HB4.out.trans (x.2.mono HB4.out.size)
      have HA := Lib.hid (arm_front (k := j) (t := ⟨#[]⟩) hWx HB.out HIn.out hF HQ.out hqb hn ho (by omega) (by decide) HRow.out HFs.out HDis.out hf ht (Nat.le_trans HB4.out.size lg) hw)
      have hbx := heap_below x.2 (heap_below HB4.out HB.out hbw) (Nat.lt_of_lt_of_le hbw HB4.out.size)
      have kx : x.1.cell? ⟨b, off + 4, none⟩ = some (.slice p n c) := C4 x
      have fx := frozen_of hbx (off + 4)
      clear hbx C4 hE k0 k1 k2 k3 k4 f0 f1 f2 f3 f4 hw eg hWx
      go_wp2_with fail
      go_meet
      case rel => exact HA.out
  case rest =>
    have hto := hcut
    obtain ⟨T', s', cs', F', h1, h2, h3, h4, h5, h6, h7, h8, h9, h10, h11⟩ := hcut
    obtain ⟨p', c', rfl⟩ := h7.shape
    have q1 : wc.cell? ⟨q, 0, none⟩ = some (.int .i64 0) := by rw [cell_of_row _ _ _ _ _ _ h9]; rfl
    have qf := frozen_of h9 0
    obtain ⟨wd, hwd⟩ : ∃ wd, wd = wc.setCell ⟨q, 0, none⟩ (.int .i64 (-1)) := ⟨_, rfl⟩
    have HT : Hid (TurnedTo (d + 1) b off q cs F w (2 * manyF d T) (-1) wd) := by
      show TurnedTo _ _ _ _ _ _ _ _ _ _
      rw [hwd]; exact turned_at (a' := -1) hto hqb (fun x hx => (hF x hx).2.2) hqw
    have hqd : wd.heap[q]? = some (.cells #[.int .i64 (-1)] 3 (0, 0)) := by rw [hwd, heap_set h9 0 _]; rfl
    have hbd : wd.heap[b]? = some (.cells cs' 25 (0, 0)) := by rw [hwd]; exact (Below.heap_setCell _ _ _ _ (show b ≠ q from fun e => hqb e.symm)).trans h2
    have q2 : wd.cell? ⟨q, 0, none⟩ = some (.int .i64 (-1)) := by rw [cell_of_row _ _ _ _ _ _ hqd]; rfl
    have s2 : wd.cell? ⟨b, off + 4, none⟩ = some (.slice p' T'.kids.length c') := by rw [cell_of_row _ _ _ _ _ _ hbd]; exact h4 4 _ rfl
    obtain ⟨n', hn'⟩ : ∃ n', T'.kids.length = n' := ⟨_, rfl⟩
    rw [hn'] at s2
    clear hto h1 h2 h3 h4 h5 h6 h7 h8 h9 h10 h11 hqd hbd hn'
    go_upto_region 17 with fail
    change Code.wp _ _ _ _ (wc.setCell ⟨q, 0, none⟩ (.int .i64 (-1)))
    rw [← hwd]
    clear hwd q1 qf
    go_wp2_with fail
    refine wp_loop_rounds 1 ?_
    rw [rounds_succ]
    by_cases hn0 : (0 : Int) < n'
    · go_wp2_with fail
      go_returns
      exact ⟨rfl, -1, by omega, by omega, HT.out⟩
    · go_wp2_with fail
      go_returns
      exact ⟨rfl, -1, by omega, by omega, HT.out⟩
end Go.Proofs.YtfpohaipmnjflaaGreatDoor
/- turned: by contract, for every tree. No condition. -/
namespace Go.Proofs.YtfpohaipmnjflaaGreatDoor
open Go.RowKit

theorem turn_any : ∀ d, TurnK d := by
  intro d
  induction d with
  | zero =>
    intro T s b off q cs F a how w hb hin hf ho hF hq hqb ha0 ha1 hhow ht hm
    by_cases h : a = 0
    · subst h
      exact turned_here 0 T s b off q cs F how w hb hin hf ho hF hq hqb hhow ht hm
    · exact turned_on 0 (fun d' h => by omega) T s b off q cs F a how w hb hin hf ho hF hq hqb (by omega) ha1 hhow ht hm
  | succ d ih =>
    intro T s b off q cs F a how w hb hin hf ho hF hq hqb ha0 ha1 hhow ht hm
    by_cases h : a = 0
    · subst h
      exact turned_here (d + 1) T s b off q cs F how w hb hin hf ho hF hq hqb hhow ht hm
    · exact turned_on (d + 1) (fun d' h => by injection h with h; subst h; exact ih) T s b off q cs F a how w hb hin hf ho hF hq hqb (by omega) ha1 hhow ht hm
end Go.Proofs.YtfpohaipmnjflaaGreatDoor
