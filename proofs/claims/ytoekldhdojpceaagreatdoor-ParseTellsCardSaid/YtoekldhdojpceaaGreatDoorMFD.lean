/- Lists of nodes lie apart, if they do: the walk. Condition: at most 100000 lists, each of at most 20000 nodes. -/
import Derived.Test.YtoekldhdojpceaaGreatDoorMFB
namespace Go.Proofs.YtoekldhdojpceaaGreatDoor
open Go.RowKit

set_option maxRecDepth 100000 in
set_option maxHeartbeats 20000000 in
theorem flatNodes_any {w : World} {B b0 cap0 : Nat} {c0 : Array Value} {D : List (Value × Nat)} (hI : FIn B b0 c0 D) (hF : Fm B b0 c0 D (fun _ _ _ => True) w) (hB : B ≤ w.heap.size) :
    Calls Tryz.prog 90 #[.slice (some ⟨b0, 0, none⟩) D.length cap0] w (FlatPost D w) := by
  obtain ⟨N, hN⟩ : ∃ N, D.length = N := ⟨_, rfl⟩
  have hN1 : N ≤ 100000 := by rw [← hN]; exact hI.N
  rw [hN]
  obtain ⟨ti, ti0, ti1, ti2, ti3⟩ := info_parts infoNode
  have HI := Lib.hid hI
  have HF := Lib.hid hF
  have HN := Lib.hid hN
  clear hI hF hN
  go_enter Tryz.func90, Tryz.ntmps90
  go_wp2
  go_loopw [3] (M1Rel B b0 c0 D w) (fun i _ => N - (intOf i).toNat)
  case atStart => exact ⟨_, 0, rfl, Nat.zero_le _, rfl, Chg.refl _ _, hB, HF.out.1, fun k v n h => (HF.out.2 k v n h).imp fun xs h => ⟨h.1, fun h => absurd h (Nat.not_lt_zero _), fun _ => rfl⟩⟩
  case round =>
    obtain ⟨W1, k, rfl, hk, rfl, hb, hs, hm⟩ := hrel
    rw [HN.out] at hk
    have hk0 : (0 : Int) ≤ k := by omega
    have hNi : (N : Int) ≤ 100000 := by omega
    have HM := Lib.hid hm
    have HB := Lib.hid hb
    clear hm hb
    by_cases hlt : k < N
    · obtain ⟨⟨v, n⟩, hd⟩ : ∃ d, D[k]? = some d := ⟨_, List.getElem?_eq_getElem (by rw [HN.out]; exact hlt)⟩
      have hn := HI.out.n k v n hd
      have HD := Lib.hid hd
      have hkl : (k : Int) < N := by omega
      have hn0 : (0 : Int) ≤ n := by omega
      have hn1 : (n : Int) ≤ 20000 := by omega
      clear hd
      go_wp2
      go_loopw [4] (M2Rel B b0 c0 D w k n) (fun i _ => n - (intOf i).toNat)
      case atStart => exact ⟨_, 0, rfl, Nat.zero_le _, rfl, HB.out, hs, HM.out⟩
      case round =>
        obtain ⟨W2, i, rfl, hi, rfl, hb2, hs2, hm2⟩ := hrel
        have hi0 : (0 : Int) ≤ i := by omega
        obtain ⟨xs, hown, hq⟩ := hm2.2 k v n HD.out
        obtain ⟨p, c, rfl⟩ := owns_shape hown
        have hv : W2.cell? ⟨b0, k, none⟩ = some (.slice p n c) := by
          rw [cell_of_row _ _ _ _ _ _ hm2.1]; exact HI.out.at_ k _ n HD.out
        have HM2 := Lib.hid hm2
        have HB2 := Lib.hid hb2
        have HO := Lib.hid hown
        have HQ := Lib.hid hq
        clear hm2 hb2 hown hq
        by_cases hlt2 : i < n
        · have hil : (i : Int) < n := by omega
          obtain ⟨g, c', hsl, hnc⟩ := owns_pos HO.out (by omega)
          injection hsl with h1 h2 h3
          subst h1
          clear h2 h3
          have hxi : i * 5 + 5 ≤ xs.length := by rw [HO.out.1]; omega
          have HV := fun x : Wb W2 => x.cell hv
          have hki : k ≤ 1000000 := by omega
          have hii : i ≤ 1000000 := by omega
          go_wp2
          refine RE.wp_region_eff (by kernel_rfl) 9 [7] [7] (fun _ W => ∃ x : Wb W2, W = x.1) (fun _ _ => True) (fun _ _ => .agg #[.int .u8 0, .string ⟨#[]⟩, .int .i64 0, .int .i64 (mkA k i), .slice none 0 0]) (fun _ _ _ => True) (by kernel_rfl) (fun i h1 h2 => by rw [h1] at h2; cases h2) (fun _ _ _ _ _ _ _ => trivial) ⟨⟨W2.drew, (Below.refl _ _).drew⟩, rfl⟩ ?_
          simp only [List.take_succ_cons, List.take_zero, List.drop_succ_cons, List.drop_zero]
          have hcl : ∀ (n s : Nat) (W : World), s ≤ n → (∃ x : Wb W2, W = x.1) → ∃ x : Wb W2, W = x.1 := fun _ _ _ _ h => h
          have HCl := Lib.hid hcl
          clear hcl
          repeat (refine RE.wpE_read (fun W => ∃ x : Wb W2, W = x.1) (HCl.out _) rfl rfl rfl ⟨⟨W2.drew, (Below.refl _ _).drew⟩, rfl⟩ ?_; go_big_quiet_step (fail); refine wpQuiet_nil ?_)
          refine RE.wpE_turn rfl rfl ?_ (fun xs4 => ?_)
          · intro W _ hS _
            obtain ⟨x, rfl⟩ := hS rfl
            refine RE.upon_call 136 _ _ rfl (enters_of Tryz.func136 (by kernel_rfl) rfl) #[.int .i64 k, .int .i64 i] (by simp [Act.eval]) ((mkNode_any k i x.1 hki hii).mono ?_)
            rintro e W' ⟨rfl, hb'⟩
            exact ⟨_, rfl, [], rfl, ⟨⟨W', x.2.trans (hb'.mono x.2.size)⟩, rfl⟩, trivial, trivial⟩
          simp only [Act.put, List.setIfInBounds_toArray, List.set_cons_zero, List.set_cons_succ]
          repeat (refine RE.wpE_read (fun W => ∃ x : Wb W2, W = x.1) (HCl.out _) rfl rfl rfl ⟨⟨W2.drew, (Below.refl _ _).drew⟩, rfl⟩ ?_; go_big_quiet_step (fail); refine wpQuiet_nil ?_)
          refine RE.wpE_nil ?_
          rintro W3 ⟨⟨W3, hb3⟩, rfl⟩ _
          have hst := M2Rel.step HI.out HD.out hlt2 HM2.out hb3
          have ho3 := owns_below HO.out hb3
          have z0 := ho3.frozenAt (i * 5)
          have z1 := ho3.frozenAt (i * 5 + 1)
          have z2 := ho3.frozenAt (i * 5 + 2)
          have z3 := ho3.frozenAt (i * 5 + 3)
          have z4 := ho3.frozenAt (i * 5 + 4)
          obtain ⟨⟨a0, y0⟩, ⟨a1, y1⟩, ⟨a2, y2⟩, ⟨a3, y3⟩, ⟨a4, y4⟩⟩ := cells_there ho3 (i * 5) (by omega)
          have HS := Lib.hid hst
          have hbw : Chg (Dg D) w W3 := HB2.out.trans (Chg.of_below hb3)
          have hgB : Dg D g ∨ w.heap.size ≤ g := Or.inl ⟨k, _, n, HD.out, rfl⟩
          have hbw5 : Chg (Dg D) w (stored5 W3 g (i * 5) (.int .u8 0) (.string ⟨#[]⟩) (.int .i64 0) (.int .i64 (mkA k i)) (.slice none 0 0)) := ((((hbw.setCell (p := ⟨g, i * 5, none⟩) hgB _).setCell (p := ⟨g, i * 5 + 1, none⟩) hgB _).setCell (p := ⟨g, i * 5 + 2, none⟩) hgB _).setCell (p := ⟨g, i * 5 + 3, none⟩) hgB _).setCell (p := ⟨g, i * 5 + 4, none⟩) hgB _
          have hs3 : B ≤ W3.heap.size := Nat.le_trans hs2 hb3.size
          have HBW := Lib.hid hbw5
          clear hst ho3 hbw hbw5 hb3 HV hxi
          go_wp2
          refine ⟨⟨_, i + 1, rfl, by omega, by go_num, HBW.out, ?_, HS.out⟩, by simp [intOf]; omega⟩
          simpa [World.setCell] using hs3
        · obtain rfl : i = n := by omega
          clear hlt2
          go_wp2
          refine ⟨⟨_, k + 1, rfl, by rw [HN.out]; omega, by go_num, HB2.out, hs2, HM2.out.1, fun j u m hj => ?_⟩, by simp [intOf]; omega⟩
          obtain ⟨ys, ho, hq⟩ := HM2.out.2 j u m hj
          refine ⟨ys, ho, fun h => ?_, fun _ => rfl⟩
          by_cases hjk : j = k
          · subst hjk
            have hjn : m = i := by have := HD.out; rw [hj] at this; simp only [Option.some.injEq, Prod.mk.injEq] at this; exact this.2
            subst hjn
            have := hq.2 rfl
            rwa [List.take_of_length_le (by rw [ho.1]; exact Nat.le_refl _)] at this
          · exact hq.1 (by omega)
    · obtain rfl : N = k := by omega
      clear hlt
      obtain ⟨C, hC, hmk⟩ := make_rows N hN1 W1
      obtain ⟨W3, hW3⟩ : ∃ W3, W3 = W1.alloc (.cells C 23) := ⟨_, rfl⟩
      have hM3 : Fm B b0 c0 D (fun j n xs => xs = mrow j n) W3 := by
        rw [hW3]
        refine ⟨(heap_alloc_old W1 _ (Array.getElem?_eq_some_iff.1 HM.out.1).1).trans HM.out.1, fun j v n hj => ?_⟩
        obtain ⟨xs, ho, hq⟩ := HM.out.2 j v n hj
        exact ⟨xs, ho.alloc _, hq.1 (by have := (List.getElem?_eq_some_iff.1 hj).1; rw [HN.out] at this; exact this)⟩
      have hb3 : Chg (Dg D) w W3 := by rw [hW3]; exact HB.out.trans (Chg.of_below ((Below.refl _ W1).alloc (Nat.le_refl _) _))
      have hs3 : B ≤ W3.heap.size := by rw [hW3]; simp; omega
      have hg3 : W3.heap[W1.heap.size]? = some (.cells C 23 (0, 0)) := by rw [hW3]; exact heap_alloc_new W1 _
      obtain ⟨b1, hb1⟩ : ∃ b1, W1.heap.size = b1 := ⟨_, rfl⟩
      have hb1w : w.heap.size ≤ b1 := by rw [← hb1]; exact HB.out.size
      have hne : b0 ≠ b1 := by have := (Array.getElem?_eq_some_iff.1 HM.out.1).1; omega
      rw [hb1] at hmk hg3
      have HM3 := Lib.hid hM3
      have HB3 := Lib.hid hb3
      have HG3 := Lib.hid hg3
      have HC := Lib.hid hC
      clear hM3 hb3 hg3 hC hb1
      go_wp2
      rw [← hW3]
      clear hW3
      go_loopw [6] (A3Rel B b0 b1 c0 D w) (fun i _ => N - (intOf i).toNat)
      case atStart => exact ⟨_, 0, rfl, Nat.zero_le _, rfl, HB3.out, hs3, HM3.out, C, HG3.out, HC.out.trans HN.out.symm, fun j v n h => absurd h (Nat.not_lt_zero _)⟩
      case round =>
        obtain ⟨W4, k, rfl, hk4, rfl, hb4, hs4, hm4, hg4⟩ := hrel
        rw [HN.out] at hk4
        have hk40 : (0 : Int) ≤ k := by omega
        have HM4 := Lib.hid hm4
        have HB4 := Lib.hid hb4
        have HG4 := Lib.hid hg4
        clear hm4 hb4 hg4 HM3 HB3 HG3 HM HB HF
        by_cases hlt : k < N
        · obtain ⟨⟨v, n⟩, hd⟩ : ∃ d, D[k]? = some d := ⟨_, List.getElem?_eq_getElem (by rw [HN.out]; exact hlt)⟩
          have hn := HI.out.n k v n hd
          obtain ⟨xs, hown, hq⟩ := HM4.out.2 k v n hd
          obtain rfl : xs = mrow k n := hq
          obtain ⟨p, c, rfl⟩ := owns_shape hown
          have hv : W4.cell? ⟨b0, k, none⟩ = some (.slice p n c) := by
            rw [cell_of_row _ _ _ _ _ _ HM4.out.1]; exact HI.out.at_ k _ n hd
          have HD := Lib.hid hd
          have HO := Lib.hid hown
          have hkl : (k : Int) < N := by omega
          have hn0 : (0 : Int) ≤ n := by omega
          have hn1 : (n : Int) ≤ 20000 := by omega
          clear hd hown
          go_wp2
          go_loopw [7, 8] (A4Rel B b0 c0 D w W4 k n (.slice p n c)) (fun _ i _ => 64 - (intOf i).toNat)
          case atStart => exact ⟨_, 0, rfl, Nat.zero_le _, rfl, HB4.out, hs4, HM4.out.1, Chg.refl _ _, HO.out, HO.out, Or.inl rfl⟩
          case round =>
            obtain ⟨W5, i, rfl, hi, rfl, hb5, hs5, hr5⟩ := hrel
            have hi0 : (0 : Int) ≤ i := by omega
            have hi64 : (i : Int) ≤ 64 := by omega
            have HB5 := Lib.hid hb5
            have HR5 := Lib.hid hr5
            have hv5 : W5.cell? ⟨b0, k, none⟩ = some (.slice p n c) := by
              rw [cell_of_row _ _ _ _ _ _ hr5.b0]; exact HI.out.at_ k _ n HD.out
            clear hb5 hr5 hv
            by_cases hlt5 : i < 64
            · have hil : (i : Int) < 64 := by omega
              have hmk : ∀ W, Calls Tryz.prog 136 #[.int .i64 k, .int .i64 ((n : Int) + i)] W fun e w' => e = .returned (.agg #[.int .u8 0, .string ⟨#[]⟩, .int .i64 0, .int .i64 (mkA k (n + i)), .slice none 0 0]) ∧ Below W.heap.size W w' := fun W => by
                have h := mkNode_any k (n + i) W (by omega) (by omega)
                rwa [Int.natCast_add] at h
              have HMk := Lib.hid hmk
              clear hmk
              go_wp2_with fail
              refine (HMk.out W5).mono ?_
              rintro e W6 ⟨rfl, hb6⟩
              obtain ⟨W7, hW7⟩ : ∃ W7, W7 = W6.alloc (.cells (mkC k (n + i)).toArray 25) := ⟨_, rfl⟩
              have hb7 : Below W5.heap.size W5 W7 := by rw [hW7]; exact hb6.alloc hb6.size _
              have hr7 := HR5.out.below hb7
              have hnews : ∀ j u, (mkC k (n + i))[j]? = some u → W7.cell? ((⟨W6.heap.size, 0, none⟩ : Addr).add j) = some u := by rw [hW7]; exact news_new W6 _ _
              have hs7 : B ≤ W7.heap.size := Nat.le_trans hs5 hb7.size
              have hW7' : W6.alloc (.cells #[.int .u8 0, .string ⟨#[]⟩, .int .i64 0, .int .i64 (mkA k (n + i)), .slice none 0 0] 25) = W7 := hW7.symm
              have HR7 := Lib.hid hr7
              have HNw := Lib.hid hnews
              have HB7 := Lib.hid (HB5.out.trans (Chg.of_below hb7))
              have HW7 := Lib.hid hW7'
              clear hb6 hb7 hr7 hnews hW7 hW7'
              go_wp2_with (at_builtin; go_must (rw [HW7.out]; refine wpList_append_both _ rfl (.tmp 57) (.tmp 67) 23 rfl B 25 ti _ 5 64 Tryz.underlying23 ti0 ti1 ti2 ti3 rfl (by decide) u7 (n + i) (mrow k (n + i)) rfl HR7.out.ri ⟨W6.heap.size, 0, none⟩ 1 1 (mkC k (n + i)) rfl rfl HNw.out (by simp [Value.oneCell', mkC, nodeCells]) (by unfold maxLen; omega) (by omega) hs7 (by decide) ?_); intro v8 W8 hown8 hgone8)
              have hnx := HR7.out.next hown8 hgone8
              have hb8 := gone_chg HB7.out (fun g hg => by
                rcases HR7.out.or with h | ⟨g', h, h2⟩
                · exact Or.inl ⟨k, _, n, HD.out, h.symm.trans hg⟩
                · rw [hg] at h; injection h with h; have := HB4.out.size; exact Or.inr (by omega)) hgone8
              have hs8 : B ≤ W8.heap.size := by
                rcases hgone8 with ⟨_, _, _, _, h⟩ | ⟨_, _, h⟩
                · exact Nat.le_trans hs7 h.size
                · exact Nat.le_trans hs7 h.size
              refine ⟨⟨W8, i + 1, rfl, by omega, by go_num, hb8, hs8, ⟨hnx.1, hnx.2.1, ?_, hnx.2.2.1, hnx.2.2.2⟩⟩, by simp [intOf]; omega⟩
              rw [← Nat.add_assoc, mrow_succ]
              exact hown8
            · obtain rfl : i = 64 := by omega
              clear hlt5
              obtain ⟨q, cq, rfl⟩ := owns_shape HR5.out.ri
              obtain ⟨c1, hc1, hcs1, _⟩ := HG4.out
              have hv4 : (Value.slice p n c).ownBlock ≠ some b1 := owns_not HO.out hc1
              have hb1 : W5.heap[b1]? = some (.cells c1 23 (0, 0)) := (HR5.out.chg.block b1 (Array.getElem?_eq_some_iff.1 hc1).1 hv4).trans hc1
              have z0 := frozen5 hb1 k
              obtain ⟨a0, y0⟩ : ∃ a, W5.cell? ⟨b1, k, none⟩ = some a := ⟨_, (cell_of_row _ _ _ _ _ _ hb1).trans (Array.getElem?_eq_getElem (by rw [hcs1, HN.out]; exact hlt))⟩
              have hnx := gs_next (k := k) (q := fun j n ys => ys = mrow j (n + 64)) HI.out hne HM4.out HG4.out HD.out HR5.out.chg HR5.out.rv HR5.out.ri rfl HR5.out.or
              have hbB := HB5.out.setCell (p := ⟨b1, k, none⟩) (Or.inr hb1w) (.slice q (n + 64) cq)
              have hsB : B ≤ (W5.setCell ⟨b1, k, none⟩ (.slice q (n + 64) cq)).heap.size := by simpa [World.setCell] using hs5
              have HNx := Lib.hid hnx
              have HBB := Lib.hid hbB
              clear hnx hbB hc1 hv4 hb1 hcs1
              go_wp2_with fail
              exact ⟨⟨_, k + 1, rfl, by rw [HN.out]; omega, by go_num, HBB.out, hsB, HNx.out.1, HNx.out.2⟩, by simp [intOf]; omega⟩
        · obtain rfl : N = k := by omega
          clear hlt
          go_wp2
          go_loopw [9] (LookRel N W4) (fun i _ => N - (intOf i).toNat)
          case atStart => exact ⟨_, 0, rfl, Nat.zero_le _, rfl, Below.refl _ _⟩
          case round =>
            obtain ⟨W5, k, rfl, hk5, rfl, hb5⟩ := hrel
            have hk50 : (0 : Int) ≤ k := by omega
            have HB5 := Lib.hid hb5
            clear hb5
            by_cases hlt : k < N
            · obtain ⟨⟨v, n⟩, hd⟩ : ∃ d, D[k]? = some d := ⟨_, List.getElem?_eq_getElem (by rw [HN.out]; exact hlt)⟩
              have hn := HI.out.n k v n hd
              obtain ⟨xs, hown, hq⟩ := HM4.out.2 k v n hd
              obtain rfl : xs = mrow k n := hq
              obtain ⟨p, c, rfl⟩ := owns_shape hown
              obtain ⟨c1, hc1, hcs1, hg1⟩ := HG4.out
              obtain ⟨v', ys, hv', hown', rfl, _⟩ := hg1 k _ n hlt hd
              obtain ⟨g', c', rfl, hc'⟩ := owns_pos hown' (by omega)
              have HD := Lib.hid hd
              have HO := Lib.hid hown
              have HO' := Lib.hid hown'
              have HV := Lib.hid ((cell_of_row _ b0 k _ _ _ HM4.out.1).trans (HI.out.at_ k _ n hd))
              have HV' := Lib.hid ((cell_of_row _ b1 k _ _ _ hc1).trans hv')
              have hkl : (k : Int) < N := by omega
              have hn0 : (0 : Int) ≤ n := by omega
              have hn1 : (n : Int) ≤ 20000 := by omega
              clear hd hown hown' hc1 hcs1 hg1 hv'
              go_wp2
              go_loopw [10] (LookRel (n + 64) W4) (fun i _ => (n + 64) - (intOf i).toNat)
              case atStart => exact ⟨_, 0, rfl, Nat.zero_le _, rfl, HB5.out⟩
              case round =>
                obtain ⟨W6, i, rfl, hi6, rfl, hb6⟩ := hrel
                have hi0 : (0 : Int) ≤ i := by omega
                have hv6 := (hb6.cell (p := ⟨b0, k, none⟩) (Array.getElem?_eq_some_iff.1 HM4.out.1).1).trans HV.out
                have hv6' := (hb6.cell (p := ⟨b1, k, none⟩) (World.block_lt_of_cell? _ _ HV'.out)).trans HV'.out
                have HB6 := Lib.hid hb6
                by_cases hlt6 : i < n + 64
                · have hil : (i : Int) < (n : Int) + 64 := by omega
                  have hd6 : decide ((i : Int) < (n : Int) + 64) = true := decide_eq_true hil
                  obtain ⟨m0, m1, m2, m3, m4⟩ := mark_cells (owns_below HO'.out hb6) ⟨[], (List.append_nil _).symm⟩ hlt6 hlt6
                  have HMk : Hid (∀ W : World, Calls Tryz.prog 136 #[.int .i64 k, .int .i64 i] W fun e w' => e = .returned (.agg #[.int .u8 0, .string ⟨#[]⟩, .int .i64 0, .int .i64 (mkA k i), .slice none 0 0]) ∧ Below W.heap.size W w') := fun W => mkNode_any k i W (by omega) (by omega)
                  have HSm : Hid (∀ W : World, Calls Tryz.prog 48 #[.agg #[.int .u8 0, .string ⟨#[]⟩, .int .i64 0, .int .i64 (mkA k i), .slice none 0 0], .agg #[.int .u8 0, .string ⟨#[]⟩, .int .i64 0, .int .i64 (mkA k i), .slice none 0 0]] W fun e w' => e = .returned (.bool true) ∧ Below W.heap.size W w') := fun W => sameMark k i W (by omega) (by omega)
                  have M0 := fun x : Wb W6 => x.cell m0
                  have M1 := fun x : Wb W6 => x.cell m1
                  have M2 := fun x : Wb W6 => x.cell m2
                  have M3 := fun x : Wb W6 => x.cell m3
                  have M4 := fun x : Wb W6 => x.cell m4
                  have V := fun x : Wb W6 => x.cell hv6
                  have V' := fun x : Wb W6 => x.cell hv6'
                  clear m0 m1 m2 m3 m4
                  by_cases hltn : i < n
                  · have hiln : (i : Int) < n := by omega
                    have hdn : decide ((i : Int) < (n : Int)) = true := decide_eq_true hiln
                    obtain ⟨g, c2, hsl, hnc⟩ := owns_pos HO.out (by omega)
                    injection hsl with h1 h2 h3
                    subst h1
                    clear h2 h3
                    obtain ⟨m0, m1, m2, m3, m4⟩ := mark_cells (owns_below HO.out hb6) ⟨[], (List.append_nil _).symm⟩ hltn hltn
                    have K0 := fun x : Wb W6 => x.cell m0
                    have K1 := fun x : Wb W6 => x.cell m1
                    have K2 := fun x : Wb W6 => x.cell m2
                    have K3 := fun x : Wb W6 => x.cell m3
                    have K4 := fun x : Wb W6 => x.cell m4
                    clear m0 m1 m2 m3 m4 hb6
                    go_wp2_with fail
                    refine wp_region_below (by kernel_rfl) (by kernel_rfl) ?_
                    repeat (go_big_quiet_step (first | (go_at_call 136; exact Calls.below_of (HMk.out _)) | (go_at_call 48; exact Calls.below_of (HSm.out _))))
                    refine wpQuiet_nil ?_
                    intro W7 hw'
                    have hb7 := wb_below hw'
                    have HB7 := Lib.hid (HB6.out.trans (hb7.mono HB6.out.size))
                    clear hw' hb7 M0 M1 M2 M3 M4 V V' K0 K1 K2 K3 K4 hv6 hv6'
                    go_wp2_with fail
                    exact ⟨⟨_, i + 1, rfl, by omega, by go_num, HB7.out⟩, by simp [intOf]; omega⟩
                  · have hiln : ¬ (i : Int) < n := by omega
                    have hdn : decide ((i : Int) < (n : Int)) = false := decide_eq_false hiln
                    clear hb6
                    go_wp2_with fail
                    refine wp_region_below (by kernel_rfl) (by kernel_rfl) ?_
                    repeat (go_big_quiet_step (first | (go_at_call 136; exact Calls.below_of (HMk.out _)) | (go_at_call 48; exact Calls.below_of (HSm.out _))))
                    refine wpQuiet_nil ?_
                    intro W7 hw'
                    have hb7 := wb_below hw'
                    have HB7 := Lib.hid (HB6.out.trans (hb7.mono HB6.out.size))
                    clear hw' hb7 M0 M1 M2 M3 M4 V V' hv6 hv6'
                    go_wp2_with fail
                    exact ⟨⟨_, i + 1, rfl, by omega, by go_num, HB7.out⟩, by simp [intOf]; omega⟩
                · obtain rfl : i = n + 64 := by omega
                  clear hlt6 hb6
                  go_wp2_with fail
                  exact ⟨⟨_, k + 1, rfl, by omega, by go_num, HB6.out⟩, by simp [intOf]; omega⟩
            · obtain rfl : N = k := by omega
              clear hlt
              have HM5 : Hid (Fm B b0 c0 D qM W5) := ⟨(HB5.out.block b0 (Array.getElem?_eq_some_iff.1 HM4.out.1).1).trans HM4.out.1, fun j v n h => (HM4.out.2 j v n h).imp fun xs hx => ⟨owns_below hx.1 HB5.out, hx.2⟩⟩
              have hBW5 := HB4.out.trans (Chg.of_below HB5.out)
              have hs5 : B ≤ W5.heap.size := Nat.le_trans hs4 HB5.out.size
              obtain ⟨c1, hc1, hcs1, _⟩ := HG4.out
              have HG5 : Hid (Gs B b1 D 0 (fun j n ys => ∃ zs, ys = mrow j n ++ zs) W5) := ⟨c1, (HB5.out.block b1 (Array.getElem?_eq_some_iff.1 hc1).1).trans hc1, hcs1, fun j v n h => absurd h (Nat.not_lt_zero _)⟩
              have HBW5 := Lib.hid hBW5
              clear hBW5 hc1 hcs1
              go_wp2
              go_loopw [11] (A7Rel B b0 b1 c0 D w) (fun i _ => N - (intOf i).toNat)
              case atStart => exact ⟨_, 0, rfl, Nat.zero_le _, rfl, HBW5.out, hs5, HM5.out, HG5.out⟩
              case round =>
                obtain ⟨W6, k, rfl, hk6, rfl, hb6, hs6, hm6, hg6⟩ := hrel
                rw [HN.out] at hk6
                have hk60 : (0 : Int) ≤ k := by omega
                have HM6 := Lib.hid hm6
                have HB6 := Lib.hid hb6
                have HG6 := Lib.hid hg6
                clear hm6 hb6 hg6 HM5 HBW5 HG5 HM4 HB4 HG4
                by_cases hlt : k < N
                · obtain ⟨⟨v, n⟩, hd⟩ : ∃ d, D[k]? = some d := ⟨_, List.getElem?_eq_getElem (by rw [HN.out]; exact hlt)⟩
                  have hn := HI.out.n k v n hd
                  obtain ⟨xs, hown, hq⟩ := HM6.out.2 k v n hd
                  obtain rfl : xs = mrow k n := hq
                  obtain ⟨p, c, rfl⟩ := owns_shape hown
                  have HD := Lib.hid hd
                  have HO := Lib.hid hown
                  have hkl : (k : Int) < N := by omega
                  have hn0 : (0 : Int) ≤ n := by omega
                  have hn1 : (n : Int) ≤ 20000 := by omega
                  obtain ⟨C6, hC6, hC61, hmk6⟩ := make_many W6
                  obtain ⟨W7, hW7⟩ : ∃ W7, W7 = W6.alloc (.cells C6 25) := ⟨_, rfl⟩
                  have hb7 : Below W6.heap.size W6 W7 := by rw [hW7]; exact (Below.refl _ _).alloc (Nat.le_refl _) _
                  have hown7 : W7.ownsRow W6.heap.size 25 5 (.slice (some ⟨W6.heap.size, 0, none⟩) 64 64) 64 C6.toList := by rw [hW7]; exact World.ownsRow_lit W6 C6 64 (Nat.le_refl _) (by unfold maxLen; omega) hC6
                  have HB7 := Lib.hid hb7
                  have HO7 := Lib.hid hown7
                  have HC6 := Lib.hid hC61
                  obtain ⟨M, hM⟩ : ∃ M, M = W6.heap.size := ⟨_, rfl⟩
                  rw [← hM] at hmk6
                  have hMl : W6.heap.size ≤ M := by omega
                  have HMq := Lib.hid hM
                  clear hd hown hb7 hown7 hC61 hC6 hM
                  go_wp2
                  rw [← hW7]
                  go_loopw [13] (A8Rel W6) (fun i _ => 64 - (intOf i).toNat)
                  case atStart => exact ⟨_, 0, _, rfl, Nat.zero_le _, rfl, HB7.out, HO7.out, HC6.out⟩
                  case round =>
                    obtain ⟨W8, i, xs, rfl, hi8, rfl, hb8, hown8, hone8⟩ := hrel
                    have hi0 : (0 : Int) ≤ i := by omega
                    have hi64 : (i : Int) ≤ 64 := by omega
                    rw [← HMq.out] at hown8
                    have HB8 := Lib.hid hb8
                    have HO8 := Lib.hid hown8
                    have HOne := Lib.hid hone8
                    by_cases hlt8 : i < 64
                    · have hil : (i : Int) < 64 := by omega
                      have hmk : ∀ W, Calls Tryz.prog 136 #[.int .i64 ((k : Int) + N), .int .i64 i] W fun e w' => e = .returned (.agg #[.int .u8 0, .string ⟨#[]⟩, .int .i64 0, .int .i64 (mkA (k + N) i), .slice none 0 0]) ∧ Below W.heap.size W w' := fun W => by
                        have h := mkNode_any (k + N) i W (by omega) (by omega)
                        rwa [Int.natCast_add] at h
                      have HMk := Lib.hid hmk
                      clear hmk hb8 hown8 hone8
                      go_wp2_with fail
                      refine (HMk.out W8).mono ?_
                      rintro e W9 ⟨rfl, hb9⟩
                      have ho9 := owns_below HO8.out hb9
                      have z0 := ho9.frozenAt (i * 5)
                      have z1 := ho9.frozenAt (i * 5 + 1)
                      have z2 := ho9.frozenAt (i * 5 + 2)
                      have z3 := ho9.frozenAt (i * 5 + 3)
                      have z4 := ho9.frozenAt (i * 5 + 4)
                      obtain ⟨⟨a0, y0⟩, ⟨a1, y1⟩, ⟨a2, y2⟩, ⟨a3, y3⟩, ⟨a4, y4⟩⟩ := cells_there ho9 (i * 5) (by omega)
                      have hst := owns_stored5 ho9 (i * 5) (.int .u8 0) (.string ⟨#[]⟩) (.int .i64 0) (.int .i64 (mkA (k + N) i)) (.slice none 0 0)
                      have hone := set5_one HOne.out (i * 5) (v0 := .int .u8 0) (v1 := .string ⟨#[]⟩) (v2 := .int .i64 0) (v3 := .int .i64 (mkA (k + N) i)) (v4 := .slice none 0 0) rfl rfl rfl rfl rfl
                      have hbw : Below W6.heap.size W6 W9 := HB8.out.trans (hb9.mono HB8.out.size)
                      have hbw5 : Below W6.heap.size W6 (stored5 W9 M (i * 5) (.int .u8 0) (.string ⟨#[]⟩) (.int .i64 0) (.int .i64 (mkA (k + N) i)) (.slice none 0 0)) := ((((hbw.setCell (p := ⟨M, i * 5, none⟩) hMl _).setCell (p := ⟨M, i * 5 + 1, none⟩) hMl _).setCell (p := ⟨M, i * 5 + 2, none⟩) hMl _).setCell (p := ⟨M, i * 5 + 3, none⟩) hMl _).setCell (p := ⟨M, i * 5 + 4, none⟩) hMl _
                      have HS := Lib.hid hst.1
                      have HOn := Lib.hid hone
                      have HBW := Lib.hid hbw5
                      clear hst hone hbw hbw5 hb9 ho9
                      go_wp2_with fail
                      refine ⟨⟨_, i + 1, _, rfl, by omega, by go_num, HBW.out, ?_, HOn.out⟩, by simp [intOf]; omega⟩
                      rw [← HMq.out]
                      exact HS.out
                    · obtain rfl : i = 64 := by omega
                      clear hlt8
                      have hr8 : Gr4 B b0 c0 W6 k n (.slice p n c) (.slice p n c) 0 W8 := Gr4.below ⟨HM6.out.1, Chg.refl _ _, HO.out, HO.out, Or.inl rfl⟩ HB8.out
                      have hv8 : W8.cell? ⟨b0, k, none⟩ = some (.slice p n c) := by
                        rw [cell_of_row _ _ _ _ _ _ hr8.b0]; exact HI.out.at_ k _ n HD.out
                      have hs8 : B ≤ W8.heap.size := Nat.le_trans hs6 HB8.out.size
                      have HBW8 := Lib.hid (HB6.out.trans (Chg.of_below HB8.out))
                      have HR8 := Lib.hid hr8
                      have hnews : ∀ j u, xs[j]? = some u → W8.cell? ((⟨M, 0, none⟩ : Addr).add j) = some u := HO8.out.cells rfl
                      have HNw := Lib.hid hnews
                      have hxl : xs.length = 64 * 5 := HO8.out.1
                      have HXl := Lib.hid hxl
                      clear hb8 hown8 hone8 hr8 hnews hxl
                      go_wp2_with (at_builtin; go_must (refine wpList_append_both _ rfl (.tmp 148) (.tmp 149) 23 rfl B 25 ti _ 5 64 Tryz.underlying23 ti0 ti1 ti2 ti3 rfl (by decide) (.slice p n c) n (mrow k n) rfl HR8.out.rv ⟨M, 0, none⟩ 64 64 xs rfl HXl.out HNw.out HOne.out (by unfold maxLen; omega) (by omega) hs8 (by decide) ?_); intro v9 W9 hown9 hgone9; obtain ⟨q9, cq9, rfl, z9, ⟨a9, y9⟩, HNx⟩ := after7 HI.out hne hb1w HM6.out HG6.out HD.out HR8.out HBW8.out hs8 hown9 hgone9; clear hown9 hgone9)
                      exact ⟨⟨_, k + 1, rfl, by rw [HN.out]; omega, by go_num, HNx.out.2.2.1, HNx.out.2.2.2, HNx.out.1, HNx.out.2.1⟩, by simp [intOf]; omega⟩
                · obtain rfl : N = k := by omega
                  clear hlt
                  go_wp2
                  go_loopw [14] (LookRel N W6) (fun i _ => N - (intOf i).toNat)
                  case atStart => exact ⟨_, 0, rfl, Nat.zero_le _, rfl, Below.refl _ _⟩
                  case round =>
                    obtain ⟨W7, k, rfl, hk7, rfl, hb7⟩ := hrel
                    have hk70 : (0 : Int) ≤ k := by omega
                    have HB7 := Lib.hid hb7
                    clear hb7
                    by_cases hlt : k < N
                    · obtain ⟨⟨v, n⟩, hd⟩ : ∃ d, D[k]? = some d := ⟨_, List.getElem?_eq_getElem (by rw [HN.out]; exact hlt)⟩
                      have hn := HI.out.n k v n hd
                      obtain ⟨xs, hown, hq⟩ := HM6.out.2 k v n hd
                      obtain rfl : xs = mrow k n := hq
                      obtain ⟨p, c, rfl⟩ := owns_shape hown
                      obtain ⟨c1, hc1, hcs1, hg1⟩ := HG6.out
                      obtain ⟨v', ys, hv', hown', hys, _⟩ := hg1 k _ n hlt hd
                      obtain ⟨g', c', rfl, hc'⟩ := owns_pos hown' (by omega)
                      have HD := Lib.hid hd
                      have HO := Lib.hid hown
                      have HO' := Lib.hid hown'
                      have HYs := Lib.hid hys
                      have HV := Lib.hid ((cell_of_row _ b0 k _ _ _ HM6.out.1).trans (HI.out.at_ k _ n hd))
                      have HV' := Lib.hid ((cell_of_row _ b1 k _ _ _ hc1).trans hv')
                      have hkl : (k : Int) < N := by omega
                      have hn0 : (0 : Int) ≤ n := by omega
                      have hn1 : (n : Int) ≤ 20000 := by omega
                      have hv7 := (HB7.out.cell (p := ⟨b0, k, none⟩) (Array.getElem?_eq_some_iff.1 HM6.out.1).1).trans HV.out
                      clear hd hown hown' hc1 hcs1 hg1 hv' hys
                      go_wp2
                      go_loopw [15] (LookRel n W6) (fun i _ => n - (intOf i).toNat)
                      case atStart => exact ⟨_, 0, rfl, Nat.zero_le _, rfl, HB7.out⟩
                      case round =>
                        obtain ⟨W8, i, rfl, hi8, rfl, hb8⟩ := hrel
                        have hi0 : (0 : Int) ≤ i := by omega
                        have hv8 := (hb8.cell (p := ⟨b0, k, none⟩) (Array.getElem?_eq_some_iff.1 HM6.out.1).1).trans HV.out
                        have hv8' := (hb8.cell (p := ⟨b1, k, none⟩) (World.block_lt_of_cell? _ _ HV'.out)).trans HV'.out
                        have HB8 := Lib.hid hb8
                        clear hv7
                        by_cases hlt8 : i < n
                        · have hil : (i : Int) < n := by omega
                          have hd8 : decide ((i : Int) < (n : Int)) = true := decide_eq_true hil
                          obtain ⟨m0, m1, m2, m3, m4⟩ := mark_cells (owns_below HO'.out hb8) HYs.out hlt8 (by omega)
                          have HMk : Hid (∀ W : World, Calls Tryz.prog 136 #[.int .i64 k, .int .i64 i] W fun e w' => e = .returned (.agg #[.int .u8 0, .string ⟨#[]⟩, .int .i64 0, .int .i64 (mkA k i), .slice none 0 0]) ∧ Below W.heap.size W w') := fun W => mkNode_any k i W (by omega) (by omega)
                          have HSm : Hid (∀ W : World, Calls Tryz.prog 48 #[.agg #[.int .u8 0, .string ⟨#[]⟩, .int .i64 0, .int .i64 (mkA k i), .slice none 0 0], .agg #[.int .u8 0, .string ⟨#[]⟩, .int .i64 0, .int .i64 (mkA k i), .slice none 0 0]] W fun e w' => e = .returned (.bool true) ∧ Below W.heap.size W w') := fun W => sameMark k i W (by omega) (by omega)
                          have M0 := fun x : Wb W8 => x.cell m0
                          have M1 := fun x : Wb W8 => x.cell m1
                          have M2 := fun x : Wb W8 => x.cell m2
                          have M3 := fun x : Wb W8 => x.cell m3
                          have M4 := fun x : Wb W8 => x.cell m4
                          have V := fun x : Wb W8 => x.cell hv8
                          have V' := fun x : Wb W8 => x.cell hv8'
                          clear m0 m1 m2 m3 m4
                          obtain ⟨g, c2, hsl, hnc⟩ := owns_pos HO.out (by omega)
                          injection hsl with h1 h2 h3
                          subst h1
                          clear h2 h3
                          obtain ⟨m0, m1, m2, m3, m4⟩ := mark_cells (owns_below HO.out hb8) ⟨[], (List.append_nil _).symm⟩ hlt8 hlt8
                          have K0 := fun x : Wb W8 => x.cell m0
                          have K1 := fun x : Wb W8 => x.cell m1
                          have K2 := fun x : Wb W8 => x.cell m2
                          have K3 := fun x : Wb W8 => x.cell m3
                          have K4 := fun x : Wb W8 => x.cell m4
                          have hlt64 : i < n + 64 := by omega
                          have hil64 : (i : Int) < (n : Int) + 64 := by omega
                          clear m0 m1 m2 m3 m4 hb8
                          go_wp2_with fail
                          refine wp_region_below (by kernel_rfl) (by kernel_rfl) ?_
                          repeat (go_big_quiet_step (first | (go_at_call 136; exact Calls.below_of (HMk.out _)) | (go_at_call 48; exact Calls.below_of (HSm.out _))))
                          refine wpQuiet_nil ?_
                          intro W9 hw'
                          have hb9 := wb_below hw'
                          have HB9 := Lib.hid (HB8.out.trans (hb9.mono HB8.out.size))
                          clear hw' hb9 M0 M1 M2 M3 M4 V V' K0 K1 K2 K3 K4 hv8 hv8'
                          go_wp2_with fail
                          exact ⟨⟨_, i + 1, rfl, by omega, by go_num, HB9.out⟩, by simp [intOf]; omega⟩
                        · obtain rfl : i = n := by omega
                          clear hlt8 hb8
                          go_wp2_with fail
                          exact ⟨⟨_, k + 1, rfl, by omega, by go_num, HB8.out⟩, by simp [intOf]; omega⟩
                    · obtain rfl : N = k := by omega
                      clear hlt
                      go_wp2
                      go_ret
                      exact ⟨rfl, HB6.out.trans (Chg.of_below HB7.out)⟩
end Go.Proofs.YtoekldhdojpceaaGreatDoor
