/- ScanPlaces, the law's walk: it answers true. Condition: the library's table of blanks lies as laid. -/
import Derived.Test.YtondgnefggglcaaDoorScanN
import Derived.Test.YtondgnefggglcaaDoorPlainA
namespace Go.Proofs.YtondgnefggglcaaDoor
open Go.RowKit

set_option maxRecDepth 100000 in
set_option maxHeartbeats 1000000 in
theorem law_scanPlaces (s : ByteArray) (w : World) (hs : s.size ≤ maxLen) (ht : AsciiTab w) :
    Calls Tryd.prog 7 #[.string s] w fun e w' => e = .returned (.bool true) ∧ Below w.heap.size w w' := by
  unfold maxLen at hs
  go_enter Tryd.func7, Tryd.ntmps7
  go_wp2_with fail
  refine (awake_any w ht).mono ?_
  rintro e w1 ⟨rfl, hb1⟩
  have ht1 := ht.below hb1
  by_cases h3 : s.size ≤ 3000
  · have hi : (s.size : Int) ≤ 3000 := by omega
    go_wp2_with fail
    have hlen : (toksFrom s 0).1.length + 0 ≤ s.size := toks_len s (s.size + 1) 0 (Nat.zero_le _)
    have HO := Lib.hid (tokens_at s w1 (by omega) ht1 _ rfl)
    have HE := Lib.hid (toksFrom_err s 0)
    have HP := Lib.hid (places_toks s _ 0 (Nat.le_refl _) (Nat.zero_le _))
    generalize toksFrom s 0 = o at *
    obtain ⟨l, f⟩ := o
    dsimp only at HO HP HE hlen
    refine HO.out.mono ?_
    rintro e w2 ⟨hb2, (⟨hf, v, rfl, hrow⟩ | ⟨er, pl, hf, rfl⟩)⟩
    · subst hf
      obtain ⟨g, cap, rfl, hg, hB, hc⟩ := lexRow hrow (by omega)
      have hP := HP.out rfl
      obtain ⟨L, hL⟩ : ∃ L, l ++ [(7, ⟨#[]⟩, s.size)] = L := ⟨_, rfl⟩
      obtain ⟨n, hn⟩ : ∃ n, l.length + 1 = n := ⟨_, rfl⟩
      have hLn : L.length = n := by rw [← hL, ← hn]; simp
      have hlast : L[n - 1]? = some (7, ⟨#[]⟩, s.size) := by rw [← hL, ← hn]; simp
      have hb3 : Below w2.heap.size w2 (w2.alloc (.cells #[.int .i64 0, .int .i64 0] 26)) := (Below.refl _ w2).alloc (Nat.le_refl _) _
      rw [hL] at hc hP
      rw [hn]
      have HC := Lib.hid (fun i t (h : L[i]? = some t) => (⟨(World.cell?_of_block (a := ⟨g, i * 3, none⟩) (hb3.block _ hg)).trans (hc i t h).1, (World.cell?_of_block (a := ⟨g, i * 3 + 1, none⟩) (hb3.block _ hg)).trans (hc i t h).2.1, (World.cell?_of_block (a := ⟨g, i * 3 + 2, none⟩) (hb3.block _ hg)).trans (hc i t h).2.2⟩ :
        (w2.alloc (.cells #[.int .i64 0, .int .i64 0] 26)).cell? ⟨g, i * 3, none⟩ = some (.int .u8 t.1) ∧ (w2.alloc (.cells #[.int .i64 0, .int .i64 0] 26)).cell? ⟨g, i * 3 + 1, none⟩ = some (.string t.2.1) ∧ (w2.alloc (.cells #[.int .i64 0, .int .i64 0] 26)).cell? ⟨g, i * 3 + 2, none⟩ = some (.int .i64 t.2.2)))
      have HB := Lib.hid (hb1.trans ((hb2.trans (hb3.mono hb2.size)).mono hb1.size))
      have HLn := Lib.hid hLn
      have HLast := Lib.hid hlast
      have H3 := Lib.hid (heap_alloc_new w2 (.cells #[.int .i64 0, .int .i64 0] 26))
      have hn0 : 1 ≤ n := by omega
      have hn1 : n ≤ 3001 := by omega
      clear hrow hc hb2 hb3 hL hLn hlast hn HO HP hB hg hlen
      have HPl := Lib.hid hP
      clear hP
      go_wp2_with fail
      go_loopw [5, 6] (fun a i wr => ∃ k A nn : Nat, k ≤ n ∧ A ≤ s.size ∧ a = .int .i64 A ∧ i = .int .i64 k ∧ Places s A (L.drop k) ∧ wr = (w2.alloc (.cells #[.int .i64 0, .int .i64 0] 26)).drewN nn) (fun _ i _ => n - (intOf i).toNat)
      case atStart => exact ⟨0, 0, 0, by omega, by omega, rfl, rfl, HPl.out, rfl⟩
      case round =>
        obtain ⟨k, A, nn, hk, hA, rfl, rfl, hpl, rfl⟩ := hrel
        by_cases hlt : k < n
        · obtain ⟨t, ht⟩ : ∃ t, L[k]? = some t := ⟨L[k]'(by rw [HLn.out]; exact hlt), List.getElem?_eq_getElem (by rw [HLn.out]; exact hlt)⟩
          obtain ⟨a1, a2, a3⟩ := HC.out k t ht
          obtain ⟨hk3, he⟩ := List.getElem?_eq_some_iff.1 ht
          rw [List.drop_eq_getElem_cons hk3, he] at hpl
          obtain ⟨kd, tx, p⟩ := t
          obtain ⟨p1, p2, p3, p4, p5⟩ := hpl
          dsimp only at p1 p2 p3 p4 p5 a1 a2 a3
          have HR := Lib.hid p5
          clear p5 he hk3 ht
          have hk0 : (0 : Int) ≤ k := by omega
          have hk1 : (k : Int) < n := by omega
          have hAp : (A : Int) ≤ p := by omega
          have hend : ∀ (x : Int), x = (p + offOf kd + tx.size : Nat) → x ≤ s.size := fun x hx => by omega
          by_cases h35 : offOf kd = 0
          · have b3 : ((kd : Int) == 3) = false := by
              unfold offOf at h35; simp at h35 ⊢; omega
            have b5 : ((kd : Int) == 5) = false := by
              unfold offOf at h35; simp at h35 ⊢; omega
            rw [h35] at p2 p3 HR
            have q2 : (p : Int) + (tx.size : Int) ≤ s.size := by omega
            simp only [Nat.add_zero] at p2 p3 HR
            have hsl : ∀ W, (Instr.slice 9 (.string s) (some (.int .i64 (p : Int))) (some (.int .i64 ((p : Int) + (tx.size : Int)))) none).run Tryd.prog W = .ok (.string tx) W := fun W => by
              rw [run_slice_string W 9 s .i64 .i64 _ _ Tryd.underlying9 (by omega) (by omega) (by omega)]
              have e : ((p : Int) + (tx.size : Int)).toNat = p + tx.size := by omega
              rw [e, Int.toNat_natCast, p3]
            have e0 : ¬ ((p : Int) < A) := by omega
            have e1 : ¬ ((s.size : Int) < (p : Int) + (tx.size : Int)) := by omega
            clear h35 hend p3
            go_wp2
            go_quiet (fail)
            go_wp2
            exact ⟨⟨k + 1, p + tx.size, _, by omega, by omega, by go_num, by go_num, HR.out, rfl⟩, by simp [intOf]; omega⟩
          · have hkd : kd = 3 ∨ kd = 5 := by unfold offOf at h35; simp at h35; omega
            clear h35 hend
            rcases hkd with hkd | hkd
            · have b3 : ((kd : Int) == 3) = true := by rw [hkd]; rfl
              have h35 : offOf kd = 1 := by unfold offOf; rw [hkd]; rfl
              rw [h35] at p2 p3 HR
              have q2 : (p : Int) + 1 + (tx.size : Int) ≤ s.size := by omega
              have hsl : ∀ W, (Instr.slice 9 (.string s) (some (.int .i64 ((p : Int) + 1))) (some (.int .i64 ((p : Int) + 1 + (tx.size : Int)))) none).run Tryd.prog W = .ok (.string tx) W := fun W => by
                rw [run_slice_string W 9 s .i64 .i64 _ _ Tryd.underlying9 (by omega) (by omega) (by omega)]
                have e : ((p : Int) + 1 + (tx.size : Int)).toNat = p + 1 + tx.size := by omega
                have e2 : ((p : Int) + 1).toNat = p + 1 := by omega
                rw [e, e2, p3]
              have e0 : ¬ ((p : Int) < A) := by omega
              have e1 : ¬ ((s.size : Int) < (p : Int) + 1 + (tx.size : Int)) := by omega
              clear h35 p3 hkd
              go_wp2
              go_quiet (fail)
              go_wp2
              exact ⟨⟨k + 1, p + 1 + tx.size, _, by omega, by omega, by go_num, by go_num, HR.out, rfl⟩, by simp [intOf]; omega⟩
            · have b3 : ((kd : Int) == 3) = false := by rw [hkd]; rfl
              have b5 : ((kd : Int) == 5) = true := by rw [hkd]; rfl
              have h35 : offOf kd = 1 := by unfold offOf; rw [hkd]; rfl
              rw [h35] at p2 p3 HR
              have q2 : (p : Int) + 1 + (tx.size : Int) ≤ s.size := by omega
              have hsl : ∀ W, (Instr.slice 9 (.string s) (some (.int .i64 ((p : Int) + 1))) (some (.int .i64 ((p : Int) + 1 + (tx.size : Int)))) none).run Tryd.prog W = .ok (.string tx) W := fun W => by
                rw [run_slice_string W 9 s .i64 .i64 _ _ Tryd.underlying9 (by omega) (by omega) (by omega)]
                have e : ((p : Int) + 1 + (tx.size : Int)).toNat = p + 1 + tx.size := by omega
                have e2 : ((p : Int) + 1).toNat = p + 1 := by omega
                rw [e, e2, p3]
              have e0 : ¬ ((p : Int) < A) := by omega
              have e1 : ¬ ((s.size : Int) < (p : Int) + 1 + (tx.size : Int)) := by omega
              clear h35 p3 hkd
              go_wp2
              go_quiet (fail)
              go_wp2
              exact ⟨⟨k + 1, p + 1 + tx.size, _, by omega, by omega, by go_num, by go_num, HR.out, rfl⟩, by simp [intOf]; omega⟩
        · obtain rfl : k = n := by omega
          obtain ⟨z1, _, z3⟩ := HC.out (k - 1) _ HLast.out
          dsimp only at z1 z3
          have hk1 : (1 : Int) ≤ k := by omega
          clear hpl
          go_wp2
          go_ret
          exact ⟨rfl, below_drewN HB.out _⟩
    · subst hf
      obtain ⟨he0, _⟩ := HE.out er pl rfl
      have hb3 : Below w2.heap.size w2 (w2.alloc (.cells #[.int .i64 er, .int .i64 pl] 26)) := (Below.refl _ w2).alloc (Nat.le_refl _) _
      have HB := Lib.hid (hb1.trans ((hb2.trans (hb3.mono hb2.size)).mono hb1.size))
      obtain ⟨a0, a1, _, _⟩ := cells2 (heap_alloc_new w2 (.cells #[.int .i64 er, .int .i64 pl] 26))
      have e0 : ((er : Int) == 0) = false := by simp; omega
      clear HO HP HE hb2 hb3
      go_wp2_with fail
      go_ret
      exact ⟨rfl, HB.out⟩
  · have hi : 3000 < (s.size : Int) := by omega
    go_wp2_with fail
    go_ret
    exact ⟨rfl, hb1⟩
end Go.Proofs.YtondgnefggglcaaDoor
