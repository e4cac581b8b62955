/- ShowBack, the law's walk: it answers true. Condition: the library's tables lie as laid. -/
import Derived.Test.YtineejjdbjdliaaGreatDoorMSW
import Derived.Test.YtineejjdbjdliaaGreatDoorMSB
import Derived.Test.YtineejjdbjdliaaGreatDoorMZK
import Derived.Test.YtineejjdbjdliaaGreatDoorMZB
namespace Go.Proofs.YtineejjdbjdliaaGreatDoor
open Go.RowKit

theorem back_size {d : Nat} {T : Tree} (hs : Slim (d + 3) T) (hk : ∀ t ∈ T.kids, (Lib.itoa t.num).length ≤ 21 ∧ ∀ k ∈ t.kids, (Lib.itoa k.num).length ≤ 21) (hr : rightF (d + 3) T = true) : (progS d T).length ≤ 295321600 := by
  have h1 := progS_len d T hs hk
  have h2 := rightF_many hr
  have h3 : 72100 * manyF (d + 3) T ≤ 72100 * 4096 := Nat.mul_le_mul_left _ h2
  omega
theorem progRes_node {w w' : World} {T : Tree} {sl : Value} (ho : OwnAt w' 30 T.kids sl (Between w.heap.size w'.heap.size)) (hf : Fits T) : NodeAt w' w'.heap.size 30 T (.agg #[.int .u8 T.kind, .string T.text, .int .i64 T.num, .int .i64 T.place, sl]) := ⟨hf, _, rfl, ho.kids fun _ hb => hb.2⟩
set_option maxRecDepth 100000 in
set_option maxHeartbeats 2000000 in
theorem law_showBack (d0 : Nat) (T : Tree) (v : Value) (B : Nat) (w : World) (hv0 : NodeAt w B d0 T v) (hB : B ≤ w.heap.size) (ht : AsciiTab w) (hp : Lib.TabIs Tryz.prog w "internal/strconv.uint64pow10" .u64 Lib.pow10Tab) :
    Calls Tryz.prog 4 #[v] w (BoolPost true w) := by
  obtain ⟨d, hd⟩ : ∃ d, d = d0 + 30 + 3 := ⟨_, rfl⟩
  obtain ⟨d1, hd1⟩ : ∃ d1, d1 = d0 + 30 := ⟨_, rfl⟩
  rw [← hd1] at hd
  have hv : NodeAt w B d T v := by rw [hd, hd1]; exact hv0.deeper (by omega)
  have hv' := hv
  obtain ⟨hf, s, rfl, hks⟩ := hv
  obtain ⟨p, c, rfl, _, _⟩ := hks.rows
  have hdep : Dep d T := dep_of _ _ _ hks
  have hnums : ∀ t ∈ T.kids, (Lib.itoa t.num).length ≤ 21 ∧ ∀ k ∈ t.kids, (Lib.itoa k.num).length ≤ 21 := by
    have h := hks
    rw [hd] at h
    exact nums_ok h
  have hb0 : Below w.heap.size w (w.alloc (.cells #[.int .u8 T.kind, .string T.text, .int .i64 T.num, .int .i64 T.place, .slice p T.kids.length c] 26)) := (Below.refl _ w).alloc (Nat.le_refl _) _
  have hx := heap_alloc_new w (.cells #[.int .u8 T.kind, .string T.text, .int .i64 T.num, .int .i64 T.place, .slice p T.kids.length c] 26)
  have HX := Lib.hid hx
  have HB := Lib.hid hb0
  have HV := Lib.hid (fun W (hW : Below w.heap.size w W) => hv'.below (hW.mono hB))
  have HBW := Lib.hid (fun W (hW : Below w.heap.size w W) => Nat.le_trans hB hW.size)
  have HT := Lib.hid (fun W (hW : Below w.heap.size w W) => ht.below hW)
  have HP := Lib.hid (fun W (hW : Below w.heap.size w W) => (pow_here hp) W hW)
  have HN := Lib.hid (fun W (hW : Below w.heap.size w W) => nodesOf_any d T _ B W 9000 (HV.out W hW) (HBW.out W hW) (by omega) (by omega))
  have HSl := Lib.hid (slim_of d T 9000 (by omega))
  have HF := Lib.hid hf
  have HD := Lib.hid hd
  have HD1 := Lib.hid (show 30 ≤ d by omega)
  have HDep := Lib.hid hdep
  have HNums := Lib.hid hnums
  have HAw := Lib.hid (awake7_any _ (HT.out _ hb0) (HP.out _ hb0))
  clear hb0 hx hks hv' ht hf hp hd hdep hnums
  generalize nodesF d T 9000 = nd at *
  go_enter Tryz.func4, Tryz.ntmps4
  go_wp2_with fail
  refine Calls.mono HAw.out ?_
  rintro e w0 ⟨rfl, hb0⟩
  have HB0 := Lib.hid (HB.out.trans (hb0.mono HB.out.size))
  have HX0 := Lib.hid (heap_below hb0 HX.out (by simp))
  have hx0 := HX0.out
  obtain ⟨b0, b1, b2, b3, b4⟩ := cells5 hx0
  clear hb0 hx0 HAw
  go_wp2_with fail
  refine Calls.mono (HN.out _ HB0.out) ?_
  rintro e w1 ⟨rfl, hb1⟩
  have HB1 := Lib.hid (HB0.out.trans (hb1.mono HB0.out.size))
  have HX1 := Lib.hid (heap_below hb1 HX0.out (Array.getElem?_eq_some_iff.1 HX0.out).1)
  clear b0 b1 b2 b3 b4 hb1
  by_cases h9 : nd ≤ 9000
  · obtain ⟨hmany, hslim⟩ := HSl.out h9
    have HSm := Lib.hid hslim
    have hx1 := HX1.out
    obtain ⟨b0, b1, b2, b3, b4⟩ := cells5 hx1
    clear hmany hslim hx1
    have hS : Calls Tryz.prog 12 #[.agg #[.int .u8 T.kind, .string T.text, .int .i64 T.num, .int .i64 T.place, .slice p T.kids.length c]] w1 fun e w' => e = .returned (.tuple #[.string (showM d1 T).1, .int .i64 (showM d1 T).2]) ∧ Below w1.heap.size w1 w' := by
      have h1 := HV.out w1 HB1.out
      have h2 := HSm.out
      rw [HD.out] at h1 h2
      exact sprog_any d1 T _ _ w1 h1 (HBW.out _ HB1.out) h2 (HT.out w1 HB1.out) (HP.out w1 HB1.out)
    have HS := Lib.hid hS
    clear hS
    obtain ⟨rs, hrs⟩ : ∃ rs, (showM d1 T).1 = rs := ⟨_, rfl⟩
    obtain ⟨re, hre⟩ : ∃ re, (showM d1 T).2 = re := ⟨_, rfl⟩
    rw [hrs, hre] at HS
    have HRs := Lib.hid hrs
    have HRe := Lib.hid hre
    clear hrs hre
    go_wp2_with fail
    refine Calls.mono HS.out ?_
    rintro e w2 ⟨rfl, hb2⟩
    have HB2 := Lib.hid (HB1.out.trans (hb2.mono HB1.out.size))
    have HX2 := Lib.hid (heap_below hb2 HX1.out (Array.getElem?_eq_some_iff.1 HX1.out).1)
    clear b0 b1 b2 b3 b4 hb2
    have hx2 := HX2.out
    obtain ⟨b0, b1, b2, b3, b4⟩ := cells5 hx2
    clear hx2
    have HR := Lib.hid (nodeRight_any d T _ B w2 (HV.out _ HB2.out) (HBW.out _ HB2.out) HSm.out (HT.out _ HB2.out))
    by_cases hr : rightF d T = true
    · rw [hr] at HR
      have hr3 : rightF (d1 + 3) T = true := by rw [← HD.out]; exact hr
      have hd3 : Dep (d1 + 3) T := by rw [← HD.out]; exact HDep.out
      have hs3 : Slim (d1 + 3) T := by rw [← HD.out]; exact HSm.out
      have e1 : rs = mkS (progS d1 T) := by rw [← HRs.out]; unfold showM; rw [if_pos hr3]
      have e2 : re = 0 := by rw [← HRe.out]; unfold showM; rw [if_pos hr3]
      have el : rs.data.toList = progS d1 T := by rw [e1]; exact mkS_list _
      have hlen : rs.size ≤ 295321600 := by
        have h1 := back_size hs3 HNums.out hr3
        rw [← el] at h1
        simpa using h1
      have HBk := Lib.hid (fun (h : rs.size ≤ 16384) => prog_back hr3 hd3 el h)
      have HLen := Lib.hid hlen
      subst e2
      clear e1 el hr3 hd3 hs3 hlen
      clear hr HRs HRe HS
      go_wp2_with fail
      refine Calls.mono HR.out ?_
      rintro e w3 ⟨rfl, hb3⟩
      have HB3 := Lib.hid (HB2.out.trans (hb3.mono HB2.out.size))
      have HX3 := Lib.hid (heap_below hb3 HX2.out (Array.getElem?_eq_some_iff.1 HX2.out).1)
      clear b0 b1 b2 b3 b4 hb3
      go_wp2_with fail
      refine Calls.mono (program_any rs w3 (HT.out _ HB3.out)) ?_
      rintro e w4 ⟨sl, rfl, hb4, ho4, hf4, ht4, _⟩
      have HB4 := Lib.hid (HB3.out.trans (hb4.mono HB3.out.size))
      have HX4 := Lib.hid (heap_below hb4 HX3.out (Array.getElem?_eq_some_iff.1 HX3.out).1)
      obtain ⟨pm, cm, rfl⟩ := ho4.shape
      obtain ⟨m, hm⟩ : ∃ m, (progM rs).1 = m := ⟨_, rfl⟩
      obtain ⟨er, her⟩ : ∃ er, (progM rs).2.1 = er := ⟨_, rfl⟩
      obtain ⟨pl, hpl⟩ : ∃ pl, (progM rs).2.2 = pl := ⟨_, rfl⟩
      rw [hm] at ho4 hf4 ⊢
      rw [her, hpl]
      have hM4 := progRes_node ho4 hf4
      have hEnd : (rs.size ≤ 16384 ∧ er = 0 ∧ Like T m) ∨ (16384 < rs.size ∧ er = 3) := by
        rcases Nat.lt_or_ge 16384 rs.size with h | h
        · right
          refine ⟨h, ?_⟩
          rw [← her]
          unfold progM
          rw [if_pos h]
        · left
          obtain ⟨T', t1, t2⟩ := HBk.out h
          rw [t2] at hm her
          exact ⟨h, her.symm, by rw [← hm]; exact t1⟩
      have HEnd := Lib.hid hEnd
      obtain ⟨w5, hw5⟩ : ∃ w5, w5 = ((w4.alloc (.cells #[.int .u8 m.kind, .string m.text, .int .i64 m.num, .int .i64 m.place, .slice pm m.kids.length cm] 26)).alloc (.cells #[.int .i64 er, .int .i64 pl] 29)) := ⟨_, rfl⟩
      have hb5 : Below w4.heap.size w4 w5 := by rw [hw5]; exact below_two w4 _ _
      obtain ⟨X0, X1, _⟩ := two_new' w4 (.cells #[.int .u8 m.kind, .string m.text, .int .i64 m.num, .int .i64 m.place, .slice pm m.kids.length cm] 26) (.cells #[.int .i64 er, .int .i64 pl] 29)
      rw [← hw5] at X0 X1
      have HB5 := Lib.hid (HB4.out.trans (hb5.mono HB4.out.size))
      have HX5 := Lib.hid (heap_below hb5 HX4.out (Array.getElem?_eq_some_iff.1 HX4.out).1)
      have HM5 := Lib.hid ((hM4.deeper HD1.out).below hb5)
      have HS5 := Lib.hid hb5.size
      obtain ⟨a0, a1, a2, a3, a4⟩ := cells5 X0
      obtain ⟨c0, c1, _, _⟩ := cells2p X1
      obtain ⟨b0, b1, b2, b3, b4⟩ := cells5 HX5.out
      clear hb4 ho4 hf4 ht4 hM4 hEnd hb5 X0 X1 hm her hpl HBk
      go_upto_region 9 with fail
      change Code.wp _ _ _ _ ((w4.alloc (.cells #[.int .u8 m.kind, .string m.text, .int .i64 m.num, .int .i64 m.place, .slice pm m.kids.length cm] 26)).alloc (.cells #[.int .i64 er, .int .i64 pl] 29))
      rw [← hw5]
      clear hw5
      have hsm := HLen.out
      rcases HEnd.out with ⟨h16, he0, hlk⟩ | ⟨h16, he3⟩
      · have h16' : decide ((16384 : Int) < rs.size) = false := by simp; omega
        subst he0
        have HSame := Lib.hid (same_any d T m _ _ B _ w5 (HV.out _ HB5.out) HM5.out (HBW.out _ HB5.out) HS5.out)
        rw [hlk d] at HSame
        clear hlk
        go_wp2_with fail
        refine Calls.mono HSame.out ?_
        rintro e w6 ⟨rfl, hb6⟩
        have HB6 := Lib.hid (HB5.out.trans (hb6.mono HB5.out.size))
        clear a0 a1 a2 a3 a4 c0 c1 b0 b1 b2 b3 b4 hb6
        go_wp2_with fail
        go_ret
        exact ⟨rfl, HB6.out⟩
      · have h16' : (16384 : Int) < rs.size := by omega
        subst he3
        go_wp2_with fail
        go_ret
        exact ⟨rfl, HB5.out⟩
    · have hr' : rightF d T = false := by simpa using hr
      rw [hr'] at HR
      have hr3 : ¬ rightF (d1 + 3) T = true := by rw [← HD.out]; exact hr
      have e1 : rs = ⟨#[]⟩ := by rw [← HRs.out]; unfold showM; rw [if_neg hr3]; rfl
      have e2 : re = 4 := by rw [← HRe.out]; unfold showM; rw [if_neg hr3]
      subst e1 e2
      clear hr hr' hr3 HRs HRe HS
      go_wp2_with fail
      refine Calls.mono HR.out ?_
      rintro e w3 ⟨rfl, hb3⟩
      have HB3 := Lib.hid (HB2.out.trans (hb3.mono HB2.out.size))
      clear b0 b1 b2 b3 b4 hb3
      go_wp2_with fail
      go_ret
      exact ⟨rfl, HB3.out⟩
  · have h9' : 9000 < nd := by omega
    clear h9
    go_wp2_with fail
    go_ret
    exact ⟨rfl, HB1.out⟩
end Go.Proofs.YtineejjdbjdliaaGreatDoor
