/- The reference's look at a node, some kinds more; by contract, given the looks at kids. Conditions: at most 20000 kids a list, texts of at most 72007 bytes. -/
import Derived.Test.YtfpohaipmnjflaaGreatDoorMK
namespace Go.Proofs.YtfpohaipmnjflaaGreatDoor
open Go.RowKit

set_option maxRecDepth 100000 in
set_option maxHeartbeats 2000000 in
theorem rnode_9 (d : Nat) (_HA : Hid (RAllK d)) (_HE : Hid (RExprsK d)) (_HR : Hid (RRuleK d)) (t : ByteArray) (nm pl : Int) (p : Option Addr) (n c : Nat) (ks : List Tree) (B : Nat) (w : World) (_hk : KidsAt w B d ks (.slice p n c)) (_hB : B ≤ w.heap.size) (_hsl : SlimK d ks) (_hts : t.size ≤ 72007) (hn : ks.length = n) :
    Calls Tryz.prog 50 #[.agg #[.int .u8 9, .string t, .int .i64 nm, .int .i64 pl, .slice p n c]] w (BoolPost (okK 9 t nm pl ks d) w) := by
  have hb0 : Below w.heap.size w (w.alloc (.cells #[.int .u8 9, .string t, .int .i64 nm, .int .i64 pl, .slice p n c] 25)) := (Below.refl _ w).alloc (Nat.le_refl _) _
  obtain ⟨b0, b1, b2, b3, b4⟩ := cells5 (heap_alloc_new w (.cells #[.int .u8 9, .string t, .int .i64 nm, .int .i64 pl, .slice p n c] 25))
  have HB := Lib.hid hb0
  have HX := Lib.hid (heap_alloc_new w (.cells #[.int .u8 9, .string t, .int .i64 nm, .int .i64 pl, .slice p n c] 25))
  have HYes := Lib.hid (okK_yes 9 t nm pl ks d)
  have HNo := Lib.hid (okK_no 9 t nm pl ks d)

  have HLen := Lib.hid hn
  clear hb0 _hk _hsl _hts hn
  by_cases hpl : 0 ≤ pl
  · have hpd : decide (0 ≤ pl) = true := by simpa using hpl
    have HPD := Lib.hid hpd
    clear hpd
    cases hn1 : decide ((0 : Int) ≤ nm)
    · have HF := Lib.hid (HNo.out (by rw [show numOk 9 nm = (decide ((0 : Int) ≤ nm) && decide (nm ≤ 2147483647)) from rfl, hn1]; rfl))
      have hl1 : nm < 0 := by simpa using hn1
      have hnz : (nm == 0) = false := by simp; omega
      have hnn : (nm != 0) = true := by show (!(nm == 0)) = true; rw [hnz]; rfl
      clear hn1
      go_enter Tryz.func50, Tryz.ntmps50
      cases het : t.toList.isEmpty
      · go_wp2_with fail
        go_ret
        exact ⟨ret_bool HF.out.symm, HB.out⟩
      · go_wp2_with fail
        go_ret
        exact ⟨ret_bool HF.out.symm, HB.out⟩
    · cases hn2 : decide (nm ≤ (2147483647 : Int))
      · have HF := Lib.hid (HNo.out (by rw [show numOk 9 nm = (decide ((0 : Int) ≤ nm) && decide (nm ≤ 2147483647)) from rfl, hn2]; simp))
        have hl1 : (0 : Int) ≤ nm := by simpa using hn1
        have hl2 : (2147483647 : Int) < nm := by simpa using hn2
        have hnz : (nm == 0) = false := by simp; omega
        have hnn : (nm != 0) = true := by show (!(nm == 0)) = true; rw [hnz]; rfl
        clear hn1 hn2
        go_enter Tryz.func50, Tryz.ntmps50
        cases het : t.toList.isEmpty
        · go_wp2_with fail
          go_ret
          exact ⟨ret_bool HF.out.symm, HB.out⟩
        · go_wp2_with fail
          go_ret
          exact ⟨ret_bool HF.out.symm, HB.out⟩
      · have HOk := Lib.hid (HYes.out (by rw [show numOk 9 nm = (decide ((0 : Int) ≤ nm) && decide (nm ≤ 2147483647)) from rfl, hn1, hn2]; rfl) HPD.out)
        have hl1 : (0 : Int) ≤ nm := by simpa using hn1
        have hl2 : nm ≤ (2147483647 : Int) := by simpa using hn2
        clear HYes HNo hn1 hn2
        go_enter Tryz.func50, Tryz.ntmps50
        cases hnz : (nm == 0)
        · have hnn : (nm != 0) = true := by show (!(nm == 0)) = true; rw [hnz]; rfl
          rw [show textOk 9 t.data.toList ks.length = t.toList.isEmpty from empty_text t] at HOk
          rw [show kidsOk 9 ks = ks.isEmpty from rfl, kids_empty (d - 1) ks n HLen.out, nat_eq_int] at HOk
          cases het : t.toList.isEmpty
          · rw [het] at HOk
            go_wp2_with fail
            go_ret
            exact ⟨ret_bool (by rw [HOk.out]; rfl), HB.out⟩
          · rw [het] at HOk
            go_wp2_with fail
            go_ret
            exact ⟨ret_bool (by rw [HOk.out]; rfl), HB.out⟩
        · have hnn : (nm != 0) = false := by show (!(nm == 0)) = false; rw [hnz]; rfl
          rw [show textOk 9 t.data.toList ks.length = t.toList.isEmpty from empty_text t] at HOk
          rw [show kidsOk 9 ks = ks.isEmpty from rfl, kids_empty (d - 1) ks n HLen.out, nat_eq_int] at HOk
          cases het : t.toList.isEmpty
          · rw [het] at HOk
            go_wp2_with fail
            go_ret
            exact ⟨ret_bool (by rw [HOk.out]; rfl), HB.out⟩
          · rw [het] at HOk
            go_wp2_with fail
            go_ret
            exact ⟨ret_bool (by rw [HOk.out]; rfl), HB.out⟩
  · have hpd : decide (0 ≤ pl) = false := by simpa using hpl
    exact rnode_neg 9 t nm pl p n c w (by omega) _ (HNo.out (by rw [hpd, Bool.and_false]))
set_option maxRecDepth 100000 in
set_option maxHeartbeats 2000000 in
theorem rnode_4 (d : Nat) (_HA : Hid (RAllK d)) (_HE : Hid (RExprsK d)) (HR : Hid (RRuleK d)) (t : ByteArray) (nm pl : Int) (p : Option Addr) (n c : Nat) (ks : List Tree) (B : Nat) (w : World) (hk : KidsAt w B d ks (.slice p n c)) (hB : B ≤ w.heap.size) (hsl : SlimK d ks) (hts : t.size ≤ 72007) (hn : ks.length = n) :
    Calls Tryz.prog 50 #[.agg #[.int .u8 4, .string t, .int .i64 nm, .int .i64 pl, .slice p n c]] w (BoolPost (okK 4 t nm pl ks d) w) := by
  have hb0 : Below w.heap.size w (w.alloc (.cells #[.int .u8 4, .string t, .int .i64 nm, .int .i64 pl, .slice p n c] 25)) := (Below.refl _ w).alloc (Nat.le_refl _) _
  obtain ⟨b0, b1, b2, b3, b4⟩ := cells5 (heap_alloc_new w (.cells #[.int .u8 4, .string t, .int .i64 nm, .int .i64 pl, .slice p n c] 25))
  have HB := Lib.hid hb0
  have HX := Lib.hid (heap_alloc_new w (.cells #[.int .u8 4, .string t, .int .i64 nm, .int .i64 pl, .slice p n c] 25))
  have HYes := Lib.hid (okK_yes 4 t nm pl ks d)
  have HNo := Lib.hid (okK_no 4 t nm pl ks d)
  have HNm := Lib.hid (fun W => rname_any t W hts)
  have HRu := Lib.hid (fun W (hW : Below w.heap.size w W) => HR.out ks _ B W (hk.below (hW.mono hB)) (Nat.le_trans hB hW.size) hsl)
  have HLen := Lib.hid hn
  clear hb0 hk hsl hts hn
  by_cases hpl : 0 ≤ pl
  · have hpd : decide (0 ≤ pl) = true := by simpa using hpl
    have HPD := Lib.hid hpd
    clear hpd
    cases hn1 : decide ((-2147483647 : Int) ≤ nm)
    · have HF := Lib.hid (HNo.out (by rw [show numOk 4 nm = (decide ((-2147483647 : Int) ≤ nm) && decide (nm ≤ 2147483647)) from rfl, hn1]; rfl))
      have hl1 : nm < -2147483647 := by simpa using hn1
      have hnz : (nm == 0) = false := by simp; omega
      have hnn : (nm != 0) = true := by show (!(nm == 0)) = true; rw [hnz]; rfl
      clear hn1
      go_enter Tryz.func50, Tryz.ntmps50
      generalize (namedF t.data.toList && !wordB t.data.toList) = nf at *
      go_wp2_with fail
      refine Calls.mono (HNm.out _) ?_
      rintro e w1 ⟨rfl, hb1⟩
      have HB1 := Lib.hid (HB.out.trans (hb1.mono HB.out.size))
      clear b0 b1 b2 b3 b4
      obtain ⟨b0, b1, b2, b3, b4⟩ := cells5 (heap_below hb1 HX.out (by simp))
      clear hb1
      cases nf
      · go_wp2_with fail
        go_ret
        exact ⟨ret_bool HF.out.symm, HB1.out⟩
      · go_wp2_with fail
        go_ret
        exact ⟨ret_bool HF.out.symm, HB1.out⟩
    · cases hn2 : decide (nm ≤ (2147483647 : Int))
      · have HF := Lib.hid (HNo.out (by rw [show numOk 4 nm = (decide ((-2147483647 : Int) ≤ nm) && decide (nm ≤ 2147483647)) from rfl, hn2]; simp))
        have hl1 : (-2147483647 : Int) ≤ nm := by simpa using hn1
        have hl2 : (2147483647 : Int) < nm := by simpa using hn2
        have hnz : (nm == 0) = false := by simp; omega
        have hnn : (nm != 0) = true := by show (!(nm == 0)) = true; rw [hnz]; rfl
        clear hn1 hn2
        go_enter Tryz.func50, Tryz.ntmps50
        generalize (namedF t.data.toList && !wordB t.data.toList) = nf at *
        go_wp2_with fail
        refine Calls.mono (HNm.out _) ?_
        rintro e w1 ⟨rfl, hb1⟩
        have HB1 := Lib.hid (HB.out.trans (hb1.mono HB.out.size))
        clear b0 b1 b2 b3 b4
        obtain ⟨b0, b1, b2, b3, b4⟩ := cells5 (heap_below hb1 HX.out (by simp))
        clear hb1
        cases nf
        · go_wp2_with fail
          go_ret
          exact ⟨ret_bool HF.out.symm, HB1.out⟩
        · go_wp2_with fail
          go_ret
          exact ⟨ret_bool HF.out.symm, HB1.out⟩
      · have HOk := Lib.hid (HYes.out (by rw [show numOk 4 nm = (decide ((-2147483647 : Int) ≤ nm) && decide (nm ≤ 2147483647)) from rfl, hn1, hn2]; rfl) HPD.out)
        have hl1 : (-2147483647 : Int) ≤ nm := by simpa using hn1
        have hl2 : nm ≤ (2147483647 : Int) := by simpa using hn2
        clear HYes HNo hn1 hn2
        go_enter Tryz.func50, Tryz.ntmps50
        cases hnz : (nm == 0)
        · have hnn : (nm != 0) = true := by show (!(nm == 0)) = true; rw [hnz]; rfl
          rw [show textOk 4 t.data.toList ks.length = (namedF t.data.toList && !wordB t.data.toList) from rfl] at HOk
          rw [show kidsOk 4 ks = rowB ks from rfl] at HOk
          generalize (rowB ks && ks.all (okF (d - 1))) = kk at *
          generalize (namedF t.data.toList && !wordB t.data.toList) = nf at *
          go_wp2_with fail
          refine Calls.mono (HNm.out _) ?_
          rintro e w1 ⟨rfl, hb1⟩
          have HB1 := Lib.hid (HB.out.trans (hb1.mono HB.out.size))
          clear b0 b1 b2 b3 b4
          obtain ⟨b0, b1, b2, b3, b4⟩ := cells5 (heap_below hb1 HX.out (by simp))
          clear hb1
          cases nf
          · go_wp2_with fail
            go_ret
            exact ⟨ret_bool (by rw [HOk.out]; rfl), HB1.out⟩
          · go_wp2_with fail
            refine Calls.mono (HRu.out w1 HB1.out) ?_
            rintro e w2 ⟨rfl, hb2⟩
            have HB2 := Lib.hid (HB1.out.trans (hb2.mono HB1.out.size))
            clear hb2
            go_wp2_with fail
            go_ret
            exact ⟨ret_bool (by rw [HOk.out]; rfl), HB2.out⟩
        · have hnn : (nm != 0) = false := by show (!(nm == 0)) = false; rw [hnz]; rfl
          rw [show textOk 4 t.data.toList ks.length = (namedF t.data.toList && !wordB t.data.toList) from rfl] at HOk
          rw [show kidsOk 4 ks = rowB ks from rfl] at HOk
          generalize (rowB ks && ks.all (okF (d - 1))) = kk at *
          generalize (namedF t.data.toList && !wordB t.data.toList) = nf at *
          go_wp2_with fail
          refine Calls.mono (HNm.out _) ?_
          rintro e w1 ⟨rfl, hb1⟩
          have HB1 := Lib.hid (HB.out.trans (hb1.mono HB.out.size))
          clear b0 b1 b2 b3 b4
          obtain ⟨b0, b1, b2, b3, b4⟩ := cells5 (heap_below hb1 HX.out (by simp))
          clear hb1
          cases nf
          · go_wp2_with fail
            go_ret
            exact ⟨ret_bool (by rw [HOk.out]; rfl), HB1.out⟩
          · go_wp2_with fail
            refine Calls.mono (HRu.out w1 HB1.out) ?_
            rintro e w2 ⟨rfl, hb2⟩
            have HB2 := Lib.hid (HB1.out.trans (hb2.mono HB1.out.size))
            clear hb2
            go_wp2_with fail
            go_ret
            exact ⟨ret_bool (by rw [HOk.out]; rfl), HB2.out⟩
  · have hpd : decide (0 ≤ pl) = false := by simpa using hpl
    exact rnode_neg 4 t nm pl p n c w (by omega) _ (HNo.out (by rw [hpd, Bool.and_false]))
set_option maxRecDepth 100000 in
set_option maxHeartbeats 2000000 in
theorem rnode_16 (d : Nat) (_HA : Hid (RAllK d)) (HE : Hid (RExprsK d)) (_HR : Hid (RRuleK d)) (t : ByteArray) (nm pl : Int) (p : Option Addr) (n c : Nat) (ks : List Tree) (B : Nat) (w : World) (hk : KidsAt w B d ks (.slice p n c)) (hB : B ≤ w.heap.size) (hsl : SlimK d ks) (_hts : t.size ≤ 72007) (hn : ks.length = n) :
    Calls Tryz.prog 50 #[.agg #[.int .u8 16, .string t, .int .i64 nm, .int .i64 pl, .slice p n c]] w (BoolPost (okK 16 t nm pl ks d) w) := by
  have hb0 : Below w.heap.size w (w.alloc (.cells #[.int .u8 16, .string t, .int .i64 nm, .int .i64 pl, .slice p n c] 25)) := (Below.refl _ w).alloc (Nat.le_refl _) _
  obtain ⟨b0, b1, b2, b3, b4⟩ := cells5 (heap_alloc_new w (.cells #[.int .u8 16, .string t, .int .i64 nm, .int .i64 pl, .slice p n c] 25))
  have HB := Lib.hid hb0
  have HX := Lib.hid (heap_alloc_new w (.cells #[.int .u8 16, .string t, .int .i64 nm, .int .i64 pl, .slice p n c] 25))
  have HYes := Lib.hid (okK_yes 16 t nm pl ks d)
  have HNo := Lib.hid (okK_no 16 t nm pl ks d)
  have HTw := Lib.hid (fun W => rtwo_any t W)
  have HEx := Lib.hid (fun W (hW : Below w.heap.size w W) => HE.out ks _ B W (hk.below (hW.mono hB)) (Nat.le_trans hB hW.size) hsl)
  have HLen := Lib.hid hn
  clear hb0 hk hsl _hts hn
  by_cases hpl : 0 ≤ pl
  · have hpd : decide (0 ≤ pl) = true := by simpa using hpl
    have HPD := Lib.hid hpd
    clear hpd
    cases hnm : (nm == 0)
    · exact rnode_num 16 t nm pl p n c w hpl hnm (by omega) (by omega) _ (HNo.out (by rw [show numOk 16 nm = (nm == 0) from rfl, hnm]; rfl))
    · have HOk := Lib.hid (HYes.out (by rw [show numOk 16 nm = (nm == 0) from rfl, hnm]) HPD.out)
      have hnn : (nm != 0) = false := by show (!(nm == 0)) = false; rw [hnm]; rfl
      clear HYes HNo
      go_enter Tryz.func50, Tryz.ntmps50
      rw [show textOk 16 t.data.toList ks.length = ((ks.length == 1 && amongB oneL t.data.toList) || (ks.length == 2 && amongB twoL t.data.toList)) from rfl, HLen.out, show (n == 1) = ((n : Int) == 1) from nat_eq_int n 1, show (n == 2) = ((n : Int) == 2) from nat_eq_int n 2, show kidsOk 16 ks = exprsB ks from rfl] at HOk
      rw [one_texts] at HOk
      generalize (exprsB ks && ks.all (okF (d - 1))) = kk at *
      generalize amongB twoL t.data.toList = tw at *
      cases h1 : ((n : Int) == 1)
      · rw [h1] at HOk
        cases h2 : ((n : Int) == 2)
        · rw [h2] at HOk
          go_wp2_with fail
          go_ret
          exact ⟨ret_bool (by rw [HOk.out]; rfl), HB.out⟩
        · rw [h2] at HOk
          go_wp2_with fail
          refine Calls.mono (HTw.out _) ?_
          rintro e w1 ⟨rfl, hb1⟩
          have HB1 := Lib.hid (HB.out.trans (hb1.mono HB.out.size))
          clear b0 b1 b2 b3 b4
          obtain ⟨b0, b1, b2, b3, b4⟩ := cells5 (heap_below hb1 HX.out (by simp))
          clear hb1
          cases tw
          · go_wp2_with fail
            go_ret
            exact ⟨ret_bool (by rw [HOk.out]; rfl), HB1.out⟩
          · go_wp2_with fail
            refine Calls.mono (HEx.out w1 HB1.out) ?_
            rintro e w2 ⟨rfl, hb2⟩
            have HB2 := Lib.hid (HB1.out.trans (hb2.mono HB1.out.size))
            clear hb2
            go_wp2_with fail
            go_ret
            exact ⟨ret_bool (by rw [HOk.out]; rfl), HB2.out⟩
      · rw [h1] at HOk
        have h2 : ((n : Int) == 2) = false := by simp at h1 ⊢; omega
        cases hd1 : (t.toList == [45])
        · rw [hd1] at HOk
          cases hd2 : (t.toList == [110, 111, 116])
          · rw [hd2, h2] at HOk
            go_wp2_with fail
            go_ret
            exact ⟨ret_bool (by rw [HOk.out]; rfl), HB.out⟩
          · rw [hd2] at HOk
            go_wp2_with fail
            refine Calls.mono (HEx.out _ HB.out) ?_
            rintro e w2 ⟨rfl, hb2⟩
            have HB2 := Lib.hid (HB.out.trans (hb2.mono HB.out.size))
            clear hb2
            go_wp2_with fail
            go_ret
            exact ⟨ret_bool (by rw [HOk.out]; rfl), HB2.out⟩
        · rw [hd1] at HOk
          go_wp2_with fail
          refine Calls.mono (HEx.out _ HB.out) ?_
          rintro e w2 ⟨rfl, hb2⟩
          have HB2 := Lib.hid (HB.out.trans (hb2.mono HB.out.size))
          clear hb2
          go_wp2_with fail
          go_ret
          exact ⟨ret_bool (by rw [HOk.out]; rfl), HB2.out⟩
  · have hpd : decide (0 ≤ pl) = false := by simpa using hpl
    exact rnode_neg 16 t nm pl p n c w (by omega) _ (HNo.out (by rw [hpd, Bool.and_false]))
end Go.Proofs.YtfpohaipmnjflaaGreatDoor
