/- The reference's look at a node, some kinds more; by contract, given the looks at kids. Conditions: at most 20000 kids a list, texts of at most 72007 bytes. -/
import Derived.Test.YtfpohaipmnjflaaGreatDoorMK
namespace Go.Proofs.YtfpohaipmnjflaaGreatDoor
open Go.RowKit

set_option maxRecDepth 100000 in
set_option maxHeartbeats 2000000 in
theorem rnode_2 (d : Nat) (HA : Hid (RAllK d)) (_HE : Hid (RExprsK d)) (_HR : Hid (RRuleK d)) (t : ByteArray) (nm pl : Int) (p : Option Addr) (n c : Nat) (ks : List Tree) (B : Nat) (w : World) (hk : KidsAt w B d ks (.slice p n c)) (hB : B ≤ w.heap.size) (hsl : SlimK d ks) (hts : t.size ≤ 72007) (hn : ks.length = n) :
    Calls Tryz.prog 50 #[.agg #[.int .u8 2, .string t, .int .i64 nm, .int .i64 pl, .slice p n c]] w (BoolPost (okK 2 t nm pl ks d) w) := by
  have hb0 : Below w.heap.size w (w.alloc (.cells #[.int .u8 2, .string t, .int .i64 nm, .int .i64 pl, .slice p n c] 25)) := (Below.refl _ w).alloc (Nat.le_refl _) _
  obtain ⟨b0, b1, b2, b3, b4⟩ := cells5 (heap_alloc_new w (.cells #[.int .u8 2, .string t, .int .i64 nm, .int .i64 pl, .slice p n c] 25))
  have HB := Lib.hid hb0
  have HX := Lib.hid (heap_alloc_new w (.cells #[.int .u8 2, .string t, .int .i64 nm, .int .i64 pl, .slice p n c] 25))
  have HYes := Lib.hid (okK_yes 2 t nm pl ks d)
  have HNo := Lib.hid (okK_no 2 t nm pl ks d)
  have HNm := Lib.hid (fun W => rname_any t W hts)
  have HAl := Lib.hid (fun W (hW : Below w.heap.size w W) => all_lit d HA.out [3] (by decide) (by decide) #[.int .u8 3] rfl 1 rfl ks _ B W 0 n (hk.below (hW.mono hB)) (Nat.le_trans hB hW.size) (Nat.zero_le _) (by rw [hn]; exact Nat.le_refl _) hsl)
  rw [all_all (d - 1) [3] ks n hn] at HAl
  have HLen := Lib.hid hn
  clear hb0 hk hsl hts hn
  by_cases hpl : 0 ≤ pl
  · have hpd : decide (0 ≤ pl) = true := by simpa using hpl
    have HPD := Lib.hid hpd
    clear hpd
    cases hnm : (nm == 0)
    · exact rnode_num 2 t nm pl p n c w hpl hnm (by omega) (by omega) _ (HNo.out (by rw [show numOk 2 nm = (nm == 0) from rfl, hnm]; rfl))
    · have HOk := Lib.hid (HYes.out (by rw [show numOk 2 nm = (nm == 0) from rfl, hnm]) HPD.out)
      have hnn : (nm != 0) = false := by show (!(nm == 0)) = false; rw [hnm]; rfl
      clear HYes HNo
      go_enter Tryz.func50, Tryz.ntmps50
      rw [show textOk 2 t.data.toList ks.length = (namedF t.data.toList && !wordB t.data.toList) from rfl] at HOk
      rw [show kidsOk 2 ks = among [3] ks from rfl] at HOk
      generalize (among [3] ks && ks.all (okF (d - 1))) = kk at *
      generalize (namedF t.data.toList && !wordB t.data.toList) = nf at *
      go_wp2_with fail
      refine Calls.mono (HNm.out _) ?_
      rintro e w1 ⟨rfl, hb1⟩
      have HB1 := Lib.hid (HB.out.trans (hb1.mono HB.out.size))
      clear b0 b1 b2 b3 b4
      obtain ⟨b0, b1, b2, b3, b4⟩ := cells5 (heap_below hb1 HX.out (by simp))
      clear hb1
      cases nf
      · go_wp2_with fail
        go_ret
        exact ⟨ret_bool (by rw [HOk.out]; rfl), HB1.out⟩
      · go_wp2_with fail
        refine Calls.mono (HAl.out w1 HB1.out) ?_
        rintro e w2 ⟨rfl, hb2⟩
        have HB2 := Lib.hid (HB1.out.trans (hb2.mono HB1.out.size))
        clear hb2
        go_wp2_with fail
        go_ret
        exact ⟨ret_bool (by rw [HOk.out]; rfl), HB2.out⟩
  · have hpd : decide (0 ≤ pl) = false := by simpa using hpl
    exact rnode_neg 2 t nm pl p n c w (by omega) _ (HNo.out (by rw [hpd, Bool.and_false]))
set_option maxRecDepth 100000 in
set_option maxHeartbeats 2000000 in
theorem rnode_5 (d : Nat) (HA : Hid (RAllK d)) (_HE : Hid (RExprsK d)) (_HR : Hid (RRuleK d)) (t : ByteArray) (nm pl : Int) (p : Option Addr) (n c : Nat) (ks : List Tree) (B : Nat) (w : World) (hk : KidsAt w B d ks (.slice p n c)) (hB : B ≤ w.heap.size) (hsl : SlimK d ks) (hts : t.size ≤ 72007) (hn : ks.length = n) :
    Calls Tryz.prog 50 #[.agg #[.int .u8 5, .string t, .int .i64 nm, .int .i64 pl, .slice p n c]] w (BoolPost (okK 5 t nm pl ks d) w) := by
  have hb0 : Below w.heap.size w (w.alloc (.cells #[.int .u8 5, .string t, .int .i64 nm, .int .i64 pl, .slice p n c] 25)) := (Below.refl _ w).alloc (Nat.le_refl _) _
  obtain ⟨b0, b1, b2, b3, b4⟩ := cells5 (heap_alloc_new w (.cells #[.int .u8 5, .string t, .int .i64 nm, .int .i64 pl, .slice p n c] 25))
  have HB := Lib.hid hb0
  have HX := Lib.hid (heap_alloc_new w (.cells #[.int .u8 5, .string t, .int .i64 nm, .int .i64 pl, .slice p n c] 25))
  have HYes := Lib.hid (okK_yes 5 t nm pl ks d)
  have HNo := Lib.hid (okK_no 5 t nm pl ks d)
  have HNm := Lib.hid (fun W => rname_any t W hts)
  have HAl := Lib.hid (fun W (hW : Below w.heap.size w W) => all_lit d HA.out [12, 13, 14, 15] (by decide) (by decide) #[.int .u8 12, .int .u8 13, .int .u8 14, .int .u8 15] rfl 4 rfl ks _ B W 0 n (hk.below (hW.mono hB)) (Nat.le_trans hB hW.size) (Nat.zero_le _) (by rw [hn]; exact Nat.le_refl _) hsl)
  rw [all_all (d - 1) [12, 13, 14, 15] ks n hn] at HAl
  have HLen := Lib.hid hn
  clear hb0 hk hsl hts hn
  by_cases hpl : 0 ≤ pl
  · have hpd : decide (0 ≤ pl) = true := by simpa using hpl
    have HPD := Lib.hid hpd
    clear hpd
    cases hnm : (nm == 0)
    · exact rnode_num 5 t nm pl p n c w hpl hnm (by omega) (by omega) _ (HNo.out (by rw [show numOk 5 nm = (nm == 0) from rfl, hnm]; rfl))
    · have HOk := Lib.hid (HYes.out (by rw [show numOk 5 nm = (nm == 0) from rfl, hnm]) HPD.out)
      have hnn : (nm != 0) = false := by show (!(nm == 0)) = false; rw [hnm]; rfl
      clear HYes HNo
      go_enter Tryz.func50, Tryz.ntmps50
      rw [show textOk 5 t.data.toList ks.length = (namedF t.data.toList && !wordB t.data.toList) from rfl] at HOk
      rw [show kidsOk 5 ks = among [12, 13, 14, 15] ks from rfl] at HOk
      generalize (among [12, 13, 14, 15] ks && ks.all (okF (d - 1))) = kk at *
      generalize (namedF t.data.toList && !wordB t.data.toList) = nf at *
      go_wp2_with fail
      refine Calls.mono (HNm.out _) ?_
      rintro e w1 ⟨rfl, hb1⟩
      have HB1 := Lib.hid (HB.out.trans (hb1.mono HB.out.size))
      clear b0 b1 b2 b3 b4
      obtain ⟨b0, b1, b2, b3, b4⟩ := cells5 (heap_below hb1 HX.out (by simp))
      clear hb1
      cases nf
      · go_wp2_with fail
        go_ret
        exact ⟨ret_bool (by rw [HOk.out]; rfl), HB1.out⟩
      · go_wp2_with fail
        refine Calls.mono (HAl.out w1 HB1.out) ?_
        rintro e w2 ⟨rfl, hb2⟩
        have HB2 := Lib.hid (HB1.out.trans (hb2.mono HB1.out.size))
        clear hb2
        go_wp2_with fail
        go_ret
        exact ⟨ret_bool (by rw [HOk.out]; rfl), HB2.out⟩
  · have hpd : decide (0 ≤ pl) = false := by simpa using hpl
    exact rnode_neg 5 t nm pl p n c w (by omega) _ (HNo.out (by rw [hpd, Bool.and_false]))
set_option maxRecDepth 100000 in
set_option maxHeartbeats 2000000 in
theorem rnode_6 (d : Nat) (HA : Hid (RAllK d)) (_HE : Hid (RExprsK d)) (_HR : Hid (RRuleK d)) (t : ByteArray) (nm pl : Int) (p : Option Addr) (n c : Nat) (ks : List Tree) (B : Nat) (w : World) (hk : KidsAt w B d ks (.slice p n c)) (hB : B ≤ w.heap.size) (hsl : SlimK d ks) (hts : t.size ≤ 72007) (hn : ks.length = n) :
    Calls Tryz.prog 50 #[.agg #[.int .u8 6, .string t, .int .i64 nm, .int .i64 pl, .slice p n c]] w (BoolPost (okK 6 t nm pl ks d) w) := by
  have hb0 : Below w.heap.size w (w.alloc (.cells #[.int .u8 6, .string t, .int .i64 nm, .int .i64 pl, .slice p n c] 25)) := (Below.refl _ w).alloc (Nat.le_refl _) _
  obtain ⟨b0, b1, b2, b3, b4⟩ := cells5 (heap_alloc_new w (.cells #[.int .u8 6, .string t, .int .i64 nm, .int .i64 pl, .slice p n c] 25))
  have HB := Lib.hid hb0
  have HX := Lib.hid (heap_alloc_new w (.cells #[.int .u8 6, .string t, .int .i64 nm, .int .i64 pl, .slice p n c] 25))
  have HYes := Lib.hid (okK_yes 6 t nm pl ks d)
  have HNo := Lib.hid (okK_no 6 t nm pl ks d)
  have HNm := Lib.hid (fun W => rname_any t W hts)
  have HAl := Lib.hid (fun W (hW : Below w.heap.size w W) => all_lit d HA.out [12, 13, 14, 15] (by decide) (by decide) #[.int .u8 12, .int .u8 13, .int .u8 14, .int .u8 15] rfl 4 rfl ks _ B W 0 n (hk.below (hW.mono hB)) (Nat.le_trans hB hW.size) (Nat.zero_le _) (by rw [hn]; exact Nat.le_refl _) hsl)
  rw [all_all (d - 1) [12, 13, 14, 15] ks n hn] at HAl
  have HLen := Lib.hid hn
  clear hb0 hk hsl hts hn
  by_cases hpl : 0 ≤ pl
  · have hpd : decide (0 ≤ pl) = true := by simpa using hpl
    have HPD := Lib.hid hpd
    clear hpd
    cases hnm : (nm == 0)
    · exact rnode_num 6 t nm pl p n c w hpl hnm (by omega) (by omega) _ (HNo.out (by rw [show numOk 6 nm = (nm == 0) from rfl, hnm]; rfl))
    · have HOk := Lib.hid (HYes.out (by rw [show numOk 6 nm = (nm == 0) from rfl, hnm]) HPD.out)
      have hnn : (nm != 0) = false := by show (!(nm == 0)) = false; rw [hnm]; rfl
      clear HYes HNo
      go_enter Tryz.func50, Tryz.ntmps50
      rw [show textOk 6 t.data.toList ks.length = (namedF t.data.toList && !wordB t.data.toList) from rfl] at HOk
      rw [show kidsOk 6 ks = among [12, 13, 14, 15] ks from rfl] at HOk
      generalize (among [12, 13, 14, 15] ks && ks.all (okF (d - 1))) = kk at *
      generalize (namedF t.data.toList && !wordB t.data.toList) = nf at *
      go_wp2_with fail
      refine Calls.mono (HNm.out _) ?_
      rintro e w1 ⟨rfl, hb1⟩
      have HB1 := Lib.hid (HB.out.trans (hb1.mono HB.out.size))
      clear b0 b1 b2 b3 b4
      obtain ⟨b0, b1, b2, b3, b4⟩ := cells5 (heap_below hb1 HX.out (by simp))
      clear hb1
      cases nf
      · go_wp2_with fail
        go_ret
        exact ⟨ret_bool (by rw [HOk.out]; rfl), HB1.out⟩
      · go_wp2_with fail
        refine Calls.mono (HAl.out w1 HB1.out) ?_
        rintro e w2 ⟨rfl, hb2⟩
        have HB2 := Lib.hid (HB1.out.trans (hb2.mono HB1.out.size))
        clear hb2
        go_wp2_with fail
        go_ret
        exact ⟨ret_bool (by rw [HOk.out]; rfl), HB2.out⟩
  · have hpd : decide (0 ≤ pl) = false := by simpa using hpl
    exact rnode_neg 6 t nm pl p n c w (by omega) _ (HNo.out (by rw [hpd, Bool.and_false]))
set_option maxRecDepth 100000 in
set_option maxHeartbeats 2000000 in
theorem rnode_8 (d : Nat) (_HA : Hid (RAllK d)) (HE : Hid (RExprsK d)) (_HR : Hid (RRuleK d)) (t : ByteArray) (nm pl : Int) (p : Option Addr) (n c : Nat) (ks : List Tree) (B : Nat) (w : World) (hk : KidsAt w B d ks (.slice p n c)) (hB : B ≤ w.heap.size) (hsl : SlimK d ks) (hts : t.size ≤ 72007) (hn : ks.length = n) :
    Calls Tryz.prog 50 #[.agg #[.int .u8 8, .string t, .int .i64 nm, .int .i64 pl, .slice p n c]] w (BoolPost (okK 8 t nm pl ks d) w) := by
  have hb0 : Below w.heap.size w (w.alloc (.cells #[.int .u8 8, .string t, .int .i64 nm, .int .i64 pl, .slice p n c] 25)) := (Below.refl _ w).alloc (Nat.le_refl _) _
  obtain ⟨b0, b1, b2, b3, b4⟩ := cells5 (heap_alloc_new w (.cells #[.int .u8 8, .string t, .int .i64 nm, .int .i64 pl, .slice p n c] 25))
  have HB := Lib.hid hb0
  have HX := Lib.hid (heap_alloc_new w (.cells #[.int .u8 8, .string t, .int .i64 nm, .int .i64 pl, .slice p n c] 25))
  have HYes := Lib.hid (okK_yes 8 t nm pl ks d)
  have HNo := Lib.hid (okK_no 8 t nm pl ks d)
  have HNm := Lib.hid (fun W => rname_any t W hts)
  have HEx := Lib.hid (fun W (hW : Below w.heap.size w W) => HE.out ks _ B W (hk.below (hW.mono hB)) (Nat.le_trans hB hW.size) hsl)
  have HLen := Lib.hid hn
  clear hb0 hk hsl hts hn
  by_cases hpl : 0 ≤ pl
  · have hpd : decide (0 ≤ pl) = true := by simpa using hpl
    have HPD := Lib.hid hpd
    clear hpd
    cases hnm : (nm == 0)
    · exact rnode_num 8 t nm pl p n c w hpl hnm (by omega) (by omega) _ (HNo.out (by rw [show numOk 8 nm = (nm == 0) from rfl, hnm]; rfl))
    · have HOk := Lib.hid (HYes.out (by rw [show numOk 8 nm = (nm == 0) from rfl, hnm]) HPD.out)
      have hnn : (nm != 0) = false := by show (!(nm == 0)) = false; rw [hnm]; rfl
      clear HYes HNo
      go_enter Tryz.func50, Tryz.ntmps50
      rw [show textOk 8 t.data.toList ks.length = (namedF t.data.toList && !wordB t.data.toList) from rfl] at HOk
      rw [show kidsOk 8 ks = exprsB ks from rfl] at HOk
      generalize (exprsB ks && ks.all (okF (d - 1))) = kk at *
      generalize (namedF t.data.toList && !wordB t.data.toList) = nf at *
      go_wp2_with fail
      refine Calls.mono (HNm.out _) ?_
      rintro e w1 ⟨rfl, hb1⟩
      have HB1 := Lib.hid (HB.out.trans (hb1.mono HB.out.size))
      clear b0 b1 b2 b3 b4
      obtain ⟨b0, b1, b2, b3, b4⟩ := cells5 (heap_below hb1 HX.out (by simp))
      clear hb1
      cases nf
      · go_wp2_with fail
        go_ret
        exact ⟨ret_bool (by rw [HOk.out]; rfl), HB1.out⟩
      · go_wp2_with fail
        refine Calls.mono (HEx.out w1 HB1.out) ?_
        rintro e w2 ⟨rfl, hb2⟩
        have HB2 := Lib.hid (HB1.out.trans (hb2.mono HB1.out.size))
        clear hb2
        go_wp2_with fail
        go_ret
        exact ⟨ret_bool (by rw [HOk.out]; rfl), HB2.out⟩
  · have hpd : decide (0 ≤ pl) = false := by simpa using hpl
    exact rnode_neg 8 t nm pl p n c w (by omega) _ (HNo.out (by rw [hpd, Bool.and_false]))
set_option maxRecDepth 100000 in
set_option maxHeartbeats 2000000 in
theorem rnode_11 (d : Nat) (_HA : Hid (RAllK d)) (_HE : Hid (RExprsK d)) (_HR : Hid (RRuleK d)) (t : ByteArray) (nm pl : Int) (p : Option Addr) (n c : Nat) (ks : List Tree) (B : Nat) (w : World) (_hk : KidsAt w B d ks (.slice p n c)) (_hB : B ≤ w.heap.size) (_hsl : SlimK d ks) (_hts : t.size ≤ 72007) (hn : ks.length = n) :
    Calls Tryz.prog 50 #[.agg #[.int .u8 11, .string t, .int .i64 nm, .int .i64 pl, .slice p n c]] w (BoolPost (okK 11 t nm pl ks d) w) := by
  have hb0 : Below w.heap.size w (w.alloc (.cells #[.int .u8 11, .string t, .int .i64 nm, .int .i64 pl, .slice p n c] 25)) := (Below.refl _ w).alloc (Nat.le_refl _) _
  obtain ⟨b0, b1, b2, b3, b4⟩ := cells5 (heap_alloc_new w (.cells #[.int .u8 11, .string t, .int .i64 nm, .int .i64 pl, .slice p n c] 25))
  have HB := Lib.hid hb0
  have HX := Lib.hid (heap_alloc_new w (.cells #[.int .u8 11, .string t, .int .i64 nm, .int .i64 pl, .slice p n c] 25))
  have HYes := Lib.hid (okK_yes 11 t nm pl ks d)
  have HNo := Lib.hid (okK_no 11 t nm pl ks d)

  have HLen := Lib.hid hn
  clear hb0 _hk _hsl _hts hn
  by_cases hpl : 0 ≤ pl
  · have hpd : decide (0 ≤ pl) = true := by simpa using hpl
    have HPD := Lib.hid hpd
    clear hpd
    cases hnm : (nm == 0)
    · exact rnode_num 11 t nm pl p n c w hpl hnm (by omega) (by omega) _ (HNo.out (by rw [show numOk 11 nm = (nm == 0) from rfl, hnm]; rfl))
    · have HOk := Lib.hid (HYes.out (by rw [show numOk 11 nm = (nm == 0) from rfl, hnm]) HPD.out)
      have hnn : (nm != 0) = false := by show (!(nm == 0)) = false; rw [hnm]; rfl
      clear HYes HNo
      go_enter Tryz.func50, Tryz.ntmps50
      rw [show textOk 11 t.data.toList ks.length = t.toList.isEmpty from empty_text t] at HOk
      rw [show kidsOk 11 ks = ks.isEmpty from rfl, kids_empty (d - 1) ks n HLen.out, nat_eq_int] at HOk
      cases het : t.toList.isEmpty
      · rw [het] at HOk
        go_wp2_with fail
        go_ret
        exact ⟨ret_bool (by rw [HOk.out]; rfl), HB.out⟩
      · rw [het] at HOk
        go_wp2_with fail
        go_ret
        exact ⟨ret_bool (by rw [HOk.out]; rfl), HB.out⟩
  · have hpd : decide (0 ≤ pl) = false := by simpa using hpl
    exact rnode_neg 11 t nm pl p n c w (by omega) _ (HNo.out (by rw [hpd, Bool.and_false]))
set_option maxRecDepth 100000 in
set_option maxHeartbeats 2000000 in
theorem rnode_12 (d : Nat) (_HA : Hid (RAllK d)) (_HE : Hid (RExprsK d)) (_HR : Hid (RRuleK d)) (t : ByteArray) (nm pl : Int) (p : Option Addr) (n c : Nat) (ks : List Tree) (B : Nat) (w : World) (_hk : KidsAt w B d ks (.slice p n c)) (_hB : B ≤ w.heap.size) (_hsl : SlimK d ks) (_hts : t.size ≤ 72007) (hn : ks.length = n) :
    Calls Tryz.prog 50 #[.agg #[.int .u8 12, .string t, .int .i64 nm, .int .i64 pl, .slice p n c]] w (BoolPost (okK 12 t nm pl ks d) w) := by
  have hb0 : Below w.heap.size w (w.alloc (.cells #[.int .u8 12, .string t, .int .i64 nm, .int .i64 pl, .slice p n c] 25)) := (Below.refl _ w).alloc (Nat.le_refl _) _
  obtain ⟨b0, b1, b2, b3, b4⟩ := cells5 (heap_alloc_new w (.cells #[.int .u8 12, .string t, .int .i64 nm, .int .i64 pl, .slice p n c] 25))
  have HB := Lib.hid hb0
  have HX := Lib.hid (heap_alloc_new w (.cells #[.int .u8 12, .string t, .int .i64 nm, .int .i64 pl, .slice p n c] 25))
  have HYes := Lib.hid (okK_yes 12 t nm pl ks d)
  have HNo := Lib.hid (okK_no 12 t nm pl ks d)

  have HLen := Lib.hid hn
  clear hb0 _hk _hsl _hts hn
  by_cases hpl : 0 ≤ pl
  · have hpd : decide (0 ≤ pl) = true := by simpa using hpl
    have HPD := Lib.hid hpd
    clear hpd
    cases hnm : (nm == 0)
    · exact rnode_num 12 t nm pl p n c w hpl hnm (by omega) (by omega) _ (HNo.out (by rw [show numOk 12 nm = (nm == 0) from rfl, hnm]; rfl))
    · have HOk := Lib.hid (HYes.out (by rw [show numOk 12 nm = (nm == 0) from rfl, hnm]) HPD.out)
      have hnn : (nm != 0) = false := by show (!(nm == 0)) = false; rw [hnm]; rfl
      clear HYes HNo
      go_enter Tryz.func50, Tryz.ntmps50
      rw [show textOk 12 t.data.toList ks.length = t.toList.isEmpty from empty_text t] at HOk
      rw [show kidsOk 12 ks = ks.isEmpty from rfl, kids_empty (d - 1) ks n HLen.out, nat_eq_int] at HOk
      cases het : t.toList.isEmpty
      · rw [het] at HOk
        go_wp2_with fail
        go_ret
        exact ⟨ret_bool (by rw [HOk.out]; rfl), HB.out⟩
      · rw [het] at HOk
        go_wp2_with fail
        go_ret
        exact ⟨ret_bool (by rw [HOk.out]; rfl), HB.out⟩
  · have hpd : decide (0 ≤ pl) = false := by simpa using hpl
    exact rnode_neg 12 t nm pl p n c w (by omega) _ (HNo.out (by rw [hpd, Bool.and_false]))
end Go.Proofs.YtfpohaipmnjflaaGreatDoor
