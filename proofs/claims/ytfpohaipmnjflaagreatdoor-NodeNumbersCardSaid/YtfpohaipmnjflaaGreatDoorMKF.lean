/- The reference's look at a node, some kinds more; by contract, given the looks at kids. Conditions: at most 20000 kids a list, texts of at most 72007 bytes. -/
import Derived.Test.YtfpohaipmnjflaaGreatDoorMK
namespace Go.Proofs.YtfpohaipmnjflaaGreatDoor
open Go.RowKit

set_option maxRecDepth 100000 in
set_option maxHeartbeats 2000000 in
theorem rnode_7 (d : Nat) (_HA : Hid (RAllK d)) (HE : Hid (RExprsK d)) (_HR : Hid (RRuleK d)) (t : ByteArray) (nm pl : Int) (p : Option Addr) (n c : Nat) (ks : List Tree) (B : Nat) (w : World) (hk : KidsAt w B d ks (.slice p n c)) (hB : B ≤ w.heap.size) (hsl : SlimK d ks) (_hts : t.size ≤ 72007) (hn : ks.length = n) :
    Calls Tryz.prog 50 #[.agg #[.int .u8 7, .string t, .int .i64 nm, .int .i64 pl, .slice p n c]] w (BoolPost (okK 7 t nm pl ks d) w) := by
  have hb0 : Below w.heap.size w (w.alloc (.cells #[.int .u8 7, .string t, .int .i64 nm, .int .i64 pl, .slice p n c] 25)) := (Below.refl _ w).alloc (Nat.le_refl _) _
  obtain ⟨b0, b1, b2, b3, b4⟩ := cells5 (heap_alloc_new w (.cells #[.int .u8 7, .string t, .int .i64 nm, .int .i64 pl, .slice p n c] 25))
  have HB := Lib.hid hb0
  have HX := Lib.hid (heap_alloc_new w (.cells #[.int .u8 7, .string t, .int .i64 nm, .int .i64 pl, .slice p n c] 25))
  have HYes := Lib.hid (okK_yes 7 t nm pl ks d)
  have HNo := Lib.hid (okK_no 7 t nm pl ks d)
  have HEx := Lib.hid (fun W (hW : Below w.heap.size w W) => HE.out ks _ B W (hk.below (hW.mono hB)) (Nat.le_trans hB hW.size) hsl)
  have HLen := Lib.hid hn
  clear hb0 hk hsl _hts hn
  by_cases hpl : 0 ≤ pl
  · have hpd : decide (0 ≤ pl) = true := by simpa using hpl
    have HPD := Lib.hid hpd
    clear hpd
    cases hnm : (nm == 0)
    · exact rnode_num 7 t nm pl p n c w hpl hnm (by omega) (by omega) _ (HNo.out (by rw [show numOk 7 nm = (nm == 0) from rfl, hnm]; rfl))
    · have HOk := Lib.hid (HYes.out (by rw [show numOk 7 nm = (nm == 0) from rfl, hnm]) HPD.out)
      have hnn : (nm != 0) = false := by show (!(nm == 0)) = false; rw [hnm]; rfl
      clear HYes HNo
      go_enter Tryz.func50, Tryz.ntmps50
      rw [show textOk 7 t.data.toList ks.length = t.toList.isEmpty from empty_text t] at HOk
      rw [show kidsOk 7 ks = (ks.length == 1 && exprsB ks) from rfl, HLen.out, show (n == 1) = ((n : Int) == 1) from nat_eq_int n 1, Bool.and_assoc] at HOk
      generalize (exprsB ks && ks.all (okF (d - 1))) = kk at *
      cases het : t.toList.isEmpty
      · rw [het] at HOk
        go_wp2_with fail
        go_ret
        exact ⟨ret_bool (by rw [HOk.out]; rfl), HB.out⟩
      · rw [het] at HOk
        cases h1 : ((n : Int) == 1)
        · rw [h1] at HOk
          go_wp2_with fail
          go_ret
          exact ⟨ret_bool (by rw [HOk.out]; rfl), HB.out⟩
        · rw [h1] at HOk
          go_wp2_with fail
          refine Calls.mono (HEx.out _ HB.out) ?_
          rintro e w2 ⟨rfl, hb2⟩
          have HB2 := Lib.hid (HB.out.trans (hb2.mono HB.out.size))
          clear hb2
          go_wp2_with fail
          go_ret
          exact ⟨ret_bool (by rw [HOk.out]; rfl), HB2.out⟩
  · have hpd : decide (0 ≤ pl) = false := by simpa using hpl
    exact rnode_neg 7 t nm pl p n c w (by omega) _ (HNo.out (by rw [hpd, Bool.and_false]))
set_option maxRecDepth 100000 in
set_option maxHeartbeats 2000000 in
theorem rnode_10 (d : Nat) (_HA : Hid (RAllK d)) (HE : Hid (RExprsK d)) (_HR : Hid (RRuleK d)) (t : ByteArray) (nm pl : Int) (p : Option Addr) (n c : Nat) (ks : List Tree) (B : Nat) (w : World) (hk : KidsAt w B d ks (.slice p n c)) (hB : B ≤ w.heap.size) (hsl : SlimK d ks) (_hts : t.size ≤ 72007) (hn : ks.length = n) :
    Calls Tryz.prog 50 #[.agg #[.int .u8 10, .string t, .int .i64 nm, .int .i64 pl, .slice p n c]] w (BoolPost (okK 10 t nm pl ks d) w) := by
  have hb0 : Below w.heap.size w (w.alloc (.cells #[.int .u8 10, .string t, .int .i64 nm, .int .i64 pl, .slice p n c] 25)) := (Below.refl _ w).alloc (Nat.le_refl _) _
  obtain ⟨b0, b1, b2, b3, b4⟩ := cells5 (heap_alloc_new w (.cells #[.int .u8 10, .string t, .int .i64 nm, .int .i64 pl, .slice p n c] 25))
  have HB := Lib.hid hb0
  have HX := Lib.hid (heap_alloc_new w (.cells #[.int .u8 10, .string t, .int .i64 nm, .int .i64 pl, .slice p n c] 25))
  have HYes := Lib.hid (okK_yes 10 t nm pl ks d)
  have HNo := Lib.hid (okK_no 10 t nm pl ks d)
  have HEx := Lib.hid (fun W (hW : Below w.heap.size w W) => HE.out ks _ B W (hk.below (hW.mono hB)) (Nat.le_trans hB hW.size) hsl)
  have HLen := Lib.hid hn
  clear hb0 hk hsl _hts hn
  by_cases hpl : 0 ≤ pl
  · have hpd : decide (0 ≤ pl) = true := by simpa using hpl
    have HPD := Lib.hid hpd
    clear hpd
    cases hnm : (nm == 0)
    · exact rnode_num 10 t nm pl p n c w hpl hnm (by omega) (by omega) _ (HNo.out (by rw [show numOk 10 nm = (nm == 0) from rfl, hnm]; rfl))
    · have HOk := Lib.hid (HYes.out (by rw [show numOk 10 nm = (nm == 0) from rfl, hnm]) HPD.out)
      have hnn : (nm != 0) = false := by show (!(nm == 0)) = false; rw [hnm]; rfl
      clear HYes HNo
      go_enter Tryz.func50, Tryz.ntmps50
      rw [show textOk 10 t.data.toList ks.length = t.toList.isEmpty from empty_text t] at HOk
      rw [show kidsOk 10 ks = (decide (0 < ks.length) && exprsB ks) from rfl, HLen.out, ge_one, Bool.and_assoc] at HOk
      generalize (exprsB ks && ks.all (okF (d - 1))) = kk at *
      cases het : t.toList.isEmpty
      · rw [het] at HOk
        go_wp2_with fail
        go_ret
        exact ⟨ret_bool (by rw [HOk.out]; rfl), HB.out⟩
      · rw [het] at HOk
        by_cases h1 : (1 : Int) ≤ n
        · have h1d : decide ((1 : Int) ≤ n) = true := by simpa using h1
          rw [h1d] at HOk
          clear h1d
          go_wp2_with fail
          refine Calls.mono (HEx.out _ HB.out) ?_
          rintro e w2 ⟨rfl, hb2⟩
          have HB2 := Lib.hid (HB.out.trans (hb2.mono HB.out.size))
          clear hb2
          go_wp2_with fail
          go_ret
          exact ⟨ret_bool (by rw [HOk.out]; rfl), HB2.out⟩
        · have h1d : decide ((1 : Int) ≤ n) = false := by simpa using h1
          rw [h1d] at HOk
          have h2 : (n : Int) < 1 := by omega
          clear h1d h1
          go_wp2_with fail
          go_ret
          exact ⟨ret_bool (by rw [HOk.out]; rfl), HB.out⟩
  · have hpd : decide (0 ≤ pl) = false := by simpa using hpl
    exact rnode_neg 10 t nm pl p n c w (by omega) _ (HNo.out (by rw [hpd, Bool.and_false]))
set_option maxRecDepth 100000 in
set_option maxHeartbeats 2000000 in
theorem rnode_13 (d : Nat) (_HA : Hid (RAllK d)) (_HE : Hid (RExprsK d)) (_HR : Hid (RRuleK d)) (t : ByteArray) (nm pl : Int) (p : Option Addr) (n c : Nat) (ks : List Tree) (B : Nat) (w : World) (_hk : KidsAt w B d ks (.slice p n c)) (_hB : B ≤ w.heap.size) (_hsl : SlimK d ks) (hts : t.size ≤ 72007) (hn : ks.length = n) :
    Calls Tryz.prog 50 #[.agg #[.int .u8 13, .string t, .int .i64 nm, .int .i64 pl, .slice p n c]] w (BoolPost (okK 13 t nm pl ks d) w) := by
  have hb0 : Below w.heap.size w (w.alloc (.cells #[.int .u8 13, .string t, .int .i64 nm, .int .i64 pl, .slice p n c] 25)) := (Below.refl _ w).alloc (Nat.le_refl _) _
  obtain ⟨b0, b1, b2, b3, b4⟩ := cells5 (heap_alloc_new w (.cells #[.int .u8 13, .string t, .int .i64 nm, .int .i64 pl, .slice p n c] 25))
  have HB := Lib.hid hb0
  have HX := Lib.hid (heap_alloc_new w (.cells #[.int .u8 13, .string t, .int .i64 nm, .int .i64 pl, .slice p n c] 25))
  have HYes := Lib.hid (okK_yes 13 t nm pl ks d)
  have HNo := Lib.hid (okK_no 13 t nm pl ks d)
  have HNa := Lib.hid (fun W => rnamed_big t W (by omega))
  have HLen := Lib.hid hn
  clear hb0 _hk _hsl hts hn
  by_cases hpl : 0 ≤ pl
  · have hpd : decide (0 ≤ pl) = true := by simpa using hpl
    have HPD := Lib.hid hpd
    clear hpd
    cases hnm : (nm == 0)
    · exact rnode_num 13 t nm pl p n c w hpl hnm (by omega) (by omega) _ (HNo.out (by rw [show numOk 13 nm = (nm == 0) from rfl, hnm]; rfl))
    · have HOk := Lib.hid (HYes.out (by rw [show numOk 13 nm = (nm == 0) from rfl, hnm]) HPD.out)
      have hnn : (nm != 0) = false := by show (!(nm == 0)) = false; rw [hnm]; rfl
      clear HYes HNo
      go_enter Tryz.func50, Tryz.ntmps50
      rw [show textOk 13 t.data.toList ks.length = namedF t.data.toList from rfl] at HOk
      rw [show kidsOk 13 ks = ks.isEmpty from rfl, kids_empty (d - 1) ks n HLen.out, nat_eq_int] at HOk
      generalize namedF t.data.toList = nf at *
      go_wp2_with fail
      refine Calls.mono (HNa.out _) ?_
      rintro e w1 ⟨rfl, rfl⟩
      cases nf
      · go_wp2_with fail
        go_ret
        exact ⟨ret_bool (by rw [HOk.out]; rfl), HB.out⟩
      · go_wp2_with fail
        go_ret
        exact ⟨ret_bool (by rw [HOk.out]; rfl), HB.out⟩
  · have hpd : decide (0 ≤ pl) = false := by simpa using hpl
    exact rnode_neg 13 t nm pl p n c w (by omega) _ (HNo.out (by rw [hpd, Bool.and_false]))
set_option maxRecDepth 100000 in
set_option maxHeartbeats 2000000 in
theorem rnode_15 (d : Nat) (_HA : Hid (RAllK d)) (_HE : Hid (RExprsK d)) (_HR : Hid (RRuleK d)) (t : ByteArray) (nm pl : Int) (p : Option Addr) (n c : Nat) (ks : List Tree) (B : Nat) (w : World) (_hk : KidsAt w B d ks (.slice p n c)) (_hB : B ≤ w.heap.size) (_hsl : SlimK d ks) (hts : t.size ≤ 72007) (hn : ks.length = n) :
    Calls Tryz.prog 50 #[.agg #[.int .u8 15, .string t, .int .i64 nm, .int .i64 pl, .slice p n c]] w (BoolPost (okK 15 t nm pl ks d) w) := by
  have hb0 : Below w.heap.size w (w.alloc (.cells #[.int .u8 15, .string t, .int .i64 nm, .int .i64 pl, .slice p n c] 25)) := (Below.refl _ w).alloc (Nat.le_refl _) _
  obtain ⟨b0, b1, b2, b3, b4⟩ := cells5 (heap_alloc_new w (.cells #[.int .u8 15, .string t, .int .i64 nm, .int .i64 pl, .slice p n c] 25))
  have HB := Lib.hid hb0
  have HX := Lib.hid (heap_alloc_new w (.cells #[.int .u8 15, .string t, .int .i64 nm, .int .i64 pl, .slice p n c] 25))
  have HYes := Lib.hid (okK_yes 15 t nm pl ks d)
  have HNo := Lib.hid (okK_no 15 t nm pl ks d)
  have HNa := Lib.hid (fun W => rnamed_big t W (by omega))
  have HLen := Lib.hid hn
  clear hb0 _hk _hsl hts hn
  by_cases hpl : 0 ≤ pl
  · have hpd : decide (0 ≤ pl) = true := by simpa using hpl
    have HPD := Lib.hid hpd
    clear hpd
    cases hnm : (nm == 0)
    · exact rnode_num 15 t nm pl p n c w hpl hnm (by omega) (by omega) _ (HNo.out (by rw [show numOk 15 nm = (nm == 0) from rfl, hnm]; rfl))
    · have HOk := Lib.hid (HYes.out (by rw [show numOk 15 nm = (nm == 0) from rfl, hnm]) HPD.out)
      have hnn : (nm != 0) = false := by show (!(nm == 0)) = false; rw [hnm]; rfl
      clear HYes HNo
      go_enter Tryz.func50, Tryz.ntmps50
      rw [show textOk 15 t.data.toList ks.length = namedF t.data.toList from rfl] at HOk
      rw [show kidsOk 15 ks = ks.isEmpty from rfl, kids_empty (d - 1) ks n HLen.out, nat_eq_int] at HOk
      generalize namedF t.data.toList = nf at *
      go_wp2_with fail
      refine Calls.mono (HNa.out _) ?_
      rintro e w1 ⟨rfl, rfl⟩
      cases nf
      · go_wp2_with fail
        go_ret
        exact ⟨ret_bool (by rw [HOk.out]; rfl), HB.out⟩
      · go_wp2_with fail
        go_ret
        exact ⟨ret_bool (by rw [HOk.out]; rfl), HB.out⟩
  · have hpd : decide (0 ≤ pl) = false := by simpa using hpl
    exact rnode_neg 15 t nm pl p n c w (by omega) _ (HNo.out (by rw [hpd, Bool.and_false]))
set_option maxRecDepth 100000 in
set_option maxHeartbeats 2000000 in
theorem rnode_14 (d : Nat) (_HA : Hid (RAllK d)) (_HE : Hid (RExprsK d)) (_HR : Hid (RRuleK d)) (t : ByteArray) (nm pl : Int) (p : Option Addr) (n c : Nat) (ks : List Tree) (B : Nat) (w : World) (_hk : KidsAt w B d ks (.slice p n c)) (_hB : B ≤ w.heap.size) (_hsl : SlimK d ks) (hts : t.size ≤ 72007) (hn : ks.length = n) :
    Calls Tryz.prog 50 #[.agg #[.int .u8 14, .string t, .int .i64 nm, .int .i64 pl, .slice p n c]] w (BoolPost (okK 14 t nm pl ks d) w) := by
  have hb0 : Below w.heap.size w (w.alloc (.cells #[.int .u8 14, .string t, .int .i64 nm, .int .i64 pl, .slice p n c] 25)) := (Below.refl _ w).alloc (Nat.le_refl _) _
  obtain ⟨b0, b1, b2, b3, b4⟩ := cells5 (heap_alloc_new w (.cells #[.int .u8 14, .string t, .int .i64 nm, .int .i64 pl, .slice p n c] 25))
  have HB := Lib.hid hb0
  have HX := Lib.hid (heap_alloc_new w (.cells #[.int .u8 14, .string t, .int .i64 nm, .int .i64 pl, .slice p n c] 25))
  have HYes := Lib.hid (okK_yes 14 t nm pl ks d)
  have HNo := Lib.hid (okK_no 14 t nm pl ks d)
  have HNu := Lib.hid (fun W => r5number_any t W hts)
  have HLen := Lib.hid hn
  clear hb0 _hk _hsl hts hn
  by_cases hpl : 0 ≤ pl
  · have hpd : decide (0 ≤ pl) = true := by simpa using hpl
    have HPD := Lib.hid hpd
    clear hpd
    cases hnm : (nm == 0)
    · exact rnode_num 14 t nm pl p n c w hpl hnm (by omega) (by omega) _ (HNo.out (by rw [show numOk 14 nm = (nm == 0) from rfl, hnm]; rfl))
    · have HOk := Lib.hid (HYes.out (by rw [show numOk 14 nm = (nm == 0) from rfl, hnm]) HPD.out)
      have hnn : (nm != 0) = false := by show (!(nm == 0)) = false; rw [hnm]; rfl
      clear HYes HNo
      go_enter Tryz.func50, Tryz.ntmps50
      rw [show textOk 14 t.data.toList ks.length = (number (strip t.data.toList)).isSome from rfl] at HOk
      rw [show kidsOk 14 ks = ks.isEmpty from rfl, kids_empty (d - 1) ks n HLen.out, nat_eq_int] at HOk
      generalize (number (strip t.data.toList)).isSome = nf at *
      go_wp2_with fail
      refine Calls.mono (HNu.out _) ?_
      rintro e w1 ⟨rfl, rfl⟩
      cases nf
      · go_wp2_with fail
        go_ret
        exact ⟨ret_bool (by rw [HOk.out]; rfl), HB.out⟩
      · go_wp2_with fail
        go_ret
        exact ⟨ret_bool (by rw [HOk.out]; rfl), HB.out⟩
  · have hpd : decide (0 ≤ pl) = false := by simpa using hpl
    exact rnode_neg 14 t nm pl p n c w (by omega) _ (HNo.out (by rw [hpd, Bool.and_false]))
end Go.Proofs.YtfpohaipmnjflaaGreatDoor
