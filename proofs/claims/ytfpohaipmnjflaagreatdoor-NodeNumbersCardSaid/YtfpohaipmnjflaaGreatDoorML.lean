/- Several texts joined, each with its own sentence and conditions ahead of it: RefNH, LawTells. -/
import Derived.Test.YtfpohaipmnjflaaGreatDoorMKE
import Derived.Test.YtfpohaipmnjflaaGreatDoorMKF
import Derived.Test.YtfpohaipmnjflaaGreatDoorMKG
/- The reference's word on a tree: is it a program's; by contract. Conditions: at most 20000 kids a list, texts of at most 72007 bytes. -/
namespace Go.Proofs.YtfpohaipmnjflaaGreatDoor
open Go.RowKit

set_option maxRecDepth 100000 in
set_option maxHeartbeats 2000000 in
theorem rnode_none (k : Nat) (t : ByteArray) (nm pl : Int) (p : Option Addr) (n c : Nat) (w : World) (h : k = 0 ∨ 16 < k) (P : Bool) (hP : P = false) :
    Calls Tryz.prog 50 #[.agg #[.int .u8 k, .string t, .int .i64 nm, .int .i64 pl, .slice p n c]] w (BoolPost P w) := by
  by_cases hpl : 0 ≤ pl
  · cases hnm : (nm == 0)
    · exact rnode_num k t nm pl p n c w hpl hnm (by omega) (by omega) P hP
    · subst hP
      have hb0 : Below w.heap.size w (w.alloc (.cells #[.int .u8 k, .string t, .int .i64 nm, .int .i64 pl, .slice p n c] 25)) := (Below.refl _ w).alloc (Nat.le_refl _) _
      obtain ⟨b0, b1, b2, b3, b4⟩ := cells5 (heap_alloc_new w (.cells #[.int .u8 k, .string t, .int .i64 nm, .int .i64 pl, .slice p n c] 25))
      have HB := Lib.hid hb0
      have hnn : (nm != 0) = false := by show (!(nm == 0)) = false; rw [hnm]; rfl
      have e2 : ((k : Int) == 2) = false := by simp; omega
      have e3 : ((k : Int) == 3) = false := by simp; omega
      have e4 : ((k : Int) == 4) = false := by simp; omega
      have e5 : ((k : Int) == 5) = false := by simp; omega
      have e6 : ((k : Int) == 6) = false := by simp; omega
      have e7 : ((k : Int) == 7) = false := by simp; omega
      have e8 : ((k : Int) == 8) = false := by simp; omega
      have e9 : ((k : Int) == 9) = false := by simp; omega
      have e10 : ((k : Int) == 10) = false := by simp; omega
      have e11 : ((k : Int) == 11) = false := by simp; omega
      have e12 : ((k : Int) == 12) = false := by simp; omega
      have e13 : ((k : Int) == 13) = false := by simp; omega
      have e14 : ((k : Int) == 14) = false := by simp; omega
      have e15 : ((k : Int) == 15) = false := by simp; omega
      have e16 : ((k : Int) == 16) = false := by simp; omega
      clear hb0 h
      go_enter Tryz.func50, Tryz.ntmps50
      go_wp2_with fail
      go_ret
      exact ⟨rfl, HB.out⟩
  · exact rnode_neg k t nm pl p n c w (by omega) P hP
theorem okF_okK (d : Nat) (T : Tree) (hz : d = 0 → T.kids = []) (h1 : 1 ≤ T.kind) (h2 : T.kind ≤ 16) : okF d T = okK T.kind T.text T.num T.place T.kids d := by
  rw [okF_un d T hz]
  unfold levelOk okK
  have e1 : decide (1 ≤ T.kind) = true := by simpa using h1
  have e2 : decide (T.kind ≤ 16) = true := by simpa using h2
  rw [e1, e2, Bool.true_and, Bool.true_and]
theorem rnode_of (d : Nat) (hA : RAllK d) : RNodeK d := by
  intro T v B w hv hB hsl h1
  obtain ⟨_, s, rfl, hks⟩ := hv
  obtain ⟨p, c, rfl, _, _⟩ := hks.rows
  have hz : d = 0 → T.kids = [] := fun h => by subst h; exact hks.1
  by_cases hk : 1 ≤ T.kind ∧ T.kind ≤ 16
  · rw [okF_okK d T hz hk.1 hk.2]
    have done : ∀ (k : Nat) (h : T.kind = k) (hr : ∀ (t : ByteArray) (nm pl : Int) (p : Option Addr) (n c : Nat) (ks : List Tree) (B : Nat) (w : World), KidsAt w B d ks (.slice p n c) → B ≤ w.heap.size → SlimK d ks → t.size ≤ 72007 → ks.length = n →
        Calls Tryz.prog 50 #[.agg #[.int .u8 k, .string t, .int .i64 nm, .int .i64 pl, .slice p n c]] w (BoolPost (okK k t nm pl ks d) w)), Calls Tryz.prog 50 #[.agg #[.int .u8 T.kind, .string T.text, .int .i64 T.num, .int .i64 T.place, .slice p T.kids.length c]] w (BoolPost (okK T.kind T.text T.num T.place T.kids d) w) := by
      intro k h hr
      rw [h]
      exact hr T.text T.num T.place p T.kids.length c T.kids B w hks hB hsl.kids hsl.text rfl
    have hc : T.kind = 2 ∨ T.kind = 3 ∨ T.kind = 4 ∨ T.kind = 5 ∨ T.kind = 6 ∨ T.kind = 7 ∨ T.kind = 8 ∨ T.kind = 9 ∨ T.kind = 10 ∨ T.kind = 11 ∨ T.kind = 12 ∨ T.kind = 13 ∨ T.kind = 14 ∨ T.kind = 15 ∨ T.kind = 16 := by omega
    rcases hc with h | h | h | h | h | h | h | h | h | h | h | h | h | h | h
    · exact done 2 h (fun t nm pl p n c ks B w hk hB hs hts hn => rnode_2 d (Lib.hid hA) (Lib.hid (rexprs_of d hA)) (Lib.hid (rrule_of d hA)) t nm pl p n c ks B w hk hB hs hts hn)
    · exact done 3 h (fun t nm pl p n c ks B w hk hB hs hts hn => rnode_3 d (Lib.hid hA) (Lib.hid (rexprs_of d hA)) (Lib.hid (rrule_of d hA)) t nm pl p n c ks B w hk hB hs hts hn)
    · exact done 4 h (fun t nm pl p n c ks B w hk hB hs hts hn => rnode_4 d (Lib.hid hA) (Lib.hid (rexprs_of d hA)) (Lib.hid (rrule_of d hA)) t nm pl p n c ks B w hk hB hs hts hn)
    · exact done 5 h (fun t nm pl p n c ks B w hk hB hs hts hn => rnode_5 d (Lib.hid hA) (Lib.hid (rexprs_of d hA)) (Lib.hid (rrule_of d hA)) t nm pl p n c ks B w hk hB hs hts hn)
    · exact done 6 h (fun t nm pl p n c ks B w hk hB hs hts hn => rnode_6 d (Lib.hid hA) (Lib.hid (rexprs_of d hA)) (Lib.hid (rrule_of d hA)) t nm pl p n c ks B w hk hB hs hts hn)
    · exact done 7 h (fun t nm pl p n c ks B w hk hB hs hts hn => rnode_7 d (Lib.hid hA) (Lib.hid (rexprs_of d hA)) (Lib.hid (rrule_of d hA)) t nm pl p n c ks B w hk hB hs hts hn)
    · exact done 8 h (fun t nm pl p n c ks B w hk hB hs hts hn => rnode_8 d (Lib.hid hA) (Lib.hid (rexprs_of d hA)) (Lib.hid (rrule_of d hA)) t nm pl p n c ks B w hk hB hs hts hn)
    · exact done 9 h (fun t nm pl p n c ks B w hk hB hs hts hn => rnode_9 d (Lib.hid hA) (Lib.hid (rexprs_of d hA)) (Lib.hid (rrule_of d hA)) t nm pl p n c ks B w hk hB hs hts hn)
    · exact done 10 h (fun t nm pl p n c ks B w hk hB hs hts hn => rnode_10 d (Lib.hid hA) (Lib.hid (rexprs_of d hA)) (Lib.hid (rrule_of d hA)) t nm pl p n c ks B w hk hB hs hts hn)
    · exact done 11 h (fun t nm pl p n c ks B w hk hB hs hts hn => rnode_11 d (Lib.hid hA) (Lib.hid (rexprs_of d hA)) (Lib.hid (rrule_of d hA)) t nm pl p n c ks B w hk hB hs hts hn)
    · exact done 12 h (fun t nm pl p n c ks B w hk hB hs hts hn => rnode_12 d (Lib.hid hA) (Lib.hid (rexprs_of d hA)) (Lib.hid (rrule_of d hA)) t nm pl p n c ks B w hk hB hs hts hn)
    · exact done 13 h (fun t nm pl p n c ks B w hk hB hs hts hn => rnode_13 d (Lib.hid hA) (Lib.hid (rexprs_of d hA)) (Lib.hid (rrule_of d hA)) t nm pl p n c ks B w hk hB hs hts hn)
    · exact done 14 h (fun t nm pl p n c ks B w hk hB hs hts hn => rnode_14 d (Lib.hid hA) (Lib.hid (rexprs_of d hA)) (Lib.hid (rrule_of d hA)) t nm pl p n c ks B w hk hB hs hts hn)
    · exact done 15 h (fun t nm pl p n c ks B w hk hB hs hts hn => rnode_15 d (Lib.hid hA) (Lib.hid (rexprs_of d hA)) (Lib.hid (rrule_of d hA)) t nm pl p n c ks B w hk hB hs hts hn)
    · exact done 16 h (fun t nm pl p n c ks B w hk hB hs hts hn => rnode_16 d (Lib.hid hA) (Lib.hid (rexprs_of d hA)) (Lib.hid (rrule_of d hA)) t nm pl p n c ks B w hk hB hs hts hn)
  · refine rnode_none T.kind T.text T.num T.place p T.kids.length c w (by omega) _ ?_
    rw [okF_un d T hz]
    unfold levelOk
    by_cases h0 : 1 ≤ T.kind
    · have e : decide (T.kind ≤ 16) = false := by simp; omega
      rw [e]; simp
    · have e : decide (1 ≤ T.kind) = false := by simp; omega
      rw [e]; rfl
theorem rall_any : ∀ d, RAllK d := by
  intro d
  induction d with
  | zero => exact rall_of 0 (Lib.hid fun d' h => by omega)
  | succ d ih =>
    refine rall_of (d + 1) (Lib.hid fun d' h => ?_)
    have e : d' = d := by omega
    subst e
    exact rnode_of _ ih
theorem rightF_split (d : Nat) (T : Tree) (hz : d = 0 → T.kids = []) : rightF d T = ((T.kind == 1) && T.text.toList.isEmpty && (T.num == 0) && decide (0 ≤ T.place) && (allF (d - 1) [2, 4] T.kids && decide (deepF d T ≤ 30) && decide (manyF d T ≤ 4096))) := by
  unfold rightF
  cases hk : (T.kind == 1)
  · simp
  · have hk' : T.kind = 1 := by simpa using hk
    rw [okF_un d T hz, allF_split]
    unfold levelOk
    rw [hk', show textOk 1 T.text.data.toList T.kids.length = T.text.data.toList.isEmpty from rfl, empty_text, show numOk 1 T.num = (T.num == 0) from rfl, show kidsOk 1 T.kids = among [2, 4] T.kids from rfl]
    simp [Bool.and_assoc]
set_option maxRecDepth 100000 in
set_option maxHeartbeats 2000000 in
theorem rright_any (d : Nat) (T : Tree) (v : Value) (B : Nat) (w : World) (hv : NodeAt w B d T v) (hB : B ≤ w.heap.size) (hsl : Slim d T) (hm : manyF d T ≤ 100000) :
    Calls Tryz.prog 9 #[v] w (BoolPost (rightF d T) w) := by
  have hv' := hv
  obtain ⟨_, s, rfl, hks⟩ := hv
  obtain ⟨p, c, rfl, _, _⟩ := hks.rows
  have hz : d = 0 → T.kids = [] := fun h => by subst h; exact hks.1
  have HR := Lib.hid (rightF_split d T hz)
  have hb0 : Below w.heap.size w (w.alloc (.cells #[.int .u8 T.kind, .string T.text, .int .i64 T.num, .int .i64 T.place, .slice p T.kids.length c] 25)) := (Below.refl _ w).alloc (Nat.le_refl _) _
  have hx := heap_alloc_new w (.cells #[.int .u8 T.kind, .string T.text, .int .i64 T.num, .int .i64 T.place, .slice p T.kids.length c] 25)
  obtain ⟨b0, b1, b2, b3, b4⟩ := cells5 hx
  have HX := Lib.hid hx
  have HAl := Lib.hid (fun W (hW : Below w.heap.size w W) => all_lit d (rall_any d) [2, 4] (by decide) (by decide) #[.int .u8 2, .int .u8 4] rfl 2 rfl T.kids _ B W 0 T.kids.length (hks.below (hW.mono hB)) (Nat.le_trans hB hW.size) (Nat.zero_le _) (Nat.le_refl _) hsl.kids)
  rw [all_all (d - 1) [2, 4] T.kids T.kids.length rfl, ← allF_split] at HAl
  have HDp := Lib.hid (fun W (hW : Below w.heap.size w W) => rdeep_any d T _ B W (hv'.below (hW.mono hB)) (Nat.le_trans hB hW.size) hm)
  have HMn := Lib.hid (fun W (hW : Below w.heap.size w W) => rmany_any d T _ B W (hv'.below (hW.mono hB)) (Nat.le_trans hB hW.size) hm)
  have hdl := deepF_le d T
  have HB := Lib.hid hb0
  clear hb0 hx hks hv' hz hsl
  generalize rightF d T = r at *
  generalize allF (d - 1) [2, 4] T.kids = al at *
  have hal0 := HAl.out _ HB.out
  rw [World.size_alloc] at hal0
  have HAl0 := Lib.hid hal0
  clear hal0 HAl
  generalize deepF d T = dp at *
  generalize manyF d T = mn at *
  have hdm : (dp : Int) ≤ 100000 := by omega
  have hmm : (mn : Int) ≤ 100000 := by omega
  go_enter Tryz.func9, Tryz.ntmps9
  have hkk : (T.kind == 1) = ((T.kind : Int) == 1) := nat_eq_int T.kind 1
  rw [hkk] at HR
  clear hkk
  cases hk : ((T.kind : Int) == 1)
  · rw [hk] at HR
    have hk2 : ((T.kind : Int) != 1) = true := by show (!((T.kind : Int) == 1)) = true; rw [hk]; rfl
    go_wp2_with fail
    go_ret
    exact ⟨ret_bool (by rw [HR.out]; rfl), HB.out⟩
  · rw [hk] at HR
    have hk2 : ((T.kind : Int) != 1) = false := by show (!((T.kind : Int) == 1)) = false; rw [hk]; rfl
    cases ht : T.text.toList.isEmpty
    · rw [ht] at HR
      go_wp2_with fail
      go_ret
      exact ⟨ret_bool (by rw [HR.out]; rfl), HB.out⟩
    · rw [ht] at HR
      cases hn : (T.num == 0)
      · rw [hn] at HR
        have hn2 : (T.num != 0) = true := by show (!(T.num == 0)) = true; rw [hn]; rfl
        go_wp2_with fail
        go_ret
        exact ⟨ret_bool (by rw [HR.out]; rfl), HB.out⟩
      · rw [hn] at HR
        have hn2 : (T.num != 0) = false := by show (!(T.num == 0)) = false; rw [hn]; rfl
        by_cases hp : 0 ≤ T.place
        · have hpd : decide (0 ≤ T.place) = true := by simpa using hp
          rw [hpd] at HR
          clear hpd
          go_wp2_with fail
          refine Calls.mono HAl0.out ?_
          rintro e w1 ⟨rfl, hb1⟩
          have HB1 := Lib.hid (HB.out.trans (hb1.mono HB.out.size))
          clear b0 b1 b2 b3 b4
          have hx1 := heap_below hb1 HX.out (by simp)
          have HX1 := Lib.hid hx1
          obtain ⟨b0, b1, b2, b3, b4⟩ := cells5 hx1
          clear hb1 hx1
          cases al
          · go_wp2_with fail
            go_ret
            exact ⟨ret_bool (by rw [HR.out]; rfl), HB1.out⟩
          · go_wp2_with fail
            refine Calls.mono (HDp.out _ HB1.out) ?_
            rintro e w2 ⟨rfl, hb2⟩
            have HB2 := Lib.hid (HB1.out.trans (hb2.mono HB1.out.size))
            clear b0 b1 b2 b3 b4
            obtain ⟨b0, b1, b2, b3, b4⟩ := cells5 (heap_below hb2 HX1.out (Array.getElem?_eq_some_iff.1 HX1.out).1)
            clear hb2
            by_cases hd : (dp : Int) ≤ 30
            · have hdd : decide (dp ≤ 30) = true := by simp; omega
              rw [hdd] at HR
              clear hdd
              go_wp2_with fail
              refine Calls.mono (HMn.out _ HB2.out) ?_
              rintro e w3 ⟨rfl, hb3⟩
              have HB3 := Lib.hid (HB2.out.trans (hb3.mono HB2.out.size))
              clear hb3
              by_cases hm2 : (mn : Int) ≤ 4096
              · have hdd : decide (mn ≤ 4096) = true := by simp; omega
                rw [hdd] at HR
                clear hdd
                go_wp2_with fail
                go_ret
                exact ⟨ret_bool (by rw [HR.out]; first | rfl | (simp; done) | (simp; omega)), HB3.out⟩
              · have hdd : decide (mn ≤ 4096) = false := by simp; omega
                rw [hdd] at HR
                have hm3 : (4096 : Int) < mn := by omega
                clear hdd hm2
                go_wp2_with fail
                go_ret
                exact ⟨ret_bool (by rw [HR.out]; first | rfl | (simp; done) | (simp; omega)), HB3.out⟩
            · have hdd : decide (dp ≤ 30) = false := by simp; omega
              rw [hdd] at HR
              have hd3 : decide ((dp : Int) ≤ 30) = false := by simp; omega
              have hd4 : decide (dp ≤ 30) = false := by simp; omega
              clear hdd hd
              go_wp2_with fail
              go_ret
              exact ⟨ret_bool (by rw [HR.out]; rfl), HB2.out⟩
        · have hpd : decide (0 ≤ T.place) = false := by simpa using hp
          rw [hpd] at HR
          have hp2 : T.place < 0 := by omega
          clear hpd hp
          go_wp2_with fail
          go_ret
          exact ⟨ret_bool (by rw [HR.out]; simp), HB.out⟩
end Go.Proofs.YtfpohaipmnjflaaGreatDoor
/- NodeTells, the law's walk: it answers true, given that the statements are awake. Condition: the library's table of blanks lies as laid. -/
namespace Go.Proofs.YtfpohaipmnjflaaGreatDoor
open Go.RowKit

def Awake : Prop := ∀ W, AsciiTab W → Calls Tryz.prog 17 #[] W (BoolPost true W)
theorem LentNPost.node {d : Nat} {T : Tree} {w w' : World} {e : Ending} (h : LentNPost d T w e w') : ∃ g, e = .returned (.agg #[.int .u8 T.kind, .string T.text, .int .i64 T.num, .int .i64 T.place, .slice (some ⟨g, 0, none⟩) T.kids.length (T.kids.length + 12)]) ∧ Below w.heap.size w w' ∧
    LentAt w' w.heap.size w'.heap.size d T.kids (.slice (some ⟨g, 0, none⟩) T.kids.length (T.kids.length + 12)) := by
  obtain ⟨s, he, hb, hl⟩ := h
  obtain ⟨g, _, _, rfl⟩ := hl.shape
  exact ⟨g, he, hb, hl⟩
set_option maxRecDepth 100000 in
set_option maxHeartbeats 2000000 in
theorem law_nodeTells (hA : Awake) (d : Nat) (T : Tree) (v : Value) (B : Nat) (w : World) (hv : NodeAt w B d T v) (hB : B ≤ w.heap.size) (ht : AsciiTab w) :
    Calls Tryz.prog 16 #[v] w (BoolPost true w) := by
  have hv' := hv
  obtain ⟨hf, s, rfl, hks⟩ := hv
  obtain ⟨p, c, rfl, _, _⟩ := hks.rows
  have hb0 : Below w.heap.size w (w.alloc (.cells #[.int .u8 T.kind, .string T.text, .int .i64 T.num, .int .i64 T.place, .slice p T.kids.length c] 25)) := (Below.refl _ w).alloc (Nat.le_refl _) _
  have hx := heap_alloc_new w (.cells #[.int .u8 T.kind, .string T.text, .int .i64 T.num, .int .i64 T.place, .slice p T.kids.length c] 25)
  obtain ⟨b0, b1, b2, b3, b4⟩ := cells5 hx
  have HX := Lib.hid hx
  have HB := Lib.hid hb0
  have HV := Lib.hid (fun W (hW : Below w.heap.size w W) => hv'.below (hW.mono hB))
  have HBW := Lib.hid (fun W (hW : Below w.heap.size w W) => Nat.le_trans hB hW.size)
  have HT := Lib.hid (fun W (hW : Below w.heap.size w W) => ht.below hW)
  have HA := Lib.hid hA
  have HN := Lib.hid (fun W (hW : Below w.heap.size w W) => nodesOf_any d T _ B W 9000 (HV.out W hW) (HBW.out W hW) (by omega) (by omega))
  have HSl := Lib.hid (slim_of d T 9000 (by omega))
  have HF := Lib.hid hf
  clear hb0 hx hks hv' ht hA hf
  generalize nodesF d T 9000 = nd at *
  go_enter Tryz.func16, Tryz.ntmps16
  go_wp2_with fail
  refine Calls.mono (HN.out _ HB.out) ?_
  rintro e w1 ⟨rfl, hb1⟩
  have HB1 := Lib.hid (HB.out.trans (hb1.mono HB.out.size))
  have HX1 := Lib.hid (heap_below hb1 HX.out (by simp))
  clear b0 b1 b2 b3 b4 hb1
  by_cases h9 : nd ≤ 9000
  · obtain ⟨hmany, hslim⟩ := HSl.out h9
    have hm : manyF d T ≤ 100000 := by omega
    have HSm := Lib.hid hslim
    have HM := Lib.hid hm
    have hx1 := HX1.out
    obtain ⟨b0, b1, b2, b3, b4⟩ := cells5 hx1
    clear hmany hslim hm hx1
    go_wp2_with fail
    refine Calls.mono (lentN_any d T _ B w1 (HV.out _ HB1.out) (HBW.out _ HB1.out) HSm.out.kids) ?_
    intro e w2 hpost
    obtain ⟨g, rfl, hb2, hl⟩ := hpost.node
    clear hpost
    have HB2 := Lib.hid (HB1.out.trans (hb2.mono HB1.out.size))
    have x2 := heap_below hb2 HX1.out (Array.getElem?_eq_some_iff.1 HX1.out).1
    have HX2 := Lib.hid x2
    have HL := Lib.hid hl
    clear b0 b1 b2 b3 b4 hb2 x2 hl
    go_wp2_with fail
    have hba : Below w2.heap.size w2 (w2.alloc (.cells #[.int .u8 T.kind, .string T.text, .int .i64 T.num, .int .i64 T.place, .slice (some ⟨g, 0, none⟩) T.kids.length (T.kids.length + 12)] 25)) := (Below.refl _ w2).alloc (Nat.le_refl _) _
    have y3 := heap_alloc_new w2 (.cells #[.int .u8 T.kind, .string T.text, .int .i64 T.num, .int .i64 T.place, .slice (some ⟨g, 0, none⟩) T.kids.length (T.kids.length + 12)] 25)
    have x3 := heap_below hba HX2.out (Array.getElem?_eq_some_iff.1 HX2.out).1
    have HB3 := Lib.hid (HB2.out.trans (hba.mono HB2.out.size))
    have HL3 := Lib.hid (HL.out.below hba)
    have HS3 := Lib.hid hba.size
    clear hba
    generalize (w2.alloc (.cells #[.int .u8 T.kind, .string T.text, .int .i64 T.num, .int .i64 T.place, .slice (some ⟨g, 0, none⟩) T.kids.length (T.kids.length + 12)] 25)) = w3 at *
    obtain ⟨b0, b1, b2, b3, b4⟩ := cells5 x3
    obtain ⟨m0, m1, m2, m3, m4⟩ := cells5 y3
    have C0 := fun x : Wb w3 => x.cell b0
    have C1 := fun x : Wb w3 => x.cell b1
    have C2 := fun x : Wb w3 => x.cell b2
    have C3 := fun x : Wb w3 => x.cell b3
    have C4 := fun x : Wb w3 => x.cell b4
    have D0 := fun x : Wb w3 => x.cell m0
    have D1 := fun x : Wb w3 => x.cell m1
    have D2 := fun x : Wb w3 => x.cell m2
    have D3 := fun x : Wb w3 => x.cell m3
    have D4 := fun x : Wb w3 => x.cell m4
    have HBx := Lib.hid (fun x : Wb w3 => HB3.out.trans (x.2.mono HB3.out.size))
    have HIn := Lib.hid (fun x : Wb w3 => (⟨HF.out, _, rfl, (HL3.out.below (x.2.mono HS3.out)).kids HSm.out.kids⟩ : NodeAt x.1 w2.heap.size d T (.agg #[.int .u8 T.kind, .string T.text, .int .i64 T.num, .int .i64 T.place, .slice (some ⟨g, 0, none⟩) T.kids.length (T.kids.length + 12)])))
    have HSx := Lib.hid (fun x : Wb w3 => Nat.le_trans HS3.out x.2.size)
    have HR1 := Lib.hid (fun x : Wb w3 => nodeRight_any d T _ _ x.1 (HIn.out x) (HSx.out x) HSm.out (HT.out _ (HBx.out x)))
    have HR2 := Lib.hid (fun x : Wb w3 => rright_any d T _ B x.1 (HV.out _ (HBx.out x)) (HBW.out _ (HBx.out x)) HSm.out HM.out)
    have HD1 := Lib.hid (fun x : Wb w3 => deep_any d T _ _ x.1 (HIn.out x) (HSx.out x) HM.out)
    have HD2 := Lib.hid (fun x : Wb w3 => rdeep_any d T _ B x.1 (HV.out _ (HBx.out x)) (HBW.out _ (HBx.out x)) HM.out)
    have HK := Lib.hid (fun x : Wb w3 => keptN_any d T _ _ _ _ B x.1 HF.out (HL3.out.below (x.2.mono HS3.out)) (HV.out _ (HBx.out x)) (HSx.out x) (HBW.out _ (HBx.out x)) HSm.out.kids)
    have HAw := Lib.hid (fun x : Wb w3 => HA.out x.1 (HT.out _ (HBx.out x)))
    clear b0 b1 b2 b3 b4 m0 m1 m2 m3 m4 x3 y3
    generalize rightF d T = rt at *
    generalize deepF d T = dp at *
    have er : (rt == rt) = true := by simp
    have ed : ((dp : Int) == (dp : Int)) = true := by simp
    refine wp_region_below (by kernel_rfl) (by kernel_rfl) ?_
    repeat (go_big_quiet_step ((first
      | (go_at_call 8; exact Calls.below_of (HR1.out _))
      | (go_at_call 9; exact Calls.below_of (HR2.out _))
      | (go_at_call 15; exact Calls.below_of (HD1.out _))
      | (go_at_call 27; exact Calls.below_of (HD2.out _))
      | (go_at_call 32; exact Calls.below_of (HK.out _))
      | (go_at_call 17; exact Calls.below_of (HAw.out _)))))
    refine wpQuiet_nil ?_
    intro W hw'
    have HBB := Lib.hid (HB3.out.trans ((wb_below hw').mono HB3.out.size))
    clear hw' C0 C1 C2 C3 C4 D0 D1 D2 D3 D4
    go_wp2_with fail
    go_ret
    exact ⟨rfl, HBB.out⟩
  · have h9' : 9000 < nd := by omega
    have HAw := Lib.hid (HA.out w1 (HT.out _ HB1.out))
    clear h9
    go_wp2_with fail
    refine Calls.mono HAw.out ?_
    rintro e w2 ⟨rfl, hb2⟩
    have HB2 := Lib.hid (HB1.out.trans (hb2.mono HB1.out.size))
    clear hb2
    go_wp2_with fail
    go_ret
    exact ⟨rfl, HB2.out⟩
end Go.Proofs.YtfpohaipmnjflaaGreatDoor
