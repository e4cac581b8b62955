/- Several texts joined, each with its own sentence and conditions ahead of it: RShowA, RShowB, RShowC, RShowD, RShowE, RShowF. -/
import Derived.Test.YtoekldhdojpceaaGreatDoorSSA
import Derived.Test.YtoekldhdojpceaaGreatDoorSF
import Derived.Test.YtoekldhdojpceaaGreatDoorSE
import Derived.Test.YtoekldhdojpceaaGreatDoorSSB
import Derived.Test.YtoekldhdojpceaaGreatDoorSL
/- How strongly an expression binds: the reference's word; by contract. No condition. -/
namespace Go.Proofs.YtoekldhdojpceaaGreatDoor
open Go.RowKit
set_option maxRecDepth 100000 in
set_option maxHeartbeats 1000000 in
theorem rbinds_any (d : Nat) (T : Tree) (u : Value) (B : Nat) (w : World) (hu : NodeAt w B d T u) (_hn : T.kids.length ≤ 20000) : Calls Tryz.prog 286 #[u] w fun e w' => e = .returned (.int .i64 (bindsM T : Nat)) ∧ Below w.heap.size w w' := by
  obtain ⟨_, s, rfl, hk⟩ := hu
  obtain ⟨p, c, rfl, _, _⟩ := hk.rows
  clear hk
  obtain ⟨x0, x1, x2, x3, x4⟩ := cells5 (heap_alloc_new w (.cells #[.int .u8 T.kind, .string T.text, .int .i64 T.num, .int .i64 T.place, .slice p T.kids.length c] 25))
  have HB := Lib.hid ((Below.refl _ w).alloc (Nat.le_refl _) (.cells #[.int .u8 T.kind, .string T.text, .int .i64 T.num, .int .i64 T.place, .slice p T.kids.length c] 25))
  have hT : bindsM T = (if T.kind = 16 then
    if T.kids.length = 1 then 6
    else if T.text.toList = [111, 114] then 1
    else if T.text.toList = [97, 110, 100] then 2
    else if T.text.toList = [43] ∨ T.text.toList = [45] then 4
    else if T.text.toList = [42] then 5 else 3
  else 7) := by
    unfold bindsM txL
    rw [ByteArray.toList_eq]
  obtain ⟨m, hm⟩ : ∃ m, bindsM T = m := ⟨_, rfl⟩
  rw [hm] at hT ⊢
  generalize T.kind = kd at *
  generalize T.text = tx at *
  generalize T.kids.length = n at *
  generalize T.num = nu at *
  generalize T.place = pl at *
  have HT := Lib.hid hT
  clear hT hm
  by_cases h1 : kd = 16
  · have e1 := HT.out
    rw [if_pos h1] at e1
    have h1' : ((kd : Int) != 16) = false := by simp; omega
    by_cases h2 : n = 1
    · rw [if_pos h2] at e1
      have h2' : ((n : Int) == 1) = true := by simp; omega
      have HE := Lib.hid e1
      clear e1 h1 h2
      go_enter Tryz.func286, Tryz.ntmps286
      go_wp2_with fail
      go_ret
      exact ⟨by rw [HE.out]; rfl, HB.out⟩
    · rw [if_neg h2] at e1
      have h2' : ((n : Int) == 1) = false := by simp; omega
      by_cases h3 : tx.toList = [111, 114]
      · rw [if_pos h3] at e1
        have HE := Lib.hid e1
        clear e1 h1 h2
        go_enter Tryz.func286, Tryz.ntmps286
        go_wp2_with fail
        go_ret
        exact ⟨by rw [HE.out]; rfl, HB.out⟩
      · rw [if_neg h3] at e1
        have h3' : (tx.toList == [111, 114]) = false := by simpa using h3
        by_cases h4 : tx.toList = [97, 110, 100]
        · rw [if_pos h4] at e1
          have HE := Lib.hid e1
          clear e1 h1 h2
          go_enter Tryz.func286, Tryz.ntmps286
          go_wp2_with fail
          go_ret
          exact ⟨by rw [HE.out]; rfl, HB.out⟩
        · rw [if_neg h4] at e1
          have h4' : (tx.toList == [97, 110, 100]) = false := by simpa using h4
          by_cases h5 : tx.toList = [43]
          · rw [if_pos (Or.inl h5)] at e1
            have HE := Lib.hid e1
            clear e1 h1 h2
            go_enter Tryz.func286, Tryz.ntmps286
            go_wp2_with fail
            go_ret
            exact ⟨by rw [HE.out]; rfl, HB.out⟩
          · have h5' : (tx.toList == [43]) = false := by simpa using h5
            by_cases h6 : tx.toList = [45]
            · rw [if_pos (Or.inr h6)] at e1
              have HE := Lib.hid e1
              clear e1 h1 h2
              go_enter Tryz.func286, Tryz.ntmps286
              go_wp2_with fail
              go_ret
              exact ⟨by rw [HE.out]; rfl, HB.out⟩
            · rw [if_neg (by rintro (h | h); exact h5 h; exact h6 h)] at e1
              have h6' : (tx.toList == [45]) = false := by simpa using h6
              by_cases h7 : tx.toList = [42]
              · rw [if_pos h7] at e1
                have HE := Lib.hid e1
                clear e1 h1 h2
                go_enter Tryz.func286, Tryz.ntmps286
                go_wp2_with fail
                go_ret
                exact ⟨by rw [HE.out]; rfl, HB.out⟩
              · rw [if_neg h7] at e1
                have h7' : (tx.toList == [42]) = false := by simpa using h7
                have HE := Lib.hid e1
                clear e1 h1 h2
                go_enter Tryz.func286, Tryz.ntmps286
                go_wp2_with fail
                go_ret
                exact ⟨by rw [HE.out]; rfl, HB.out⟩
  · have e1 := HT.out
    rw [if_neg h1] at e1
    have h1' : ((kd : Int) != 16) = true := by simp; omega
    have HE := Lib.hid e1
    clear e1 h1
    go_enter Tryz.func286, Tryz.ntmps286
    go_wp2_with fail
    go_ret
    exact ⟨by rw [HE.out]; rfl, HB.out⟩
end Go.Proofs.YtoekldhdojpceaaGreatDoor
/- A tree's text, the reference's: expressions; by contract. Condition: at most 10^9 bytes. -/
namespace Go.Proofs.YtoekldhdojpceaaGreatDoor
open Go.RowKit

/-- bytes as a text -/
def strB (l : List UInt8) : ByteArray := ⟨l.toArray⟩
theorem strB_list (l : List UInt8) : (strB l).data.toList = l := rfl
theorem strB_size (l : List UInt8) : (strB l).size = l.length := by show l.toArray.size = _; simp
def StrP (l : List UInt8) (w : World) (e : Ending) (w' : World) : Prop := e = .returned (.string (strB l)) ∧ Below w.heap.size w w'
theorem strP_of {s : ByteArray} {l : List UInt8} {w w' : World} (h : s.data.toList = l) (hb : Below w.heap.size w w') : StrP l w (.returned (.string s)) w' := by
  refine ⟨?_, hb⟩
  have : s = strB l := by
    apply ByteArray.ext
    apply Array.toList_inj.1
    exact h
  rw [this]
theorem node_lenR {w : World} {B d : Nat} {T : Tree} {u : Value} (h : NodeAt w B d T u) (hs : Slim d T) : T.kids.length ≤ 20000 := by
  cases d with
  | zero => obtain ⟨_, s, _, hk⟩ := h; rw [hk.1]; exact Nat.zero_le _
  | succ d => exact hs.2.1
def RxE (d : Nat) : Prop := ∀ (T : Tree) (u : Value) (B : Nat) (w : World), ExpOk d T → Slim d T → NodeAt w B d T u → B ≤ w.heap.size → (exprS d T).length ≤ 1000000000 → Calls Tryz.prog 269 #[u] w (StrP (exprS d T) w)
def RxO (d : Nat) : Prop := ∀ (T : Tree) (u : Value) (B least : Nat) (w : World), ExpOk d T → Slim d T → NodeAt w B d T u → B ≤ w.heap.size → least ≤ 100 → (inB T least (exprS d T)).length ≤ 1000000000 →
  Calls Tryz.prog 287 #[u, .int .i64 least] w (StrP (inB T least (exprS d T)) w)
theorem inB_ge (T : Tree) (k : Nat) (l : List UInt8) : l.length ≤ (inB T k l).length := by
  unfold inB
  split
  · exact Nat.le_refl _
  · simp only [List.length_append, List.length_cons, List.length_nil]; omega
set_option maxRecDepth 100000 in
set_option maxHeartbeats 1000000 in
theorem rof_of {d : Nat} (hE : RxE d) : RxO d := by
  intro T u B least w he hs hu hB hleast hlen
  have HU := Lib.hid hu
  have hn := node_lenR hu hs
  obtain ⟨_, s, rfl, hk⟩ := hu
  obtain ⟨p, n, c, rfl⟩ := hk.shape
  obtain ⟨w0, hw0⟩ : ∃ w0, w0 = w.alloc (.cells #[.int .u8 T.kind, .string T.text, .int .i64 T.num, .int .i64 T.place, .slice p n c] 25) := ⟨_, rfl⟩
  have hb0 : Below w.heap.size w w0 := by rw [hw0]; exact (Below.refl _ w).alloc (Nat.le_refl _) _
  have HX0 : Hid (w0.heap[w.heap.size]? = some (.cells #[.int .u8 T.kind, .string T.text, .int .i64 T.num, .int .i64 T.place, .slice p n c] 25 (0, 0))) := by show _ = _; rw [hw0]; exact heap_alloc_new w _
  have HBi := Lib.hid (rbinds_any d T _ B w0 (HU.out.below (hb0.mono hB)) hn)
  have hel : (exprS d T).length ≤ 1000000000 := Nat.le_trans (inB_ge T least _) hlen
  have HE2 := Lib.hid (fun W (hW : Below w.heap.size w W) => hE T (.agg #[.int .u8 T.kind, .string T.text, .int .i64 T.num, .int .i64 T.place, .slice p n c]) B W he hs (HU.out.below (hW.mono hB)) (Nat.le_trans hB hW.size) hel)
  have HB0 := Lib.hid hb0
  obtain ⟨ex, hex⟩ : ∃ ex, exprS d T = ex := ⟨_, rfl⟩
  rw [hex] at HE2 hel hlen ⊢
  have HIn : Hid (inB T least ex = if least ≤ bindsM T then ex else [40] ++ (ex ++ [41])) := rfl
  obtain ⟨z, hz⟩ : ∃ z, inB T least ex = z := ⟨_, rfl⟩
  rw [hz] at HIn ⊢
  have hm7 : bindsM T ≤ 7 := by
    unfold bindsM
    repeat' split
    all_goals omega
  generalize bindsM T = m at *
  obtain ⟨st, hst⟩ : ∃ st, strB ex = st := ⟨_, rfl⟩
  have hss : st.size ≤ 1000000000 := by rw [← hst, strB_size]; exact hel
  have HSt : Hid (st.data.toList = ex) := by show _ = _; rw [← hst]; rfl
  unfold StrP at HE2
  rw [hst] at HE2
  clear hex hz he hs hk hE hlen hb0 hel hst
  go_enter Tryz.func287, Tryz.ntmps287
  go_upto_region 1 with fail
  change Code.wp _ _ _ _ (w.alloc _)
  rw [← hw0]
  clear hw0
  obtain ⟨x0, x1, x2, x3, x4⟩ := cells5 HX0.out
  go_wp2_with fail
  refine Calls.mono HBi.out ?_
  rintro e w1 ⟨rfl, hb1⟩
  have HB1 := Lib.hid (HB0.out.trans (hb1.mono HB0.out.size))
  have HX1 := Lib.hid (heap_below hb1 HX0.out (Array.getElem?_eq_some_iff.1 HX0.out).1)
  clear x0 x1 x2 x3 x4 hb1
  obtain ⟨x0, x1, x2, x3, x4⟩ := cells5 HX1.out
  have HC := Lib.hid (HE2.out w1 HB1.out)
  by_cases hc : least ≤ m
  · have hc1 : ¬ ((m : Int) < least) := by omega
    have hc2 : decide (m < least) = false := by simp; omega
    have hz := HIn.out
    rw [if_pos hc] at hz
    have HZ := Lib.hid hz
    clear hz hc
    go_wp2_with fail
    refine Calls.mono HC.out ?_
    rintro e w2 ⟨rfl, h2⟩
    have H2 := Lib.hid (HB1.out.trans (h2.mono HB1.out.size))
    clear h2
    go_wp2_with fail
    go_ret
    exact strP_of (by rw [HZ.out]; exact HSt.out) H2.out
  · have hc1 : ((m : Int) < least) := by omega
    have hc2 : m < least := by omega
    have hz := HIn.out
    rw [if_neg hc] at hz
    have HZ := Lib.hid hz
    clear hz hc
    go_wp2_with fail
    refine Calls.mono HC.out ?_
    rintro e w2 ⟨rfl, h2⟩
    have H2 := Lib.hid (HB1.out.trans (h2.mono HB1.out.size))
    clear h2
    have hz1 : (⟨#[40]⟩ ++ st : ByteArray).size ≤ 1000000001 := by rw [ByteArray.size_append]; show 1 + st.size ≤ _; omega
    go_wp2_with fail
    go_ret
    exact strP_of (by rw [HZ.out]; simp [ByteArray.data_append, HSt.out]) H2.out
end Go.Proofs.YtoekldhdojpceaaGreatDoor
/- A tree's text, the reference's: leaves, operators, whole expressions; by contract. Condition: at most 10^9 bytes. -/
namespace Go.Proofs.YtoekldhdojpceaaGreatDoor
open Go.RowKit

set_option maxRecDepth 100000 in
set_option maxHeartbeats 1000000 in
theorem rexpr_leaf (d : Nat) (T : Tree) (u : Value) (B : Nat) (w : World) (hk : 12 ≤ T.kind ∧ T.kind ≤ 15) (hu : NodeAt w B d T u) (hlen : (leafS T).length ≤ 1000000000) :
    Calls Tryz.prog 269 #[u] w (StrP (leafS T) w) := by
  obtain ⟨_, s, rfl, hks⟩ := hu
  obtain ⟨p, n, c, rfl⟩ := hks.shape
  have HB := Lib.hid ((Below.refl _ w).alloc (Nat.le_refl _) (.cells #[.int .u8 T.kind, .string T.text, .int .i64 T.num, .int .i64 T.place, .slice p n c] 25))
  obtain ⟨x0, x1, x2, x3, x4⟩ := cells5 (heap_alloc_new w (.cells #[.int .u8 T.kind, .string T.text, .int .i64 T.num, .int .i64 T.place, .slice p n c] 25))
  have hL : leafS T = if T.kind = 12 then [95] else if T.kind = 13 then [63] ++ txL T else if T.kind = 15 then [39] ++ txL T else txL T := rfl
  have hts : T.kind ≠ 12 → T.text.size ≤ 1000000000 := fun h12 => by
    have h1 : (txL T).length ≤ (leafS T).length := by
      rw [hL, if_neg h12]
      repeat' split
      all_goals first | omega | (simp only [List.length_append, List.length_cons, List.length_nil]; omega)
    have h2 : (txL T).length = T.text.size := by unfold txL; simp
    omega
  obtain ⟨z, hz⟩ : ∃ z, leafS T = z := ⟨_, rfl⟩
  rw [hz] at hL ⊢
  have HL := Lib.hid hL
  have htx : txL T = T.text.data.toList := rfl
  clear hks hL hz hlen
  generalize T.kind = kd at *
  generalize T.text = tx at *
  generalize T.num = nu at *
  generalize T.place = pl at *
  rw [htx] at HL
  clear htx
  obtain h1 | h1 | h1 | h1 : kd = 12 ∨ kd = 13 ∨ kd = 15 ∨ kd = 14 := by omega
  · have e12 : ((kd : Int) == 12) = true := by simp; omega
    have e13 : ((kd : Int) == 13) = false := by simp; omega
    have e15 : ((kd : Int) == 15) = false := by simp; omega
    have e14 : ((kd : Int) == 14) = false := by simp; omega
    have hz := HL.out
    rw [if_pos h1] at hz
    have HZ := Lib.hid hz
    clear hz h1
    go_enter Tryz.func269, Tryz.ntmps269
    go_wp2_with fail
    go_ret
    exact strP_of (by rw [HZ.out]) HB.out
  · have e12 : ((kd : Int) == 12) = false := by simp; omega
    have e13 : ((kd : Int) == 13) = true := by simp; omega
    have e15 : ((kd : Int) == 15) = false := by simp; omega
    have e14 : ((kd : Int) == 14) = false := by simp; omega
    have hz := HL.out
    rw [if_neg (by omega), if_pos h1] at hz
    have HZ := Lib.hid hz
    have hts := hts (by omega)
    clear hz h1
    go_enter Tryz.func269, Tryz.ntmps269
    go_wp2_with fail
    go_ret
    exact strP_of (by rw [HZ.out]; simp [ByteArray.data_append]) HB.out
  · have e12 : ((kd : Int) == 12) = false := by simp; omega
    have e13 : ((kd : Int) == 13) = false := by simp; omega
    have e15 : ((kd : Int) == 15) = true := by simp; omega
    have e14 : ((kd : Int) == 14) = false := by simp; omega
    have hz := HL.out
    rw [if_neg (by omega), if_neg (by omega), if_pos h1] at hz
    have HZ := Lib.hid hz
    have hts := hts (by omega)
    clear hz h1
    go_enter Tryz.func269, Tryz.ntmps269
    go_wp2_with fail
    go_ret
    exact strP_of (by rw [HZ.out]; simp [ByteArray.data_append]) HB.out
  · have e12 : ((kd : Int) == 12) = false := by simp; omega
    have e13 : ((kd : Int) == 13) = false := by simp; omega
    have e15 : ((kd : Int) == 15) = false := by simp; omega
    have e14 : ((kd : Int) == 14) = true := by simp; omega
    have hz := HL.out
    rw [if_neg (by omega), if_neg (by omega), if_neg (by omega)] at hz
    have HZ := Lib.hid hz
    have hts := hts (by omega)
    clear hz h1
    go_enter Tryz.func269, Tryz.ntmps269
    go_wp2_with fail
    go_ret
    exact strP_of (by rw [HZ.out]) HB.out
set_option maxRecDepth 100000 in
set_option maxHeartbeats 1000000 in
theorem rexpr_one {d : Nat} (hO : RxO d) {T a : Tree} {u : Value} {B : Nat} {w : World} (h16 : T.kind = 16) (ha : T.kids = [a]) (htx : txL T = [45] ∨ txL T = [110, 111, 116]) (he : ExpOk d a) (hs : Slim (d + 1) T) (hu : NodeAt w B (d + 1) T u) (hB : B ≤ w.heap.size)
    (hlen : (exprS (d + 1) T).length ≤ 1000000000) : Calls Tryz.prog 269 #[u] w (StrP (exprS (d + 1) T) w) := by
  have HU := Lib.hid hu
  obtain ⟨_, s, rfl, hk⟩ := hu
  obtain ⟨p, c, rfl, _, hrow⟩ := hk.rows
  obtain ⟨_, bk, off, rfl, hbB, hkid⟩ := hrow 0 a (by rw [ha]; rfl)
  have hn1 : T.kids.length = 1 := by rw [ha]; rfl
  rw [hn1] at HU ⊢
  obtain ⟨w0, hw0⟩ : ∃ w0, w0 = w.alloc (.cells #[.int .u8 T.kind, .string T.text, .int .i64 T.num, .int .i64 T.place, .slice (some ⟨bk, off, none⟩) 1 c] 25) := ⟨_, rfl⟩
  have hb0 : Below w.heap.size w w0 := by rw [hw0]; exact (Below.refl _ w).alloc (Nat.le_refl _) _
  have HX0 : Hid (w0.heap[w.heap.size]? = some (.cells #[.int .u8 T.kind, .string T.text, .int .i64 T.num, .int .i64 T.place, .slice (some ⟨bk, off, none⟩) 1 c] 25 (0, 0))) := by show _ = _; rw [hw0]; exact heap_alloc_new w _
  have HBi := Lib.hid (rbinds_any (d + 1) T _ B w0 (HU.out.below (hb0.mono hB)) (by rw [hn1]; omega))
  have hb6 : bindsM T = 6 := by unfold bindsM; rw [if_pos h16, if_pos hn1]
  rw [hb6] at HBi
  have hsa := hs.2.2 a (by rw [ha]; simp)
  have hE : exprS (d + 1) T = txL T ++ ((if txL T = [110, 111, 116] then [32] else []) ++ inB a 6 (exprS d a)) := by rw [exprS, if_pos h16, ha]
  rw [hE] at hlen
  obtain ⟨E, hEE⟩ : ∃ E, exprS (d + 1) T = E := ⟨_, rfl⟩
  rw [hEE] at hE ⊢
  simp only [List.length_append] at hlen
  have HO := Lib.hid (fun W (hW : Below w.heap.size w W) v (hv : NodeAt W B d a v) => hO a v B 6 W he hsa hv (Nat.le_trans hB hW.size) (by omega) (by omega))
  have HKid := Lib.hid (fun W (hW : Below B w W) => hkid.node hW hbB)
  unfold StrP at HO
  have hzl : (inB a 6 (exprS d a)).length ≤ 1000000000 := by omega
  generalize inB a 6 (exprS d a) = z at *
  have htx' : txL T = T.text.data.toList := rfl
  have hft : T.text.toList = [45] ∨ T.text.toList = [110, 111, 116] := by rw [ByteArray.toList_eq]; exact htx
  rw [htx'] at hE
  have HE := Lib.hid hE
  have HB0 := Lib.hid hb0
  clear hk hrow hkid hE hEE hs hsa hlen htx' htx he hO hn1 HU hb6 hb0
  generalize T.kind = kd at *
  generalize T.text = tx at *
  generalize T.num = nu at *
  generalize T.place = pl at *
  obtain ⟨st, hst⟩ : ∃ st, strB z = st := ⟨_, rfl⟩
  have hss : st.size ≤ 1000000000 := by rw [← hst, strB_size]; exact hzl
  have HSt : Hid (st.data.toList = z) := by show _ = _; rw [← hst]; rfl
  rw [hst] at HO
  clear hst hzl
  have e12 : ((kd : Int) == 12) = false := by simp; omega
  have e13 : ((kd : Int) == 13) = false := by simp; omega
  have e15 : ((kd : Int) == 15) = false := by simp; omega
  have e14 : ((kd : Int) == 14) = false := by simp; omega
  clear h16
  go_enter Tryz.func269, Tryz.ntmps269
  go_upto_region 1 with fail
  change Code.wp _ _ _ _ (w.alloc _)
  rw [← hw0]
  clear hw0
  obtain ⟨x0, x1, x2, x3, x4⟩ := cells5 HX0.out
  go_wp2_with fail
  refine Calls.mono HBi.out ?_
  rintro e w1 ⟨rfl, hb1⟩
  have HB1 := Lib.hid (HB0.out.trans (hb1.mono HB0.out.size))
  have HX1 := Lib.hid (heap_below hb1 HX0.out (Array.getElem?_eq_some_iff.1 HX0.out).1)
  clear x0 x1 x2 x3 x4 hb1
  obtain ⟨x0, x1, x2, x3, x4⟩ := cells5 HX1.out
  obtain ⟨p', l', c', d0, d1, d2, d3, d4, hnode⟩ := HKid.out w1 (HB1.out.mono hB)
  rw [show off + 0 * 5 = off by omega] at d0 d1 d2 d3 d4
  have HC := Lib.hid (HO.out w1 HB1.out _ hnode)
  clear hnode
  rcases hft with hft | hft
  · have hd : tx.data.toList = [45] := by rw [← ByteArray.toList_eq]; exact hft
    have HD := Lib.hid hd
    clear hd
    go_wp2_with fail
    refine Calls.mono HC.out ?_
    rintro e w2 ⟨rfl, h2⟩
    have H2 := Lib.hid (HB1.out.trans (h2.mono HB1.out.size))
    clear h2
    go_wp2_with fail
    go_ret
    exact strP_of (by rw [HE.out, HD.out, if_neg (by decide)]; simp [ByteArray.data_append, HSt.out]) H2.out
  · have hd : tx.data.toList = [110, 111, 116] := by rw [← ByteArray.toList_eq]; exact hft
    have HD := Lib.hid hd
    clear hd
    go_wp2_with fail
    refine Calls.mono HC.out ?_
    rintro e w2 ⟨rfl, h2⟩
    have H2 := Lib.hid (HB1.out.trans (h2.mono HB1.out.size))
    clear h2
    go_wp2_with fail
    go_ret
    exact strP_of (by rw [HE.out, HD.out, if_pos rfl]; simp [ByteArray.data_append, HSt.out]) H2.out
set_option maxRecDepth 100000 in
set_option maxHeartbeats 2000000 in
theorem rexpr_two {d : Nat} (hO : RxO d) {T a a2 : Tree} {u : Value} {B : Nat} {w : World} (h16 : T.kind = 16) (hab : T.kids = [a, a2]) (he : ExpOk d a) (he2 : ExpOk d a2) (hs : Slim (d + 1) T) (hu : NodeAt w B (d + 1) T u) (hB : B ≤ w.heap.size)
    (hlen : (exprS (d + 1) T).length ≤ 1000000000) : Calls Tryz.prog 269 #[u] w (StrP (exprS (d + 1) T) w) := by
  have HU := Lib.hid hu
  obtain ⟨_, s, rfl, hk⟩ := hu
  obtain ⟨p, c, rfl, _, hrow⟩ := hk.rows
  obtain ⟨_, bk, off, rfl, hbB, hkid⟩ := hrow 0 a (by rw [hab]; rfl)
  obtain ⟨_, bk2, off2, hpp, _, hkid2⟩ := hrow 1 a2 (by rw [hab]; rfl)
  have hbo : bk2 = bk ∧ off2 = off := by injection hpp with hpp; injection hpp with h1 h2; exact ⟨h1.symm, h2.symm⟩
  rw [hbo.1, hbo.2] at hkid2
  have hn1 : T.kids.length = 2 := by rw [hab]; rfl
  rw [hn1] at HU ⊢
  obtain ⟨w0, hw0⟩ : ∃ w0, w0 = w.alloc (.cells #[.int .u8 T.kind, .string T.text, .int .i64 T.num, .int .i64 T.place, .slice (some ⟨bk, off, none⟩) 2 c] 25) := ⟨_, rfl⟩
  have hb0 : Below w.heap.size w w0 := by rw [hw0]; exact (Below.refl _ w).alloc (Nat.le_refl _) _
  have HX0 : Hid (w0.heap[w.heap.size]? = some (.cells #[.int .u8 T.kind, .string T.text, .int .i64 T.num, .int .i64 T.place, .slice (some ⟨bk, off, none⟩) 2 c] 25 (0, 0))) := by show _ = _; rw [hw0]; exact heap_alloc_new w _
  have HBi := Lib.hid (rbinds_any (d + 1) T _ B w0 (HU.out.below (hb0.mono hB)) (by rw [hn1]; omega))
  have hsa := hs.2.2 a (by rw [hab]; simp)
  have hsb := hs.2.2 a2 (by rw [hab]; simp)
  have hm15 : 1 ≤ bindsM T ∧ bindsM T ≤ 5 := by
    unfold bindsM
    rw [if_pos h16, if_neg (by rw [hn1]; omega)]
    repeat' split
    all_goals omega
  obtain ⟨m1, m5⟩ := hm15
  have hE : exprS (d + 1) T = inB a (if bindsM T = 3 then 4 else bindsM T) (exprS d a) ++ (([32] ++ (txL T ++ [32])) ++ inB a2 (bindsM T + 1) (exprS d a2)) := by rw [exprS, if_pos h16, hab]
  rw [hE] at hlen
  obtain ⟨E, hEE⟩ : ∃ E, exprS (d + 1) T = E := ⟨_, rfl⟩
  rw [hEE] at hE ⊢
  generalize bindsM T = m at *
  simp only [List.length_append, List.length_cons, List.length_nil] at hlen
  have HO := Lib.hid (fun W (hW : Below w.heap.size w W) v (hv : NodeAt W B d a v) => hO a v B (if m = 3 then 4 else m) W he hsa hv (Nat.le_trans hB hW.size) (by split <;> omega) (by omega))
  have HO2 := Lib.hid (fun W (hW : Below w.heap.size w W) v (hv : NodeAt W B d a2 v) => hO a2 v B (m + 1) W he2 hsb hv (Nat.le_trans hB hW.size) (by omega) (by omega))
  have HKid := Lib.hid (fun W (hW : Below B w W) => hkid.node hW hbB)
  have HKid2 := Lib.hid (fun W (hW : Below B w W) => hkid2.node hW hbB)
  unfold StrP at HO HO2
  have hzl : (inB a (if m = 3 then 4 else m) (exprS d a)).length ≤ 1000000000 := by omega
  have hzl2 : (inB a2 (m + 1) (exprS d a2)).length ≤ 1000000000 := by omega
  generalize inB a (if m = 3 then 4 else m) (exprS d a) = z at *
  generalize inB a2 (m + 1) (exprS d a2) = z2 at *
  have htx' : txL T = T.text.data.toList := rfl
  have hts : T.text.size ≤ 1000000000 := by
    have h2 : (txL T).length = T.text.size := by unfold txL; simp
    omega
  rw [htx'] at hE
  have HE := Lib.hid hE
  have HB0 := Lib.hid hb0
  clear hk hrow hkid hkid2 hE hEE hs hsa hsb hlen htx' he he2 hO hn1 HU hpp hbo hb0
  generalize T.kind = kd at *
  generalize T.text = tx at *
  generalize T.num = nu at *
  generalize T.place = pl at *
  obtain ⟨st, hst⟩ : ∃ st, strB z = st := ⟨_, rfl⟩
  have hss : st.size ≤ 1000000000 := by rw [← hst, strB_size]; exact hzl
  have HSt : Hid (st.data.toList = z) := by show _ = _; rw [← hst]; rfl
  obtain ⟨st2, hst2⟩ : ∃ st, strB z2 = st := ⟨_, rfl⟩
  have hss2 : st2.size ≤ 1000000000 := by rw [← hst2, strB_size]; exact hzl2
  have HSt2 : Hid (st2.data.toList = z2) := by show _ = _; rw [← hst2]; rfl
  rw [hst] at HO
  rw [hst2] at HO2
  clear hst hst2 hzl hzl2
  have e12 : ((kd : Int) == 12) = false := by simp; omega
  have e13 : ((kd : Int) == 13) = false := by simp; omega
  have e15 : ((kd : Int) == 15) = false := by simp; omega
  have e14 : ((kd : Int) == 14) = false := by simp; omega
  clear h16
  have k1 : (st ++ (⟨#[32]⟩ : ByteArray)).size ≤ 1000000001 := by rw [ByteArray.size_append]; show st.size + 1 ≤ _; omega
  have k2 : (st ++ (⟨#[32]⟩ : ByteArray) ++ tx).size ≤ 2000000001 := by rw [ByteArray.size_append]; omega
  have k3 : (st ++ (⟨#[32]⟩ : ByteArray) ++ tx ++ (⟨#[32]⟩ : ByteArray)).size ≤ 2000000002 := by rw [ByteArray.size_append]; show _ + 1 ≤ _; omega
  have hm6 : ((m : Int) == 6) = false := by simp; omega
  obtain ⟨lf, hlf⟩ : ∃ lf, (if m = 3 then 4 else m) = lf := ⟨_, rfl⟩
  rw [hlf] at HO
  have hcase : (m = 3 ∧ lf = 4) ∨ (m ≠ 3 ∧ lf = m) := by
    by_cases h3 : m = 3
    · rw [if_pos h3] at hlf; omega
    · rw [if_neg h3] at hlf; omega
  clear hlf
  rcases hcase with ⟨h3, hl⟩ | ⟨h3, hl⟩
  · have e3 : ((m : Int) == 3) = true := by simp; omega
    rw [hl, show ((4 : Nat) : Int) = 4 from rfl] at HO
    clear h3 hl
    go_enter Tryz.func269, Tryz.ntmps269
    go_upto_region 1 with fail
    change Code.wp _ _ _ _ (w.alloc _)
    rw [← hw0]
    clear hw0
    obtain ⟨x0, x1, x2, x3, x4⟩ := cells5 HX0.out
    go_wp2_with fail
    refine Calls.mono HBi.out ?_
    rintro e w1 ⟨rfl, hb1⟩
    have HB1 := Lib.hid (HB0.out.trans (hb1.mono HB0.out.size))
    have HX1 := Lib.hid (heap_below hb1 HX0.out (Array.getElem?_eq_some_iff.1 HX0.out).1)
    clear x0 x1 x2 x3 x4 hb1
    obtain ⟨x0, x1, x2, x3, x4⟩ := cells5 HX1.out
    obtain ⟨p', l', c', d0, d1, d2, d3, d4, hnode⟩ := HKid.out w1 (HB1.out.mono hB)
    rw [show off + 0 * 5 = off by omega] at d0 d1 d2 d3 d4
    obtain ⟨p2, l2, c2, f0, f1, f2, f3, f4, hnode2⟩ := HKid2.out w1 (HB1.out.mono hB)
    rw [show off + 1 * 5 = off + 5 by omega] at f0 f1 f2 f3 f4
    have HCa := Lib.hid (fun (x : Wb w1) => HO.out x.1 (HB1.out.trans (x.2.mono HB1.out.size)) _ (hnode.below (x.2.mono (Nat.le_trans hB HB1.out.size))))
    have HCb := Lib.hid (fun (x : Wb w1) => HO2.out x.1 (HB1.out.trans (x.2.mono HB1.out.size)) _ (hnode2.below (x.2.mono (Nat.le_trans hB HB1.out.size))))
    rw [Int.natCast_succ] at HCb
    clear hnode hnode2
    have X1 := fun x : Wb w1 => x.cell x1
    have X4 := fun x : Wb w1 => x.cell x4
    have D0 := fun x : Wb w1 => x.cell d0
    have D1 := fun x : Wb w1 => x.cell d1
    have D2 := fun x : Wb w1 => x.cell d2
    have D3 := fun x : Wb w1 => x.cell d3
    have D4 := fun x : Wb w1 => x.cell d4
    have F0 := fun x : Wb w1 => x.cell f0
    have F1 := fun x : Wb w1 => x.cell f1
    have F2 := fun x : Wb w1 => x.cell f2
    have F3 := fun x : Wb w1 => x.cell f3
    have F4 := fun x : Wb w1 => x.cell f4
    clear x0 x1 x2 x3 x4 d0 d1 d2 d3 d4 f0 f1 f2 f3 f4
    go_wp2_with fail
    refine wp_region_below (by kernel_rfl) (by kernel_rfl) ?_
    repeat (go_big_quiet_step ((go_at_call 287; first | with_reducible exact Calls.below_of (HCa.out _) | with_reducible exact Calls.below_of (HCb.out _))))
    refine wpQuiet_nil ?_
    intro W2 hw'
    have hb2 := wb_below hw'
    have H2 := Lib.hid (HB1.out.trans (hb2.mono HB1.out.size))
    clear hb2 X1 X4 D0 D1 D2 D3 D4 F0 F1 F2 F3 F4
    go_wp2_with fail
    go_ret
    exact strP_of (by rw [HE.out]; simp [ByteArray.data_append, HSt.out, HSt2.out]) H2.out
  · have e3 : ((m : Int) == 3) = false := by simp; omega
    rw [hl] at HO
    clear h3 hl
    go_enter Tryz.func269, Tryz.ntmps269
    go_upto_region 1 with fail
    change Code.wp _ _ _ _ (w.alloc _)
    rw [← hw0]
    clear hw0
    obtain ⟨x0, x1, x2, x3, x4⟩ := cells5 HX0.out
    go_wp2_with fail
    refine Calls.mono HBi.out ?_
    rintro e w1 ⟨rfl, hb1⟩
    have HB1 := Lib.hid (HB0.out.trans (hb1.mono HB0.out.size))
    have HX1 := Lib.hid (heap_below hb1 HX0.out (Array.getElem?_eq_some_iff.1 HX0.out).1)
    clear x0 x1 x2 x3 x4 hb1
    obtain ⟨x0, x1, x2, x3, x4⟩ := cells5 HX1.out
    obtain ⟨p', l', c', d0, d1, d2, d3, d4, hnode⟩ := HKid.out w1 (HB1.out.mono hB)
    rw [show off + 0 * 5 = off by omega] at d0 d1 d2 d3 d4
    obtain ⟨p2, l2, c2, f0, f1, f2, f3, f4, hnode2⟩ := HKid2.out w1 (HB1.out.mono hB)
    rw [show off + 1 * 5 = off + 5 by omega] at f0 f1 f2 f3 f4
    have HCa := Lib.hid (fun (x : Wb w1) => HO.out x.1 (HB1.out.trans (x.2.mono HB1.out.size)) _ (hnode.below (x.2.mono (Nat.le_trans hB HB1.out.size))))
    have HCb := Lib.hid (fun (x : Wb w1) => HO2.out x.1 (HB1.out.trans (x.2.mono HB1.out.size)) _ (hnode2.below (x.2.mono (Nat.le_trans hB HB1.out.size))))
    rw [Int.natCast_succ] at HCb
    clear hnode hnode2
    have X1 := fun x : Wb w1 => x.cell x1
    have X4 := fun x : Wb w1 => x.cell x4
    have D0 := fun x : Wb w1 => x.cell d0
    have D1 := fun x : Wb w1 => x.cell d1
    have D2 := fun x : Wb w1 => x.cell d2
    have D3 := fun x : Wb w1 => x.cell d3
    have D4 := fun x : Wb w1 => x.cell d4
    have F0 := fun x : Wb w1 => x.cell f0
    have F1 := fun x : Wb w1 => x.cell f1
    have F2 := fun x : Wb w1 => x.cell f2
    have F3 := fun x : Wb w1 => x.cell f3
    have F4 := fun x : Wb w1 => x.cell f4
    clear x0 x1 x2 x3 x4 d0 d1 d2 d3 d4 f0 f1 f2 f3 f4
    go_wp2_with fail
    refine wp_region_below (by kernel_rfl) (by kernel_rfl) ?_
    repeat (go_big_quiet_step ((go_at_call 287; first | with_reducible exact Calls.below_of (HCa.out _) | with_reducible exact Calls.below_of (HCb.out _))))
    refine wpQuiet_nil ?_
    intro W2 hw'
    have hb2 := wb_below hw'
    have H2 := Lib.hid (HB1.out.trans (hb2.mono HB1.out.size))
    clear hb2 X1 X4 D0 D1 D2 D3 D4 F0 F1 F2 F3 F4
    go_wp2_with fail
    go_ret
    exact strP_of (by rw [HE.out]; simp [ByteArray.data_append, HSt.out, HSt2.out]) H2.out
theorem rxE_all : ∀ d, RxE d := by
  intro d
  induction d with
  | zero => intro T u B w he hs hu hB hlen; exact rexpr_leaf 0 T u B w he hu hlen
  | succ d ih =>
    intro T u B w he hs hu hB hlen
    rcases he with he | ⟨h16, he⟩
    · have e : exprS (d + 1) T = leafS T := by rw [exprS, if_neg (by omega)]
      rw [e] at hlen ⊢
      exact rexpr_leaf _ T u B w he hu hlen
    · rcases he with ⟨a, ha, htx, hea⟩ | ⟨a, a2, hab, hea, heb⟩
      · exact rexpr_one (rof_of ih) h16 ha htx hea hs hu hB hlen
      · exact rexpr_two (rof_of ih) h16 hab hea heb hs hu hB hlen
end Go.Proofs.YtoekldhdojpceaaGreatDoor
/- A tree's text, the reference's: rows, conditions, actions; by contract. Condition: at most 10^9 bytes; the library's table of powers of ten lies as laid. (Printed by tools/genR.py.) -/
namespace Go.Proofs.YtoekldhdojpceaaGreatDoor
open Go.RowKit

def RRowRel (w : World) (f : Tree → List UInt8) (ks : List Tree) (n : Nat) (s i : Value) (W : World) : Prop :=
  ∃ (W1 : World) (k : Nat) (st : ByteArray), W1 = W ∧ k ≤ n ∧ s = .string st ∧ st.data.toList = rowS f (ks.take k) ∧ i = .int .i64 k ∧ Below w.heap.size w W1
theorem size_of_list {s : ByteArray} {l : List UInt8} {N : Nat} (h : s.data.toList = l) (hl : l.length ≤ N) : s.size ≤ N := by
  have : s.size = s.data.toList.length := by simp
  rw [this, h]; exact hl
set_option maxRecDepth 100000 in
set_option maxHeartbeats 1000000 in
theorem rrow_any (d : Nat) (ks : List Tree) (v : Value) (B : Nat) (w : World) (hk : KidsAt w B (d + 1) ks v) (hn9 : ks.length ≤ 20000) (hok : ∀ t ∈ ks, ExpOk d t ∧ Slim d t) (hB : B ≤ w.heap.size) (hlen : (rowS (exprS d) ks).length ≤ 1000000000) :
    Calls Tryz.prog 251 #[v] w (StrP (rowS (exprS d) ks) w) := by
  obtain ⟨p, c, rfl, _, hrow⟩ := hk.rows
  obtain ⟨n, hn⟩ : ∃ n, ks.length = n := ⟨_, rfl⟩
  rw [hn] at hn9 ⊢
  have HN := Lib.hid hn
  have HRow := Lib.hid hrow
  have HOk := Lib.hid hok
  have HLen := Lib.hid (fun (k : Nat) => (show (rowS (exprS d) (ks.take k)).length ≤ 1000000000 from Nat.le_trans (rowS_take_le (exprS d) ks k) hlen))
  have HFull : Hid (rowS (exprS d) (ks.take n) = rowS (exprS d) ks) := by show _ = _; rw [← hn, List.take_length]
  clear hk hrow hok hn hlen
  go_enter Tryz.func251, Tryz.ntmps251
  go_wp2_with fail
  go_loopw [3, 4] (RRowRel w (exprS d) ks n) (fun _ i _ => n - (intOf i).toNat)
  case atStart => exact ⟨_, 0, ⟨#[]⟩, rfl, Nat.zero_le _, rfl, rfl, rfl, Below.refl _ _⟩
  case round =>
    obtain ⟨W1, k, st, rfl, hk, rfl, hst, rfl, hb⟩ := hrel
    have HB1 := Lib.hid hb
    have HSt := Lib.hid hst
    have hss : st.size ≤ 1000000000 := size_of_list hst (HLen.out k)
    clear hb hst
    have hk0 : (0 : Int) ≤ k := by omega
    by_cases hlt : k < n
    · obtain ⟨t, ht⟩ : ∃ t, ks[k]? = some t := ⟨ks[k]'(by rw [HN.out]; exact hlt), List.getElem?_eq_getElem (by rw [HN.out]; exact hlt)⟩
      obtain ⟨_, bk, off, rfl, hbB, hkid⟩ := HRow.out k t ht
      obtain ⟨p', l', c', d0, d1, d2, d3, d4, hnode⟩ := hkid.node (HB1.out.mono hB) hbB
      have hk1 : (k : Int) < n := by omega
      have hNx : rowS (exprS d) (ks.take (k + 1)) = rowS (exprS d) (ks.take k) ++ ((if ks.take k = [] then [] else [44, 32]) ++ exprS d t) := by rw [List.take_add_one, ht]; exact rowS_snoc (exprS d) _ t
      have hl1 := HLen.out (k + 1)
      rw [hNx, List.length_append, List.length_append] at hl1
      have hC := rxE_all d t (.agg #[.int .u8 t.kind, .string t.text, .int .i64 t.num, .int .i64 t.place, .slice p' l' c']) B W1 (HOk.out t (List.mem_of_getElem? ht)).1 (HOk.out t (List.mem_of_getElem? ht)).2 hnode (Nat.le_trans hB HB1.out.size) (by omega)
      unfold StrP at hC
      obtain ⟨s2, hs2⟩ : ∃ s2, strB (exprS d t) = s2 := ⟨_, rfl⟩
      rw [hs2] at hC
      have hs2l : s2.data.toList = exprS d t := by rw [← hs2]; rfl
      have hss2 : s2.size ≤ 1000000000 := size_of_list hs2l (by omega)
      have HS2 := Lib.hid hs2l
      have HC := Lib.hid hC
      have HNx := Lib.hid hNx
      clear hkid hnode ht hNx hl1 hC hs2 hs2l
      have k1 : (st ++ (⟨#[44, 32]⟩ : ByteArray)).size ≤ 1000000002 := by rw [ByteArray.size_append]; show st.size + 2 ≤ _; omega
      by_cases hz : k = 0
      · have hkz : decide ((0 : Int) < k) = false := by simp; omega
        have hkz2 : decide (0 < k) = false := by simp; omega
        have HE : Hid ((st ++ s2).data.toList = rowS (exprS d) (ks.take (k + 1))) := by
          show _ = _
          rw [HNx.out, hz]
          have h0 := HSt.out
          rw [hz] at h0
          simp [ByteArray.data_append, h0, HS2.out]
        clear hz
        go_wp2_with fail
        refine Calls.mono HC.out ?_
        rintro e W2 ⟨rfl, h2⟩
        have H2 := Lib.hid (HB1.out.trans (h2.mono HB1.out.size))
        clear h2
        go_wp2_with fail
        exact ⟨⟨W2, k + 1, _, rfl, by omega, rfl, HE.out, by go_num, H2.out⟩, by simp [intOf]; omega⟩
      · have hkz : (0 : Int) < k := by omega
        have hkz2 : 0 < k := by omega
        have hne : ks.take k ≠ [] := by
          intro e
          have := congrArg List.length e
          rw [List.length_take, HN.out] at this
          simp at this
          omega
        have HE : Hid ((st ++ ⟨#[44, 32]⟩ ++ s2).data.toList = rowS (exprS d) (ks.take (k + 1))) := by
          show _ = _
          rw [HNx.out, if_neg hne]
          simp [ByteArray.data_append, HSt.out, HS2.out]
        clear hz hne
        go_wp2_with fail
        refine Calls.mono HC.out ?_
        rintro e W2 ⟨rfl, h2⟩
        have H2 := Lib.hid (HB1.out.trans (h2.mono HB1.out.size))
        clear h2
        go_wp2_with fail
        exact ⟨⟨W2, k + 1, _, rfl, by omega, rfl, HE.out, by go_num, H2.out⟩, by simp [intOf]; omega⟩
    · obtain rfl : k = n := by omega
      go_wp2_with fail
      go_ret
      exact strP_of (by rw [HSt.out]; exact HFull.out) HB1.out
/-- a part's text, without the blank behind it -/
def partX (d : Nat) (T : Tree) : List UInt8 :=
  (if T.kind = 5 then listS (exprS d) T
   else if T.kind = 6 then [110, 111, 116, 32] ++ listS (exprS d) T
   else if T.kind = 7 then [116, 101, 115, 116, 32] ++ rowS (exprS d) T.kids
   else if T.kind = 8 then [97, 115, 115, 101, 114, 116, 32] ++ listS (exprS d) T
   else if T.kind = 9 then [114, 101, 116, 114, 97, 99, 116, 32] ++ Lib.itoa T.num
   else if T.kind = 10 then [115, 97, 121, 32] ++ rowS (exprS d) T.kids
   else if T.kind = 11 then [104, 97, 108, 116] else [])
theorem partS_X (d : Nat) (T : Tree) : partS d T = partX d T ++ [59, 32] := rfl
set_option maxRecDepth 100000 in
set_option maxHeartbeats 2000000 in
theorem rpart_any (d : Nat) (T : Tree) (u : Value) (B : Nat) (w : World) (hp : PartOk d T) (hs : Slim (d + 1) T) (hu : NodeAt w B (d + 1) T u) (hB : B ≤ w.heap.size) (ht : PowTab w.heap.size w) (hlen : (partS d T).length ≤ 1000000000) :
    Calls Tryz.prog 203 #[u] w (StrP (partX d T ++ [59]) w) := by
  have hok : ∀ t ∈ T.kids, ExpOk d t ∧ Slim d t := fun t ht => ⟨hp.2 t ht, hs.2.2 t ht⟩
  have hn9 := hs.2.1
  have hk511 := hp.1
  rw [partS_X, List.length_append] at hlen
  obtain ⟨hf, s, rfl, hk⟩ := hu
  have hnum : -9223372036854775808 ≤ T.num ∧ T.num < 9223372036854775808 := ⟨hf.2.2.1, hf.2.2.2.1⟩
  have hni := itoa_len hnum.1 hnum.2
  have HK := Lib.hid hk
  obtain ⟨p, n, c, rfl⟩ := hk.shape
  obtain ⟨w0, hw0⟩ : ∃ w0, w0 = w.alloc (.cells #[.int .u8 T.kind, .string T.text, .int .i64 T.num, .int .i64 T.place, .slice p n c] 25) := ⟨_, rfl⟩
  have hb0 : Below w.heap.size w w0 := by rw [hw0]; exact (Below.refl _ w).alloc (Nat.le_refl _) _
  have HX0 : Hid (w0.heap[w.heap.size]? = some (.cells #[.int .u8 T.kind, .string T.text, .int .i64 T.num, .int .i64 T.place, .slice p n c] 25 (0, 0))) := by show _ = _; rw [hw0]; exact heap_alloc_new w _
  have HRow := Lib.hid (fun (hl : (rowS (exprS d) T.kids).length ≤ 1000000000) W (hW : Below w.heap.size w W) => rrow_any d T.kids (.slice p n c) B W (HK.out.below (hW.mono hB)) hn9 hok (Nat.le_trans hB hW.size) hl)
  unfold StrP at HRow
  have HI := Lib.hid (itoa_any T.num hnum.1 hnum.2 w0 (ht w0 hb0))
  have htl : (txL T).length = T.text.size := by unfold txL; simp
  have hlist : listS (exprS d) T = txL T ++ ([40] ++ (rowS (exprS d) T.kids ++ [41])) := rfl
  have hE : partX d T = (if T.kind = 5 then listS (exprS d) T
   else if T.kind = 6 then [110, 111, 116, 32] ++ listS (exprS d) T
   else if T.kind = 7 then [116, 101, 115, 116, 32] ++ rowS (exprS d) T.kids
   else if T.kind = 8 then [97, 115, 115, 101, 114, 116, 32] ++ listS (exprS d) T
   else if T.kind = 9 then [114, 101, 116, 114, 97, 99, 116, 32] ++ Lib.itoa T.num
   else if T.kind = 10 then [115, 97, 121, 32] ++ rowS (exprS d) T.kids
   else if T.kind = 11 then [104, 97, 108, 116] else []) := rfl
  obtain ⟨E, hEE⟩ : ∃ E, partX d T = E := ⟨_, rfl⟩
  rw [hEE] at hlen hE ⊢
  rw [hlist] at hE
  generalize rowS (exprS d) T.kids = z at *
  obtain ⟨st, hst⟩ : ∃ st, strB z = st := ⟨_, rfl⟩
  have HSt : Hid (st.data.toList = z) := by show _ = _; rw [← hst]; rfl
  rw [hst] at HRow
  obtain ⟨si, hsi⟩ : ∃ si, mkS (Lib.itoa T.num) = si := ⟨_, rfl⟩
  have HSi : Hid (si.data.toList = Lib.itoa T.num) := by show _ = _; rw [← hsi]; rfl
  have hsz : si.size ≤ 21 := size_of_list HSi.out hni
  rw [hsi] at HI
  have htx : txL T = T.text.data.toList := rfl
  rw [htx] at hE htl
  have HB0 := Lib.hid hb0
  clear hk HK hEE hlist hp hs hok hn9 hf ht hst hsi htx hni hb0 hnum
  obtain h5 | h5 | h5 | h5 | h5 | h5 | h5 : T.kind = 5 ∨ T.kind = 6 ∨ T.kind = 7 ∨ T.kind = 8 ∨ T.kind = 9 ∨ T.kind = 10 ∨ T.kind = 11 := by omega
  · have e6 : ((T.kind : Int) == 6) = false := by simp; omega
    have e7 : ((T.kind : Int) == 7) = false := by simp; omega
    have e8 : ((T.kind : Int) == 8) = false := by simp; omega
    have e9 : ((T.kind : Int) == 9) = false := by simp; omega
    have e10 : ((T.kind : Int) == 10) = false := by simp; omega
    have e11 : ((T.kind : Int) == 11) = false := by simp; omega
    rw [if_pos h5] at hE
    have HE := Lib.hid hE
    rw [hE] at hlen
    simp only [List.length_append, List.length_cons, List.length_nil] at hlen
    have hz : z.length ≤ 1000000000 := by omega
    have hss : st.size ≤ 1000000000 := size_of_list HSt.out hz
    have HR := Lib.hid (HRow.out hz)
    have htz : T.text.size ≤ 1000000000 := by omega
    have k2 : (T.text ++ (⟨#[40]⟩ : ByteArray)).size ≤ 1000000011 := by rw [ByteArray.size_append]; show _ + 1 ≤ _; omega
    have k3 : (T.text ++ (⟨#[40]⟩ : ByteArray) ++ st).size ≤ 2000000011 := by rw [ByteArray.size_append]; omega
    clear hE hlen h5 hk511 hz htl
    go_enter Tryz.func203, Tryz.ntmps203
    go_upto_region 1 with fail
    change Code.wp _ _ _ _ (w.alloc _)
    rw [← hw0]
    clear hw0
    obtain ⟨x0, x1, x2, x3, x4⟩ := cells5 HX0.out
    have HCx := Lib.hid (fun (x : Wb w0) => HR.out x.1 (HB0.out.trans (x.2.mono HB0.out.size)))
    have X1 := fun x : Wb w0 => x.cell x1
    have X4 := fun x : Wb w0 => x.cell x4
    go_wp2_with fail
    clear x0 x1 x2 x3 x4
    refine wp_region_below (by kernel_rfl) (by kernel_rfl) ?_
    repeat (go_big_quiet_step ((go_at_call 251; with_reducible exact Calls.below_of (HCx.out _))))
    refine wpQuiet_nil ?_
    intro W2 hw'
    have hb2 := wb_below hw'
    have H2 := Lib.hid (HB0.out.trans (hb2.mono HB0.out.size))
    clear hb2 X1 X4
    go_wp2_with fail
    go_ret
    exact strP_of (by rw [HE.out]; simp [ByteArray.data_append, HSt.out]) H2.out
  · have e6 : ((T.kind : Int) == 6) = true := by simp; omega
    have e7 : ((T.kind : Int) == 7) = false := by simp; omega
    have e8 : ((T.kind : Int) == 8) = false := by simp; omega
    have e9 : ((T.kind : Int) == 9) = false := by simp; omega
    have e10 : ((T.kind : Int) == 10) = false := by simp; omega
    have e11 : ((T.kind : Int) == 11) = false := by simp; omega
    rw [if_neg (by omega), if_pos h5] at hE
    have HE := Lib.hid hE
    rw [hE] at hlen
    simp only [List.length_append, List.length_cons, List.length_nil] at hlen
    have hz : z.length ≤ 1000000000 := by omega
    have hss : st.size ≤ 1000000000 := size_of_list HSt.out hz
    have HR := Lib.hid (HRow.out hz)
    have htz : T.text.size ≤ 1000000000 := by omega
    have k1 : ((⟨#[110, 111, 116, 32]⟩ : ByteArray) ++ T.text).size ≤ 1000000010 := by rw [ByteArray.size_append]; show 4 + _ ≤ _; omega
    have k2 : ((⟨#[110, 111, 116, 32]⟩ : ByteArray) ++ T.text ++ (⟨#[40]⟩ : ByteArray)).size ≤ 1000000011 := by rw [ByteArray.size_append]; show _ + 1 ≤ _; omega
    have k3 : ((⟨#[110, 111, 116, 32]⟩ : ByteArray) ++ T.text ++ (⟨#[40]⟩ : ByteArray) ++ st).size ≤ 2000000011 := by rw [ByteArray.size_append]; omega
    clear hE hlen h5 hk511 hz htl
    go_enter Tryz.func203, Tryz.ntmps203
    go_upto_region 1 with fail
    change Code.wp _ _ _ _ (w.alloc _)
    rw [← hw0]
    clear hw0
    obtain ⟨x0, x1, x2, x3, x4⟩ := cells5 HX0.out
    have HCx := Lib.hid (fun (x : Wb w0) => HR.out x.1 (HB0.out.trans (x.2.mono HB0.out.size)))
    have X1 := fun x : Wb w0 => x.cell x1
    have X4 := fun x : Wb w0 => x.cell x4
    go_wp2_with fail
    clear x0 x1 x2 x3 x4
    refine wp_region_below (by kernel_rfl) (by kernel_rfl) ?_
    repeat (go_big_quiet_step ((go_at_call 251; with_reducible exact Calls.below_of (HCx.out _))))
    refine wpQuiet_nil ?_
    intro W2 hw'
    have hb2 := wb_below hw'
    have H2 := Lib.hid (HB0.out.trans (hb2.mono HB0.out.size))
    clear hb2 X1 X4
    go_wp2_with fail
    go_ret
    exact strP_of (by rw [HE.out]; simp [ByteArray.data_append, HSt.out]) H2.out
  · have e6 : ((T.kind : Int) == 6) = false := by simp; omega
    have e7 : ((T.kind : Int) == 7) = true := by simp; omega
    have e8 : ((T.kind : Int) == 8) = false := by simp; omega
    have e9 : ((T.kind : Int) == 9) = false := by simp; omega
    have e10 : ((T.kind : Int) == 10) = false := by simp; omega
    have e11 : ((T.kind : Int) == 11) = false := by simp; omega
    rw [if_neg (by omega), if_neg (by omega), if_pos h5] at hE
    have HE := Lib.hid hE
    rw [hE] at hlen
    simp only [List.length_append, List.length_cons, List.length_nil] at hlen
    have hz : z.length ≤ 1000000000 := by omega
    have hss : st.size ≤ 1000000000 := size_of_list HSt.out hz
    have HR := Lib.hid (HRow.out hz)
    have k1 : ((⟨#[116, 101, 115, 116, 32]⟩ : ByteArray) ++ st).size ≤ 1000000010 := by rw [ByteArray.size_append]; show 5 + _ ≤ _; omega
    clear hE hlen h5 hk511 hz htl
    go_enter Tryz.func203, Tryz.ntmps203
    go_upto_region 1 with fail
    change Code.wp _ _ _ _ (w.alloc _)
    rw [← hw0]
    clear hw0
    obtain ⟨x0, x1, x2, x3, x4⟩ := cells5 HX0.out
    have HC := Lib.hid (HR.out w0 HB0.out)
    go_wp2_with fail
    refine Calls.mono HC.out ?_
    rintro e w2 ⟨rfl, h2⟩
    have H2 := Lib.hid (HB0.out.trans (h2.mono HB0.out.size))
    clear h2 x0 x1 x2 x3 x4
    go_wp2_with fail
    go_ret
    exact strP_of (by rw [HE.out]; simp [ByteArray.data_append, HSt.out]) H2.out
  · have e6 : ((T.kind : Int) == 6) = false := by simp; omega
    have e7 : ((T.kind : Int) == 7) = false := by simp; omega
    have e8 : ((T.kind : Int) == 8) = true := by simp; omega
    have e9 : ((T.kind : Int) == 9) = false := by simp; omega
    have e10 : ((T.kind : Int) == 10) = false := by simp; omega
    have e11 : ((T.kind : Int) == 11) = false := by simp; omega
    rw [if_neg (by omega), if_neg (by omega), if_neg (by omega), if_pos h5] at hE
    have HE := Lib.hid hE
    rw [hE] at hlen
    simp only [List.length_append, List.length_cons, List.length_nil] at hlen
    have hz : z.length ≤ 1000000000 := by omega
    have hss : st.size ≤ 1000000000 := size_of_list HSt.out hz
    have HR := Lib.hid (HRow.out hz)
    have htz : T.text.size ≤ 1000000000 := by omega
    have k1 : ((⟨#[97, 115, 115, 101, 114, 116, 32]⟩ : ByteArray) ++ T.text).size ≤ 1000000010 := by rw [ByteArray.size_append]; show 7 + _ ≤ _; omega
    have k2 : ((⟨#[97, 115, 115, 101, 114, 116, 32]⟩ : ByteArray) ++ T.text ++ (⟨#[40]⟩ : ByteArray)).size ≤ 1000000011 := by rw [ByteArray.size_append]; show _ + 1 ≤ _; omega
    have k3 : ((⟨#[97, 115, 115, 101, 114, 116, 32]⟩ : ByteArray) ++ T.text ++ (⟨#[40]⟩ : ByteArray) ++ st).size ≤ 2000000011 := by rw [ByteArray.size_append]; omega
    clear hE hlen h5 hk511 hz htl
    go_enter Tryz.func203, Tryz.ntmps203
    go_upto_region 1 with fail
    change Code.wp _ _ _ _ (w.alloc _)
    rw [← hw0]
    clear hw0
    obtain ⟨x0, x1, x2, x3, x4⟩ := cells5 HX0.out
    have HCx := Lib.hid (fun (x : Wb w0) => HR.out x.1 (HB0.out.trans (x.2.mono HB0.out.size)))
    have X1 := fun x : Wb w0 => x.cell x1
    have X4 := fun x : Wb w0 => x.cell x4
    go_wp2_with fail
    clear x0 x1 x2 x3 x4
    refine wp_region_below (by kernel_rfl) (by kernel_rfl) ?_
    repeat (go_big_quiet_step ((go_at_call 251; with_reducible exact Calls.below_of (HCx.out _))))
    refine wpQuiet_nil ?_
    intro W2 hw'
    have hb2 := wb_below hw'
    have H2 := Lib.hid (HB0.out.trans (hb2.mono HB0.out.size))
    clear hb2 X1 X4
    go_wp2_with fail
    go_ret
    exact strP_of (by rw [HE.out]; simp [ByteArray.data_append, HSt.out]) H2.out
  · have e6 : ((T.kind : Int) == 6) = false := by simp; omega
    have e7 : ((T.kind : Int) == 7) = false := by simp; omega
    have e8 : ((T.kind : Int) == 8) = false := by simp; omega
    have e9 : ((T.kind : Int) == 9) = true := by simp; omega
    have e10 : ((T.kind : Int) == 10) = false := by simp; omega
    have e11 : ((T.kind : Int) == 11) = false := by simp; omega
    rw [if_neg (by omega), if_neg (by omega), if_neg (by omega), if_neg (by omega), if_pos h5] at hE
    have HE := Lib.hid hE
    rw [hE] at hlen
    simp only [List.length_append, List.length_cons, List.length_nil] at hlen
    have k1 : ((⟨#[114, 101, 116, 114, 97, 99, 116, 32]⟩ : ByteArray) ++ si).size ≤ 1000 := by rw [ByteArray.size_append]; show 8 + _ ≤ _; omega
    clear hE hlen h5 hk511 htl
    go_enter Tryz.func203, Tryz.ntmps203
    go_upto_region 1 with fail
    change Code.wp _ _ _ _ (w.alloc _)
    rw [← hw0]
    clear hw0
    obtain ⟨x0, x1, x2, x3, x4⟩ := cells5 HX0.out
    go_wp2_with fail
    refine Calls.mono HI.out ?_
    rintro e w2 ⟨rfl, h2⟩
    have H2 := Lib.hid (HB0.out.trans (h2.mono HB0.out.size))
    clear h2 x0 x1 x2 x3 x4
    go_wp2_with fail
    go_ret
    exact strP_of (by rw [HE.out]; simp [ByteArray.data_append, HSi.out]) H2.out
  · have e6 : ((T.kind : Int) == 6) = false := by simp; omega
    have e7 : ((T.kind : Int) == 7) = false := by simp; omega
    have e8 : ((T.kind : Int) == 8) = false := by simp; omega
    have e9 : ((T.kind : Int) == 9) = false := by simp; omega
    have e10 : ((T.kind : Int) == 10) = true := by simp; omega
    have e11 : ((T.kind : Int) == 11) = false := by simp; omega
    rw [if_neg (by omega), if_neg (by omega), if_neg (by omega), if_neg (by omega), if_neg (by omega), if_pos h5] at hE
    have HE := Lib.hid hE
    rw [hE] at hlen
    simp only [List.length_append, List.length_cons, List.length_nil] at hlen
    have hz : z.length ≤ 1000000000 := by omega
    have hss : st.size ≤ 1000000000 := size_of_list HSt.out hz
    have HR := Lib.hid (HRow.out hz)
    have k1 : ((⟨#[115, 97, 121, 32]⟩ : ByteArray) ++ st).size ≤ 1000000010 := by rw [ByteArray.size_append]; show 4 + _ ≤ _; omega
    clear hE hlen h5 hk511 hz htl
    go_enter Tryz.func203, Tryz.ntmps203
    go_upto_region 1 with fail
    change Code.wp _ _ _ _ (w.alloc _)
    rw [← hw0]
    clear hw0
    obtain ⟨x0, x1, x2, x3, x4⟩ := cells5 HX0.out
    have HC := Lib.hid (HR.out w0 HB0.out)
    go_wp2_with fail
    refine Calls.mono HC.out ?_
    rintro e w2 ⟨rfl, h2⟩
    have H2 := Lib.hid (HB0.out.trans (h2.mono HB0.out.size))
    clear h2 x0 x1 x2 x3 x4
    go_wp2_with fail
    go_ret
    exact strP_of (by rw [HE.out]; simp [ByteArray.data_append, HSt.out]) H2.out
  · have e6 : ((T.kind : Int) == 6) = false := by simp; omega
    have e7 : ((T.kind : Int) == 7) = false := by simp; omega
    have e8 : ((T.kind : Int) == 8) = false := by simp; omega
    have e9 : ((T.kind : Int) == 9) = false := by simp; omega
    have e10 : ((T.kind : Int) == 10) = false := by simp; omega
    have e11 : ((T.kind : Int) == 11) = true := by simp; omega
    rw [if_neg (by omega), if_neg (by omega), if_neg (by omega), if_neg (by omega), if_neg (by omega), if_neg (by omega), if_pos h5] at hE
    have HE := Lib.hid hE
    rw [hE] at hlen
    clear hE hlen h5 hk511 htl
    go_enter Tryz.func203, Tryz.ntmps203
    go_upto_region 1 with fail
    change Code.wp _ _ _ _ (w.alloc _)
    rw [← hw0]
    clear hw0
    obtain ⟨x0, x1, x2, x3, x4⟩ := cells5 HX0.out
    go_wp2_with fail
    go_ret
    exact strP_of (by rw [HE.out]; rfl) HB0.out
end Go.Proofs.YtoekldhdojpceaaGreatDoor
/- A tree's text, the reference's: types and rules; by contract. Condition: at most 10^9 bytes; the library's table of powers of ten lies as laid. -/
namespace Go.Proofs.YtoekldhdojpceaaGreatDoor
open Go.RowKit

/-- a declaration's text, without the line's end -/
def declX (d : Nat) (T : Tree) : List UInt8 :=
  if T.kind = 4 then ([114, 117, 108, 101, 32] ++ txL T) ++ (salS T.num ++ ([32, 123, 32] ++ (partsS d (T.kids.takeWhile condB) ++ ([61, 62, 32] ++ (partsS d (T.kids.dropWhile condB) ++ [125])))))
  else [102, 97, 99, 116, 32] ++ (listS txL T ++ [59])
theorem declS_X (d : Nat) (T : Tree) : declS d T = declX d T ++ [10] := by
  unfold declS declX ruleS
  split <;> simp
def RFieldRel (w : World) (pre : List UInt8) (ks : List Tree) (n : Nat) (s i : Value) (W : World) : Prop :=
  ∃ (W1 : World) (k : Nat) (st : ByteArray), W1 = W ∧ k ≤ n ∧ s = .string st ∧ st.data.toList = pre ++ rowS txL (ks.take k) ∧ i = .int .i64 k ∧ Below w.heap.size w W1
set_option maxRecDepth 100000 in
set_option maxHeartbeats 2000000 in
theorem rtype_any (d : Nat) (T : Tree) (u : Value) (B : Nat) (w : World) (h2 : T.kind = 2) (hs : Slim (d + 2) T) (hu : NodeAt w B (d + 2) T u) (hB : B ≤ w.heap.size) (hlen : (declS d T).length ≤ 1000000000) :
    Calls Tryz.prog 114 #[u] w (StrP (declX d T) w) := by
  have hn9 := hs.2.1
  obtain ⟨_, s, rfl, hk⟩ := hu
  obtain ⟨p, c, rfl, _, hrow⟩ := hk.rows
  obtain ⟨n, hn⟩ : ∃ n, T.kids.length = n := ⟨_, rfl⟩
  rw [hn] at hn9 ⊢
  have HN := Lib.hid hn
  have HRow := Lib.hid hrow
  obtain ⟨w0, hw0⟩ : ∃ w0, w0 = w.alloc (.cells #[.int .u8 T.kind, .string T.text, .int .i64 T.num, .int .i64 T.place, .slice p n c] 25) := ⟨_, rfl⟩
  have hb0 : Below w.heap.size w w0 := by rw [hw0]; exact (Below.refl _ w).alloc (Nat.le_refl _) _
  have HX0 : Hid (w0.heap[w.heap.size]? = some (.cells #[.int .u8 T.kind, .string T.text, .int .i64 T.num, .int .i64 T.place, .slice p n c] 25 (0, 0))) := by show _ = _; rw [hw0]; exact heap_alloc_new w _
  have hE : declX d T = [102, 97, 99, 116, 32] ++ ((txL T ++ ([40] ++ (rowS txL T.kids ++ [41]))) ++ [59]) := by unfold declX; rw [if_neg (by omega)]; rfl
  rw [declS_X] at hlen
  have htl : (txL T).length = T.text.size := by unfold txL; simp
  have hl2 := hlen
  rw [hE] at hl2
  simp only [List.length_append, List.length_cons, List.length_nil] at hl2
  have htz : T.text.size ≤ 1000000000 := by omega
  have HLen := Lib.hid (fun (k : Nat) => (show (([102, 97, 99, 116, 32] ++ txL T ++ [40]) ++ rowS txL (T.kids.take k)).length ≤ 1000000000 by
    have := rowS_take_le txL T.kids k
    simp only [List.length_append, List.length_cons, List.length_nil]
    omega))
  obtain ⟨E, hEE⟩ : ∃ E, declX d T = E := ⟨_, rfl⟩
  rw [hEE] at hE ⊢
  obtain ⟨pre, hpre⟩ : ∃ pre, [102, 97, 99, 116, 32] ++ txL T ++ [40] = pre := ⟨_, rfl⟩
  rw [hpre] at HLen
  have HE : Hid (E = pre ++ (rowS txL T.kids ++ [41, 59])) := by show _ = _; rw [hE, ← hpre]; simp
  have hpt : ((⟨#[102, 97, 99, 116, 32]⟩ : ByteArray) ++ T.text ++ (⟨#[40]⟩ : ByteArray)).data.toList = pre := by
    rw [← hpre]; simp [ByteArray.data_append, txL]
  have HPt := Lib.hid hpt
  have HFull : Hid (rowS txL (T.kids.take n) = rowS txL T.kids) := by show _ = _; rw [← hn, List.take_length]
  have HB0 := Lib.hid hb0
  have e2 : ((T.kind : Int) == 2) = true := by simp; omega
  have k1 : ((⟨#[102, 97, 99, 116, 32]⟩ : ByteArray) ++ T.text).size ≤ 1000000005 := by rw [ByteArray.size_append]; show 5 + _ ≤ _; omega
  have hks : ∃ ks, T.kids = ks := ⟨_, rfl⟩
  obtain ⟨ks, hks⟩ := hks
  rw [hks] at HN HRow HLen HE HFull
  clear hk hrow hE hEE hs hn h2 hb0 hl2 hlen htl hpre hpt hks
  go_enter Tryz.func114, Tryz.ntmps114
  go_upto_region 1 with fail
  change Code.wp _ _ _ _ (w.alloc _)
  rw [← hw0]
  clear hw0
  obtain ⟨x0, x1, x2, x3, x4⟩ := cells5 HX0.out
  go_wp2_with fail
  clear x0 x1 x2 x3 x4
  go_loopw [3, 4] (RFieldRel w0 pre ks n) (fun _ i _ => n - (intOf i).toNat)
  case atStart => exact ⟨_, 0, _, rfl, Nat.zero_le _, rfl, by rw [HPt.out]; simp [rowS], rfl, Below.refl _ _⟩
  case round =>
    obtain ⟨W1, k, st, rfl, hk, rfl, hst, rfl, hb⟩ := hrel
    have HB1 := Lib.hid (HB0.out.trans (hb.mono HB0.out.size))
    have HX1 := Lib.hid (heap_below hb HX0.out (Array.getElem?_eq_some_iff.1 HX0.out).1)
    have HBr := Lib.hid hb
    have HSt := Lib.hid hst
    have hss : st.size ≤ 1000000000 := size_of_list hst (HLen.out k)
    clear hb hst
    have hk0 : (0 : Int) ≤ k := by omega
    obtain ⟨x0, x1, x2, x3, x4⟩ := cells5 HX1.out
    by_cases hlt : k < n
    · obtain ⟨t, ht⟩ : ∃ t, ks[k]? = some t := ⟨ks[k]'(by rw [HN.out]; exact hlt), List.getElem?_eq_getElem (by rw [HN.out]; exact hlt)⟩
      obtain ⟨_, bk, off, rfl, hbB, hkid⟩ := HRow.out k t ht
      obtain ⟨p', l', c', d0, d1, d2, d3, d4, hnode⟩ := hkid.node (HB1.out.mono hB) hbB
      have hk1 : (k : Int) < n := by omega
      have hNx : rowS txL (ks.take (k + 1)) = rowS txL (ks.take k) ++ ((if ks.take k = [] then [] else [44, 32]) ++ txL t) := by rw [List.take_add_one, ht]; exact rowS_snoc txL _ t
      have hl1 := HLen.out (k + 1)
      rw [hNx, List.length_append, List.length_append, List.length_append] at hl1
      have htl2 : (txL t).length = t.text.size := by unfold txL; simp
      have htz2 : t.text.size ≤ 1000000000 := by omega
      have HNx := Lib.hid hNx
      clear hkid hnode ht hNx hl1 htl2
      have k1 : (st ++ (⟨#[44, 32]⟩ : ByteArray)).size ≤ 1000000002 := by rw [ByteArray.size_append]; show st.size + 2 ≤ _; omega
      by_cases hz : k = 0
      · have hkz : decide ((0 : Int) < k) = false := by simp; omega
        have hkz2 : decide (0 < k) = false := by simp; omega
        have HEq : Hid ((st ++ t.text).data.toList = pre ++ rowS txL (ks.take (k + 1))) := by
          show _ = _
          rw [HNx.out, hz]
          have h0 := HSt.out
          rw [hz] at h0
          simp [ByteArray.data_append, h0, txL]
        clear hz
        go_wp2_with fail
        exact ⟨⟨W1, k + 1, _, rfl, by omega, rfl, HEq.out, by go_num, HBr.out⟩, by simp [intOf]; omega⟩
      · have hkz : (0 : Int) < k := by omega
        have hkz2 : 0 < k := by omega
        have hne : ks.take k ≠ [] := by
          intro e
          have := congrArg List.length e
          rw [List.length_take, HN.out] at this
          simp at this
          omega
        have HEq : Hid ((st ++ ⟨#[44, 32]⟩ ++ t.text).data.toList = pre ++ rowS txL (ks.take (k + 1))) := by
          show _ = _
          rw [HNx.out, if_neg hne]
          simp [ByteArray.data_append, HSt.out, txL]
        clear hz hne
        go_wp2_with fail
        exact ⟨⟨W1, k + 1, _, rfl, by omega, rfl, HEq.out, by go_num, HBr.out⟩, by simp [intOf]; omega⟩
    · obtain rfl : k = n := by omega
      go_wp2_with fail
      go_ret
      exact strP_of (by rw [HE.out, ← HFull.out]; simp [ByteArray.data_append, HSt.out]) HB1.out
theorem parts_filter_le (d : Nat) (p : Tree → Bool) : ∀ l : List Tree, (partsS d (l.filter p)).length ≤ (partsS d l).length := by
  intro l
  induction l with
  | nil => exact Nat.le_refl _
  | cons x l ih =>
    have e : ∀ (y : Tree) (r : List Tree), (partsS d (y :: r)).length = (partS d y).length + (partsS d r).length := fun y r => by
      show ((y :: r).map (partS d)).flatten.length = _
      rw [List.map_cons, List.flatten_cons, List.length_append]; rfl
    rw [List.filter_cons]
    split
    · rw [e, e]; omega
    · rw [e]; omega
theorem filter_all {p : Tree → Bool} {l : List Tree} (h : ∀ x ∈ l, p x = true) : l.filter p = l := List.filter_eq_self.2 h
theorem filter_none {p : Tree → Bool} {l : List Tree} (h : ∀ x ∈ l, p x = false) : l.filter p = [] := List.filter_eq_nil_iff.2 (fun x hx => by rw [h x hx]; decide)
/-- conditions and actions, told apart -/
theorem rule_split {d : Nat} {T : Tree} (h : RuleOk' d T) : T.kids.filter condB = T.kids.takeWhile condB ∧ T.kids.filter (fun t => !condB t) = T.kids.dropWhile condB := by
  have h1 : ∀ x ∈ T.kids.takeWhile condB, condB x = true := fun x hx => takeWhile_all condB _ x hx
  have h2 : ∀ x ∈ T.kids.dropWhile condB, condB x = false := fun x hx => by
    have := h.2.2 x hx
    cases hc : condB x with
    | false => rfl
    | true => have := (condB_iff x).1 hc; omega
  have e := List.takeWhile_append_dropWhile (p := condB) (l := T.kids)
  constructor
  · conv => lhs; rw [← e]
    rw [List.filter_append, filter_all h1, filter_none h2, List.append_nil]
  · conv => lhs; rw [← e]
    rw [List.filter_append, filter_none (fun x hx => by rw [h1 x hx]; rfl), filter_all (fun x hx => by rw [h2 x hx]; rfl), List.nil_append]
def RRuleRel (w : World) (d : Nat) (ks : List Tree) (n : Nat) (cv av i : Value) (W : World) : Prop :=
  ∃ (W1 : World) (k : Nat) (cs az : ByteArray), W1 = W ∧ k ≤ n ∧ cv = .string cs ∧ av = .string az ∧ cs.data.toList = partsS d ((ks.take k).filter condB) ∧ az.data.toList = partsS d ((ks.take k).filter fun t => !condB t) ∧ i = .int .i64 k ∧ Below w.heap.size w W1
set_option maxRecDepth 100000 in
set_option maxHeartbeats 4000000 in
theorem rrule_any (d : Nat) (T : Tree) (u : Value) (B : Nat) (w : World) (h4 : T.kind = 4) (hp : RuleOk' d T) (hs : Slim (d + 2) T) (hu : NodeAt w B (d + 2) T u) (hB : B ≤ w.heap.size) (ht : PowTab w.heap.size w) (hlen : (declS d T).length ≤ 1000000000) :
    Calls Tryz.prog 114 #[u] w (StrP (declX d T) w) := by
  have hn9 := hs.2.1
  obtain ⟨hf, s, rfl, hk⟩ := hu
  have hnum : -9223372036854775808 ≤ T.num ∧ T.num < 9223372036854775808 := ⟨hf.2.2.1, hf.2.2.2.1⟩
  have hni := itoa_len hnum.1 hnum.2
  obtain ⟨p, c, rfl, _, hrow⟩ := hk.rows
  obtain ⟨n, hn⟩ : ∃ n, T.kids.length = n := ⟨_, rfl⟩
  rw [hn] at hn9 ⊢
  have HN := Lib.hid hn
  have HRow := Lib.hid hrow
  obtain ⟨w0, hw0⟩ : ∃ w0, w0 = w.alloc (.cells #[.int .u8 T.kind, .string T.text, .int .i64 T.num, .int .i64 T.place, .slice p n c] 25) := ⟨_, rfl⟩
  have hb0 : Below w.heap.size w w0 := by rw [hw0]; exact (Below.refl _ w).alloc (Nat.le_refl _) _
  have HX0 : Hid (w0.heap[w.heap.size]? = some (.cells #[.int .u8 T.kind, .string T.text, .int .i64 T.num, .int .i64 T.place, .slice p n c] 25 (0, 0))) := by show _ = _; rw [hw0]; exact heap_alloc_new w _
  obtain ⟨hf1, hf2⟩ := rule_split hp
  have hE : declX d T = ([114, 117, 108, 101, 32] ++ txL T) ++ (salS T.num ++ ([32, 123, 32] ++ (partsS d (T.kids.filter condB) ++ ([61, 62, 32] ++ (partsS d (T.kids.filter fun t => !condB t) ++ [125]))))) := by
    unfold declX; rw [if_pos h4, hf1, hf2]
  have hsum : (partsS d T.kids).length = (partsS d (T.kids.filter condB)).length + (partsS d (T.kids.filter fun t => !condB t)).length := by
    rw [hf1, hf2, ← List.length_append, ← partsS_app, List.takeWhile_append_dropWhile]
  rw [declS_X] at hlen
  rw [hE] at hlen
  simp only [List.length_append, List.length_cons, List.length_nil] at hlen
  have htl : (txL T).length = T.text.size := by unfold txL; simp
  have htz : T.text.size ≤ 1000000000 := by omega
  have HLen := Lib.hid (fun (k : Nat) (q : Tree → Bool) => (show (partsS d ((T.kids.take k).filter q)).length ≤ 1000000000 by
    have h1 := parts_filter_le d q (T.kids.take k)
    have h2 := partsS_take_le d T.kids k
    omega))
  have hmemlen : ∀ t ∈ T.kids, (partS d t).length ≤ 1000000000 := fun t hm => by
    obtain ⟨i, hi⟩ := List.mem_iff_getElem?.1 hm
    have h1 := partsS_next d hi
    have h2 := partsS_take_le d T.kids (i + 1)
    rw [h1, List.length_append] at h2
    omega
  have HPart := Lib.hid (fun (t : Tree) (v : Value) (W : World) (hm : t ∈ T.kids) (hW : Below w.heap.size w W) (hv : NodeAt W B (d + 1) t v) => rpart_any d t v B W (hp.1 t hm) (hs.2.2 t hm) hv (Nat.le_trans hB hW.size) (fun w2 h2 => ht w2 (hW.trans (h2.mono hW.size))) (hmemlen t hm))
  have HI := Lib.hid (itoa_any T.num hnum.1 hnum.2 w0 (ht w0 hb0))
  unfold StrP at HPart
  have HKd := Lib.hid (fun (t : Tree) (hm : t ∈ T.kids) => (hp.1 t hm).1)
  have HML := Lib.hid hmemlen
  obtain ⟨E, hEE⟩ : ∃ E, declX d T = E := ⟨_, rfl⟩
  rw [hEE] at hE ⊢
  have htx : txL T = T.text.data.toList := rfl
  rw [htx] at hE
  have HE := Lib.hid hE
  have HB0 := Lib.hid hb0
  have e2 : ((T.kind : Int) == 2) = false := by simp; omega
  obtain ⟨si, hsi⟩ : ∃ si, mkS (Lib.itoa T.num) = si := ⟨_, rfl⟩
  have HSi : Hid (si.data.toList = Lib.itoa T.num) := by show _ = _; rw [← hsi]; rfl
  have hsz : si.size ≤ 21 := size_of_list HSi.out hni
  rw [hsi] at HI
  have HNi := Lib.hid hni
  obtain ⟨ks, hks⟩ : ∃ ks, T.kids = ks := ⟨_, rfl⟩
  rw [hks] at HN HRow HLen HE HPart HKd HML
  clear hk hrow hE hEE hs hn h4 hb0 hlen htl hks hf1 hf2 hsum htx hsi hni hnum hf hp ht hmemlen
  generalize T.kind = kd at *
  generalize T.text = tx at *
  generalize T.num = nu at *
  generalize T.place = pl at *
  have k1 : ((⟨#[114, 117, 108, 101, 32]⟩ : ByteArray) ++ tx).size ≤ 1000000005 := by rw [ByteArray.size_append]; show 5 + _ ≤ _; omega
  obtain ⟨s1, hs1⟩ : ∃ s1, (⟨#[114, 117, 108, 101, 32]⟩ : ByteArray) ++ tx ++ (⟨#[32]⟩ : ByteArray) = s1 := ⟨_, rfl⟩
  have hs1z : s1.size ≤ 1000000006 := by rw [← hs1, ByteArray.size_append]; show _ + 1 ≤ _; omega
  have HS1 : Hid (s1.data.toList = [114, 117, 108, 101, 32] ++ tx.data.toList ++ [32]) := by show _ = _; rw [← hs1]; simp [ByteArray.data_append]
  obtain ⟨bb, hbb⟩ : ∃ bb, (nu != 0) = bb := ⟨_, rfl⟩
  go_enter Tryz.func114, Tryz.ntmps114
  go_upto_region 1 with fail
  change Code.wp _ _ _ _ (w.alloc _)
  rw [← hw0]
  clear hw0
  obtain ⟨x0, x1, x2, x3, x4⟩ := cells5 HX0.out
  go_upto_if 44 with fail
  have HBB := Lib.hid hbb
  clear hbb hs1 k1
  go_cut [5] from 45 to 51 (fun v wx => (∃ s2 : ByteArray, v = .string s2 ∧ s2.data.toList = [114, 117, 108, 101, 32] ++ tx.data.toList ++ (salS nu ++ [32])) ∧ Below w0.heap.size w0 wx)
  case first =>
    cases bb with
    | false =>
      have hz : nu = 0 := by have := HBB.out; simpa using this
      have hS : s1.data.toList = [114, 117, 108, 101, 32] ++ tx.data.toList ++ (salS nu ++ [32]) := by rw [HS1.out, hz]; simp [salS]
      have HS := Lib.hid hS
      clear hS hz
      go_wp2_with fail
      go_meet
      case rel => exact ⟨⟨_, rfl, HS.out⟩, Below.refl _ _⟩
    | true =>
      have hz : nu ≠ 0 := by have := HBB.out; simpa using this
      have hS : salS nu = [32, 115, 97, 108, 105, 101, 110, 99, 101, 32] ++ Lib.itoa nu := by unfold salS; rw [if_neg hz]
      have HS := Lib.hid hS
      have q1 : (s1 ++ (⟨#[115, 97, 108, 105, 101, 110, 99, 101, 32]⟩ : ByteArray)).size ≤ 1000000100 := by rw [ByteArray.size_append]; show _ + 9 ≤ _; omega
      have q2 : (s1 ++ (⟨#[115, 97, 108, 105, 101, 110, 99, 101, 32]⟩ : ByteArray) ++ si).size ≤ 1000000200 := by rw [ByteArray.size_append]; omega
      clear hS hz
      go_wp2_with fail
      refine Calls.mono HI.out ?_
      rintro e w2 ⟨rfl, hb2⟩
      have HB2 := Lib.hid hb2
      clear hb2 x0 x1 x2 x3 x4
      go_wp2_with fail
      go_meet
      case rel => exact ⟨⟨_, rfl, by rw [HS.out]; simp [ByteArray.data_append, HS1.out, HSi.out]⟩, HB2.out⟩
  case rest =>
    obtain ⟨⟨s2, rfl, hs2⟩, hb2⟩ := hcut
    have HB2 := Lib.hid hb2
    have HX2 := Lib.hid (heap_below hb2 HX0.out (Array.getElem?_eq_some_iff.1 HX0.out).1)
    have HS2 := Lib.hid hs2
    have HB02 := Lib.hid (HB0.out.trans (hb2.mono HB0.out.size))
    have hs2z : s2.size ≤ 2000000000 := size_of_list hs2 (by
      have h1 : tx.data.toList.length = tx.size := by simp
      have h2 : (salS nu).length ≤ 31 := salS_len nu HNi.out
      simp only [List.length_append, List.length_cons, List.length_nil]
      omega)
    clear hb2 hs2 x0 x1 x2 x3 x4
    obtain ⟨x0, x1, x2, x3, x4⟩ := cells5 HX2.out
    go_wp2_with fail
    clear x0 x1 x2 x3 x4
    go_loopw [6, 7, 8] (RRuleRel wc d ks n) (fun _ _ i _ => n - (intOf i).toNat)
    case atStart => exact ⟨_, 0, ⟨#[]⟩, ⟨#[]⟩, rfl, Nat.zero_le _, rfl, rfl, rfl, rfl, rfl, Below.refl _ _⟩
    case round =>
      obtain ⟨W1, k, cs, az, rfl, hk, rfl, rfl, hcs, haz, rfl, hb⟩ := hrel
      have HBr := Lib.hid hb
      have HB1 := Lib.hid (HB02.out.trans (hb.mono HB02.out.size))
      have HX1 := Lib.hid (heap_below hb HX2.out (Array.getElem?_eq_some_iff.1 HX2.out).1)
      have HCs := Lib.hid hcs
      have HAz := Lib.hid haz
      have hcz : cs.size ≤ 1000000000 := size_of_list hcs (HLen.out k condB)
      have hazz : az.size ≤ 1000000000 := size_of_list haz (HLen.out k _)
      clear hb hcs haz
      have hk0 : (0 : Int) ≤ k := by omega
      obtain ⟨x0, x1, x2, x3, x4⟩ := cells5 HX1.out
      by_cases hlt : k < n
      · obtain ⟨t, ht⟩ : ∃ t, ks[k]? = some t := ⟨ks[k]'(by rw [HN.out]; exact hlt), List.getElem?_eq_getElem (by rw [HN.out]; exact hlt)⟩
        have hmem : t ∈ ks := List.mem_of_getElem? ht
        obtain ⟨_, bk, off, rfl, hbB, hkid⟩ := HRow.out k t ht
        obtain ⟨p', l', c', d0, d1, d2, d3, d4, hnode⟩ := hkid.node (HB1.out.mono hB) hbB
        have hk1 : (k : Int) < n := by omega
        have hkd := HKd.out t hmem
        obtain ⟨W2, hW2⟩ : ∃ W2, W2 = W1.alloc (.cells #[.int .u8 t.kind, .string t.text, .int .i64 t.num, .int .i64 t.place, .slice p' l' c'] 25) := ⟨_, rfl⟩
        have hb12 : Below W1.heap.size W1 W2 := by rw [hW2]; exact (Below.refl _ W1).alloc (Nat.le_refl _) _
        have HXk : Hid (W2.heap[W1.heap.size]? = some (.cells #[.int .u8 t.kind, .string t.text, .int .i64 t.num, .int .i64 t.place, .slice p' l' c'] 25 (0, 0))) := by show _ = _; rw [hW2]; exact heap_alloc_new W1 _
        have hbw2 := HB1.out.trans (hb12.mono HB1.out.size)
        have HBr2 := Lib.hid (HBr.out.trans (hb12.mono HBr.out.size))
        have hC := HPart.out t (.agg #[.int .u8 t.kind, .string t.text, .int .i64 t.num, .int .i64 t.place, .slice p' l' c']) W2 hmem hbw2 (hnode.below (hb12.mono (Nat.le_trans hB HB1.out.size)))
        obtain ⟨sp, hsp⟩ : ∃ sp, strB (partX d t ++ [59]) = sp := ⟨_, rfl⟩
        rw [hsp] at hC
        have hspl : sp.data.toList ++ [32] = partS d t := by rw [← hsp, strB_list, partS_X, List.append_assoc]; rfl
        have hspz : sp.size ≤ 1000000000 := by
          have h1 := HML.out t hmem
          rw [← hspl, List.length_append] at h1
          have h2 : sp.size = sp.data.toList.length := by simp
          omega
        have HC := Lib.hid hC
        have HSp := Lib.hid hspl
        have HTk : Hid (ks.take (k + 1) = ks.take k ++ [t]) := by show _ = _; rw [List.take_add_one, ht]; rfl
        clear hkid hnode ht hmem hb12 hbw2 hC hsp hspl
        have q1 : (cs ++ sp).size ≤ 2000000000 := by rw [ByteArray.size_append]; omega
        have q2 : (az ++ sp).size ≤ 2000000000 := by rw [ByteArray.size_append]; omega
        cases hc : condB t with
        | true =>
          have HEc : Hid ((cs ++ sp ++ ⟨#[32]⟩).data.toList = partsS d ((ks.take (k + 1)).filter condB)) := by
            show _ = _
            rw [HTk.out, List.filter_append, partsS_app]
            have : [t].filter condB = [t] := by simp [hc]
            rw [this, ← HCs.out]
            have h9 : partsS d [t] = partS d t := by simp [partsS]
            rw [h9, ← HSp.out]
            simp [ByteArray.data_append]
          have HEa : Hid (az.data.toList = partsS d ((ks.take (k + 1)).filter fun t => !condB t)) := by
            show _ = _
            rw [HTk.out, List.filter_append]
            have : [t].filter (fun t => !condB t) = [] := by simp [hc]
            rw [this, List.append_nil]
            exact HAz.out
          have hcc := (condB_iff t).1 hc
          obtain h5 | h5 | h5 : t.kind = 5 ∨ t.kind = 6 ∨ t.kind = 7 := by omega
          · have e5 : ((t.kind : Int) == 5) = true := by simp; omega
            have e6 : ((t.kind : Int) == 6) = false := by simp; omega
            have e7 : ((t.kind : Int) == 7) = false := by simp; omega
            clear h5 hcc hc hkd
            go_upto_region 18 with fail
            change Code.wp _ _ _ _ (W1.alloc (.cells #[.int .u8 t.kind, .string t.text, .int .i64 t.num, .int .i64 t.place, .slice p' l' c'] 25))
            rw [← hW2]
            clear d0 d1 d2 d3 d4 x0 x1 x2 x3 x4 hW2
            obtain ⟨y0, y1, y2, y3, y4⟩ := cells5 HXk.out
            go_wp2_with fail
            refine Calls.mono HC.out ?_
            rintro e W3 ⟨rfl, h3⟩
            have H3 := Lib.hid (HBr2.out.trans (h3.mono HBr2.out.size))
            clear h3
            go_wp2_with fail
            exact ⟨⟨W3, k + 1, _, _, rfl, by omega, rfl, rfl, HEc.out, HEa.out, by go_num, H3.out⟩, by simp [intOf]; omega⟩
          · have e5 : ((t.kind : Int) == 5) = false := by simp; omega
            have e6 : ((t.kind : Int) == 6) = true := by simp; omega
            have e7 : ((t.kind : Int) == 7) = false := by simp; omega
            clear h5 hcc hc hkd
            go_upto_region 18 with fail
            change Code.wp _ _ _ _ (W1.alloc (.cells #[.int .u8 t.kind, .string t.text, .int .i64 t.num, .int .i64 t.place, .slice p' l' c'] 25))
            rw [← hW2]
            clear d0 d1 d2 d3 d4 x0 x1 x2 x3 x4 hW2
            obtain ⟨y0, y1, y2, y3, y4⟩ := cells5 HXk.out
            go_wp2_with fail
            refine Calls.mono HC.out ?_
            rintro e W3 ⟨rfl, h3⟩
            have H3 := Lib.hid (HBr2.out.trans (h3.mono HBr2.out.size))
            clear h3
            go_wp2_with fail
            exact ⟨⟨W3, k + 1, _, _, rfl, by omega, rfl, rfl, HEc.out, HEa.out, by go_num, H3.out⟩, by simp [intOf]; omega⟩
          · have e5 : ((t.kind : Int) == 5) = false := by simp; omega
            have e6 : ((t.kind : Int) == 6) = false := by simp; omega
            have e7 : ((t.kind : Int) == 7) = true := by simp; omega
            clear h5 hcc hc hkd
            go_upto_region 18 with fail
            change Code.wp _ _ _ _ (W1.alloc (.cells #[.int .u8 t.kind, .string t.text, .int .i64 t.num, .int .i64 t.place, .slice p' l' c'] 25))
            rw [← hW2]
            clear d0 d1 d2 d3 d4 x0 x1 x2 x3 x4 hW2
            obtain ⟨y0, y1, y2, y3, y4⟩ := cells5 HXk.out
            go_wp2_with fail
            refine Calls.mono HC.out ?_
            rintro e W3 ⟨rfl, h3⟩
            have H3 := Lib.hid (HBr2.out.trans (h3.mono HBr2.out.size))
            clear h3
            go_wp2_with fail
            exact ⟨⟨W3, k + 1, _, _, rfl, by omega, rfl, rfl, HEc.out, HEa.out, by go_num, H3.out⟩, by simp [intOf]; omega⟩
        | false =>
          have HEa : Hid ((az ++ sp ++ ⟨#[32]⟩).data.toList = partsS d ((ks.take (k + 1)).filter fun t => !condB t)) := by
            show _ = _
            rw [HTk.out, List.filter_append, partsS_app]
            have : [t].filter (fun t => !condB t) = [t] := by simp [hc]
            rw [this, ← HAz.out]
            have h9 : partsS d [t] = partS d t := by simp [partsS]
            rw [h9, ← HSp.out]
            simp [ByteArray.data_append]
          have HEc : Hid (cs.data.toList = partsS d ((ks.take (k + 1)).filter condB)) := by
            show _ = _
            rw [HTk.out, List.filter_append]
            have : [t].filter condB = [] := by simp [hc]
            rw [this, List.append_nil]
            exact HCs.out
          have hcc : ¬ (5 ≤ t.kind ∧ t.kind ≤ 7) := fun h => by rw [(condB_iff t).2 h] at hc; cases hc
          have e5 : ((t.kind : Int) == 5) = false := by simp; omega
          have e6 : ((t.kind : Int) == 6) = false := by simp; omega
          have e7 : ((t.kind : Int) == 7) = false := by simp; omega
          clear hcc hc hkd
          go_upto_region 18 with fail
          change Code.wp _ _ _ _ (W1.alloc (.cells #[.int .u8 t.kind, .string t.text, .int .i64 t.num, .int .i64 t.place, .slice p' l' c'] 25))
          rw [← hW2]
          clear d0 d1 d2 d3 d4 x0 x1 x2 x3 x4 hW2
          obtain ⟨y0, y1, y2, y3, y4⟩ := cells5 HXk.out
          go_wp2_with fail
          refine Calls.mono HC.out ?_
          rintro e W3 ⟨rfl, h3⟩
          have H3 := Lib.hid (HBr2.out.trans (h3.mono HBr2.out.size))
          clear h3
          go_wp2_with fail
          exact ⟨⟨W3, k + 1, _, _, rfl, by omega, rfl, rfl, HEc.out, HEa.out, by go_num, H3.out⟩, by simp [intOf]; omega⟩
      · obtain rfl : k = n := by omega
        have hfull : ks.take k = ks := by rw [← HN.out, List.take_length]
        have hcs := HCs.out
        have haz := HAz.out
        rw [hfull] at hcs haz
        have HCs2 := Lib.hid hcs
        have HAz2 := Lib.hid haz
        have r1 : (s2 ++ (⟨#[123, 32]⟩ : ByteArray)).size ≤ 2000000002 := by rw [ByteArray.size_append]; show _ + 2 ≤ _; omega
        have r2 : (s2 ++ (⟨#[123, 32]⟩ : ByteArray) ++ cs).size ≤ 3000000002 := by rw [ByteArray.size_append]; omega
        have r3 : (s2 ++ (⟨#[123, 32]⟩ : ByteArray) ++ cs ++ (⟨#[61, 62, 32]⟩ : ByteArray)).size ≤ 3000000005 := by rw [ByteArray.size_append]; show _ + 3 ≤ _; omega
        have r4 : (s2 ++ (⟨#[123, 32]⟩ : ByteArray) ++ cs ++ (⟨#[61, 62, 32]⟩ : ByteArray) ++ az).size ≤ 4000000005 := by rw [ByteArray.size_append]; omega
        clear hfull hcs haz
        go_wp2_with fail
        go_ret
        exact strP_of (by rw [HE.out]; simp [ByteArray.data_append, HS2.out, HCs2.out, HAz2.out]) HB1.out
theorem rdecl_any (d : Nat) (T : Tree) (u : Value) (B : Nat) (w : World) (hd : DeclOk' d T) (hs : Slim (d + 2) T) (hu : NodeAt w B (d + 2) T u) (hB : B ≤ w.heap.size) (ht : PowTab w.heap.size w) (hlen : (declS d T).length ≤ 1000000000) :
    Calls Tryz.prog 114 #[u] w (StrP (declX d T) w) := by
  rcases hd with ⟨h4, hp⟩ | h2
  · exact rrule_any d T u B w h4 hp hs hu hB ht hlen
  · exact rtype_any d T u B w h2 hs hu hB hlen
end Go.Proofs.YtoekldhdojpceaaGreatDoor
/- A tree's text, the reference's: a program; by contract. Condition: every list has at most 20000 nodes, every text 72007 bytes; the library's tables lie as laid. -/
namespace Go.Proofs.YtoekldhdojpceaaGreatDoor
open Go.RowKit

def RProgRel (w : World) (d : Nat) (ks : List Tree) (n : Nat) (s i : Value) (W : World) : Prop :=
  ∃ (W1 : World) (k : Nat) (st : ByteArray), W1 = W ∧ k ≤ n ∧ s = .string st ∧ st.data.toList = declsS d (ks.take k) ∧ i = .int .i64 k ∧ Below w.heap.size w W1
set_option maxRecDepth 100000 in
set_option maxHeartbeats 2000000 in
theorem rprog_any (d : Nat) (T : Tree) (u : Value) (B : Nat) (w : World) (hu : NodeAt w B (d + 3) T u) (hB : B ≤ w.heap.size) (hs : Slim (d + 3) T) (hm : manyF (d + 3) T ≤ 100000) (htab : Lib.TabIs Tryz.prog w "internal/strconv.uint64pow10" .u64 Lib.pow10Tab) :
    Calls Tryz.prog 52 #[u] w fun e w' => e = .returned (.tuple #[.string (showM d T).1, .int .i64 (showM d T).2]) ∧ Below w.heap.size w w' := by
  have ht := pow_here htab
  have HU := Lib.hid hu
  obtain ⟨_, s, rfl, hk⟩ := hu
  have hdep := dep_of _ _ _ hk
  have hnums := nums_ok hk
  have hn9 := hs.2.1
  obtain ⟨p, c, rfl, _, hrow⟩ := hk.rows
  obtain ⟨w0, hw0⟩ : ∃ w0, w0 = w.alloc (.cells #[.int .u8 T.kind, .string T.text, .int .i64 T.num, .int .i64 T.place, .slice p T.kids.length c] 25) := ⟨_, rfl⟩
  have hb0 : Below w.heap.size w w0 := by rw [hw0]; exact (Below.refl _ w).alloc (Nat.le_refl _) _
  have HX0 : Hid (w0.heap[w.heap.size]? = some (.cells #[.int .u8 T.kind, .string T.text, .int .i64 T.num, .int .i64 T.place, .slice p T.kids.length c] 25 (0, 0))) := by show _ = _; rw [hw0]; exact heap_alloc_new w _
  have HR := Lib.hid (rright_any (d + 3) T _ B w0 (HU.out.below (hb0.mono hB)) (Nat.le_trans hB hb0.size) hs hm)
  have HB0 := Lib.hid hb0
  obtain ⟨rs, hrs⟩ : ∃ rs, (showM d T).1 = rs := ⟨_, rfl⟩
  obtain ⟨re, hre⟩ : ∃ re, (showM d T).2 = re := ⟨_, rfl⟩
  rw [hrs, hre]
  have HRes := Lib.hid hrs
  have HRes2 := Lib.hid hre
  obtain ⟨r, hr⟩ : ∃ r, rightF (d + 3) T = r := ⟨_, rfl⟩
  rw [hr] at HR
  have Hr := Lib.hid hr
  have HOk := Lib.hid (fun (h : rightF (d + 3) T = true) => progOk_of d T h hdep)
  have HLen := Lib.hid (fun (h : rightF (d + 3) T = true) => (show (declsS d T.kids).length ≤ 295321600 by
    have h1 := progS_len d T hs hnums
    have h2 := rightF_many h
    have h3 : 72100 * manyF (d + 3) T ≤ 72100 * 4096 := Nat.mul_le_mul_left _ h2
    exact Nat.le_trans h1 h3))
  have HSl := Lib.hid (fun (t : Tree) (hm : t ∈ T.kids) => hs.2.2 t hm)
  have HRow := Lib.hid hrow
  obtain ⟨n, hn⟩ : ∃ n, T.kids.length = n := ⟨_, rfl⟩
  rw [hn] at HX0 HR hn9 HU hw0 ⊢
  have HN := Lib.hid hn
  have HT := Lib.hid ht
  clear hk hdep hnums hs hrow hn hb0 hrs hre hr ht htab hm
  go_enter Tryz.func52, Tryz.ntmps52
  go_upto_region 1 with fail
  change Code.wp _ _ _ _ (w.alloc _)
  rw [← hw0]
  clear hw0
  obtain ⟨x0, x1, x2, x3, x4⟩ := cells5 HX0.out
  go_wp2_with fail
  refine Calls.mono HR.out ?_
  rintro e w1 ⟨rfl, hb1⟩
  have HX1 := Lib.hid (heap_below hb1 HX0.out (Array.getElem?_eq_some_iff.1 HX0.out).1)
  have HB1 := Lib.hid (HB0.out.trans (hb1.mono HB0.out.size))
  clear hb1 x0 x1 x2 x3 x4
  cases r with
  | false =>
    have h1 : rs = ⟨#[]⟩ := by rw [← HRes.out]; unfold showM; rw [if_neg (by rw [Hr.out]; decide)]; rfl
    have h2 : re = 4 := by rw [← HRes2.out]; unfold showM; rw [if_neg (by rw [Hr.out]; decide)]
    have HH1 := Lib.hid h1
    have HH2 := Lib.hid h2
    clear h1 h2
    go_wp2_with fail
    go_ret2
    exact ⟨by rw [HH1.out, HH2.out]; rfl, HB1.out⟩
  | true =>
    have h1 : rs = mkS (declsS d T.kids) := by rw [← HRes.out]; unfold showM; rw [if_pos Hr.out]; rfl
    have h2 : re = 0 := by rw [← HRes2.out]; unfold showM; rw [if_pos Hr.out]
    have HH1 := Lib.hid h1
    have HH2 := Lib.hid h2
    have hlen := HLen.out Hr.out
    have HLn := Lib.hid (fun k => Nat.le_trans (declsS_take_le d T.kids k) hlen)
    have HDecl := Lib.hid (HOk.out Hr.out)
    clear h1 h2 hlen
    go_wp2_with fail
    go_loopw [4, 5] (RProgRel w1 d T.kids n) (fun _ i _ => n - (intOf i).toNat)
    case atStart => exact ⟨_, 0, ⟨#[]⟩, rfl, Nat.zero_le _, rfl, rfl, rfl, Below.refl _ _⟩
    case round =>
      obtain ⟨W1, k, st, rfl, hk, rfl, hst, rfl, hb⟩ := hrel
      have HBr := Lib.hid hb
      have HBW := Lib.hid (HB1.out.trans (hb.mono HB1.out.size))
      have HXW := Lib.hid (heap_below hb HX1.out (Array.getElem?_eq_some_iff.1 HX1.out).1)
      have HSt := Lib.hid hst
      have hss : st.size ≤ 300000000 := size_of_list hst (Nat.le_trans (HLn.out k) (by omega))
      clear hb hst
      have hk0 : (0 : Int) ≤ k := by omega
      obtain ⟨x0, x1, x2, x3, x4⟩ := cells5 HXW.out
      by_cases hlt : k < n
      · obtain ⟨t, ht⟩ : ∃ t, T.kids[k]? = some t := ⟨T.kids[k]'(by rw [HN.out]; exact hlt), List.getElem?_eq_getElem (by rw [HN.out]; exact hlt)⟩
        have hmem : t ∈ T.kids := List.mem_of_getElem? ht
        obtain ⟨_, bk, off, rfl, hbB, hkid⟩ := HRow.out k t ht
        obtain ⟨p', l', c', d0, d1, d2, d3, d4, hnode⟩ := hkid.node (HBW.out.mono hB) hbB
        have hk1 : (k : Int) < n := by omega
        have hNx := declsS_next d ht
        have hll := HLn.out (k + 1)
        rw [hNx, List.length_append] at hll
        have hC := rdecl_any d t (.agg #[.int .u8 t.kind, .string t.text, .int .i64 t.num, .int .i64 t.place, .slice p' l' c']) B W1 (HDecl.out t hmem) (HSl.out t hmem) hnode (Nat.le_trans hB HBW.out.size) (fun w2 h2 => HT.out w2 (HBW.out.trans (h2.mono HBW.out.size))) (by omega)
        unfold StrP at hC
        obtain ⟨s2, hs2⟩ : ∃ s2, strB (declX d t) = s2 := ⟨_, rfl⟩
        rw [hs2] at hC
        have hl2 : s2.data.toList ++ [10] = declS d t := by rw [← hs2, strB_list, declS_X]
        have hz2 : s2.size ≤ 300000000 := by
          rw [← hl2, List.length_append] at hll
          have h2 : s2.size = s2.data.toList.length := by simp
          omega
        have q1 : (st ++ s2).size ≤ 600000000 := by rw [ByteArray.size_append]; omega
        have HE : Hid ((st ++ s2 ++ ⟨#[10]⟩).data.toList = declsS d (T.kids.take (k + 1))) := by
          show _ = _
          rw [hNx, ← HSt.out, ← hl2]
          simp [ByteArray.data_append]
        have HC := Lib.hid hC
        clear hkid hnode ht hmem hNx hll hC hs2 hl2
        go_wp2_with fail
        refine Calls.mono HC.out ?_
        rintro e W2 ⟨rfl, h2⟩
        have H2 := Lib.hid (HBr.out.trans (h2.mono HBr.out.size))
        clear h2
        go_wp2_with fail
        exact ⟨⟨W2, k + 1, _, rfl, by omega, rfl, HE.out, by go_num, H2.out⟩, by simp [intOf]; omega⟩
      · obtain rfl : k = n := by omega
        have hst : st = rs := by
          rw [HH1.out]
          apply ByteArray.ext
          apply Array.toList_inj.1
          rw [HSt.out, ← HN.out, List.take_length]
          rfl
        have HSe := Lib.hid hst
        clear hst
        go_wp2_with fail
        go_ret2
        exact ⟨by rw [HH2.out, ← HSe.out]; rfl, HBW.out⟩
end Go.Proofs.YtoekldhdojpceaaGreatDoor
