/- Several texts joined, each with its own sentence and conditions ahead of it: RefNA, RefNB, RefNC, RefND. -/
import Derived.Test.YtfpohaipmnjflaaGreatDoorMJ
/- The reference's looks at texts: among some, an operator, a name, a number; by contract. Condition: texts of at most 72007 bytes. -/
namespace Go.Proofs.YtfpohaipmnjflaaGreatDoor
open Go.RowKit

theorem ramong_any (L : List ByteArray) (n B c : Nat) (ty : TypeId) (x : ByteArray) (w : World) (hn : L.length = n) (h100 : n ≤ 100) (h : w.heap[B]? = some (.cells (L.map Value.string).toArray ty (0, 0))) :
    Calls Tryz.prog 119 #[.string x, .slice (some ⟨B, 0, none⟩) n c] w fun e w' => e = .returned (.bool (amongB L x.data.toList)) ∧ w = w' := by
  have hf : ∀ y, amongB L x.data.toList = y → ∀ (e : Ending) (w' : World), e = .returned (.bool y) → w = w' → (e = .returned (.bool (amongB L x.data.toList)) ∧ w = w') := by
    intro y hy e w' he hb; rw [hy]; exact ⟨he, hb⟩
  have HF := Lib.hid hf
  have HB := Lib.hid h
  have HN := Lib.hid hn
  clear hf h hn
  go_enter Tryz.func119, Tryz.ntmps119
  go_wp2_with fail
  go_loop [5] (fun i => ∃ k : Nat, k ≤ n ∧ i = .int .i64 k ∧ (L.take k).any (fun b => b.data.toList == x.data.toList) = false) (fun i => n - (intOf i).toNat)
  case atStart => exact ⟨0, Nat.zero_le _, rfl, rfl⟩
  case round =>
    obtain ⟨k, hk, rfl, hno⟩ := hrel
    have HO := Lib.hid hno
    clear hno
    by_cases hlt : k < n
    · obtain ⟨g, hg⟩ : ∃ g, L[k]? = some g := ⟨L[k]'(by rw [HN.out]; exact hlt), List.getElem?_eq_getElem (by rw [HN.out]; exact hlt)⟩
      have hck : w.cell? ⟨B, k, none⟩ = some (.string g) := by
        rw [cell_of_row _ _ _ _ _ _ HB.out]; simp [hg]
      have HG := Lib.hid hg
      clear hg
      cases he : g.toList == x.toList
      · have HE := Lib.hid he
        go_wp2_with fail
        go_round
        case rel => exact ⟨k + 1, by omega, by go_num, by rw [take_succ_any _ _ _ _ HG.out HO.out]; simpa [ByteArray.toList_eq] using HE.out⟩
        case measure => simp [intOf]; omega
      · have HE := Lib.hid he
        go_wp2_with fail
        go_ret
        refine HF.out true ?_ _ _ rfl rfl
        unfold amongB
        exact any_of_mem (fun b => b.data.toList == x.data.toList) _ k g HG.out (by simpa [ByteArray.toList_eq] using HE.out)
    · obtain rfl : k = n := by omega
      go_wp2_with fail
      go_ret
      refine HF.out false ?_ _ _ rfl rfl
      unfold amongB
      have := HO.out
      rwa [List.take_of_length_le (by rw [HN.out]; exact Nat.le_refl _)] at this
theorem rtwo_any (x : ByteArray) (w : World) :
    Calls Tryz.prog 87 #[.string x] w (BoolPost (amongB twoL x.data.toList) w) := by
  have HC := Lib.hid (ramong_any twoL 11 w.heap.size 11 9 x _ rfl (by omega) (heap_alloc_new w (.cells (twoL.map Value.string).toArray 9)))
  go_enter Tryz.func87, Tryz.ntmps87
  go_wp2_with fail
  refine Calls.mono HC.out ?_
  rintro e w1 ⟨rfl, rfl⟩
  go_wp2_with fail
  go_ret
  exact ⟨rfl, (Below.refl _ w).alloc (Nat.le_refl _) _⟩
theorem rname_any (x : ByteArray) (w : World) (hs : x.size ≤ 72007) :
    Calls Tryz.prog 82 #[.string x] w (BoolPost (namedF x.data.toList && !wordB x.data.toList) w) := by
  have HN := Lib.hid (rnamed_big x w (by omega))
  have HC := Lib.hid (ramong_any wordsL 11 w.heap.size 11 9 x _ rfl (by omega) (heap_alloc_new w (.cells (wordsL.map Value.string).toArray 9)))
  have hw : amongB wordsL x.data.toList = wordB x.data.toList := rfl
  rw [hw] at HC
  clear hw
  generalize namedF x.data.toList = nf at *
  generalize wordB x.data.toList = wf at *
  go_enter Tryz.func82, Tryz.ntmps82
  go_wp2_with fail
  refine Calls.mono HN.out ?_
  rintro e w1 ⟨rfl, rfl⟩
  cases nf
  · go_wp2_with fail
    go_ret
    exact ⟨rfl, Below.refl _ _⟩
  · go_wp2_with (first | (go_at_call 120; refine (rwords_any _).mono ?_; rintro e w1 ⟨rfl, rfl⟩))
    refine Calls.mono HC.out ?_
    rintro e w1 ⟨rfl, rfl⟩
    go_wp2_with fail
    go_ret
    exact ⟨rfl, (Below.refl _ w).alloc (Nat.le_refl _) _⟩
theorem rcond_any (k : Nat) (w : World) :
    Calls Tryz.prog 121 #[.int .u8 k] w fun e w' => e = .returned (.bool ([5, 6, 7].contains k)) ∧ w = w' := by
  have hc : Hid ([5, 6, 7].contains k = (k == 5 || (k == 6 || k == 7))) := by
    show _ = _
    simp only [List.contains_cons, List.contains_nil, Bool.or_false]
  generalize [5, 6, 7].contains k = x at *
  go_enter Tryz.func121, Tryz.ntmps121
  cases h5 : ((k : Int) == 5)
  · cases h6 : ((k : Int) == 6)
    · cases h7 : ((k : Int) == 7)
      · have H : Hid (x = false) := by
          show x = false
          rw [hc.out]; simp at h5 h6 h7 ⊢; omega
        go_wp2_with fail
        go_ret
        exact ⟨ret_bool H.out.symm, rfl⟩
      · have H : Hid (x = true) := by
          show x = true
          rw [hc.out]; simp at h5 h6 h7 ⊢; omega
        go_wp2_with fail
        go_ret
        exact ⟨ret_bool H.out.symm, rfl⟩
    · have H : Hid (x = true) := by
        show x = true
        rw [hc.out]; simp at h5 h6 ⊢; omega
      go_wp2_with fail
      go_ret
      exact ⟨ret_bool H.out.symm, rfl⟩
  · have H : Hid (x = true) := by
      show x = true
      rw [hc.out]; simp at h5 ⊢; omega
    go_wp2_with fail
    go_ret
    exact ⟨ret_bool H.out.symm, rfl⟩
theorem number_strip (x : ByteArray) (h : negB x.data.toList = true) : ∃ r, x.data.toList = 45 :: r ∧ strip x.data.toList = r := by
  cases hx : x.data.toList with
  | nil => rw [hx] at h; cases h
  | cons c r =>
    by_cases hc : c = 45
    · subst hc; exact ⟨r, rfl, rfl⟩
    · rw [hx, negB_no c r hc] at h; cases h
theorem strip_same (x : ByteArray) (h : negB x.data.toList = false) : strip x.data.toList = x.data.toList := by
  cases hx : x.data.toList with
  | nil => rfl
  | cons c r =>
    by_cases hc : c = 45
    · subst hc; rw [hx] at h; cases h
    · exact strip_no c r hc
theorem neg_at (x : ByteArray) (h : 0 < x.size) : negB x.data.toList = decide (x[0].toNat = 45) := by
  have e : x.data.toList = x[0] :: x.data.toList.drop 1 := by
    have := drop_cons x 0 h
    simpa using this
  rw [e]
  by_cases hc : x[0] = 45
  · rw [hc]; rfl
  · rw [negB_no _ _ hc]
    symm
    rw [decide_eq_false_iff_not]
    intro h2
    exact hc (UInt8.toNat_inj.1 h2)
set_option maxHeartbeats 1000000 in
theorem r5number_any (x : ByteArray) (w : World) (hs : x.size ≤ 72007) :
    Calls Tryz.prog 86 #[.string x] w fun e w' => e = .returned (.bool (number (strip x.data.toList)).isSome) ∧ w = w' := by
  rcases Nat.eq_zero_or_pos x.size with h0 | h0
  · have hx : x.data.toList = [] := List.eq_nil_of_length_eq_zero (by rw [Array.length_toList]; exact h0)
    have he : x.toList.isEmpty = true := by rw [ByteArray.toList_eq, hx]; rfl
    have HN := Lib.hid (rnumber_big x w (by omega))
    have hst : strip x.data.toList = x.data.toList := by rw [hx]; rfl
    rw [hst]
    clear h0 hx hst
    go_enter Tryz.func86, Tryz.ntmps86
    go_wp2_with fail
    refine Calls.mono HN.out ?_
    rintro e w1 ⟨rfl, rfl⟩
    go_wp2_with fail
    go_ret
    exact ⟨rfl, rfl⟩
  · have he : x.toList.isEmpty = false := bne_of_size x h0
    have hn := neg_at x h0
    cases hng : decide (x[0].toNat = 45)
    · rw [hng] at hn
      rw [strip_same x hn]
      have HN := Lib.hid (rnumber_big x w (by omega))
      have h45 : ((x[0].toNat : Int) == 45) = false := by simp at hng ⊢; omega
      clear hn hng
      go_enter Tryz.func86, Tryz.ntmps86
      go_wp2_with fail
      refine Calls.mono HN.out ?_
      rintro e w1 ⟨rfl, rfl⟩
      go_wp2_with fail
      go_ret
      exact ⟨rfl, rfl⟩
    · rw [hng] at hn
      obtain ⟨r, hr, hst⟩ := number_strip x hn
      rw [hst]
      have hr2 : (x.extract 1 x.size).data.toList = r := by
        rw [ByteArray.data_extract, Array.toList_extract, hr]
        have hl : x.size = r.length + 1 := by
          have : x.data.toList.length = x.size := by simp
          rw [hr] at this
          simpa using this.symm
        simp [List.extract, hl]
      have HN := Lib.hid (rnumber_big (x.extract 1 x.size) w (by rw [ByteArray.size_extract]; omega))
      rw [hr2] at HN
      have h45 : ((x[0].toNat : Int) == 45) = true := by simp at hng ⊢; omega
      have h1 : (1 : Int) ≤ x.size := by omega
      clear hn hng hr2 hr hst
      go_enter Tryz.func86, Tryz.ntmps86
      go_wp2_with fail
      refine Calls.mono HN.out ?_
      rintro e w1 ⟨rfl, rfl⟩
      go_wp2_with fail
      go_ret
      exact ⟨rfl, rfl⟩
end Go.Proofs.YtfpohaipmnjflaaGreatDoor
/- The reference's looks at kids: all of some kinds, and right; by contract, given the look at a kid. Condition: at most 20000 kids a list. -/
namespace Go.Proofs.YtfpohaipmnjflaaGreatDoor
open Go.RowKit

def RNodeK (d : Nat) : Prop := ∀ (T : Tree) (v : Value) (B : Nat) (w : World), NodeAt w B d T v → B ≤ w.heap.size → Slim d T → T.kind ≠ 1 → Calls Tryz.prog 50 #[v] w (BoolPost (okF d T) w)
def kidOk (d : Nat) (S : List Nat) (t : Tree) : Bool := S.contains t.kind && okF d t
def allF (d : Nat) (S : List Nat) (l : List Tree) : Bool := l.all (kidOk d S)
def RAllK (d : Nat) : Prop := ∀ (ks : List Tree) (u : Value) (B : Nat) (w : World) (S : List Nat) (sv : Value) (fr en : Nat), KidsAt w B d ks u → B ≤ w.heap.size → KindsAt w S sv → 1 ∉ S → fr ≤ en → en ≤ ks.length → SlimK d ks →
  Calls Tryz.prog 26 #[u, .int .i64 fr, .int .i64 en, sv] w (BoolPost (allF (d - 1) S ((ks.take en).drop fr)) w)
/-- the loops' states -/
def OuterRel (w : World) (d : Nat) (S : List Nat) (ks : List Tree) (fr en : Nat) (i : Value) (W : World) : Prop :=
  ∃ (W1 : World) (k : Nat), W1 = W ∧ fr ≤ k ∧ k ≤ en ∧ i = .int .i64 k ∧ Below w.heap.size w W1 ∧ allF d S ((ks.take k).drop fr) = true
def InnerRel (w : World) (S : List Nat) (m x : Nat) (ok i : Value) (W : World) : Prop :=
  ∃ (W1 : World) (j : Nat), W1 = W ∧ j ≤ m ∧ ok = .bool ((S.take j).any (· == x)) ∧ i = .int .i64 j ∧ Below w.heap.size w W1
theorem take_drop_snoc (ks : List Tree) (fr k : Nat) (t : Tree) (h : ks[k]? = some t) (hf : fr ≤ k) : (ks.take (k + 1)).drop fr = (ks.take k).drop fr ++ [t] := by
  rw [List.take_add_one, h, List.drop_append]
  have hk : k < ks.length := (List.getElem?_eq_some_iff.1 h).1
  have : fr - (ks.take k).length = 0 := by rw [List.length_take]; omega
  rw [this]
  rfl
theorem any_succ (S : List Nat) (j x y : Nat) (h : S[j]? = some y) : (S.take (j + 1)).any (· == x) = ((S.take j).any (· == x) || (y == x)) := by
  rw [List.take_add_one, h, List.any_append]
  simp

set_option maxRecDepth 100000 in
set_option maxHeartbeats 2000000 in
theorem rall_of (d : Nat) (HN : Hid (∀ d', d = d' + 1 → RNodeK d')) : RAllK d := by
  intro ks u B w S sv fr en hk hB hS h1S hfe hen hsl
  have hn9 : ks.length ≤ 20000 := by
    cases d with
    | zero => rw [hk.1]; exact Nat.zero_le _
    | succ d => exact hsl.1
  have hslim : ∀ t ∈ ks, d = d - 1 + 1 → Slim (d - 1) t := by
    cases d with
    | zero => intro t ht; rw [hk.1] at ht; cases ht
    | succ d => intro t ht _; exact hsl.2 t ht
  obtain ⟨p, c, rfl, _, hrow⟩ := hk.rows
  obtain ⟨q, cq, rfl, hm100, hcell⟩ := hS.shape
  obtain ⟨n, hn⟩ : ∃ n, ks.length = n := ⟨_, rfl⟩
  obtain ⟨m, hm⟩ : ∃ m, S.length = m := ⟨_, rfl⟩
  rw [hn] at hn9 hen ⊢
  rw [hm] at hm100 hS ⊢
  have HLen := Lib.hid hn
  have HM := Lib.hid hm
  have HRow := Lib.hid hrow
  have HS := Lib.hid hS
  have HSl := Lib.hid hslim
  have H1S := Lib.hid h1S
  have hen2 : (en : Int) ≤ n := by omega
  have hnn : (n : Int) ≤ 20000 := by omega
  clear hrow hcell hslim hsl hk hS hn hm h1S
  go_enter Tryz.func26, Tryz.ntmps26
  go_wp2_with fail
  go_loopw [9] (OuterRel w (d - 1) S ks fr en) (fun i _ => en - (intOf i).toNat)
  case atStart => exact ⟨_, fr, rfl, Nat.le_refl _, hfe, rfl, Below.refl _ _, by rw [List.drop_eq_nil_of_le (by rw [List.length_take]; omega)]; rfl⟩
  case round =>
    obtain ⟨W1, k, rfl, hfk, hke, rfl, hb, hall⟩ := hrel
    have HBw := Lib.hid hb
    have HA := Lib.hid hall
    have hk0 : (0 : Int) ≤ k := by omega
    clear hall
    by_cases hlt : k < en
    · have hk1 : (k : Int) < en := by omega
      have hkn : (k : Int) < n := by omega
      have hkln : k < n := by omega
      obtain ⟨t, ht⟩ : ∃ t, ks[k]? = some t := ⟨ks[k]'(by rw [HLen.out]; exact hkln), List.getElem?_eq_getElem (by rw [HLen.out]; exact hkln)⟩
      obtain ⟨hd, b, off, rfl, hbB, hkid⟩ := HRow.out k t ht
      have HT := Lib.hid ht
      have HKid := Lib.hid hkid
      have HD := Lib.hid hd
      clear hkid ht hd
      go_wp2_with fail
      go_loopw [10, 11] (InnerRel W1 S m t.kind) (fun _ i _ => m - (intOf i).toNat)
      case atStart => exact ⟨_, 0, rfl, Nat.zero_le _, rfl, rfl, Below.refl _ _⟩
      case round =>
        obtain ⟨W2, j, rfl, hj, rfl, rfl, hb2⟩ := hrel
        have hj0 : (0 : Int) ≤ j := by omega
        have HB2 := Lib.hid hb2
        have hbw2 := hb.trans (hb2.mono hb.size)
        by_cases hjm : j < m
        · have hj1 : (j : Int) < m := by omega
          obtain ⟨y, hy⟩ : ∃ y, S[j]? = some y := ⟨S[j]'(by rw [HM.out]; exact hjm), List.getElem?_eq_getElem (by rw [HM.out]; exact hjm)⟩
          obtain ⟨_, _, e0, _, hcl⟩ := (HS.out.below hbw2).shape
          injection e0 with e1 e2 e3
          subst e1
          obtain ⟨bq, oq, rfl, hcy⟩ := hcl j y hy
          have HAny := Lib.hid (any_succ S j t.kind y hy)
          obtain ⟨p', l', c', d0, _, _, _, _, _⟩ := HKid.out.node (hbw2.mono hB) hbB
          have D0 := fun x : Wb W2 => x.cell d0
          have CY := fun x : Wb W2 => x.cell hcy
          clear hy hcl d0 hcy hb2 hbw2 e2 e3
          cases hok : (S.take j).any (· == t.kind)
          · rw [hok, Bool.false_or] at HAny
            have hyk : ((t.kind : Int) == (y : Int)) = (y == t.kind) := by
              rw [Bool.eq_iff_iff]; simp; omega
            have HYK := Lib.hid hyk
            clear hok hyk
            go_wp2_with fail
            refine wp_region_below (by kernel_rfl) (by kernel_rfl) ?_
            repeat (go_big_quiet_step (fail))
            refine wpQuiet_nil ?_
            intro W3 hw'
            have HB3 := Lib.hid (HB2.out.trans ((wb_below hw').mono HB2.out.size))
            clear hw' D0 CY
            go_wp2_with fail
            exact ⟨⟨W3, j + 1, rfl, by omega, by rw [HAny.out, ← HYK.out], by go_num, HB3.out⟩, by simp [intOf]; omega⟩
          · rw [hok, Bool.true_or] at HAny
            clear hok
            go_wp2_with fail
            refine wp_region_below (by kernel_rfl) (by kernel_rfl) ?_
            repeat (go_big_quiet_step (fail))
            refine wpQuiet_nil ?_
            intro W3 hw'
            have HB3 := Lib.hid (HB2.out.trans ((wb_below hw').mono HB2.out.size))
            clear hw' D0 CY
            go_wp2_with fail
            exact ⟨⟨W3, j + 1, rfl, by omega, by rw [HAny.out], by go_num, HB3.out⟩, by simp [intOf]; omega⟩
        · obtain rfl : j = m := by omega
          have hSt : S.take j = S := List.take_of_length_le (by rw [HM.out]; exact Nat.le_refl _)
          have hSc : (S.take j).any (· == t.kind) = S.contains t.kind := by
            rw [hSt, List.contains_eq_any_beq]; congr 1; funext y; rw [Bool.beq_comm]
          obtain ⟨p', l', c', d0, d1, d2, d3, d4, hnode⟩ := HKid.out.node (hbw2.mono hB) hbB
          have HNode := Lib.hid hnode
          have HBw2 := Lib.hid hbw2
          clear hSt hnode hb2 hbw2
          cases hsc : S.contains t.kind
          · have HSc := Lib.hid (hSc.trans hsc)
            have HNo : Hid (allF (d - 1) S ((ks.take en).drop fr) = false) := by
              show _ = false
              unfold allF
              rw [List.all_eq_false]
              refine ⟨t, ?_, by unfold kidOk; rw [hsc]; simp⟩
              apply List.mem_of_getElem? (i := k - fr)
              rw [List.getElem?_drop, List.getElem?_take, if_pos (by omega), show fr + (k - fr) = k by omega]
              exact HT.out
            clear hSc hsc
            rw [HSc.out]
            go_wp2_with fail
            go_ret
            exact ⟨ret_bool HNo.out.symm, HBw2.out⟩
          · have HSc := Lib.hid (hSc.trans hsc)
            have h1 : t.kind ≠ 1 := fun e => H1S.out (by rw [← e]; simpa using hsc)
            have HCall := Lib.hid (HN.out (d - 1) HD.out t _ B W2 HNode.out (Nat.le_trans hB HBw2.out.size) (HSl.out t (List.mem_of_getElem? HT.out) HD.out) h1)
            have HKo : Hid (kidOk (d - 1) S t = okF (d - 1) t) := by
              show _ = _
              unfold kidOk; rw [hsc, Bool.true_and]
            clear hSc hsc h1
            rw [HSc.out]
            generalize okF (d - 1) t = r at *
            go_wp2_with fail
            refine Calls.mono HCall.out ?_
            rintro e W3 ⟨rfl, hb3⟩
            have HB3 := Lib.hid (HBw2.out.trans (hb3.mono HBw2.out.size))
            clear hb3 d0 d1 d2 d3 d4
            cases r
            · have HNo : Hid (allF (d - 1) S ((ks.take en).drop fr) = false) := by
                show _ = false
                unfold allF
                rw [List.all_eq_false]
                refine ⟨t, ?_, by rw [HKo.out]; simp⟩
                apply List.mem_of_getElem? (i := k - fr)
                rw [List.getElem?_drop, List.getElem?_take, if_pos (by omega), show fr + (k - fr) = k by omega]
                exact HT.out
              go_wp2_with fail
              go_ret
              exact ⟨ret_bool HNo.out.symm, HB3.out⟩
            · go_wp2_with fail
              refine ⟨⟨W3, k + 1, rfl, by omega, by omega, by go_num, HB3.out, ?_⟩, by simp [intOf]; omega⟩
              unfold allF
              rw [take_drop_snoc ks fr k t HT.out hfk, List.all_append]
              have := HA.out
              unfold allF at this
              rw [this]
              simp [HKo.out]
    · obtain rfl : k = en := by omega
      clear hb
      go_wp2_with fail
      go_ret
      exact ⟨ret_bool HA.out.symm, HBw.out⟩
end Go.Proofs.YtfpohaipmnjflaaGreatDoor
/- The reference's looks at kids: expressions, a rule's; by contract, given the look at a kid. Condition: at most 20000 kids a list. -/
namespace Go.Proofs.YtfpohaipmnjflaaGreatDoor
open Go.RowKit

theorem swap3 (x y z : Bool) : (x && (y && z)) = (y && (x && z)) := by cases x <;> cases y <;> rfl
theorem allF_split (d : Nat) (S : List Nat) (l : List Tree) : allF d S l = (among S l && l.all (okF d)) := by
  unfold allF among kidOk
  induction l with
  | nil => rfl
  | cons x l ih =>
    rw [List.all_cons, List.all_cons, List.all_cons, ih]
    cases S.contains x.kind <;> cases okF d x <;> simp
/-- the call of 'all' with a literal -/
theorem all_lit (d : Nat) (h : RAllK d) (S : List Nat) (hl : S.length ≤ 100) (h1 : 1 ∉ S) (arr : Array Value) (ha : arr = (S.map fun k : Nat => Value.int .u8 (k : Int)).toArray) (m : Nat) (hm : S.length = m) (ks : List Tree) (u : Value) (B : Nat) (W : World) (fr en : Nat)
    (hk : KidsAt W B d ks u) (hB : B ≤ W.heap.size) (hfe : fr ≤ en) (hen : en ≤ ks.length) (hsl : SlimK d ks) :
    Calls Tryz.prog 26 #[u, .int .i64 fr, .int .i64 en, .slice (some ⟨W.heap.size, 0, none⟩) m m] (W.alloc (.cells arr 22)) (BoolPost (allF (d - 1) S ((ks.take en).drop fr)) W) := by
  have hb : Below W.heap.size W (W.alloc (.cells arr 22)) := (Below.refl _ W).alloc (Nat.le_refl _) _
  refine (h ks u B _ S _ fr en (hk.below (hb.mono hB)) (Nat.le_trans hB hb.size) (kinds_new W S hl arr ha m hm) h1 hfe hen hsl).mono ?_
  rintro e W' ⟨he, hb'⟩
  exact ⟨he, hb.trans (hb'.mono hb.size)⟩
def RExprsK (d : Nat) : Prop := ∀ (ks : List Tree) (u : Value) (B : Nat) (w : World), KidsAt w B d ks u → B ≤ w.heap.size → SlimK d ks → Calls Tryz.prog 84 #[u] w (BoolPost (exprsB ks && ks.all (okF (d - 1))) w)
def RRuleK (d : Nat) : Prop := ∀ (ks : List Tree) (u : Value) (B : Nat) (w : World), KidsAt w B d ks u → B ≤ w.heap.size → SlimK d ks → Calls Tryz.prog 83 #[u] w (BoolPost (rowB ks && ks.all (okF (d - 1))) w)
theorem SlimK.nine {d : Nat} {ks : List Tree} {w : World} {B : Nat} {u : Value} (h : SlimK d ks) (hk : KidsAt w B d ks u) : ks.length ≤ 20000 := by
  cases d with
  | zero => rw [hk.1]; exact Nat.zero_le _
  | succ d => exact h.1

set_option maxRecDepth 100000 in
set_option maxHeartbeats 2000000 in
theorem rexprs_of (d : Nat) (h : RAllK d) : RExprsK d := by
  intro ks u B w hk hB hsl
  have hn9 := hsl.nine hk
  have hkk := hk
  obtain ⟨p, c, rfl, _, hrow⟩ := hk.rows
  obtain ⟨n, hn⟩ : ∃ n, ks.length = n := ⟨_, rfl⟩
  rw [hn] at hn9 hkk ⊢
  have HLen := Lib.hid hn
  have HRow := Lib.hid hrow
  have HK := Lib.hid hkk
  have HAll := Lib.hid (fun W (hW : Below w.heap.size w W) => all_lit d h [13, 14, 15, 16] (by decide) (by decide) #[.int .u8 13, .int .u8 14, .int .u8 15, .int .u8 16] rfl 4 rfl ks _ B W 0 n (hkk.below (hW.mono hB)) (Nat.le_trans hB hW.size) (Nat.zero_le _) (by rw [hn]; exact Nat.le_refl _) hsl)
  clear hrow hk hn hsl hkk h
  go_enter Tryz.func84, Tryz.ntmps84
  go_wp2_with fail
  go_loopw [3] (AllRel w (fun t => !negT t) ks n) (fun i _ => n - (intOf i).toNat)
  case atStart => exact ⟨_, 0, rfl, Nat.zero_le _, rfl, Below.refl _ _, rfl⟩
  case round =>
    obtain ⟨W1, k, rfl, hk, rfl, hb, hall⟩ := hrel
    have HA := Lib.hid hall
    have HBw := Lib.hid hb
    clear hall
    by_cases hlt : k < n
    · obtain ⟨t, ht⟩ : ∃ t, ks[k]? = some t := ⟨ks[k]'(by rw [HLen.out]; exact hlt), List.getElem?_eq_getElem (by rw [HLen.out]; exact hlt)⟩
      obtain ⟨-, b, off, rfl, hbB, hkid⟩ := HRow.out k t ht
      obtain ⟨p', l', c', d0, d1, d2, d3, d4, hnode⟩ := hkid.node (hb.mono hB) hbB
      have hts := hnode.1.2.1
      unfold maxLen at hts
      have HT := Lib.hid ht
      have hk0 : (0 : Int) ≤ k := by omega
      have hk1 : (k : Int) < n := by omega
      clear hkid ht hnode hb
      cases h14 : ((t.kind : Int) == 14)
      · have HNg := Lib.hid (show (!negT t) = true by unfold negT; have : (t.kind == 14) = false := by simp at h14 ⊢; omega
                                                      rw [this]; rfl)
        go_wp2_with fail
        exact ⟨⟨_, k + 1, rfl, by omega, by go_num, HBw.out, all_next _ ks k t HT.out HA.out HNg.out⟩, by simp [intOf]; omega⟩
      · have h14' : (t.kind == 14) = true := by simp at h14 ⊢; omega
        have HE : Hid (negT t = negB t.text.data.toList) := by
          show negT t = _
          unfold negT; rw [h14']; rfl
        clear h14'
        rcases Nat.eq_zero_or_pos t.text.size with h0 | h0
        · have hx : t.text.data.toList = [] := List.eq_nil_of_length_eq_zero (by rw [Array.length_toList]; exact h0)
          have he : t.text.toList.isEmpty = true := by rw [ByteArray.toList_eq, hx]; rfl
          have HNg := Lib.hid (show (!negT t) = true by rw [HE.out, hx]; rfl)
          clear hx h0
          go_wp2_with fail
          exact ⟨⟨_, k + 1, rfl, by omega, by go_num, HBw.out, all_next _ ks k t HT.out HA.out HNg.out⟩, by simp [intOf]; omega⟩
        · have he : t.text.toList.isEmpty = false := bne_of_size t.text h0
          have hn := neg_at t.text h0
          have h01 : (0 : Int) < t.text.size := by omega
          cases hng : decide (t.text[0].toNat = 45)
          · have h45 : ((t.text[0].toNat : Int) == 45) = false := by simp at hng ⊢; omega
            have HNg := Lib.hid (show (!negT t) = true by rw [HE.out, hn, hng]; rfl)
            clear hn hng
            go_wp2_with fail
            exact ⟨⟨_, k + 1, rfl, by omega, by go_num, HBw.out, all_next _ ks k t HT.out HA.out HNg.out⟩, by simp [intOf]; omega⟩
          · have h45 : ((t.text[0].toNat : Int) == 45) = true := by simp at hng ⊢; omega
            have HNg := Lib.hid (show (!negT t) = false by rw [HE.out, hn, hng]; rfl)
            clear hn hng
            go_wp2_with fail
            go_ret
            refine ⟨ret_bool ?_, HBw.out⟩
            rw [exprsB_eq, all_not _ ks k t HT.out HNg.out]
            rfl
    · obtain rfl : k = n := by omega
      have HC := Lib.hid (HAll.out W1 hb)
      clear hb
      go_wp2_with fail
      refine Calls.mono HC.out ?_
      rintro e W2 ⟨rfl, hb2⟩
      have HBB := Lib.hid (HBw.out.trans (hb2.mono HBw.out.size))
      clear hb2
      go_wp2_with fail
      go_ret
      refine ⟨ret_bool ?_, HBB.out⟩
      have h1 := HA.out
      rw [List.take_of_length_le (by rw [HLen.out]; exact Nat.le_refl _)] at h1
      have e : ks.take k = ks := List.take_of_length_le (by rw [HLen.out]; exact Nat.le_refl _)
      show allF (d - 1) [13, 14, 15, 16] (ks.take k) = _
      rw [exprsB_eq, h1, e, allF_split, Bool.true_and]

set_option maxRecDepth 100000 in
set_option maxHeartbeats 2000000 in
theorem rrule_of (d : Nat) (h : RAllK d) : RRuleK d := by
  intro ks u B w hk hB hsl
  have hn9 := hsl.nine hk
  have hkk := hk
  obtain ⟨p, c, rfl, _, hrow⟩ := hk.rows
  obtain ⟨n, hn⟩ : ∃ n, ks.length = n := ⟨_, rfl⟩
  rw [hn] at hn9 hkk ⊢
  have HLen := Lib.hid hn
  have HRow := Lib.hid hrow
  have HK := Lib.hid hkk
  have HAll := Lib.hid (fun W (hW : Below w.heap.size w W) (k : Nat) (hk : k ≤ n) => all_lit d h [5, 6, 7] (by decide) (by decide) #[.int .u8 5, .int .u8 6, .int .u8 7] rfl 3 rfl ks _ B W 0 k (hkk.below (hW.mono hB)) (Nat.le_trans hB hW.size) (Nat.zero_le _) (by rw [hn]; exact hk) hsl)
  have HAll2 := Lib.hid (fun W (hW : Below w.heap.size w W) (k : Nat) (hk : k ≤ n) => all_lit d h [8, 9, 10, 11] (by decide) (by decide) #[.int .u8 8, .int .u8 9, .int .u8 10, .int .u8 11] rfl 4 rfl ks _ B W k n (hkk.below (hW.mono hB)) (Nat.le_trans hB hW.size) hk (by rw [hn]; exact Nat.le_refl _) hsl)
  clear hrow hk hn hsl hkk h
  go_enter Tryz.func83, Tryz.ntmps83
  go_wp2_with fail
  go_loopw [3] (AllRel w condB ks n) (fun i _ => n - (intOf i).toNat)
  case atStart => exact ⟨_, 0, rfl, Nat.zero_le _, rfl, Below.refl _ _, rfl⟩
  case round =>
    obtain ⟨W1, k, rfl, hk, rfl, hb, hall⟩ := hrel
    have HA := Lib.hid hall
    have HBw := Lib.hid hb
    have hk0 : (0 : Int) ≤ k := by omega
    have HC1 := Lib.hid (HAll.out W1 hb k hk)
    have HFin : Hid ((ks.drop k).head?.all (fun x => !condB x) = true → (allF (d - 1) [5, 6, 7] ((ks.take k).drop 0) && allF (d - 1) [8, 9, 10, 11] ((ks.take n).drop k)) = (rowB ks && ks.all (okF (d - 1)))) := by
      show _ → _
      intro hh
      unfold rowB
      rw [dropWhile_at condB ks k hall hh, allF_split, allF_split, List.drop_zero, List.take_of_length_le (i := n) (by rw [HLen.out]; exact Nat.le_refl _)]
      have e1 : among [5, 6, 7] (ks.take k) = true := by
        unfold among; exact hall
      have e2 : ks.all (okF (d - 1)) = ((ks.take k).all (okF (d - 1)) && (ks.drop k).all (okF (d - 1))) := by
        conv => lhs; rw [← List.take_append_drop k ks]
        rw [List.all_append]
      rw [e1, e2, Bool.true_and]
      exact swap3 _ _ _
    have HC2 := Lib.hid (fun W2 (hW2 : Below W1.heap.size W1 W2) => HAll2.out W2 (hb.trans (hW2.mono hb.size)) k hk)
    clear hall
    generalize allF (d - 1) [5, 6, 7] ((ks.take k).drop 0) = r1 at *
    generalize allF (d - 1) [8, 9, 10, 11] ((ks.take n).drop k) = r2 at *
    by_cases hlt : k < n
    · obtain ⟨t, ht⟩ : ∃ t, ks[k]? = some t := ⟨ks[k]'(by rw [HLen.out]; exact hlt), List.getElem?_eq_getElem (by rw [HLen.out]; exact hlt)⟩
      obtain ⟨-, b, off, rfl, hbB, hkid⟩ := HRow.out k t ht
      obtain ⟨p', l', c', d0, d1, d2, d3, d4, hnode⟩ := hkid.node (hb.mono hB) hbB
      have hh : (ks.drop k).head?.all (fun x => !condB x) = !condB t := by
        rw [List.head?_drop, ht]; rfl
      have HT := Lib.hid ht
      have HH := Lib.hid hh
      have hk1 : (k : Int) < n := by omega
      have HCd := Lib.hid (fun W => rcond_any t.kind W)
      have hcb : [5, 6, 7].contains t.kind = condB t := rfl
      rw [hcb] at HCd
      clear hkid ht hnode hh hb hcb
      cases hct : condB t
      · rw [hct] at HCd HH
        have HFin2 := Lib.hid (HFin.out HH.out)
        clear hct
        go_wp2_with fail
        refine Calls.mono (HCd.out _) ?_
        rintro e W2 ⟨rfl, rfl⟩
        go_wp2_with fail
        refine Calls.mono HC1.out ?_
        rintro e W2 ⟨rfl, hb2⟩
        have HB2 := Lib.hid hb2
        clear hb2 d0 d1 d2 d3 d4
        cases r1
        · go_wp2_with fail
          go_ret
          exact ⟨ret_bool (by rw [← HFin2.out]; rfl), HBw.out.trans (HB2.out.mono HBw.out.size)⟩
        · go_wp2_with fail
          refine Calls.mono (HC2.out _ HB2.out) ?_
          rintro e W3 ⟨rfl, hb3⟩
          have HB3 := Lib.hid (HB2.out.trans (hb3.mono HB2.out.size))
          clear hb3
          go_wp2_with fail
          go_ret
          exact ⟨ret_bool (by rw [← HFin2.out]; rfl), HBw.out.trans (HB3.out.mono HBw.out.size)⟩
      · rw [hct] at HCd
        have HCT := Lib.hid hct
        clear hct
        go_wp2_with fail
        refine Calls.mono (HCd.out _) ?_
        rintro e W2 ⟨rfl, rfl⟩
        go_wp2_with fail
        exact ⟨⟨_, k + 1, rfl, by omega, by go_num, HBw.out, all_next condB ks k t HT.out HA.out HCT.out⟩, by simp [intOf]; omega⟩
    · obtain rfl : k = n := by omega
      have HFin2 := Lib.hid (HFin.out (by rw [List.drop_eq_nil_of_le (by rw [HLen.out]; exact Nat.le_refl _)]; rfl))
      clear hb
      go_wp2_with fail
      refine Calls.mono HC1.out ?_
      rintro e W2 ⟨rfl, hb2⟩
      have HB2 := Lib.hid hb2
      clear hb2
      cases r1
      · go_wp2_with fail
        go_ret
        exact ⟨ret_bool (by rw [← HFin2.out]; rfl), HBw.out.trans (HB2.out.mono HBw.out.size)⟩
      · go_wp2_with fail
        refine Calls.mono (HC2.out _ HB2.out) ?_
        rintro e W3 ⟨rfl, hb3⟩
        have HB3 := Lib.hid (HB2.out.trans (hb3.mono HB2.out.size))
        clear hb3
        go_wp2_with fail
        go_ret
        exact ⟨ret_bool (by rw [← HFin2.out]; rfl), HBw.out.trans (HB3.out.mono HBw.out.size)⟩
end Go.Proofs.YtfpohaipmnjflaaGreatDoor
/- The reference's look at a node, kind by kind; by contract, given the looks at kids. Conditions: at most 20000 kids a list, texts of at most 72007 bytes. -/
namespace Go.Proofs.YtfpohaipmnjflaaGreatDoor
open Go.RowKit

/-- a node as its kind has it, its kids right -/
def okK (k : Nat) (t : ByteArray) (nm pl : Int) (ks : List Tree) (d : Nat) : Bool := textOk k t.data.toList ks.length && numOk k nm && decide (0 ≤ pl) && kidsOk k ks && ks.all (okF (d - 1))
theorem okK_no (k : Nat) (t : ByteArray) (nm pl : Int) (ks : List Tree) (d : Nat) (h : (numOk k nm && decide (0 ≤ pl)) = false) : okK k t nm pl ks d = false := by
  unfold okK
  rw [Bool.and_assoc (textOk _ _ _), h]; simp
theorem okK_yes (k : Nat) (t : ByteArray) (nm pl : Int) (ks : List Tree) (d : Nat) (h1 : numOk k nm = true) (h2 : decide (0 ≤ pl) = true) : okK k t nm pl ks d = (textOk k t.data.toList ks.length && (kidsOk k ks && ks.all (okF (d - 1)))) := by
  unfold okK
  rw [h1, h2, Bool.and_true, Bool.and_true, Bool.and_assoc]
theorem kids_empty (d : Nat) (ks : List Tree) (n : Nat) (hn : ks.length = n) : (ks.isEmpty && ks.all (okF d)) = (n == 0) := by
  subst hn
  cases ks with
  | nil => rfl
  | cons x l => rfl
theorem all_all (d : Nat) (S : List Nat) (ks : List Tree) (n : Nat) (hn : ks.length = n) : allF d S ((ks.take n).drop 0) = (among S ks && ks.all (okF d)) := by
  rw [List.take_of_length_le (by omega), List.drop_zero, allF_split]
theorem empty_text (t : ByteArray) : t.data.toList.isEmpty = t.toList.isEmpty := by rw [ByteArray.toList_eq]
theorem nat_eq_int (n k : Nat) : (n == k) = ((n : Int) == (k : Int)) := by rw [Bool.eq_iff_iff]; simp; omega
theorem one_texts (t : ByteArray) : amongB oneL t.data.toList = ((t.toList == [45]) || (t.toList == [110, 111, 116])) := by
  unfold amongB oneL
  simp only [List.any_cons, List.any_nil, Bool.or_false, ByteArray.toList_eq]
  congr 1 <;> (rw [Bool.beq_comm])
theorem ge_one (n : Nat) : decide (0 < n) = decide ((1 : Int) ≤ n) := by rw [Bool.eq_iff_iff]; simp; omega

set_option maxRecDepth 100000 in
set_option maxHeartbeats 2000000 in
theorem rnode_neg (k : Nat) (t : ByteArray) (nm pl : Int) (p : Option Addr) (n c : Nat) (w : World) (hpl : pl < 0) (P : Bool) (hP : P = false) :
    Calls Tryz.prog 50 #[.agg #[.int .u8 k, .string t, .int .i64 nm, .int .i64 pl, .slice p n c]] w (BoolPost P w) := by
  subst hP
  have hb0 : Below w.heap.size w (w.alloc (.cells #[.int .u8 k, .string t, .int .i64 nm, .int .i64 pl, .slice p n c] 25)) := (Below.refl _ w).alloc (Nat.le_refl _) _
  obtain ⟨b0, b1, b2, b3, b4⟩ := cells5 (heap_alloc_new w (.cells #[.int .u8 k, .string t, .int .i64 nm, .int .i64 pl, .slice p n c] 25))
  have HB := Lib.hid hb0
  clear hb0
  go_enter Tryz.func50, Tryz.ntmps50
  go_wp2_with fail
  go_ret
  exact ⟨rfl, HB.out⟩
set_option maxRecDepth 100000 in
set_option maxHeartbeats 2000000 in
theorem rnode_num (k : Nat) (t : ByteArray) (nm pl : Int) (p : Option Addr) (n c : Nat) (w : World) (hpl : 0 ≤ pl) (hnm : (nm == 0) = false) (h4 : k ≠ 4) (h9 : k ≠ 9) (P : Bool) (hP : P = false) :
    Calls Tryz.prog 50 #[.agg #[.int .u8 k, .string t, .int .i64 nm, .int .i64 pl, .slice p n c]] w (BoolPost P w) := by
  subst hP
  have hb0 : Below w.heap.size w (w.alloc (.cells #[.int .u8 k, .string t, .int .i64 nm, .int .i64 pl, .slice p n c] 25)) := (Below.refl _ w).alloc (Nat.le_refl _) _
  obtain ⟨b0, b1, b2, b3, b4⟩ := cells5 (heap_alloc_new w (.cells #[.int .u8 k, .string t, .int .i64 nm, .int .i64 pl, .slice p n c] 25))
  have HB := Lib.hid hb0
  have hnn : (nm != 0) = true := by show (!(nm == 0)) = true; rw [hnm]; rfl
  have e4 : ((k : Int) != 4) = true := by simp; omega
  have e9 : ((k : Int) != 9) = true := by simp; omega
  clear hb0 h4 h9
  go_enter Tryz.func50, Tryz.ntmps50
  go_wp2_with fail
  go_ret
  exact ⟨rfl, HB.out⟩
set_option maxRecDepth 100000 in
set_option maxHeartbeats 2000000 in
theorem rnode_3 (d : Nat) (_HA : Hid (RAllK d)) (_HE : Hid (RExprsK d)) (_HR : Hid (RRuleK d)) (t : ByteArray) (nm pl : Int) (p : Option Addr) (n c : Nat) (ks : List Tree) (B : Nat) (w : World) (_hk : KidsAt w B d ks (.slice p n c)) (_hB : B ≤ w.heap.size) (_hsl : SlimK d ks) (hts : t.size ≤ 72007) (hn : ks.length = n) :
    Calls Tryz.prog 50 #[.agg #[.int .u8 3, .string t, .int .i64 nm, .int .i64 pl, .slice p n c]] w (BoolPost (okK 3 t nm pl ks d) w) := by
  have hb0 : Below w.heap.size w (w.alloc (.cells #[.int .u8 3, .string t, .int .i64 nm, .int .i64 pl, .slice p n c] 25)) := (Below.refl _ w).alloc (Nat.le_refl _) _
  obtain ⟨b0, b1, b2, b3, b4⟩ := cells5 (heap_alloc_new w (.cells #[.int .u8 3, .string t, .int .i64 nm, .int .i64 pl, .slice p n c] 25))
  have HB := Lib.hid hb0
  have HX := Lib.hid (heap_alloc_new w (.cells #[.int .u8 3, .string t, .int .i64 nm, .int .i64 pl, .slice p n c] 25))
  have HYes := Lib.hid (okK_yes 3 t nm pl ks d)
  have HNo := Lib.hid (okK_no 3 t nm pl ks d)
  have HNm := Lib.hid (fun W => rname_any t W hts)
  have HLen := Lib.hid hn
  clear hb0 _hk _hsl hts hn
  by_cases hpl : 0 ≤ pl
  · have hpd : decide (0 ≤ pl) = true := by simpa using hpl
    have HPD := Lib.hid hpd
    clear hpd
    cases hnm : (nm == 0)
    · exact rnode_num 3 t nm pl p n c w hpl hnm (by omega) (by omega) _ (HNo.out (by rw [show numOk 3 nm = (nm == 0) from rfl, hnm]; rfl))
    · have HOk := Lib.hid (HYes.out (by rw [show numOk 3 nm = (nm == 0) from rfl, hnm]) HPD.out)
      have hnn : (nm != 0) = false := by show (!(nm == 0)) = false; rw [hnm]; rfl
      clear HYes HNo
      go_enter Tryz.func50, Tryz.ntmps50
      rw [show textOk 3 t.data.toList ks.length = (namedF t.data.toList && !wordB t.data.toList) from rfl] at HOk
      rw [show kidsOk 3 ks = ks.isEmpty from rfl, kids_empty (d - 1) ks n HLen.out, nat_eq_int] at HOk
      generalize (namedF t.data.toList && !wordB t.data.toList) = nf at *
      go_wp2_with fail
      refine Calls.mono (HNm.out _) ?_
      rintro e w1 ⟨rfl, hb1⟩
      have HB1 := Lib.hid (HB.out.trans (hb1.mono HB.out.size))
      clear b0 b1 b2 b3 b4
      obtain ⟨b0, b1, b2, b3, b4⟩ := cells5 (heap_below hb1 HX.out (by simp))
      clear hb1
      cases nf
      · go_wp2_with fail
        go_ret
        exact ⟨ret_bool (by rw [HOk.out]; rfl), HB1.out⟩
      · go_wp2_with fail
        go_ret
        exact ⟨ret_bool (by rw [HOk.out]; rfl), HB1.out⟩
  · have hpd : decide (0 ≤ pl) = false := by simpa using hpl
    exact rnode_neg 3 t nm pl p n c w (by omega) _ (HNo.out (by rw [hpd, Bool.and_false]))
end Go.Proofs.YtfpohaipmnjflaaGreatDoor
