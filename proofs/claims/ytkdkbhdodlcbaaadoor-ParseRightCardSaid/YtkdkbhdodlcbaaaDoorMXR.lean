/- ParseRight, the law's walk: it answers true for every source. Condition: the library's table of blanks lies as laid. -/
import Derived.Test.YtkdkbhdodlcbaaaDoorMXP
import Derived.Test.YtkdkbhdodlcbaaaDoorMY
import Derived.BigQuiet
namespace Go.Proofs.YtkdkbhdodlcbaaaDoor
open Go.RowKit

theorem toks_err2 (s : ByteArray) : ∀ (f k er pl : Nat), (toks f s k).2 = some (er, pl) → er = 200 ∨ er = 201 := by
  intro f
  induction f with
  | zero => intro k er pl h; cases h
  | succ f ih =>
    intro k er pl h
    unfold toks at h
    split at h
    · split at h
      · exact ih _ _ _ h
      · rename_i h1 h2
        simp only [Option.some.injEq, Prod.mk.injEq] at h
        obtain ⟨rfl, _⟩ := h
        generalize skip s k = q at *
        generalize s[q] = c at *
        unfold tokenAt at h2 ⊢
        split at h2
        · rename_i h3; rw [if_pos h3]; dsimp only at h2 ⊢
          split at h2
          · exact absurd rfl h2
          · rename_i h4; rw [if_neg h4]; exact Or.inr rfl
        · rename_i h3; rw [if_neg h3]
          split at h2
          · rename_i h4; rw [if_pos h4]; dsimp only at h2 ⊢
            split at h2
            · exact absurd rfl h2
            · rename_i h5; rw [if_neg h5]; exact Or.inr rfl
          · rename_i h4; rw [if_neg h4]
            split at h2
            · rename_i h5; rw [if_pos h5]; dsimp only at h2 ⊢
              split at h2
              · exact absurd rfl h2
              · rename_i h6; rw [if_neg h6]; exact Or.inr rfl
            · rename_i h5; rw [if_neg h5]
              split at h2
              · exact absurd rfl h2
              · exact Or.inl rfl
    · cases h
/-- what a source may be told -/
theorem progM_cases (s : ByteArray) : (∃ T, progM s = (T, 0, 0) ∧ rightF 30 T = true) ∨ (∃ er pl, progM s = (zeroT, er, pl) ∧ er ≠ 0 ∧ er ≠ 202) ∨
    (∃ k, s.size ≤ 16384 ∧ (toksFrom s 0).2 = none ∧ (progD (allTk s)).2 = (k, true) ∧ progM s = (zeroT, 202, ((tokM (allTk s) k).2.2 : Int))) := by
  unfold progM
  by_cases hs : 16384 < s.size
  · rw [if_pos hs]; exact Or.inr (Or.inl ⟨3, 0, rfl, by decide, by decide⟩)
  · rw [if_neg hs]
    cases h0 : (toksFrom s 0).2 with
    | some q =>
      obtain ⟨er, pl⟩ := q
      have := toks_err2 s _ 0 er pl h0
      exact Or.inr (Or.inl ⟨er, pl, rfl, by omega, by omega⟩)
    | none =>
      dsimp only
      unfold progR
      by_cases hb : (progD (allTk s)).2.2 = true
      · rw [if_pos hb]
        exact Or.inr (Or.inr ⟨(progD (allTk s)).2.1, by omega, rfl, by rw [← hb], rfl⟩)
      · rw [if_neg hb]
        cases dpM 30 (progT s) with
        | some p => exact Or.inr (Or.inl ⟨203, p, rfl, by decide, by decide⟩)
        | none =>
          dsimp only
          by_cases hr : rightF 30 (progT s) = true
          · rw [if_pos hr]; exact Or.inl ⟨_, rfl, hr⟩
          · rw [if_neg hr]; exact Or.inr (Or.inl ⟨204, 0, rfl, by decide, by decide⟩)
theorem place_eq (s : ByteArray) {i k : Nat} (hi : i < (allTk s).length) (hk : k < (allTk s).length) : (tokM (allTk s) i).2.2 = (tokM (allTk s) k).2.2 ↔ i = k := by
  have hs := allTk_sorted s
  rw [List.pairwise_iff_getElem] at hs
  have e : ∀ j (h : j < (allTk s).length), tokM (allTk s) j = (allTk s)[j] := fun j h => tokM_get (List.getElem?_eq_getElem h)
  constructor
  · intro h
    rw [e i hi, e k hk] at h
    rcases Nat.lt_trichotomy i k with h1 | h1 | h1
    · have := hs i k hi hk h1; omega
    · exact h1
    · have := hs k i hk hi h1; omega
  · rintro rfl; rfl
theorem row_places {W : World} {base : Nat} {v : Value} {ts : List Tok} (h : W.ownsRow base 39 3 v ts.length (lexCells ts)) (h0 : 0 < ts.length) :
    ∃ g cap, v = .slice (some ⟨g, 0, none⟩) ts.length cap ∧ g < W.heap.size ∧ ∀ i, i < ts.length → W.cell? ⟨g, i * 3 + 2, none⟩ = some (.int .i64 (tokM ts i).2.2) := by
  obtain ⟨_, ⟨_, h⟩ | ⟨g, cap, cur, rfl, _, hg, hle, hm, hc, ht⟩⟩ := h
  · omega
  · refine ⟨g, cap, rfl, (Array.getElem?_eq_some_iff.1 hg).1, fun i hi => ?_⟩
    rw [cell_of_row _ _ _ _ _ _ hg]
    have h1 := lexCells_tok ts i _ (tokM_at hi) 2 _ rfl
    rw [← ht, List.getElem?_take] at h1
    split at h1
    · simpa using h1
    · cases h1
theorem progM_bad (s : ByteArray) (hs : s.size ≤ 16384) (h0 : (toksFrom s 0).2 = none) (k : Nat) (hD : (progD (allTk s)).2 = (k, true)) : progM s = (zeroT, 202, ((tokM (allTk s) k).2.2 : Int)) := by
  have h : progM s = progR (allTk s) (progD (allTk s)) (progT s) := by
    unfold progM
    rw [if_neg (by omega), h0]
  rw [h]
  unfold progR
  generalize progT s = T0
  generalize progD (allTk s) = R at *
  generalize allTk s = ts at *
  obtain ⟨L, σ⟩ := R
  have hD' : σ = (k, true) := hD
  subst hD'
  rw [if_pos rfl]; rfl
/-- the loop's state: the end is known behind the faulty token -/
def EndRel (w W0 : World) (n k : Nat) (en : Int) (x i : Value) (W : World) : Prop := ∃ (j : Nat) (W1 : World), W1 = W ∧ j ≤ n ∧ i = .int .i64 j ∧ x = .int .i64 (if k < j then en else -1) ∧ Below W0.heap.size W0 W1 ∧ w = w
set_option maxRecDepth 100000 in
set_option maxHeartbeats 4000000 in
theorem law_parseRight (s : ByteArray) (w : World) (ht : AsciiTab w) : Calls Tryd.prog 3 #[.string s] w (BoolPost true w) := by
  have HT := Lib.hid (fun W (hW : Below w.heap.size w W) => ht.below hW)
  have HA := Lib.hid (awake6_any w ht)
  have HPr := Lib.hid (fun (x : ByteArray) W (hW : Below w.heap.size w W) => program_any x W (ht.below hW))
  have HC := Lib.hid (progM_cases s)
  clear ht
  go_enter Tryd.func3, Tryd.ntmps3
  go_wp2_with fail
  refine Calls.mono HA.out ?_
  rintro e w1 ⟨rfl, hb1⟩
  have HB1 := Lib.hid hb1
  clear hb1
  by_cases hs : 17000 < s.size
  · have hs1 : (17000 : Int) < s.size := by omega
    go_wp2_with fail
    go_ret
    exact ⟨rfl, HB1.out⟩
  · have hs1 : decide ((17000 : Int) < s.size) = false := by simp; omega
    go_wp2_with fail
    refine Calls.mono (HPr.out s _ HB1.out) ?_
    rintro e w2 ⟨sl, rfl, hb2, ho, hf, hsl⟩
    have hb12 := HB1.out.trans (hb2.mono HB1.out.size)
    rcases HC.out with ⟨T, hm, hr⟩ | ⟨er, pl, hm, h0, h202⟩ | ⟨k, hs2, htk, hD, hm⟩
    · rw [hm] at ho hf hsl ⊢
      dsimp only at ho hf hsl ⊢
      obtain ⟨p, c, rfl⟩ := ho.shape
      obtain ⟨w3, hw3⟩ : ∃ w3, w3 = ((w2.alloc (.cells #[.int .u8 T.kind, .string T.text, .int .i64 T.num, .int .i64 T.place, .slice p T.kids.length c] 26)).alloc (.cells #[.int .i64 0, .int .i64 0] 29)) := ⟨_, rfl⟩
      have hb3 : Below w2.heap.size w2 w3 := by rw [hw3]; exact below_two w2 _ _
      obtain ⟨X0, X1, _⟩ := two_new' w2 (.cells #[.int .u8 T.kind, .string T.text, .int .i64 T.num, .int .i64 T.place, .slice p T.kids.length c] 26) (.cells #[.int .i64 0, .int .i64 0] 29)
      rw [← hw3] at X0 X1
      have HB3 := Lib.hid (hb12.trans (hb3.mono hb12.size))
      have hK := (ho.kids (B := w2.heap.size) fun b hb => hb.2).below hb3
      have HRt := Lib.hid (nodeRight_any 30 T _ w2.heap.size w3 ⟨hf, _, rfl, hK⟩ hb3.size (hsl 30) (HT.out _ HB3.out))
      rw [hr] at HRt
      have HX1 := Lib.hid X1
      have hl3 : w2.heap.size + 1 < w3.heap.size := (Array.getElem?_eq_some_iff.1 X1).1
      obtain ⟨a0, a1, a2, a3, a4⟩ := cells5 X0
      obtain ⟨b0, b1, _, _⟩ := cells2 X1
      clear hb2 ho hf hsl hb12 hb3 hK hm hr X0 X1
      go_upto_region 6 with fail
      change Code.wp _ _ _ _ ((w2.alloc (.cells #[.int .u8 T.kind, .string T.text, .int .i64 T.num, .int .i64 T.place, .slice p T.kids.length c] 26)).alloc (.cells #[.int .i64 0, .int .i64 0] 29))
      rw [← hw3]
      clear hw3
      go_wp2_with fail
      refine Calls.mono HRt.out ?_
      rintro e w4 ⟨rfl, hb4⟩
      have HB4 := Lib.hid (HB3.out.trans (hb4.mono HB3.out.size))
      have HX4 := Lib.hid (heap_below hb4 HX1.out hl3)
      clear a0 a1 a2 a3 a4 b0 b1 hb4
      obtain ⟨b0, b1, _, _⟩ := cells2 HX4.out
      go_wp2_with fail
      go_ret
      exact ⟨rfl, HB4.out⟩
    · rw [hm] at ho ⊢
      obtain ⟨p, c, rfl, hz⟩ := zero_slice ho
      have HZ := Lib.hid hz
      obtain ⟨w3, hw3⟩ : ∃ w3, w3 = ((w2.alloc (.cells #[.int .u8 zeroT.kind, .string zeroT.text, .int .i64 zeroT.num, .int .i64 zeroT.place, .slice p 0 c] 26)).alloc (.cells #[.int .i64 er, .int .i64 pl] 29)) := ⟨_, rfl⟩
      have hb3 : Below w2.heap.size w2 w3 := by rw [hw3]; exact below_two w2 _ _
      obtain ⟨X0, X1, _⟩ := two_new' w2 (.cells #[.int .u8 zeroT.kind, .string zeroT.text, .int .i64 zeroT.num, .int .i64 zeroT.place, .slice p 0 c] 26) (.cells #[.int .i64 er, .int .i64 pl] 29)
      rw [← hw3] at X0 X1
      have HB3 := Lib.hid (hb12.trans (hb3.mono hb12.size))
      have HSame := Lib.hid (sameNode_of 30 (sameNodes_holds 30) zeroT _ _ w3.heap.size w3.heap.size w3 (HZ.out w3 w3.heap.size 30) (zero_node w3 w3.heap.size 30) (Nat.le_refl _) (Nat.le_refl _))
      have HX1 := Lib.hid X1
      have hl3 : w2.heap.size + 1 < w3.heap.size := (Array.getElem?_eq_some_iff.1 X1).1
      have e0 : (er == 0) = false := by simpa using h0
      have e2 : (er != 202) = true := by simpa using h202
      obtain ⟨a0, a1, a2, a3, a4⟩ := cells5 X0
      obtain ⟨b0, b1, _, _⟩ := cells2 X1
      clear hb2 ho hf hsl hb12 hb3 hz hm X0 X1 h0 h202
      go_upto_region 6 with fail
      change Code.wp _ _ _ _ ((w2.alloc (.cells #[.int .u8 zeroT.kind, .string zeroT.text, .int .i64 zeroT.num, .int .i64 zeroT.place, .slice p 0 c] 26)).alloc (.cells #[.int .i64 er, .int .i64 pl] 29))
      rw [← hw3]
      clear hw3
      go_wp2_with fail
      refine Calls.mono HSame.out ?_
      rintro e w4 ⟨rfl, hb4⟩
      have HB4 := Lib.hid (HB3.out.trans (hb4.mono HB3.out.size))
      have HX4 := Lib.hid (heap_below hb4 HX1.out hl3)
      clear a0 a1 a2 a3 a4 b0 b1 hb4
      obtain ⟨b0, b1, _, _⟩ := cells2 HX4.out
      go_wp2_with fail
      go_ret
      exact ⟨rfl, HB4.out⟩
    · rw [hm] at ho ⊢
      obtain ⟨p, c, rfl, hz⟩ := zero_slice ho
      have HZ := Lib.hid hz
      obtain ⟨q1, q2, q3, q4⟩ := cut_same s hs2 htk k hD
      have hsx : (s.extract 0 (endOf s k)).size ≤ 16384 := by rw [ext_size s 0 _ q1]; omega
      have hm2 : progM (s.extract 0 (endOf s k)) = (zeroT, 202, ((tokM (allTk s) k).2.2 : Int)) := by
        rw [progM_bad _ hsx q2 k q3, q4]
      have hk : k < (allTk s).length := by
        have := progL_lt (allTk s) ((allTk s).length + 1) [] (0, false) (by rw [allTk_len]; exact Nat.succ_pos _)
        have h2 : (progL (allTk s) ((allTk s).length + 1) [] (0, false)).2 = (k, true) := hD
        rw [h2] at this
        exact this
      have hpe := fun i (hi : i < (allTk s).length) => place_eq s hi hk
      obtain ⟨fa, hfa⟩ : ∃ x, (tokM (allTk s) k).2.2 = x := ⟨_, rfl⟩
      rw [hfa] at hm2 hpe ⊢
      obtain ⟨en, hen⟩ : ∃ x, endOf s k = x := ⟨_, rfl⟩
      have heq : ∀ i, i < (allTk s).length → i = k → en = if i + 1 < (allTk s).length then (tokM (allTk s) (i + 1)).2.2 else s.size := fun i _ h => by rw [← hen, h]; rfl
      rw [hen] at q1 hm2
      obtain ⟨w3, hw3⟩ : ∃ w3, w3 = ((w2.alloc (.cells #[.int .u8 zeroT.kind, .string zeroT.text, .int .i64 zeroT.num, .int .i64 zeroT.place, .slice p 0 c] 26)).alloc (.cells #[.int .i64 202, .int .i64 fa] 29)) := ⟨_, rfl⟩
      have hb3 : Below w2.heap.size w2 w3 := by rw [hw3]; exact below_two w2 _ _
      obtain ⟨X0, X1, _⟩ := two_new' w2 (.cells #[.int .u8 zeroT.kind, .string zeroT.text, .int .i64 zeroT.num, .int .i64 zeroT.place, .slice p 0 c] 26) (.cells #[.int .i64 202, .int .i64 fa] 29)
      rw [← hw3] at X0 X1
      have HB3 := Lib.hid (hb12.trans (hb3.mono hb12.size))
      have HSame := Lib.hid (sameNode_of 30 (sameNodes_holds 30) zeroT _ _ w3.heap.size w3.heap.size w3 (HZ.out w3 w3.heap.size 30) (zero_node w3 w3.heap.size 30) (Nat.le_refl _) (Nat.le_refl _))
      have HX1 := Lib.hid X1
      have hl3 : w2.heap.size + 1 < w3.heap.size := (Array.getElem?_eq_some_iff.1 X1).1
      obtain ⟨a0, a1, a2, a3, a4⟩ := cells5 X0
      obtain ⟨b0, b1, _, _⟩ := cells2 X1
      have HEq := Lib.hid heq
      have HPe := Lib.hid hpe
      have HM2 := Lib.hid hm2
      have HQ1 : Hid (en ≤ s.size) := q1
      have HTk : Hid ((toksFrom s 0).2 = none) := htk
      have HTok := Lib.hid (fun W (hW : Below w.heap.size w W) => tokens_any s W hs2 (HT.out W hW))
      have HNl := Lib.hid (allTk_len s)
      have HN5 : Hid ((allTk s).length ≤ 16385) := by
        show _ ≤ _
        have h1 := toks_len s (s.size + 1) 0 (Nat.zero_le _)
        have h2 : (toksFrom s 0).1.length + 0 ≤ s.size := h1
        rw [allTk_len]; omega
      have HKl : Hid (k < (allTk s).length) := hk
      clear hb2 ho hf hsl hb12 hb3 hz hm X0 X1 q1 q2 q3 q4 hm2 hk hpe heq hen hfa hD htk hsx
      go_upto_region 6 with fail
      change Code.wp _ _ _ _ ((w2.alloc (.cells #[.int .u8 zeroT.kind, .string zeroT.text, .int .i64 zeroT.num, .int .i64 zeroT.place, .slice p 0 c] 26)).alloc (.cells #[.int .i64 202, .int .i64 fa] 29))
      rw [← hw3]
      clear hw3
      go_wp2_with fail
      refine Calls.mono HSame.out ?_
      rintro e w4 ⟨rfl, hb4⟩
      have HB4 := Lib.hid (HB3.out.trans (hb4.mono HB3.out.size))
      have HX4 := Lib.hid (heap_below hb4 HX1.out hl3)
      have hl4 : w3.heap.size ≤ w4.heap.size := hb4.size
      clear a0 a1 a2 a3 a4 b0 b1 hb4
      obtain ⟨b0, b1, _, _⟩ := cells2 HX4.out
      go_wp2_with fail
      refine Calls.mono (HTok.out _ HB4.out) ?_
      rintro e w5 ⟨hb5, ⟨_, v, rfl, hown⟩ | ⟨er, pl, h, _⟩⟩
      rotate_left
      · rw [HTk.out] at h; cases h
      have hown' : w5.ownsRow w4.heap.size 39 3 v (allTk s).length (lexCells (allTk s)) := by rw [HNl.out]; exact hown
      obtain ⟨g, cap, rfl, hg, hcell⟩ := row_places hown' (by have := HNl.out; omega)
      obtain ⟨w6, hw6⟩ : ∃ w6, w6 = w5.alloc (.cells #[.int .i64 0, .int .i64 0] 29) := ⟨_, rfl⟩
      have hb6 : Below w5.heap.size w5 w6 := by rw [hw6]; exact (Below.refl _ w5).alloc (Nat.le_refl _) _
      have hb46 := hb5.trans (hb6.mono hb5.size)
      have HB6 := Lib.hid (HB4.out.trans (hb46.mono HB4.out.size))
      have HX6 := Lib.hid (heap_below hb46 HX4.out (by omega))
      have hg6 : g < w6.heap.size := by have := hb6.size; omega
      have HCell := Lib.hid (fun i (hi : i < (allTk s).length) => (hb6.cell (p := ⟨g, i * 3 + 2, none⟩) hg).trans (hcell i hi))
      obtain ⟨n, hn⟩ : ∃ n, (allTk s).length = n := ⟨_, rfl⟩
      rw [hn] at HCell HEq HPe HKl HN5 ⊢
      obtain ⟨pm, hpm⟩ : ∃ f : Nat → Nat, (fun i => (tokM (allTk s) i).2.2) = f := ⟨_, rfl⟩
      have HCell2 : Hid (∀ i, i < n → w6.cell? ⟨g, i * 3 + 2, none⟩ = some (.int .i64 (pm i))) := by rw [← hpm]; exact HCell.out
      have HEq2 : Hid (∀ i, i < n → i = k → en = if i + 1 < n then pm (i + 1) else s.size) := by rw [← hpm]; exact HEq.out
      have HPe2 : Hid (∀ i, i < n → (pm i = fa ↔ i = k)) := by rw [← hpm]; exact HPe.out
      clear hb5 hb6 hb46 hown hown' hcell hn hpm HCell HEq HPe b0 b1
      go_upto_region 13 with fail
      change Code.wp _ _ _ _ (w5.alloc (.cells #[.int .i64 0, .int .i64 0] 29))
      rw [← hw6]
      clear hw6
      have hx6l : w2.heap.size + 1 < w6.heap.size := (Array.getElem?_eq_some_iff.1 HX6.out).1
      go_wp2_with fail
      go_loopw [7, 8] (fun x i wr => EndRel w w6 n k en x i wr) (fun _ i _ => n - (intOf i).toNat)
      case atStart => exact ⟨0, w6, rfl, Nat.zero_le _, rfl, by rw [if_neg (Nat.not_lt_zero _)], Below.refl _ _, rfl⟩
      case round =>
        obtain ⟨j, W1, rfl, hj, rfl, rfl, hbw, _⟩ := hrel
        obtain ⟨b0, b1, _, _⟩ := cells2 (heap_below hbw HX6.out hx6l)
        have HBw := Lib.hid (HB6.out.trans (hbw.mono HB6.out.size))
        have HBW := Lib.hid hbw
        clear hbw
        by_cases hlt : j < n
        · have hj1 : (j : Int) < n := by omega
          have hj0 : (0 : Int) ≤ j := by omega
          have hj5 : (j : Int) + 1 ≤ 16385 := by have := HN5.out; omega
          have hwr : wrap64 ((j : Int) + 1) = ((j + 1 : Nat) : Int) := by unfold wrap64; omega
          have cj := (HBW.out.cell (p := ⟨g, j * 3 + 2, none⟩) hg6).trans (HCell2.out j hlt)
          by_cases he : pm j = fa
          · have hjk : j = k := (HPe2.out j hlt).1 he
            have he' : ((pm j : Int) == fa) = true := by simp; omega
            have hEn := HEq2.out j hlt hjk
            have HJk := Lib.hid hjk
            rw [if_neg (show ¬ k < j by omega)]
            clear he hjk
            by_cases hlast : j + 1 < n
            · rw [if_pos hlast] at hEn
              have HEn := Lib.hid hEn
              have ck := (HBW.out.cell (p := ⟨g, (j + 1) * 3 + 2, none⟩) hg6).trans (HCell2.out (j + 1) hlast)
              have hl1 : ((j + 1 : Nat) : Int) < n := by omega
              clear hEn
              go_wp2
              go_quiet (fail)
              go_wp2
              refine ⟨⟨j + 1, _, rfl, by omega, by go_num, ?_, below_drewN HBW.out _, rfl⟩, by simp [intOf]; omega⟩
              rw [if_pos (by have := HJk.out; omega), HEn.out]
            · rw [if_neg hlast] at hEn
              have HEn := Lib.hid hEn
              have hl1 : decide (((j + 1 : Nat) : Int) < n) = false := by simp; omega
              clear hEn
              go_wp2
              go_quiet (fail)
              go_wp2
              refine ⟨⟨j + 1, _, rfl, by omega, by go_num, ?_, below_drewN HBW.out _, rfl⟩, by simp [intOf]; omega⟩
              rw [if_pos (by have := HJk.out; omega), HEn.out]
          · have hjk : ¬ j = k := fun h => he ((HPe2.out j hlt).2 h)
            have he' : ((pm j : Int) == fa) = false := by simp; omega
            have HJk := Lib.hid hjk
            obtain ⟨x, hx⟩ : ∃ x : Int, (if k < j then (en : Int) else -1) = x := ⟨_, rfl⟩
            rw [hx]
            have HXe := Lib.hid hx
            clear he hjk hx
            go_wp2
            go_quiet (fail)
            go_wp2
            refine ⟨⟨j + 1, _, rfl, by omega, by go_num, ?_, below_drewN HBW.out _, rfl⟩, by simp [intOf]; omega⟩
            rw [← HXe.out]
            by_cases h : k < j
            · rw [if_pos h, if_pos (by omega)]
            · rw [if_neg h, if_neg (by have := HJk.out; omega)]
        · obtain rfl : j = n := by omega
          rw [if_pos HKl.out]
          have hsl : ∀ W, (Instr.slice 9 (.string s) none (some (.int .i64 (en : Int))) none).run Tryd.prog W = .ok (.string (s.extract 0 en)) W := fun W => by
            rw [run_slice_string_h W 9 s Tryd.underlying9 .i64 (en : Int) (by omega) (by have := HQ1.out; omega)]
            rfl
          have e0 : ¬ ((en : Int) < 0) := by omega
          have e1 : ¬ ((s.size : Int) < (en : Int)) := by have := HQ1.out; omega
          have HP2 := Lib.hid (HPr.out (s.extract 0 en) _ HBw.out)
          rw [HM2.out] at HP2
          clear hlt
          go_wp2_with fail
          refine Calls.mono HP2.out ?_
          rintro e w8 ⟨sl2, rfl, hb8, ho8, _, _⟩
          obtain ⟨p2, c2, rfl, _⟩ := zero_slice ho8
          have HB8 := Lib.hid (HBw.out.trans (hb8.mono HBw.out.size))
          have HX8 := Lib.hid (heap_below (HBW.out.trans (hb8.mono HBW.out.size)) HX6.out hx6l)
          clear hb8 ho8 b0 b1
          obtain ⟨w9, hw9⟩ : ∃ w9, w9 = ((w8.alloc (.cells #[.int .u8 zeroT.kind, .string zeroT.text, .int .i64 zeroT.num, .int .i64 zeroT.place, .slice p2 0 c2] 26)).alloc (.cells #[.int .i64 202, .int .i64 fa] 29)) := ⟨_, rfl⟩
          have hb9 : Below w8.heap.size w8 w9 := by rw [hw9]; exact below_two w8 _ _
          obtain ⟨_, Y1, _⟩ := two_new' w8 (.cells #[.int .u8 zeroT.kind, .string zeroT.text, .int .i64 zeroT.num, .int .i64 zeroT.place, .slice p2 0 c2] 26) (.cells #[.int .i64 202, .int .i64 fa] 29)
          rw [← hw9] at Y1
          have HB9 := Lib.hid (HB8.out.trans (hb9.mono HB8.out.size))
          obtain ⟨b0, b1, _, _⟩ := cells2 (heap_below hb9 HX8.out (Array.getElem?_eq_some_iff.1 HX8.out).1)
          obtain ⟨c0, c1, _, _⟩ := cells2 Y1
          clear hb9 Y1
          go_upto_region 24 with fail
          change Code.wp _ _ _ _ ((w8.alloc (.cells #[.int .u8 zeroT.kind, .string zeroT.text, .int .i64 zeroT.num, .int .i64 zeroT.place, .slice p2 0 c2] 26)).alloc (.cells #[.int .i64 202, .int .i64 fa] 29))
          rw [← hw9]
          clear hw9
          go_wp2_with fail
          go_ret
          exact ⟨rfl, HB9.out⟩
end Go.Proofs.YtkdkbhdodlcbaaaDoor
