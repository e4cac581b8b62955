/- The reference's Tokens; by contract. No condition. -/
import Derived.Test.YtfpohaipmnjflaaGreatDoorMDD
import Derived.Test.YtfpohaipmnjflaaGreatDoorMC
namespace Go.Proofs.YtfpohaipmnjflaaGreatDoor
open Go.RowKit

theorem toksFrom_blank (s : ByteArray) (k : Nat) (h : k < s.size) (hb : blankB s[k] = true) : toksFrom s (k + 1) = toksFrom s k := by
  rw [← toksFrom_skip s k, skip_blank s k h hb, toksFrom_skip]
theorem toksFrom_hash (s : ByteArray) (k : Nat) (h : k < s.size) (hc : s[k] = 35) : toksFrom s (scanTo (· != 10) s k) = toksFrom s k := by
  rw [← toksFrom_skip s k, skip_hash s k h hc, toksFrom_skip]

theorem rtokens_long (s : ByteArray) (w : World) (hs : 16384 < s.size) :
    Calls Tryz.prog 64 #[.string s] w fun e w' => e = .returned (.tuple #[.slice none 0 0, .agg #[.int .i64 3, .int .i64 0]]) ∧ Below w.heap.size w w' := by
  go_enter Tryz.func64, Tryz.ntmps64
  go_wp2
  go_returns
  exact ⟨rfl, by go_grown⟩

/-- what lies at the head of the reference's loop -/
def RT (w : World) (s : ByteArray) (v : Value) (k : Nat) (wr : World) : Prop :=
  k ≤ s.size ∧ ∃ pre, Below w.heap.size w wr ∧ wr.heap[w.heap.size]? = some (.cells #[.int .i64 0, .int .i64 0] 42 (0, 0)) ∧ wr.ownsRow (w.heap.size + 1) 67 3 v pre.length (lexCells pre) ∧
    pre ++ (toksFrom s k).1 = (toksFrom s 0).1 ∧ (toksFrom s k).2 = (toksFrom s 0).2
theorem RT.to {w wr : World} {s : ByteArray} {v : Value} {k k' : Nat} (h : RT w s v k wr) (hk : k' ≤ s.size) (he : toksFrom s k' = toksFrom s k) : RT w s v k' wr := by
  obtain ⟨_, pre, h1, h2, h3, h4, h5⟩ := h
  exact ⟨hk, pre, h1, h2, h3, by rw [he]; exact h4, by rw [he]; exact h5⟩

theorem cells2 {w : World} {T : Nat} {a b : Value} {t : TypeId} (h : w.heap[T]? = some (.cells #[a, b] t (0, 0))) :
    w.cell? ⟨T, 0, none⟩ = some a ∧ w.cell? ⟨T, 1, none⟩ = some b ∧ w.frozen? ⟨T, 0, none⟩ = false ∧ w.frozen? ⟨T, 1, none⟩ = false := by
  simp [World.cell?, World.frozen?, h]
theorem rtokens_end (w W : World) (Rp : Ending → World → Prop) (x y : Value) (v : Value) (hT : W.heap[w.heap.size]? = some (.cells #[x, y] 42 (0, 0)))
    (tmps : Array Value) (h2 : tmps.getD 2 undef = v) (h3 : tmps.getD 3 undef = .pointer (some ⟨w.heap.size, 0, none⟩))
    (hR : Rp (.returned (.tuple #[v, .agg #[x, y]])) W) :
    bodyPost Tryz.prog Tryz.f64 Rp .ret ⟨tmps, []⟩ W := by
  obtain ⟨c0, c1, _⟩ := cells2 hT
  have h2' : tmps[2]?.getD undef = v := by simpa using h2
  have h3' : tmps[3]?.getD undef = .pointer (some ⟨w.heap.size, 0, none⟩) := by simpa using h3
  refine bodyPost_ret (v := .tuple #[v, .agg #[x, y]]) ?_ rfl hR
  simp [results, Tryz.results64, go_sem, h2', h3', c0, c1]

set_option maxRecDepth 100000 in
set_option maxHeartbeats 4000000 in
theorem rtokens_any (s : ByteArray) (w : World) (hs : s.size ≤ 16384) :
    Calls Tryz.prog 64 #[.string s] w (TokensPost w s) := by
  obtain ⟨i0, hi0, hz0, hz1, hz2⟩ := info_parts infoLex
  go_enter Tryz.func64, Tryz.ntmps64
  go_wp2
  have hA := heap_alloc_new w (.cells #[.int .i64 0, .int .i64 0] 42)
  have hB : Below w.heap.size w (w.alloc (.cells #[.int .i64 0, .int .i64 0] 42)) := (Below.refl _ w).alloc (Nat.le_refl _) _
  generalize w.alloc (.cells #[.int .i64 0, .int .i64 0] 42) = W0 at *
  have HA := Lib.hid hA
  clear hA
  go_loopw [4, 5] (fun v i wr => ∃ k : Nat, i = .int .i64 k ∧ RT w s v k wr) (fun _ i _ => s.size - (intOf i).toNat)
  case atStart => exact ⟨0, rfl, Nat.zero_le _, [], hB, HA.out, World.ownsRow_nil _ _ _ _, rfl, rfl⟩
  case round =>
    obtain ⟨k, rfl, hrt⟩ := hrel
    have hk : k ≤ s.size := hrt.1
    by_cases hlt : k < s.size
    · have e9 : (s[k] == 9) = ((s[k].toNat : Int) == 9) := byte_eq s[k] 9 (by omega)
      have e10 : (s[k] == 10) = ((s[k].toNat : Int) == 10) := byte_eq s[k] 10 (by omega)
      have e13 : (s[k] == 13) = ((s[k].toNat : Int) == 13) := byte_eq s[k] 13 (by omega)
      have e32 : (s[k] == 32) = ((s[k].toNat : Int) == 32) := byte_eq s[k] 32 (by omega)
      have e35 : (s[k] == 35) = ((s[k].toNat : Int) == 35) := byte_eq s[k] 35 (by omega)
      have HBL : Hid (blankB s[k] = (s[k] == 9 || s[k] == 10 || s[k] == 13 || s[k] == 32)) := rfl
      cases hb : blankB s[k]
      · have hb' := hb
        rw [HBL.out] at hb'
        simp only [Bool.or_eq_false_iff] at hb'
        obtain ⟨⟨⟨x9, x10⟩, x13⟩, x32⟩ := hb'
        rw [e9] at x9; rw [e10] at x10; rw [e13] at x13; rw [e32] at x32
        have HB0 := Lib.hid hb
        clear e9 e10 e13 e32 hb HBL
        cases hh : s[k] == 35
        · have x35 := hh
          rw [e35] at x35
          have HS := Lib.hid (skip_stop s k hlt HB0.out hh)
          clear e35 hh
          obtain ⟨_, pre, hb, hT, hrow, hp1, hp2⟩ := hrt
          have HP1 := Lib.hid hp1
          have HP2 := Lib.hid hp2
          have HT := Lib.hid hT
          clear hp1 hp2 hT
          have hlen : (toksFrom s 0).1.length + 0 ≤ s.size := toks_len s (s.size + 1) 0 (Nat.zero_le _)
          have hpl : pre.length ≤ s.size := by
            have h2 := congrArg List.length HP1.out
            simp only [List.length_append] at h2
            omega
          clear hlen
          go_wp2_with fail
          refine (rtoken_any s k wr hlt hs).mono ?_
          rintro e w2 ⟨hb2, hcase⟩
          have hbw2 := hb.trans (hb2.mono hb.size)
          have hT2 := heap_below hb2 HT.out (Array.getElem?_eq_some_iff.1 HT.out).1
          have HT2 := Lib.hid hT2
          have hrow2 := ownsRow_below hrow hb2
          clear hb hb2 hrow hT2
          have hss : skip s k < s.size := by rw [HS.out]; exact hlt
          rcases hcase with ⟨her, rfl⟩ | ⟨her, rfl⟩
          · have hok := toksFrom_ok s k hss (by simp only [HS.out]; exact her)
            simp only [HS.out] at hok
            have hnx := tokenAt_next s k hlt her
            generalize hTT : tokenAt s k s[k] = t at *
            obtain ⟨kd, tx, er, en⟩ := t
            have HOK := Lib.hid hok
            clear her hok hTT
            dsimp only at hnx HOK ⊢
            obtain ⟨hn1, hn2⟩ := hnx
            go_wp2_with (at_builtin; go_must (refine wpList_append_own _ rfl (.tmp 69) (.tmp 71) 57 rfl (w.heap.size + 1) 67 i0 _ 3 32 Tryz.underlying57 hi0 hz0 hz1 hz2 rfl (by decide) u4 pre.length (lexCells pre) rfl ((hrow2.alloc _).alloc _) ⟨w2.heap.size + 1, 0, none⟩ 1 1 [.int .u8 kd, .string tx, .int .i64 k] rfl rfl (by exact news_new2 w2 _ [.int .u8 kd, .string tx, .int .i64 k] 67) (by simp [Value.oneCell']) (by simp only [maxLen]; omega) (by omega) (by have := hbw2.size; have := (Array.getElem?_eq_some_iff.1 HT2.out).1; simp; omega) ?_); intro v' w7 hown' hgrow _)
            have hno : ∀ i, i < w.heap.size + 1 → some i ≠ u4.ownBlock := fun i hi e => by have := (hrow2.lt i e.symm).1; omega
            have hbw7 : Below w.heap.size w w7 := ((hbw2.alloc hbw2.size _).alloc (by have := hbw2.size; simp; omega) _).grown hgrow (by have := hbw2.size; simp; omega) (fun k e => by have := (hrow2.lt k e).1; omega)
            have hl2 := (Array.getElem?_eq_some_iff.1 HT2.out).1
            have hT7 : w7.heap[w.heap.size]? = some (.cells #[.int .i64 0, .int .i64 0] 42 (0, 0)) := heap_grown hgrow ((Below.heap_alloc _ _ _ (by simp; omega)).trans ((Below.heap_alloc _ _ _ hl2).trans HT2.out)) (hno _ (by omega))
            refine ⟨⟨en, rfl, hn2, pre ++ [(kd, tx, k)], hbw7, hT7, ?_, ?_, ?_⟩, by simp [intOf]; omega⟩
            · have e1 : (pre ++ [(kd, tx, k)]).length = pre.length + 1 := by simp
              have e2 : lexCells (pre ++ [(kd, tx, k)]) = lexCells pre ++ [.int .u8 kd, .string tx, .int .i64 k] := by simp [lexCells, tokCells]
              rw [e1, e2]; exact hown'
            · rw [← HP1.out, HOK.out]; simp
            · rw [← HP2.out, HOK.out]
          · have hbad := toksFrom_bad s k hss (by simp only [HS.out]; exact her)
            simp only [HS.out] at hbad
            generalize hTT : tokenAt s k s[k] = t at *
            obtain ⟨kd, tx, er, en⟩ := t
            have HBD := Lib.hid hbad
            clear hbad hTT
            dsimp only at her HBD ⊢
            have ht1 : ((er : Int) != 0) = true := by rw [bne_iff_ne]; omega
            have HER := Lib.hid her
            clear her
            obtain ⟨c0, c1, f0, f1⟩ := cells2 HT2.out
            have hl2 := (Array.getElem?_eq_some_iff.1 HT2.out).1
            have hT3 : ∀ (o : Obj) (x y : Value), (((w2.setCell ⟨w.heap.size, 0, none⟩ x).setCell ⟨w.heap.size, 1, none⟩ y).alloc o).heap[w.heap.size]? = some (.cells #[x, y] 42 (0, 0)) := fun o x y => by
              have h := heap_set (heap_set HT2.out 0 x) 1 y
              exact (Below.heap_alloc _ o _ (Array.getElem?_eq_some_iff.1 h).1).trans h
            have HT3 := Lib.hid hT3
            have hb3 : ∀ (o : Obj) (x y : Value), Below w.heap.size w (((w2.setCell ⟨w.heap.size, 0, none⟩ x).setCell ⟨w.heap.size, 1, none⟩ y).alloc o) := fun o x y => by
              have h := (hbw2.setCell (p := ⟨w.heap.size, 0, none⟩) (Nat.le_refl _) x).setCell (p := ⟨w.heap.size, 1, none⟩) (Nat.le_refl _) y
              exact h.alloc h.size o
            have HB3 := Lib.hid hb3
            clear hT3 hb3
            go_wp2_with fail
            refine rtokens_end w _ _ _ _ _ (HT3.out _ _ _) _ rfl rfl ⟨HB3.out _ _ _, .inr ⟨er, k, ?_, rfl⟩⟩
            rw [← HP2.out, HBD.out]
        · have x35 := hh
          rw [e35] at x35
          have h35 : s[k] = 35 := by simpa using hh
          have hsc := toksFrom_hash s k hlt h35
          have hsh := scan_hash s k hlt h35
          have hle := scanTo_le (· != 10) s k hk
          have HSC := Lib.hid hsc
          clear e35 hh h35 hsc
          obtain ⟨wo, hwo⟩ : ∃ wo : World, wo = wr := ⟨_, rfl⟩
          subst hwo
          go_wp2
          go_loopw [5] (fun i wi => ∃ j : Nat, k ≤ j ∧ j ≤ s.size ∧ i = .int .i64 j ∧ scanTo (· != 10) s j = scanTo (· != 10) s k ∧ wi = wo) (fun i _ => s.size - (intOf i).toNat)
          case atStart => exact ⟨k, Nat.le_refl _, hk, rfl, rfl, rfl⟩
          case round =>
            obtain ⟨j, hkj, hj, rfl, hsj, rfl⟩ := hrel
            have HSJ := Lib.hid hsj
            clear hsj
            by_cases hltj : j < s.size
            · have HY := Lib.hid (scanTo_yes (· != 10) s j hltj)
              have HN := Lib.hid (scanTo_no (· != 10) s j hltj)
              have e10 : (s[j] == 10) = ((s[j].toNat : Int) == 10) := byte_eq s[j] 10 (by omega)
              cases h10 : s[j] == 10
              · have b10 : ((s[j].toNat : Int) == 10) = false := by rw [← e10]; exact h10
                have b10' : ((s[j].toNat : Int) != 10) = true := by rw [bne, b10]; rfl
                have hy := HY.out (by rw [bne, h10]; rfl)
                have HYY := Lib.hid hy
                clear e10 h10 hy
                go_wp2
                exact ⟨⟨j + 1, by omega, by omega, by go_num, by rw [HYY.out]; exact HSJ.out, by trivial⟩, by simp [intOf]; omega⟩
              · have b10 : ((s[j].toNat : Int) == 10) = true := by rw [← e10]; exact h10
                have b10' : ((s[j].toNat : Int) != 10) = false := by rw [bne, b10]; rfl
                have hn := HN.out (by rw [bne, h10]; rfl)
                have hkk : scanTo (· != 10) s k = j := by rw [← HSJ.out]; exact hn
                have HKK := Lib.hid hkk
                clear e10 h10 hn hkk
                go_wp2
                refine ⟨⟨j, rfl, hrt.to hj (by rw [← HKK.out]; exact HSC.out)⟩, ?_⟩
                have : k < j := by rw [← HKK.out]; exact hsh
                simp [intOf]; omega
            · have hkk : scanTo (· != 10) s k = j := by rw [← HSJ.out]; exact scanTo_end _ s j (by omega)
              have HKK := Lib.hid hkk
              clear hkk
              go_wp2
              refine ⟨⟨j, rfl, hrt.to hj (by rw [← HKK.out]; exact HSC.out)⟩, ?_⟩
              have : k < j := by rw [← HKK.out]; exact hsh
              simp [intOf]; omega
      · have HTO := Lib.hid (hrt.to (k' := k + 1) (by omega) (toksFrom_blank s k hlt hb))
        rw [HBL.out] at hb
        clear HBL e35 hrt
        cases h9 : s[k] == 9
        · cases h10 : s[k] == 10
          · cases h13 : s[k] == 13
            · have h32 : (s[k] == 32) = true := by rw [h9, h10, h13] at hb; simpa using hb
              rw [e9] at h9; rw [e10] at h10; rw [e13] at h13; rw [e32] at h32
              clear e9 e10 e13 e32 hb
              go_wp2
              exact ⟨⟨k + 1, by go_num, HTO.out⟩, by simp [intOf]; omega⟩
            · rw [e9] at h9; rw [e10] at h10; rw [e13] at h13
              clear e9 e10 e13 e32 hb
              go_wp2
              exact ⟨⟨k + 1, by go_num, HTO.out⟩, by simp [intOf]; omega⟩
          · rw [e9] at h9; rw [e10] at h10
            clear e9 e10 e13 e32 hb
            go_wp2
            exact ⟨⟨k + 1, by go_num, HTO.out⟩, by simp [intOf]; omega⟩
        · rw [e9] at h9
          clear e9 e10 e13 e32 hb
          go_wp2
          exact ⟨⟨k + 1, by go_num, HTO.out⟩, by simp [intOf]; omega⟩
    · obtain rfl : k = s.size := by omega
      obtain ⟨_, pre, hb, hT, hrow, hp1, hp2⟩ := hrt
      rw [toksFrom_end s s.size (by rw [skip_end s _ (Nat.le_refl _)]; omega)] at hp1 hp2
      have hp1' : pre = (toksFrom s 0).1 := by simpa using hp1
      have HP1 := Lib.hid hp1'
      have HP2 := Lib.hid hp2
      have HT := Lib.hid hT
      clear hp1 hp2 hT hp1'
      have hpl : pre.length ≤ s.size := by
        have hlen : (toksFrom s 0).1.length + 0 ≤ s.size := toks_len s (s.size + 1) 0 (Nat.zero_le _)
        rw [HP1.out]; omega
      have hl2 := (Array.getElem?_eq_some_iff.1 HT.out).1
      go_wp2_with (at_builtin; go_must (refine wpList_append_own _ rfl (.tmp 74) (.tmp 78) 57 rfl (w.heap.size + 1) 67 i0 _ 3 32 Tryz.underlying57 hi0 hz0 hz1 hz2 rfl (by decide) u4 pre.length (lexCells pre) rfl (hrow.alloc _) ⟨wr.heap.size, 0, none⟩ 1 1 [.int .u8 7, .string ⟨#[]⟩, .int .i64 s.size] rfl rfl (by exact news_new wr [.int .u8 7, .string ⟨#[]⟩, .int .i64 s.size] 67) (by simp [Value.oneCell']) (by simp only [maxLen]; omega) (by omega) (by simp; omega) ?_); intro v' w7 hown' hgrow _; have hno : some w.heap.size ≠ u4.ownBlock := (fun e => by have := (hrow.lt _ e.symm).1; omega); have hT7 := heap_grown hgrow ((Below.heap_alloc _ _ _ hl2).trans HT.out) hno; obtain ⟨c0, c1, f0, f1⟩ := cells2 hT7)
      have hbw7 : Below w.heap.size w w7 := (hb.alloc hb.size _).grown hgrow (by have := hb.size; simp; omega) (fun k e => by have := (hrow.lt k e).1; omega)
      refine rtokens_end w _ _ _ _ _ (heap_set (heap_set hT7 0 _) 1 _) _ rfl rfl ⟨(hbw7.setCell (p := ⟨w.heap.size, 0, none⟩) (Nat.le_refl _) _).setCell (p := ⟨w.heap.size, 1, none⟩) (Nat.le_refl _) _, .inl ⟨HP2.out.symm, _, rfl, ?_⟩⟩
      have h9 := ownsRow_setCell_below (ownsRow_setCell_below hown' (a := ⟨w.heap.size, 0, none⟩) (by show w.heap.size < w.heap.size + 1; omega) (.int .i64 0)) (a := ⟨w.heap.size, 1, none⟩) (by show w.heap.size < w.heap.size + 1; omega) (.int .i64 0)
      have h8 := ownsRow_base (b' := w.heap.size) h9 (by omega)
      rw [← HP1.out]
      simpa [lexCells, tokCells] using h8
end Go.Proofs.YtfpohaipmnjflaaGreatDoor
