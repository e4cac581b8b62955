/- ScanLimits, the law's walk: it answers true. Condition: the library's table of blanks lies as laid. -/
import Derived.Test.YtondgnefggglcaaDoorScanN
import Derived.Test.YtondgnefggglcaaDoorPlainB
import Derived.Test.YtondgnefggglcaaDoorRefE
namespace Go.Proofs.YtondgnefggglcaaDoor
open Go.RowKit

/-- a row of bytes, of which so many have been filled -/
structure Fill (B : World) (G n : Nat) (b : Int) (j : Nat) (W : World) : Prop where
  row : ∃ cs, W.heap[G]? = some (.cells cs 5 (0, 0)) ∧ cs.size = n ∧ ∀ m, m < j → cs[m]? = some (.int .u8 b)
  bel : Below B.heap.size B W
  ge : B.heap.size ≤ G
theorem infoU8 : (Tryd.prog.info? 5).map (fun i => (i.zero, i.size, i.bytes)) = some (some (.int .u8 0), 1, 1) := by kernel_rfl
theorem make_bytes (B w : World) (hB : Below B.heap.size B w) (G : Nat) (hG : w.heap.size = G) (n : Nat) (x : Int) (hx : x = n) (hn : n ≤ 100000) (b : Int) :
    ∃ W, (Instr.makeSlice 36 (.int .i64 x) (.int .i64 x)).run Tryd.prog w = .ok (.slice (some ⟨G, 0, none⟩) n n) W ∧ Fill B G n b 0 W := by
  subst hx
  subst hG
  have h := infoU8
  cases hi : Tryd.prog.info? 5 with
  | none => rw [hi] at h; cases h
  | some i =>
    rw [hi] at h
    simp only [Option.map_some, Option.some.injEq, Prod.mk.injEq] at h
    obtain ⟨hz, hsz, hby⟩ := h
    have hr := run_make (P := Tryd.prog) w 36 5 i _ Tryd.underlying36 hi hz .i64 .i64 n n (by omega) (Int.le_refl _) (by rw [hby]; omega) (by omega)
    simp only [Int.toNat_natCast, hsz, Nat.mul_one] at hr
    exact ⟨_, hr, ⟨_, heap_alloc_new w _, size_madeCells _ _, fun m hm => absurd hm (by omega)⟩, hB.trans (((Below.refl _ w).alloc (Nat.le_refl _) _).mono hB.size), hB.size⟩
theorem Fill.can {B W : World} {G n : Nat} {b : Int} {j : Nat} (h : Fill B G n b j W) {m : Nat} (hm : m < n) : (∃ v, W.cell? ⟨G, m, none⟩ = some v) ∧ W.frozen? ⟨G, m, none⟩ = false := by
  obtain ⟨cs, h1, h2, _⟩ := h.row
  refine ⟨⟨cs[m]'(by omega), ?_⟩, ?_⟩
  · simp [World.cell?, h1, Array.getElem?_eq_getElem (show m < cs.size by omega)]
  · simp [World.frozen?, h1]
theorem Fill.put {B W : World} {G n : Nat} {b : Int} {j : Nat} (h : Fill B G n b j W) (hj : j < n) : Fill B G n b (j + 1) (W.setCell ⟨G, j, none⟩ (.int .u8 b)) := by
  obtain ⟨cs, h1, h2, h3⟩ := h.row
  refine ⟨⟨_, heap_set h1 j _, by simpa using h2, fun m hm => ?_⟩, h.bel.setCell h.ge _, h.ge⟩
  by_cases e : j = m
  · subst e
    rw [Array.getElem?_setIfInBounds_self_of_lt (by omega)]
  · rw [Array.getElem?_setIfInBounds_ne e]
    exact h3 m (by omega)
theorem Fill.text {B W : World} {G n : Nat} {b : Int} (h : Fill B G n b n W) (c : UInt8) (hc : (c.toNat : Int) = b) :
    (convert 36 9 (.slice (some ⟨G, 0, none⟩) n n)).run Tryd.prog W = .ok (.string ⟨(List.replicate n c).toArray⟩) W := by
  obtain ⟨cs, h1, h2, h3⟩ := h.row
  have hr := run_convert_bytes_back (P := Tryd.prog) W 36 9 5 ⟨G, 0, none⟩ n (List.replicate n c) Tryd.underlying36 Tryd.underlying5 Tryd.underlying9 (fun j hj => by
    have hj' : j < n := by simpa using hj
    have e : ((⟨G, 0, none⟩ : Addr).add j) = ⟨G, j, none⟩ := by
      unfold Addr.add
      by_cases h0 : j = 0
      · rw [if_pos h0, h0]
      · rw [if_neg h0]; simp
    rw [e, cell_of_row _ _ j _ _ _ h1, h3 j hj']
    simp [hc])
  simpa using hr
/-- a text of one byte -/
theorem one_text (w : World) (x : Int) (c : UInt8) (hc : (c.toNat : Int) = x) :
    (convert 36 9 (.slice (some ⟨w.heap.size, 0, none⟩) 1 1)).run Tryd.prog (w.alloc (.cells #[.int .u8 x] 5)) = .ok (.string ⟨#[c]⟩) (w.alloc (.cells #[.int .u8 x] 5)) := by
  have hr := run_convert_bytes_back (P := Tryd.prog) (w.alloc (.cells #[.int .u8 x] 5)) 36 9 5 ⟨w.heap.size, 0, none⟩ 1 [c] Tryd.underlying36 Tryd.underlying5 Tryd.underlying9 (fun j hj => by
    obtain rfl : j = 0 := by simpa using hj
    have e : ((⟨w.heap.size, 0, none⟩ : Addr).add 0) = ⟨w.heap.size, 0, none⟩ := rfl
    rw [e, cell_new1]
    simp [hc])
  simpa using hr
/-- the four texts -/
def fourT (k : Nat) (b : UInt8) : List ByteArray := [nameT k b, markT 63 k b, markT 39 k b, greatT k]
theorem nameT_size (k : Nat) (b : UInt8) : (nameT k b).size = 23 + k := by simp [nameT, ByteArray.size]
theorem markT_size (m : UInt8) (k : Nat) (b : UInt8) : (markT m k b).size = 24 + k := by simp [markT, ByteArray.size]; omega
theorem four_ok (k c : Nat) (hk : k < 3) (hc : c < 26) (j : Nat) (t : ByteArray) (h : (fourT k (UInt8.ofNat (97 + c)))[j]? = some t) : limitB k t = true ∧ t.size ≤ 100 := by
  match j, h with
  | 0, h =>
    obtain rfl : nameT k _ = t := Option.some.inj h
    exact ⟨limit_at (p := fun k c => limitB k (nameT k (UInt8.ofNat (97 + c)))) (k := k) (c := c) names_ok hk hc, by rw [nameT_size]; omega⟩
  | 1, h =>
    obtain rfl : markT 63 k _ = t := Option.some.inj h
    exact ⟨limit_at (p := fun k c => limitB k (markT 63 k (UInt8.ofNat (97 + c)))) (k := k) (c := c) vars_ok hk hc, by rw [markT_size]; omega⟩
  | 2, h =>
    obtain rfl : markT 39 k _ = t := Option.some.inj h
    exact ⟨limit_at (p := fun k c => limitB k (markT 39 k (UInt8.ofNat (97 + c)))) (k := k) (c := c) atoms_ok hk hc, by rw [markT_size]; omega⟩
  | 3, h =>
    obtain rfl : greatT k = t := Option.some.inj h
    exact ⟨List.all_eq_true.1 great_ok k (List.mem_range.2 hk), by show 19 ≤ 100; omega⟩
  | _ + 4, h => cases h

theorem ownsRow_some {w : World} {B n size : Nat} {e : TypeId} {v : Value} {xs : List Value} (h : w.ownsRow B e size v n xs) (hn : 0 < n) : ∃ g cap, v = .slice (some ⟨g, 0, none⟩) n cap ∧ B ≤ g ∧ g < w.heap.size := by
  rcases h.2 with ⟨_, rfl⟩ | ⟨g, cap, cur, rfl, hg, hh, _⟩
  · omega
  · exact ⟨g, cap, rfl, hg, (Array.getElem?_eq_some_iff.1 hh).1⟩
/-- the texts lie in a block; the loop over them -/
def FourAt (w : World) (G : Nat) (L : List ByteArray) (W : World) : Prop := W.heap[G]? = some (.cells (L.map Value.string).toArray 9 (0, 0)) ∧ AsciiTab W ∧ Below w.heap.size w W
def FourRel (w : World) (G : Nat) (L : List ByteArray) (i : Value) (wr : World) : Prop := ∃ (W : World) (j : Nat), W = wr ∧ j ≤ 4 ∧ i = .int .i64 j ∧ FourAt w G L W
theorem fourRel_of {w W : World} {G : Nat} {L : List ByteArray} (j : Nat) (x : Int) (hx : x = j) (hj : j ≤ 4) (h : FourAt w G L W) : FourRel w G L (.int .i64 x) W := ⟨W, j, rfl, hj, by rw [hx], h⟩
theorem fourRel_out {w wr : World} {G : Nat} {L : List ByteArray} {i : Value} (h : FourRel w G L i wr) : ∃ (W : World) (j : Nat), W = wr ∧ j ≤ 4 ∧ i = .int .i64 j ∧ W.heap[G]? = some (.cells (L.map Value.string).toArray 9 (0, 0)) ∧ AsciiTab W ∧ Below w.heap.size w W := h
theorem cat_mark (m : UInt8) (k : Nat) (b : UInt8) : (⟨#[m]⟩ : ByteArray) ++ nameT k b = markT m k b := by
  apply ByteArray.ext
  apply Array.toList_inj.1
  simp [nameT, markT, ByteArray.data_append]

set_option maxRecDepth 100000 in
set_option maxHeartbeats 1000000 in
theorem law_scanLimits (x c : Int) (w : World) (hc0 : 0 ≤ c) (hc1 : c < 256) (ht : AsciiTab w) :
    Calls Tryd.prog 5 #[.int .i64 x, .int .u8 c] w fun e w' => e = .returned (.bool true) ∧ Below w.heap.size w w' := by
  go_enter Tryd.func5, Tryd.ntmps5
  go_wp2_with fail
  refine (awake_any w ht).mono ?_
  rintro e w1 ⟨rfl, hb1⟩
  have ht1 := ht.below hb1
  have HP := Lib.hid (pick_any x 3 w1 (by omega) (by omega))
  go_wp2_with fail
  refine HP.out.mono ?_
  rintro e w2 ⟨k, hk, rfl, rfl⟩
  obtain ⟨n, hn⟩ : ∃ n, n = 16383 + k := ⟨_, rfl⟩
  obtain ⟨W3, hmk, hf⟩ := make_bytes w1 w1 (Below.refl _ _) _ rfl n (16383 + (k : Int)) (by omega) (by omega) 32
  have HF := Lib.hid hf
  have hkI : (k : Int) < 3 := by omega
  have HN := Lib.hid hn
  have hnI : (n : Int) = 16383 + k := by omega
  clear hn
  clear hf
  go_wp2_with fail
  go_loopw [7] (fun i wr => ∃ (W : World) (j : Nat), W = wr ∧ j ≤ n ∧ i = .int .i64 j ∧ Fill w1 w1.heap.size n 32 j wr) (fun i _ => n - (intOf i).toNat)
  case atStart => exact ⟨_, 0, rfl, by omega, rfl, HF.out⟩
  case round =>
    obtain ⟨W4, j, rfl, hj, rfl, hf⟩ := hrel
    by_cases hlt : j < n
    · obtain ⟨⟨v, hv⟩, hz⟩ := hf.can hlt
      have hF2 := hf.put hlt
      have HF2 := Lib.hid hF2
      have hj0 : (0 : Int) ≤ j := by omega
      have hj1 : (j : Int) < n := by omega
      clear hF2 hf
      go_wp2_with fail
      exact ⟨⟨_, j + 1, rfl, by omega, by go_num, HF2.out⟩, by simp [intOf]; omega⟩
    · obtain rfl : j = n := by omega
      have hcv := hf.text 32 rfl
      have hb4 := hb1.trans (hf.bel.mono hb1.size)
      have ht4 := ht1.below hf.bel
      obtain ⟨T, hT⟩ : ∃ T : ByteArray, T = ⟨(List.replicate j 32).toArray⟩ := ⟨_, rfl⟩
      have hTs : T.size = j := by rw [hT]; simp [ByteArray.size]
      have hTt : toksFrom T 0 = ([], none) := toks_blank T (by rw [hT]; simp; exact Or.inr (by decide))
      rw [← hT] at hcv
      have hj5 : j ≤ 16385 := by have := HN.out; omega
      clear hT hf
      obtain ⟨m, hm⟩ : ∃ m : Nat, c % 26 = m := ⟨(c % 26).toNat, by omega⟩
      have hm26 : m < 26 := by omega
      have H4 := Lib.hid (four_ok k m hk hm26)
      have e54 : ((UInt8.ofNat (54 + k)).toNat : Int) = 54 + k := by simp; omega
      have e97 : ((UInt8.ofNat (97 + m)).toNat : Int) = 97 + m := by simp; omega
      have cat3 : (⟨#[57, 50, 50, 51, 51, 55, 50, 48, 51, 54, 56, 53, 52, 55, 55, 53, 56, 48]⟩ : ByteArray) ++ (⟨#[UInt8.ofNat (54 + k)]⟩ : ByteArray) = greatT k := rfl
      generalize UInt8.ofNat (54 + k) = kb at *
      generalize UInt8.ofNat (97 + m) = cb at *
      obtain ⟨NT, hNT⟩ : ∃ NT, NT = nameT k cb := ⟨_, rfl⟩
      have cat1 : (⟨#[63]⟩ : ByteArray) ++ NT = markT 63 k cb := by rw [hNT]; exact cat_mark 63 k _
      have cat2 : (⟨#[39]⟩ : ByteArray) ++ NT = markT 39 k cb := by rw [hNT]; exact cat_mark 39 k _
      have E54 := Lib.hid e54
      have E97 := Lib.hid e97
      clear e54 e97
      have HC1 := Lib.hid cat1
      have HC2 := Lib.hid cat2
      have HC3 := Lib.hid cat3
      have HNT := Lib.hid hNT
      clear cat1 cat2 cat3
      rcases (show k = 2 ∨ k < 2 by omega) with hk2 | hk2
      · have c2 : ((k : Int) == 2) = true := by simp; omega
        have c3 : ¬ ((k : Int) < 2) := by omega
        have HTok := Lib.hid (tokens_long T W4 (by have := HN.out; omega))
        have HCV := Lib.hid hcv
        clear hTt hcv hk2 hnI hTs
        have hcv := HCV.out
        go_wp2_with fail
        refine HTok.out.mono ?_
        rintro e w5 ⟨rfl, hb45⟩
        obtain ⟨W5, hW5⟩ : ∃ W5, W5 = w5.alloc (.cells #[.int .i64 3, .int .i64 0] 26) := ⟨_, rfl⟩
        have hb5 : Below w5.heap.size w5 W5 := by rw [hW5]; exact (Below.refl _ w5).alloc (Nat.le_refl _) _
        obtain ⟨a0, a1, _, _⟩ := cells2 (heap_alloc_new w5 (.cells #[.int .i64 3, .int .i64 0] 26))
        rw [← hW5] at a0 a1
        have hb6 : Below w.heap.size w W5 := hb4.trans ((hb45.trans (hb5.mono hb45.size)).mono hb4.size)
        have ht5 : AsciiTab W5 := (ht4.below hb45).below hb5
        clear hb45
        obtain ⟨n2, hn2⟩ : ∃ n2, n2 = 23 + k := ⟨_, rfl⟩
        obtain ⟨W6, hmk2, hf2⟩ := make_bytes w W5 hb6 (w5.heap.size + 1) (by rw [hW5]; simp) n2 (23 + (k : Int)) (by omega) (by omega) (97 + c % 26)
        have HF3 := Lib.hid hf2
        have hn2I : (n2 : Int) = 23 + k := by omega
        have HN2 := Lib.hid hn2
        have HB6 := Lib.hid hb6
        have HT5 := Lib.hid ht5
        have HW5 := Lib.hid hW5
        rw [hW5] at hmk2 a0 a1
        clear hf2 hn2 hmk hb4 hb5 hb6 ht5 hW5 hNT
        have HM := Lib.hid hm
        clear hm
        go_wp2_with fail
        go_loopw [11] (fun i wr => ∃ (W : World) (j : Nat), W = wr ∧ j ≤ n2 ∧ i = .int .i64 j ∧ Fill w (w5.heap.size + 1) n2 (97 + c % 26) j wr) (fun i _ => n2 - (intOf i).toNat)
        case atStart => exact ⟨_, 0, rfl, by omega, rfl, HF3.out⟩
        case round =>
          obtain ⟨W7, i, rfl, hi, rfl, hf⟩ := hrel
          by_cases hlt : i < n2
          · obtain ⟨⟨v, hv⟩, hz⟩ := hf.can hlt
            have hF2 := hf.put hlt
            have HF2 := Lib.hid hF2
            have hj0 : (0 : Int) ≤ i := by omega
            have hj1 : (i : Int) < n2 := by omega
            clear hF2 hf
            go_wp2_with fail
            exact ⟨⟨_, i + 1, rfl, by omega, by go_num, HF2.out⟩, by simp [intOf]; omega⟩
          · obtain rfl : i = n2 := by omega
            have hcv2 := hf.text cb (by have := HM.out; have := E97.out; omega)
            have hcv3 := one_text W7 (54 + (k : Int)) kb E54.out
            have hb7 := hf.bel
            have ht7 : AsciiTab W7 := ht.below hb7
            have e : nameT k cb = ⟨(List.replicate i cb).toArray⟩ := by rw [HN2.out]; rfl
            rw [← e, ← HNT.out] at hcv2
            have hn3 : i ≤ 100 := by have := HN2.out; omega
            have c1 := HC1.out
            have c4 := HC2.out
            have c5 := HC3.out
            have hnt : NT.size ≤ 200 := by rw [HNT.out, nameT_size]; omega
            obtain ⟨X0, X1, X2⟩ := two_new W7 (.cells #[.int .u8 (54 + (k : Int))] 5) (.cells #[.string NT, .string (markT 63 k cb), .string (markT 39 k cb), .string (greatT k)] 9)
            have eF : #[.string NT, .string (markT 63 k cb), .string (markT 39 k cb), .string (greatT k)] = ((fourT k cb).map Value.string).toArray := by rw [HNT.out]; rfl
            have HX : Hid (FourAt w (W7.heap.size + 1) (fourT k cb) _) := ⟨X1.trans (by rw [eF]), ht7.below X2, hb7.trans (X2.mono hb7.size)⟩
            clear hf e X0 X1 X2 eF hb7 ht7 hcv hmk2 hn2I
            go_wp2_with fail
            go_loopw [13] (FourRel w (W7.heap.size + 1) (fourT k cb)) (fun i _ => 4 - (intOf i).toNat)
            case atStart => exact fourRel_of 0 _ rfl (by omega) HX.out
            case round =>
              obtain ⟨W8, q, rfl, hq, rfl, hrow8, ht8, hb8⟩ := fourRel_out hrel
              have hrowlt := (Array.getElem?_eq_some_iff.1 hrow8).1
              by_cases hlt : q < 4
              · obtain ⟨tx, htx⟩ : ∃ tx, (fourT k cb)[q]? = some tx := ⟨(fourT k cb)[q]'hlt, List.getElem?_eq_getElem hlt⟩
                have hcell : W8.cell? ⟨W7.heap.size + 1, q, none⟩ = some (.string tx) := by
                  rw [cell_of_row _ _ q _ _ _ hrow8]; simp [htx]
                obtain ⟨hl1, hl2⟩ := H4.out q tx htx
                have hq0 : (0 : Int) ≤ q := by omega
                have hq1 : (q : Int) < 4 := by omega
                have HRow := Lib.hid hrow8
                have HB8 := Lib.hid hb8
                clear htx hrow8 hb8
                have hk2 : k = 2 := by simp at c2; omega
                have HTx := Lib.hid (tokens_at tx W8 (by omega) ht8 _ rfl)
                rw [limitB_high (by rw [← hk2]; exact hl1)] at HTx
                clear hk2 hl1 hl2
                go_wp2_with fail
                refine HTx.out.mono ?_
                rintro e w9 ⟨hb9, (⟨hf, _⟩ | ⟨er, pl, hf, rfl⟩)⟩
                · cases hf
                simp only [Option.some.injEq, Prod.mk.injEq] at hf
                obtain ⟨rfl, rfl⟩ := hf
                obtain ⟨W9, hW9⟩ : ∃ W9, W9 = w9.alloc (.cells #[.int .i64 201, .int .i64 0] 26) := ⟨_, rfl⟩
                obtain ⟨b0, b1, _, _⟩ := cells2 (heap_alloc_new w9 (.cells #[.int .i64 201, .int .i64 0] 26))
                have hb10 : Below w9.heap.size w9 W9 := by rw [hW9]; exact (Below.refl _ w9).alloc (Nat.le_refl _) _
                have hb11 : Below W8.heap.size W8 W9 := hb9.trans (hb10.mono hb9.size)
                have HG : Hid (FourAt w (W7.heap.size + 1) (fourT k cb) W9) := ⟨heap_below hb11 HRow.out hrowlt, ht8.below hb11, HB8.out.trans (hb11.mono HB8.out.size)⟩
                subst hW9
                clear hb9 hb10 hb11 ht8
                go_wp2_with fail
                exact ⟨fourRel_of (q + 1) _ (by omega) (by omega) HG.out, by simp [intOf]; omega⟩
              · obtain rfl : q = 4 := by omega
                go_wp2_with fail
                go_ret
                exact ⟨rfl, hb8⟩
      · have c2 : ((k : Int) == 2) = false := by simp; omega
        have c3 : (k : Int) < 2 := by omega
        have HTok := Lib.hid (tokens_at T W4 (by omega) ht4 _ hTt)
        have HCV := Lib.hid hcv
        clear hTt hcv hk2 hnI hTs
        have hcv := HCV.out
        go_wp2_with fail
        refine HTok.out.mono ?_
        rintro e w5 ⟨hb45, (⟨_, v, rfl, hrow⟩ | ⟨er, pl, hf, _⟩)⟩
        rotate_left
        · cases hf
        obtain ⟨g, cap, rfl, hg, _, _⟩ := lexRow hrow (by decide)
        obtain ⟨W5, hW5⟩ : ∃ W5, W5 = w5.alloc (.cells #[.int .i64 0, .int .i64 0] 26) := ⟨_, rfl⟩
        have hb5 : Below w5.heap.size w5 W5 := by rw [hW5]; exact (Below.refl _ w5).alloc (Nat.le_refl _) _
        obtain ⟨a0, a1, _, _⟩ := cells2 (heap_alloc_new w5 (.cells #[.int .i64 0, .int .i64 0] 26))
        rw [← hW5] at a0 a1
        have hb6 : Below w.heap.size w W5 := hb4.trans ((hb45.trans (hb5.mono hb45.size)).mono hb4.size)
        have ht5 : AsciiTab W5 := (ht4.below hb45).below hb5
        clear hrow hb45
        obtain ⟨n2, hn2⟩ : ∃ n2, n2 = 23 + k := ⟨_, rfl⟩
        obtain ⟨W6, hmk2, hf2⟩ := make_bytes w W5 hb6 (w5.heap.size + 1) (by rw [hW5]; simp) n2 (23 + (k : Int)) (by omega) (by omega) (97 + c % 26)
        have HF3 := Lib.hid hf2
        have hn2I : (n2 : Int) = 23 + k := by omega
        have HN2 := Lib.hid hn2
        have HB6 := Lib.hid hb6
        have HT5 := Lib.hid ht5
        have HW5 := Lib.hid hW5
        rw [hW5] at hmk2 a0 a1
        clear hf2 hn2 hmk hb4 hb5 hb6 ht5 hW5 hNT
        have HM := Lib.hid hm
        clear hm
        go_wp2_with fail
        go_loopw [11] (fun i wr => ∃ (W : World) (j : Nat), W = wr ∧ j ≤ n2 ∧ i = .int .i64 j ∧ Fill w (w5.heap.size + 1) n2 (97 + c % 26) j wr) (fun i _ => n2 - (intOf i).toNat)
        case atStart => exact ⟨_, 0, rfl, by omega, rfl, HF3.out⟩
        case round =>
          obtain ⟨W7, i, rfl, hi, rfl, hf⟩ := hrel
          by_cases hlt : i < n2
          · obtain ⟨⟨v, hv⟩, hz⟩ := hf.can hlt
            have hF2 := hf.put hlt
            have HF2 := Lib.hid hF2
            have hj0 : (0 : Int) ≤ i := by omega
            have hj1 : (i : Int) < n2 := by omega
            clear hF2 hf
            go_wp2_with fail
            exact ⟨⟨_, i + 1, rfl, by omega, by go_num, HF2.out⟩, by simp [intOf]; omega⟩
          · obtain rfl : i = n2 := by omega
            have hcv2 := hf.text cb (by have := HM.out; have := E97.out; omega)
            have hcv3 := one_text W7 (54 + (k : Int)) kb E54.out
            have hb7 := hf.bel
            have ht7 : AsciiTab W7 := ht.below hb7
            have e : nameT k cb = ⟨(List.replicate i cb).toArray⟩ := by rw [HN2.out]; rfl
            rw [← e, ← HNT.out] at hcv2
            have hn3 : i ≤ 100 := by have := HN2.out; omega
            have c1 := HC1.out
            have c4 := HC2.out
            have c5 := HC3.out
            have hnt : NT.size ≤ 200 := by rw [HNT.out, nameT_size]; omega
            obtain ⟨X0, X1, X2⟩ := two_new W7 (.cells #[.int .u8 (54 + (k : Int))] 5) (.cells #[.string NT, .string (markT 63 k cb), .string (markT 39 k cb), .string (greatT k)] 9)
            have eF : #[.string NT, .string (markT 63 k cb), .string (markT 39 k cb), .string (greatT k)] = ((fourT k cb).map Value.string).toArray := by rw [HNT.out]; rfl
            have HX : Hid (FourAt w (W7.heap.size + 1) (fourT k cb) _) := ⟨X1.trans (by rw [eF]), ht7.below X2, hb7.trans (X2.mono hb7.size)⟩
            clear hf e X0 X1 X2 eF hb7 ht7 hcv hmk2 hn2I
            go_wp2_with fail
            go_loopw [13] (FourRel w (W7.heap.size + 1) (fourT k cb)) (fun i _ => 4 - (intOf i).toNat)
            case atStart => exact fourRel_of 0 _ rfl (by omega) HX.out
            case round =>
              obtain ⟨W8, q, rfl, hq, rfl, hrow8, ht8, hb8⟩ := fourRel_out hrel
              have hrowlt := (Array.getElem?_eq_some_iff.1 hrow8).1
              by_cases hlt : q < 4
              · obtain ⟨tx, htx⟩ : ∃ tx, (fourT k cb)[q]? = some tx := ⟨(fourT k cb)[q]'hlt, List.getElem?_eq_getElem hlt⟩
                have hcell : W8.cell? ⟨W7.heap.size + 1, q, none⟩ = some (.string tx) := by
                  rw [cell_of_row _ _ q _ _ _ hrow8]; simp [htx]
                obtain ⟨hl1, hl2⟩ := H4.out q tx htx
                have hq0 : (0 : Int) ≤ q := by omega
                have hq1 : (q : Int) < 4 := by omega
                have HRow := Lib.hid hrow8
                have HB8 := Lib.hid hb8
                clear htx hrow8 hb8
                have HTx := Lib.hid (tokens_at tx W8 (by omega) ht8 _ rfl)
                obtain ⟨hz1, hz2⟩ := limitB_low hl1 (by omega)
                rw [hz1, hz2] at HTx
                clear hz1 hz2 hl1 hl2
                go_wp2_with fail
                refine HTx.out.mono ?_
                rintro e w9 ⟨hb9, (⟨_, u, rfl, hrow9⟩ | ⟨er, pl, hf, rfl⟩)⟩
                rotate_left
                · cases hf
                obtain ⟨g9, cap9, rfl, _, _⟩ := ownsRow_some hrow9 (by omega)
                obtain ⟨W9, hW9⟩ : ∃ W9, W9 = w9.alloc (.cells #[.int .i64 0, .int .i64 0] 26) := ⟨_, rfl⟩
                obtain ⟨b0, b1, _, _⟩ := cells2 (heap_alloc_new w9 (.cells #[.int .i64 0, .int .i64 0] 26))
                have hb10 : Below w9.heap.size w9 W9 := by rw [hW9]; exact (Below.refl _ w9).alloc (Nat.le_refl _) _
                clear hrow9
                have hb11 : Below W8.heap.size W8 W9 := hb9.trans (hb10.mono hb9.size)
                have HG : Hid (FourAt w (W7.heap.size + 1) (fourT k cb) W9) := ⟨heap_below hb11 HRow.out hrowlt, ht8.below hb11, HB8.out.trans (hb11.mono HB8.out.size)⟩
                subst hW9
                clear hb9 hb10 hb11 ht8
                go_wp2_with fail
                exact ⟨fourRel_of (q + 1) _ (by omega) (by omega) HG.out, by simp [intOf]; omega⟩
              · obtain rfl : q = 4 := by omega
                go_wp2_with fail
                go_ret
                exact ⟨rfl, hb8⟩
theorem u8_bounds : IntKind.u8.min = 0 ∧ IntKind.u8.max = 255 := by decide
theorem u8_lo {n : Int} (h : (Lit.int .u8 n).wf = true) : 0 ≤ n := by
  simp only [Lit.wf, u8_bounds, Bool.and_eq_true, decide_eq_true_eq] at h
  exact h.1
theorem u8_hi {n : Int} (h : (Lit.int .u8 n).wf = true) : n < 256 := by
  simp only [Lit.wf, u8_bounds, Bool.and_eq_true, decide_eq_true_eq] at h
  omega
end Go.Proofs.YtondgnefggglcaaDoor
