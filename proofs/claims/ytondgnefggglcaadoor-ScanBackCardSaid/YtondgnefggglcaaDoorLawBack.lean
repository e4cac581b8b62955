/- ScanBack, the law's walk: it answers true. Condition: the library's table of blanks lies as laid. -/
import Derived.Test.YtondgnefggglcaaDoorScanN
import Derived.Test.YtondgnefggglcaaDoorScanO
import Derived.Test.YtondgnefggglcaaDoorPlainB
namespace Go.Proofs.YtondgnefggglcaaDoor
open Go.RowKit

/-- the four texts that may stand between -/
def gapsL (note : ByteArray) : List ByteArray := [⟨#[32]⟩, ⟨#[9, 13]⟩, ⟨#[10, 10]⟩, ⟨#[32, 35, 32]⟩ ++ note ++ ⟨#[10]⟩]
theorem gaps_at (note : ByteArray) (hn : note.data.toList.all (· != 10) = true) (h30 : note.size ≤ 30) (k : Nat) (hk : k < 4) : ∃ bt, (gapsL note)[k]? = some bt ∧ Gap bt.data.toList ∧ bt.size ≤ 100 := by
  match k, hk with
  | 0, _ => exact ⟨_, rfl, gap_blank, by decide⟩
  | 1, _ => exact ⟨_, rfl, gap_tab, by decide⟩
  | 2, _ => exact ⟨_, rfl, gap_lines, by decide⟩
  | 3, _ =>
    refine ⟨_, rfl, ?_, ?_⟩
    · have := gap_note note.data.toList hn
      simpa [ByteArray.data_append] using this
    · simp only [ByteArray.size_append]
      have a1 : (⟨#[32, 35, 32]⟩ : ByteArray).size = 3 := rfl
      have a2 : (⟨#[10]⟩ : ByteArray).size = 1 := rfl
      omega
theorem places_size (s : ByteArray) : ∀ (l : List Tok) (a : Nat), Places s a l → ∀ t ∈ l, t.2.1.size ≤ s.size := by
  intro l
  induction l with
  | nil => intro a _ t h; cases h
  | cons u l ih =>
    intro a h t ht
    obtain ⟨_, h2, _, _, h5⟩ := h
    rcases List.mem_cons.1 ht with rfl | ht
    · omega
    · exact ih _ h5 t ht
/-- a look at the note's bytes so far -/
def NoteRel (note : ByteArray) (n : Nat) (w : World) (i : Value) (W : World) : Prop := ∃ k : Nat, k ≤ n ∧ i = .int .i64 k ∧ (note.data.toList.take k).all (· != 10) = true ∧ w = W
theorem note_next (note : ByteArray) (k : Nat) (hk : k < note.size) (h : (note.data.toList.take k).all (· != 10) = true) (h10 : (note[k] == 10) = false) : (note.data.toList.take (k + 1)).all (· != 10) = true := by
  have e : note.data.toList[k]? = some note[k] := by
    rw [List.getElem?_eq_getElem (by simpa using hk)]; rfl
  rw [List.take_add_one, e, List.all_append, h]
  simp [bne, h10]
/-- the same kinds and texts -/
theorem same_at (L M : List Tok) (h : L.map (fun t => (t.1, t.2.1)) = M.map (fun t => (t.1, t.2.1))) (i : Nat) (t : Tok) (ht : L[i]? = some t) : ∃ u : Tok, M[i]? = some u ∧ u.1 = t.1 ∧ u.2.1 = t.2.1 := by
  have h1 := congrArg (fun x => x[i]?) h
  simp only [List.getElem?_map, ht, Option.map_some] at h1
  cases hM : M[i]? with
  | none => rw [hM] at h1; cases h1
  | some u =>
    rw [hM] at h1
    simp only [Option.map_some, Option.some.injEq, Prod.mk.injEq] at h1
    exact ⟨u, rfl, h1.1.symm, h1.2.symm⟩

/-- the cells of a row of tokens -/
def LexAt (w : World) (g : Nat) (L : List Tok) : Prop := ∀ i t, L[i]? = some t → w.cell? ⟨g, i * 3, none⟩ = some (.int .u8 t.1) ∧ w.cell? ⟨g, i * 3 + 1, none⟩ = some (.string t.2.1) ∧ w.cell? ⟨g, i * 3 + 2, none⟩ = some (.int .i64 t.2.2)
theorem LexAt.below {w w' : World} {g : Nat} {L : List Tok} (h : LexAt w g L) (hb : Below w.heap.size w w') (hg : g < w.heap.size) : LexAt w' g L := fun i t ht => by
  obtain ⟨a1, a2, a3⟩ := h i t ht
  exact ⟨(World.cell?_of_block (a := ⟨g, i * 3, none⟩) (hb.block _ hg)).trans a1, (World.cell?_of_block (a := ⟨g, i * 3 + 1, none⟩) (hb.block _ hg)).trans a2, (World.cell?_of_block (a := ⟨g, i * 3 + 2, none⟩) (hb.block _ hg)).trans a3⟩

set_option maxRecDepth 100000 in
set_option maxHeartbeats 1000000 in
theorem law_scanBack (s : ByteArray) (x : Int) (note : ByteArray) (w : World) (hs : s.size ≤ maxLen) (hnote : note.size ≤ maxLen) (ht : AsciiTab w) :
    Calls Tryd.prog 6 #[.string s, .int .i64 x, .string note] w fun e w' => e = .returned (.bool true) ∧ Below w.heap.size w w' := by
  unfold maxLen at hs hnote
  go_enter Tryd.func6, Tryd.ntmps6
  go_wp2_with fail
  refine (awake_any w ht).mono ?_
  rintro e w1 ⟨rfl, hb1⟩
  have ht1 := ht.below hb1
  by_cases h15 : s.size ≤ 1500
  · have hi : (s.size : Int) ≤ 1500 := by omega
    by_cases h30 : note.size ≤ 30
    · have hi30 : (note.size : Int) ≤ 30 := by omega
      go_wp2_with fail
      have hlen : (toksFrom s 0).1.length + 0 ≤ s.size := toks_len s (s.size + 1) 0 (Nat.zero_le _)
      have HO := Lib.hid (tokens_at s w1 (by omega) ht1 _ rfl)
      have HE := Lib.hid (toksFrom_err s 0)
      have HP := Lib.hid (places_toks s _ 0 (Nat.le_refl _) (Nat.zero_le _))
      have HGd := Lib.hid (toksFrom_good s 0)
      generalize toksFrom s 0 = o at *
      obtain ⟨l, f⟩ := o
      dsimp only at HO HP HE HGd hlen
      refine HO.out.mono ?_
      rintro e w2 ⟨hb2, (⟨hf, v, rfl, hrow⟩ | ⟨er, pl, hf, rfl⟩)⟩
      · subst hf
        obtain ⟨g, cap, rfl, hg, hB, hc⟩ := lexRow hrow (by omega)
        have hP := HP.out rfl
        obtain ⟨L, hL⟩ : ∃ L, l ++ [(7, ⟨#[]⟩, s.size)] = L := ⟨_, rfl⟩
        obtain ⟨n, hn⟩ : ∃ n, l.length + 1 = n := ⟨_, rfl⟩
        have hLn : L.length = n := by rw [← hL, ← hn]; simp
        have hb3 : Below w2.heap.size w2 (w2.alloc (.cells #[.int .i64 0, .int .i64 0] 26)) := (Below.refl _ w2).alloc (Nat.le_refl _) _
        obtain ⟨a0, a1, _, _⟩ := cells2 (heap_alloc_new w2 (.cells #[.int .i64 0, .int .i64 0] 26))
        rw [hL] at hc hP
        rw [hn]
        have HSz := Lib.hid (places_size s L 0 hP)
        have HL := Lib.hid hL
        have HLn := Lib.hid hLn
        have hn1 : n ≤ 1501 := by omega
        have hn0 : 1 ≤ n := by omega
        have HC := Lib.hid hc
        have HN := Lib.hid hn
        have hb13 := hb1.trans ((hb2.trans (hb3.mono hb2.size)).mono hb1.size)
        have HB := Lib.hid hb13
        have ht3 := ht.below hb13
        have HT3 := Lib.hid ht3
        have HB3 := Lib.hid hb3
        have HG := Lib.hid hg
        obtain ⟨W3, hW3⟩ : ∃ W3, W3 = w2.alloc (.cells #[.int .i64 0, .int .i64 0] 26) := ⟨_, rfl⟩
        clear hrow hc hb2 hL hLn hn HO HP HE hB hP hb13 ht3 hb3 hg
        go_wp2_with fail
        rw [← hW3] at HB HT3 HB3 ⊢
        have HW3 := Lib.hid hW3
        clear a0 a1 hW3
        go_loopw [9] (NoteRel note note.size W3) (fun i _ => note.size - (intOf i).toNat)
        case atStart => exact ⟨0, Nat.zero_le _, rfl, rfl, rfl⟩
        case round =>
          obtain ⟨k, hk, rfl, hall, rfl⟩ := hrel
          by_cases hlt : k < note.size
          · have hk0 : (0 : Int) ≤ k := by omega
            have hk1 : (k : Int) < note.size := by omega
            have e10 : (note[k] == 10) = ((note[k].toNat : Int) == 10) := byte_eq note[k] 10 (by omega)
            cases h10 : note[k] == 10
            · have hx : (note.data.toList.take (k + 1)).all (· != 10) = true := note_next note k hlt hall h10
              have HR : Hid (NoteRel note note.size W3 (.int .i64 ((k : Int) + 1)) W3) := ⟨k + 1, hlt, rfl, hx, rfl⟩
              have b10 : ((note[k].toNat : Int) == 10) = false := by rw [← e10]; exact h10
              clear hall hx e10 h10
              go_wp2
              exact ⟨HR.out, by simp [intOf]; omega⟩
            · have b10 : ((note[k].toNat : Int) == 10) = true := by rw [← e10]; exact h10
              clear hall e10 h10
              go_wp2
              go_ret
              exact ⟨rfl, HB.out⟩
          · obtain rfl : k = note.size := by omega
            have hall' : note.data.toList.all (· != 10) = true := by
              rw [List.take_of_length_le (by simp)] at hall; exact hall
            have HGap := Lib.hid (gaps_at note hall' h30)
            have HPk := Lib.hid (fun W => pick_any x 4 W (by omega) (by omega))
            clear hall hall'
            go_wp2_with fail
            refine (HPk.out _).mono ?_
            rintro e w4 ⟨k4, hk4, rfl, rfl⟩
            obtain ⟨bt, hbt, hgap, hbs⟩ := HGap.out k4 hk4
            obtain ⟨W4, hW4⟩ : ∃ W4, W4 = W3.alloc (.cells #[.string ⟨#[32]⟩, .string ⟨#[9, 13]⟩, .string ⟨#[10, 10]⟩, .string (⟨#[32, 35, 32]⟩ ++ note ++ ⟨#[10]⟩)] 9) := ⟨_, rfl⟩
            have hb34 : Below W3.heap.size W3 W4 := by rw [hW4]; exact (Below.refl _ W3).alloc (Nat.le_refl _) _
            have hcell : W4.cell? ⟨W3.heap.size, k4, none⟩ = some (.string bt) := by
              rw [hW4, cell_of_row _ _ k4 _ _ _ (heap_alloc_new W3 _)]
              have e : #[Value.string ⟨#[32]⟩, .string ⟨#[9, 13]⟩, .string ⟨#[10, 10]⟩, .string (⟨#[32, 35, 32]⟩ ++ note ++ ⟨#[10]⟩)] = ((gapsL note).map Value.string).toArray := rfl
              rw [e]
              simp [hbt]
            have hC4 : LexAt W4 g L := LexAt.below (LexAt.below HC.out HB3.out HG.out) hb34 (Nat.lt_of_lt_of_le HG.out HB3.out.size)
            have hg4 : g < W4.heap.size := Nat.lt_of_lt_of_le HG.out (Nat.le_trans HB3.out.size hb34.size)
            have ht4 : AsciiTab W4 := HT3.out.below hb34
            have HB4 := Lib.hid (HB.out.trans (hb34.mono HB.out.size))
            have HWr := Lib.hid (written_any L n cap g bt W4 HLn.out (by omega) hbs (fun t ht => by have := HSz.out t ht; omega) hC4)
            have HC4 := Lib.hid hC4
            rw [← hW4]
            have hk40 : (0 : Int) ≤ k4 := by omega
            have hk41 : (k4 : Int) < 4 := by omega
            have HGp := Lib.hid hgap
            clear hC4 hb34 hW4 hbt hgap
            go_wp2_with fail
            refine HWr.out.mono ?_
            rintro e w5 ⟨⟨S, rfl, hS⟩, rfl⟩
            have hback := wr_back bt.data.toList HGp.out S (7, ⟨#[]⟩, s.size) ⟨rfl, rfl⟩ l 0 HGd.out (by rw [List.drop_zero, hS, HL.out])
            clear hS
            by_cases hlong : 16384 < S.size
            · have hlI : 16384 < (S.size : Int) := by omega
              have HTl := Lib.hid (tokens_long S W4 hlong)
              clear hback hlong
              go_wp2_with fail
              refine HTl.out.mono ?_
              rintro e w6 ⟨rfl, hb6⟩
              have hb7 : Below w6.heap.size w6 (w6.alloc (.cells #[.int .i64 3, .int .i64 0] 26)) := (Below.refl _ w6).alloc (Nat.le_refl _) _
              obtain ⟨a0, a1, _, _⟩ := cells2 (heap_alloc_new w6 (.cells #[.int .i64 3, .int .i64 0] 26))
              have HB7 := Lib.hid (HB4.out.trans ((hb6.trans (hb7.mono hb6.size)).mono HB4.out.size))
              clear hb6 hb7
              go_wp2_with fail
              go_ret
              exact ⟨rfl, HB7.out⟩
            · have hlI : (S.size : Int) ≤ 16384 := by omega
              have HTs := Lib.hid (tokens_at S W4 (by omega) ht4 _ rfl)
              have hlen' : (toksFrom S 0).1.length = l.length := by
                have := congrArg List.length hback.2
                simpa using this
              generalize toksFrom S 0 = o' at *
              obtain ⟨l', f'⟩ := o'
              dsimp only at hback hlen' HTs
              obtain ⟨hf', hsame⟩ := hback
              subst hf'
              have HSm := Lib.hid (same_at L (l' ++ [(7, ⟨#[]⟩, S.size)]) (by rw [← HL.out, List.map_append, List.map_append, hsame]; rfl))
              have hn' : l'.length + 1 = n := by rw [hlen']; exact HN.out
              have HN' := Lib.hid hn'
              clear hsame hlen' hlong hn'
              go_wp2_with fail
              refine HTs.out.mono ?_
              rintro e w6 ⟨hb6, (⟨_, u, rfl, hrow6⟩ | ⟨er, pl, hf, _⟩)⟩
              rotate_left
              · cases hf
              rw [HN'.out] at hrow6
              obtain ⟨g6, cap6, rfl, hg6, hB6, hc6⟩ := lexRow hrow6 (by omega)
              obtain ⟨W7, hW7⟩ : ∃ W7, W7 = w6.alloc (.cells #[.int .i64 0, .int .i64 0] 26) := ⟨_, rfl⟩
              have hb7 : Below w6.heap.size w6 W7 := by rw [hW7]; exact (Below.refl _ w6).alloc (Nat.le_refl _) _
              obtain ⟨a0, a1, _, _⟩ := cells2 (heap_alloc_new w6 (.cells #[.int .i64 0, .int .i64 0] 26))
              have HCa := Lib.hid (LexAt.below (LexAt.below HC4.out hb6 hg4) hb7 (Nat.lt_of_lt_of_le hg4 hb6.size))
              have HCb := Lib.hid (LexAt.below hc6 hb7 hg6)
              have HB7 := Lib.hid (HB4.out.trans ((hb6.trans (hb7.mono hb6.size)).mono HB4.out.size))
              have HW7 := Lib.hid hW7
              clear hrow6 hc6 hb6 hb7 hW7
              go_wp2_with fail
              rw [← HW7.out]
              clear a0 a1
              go_loopw [14] (fun i wr => ∃ k nn : Nat, k ≤ n ∧ i = .int .i64 k ∧ wr = W7.drewN nn) (fun i _ => n - (intOf i).toNat)
              case atStart => exact ⟨0, 0, by omega, rfl, rfl⟩
              case round =>
                obtain ⟨k, nn, hk, rfl, rfl⟩ := hrel
                by_cases hlt : k < n
                · obtain ⟨t, ht⟩ : ∃ t, L[k]? = some t := ⟨L[k]'(by rw [HLn.out]; exact hlt), List.getElem?_eq_getElem (by rw [HLn.out]; exact hlt)⟩
                  obtain ⟨u, hu, e1, e2⟩ := HSm.out k t ht
                  obtain ⟨a1, a2, _⟩ := HCa.out k t ht
                  obtain ⟨b1, b2, _⟩ := HCb.out k u hu
                  rw [e1] at b1
                  rw [e2] at b2
                  have hk0 : (0 : Int) ≤ k := by omega
                  have hk1 : (k : Int) < n := by omega
                  clear ht hu e1 e2
                  go_wp2
                  go_quiet (fail)
                  go_wp2
                  exact ⟨⟨k + 1, _, by omega, by go_num, rfl⟩, by simp [intOf]; omega⟩
                · obtain rfl : k = n := by omega
                  go_wp2
                  go_ret
                  exact ⟨rfl, below_drewN HB7.out _⟩
      · subst hf
        obtain ⟨he0, hpl⟩ := HE.out er pl rfl
        have hb3 : Below w2.heap.size w2 (w2.alloc (.cells #[.int .i64 er, .int .i64 pl] 26)) := (Below.refl _ w2).alloc (Nat.le_refl _) _
        have HB := Lib.hid (hb1.trans ((hb2.trans (hb3.mono hb2.size)).mono hb1.size))
        obtain ⟨a0, a1, _, _⟩ := cells2 (heap_alloc_new w2 (.cells #[.int .i64 er, .int .i64 pl] 26))
        have e0 : ((er : Int) == 0) = false := by simp; omega
        have p0 : (0 : Int) ≤ pl := by omega
        have p1 : (pl : Int) ≤ s.size := by omega
        clear HO HP HE hb2 hb3
        go_wp2_with fail
        go_ret
        exact ⟨rfl, HB.out⟩
    · have hi30 : 30 < (note.size : Int) := by omega
      go_wp2_with fail
      go_ret
      exact ⟨rfl, hb1⟩
  · have hi : 1500 < (s.size : Int) := by omega
    go_wp2_with fail
    go_ret
    exact ⟨rfl, hb1⟩
end Go.Proofs.YtondgnefggglcaaDoor
