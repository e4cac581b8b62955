/- ScanNumbers, the law's walk: it answers true. Condition: the library's table of blanks lies as laid. -/
import Derived.Test.YtondgnefggglcaaDoorScanN
namespace Go.Proofs.YtondgnefggglcaaDoor
open Go.RowKit

/-- a slice of the eleven words, in a block of its own -/
def WordsAt (w : World) (g : Nat) : Prop := g < w.heap.size ∧ ∀ i b, wordsL[i]? = some b → w.cell? ⟨g, i, none⟩ = some (.string b)
def WordsPost (w : World) (e : Ending) (w' : World) : Prop := ∃ g, e = .returned (.slice (some ⟨g, 0, none⟩) 11 11) ∧ Below w.heap.size w w' ∧ WordsAt w' g
theorem words_fin (w : World) : WordsPost w (.returned (.slice (some ⟨w.heap.size, 0, none⟩) 11 11)) (w.alloc (.cells (wordsL.map Value.string).toArray 9)) := by
  refine ⟨_, rfl, (Below.refl _ w).alloc (Nat.le_refl _) _, by simp, fun i b hb => ?_⟩
  rw [cell_of_row _ _ i _ _ _ (heap_alloc_new w _)]
  simp [hb]
theorem words_in (w : World) (ht : AsciiTab w) : Calls Tryd.prog 14 #[] w (WordsPost w) :=
  (words_any w ht).mono (by rintro e w' ⟨rfl, rfl⟩; exact words_fin w)
theorem rwords_in (w : World) : Calls Tryd.prog 15 #[] w (WordsPost w) :=
  (rwords_any w).mono (by rintro e w' ⟨rfl, rfl⟩; exact words_fin w)

set_option maxHeartbeats 1000000 in
theorem law_scanNumbers (s : ByteArray) (w : World) (hs : s.size ≤ maxLen) (ht : AsciiTab w) :
    Calls Tryd.prog 4 #[.string s] w fun e w' => e = .returned (.bool true) ∧ Below w.heap.size w w' := by
  unfold maxLen at hs
  go_enter Tryd.func4, Tryd.ntmps4
  go_wp2_with fail
  refine (awake_any w ht).mono ?_
  rintro e w1 ⟨rfl, hb1⟩
  have ht1 := ht.below hb1
  by_cases h3 : s.size ≤ 3000
  · have hi : (s.size : Int) ≤ 3000 := by omega
    go_wp2_with fail
    refine (number_any s w1 (by omega)).mono ?_
    rintro e w2 ⟨rfl, hb2⟩
    have ht2 := ht1.below hb2
    have HR := Lib.hid (rnumber_any s w2 (by omega))
    generalize number s.data.toList = o at *
    go_wp2_with fail
    refine HR.out.mono ?_
    rintro e w3 ⟨rfl, rfl⟩
    go_wp2_with fail
    refine (words_in w2 ht2).mono ?_
    rintro e w4 ⟨g, rfl, hb4, hg⟩
    go_wp2_with fail
    refine (rwords_in w4).mono ?_
    rintro e w5 ⟨g', rfl, hb5, hg'⟩
    have HG := Lib.hid (fun i b (h : wordsL[i]? = some b) => (World.cell?_of_block (a := ⟨g, i, none⟩) (hb5.block _ hg.1)).trans (hg.2 i b h))
    have HG' := Lib.hid hg'.2
    have HB := Lib.hid (hb1.trans ((hb2.trans ((hb4.trans (hb5.mono hb4.size)).mono hb2.size)).mono hb1.size))
    clear hg hg' hb1 hb2 hb4 hb5 HR
    cases o
    all_goals
      go_wp2_with fail
      go_loopw [9] (fun i wr => ∃ k nn : Nat, k ≤ 11 ∧ i = .int .i64 k ∧ wr = w5.drewN nn) (fun i _ => 11 - (intOf i).toNat)
      case atStart => exact ⟨0, 0, by omega, rfl, rfl⟩
      case round =>
        obtain ⟨k, nn, hk, rfl, rfl⟩ := hrel
        by_cases hlt : k < 11
        · obtain ⟨t, ht⟩ : ∃ t, wordsL[k]? = some t := ⟨wordsL[k]'hlt, List.getElem?_eq_getElem hlt⟩
          have a1 := HG.out k t ht
          have b1 := HG'.out k t ht
          have HT := Lib.hid ht
          clear ht
          have hk0 : (0 : Int) ≤ k := by omega
          have hk1 : (k : Int) < 11 := by omega
          go_wp2
          go_quiet (fail)
          go_wp2
          exact ⟨⟨k + 1, _, by omega, by go_num, rfl⟩, by simp [intOf]; omega⟩
        · obtain rfl : k = 11 := by omega
          go_wp2
          go_ret
          exact ⟨rfl, below_drewN HB.out _⟩
  · have hi : 3000 < (s.size : Int) := by omega
    go_wp2_with fail
    go_ret
    exact ⟨rfl, hb1⟩
end Go.Proofs.YtondgnefggglcaaDoor
