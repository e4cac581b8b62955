/- ScanTokens, the law's walk: it answers true. Condition: the library's table of blanks lies as laid. -/
import Derived.Test.YtondgnefggglcaaDoorScanN
namespace Go.Proofs.YtondgnefggglcaaDoor
open Go.RowKit

theorem rtokens_at (s : ByteArray) (w : World) (hs : s.size ≤ 16384) (o : List Tok × Option (Nat × Nat)) (ho : toksFrom s 0 = o) :
    Calls Tryd.prog 10 #[.string s] w fun e W => Below w.heap.size w W ∧
      ((o.2 = none ∧ ∃ v, e = .returned (.tuple #[v, .agg #[.int .i64 0, .int .i64 0]]) ∧ W.ownsRow w.heap.size 41 3 v (o.1.length + 1) (lexCells (o.1 ++ [(7, ⟨#[]⟩, s.size)]))) ∨
       ∃ er pl, o.2 = some (er, pl) ∧ e = .returned (.tuple #[.slice none 0 0, .agg #[.int .i64 er, .int .i64 pl]])) := by
  subst ho
  exact rtokens_any s w hs

set_option maxHeartbeats 1000000 in
theorem law_scanTokens (s : ByteArray) (w : World) (hs : s.size ≤ maxLen) (ht : AsciiTab w) :
    Calls Tryd.prog 3 #[.string s] w fun e w' => e = .returned (.bool true) ∧ Below w.heap.size w w' := by
  unfold maxLen at hs
  go_enter Tryd.func3, Tryd.ntmps3
  go_wp2_with fail
  refine (awake_any w ht).mono ?_
  rintro e w1 ⟨rfl, hb1⟩
  have ht1 := ht.below hb1
  by_cases h3 : s.size ≤ 3000
  · have hi : (s.size : Int) ≤ 3000 := by omega
    go_wp2_with fail
    have hlen : (toksFrom s 0).1.length + 0 ≤ s.size := toks_len s (s.size + 1) 0 (Nat.zero_le _)
    have HO := Lib.hid (tokens_at s w1 (by omega) ht1 _ rfl)
    have HR := Lib.hid (fun W => rtokens_at s W (by omega) _ rfl)
    generalize toksFrom s 0 = o at *
    obtain ⟨l, f⟩ := o
    dsimp only at HO HR hlen
    refine HO.out.mono ?_
    rintro e w2 ⟨hb2, (⟨hf, v, rfl, hrow⟩ | ⟨er, pl, hf, rfl⟩)⟩
    · subst hf
      have hb3 : Below w2.heap.size w2 (w2.alloc (.cells #[.int .i64 0, .int .i64 0] 26)) := (Below.refl _ w2).alloc (Nat.le_refl _) _
      have H3 := Lib.hid (heap_alloc_new w2 (.cells #[.int .i64 0, .int .i64 0] 26))
      go_wp2_with fail
      refine (HR.out _).mono ?_
      rintro e w4 ⟨hb4, (⟨_, u, rfl, hrow'⟩ | ⟨er, pl, hf, _⟩)⟩
      rotate_left
      · cases hf
      have hl4 := heap_below hb4 H3.out (by simp)
      have hll := (Array.getElem?_eq_some_iff.1 hl4).1
      have hb5 : Below w4.heap.size w4 (w4.alloc (.cells #[.int .i64 0, .int .i64 0] 26)) := (Below.refl _ w4).alloc (Nat.le_refl _) _
      obtain ⟨a0, a1, _, _⟩ := cells2 (heap_below hb5 hl4 hll)
      have hr1 := ownsRow_below (ownsRow_below (ownsRow_below hrow hb3) hb4) hb5
      have hr2 := ownsRow_below hrow' hb5
      have HB := Lib.hid (hb1.trans ((hb2.trans ((hb3.trans ((hb4.mono hb3.size).trans (hb5.mono (Nat.le_trans hb3.size hb4.size)))).mono hb2.size)).mono hb1.size))
      have HS := Lib.hid (sameLexes_same (l ++ [(7, ⟨#[]⟩, s.size)]) (l.length + 1) _ _ v u _ (by simp) (by omega) (by omega) hr1 hr2)
      clear hr1 hr2 hrow hrow' hb2 hb3 hb4 hb5 hl4 hll
      go_wp2_with fail
      refine Calls.mono HS.out ?_
      rintro e w6 ⟨rfl, hb6⟩
      go_wp2_with fail
      go_ret
      exact ⟨rfl, HB.out.trans (hb6.mono HB.out.size)⟩
    · subst hf
      have hb3 : Below w2.heap.size w2 (w2.alloc (.cells #[.int .i64 er, .int .i64 pl] 26)) := (Below.refl _ w2).alloc (Nat.le_refl _) _
      have H3 := Lib.hid (heap_alloc_new w2 (.cells #[.int .i64 er, .int .i64 pl] 26))
      go_wp2_with fail
      refine (HR.out _).mono ?_
      rintro e w4 ⟨hb4, (⟨hf, _⟩ | ⟨er', pl', hf, rfl⟩)⟩
      · cases hf
      obtain ⟨rfl, rfl⟩ : er = er' ∧ pl = pl' := by simpa using hf
      have hl4 := heap_below hb4 H3.out (by simp)
      have hll := (Array.getElem?_eq_some_iff.1 hl4).1
      have hb5 : Below w4.heap.size w4 (w4.alloc (.cells #[.int .i64 er, .int .i64 pl] 26)) := (Below.refl _ w4).alloc (Nat.le_refl _) _
      obtain ⟨a0, a1, _, _⟩ := cells2 (heap_below hb5 hl4 hll)
      have HB := Lib.hid (hb1.trans ((hb2.trans ((hb3.trans ((hb4.mono hb3.size).trans (hb5.mono (Nat.le_trans hb3.size hb4.size)))).mono hb2.size)).mono hb1.size))
      clear hb2 hb3 hb4 hb5 hl4 hll hf
      go_wp2_with (first
        | (go_at_call 11; refine (sameLexes_nil _).mono ?_; rintro e w6 ⟨rfl, rfl⟩))
      go_ret
      exact ⟨rfl, HB.out⟩
  · have hi : 3000 < (s.size : Int) := by omega
    go_wp2_with fail
    go_ret
    exact ⟨rfl, hb1⟩
end Go.Proofs.YtondgnefggglcaaDoor
