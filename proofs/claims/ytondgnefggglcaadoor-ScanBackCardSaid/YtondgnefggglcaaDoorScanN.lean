/- The statements' first look, that the scanner is awake; by contract. Condition: the library's table of blanks lies as laid. -/
import Derived.Test.YtondgnefggglcaaDoorScanM
namespace Go.Proofs.YtondgnefggglcaaDoor
open Go.RowKit

def awakeS : ByteArray := ⟨#[114, 117, 108, 101, 32, 97, 123, 112, 40, 63, 120, 41, 61, 62, 125, 32, 35, 32, 101, 110, 100]⟩
def awakeT : ByteArray := ⟨#[97, 33]⟩
def awakeL : List Tok := [(1, ⟨#[114, 117, 108, 101]⟩, 0), (2, ⟨#[97]⟩, 5), (6, ⟨#[123]⟩, 6), (2, ⟨#[112]⟩, 7), (6, ⟨#[40]⟩, 8), (3, ⟨#[120]⟩, 9), (6, ⟨#[41]⟩, 11), (6, ⟨#[61, 62]⟩, 12), (6, ⟨#[125]⟩, 14)]
theorem awake_toks : toksFrom awakeS 0 = (awakeL, none) := by kernel_rfl
theorem awake_bad : toksFrom awakeT 0 = ([(2, ⟨#[97]⟩, 0)], some (200, 1)) := by kernel_rfl

/-- Tokens at any source, whatever its length -/
theorem tokens_at (s : ByteArray) (w : World) (hs : s.size ≤ 16384) (ht : AsciiTab w) (o : List Tok × Option (Nat × Nat)) (ho : toksFrom s 0 = o) :
    Calls Tryd.prog 9 #[.string s] w fun e W => Below w.heap.size w W ∧
      ((o.2 = none ∧ ∃ v, e = .returned (.tuple #[v, .agg #[.int .i64 0, .int .i64 0]]) ∧ W.ownsRow w.heap.size 41 3 v (o.1.length + 1) (lexCells (o.1 ++ [(7, ⟨#[]⟩, s.size)]))) ∨
       ∃ er pl, o.2 = some (er, pl) ∧ e = .returned (.tuple #[.slice none 0 0, .agg #[.int .i64 er, .int .i64 pl]])) := by
  subst ho
  exact tokens_any s w hs ht

set_option maxHeartbeats 1000000 in
theorem awake_any (w : World) (ht : AsciiTab w) :
    Calls Tryd.prog 8 #[] w fun e w' => e = .returned (.bool true) ∧ Below w.heap.size w w' := by
  go_enter Tryd.func8, Tryd.ntmps8
  go_wp2_with fail
  refine (tokens_at awakeS _ (by decide) ht _ awake_toks).mono ?_
  rintro e w1 ⟨hb1, (⟨_, v, rfl, hrow⟩ | ⟨er, pl, h, _⟩)⟩
  rotate_left
  · cases h
  obtain ⟨g, cap, rfl, hg, hB, hc⟩ := lexRow hrow (by decide)
  have hw1 : w1.heap.size ≤ (w1.alloc (.cells #[.int .i64 0, .int .i64 0] 26)).heap.size := by simp
  clear hrow
  have HC := Lib.hid hc
  have hb2 : Below w1.heap.size w1 (w1.alloc (.cells #[.int .i64 0, .int .i64 0] 26)) := (Below.refl _ w1).alloc (Nat.le_refl _) _
  have H2 := Lib.hid (heap_alloc_new w1 (.cells #[.int .i64 0, .int .i64 0] 26))
  have ht1 : AsciiTab (w1.alloc (.cells #[.int .i64 0, .int .i64 0] 26)) := (ht.below hb1).below hb2
  clear hc hw1
  go_wp2_with fail
  refine (tokens_at awakeT _ (by decide) ht1 _ awake_bad).mono ?_
  rintro e w3 ⟨hb3, (⟨h, _⟩ | ⟨er, pl, h, rfl⟩)⟩
  · cases h
  obtain ⟨rfl, rfl⟩ : 200 = er ∧ 1 = pl := by simpa using h
  have HB := Lib.hid (hb1.trans ((hb2.trans (hb3.mono hb2.size)).mono hb1.size))
  have h2b := heap_below hb3 H2.out (by simp)
  have hl3 : w1.heap.size < w3.heap.size := (Array.getElem?_eq_some_iff.1 h2b).1
  have hb4 : Below w3.heap.size w3 (w3.alloc (.cells #[.int .i64 200, .int .i64 1] 26)) := (Below.refl _ w3).alloc (Nat.le_refl _) _
  obtain ⟨a0, a1, _, _⟩ := cells2 (heap_below hb4 h2b hl3)
  have hk : ∀ (i : Nat), i < w1.heap.size → ∀ o, (w3.alloc (.cells #[.int .i64 200, .int .i64 1] 26)).cell? ⟨i, o, none⟩ = w1.cell? ⟨i, o, none⟩ := fun i hi o => by
    have e0 := Below.cell hb4 (p := ⟨i, o, none⟩) (by show i < _; omega)
    have e1 := Below.cell hb3 (p := ⟨i, o, none⟩) (by show i < _; simp; omega)
    have e2 := Below.cell hb2 (p := ⟨i, o, none⟩) hi
    rw [e0, e1, e2]
  have c0 : (w3.alloc (.cells #[.int .i64 200, .int .i64 1] 26)).cell? ⟨g, 0, none⟩ = some (.int .u8 1) := by rw [hk g hg]; exact (HC.out 0 _ rfl).1
  have c1 : (w3.alloc (.cells #[.int .i64 200, .int .i64 1] 26)).cell? ⟨g, 3, none⟩ = some (.int .u8 2) := by rw [hk g hg]; exact (HC.out 1 _ rfl).1
  have c5 : (w3.alloc (.cells #[.int .i64 200, .int .i64 1] 26)).cell? ⟨g, 15, none⟩ = some (.int .u8 3) := by rw [hk g hg]; exact (HC.out 5 _ rfl).1
  have c5' : (w3.alloc (.cells #[.int .i64 200, .int .i64 1] 26)).cell? ⟨g, 16, none⟩ = some (.string ⟨#[120]⟩) := by rw [hk g hg]; exact (HC.out 5 _ rfl).2.1
  have c7 : (w3.alloc (.cells #[.int .i64 200, .int .i64 1] 26)).cell? ⟨g, 22, none⟩ = some (.string ⟨#[61, 62]⟩) := by rw [hk g hg]; exact (HC.out 7 _ rfl).2.1
  have c9 : (w3.alloc (.cells #[.int .i64 200, .int .i64 1] 26)).cell? ⟨g, 27, none⟩ = some (.int .u8 7) := by rw [hk g hg]; exact (HC.out 9 _ rfl).1
  have c9' : (w3.alloc (.cells #[.int .i64 200, .int .i64 1] 26)).cell? ⟨g, 29, none⟩ = some (.int .i64 21) := by rw [hk g hg]; exact (HC.out 9 _ rfl).2.2
  clear hk hb4 hl3 hb2 hb1 hb3 ht ht1 h h2b
  go_wp2_with fail
  go_ret
  exact ⟨rfl, HB.out.alloc HB.out.size _⟩
end Go.Proofs.YtondgnefggglcaaDoor
