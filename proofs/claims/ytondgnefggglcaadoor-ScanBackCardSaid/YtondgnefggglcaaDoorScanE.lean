/- The scanner: its words and signs; by contract. Condition: the library's table of blanks lies as its text lays it. -/
import Derived.Test.YtondgnefggglcaaDoorScanD
namespace Go.Proofs.YtondgnefggglcaaDoor
open Go.RowKit

/-- the library's table of ASCII blanks, as it is laid -/
def AsciiTab (w : World) : Prop := ∀ c : Nat, c < 256 → w.cell? ⟨0, c, none⟩ = some (.int .u8 (if Lib.isSp (UInt8.ofNat c) then 1 else 0))
theorem AsciiTab.lt {w : World} (h : AsciiTab w) : 0 < w.heap.size := by
  have h0 := h 0 (by omega)
  unfold World.cell? at h0
  rcases Nat.lt_or_ge 0 w.heap.size with h1 | h1
  · exact h1
  · rw [Array.getElem?_eq_none h1] at h0; cases h0
theorem AsciiTab.block {w w' : World} (h : AsciiTab w) (hb : w'.heap[(0 : Nat)]? = w.heap[(0 : Nat)]?) : AsciiTab w' :=
  fun c hc => (World.cell?_of_block (a := ⟨0, c, none⟩) hb).trans (h c hc)
theorem AsciiTab.below {w w' : World} (h : AsciiTab w) (hb : Below w.heap.size w w') : AsciiTab w' := h.block (hb.block _ h.lt)
theorem AsciiTab.grown {w w' : World} {g : Nat} (h : AsciiTab w) (hb : w.grownBy w' (some g)) (hg : g ≠ 0) : AsciiTab w' :=
  h.block (hb.block _ h.lt (fun e => by injection e with e; exact hg e.symm))

/-- strings.Fields of a constant -/
theorem fields_const (s : ByteArray) (L : List ByteArray) (hL : (Lib.fields s.data.toList).map (fun l => Value.string ⟨l.toArray⟩) = L.map Value.string) (hs : s.size < 4294967281) (hascii : s.data.toList.all (fun b => decide (b.toNat < 128)) = true) (w : World) (ht : AsciiTab w) :
    Calls Tryd.prog 22 #[.string s] w fun e w' => e = .returned (.slice (some ⟨w.heap.size, 0, none⟩) L.length L.length) ∧ w' = w.alloc (.cells (L.map Value.string).toArray 9) := by
  have hlen : (Lib.fields s.data.toList).length = L.length := by
    have := congrArg List.length hL
    simpa using this
  refine (Any.strings_Fields_core Tryd.lays157 (by kernel_rfl) s w hs (fun j b hb => ?_) ht).mono ?_
  · have := List.all_eq_true.1 hascii b (List.mem_of_getElem? hb)
    simpa using this
  · rintro e w' ⟨he, hw⟩
    rw [hlen] at he
    rw [hL] at hw
    exact ⟨he, hw⟩

def wordsL : List ByteArray := [⟨#[102, 97, 99, 116]⟩, ⟨#[114, 117, 108, 101]⟩, ⟨#[115, 97, 108, 105, 101, 110, 99, 101]⟩, ⟨#[110, 111, 116]⟩, ⟨#[116, 101, 115, 116]⟩, ⟨#[97, 115, 115, 101, 114, 116]⟩, ⟨#[114, 101, 116, 114, 97, 99, 116]⟩, ⟨#[115, 97, 121]⟩, ⟨#[104, 97, 108, 116]⟩, ⟨#[97, 110, 100]⟩, ⟨#[111, 114]⟩]
def wordsS : ByteArray := ⟨#[102, 97, 99, 116, 32, 114, 117, 108, 101, 32, 115, 97, 108, 105, 101, 110, 99, 101, 32, 110, 111, 116, 32, 116, 101, 115, 116, 32, 97, 115, 115, 101, 114, 116, 32, 114, 101, 116, 114, 97, 99, 116, 32, 115, 97, 121, 32, 104, 97, 108, 116, 32, 97, 110, 100, 32, 111, 114]⟩
def signsL : List ByteArray := [⟨#[61, 62]⟩, ⟨#[33, 61]⟩, ⟨#[60, 61]⟩, ⟨#[62, 61]⟩, ⟨#[40]⟩, ⟨#[41]⟩, ⟨#[123]⟩, ⟨#[125]⟩, ⟨#[44]⟩, ⟨#[59]⟩, ⟨#[61]⟩, ⟨#[60]⟩, ⟨#[62]⟩, ⟨#[43]⟩, ⟨#[45]⟩, ⟨#[42]⟩, ⟨#[95]⟩]
def signsS : ByteArray := ⟨#[61, 62, 32, 33, 61, 32, 60, 61, 32, 62, 61, 32, 40, 32, 41, 32, 123, 32, 125, 32, 44, 32, 59, 32, 61, 32, 60, 32, 62, 32, 43, 32, 45, 32, 42, 32, 95]⟩

theorem fields_words (w : World) (ht : AsciiTab w) :
    Calls Tryd.prog 22 #[.string wordsS] w fun e w' => e = .returned (.slice (some ⟨w.heap.size, 0, none⟩) 11 11) ∧ w' = w.alloc (.cells (wordsL.map Value.string).toArray 9) :=
  fields_const wordsS wordsL (by kernel_rfl) (by decide) (by kernel_rfl) w ht
theorem fields_signs (w : World) (ht : AsciiTab w) :
    Calls Tryd.prog 22 #[.string signsS] w fun e w' => e = .returned (.slice (some ⟨w.heap.size, 0, none⟩) 17 17) ∧ w' = w.alloc (.cells (signsL.map Value.string).toArray 9) :=
  fields_const signsS signsL (by kernel_rfl) (by decide) (by kernel_rfl) w ht

theorem words_any (w : World) (ht : AsciiTab w) :
    Calls Tryd.prog 14 #[] w fun e w' => e = .returned (.slice (some ⟨w.heap.size, 0, none⟩) 11 11) ∧ w' = w.alloc (.cells (wordsL.map Value.string).toArray 9) := by
  have HC := Lib.hid (fields_words w ht)
  go_enter Tryd.func14, Tryd.ntmps14
  go_wp2_with (first
    | (go_at_call 22; refine Calls.mono HC.out ?_; rintro e w' ⟨rfl, rfl⟩))
  go_ret
  exact ⟨rfl, rfl⟩

/-- is a text a word? -/
def wordB (l : List UInt8) : Bool := wordsL.any (fun b => b.data.toList == l)
theorem wordB_iff (x : ByteArray) : Lib.containsS wordsL x = wordB x.data.toList := by
  rw [Bool.eq_iff_iff, Lib.containsS_iff, wordB, List.any_eq_true]
  constructor
  · intro h; exact ⟨x, h, by simp⟩
  · rintro ⟨y, hy, he⟩
    have e : y = x := by
      have h1 : y.data.toList = x.data.toList := by simpa using he
      have h2 : y.data = x.data := Array.toList_inj.1 h1
      exact ByteArray.ext h2
    rwa [← e]
theorem contains_words (B c : Nat) (x : ByteArray) (w : World) (h : w.heap[B]? = some (.cells (wordsL.map Value.string).toArray 9 (0, 0))) :
    Calls Tryd.prog 41 #[.slice (some ⟨B, 0, none⟩) 11 c, .string x] w fun e w' => e = .returned (.bool (wordB x.data.toList)) ∧ w = w' := by
  refine (Tryd.slices_Contains_string B 0 11 c wordsL x w (by decide) (by decide) (fun j hj => ?_)).mono ?_
  · rw [Nat.zero_add, cell_of_row _ _ _ _ _ _ h]
    simp [List.getD_eq_getElem?_getD, List.getElem?_eq_getElem hj]
  · rintro e w' ⟨rfl, hw⟩
    refine ⟨?_, hw.symm⟩
    rw [show wordsL.take 11 = wordsL from rfl, wordB_iff]
end Go.Proofs.YtondgnefggglcaaDoor
