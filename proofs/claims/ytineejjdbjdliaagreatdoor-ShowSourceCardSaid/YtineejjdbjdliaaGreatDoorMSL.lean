/- The rows' frame where the library's table of powers of ten is listed, too. No condition. -/
import Derived.Test.YtineejjdbjdliaaGreatDoorMO
import Derived.Test.YtineejjdbjdliaaGreatDoorMSB
namespace Go.Proofs.YtineejjdbjdliaaGreatDoor
open Go.ChangeShapes Go.WideShapes Go.ChangeAt Go.RowKit

/-- what the rows of chapter 07 list -/
noncomputable def laidL7 : List (String × DataW Unit) := [("math/bits.deBruijn32tab", Rows.laid_math_bits_deBruijn32tab), ("math/bits.deBruijn64tab", Rows.laid_math_bits_deBruijn64tab), ("internal/strconv.uint64pow10", Rows.laid_internal_strconv_uint64pow10), ("io.EOF", Rows.laid_io_EOF), ("unicode.White_Space", Rows.laid_unicode_White_Space), ("strings.asciiSpace", Rows.laid_strings_asciiSpace)]
theorem ascii_of_laid7 {w : World} (h : laidMetH Tryz.prog laidL7 w) : AsciiTab w := by
  have h1 : laidMetH Tryz.prog [("strings.asciiSpace", Lib.tabData .u8 Lib.asciiSpaceTab)] w := by
    have h2 := h.filter (fun x => x.1 == "strings.asciiSpace")
    have e : laidL7.filter (fun x => x.1 == "strings.asciiSpace") = [("strings.asciiSpace", Lib.tabData .u8 Lib.asciiSpaceTab)] := by kernel_rfl
    rw [e] at h2
    exact h2
  rw [MakeChecks.laidMetH_plain _ _ _ (by kernel_rfl)] at h1
  have ht : Lib.TabIs Tryz.prog w "strings.asciiSpace" .u8 Lib.asciiSpaceTab := Lib.tabIs_of_head gAscii (t := 346) (by kernel_rfl) Tryz.underlying346 Tryz.underlying5 (by kernel_rfl) (by kernel_rfl) h1
  intro c hc
  have := ht.cell gAscii c (by rw [Lib.asciiSpaceTab_length]; exact hc)
  rw [Lib.asciiSpaceTab_at c hc] at this
  exact this
theorem gPow : Tryz.prog.globalNamed "internal/strconv.uint64pow10" = some 3 := by kernel_rfl
theorem pow_of_laid7 {w : World} (h : laidMetH Tryz.prog laidL7 w) : Lib.TabIs Tryz.prog w "internal/strconv.uint64pow10" .u64 Lib.pow10Tab := by
  have h1 : laidMetH Tryz.prog [("internal/strconv.uint64pow10", Lib.tabData .u64 Lib.pow10Tab)] w := by
    have h2 := h.filter (fun x => x.1 == "internal/strconv.uint64pow10")
    have e : laidL7.filter (fun x => x.1 == "internal/strconv.uint64pow10") = [("internal/strconv.uint64pow10", Lib.tabData .u64 Lib.pow10Tab)] := by kernel_rfl
    rw [e] at h2
    exact h2
  rw [MakeChecks.laidMetH_plain _ _ _ (by kernel_rfl)] at h1
  exact Lib.tabIs_of_head gPow (t := 370) (by kernel_rfl) Tryz.underlying370 Tryz.underlying185 (by kernel_rfl) (by kernel_rfl) h1
/-- The door's own heap meets the condition. -/
theorem door_met7 (os : Os) (args : Array Value) : laidMetH Tryz.prog laidL7 ((World.doorLaid Tryz.prog 400 os).forCall (fun _ _ => 0) ⟨#[], args, []⟩).memory :=
  laidMetH_of_parts3 (fuel := 8) (laidMet_of_run' 8 (by kernel_rfl) (by kernel_rfl)) (by kernel_rfl) (by kernel_rfl)
end Go.Proofs.YtineejjdbjdliaaGreatDoor
