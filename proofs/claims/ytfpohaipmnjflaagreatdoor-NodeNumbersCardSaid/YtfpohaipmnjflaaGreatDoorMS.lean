/- Single operations on nodes: a field's address, a list loaded, an element's address, an element loaded. No condition. -/
import Derived.Test.YtfpohaipmnjflaaGreatDoorMR
import Derived.Deep.MidRow
namespace Go.Proofs.YtfpohaipmnjflaaGreatDoor
open Go.RowKit
theorem run_at5 (W : World) (g n c j : Nat) (h : j < n) : (Instr.indexAt 23 (.slice (some ⟨g, 0, none⟩) n c) (.int .i64 j)).run Tryz.prog W = .ok (.pointer (some ⟨g, j * 5, none⟩)) W := by
  have h5 : (sizeOf (Tryz.prog.elem 23)).run Tryz.prog W = .ok 5 W := by kernel_rfl
  rw [run_indexAt_slice (w := W) 23 ⟨g, 0, none⟩ n c .i64 j (by kernel_rfl), if_pos ⟨by omega, by omega⟩, h5]
  show Result.ok (Value.pointer (some ((⟨g, 0, none⟩ : Addr).add ((j : Int).toNat * 5)))) W = _
  rw [Addr.add_mid, Int.toNat_natCast, Nat.zero_add]
end Go.Proofs.YtfpohaipmnjflaaGreatDoor
