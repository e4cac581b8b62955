/- The law ParseNumbers: the row, proved, and its tied card. Condition: the listed variables lie as the program lays them. -/
import Derived.Test.YtfpohaipmnjflaaGreatDoorMPN
import Derived.Test.YtfpohaipmnjflaaGreatDoorTie
import Derived.Test.YtfpohaipmnjflaaGreatDoorCards
namespace Go.Proofs.YtfpohaipmnjflaaGreatDoor
open Go.ChangeShapes Go.WideShapes Go.ChangeAt Go.ChangeMaps Go.RowKit

set_option maxRecDepth 100000 in
theorem parseNumbers_lifted (os : Os) (started : os.Started) (H : Type) (enc : TypeId × Value → H) :
    ReturnsInHanded {} Tryz.checked os 4 .any (fun w args => (Rows.parseNumbersSpec.pre enc Tryz.prog Tryz.f4 [] false w args ∧ laidMetH Tryz.prog laidLN w) ∧ sizedMet enc Tryz.prog Tryz.f4 (OpenSpec.ofChange Rows.parseNumbersSpec) false w args)
      (Rows.parseNumbersSpec.post enc Tryz.prog Tryz.f4 false true false false) := by
  refine change_and_shaped (C := Tryz.checked) (X := fun w _ => laidMetH Tryz.prog laidLN w) (fun _ _ _ hh h => h.of_heap hh) own started (by kernel_rfl) Tryz.func4
    (ChangeSpec.witness_shaped (enc := enc) (C := Tryz.checked) (os := os) (X := fun w _ => laidMetH Tryz.prog laidLN w) false (World.laidAll Tryz.prog os laidLN) #[] 8 (World.laidAll_os _ _ _) (laid_shapeN os #[]) (by kernel_rfl) (by kernel_rfl) (by kernel_rfl) (laid_metN os _)) ?_
  intro W base args ds gs before hval0 hW _ _ hL hsh _
  have hval : ∀ (j : Nat) t v, Tryz.f4.params[j]? = some t → args[j]? = some v → Value.okWide Tryz.prog W .any base t v := hval0
  have hW' := hW
  obtain ⟨p, q, hA0, hV, rfl, hfz, hnd⟩ := hW
  have hA : DataW.TrodAll enc Tryz.prog W 0 (fun _ => true) true Tryz.f4.params.toList args.toList ds p := hA0
  rw [Tryz.params4] at hA hval
  obtain ⟨rfl, rfl, rfl⟩ := trodAll_none hA
  obtain ⟨rfl, rfl⟩ := trodVars_none hV
  obtain ⟨m, hm⟩ := cell_of_shapedOpen_int (P := Tryz.prog) (g := 0) (t := 3) (zero := #[.int .i64 0]) hsh (of_decide_eq_true (by kernel_rfl)) (by kernel_rfl) rfl (by kernel_rfl) (by kernel_rfl) Tryz.underlying3
  refine (law_parseNumbers m W (ascii_of_laidN hL) hm).mono fun e W1 ⟨he, hb⟩ => ?_
  subst he
  exact ⟨_, rfl, law_post laidOut (by kernel_rfl) (tb := 4) (by kernel_rfl) Tryz.underlying4 rfl ⟨rfl, rfl, rfl⟩ hW' hb⟩

set_option maxRecDepth 100000 in
theorem parseNumbers_inPlace : (Rows.parseNumbersRow.inPlace == Tryz.pinned.checked.prog.inPlace 4) = true := by kernel_rfl
set_option maxRecDepth 100000 in
theorem parseNumbers_unfollowed : (Rows.parseNumbersRow.unfollowed == Tryz.pinned.checked.prog.unfollowed 4) = true := by kernel_rfl
set_option maxRecDepth 100000 in
theorem parseNumbers_recurses : (Rows.parseNumbersRow.recurses == Tryz.pinned.checked.prog.recurses 4) = true := by kernel_rfl
set_option maxRecDepth 100000 in
theorem parseNumbers_named : (Rows.parseNumbersRow.named == Tryz.pinned.checked.prog.varsNamed 4) = true := by kernel_rfl
set_option maxRecDepth 100000 in
theorem parseNumbers_closed : joinedFacts Tryz.pinned.checked.prog 4 Tryz.f4 Rows.parseNumbersSpec Rows.parseNumbersRow = true := by
  unfold joinedFacts
  rw [parseNumbers_inPlace, parseNumbers_unfollowed, parseNumbers_recurses, parseNumbers_named]
  kernel_rfl
theorem parseNumbers_holds : Rows.ParseNumbersSaid :=
  OpenClaim.holds_of_wide 4 Tryz.f4 rfl rfl rfl rfl rfl rfl rfl ⟨rfl, rfl, rfl, rfl, rfl⟩ rfl rfl rfl rfl rfl (by kernel_rfl) Tryz.func4 parseNumbers_closed
    (of_decide_eq_true (by kernel_rfl)) (by unfold Func.isWrapper; first | (rw [if_pos (by decide +kernel)]; kernel_rfl) | (rw [if_neg (by decide +kernel)]; exact ⟨rfl, rfl⟩))
    (fun os started H enc _ => parseNumbers_lifted os started H enc)

theorem parseNumbers_card : Rows.ParseNumbersCardSaid :=
  Claim7.holds_tied_plain_at .later [] [.data, .sentinel, .listed, .data, .pinned] true (true, "fae8dcd7b2ae49c4ef2e159d3f505c7b3634a0dd31c389107be57b1579ba9b97") false
    parseNumbers_holds (fun _ h => by cases h) (by kernel_rfl) (fun _ h => by cases h) parseNumbers_row_tie rfl ⟨rfl, rfl⟩ (by kernel_rfl) rfl
    (fun f fn hf hfn => by
      obtain rfl : f = 4 := Option.some.inj ((show Tryz.prog.funcNamed Rows.parseNumbersRow.func = some 4 by kernel_rfl).symm.trans hf) |>.symm
      obtain rfl : fn = Tryz.f4 := (Option.some.inj (Tryz.func4.symm.trans hfn)).symm
      exact ⟨by kernel_rfl, fun j t ht => by
        rw [Tryz.params4] at ht
        simp at ht⟩)
    (by kernel_rfl)
#print axioms parseNumbers_card
end Go.Proofs.YtfpohaipmnjflaaGreatDoor
