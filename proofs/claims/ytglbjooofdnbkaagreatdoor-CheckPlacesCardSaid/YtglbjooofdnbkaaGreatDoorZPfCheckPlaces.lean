/- The law CheckPlaces: the row, proved, and its tied card. Condition: the listed variables lie as the program lays them. -/
import Derived.Test.YtglbjooofdnbkaaGreatDoorMNR
import Derived.Test.YtglbjooofdnbkaaGreatDoorMLP
import Derived.Test.YtglbjooofdnbkaaGreatDoorMOT
import Derived.Test.YtglbjooofdnbkaaGreatDoorTie
import Derived.Test.YtglbjooofdnbkaaGreatDoorCards
namespace Go.Proofs.YtglbjooofdnbkaaGreatDoor
set_option maxRecDepth 100000
open Go.ChangeShapes Go.WideShapes Go.ChangeAt Go.ChangeMaps Go.RowKit
theorem checkPlaces_lifted (os:Os)(started:os.Started)(H:Type)(enc:TypeId×Value→H) :
  ReturnsInHanded {} Tryz.checked os 3 .any (fun w args=>(Rows.checkPlacesSpec.pre enc Tryz.prog Tryz.f3 [] false w args∧laidMetH Tryz.prog laidLN w)∧sizedMet enc Tryz.prog Tryz.f3 (OpenSpec.ofChange Rows.checkPlacesSpec) false w args)
   (Rows.checkPlacesSpec.post enc Tryz.prog Tryz.f3 false true false false):=by
 refine change_and_shaped (C:=Tryz.checked) (X:=fun w _=>laidMetH Tryz.prog laidLN w) (fun _ _ _ hh h=>h.of_heap hh) own started (by kernel_rfl) Tryz.func3
  (ChangeSpec.witness_shaped (enc:=enc) (C:=Tryz.checked) (os:=os) (X:=fun w _=>laidMetH Tryz.prog laidLN w) false (World.laidAll Tryz.prog os laidLN) #[.agg #[.int .u8 0,.string ⟨#[]⟩,.int .i64 0,.int .i64 0,.slice none 0 0],.int .i64 0] 8 (World.laidAll_os _ _ _) (laid_shapeN os #[.agg #[.int .u8 0,.string ⟨#[]⟩,.int .i64 0,.int .i64 0,.slice none 0 0],.int .i64 0]) (by kernel_rfl) (by kernel_rfl) (by kernel_rfl) (laid_metN os _)) ?_
 intro W base args ds gs before hval0 hW _ _ hL _ _
 have hval:∀(j:Nat) t v,Tryz.f3.params[j]? = some t→args[j]? = some v→Value.okWide Tryz.prog W .any base t v:=hval0
 have hW':=hW
 obtain⟨p,q,hA0,hV,rfl,hfz,hnd⟩:=hW
 have hA:DataW.TrodAll enc Tryz.prog W 0 (fun _=>true) true Tryz.f3.params.toList args.toList ds p:=hA0
 rw[Tryz.params3] at hA hval
 obtain⟨v0,v1,d0,d1,p0,p1,rfl,rfl,rfl,h0,h1⟩:=trodAll_two hA
 obtain⟨rfl,rfl⟩:=trodVars_none hV
 obtain⟨n0,T0,hT0⟩:=open_node (hval 0 25 v0 rfl rfl) h0
 obtain⟨n1,rfl,rfl,rfl,hn1⟩:=open_int Tryz.underlying3 (hval 1 3 v1 rfl rfl) h1
 refine (law_checkPlaces n0 T0 _ _ W n1 hT0 (Nat.le_refl _) (ascii_of_laidN hL)).mono fun e W1 ⟨he,hb⟩=>?_
 subst he
 exact⟨_,rfl,law_post laidOut (by kernel_rfl) (tb:=4) (by kernel_rfl) Tryz.underlying4 rfl ⟨rfl,rfl,rfl⟩ hW' hb⟩
theorem checkPlaces_inPlace:(Rows.checkPlacesRow.inPlace==Tryz.pinned.checked.prog.inPlace 3)=true:=by kernel_rfl
theorem checkPlaces_unfollowed:(Rows.checkPlacesRow.unfollowed==Tryz.pinned.checked.prog.unfollowed 3)=true:=by kernel_rfl
theorem checkPlaces_recurses:(Rows.checkPlacesRow.recurses==Tryz.pinned.checked.prog.recurses 3)=true:=by kernel_rfl
theorem checkPlaces_named:(Rows.checkPlacesRow.named==Tryz.pinned.checked.prog.varsNamed 3)=true:=by kernel_rfl
theorem checkPlaces_closed:joinedFacts Tryz.pinned.checked.prog 3 Tryz.f3 Rows.checkPlacesSpec Rows.checkPlacesRow=true:=by
 unfold joinedFacts
 rw[checkPlaces_inPlace,checkPlaces_unfollowed,checkPlaces_recurses,checkPlaces_named]
 kernel_rfl
theorem checkPlaces_holds:Rows.CheckPlacesSaid:=
 OpenClaim.holds_of_wide 3 Tryz.f3 rfl rfl rfl rfl rfl rfl rfl ⟨rfl,rfl,rfl,rfl,rfl⟩ rfl rfl rfl rfl rfl (by kernel_rfl) Tryz.func3 checkPlaces_closed
  (of_decide_eq_true (by kernel_rfl)) (by unfold Func.isWrapper;first|(rw[if_pos (by decide +kernel)];kernel_rfl)|(rw[if_neg (by decide +kernel)];exact⟨rfl,rfl⟩))
  (fun os started H enc _=>checkPlaces_lifted os started H enc)
theorem checkPlaces_card:Rows.CheckPlacesCardSaid:=
 Claim7.holds_tied_plain_at .later [] [.data,.sentinel,.listed,.data,.pinned] true (true, "640606b665a4220f17bbb563d6b8487153beedd2951cf72bcb405bdc69b76ea0") true
  checkPlaces_holds (fun _ h=>by cases h) (by kernel_rfl) (fun _ h=>by cases h) checkPlaces_row_tie rfl ⟨rfl,rfl⟩ (by kernel_rfl) rfl
  (fun f fn hf hfn=>by
   obtain rfl:f=3:=Option.some.inj ((show Tryz.prog.funcNamed Rows.checkPlacesRow.func=some 3 by kernel_rfl).symm.trans hf) |>.symm
   obtain rfl:fn=Tryz.f3:=(Option.some.inj (Tryz.func3.symm.trans hfn)).symm
   exact⟨by kernel_rfl,fun j t ht=>by
    rw[Tryz.params3] at ht
    have hm:t∈[25,3]:=by simpa using Array.mem_of_getElem? ht
    have hall:([25,3].all fun u=>!Tryz.prog.wantsStandIn u)=true:=by kernel_rfl
    exact (show Tryz.prog.wantsStandIn t=false by simpa using List.all_eq_true.1 hall t hm)⟩)
  (by kernel_rfl)
#print axioms checkPlaces_card
end Go.Proofs.YtglbjooofdnbkaaGreatDoor
