/- The law CheckRight: the row, proved, and its tied card. Condition: the listed variables lie as the program lays them. -/
import Derived.Test.YtoonjedifockoaaGreatDoorMOK
import Derived.Test.YtoonjedifockoaaGreatDoorNQG
import Derived.Test.YtoonjedifockoaaGreatDoorMM
import Derived.Test.YtoonjedifockoaaGreatDoorTie
import Derived.Test.YtoonjedifockoaaGreatDoorCards
namespace Go.Proofs.YtoonjedifockoaaGreatDoor
open Go.IntKind(i64)
open Go.Value(int string slice)
set_option maxRecDepth 100000
open Go.ChangeShapes Go.WideShapes Go.ChangeAt Go.ChangeMaps Go.RowKit
theorem nJ(os:Os)(started:os.Started)(H:Type)(enc:TypeId×Value→H) :
  ReturnsInHanded {} Tryz.checked os 3 .any (fun w args=>(Rows.checkRightSpec.pre enc Tryz.prog Tryz.f3 [] false w args∧laidMetH Tryz.prog iR w)∧sizedMet enc Tryz.prog Tryz.f3 (OpenSpec.ofChange Rows.checkRightSpec) false w args)
   (Rows.checkRightSpec.post enc Tryz.prog Tryz.f3 false true false false):=by
 refine nI (C:=Tryz.checked) (X:=fun w _=>laidMetH Tryz.prog iR w) (fun _ _ _ s h=>h.of_heap s) own started (by kernel_rfl) Tryz.func3
  (ChangeSpec.witness_shaped (enc:=enc) (C:=Tryz.checked) (os:=os) (X:=fun w _=>laidMetH Tryz.prog iR w) false (World.laidAll Tryz.prog os iR) #[.agg #[slice none 0 0,slice none 0 0]] 8 (World.laidAll_os _ _ _) (vQ os #[.agg #[slice none 0 0,slice none 0 0]]) (by kernel_rfl) (by kernel_rfl) (by kernel_rfl) (AO os _)) ?_
 intro W base args u gs before b o _ f x _ _;have a:∀(j:Nat) t v,Tryz.f3.params[j]?=some t→args[j]?=some v→Value.okWide Tryz.prog W .any base t v:=b;have g:=o;obtain⟨p,q,i,y,rfl,z,A⟩:=o;have r:DataW.TrodAll enc Tryz.prog W 0 (fun _=>true) true Tryz.f3.params.toList args.toList u p:=i;rw[Tryz.params3]at r a;obtain⟨v0,d0,rfl,rfl,B⟩:=trodAll_one r;obtain⟨rfl,rfl⟩:=trodVars_none y;have k:nD 25 d0:=fun n D=>by
  have:=Fe.1 f n (DataW.weights_mem_each (j:=0) (t:=25) (d:=d0) (by rw[Tryz.params3];rfl) rfl n D)
  simpa using this
 obtain⟨E,F,l,rfl,m,c⟩:=xq (a 0 25 v0 rfl rfl) B k;refine (qQ E F l W m c (qP x)).mono fun e I ⟨he,G⟩=>?_
 subst he;exact⟨_,rfl,Ci laidOut (by kernel_rfl) (tb:=4) (by kernel_rfl) Tryz.underlying4 rfl ⟨rfl,rfl,rfl⟩ g G⟩
theorem mi:(Rows.checkRightRow.inPlace==Tryz.pinned.checked.prog.inPlace 3)=true:=by kernel_rfl
theorem kU:(Rows.checkRightRow.unfollowed==Tryz.pinned.checked.prog.unfollowed 3)=true:=by kernel_rfl
theorem l7:(Rows.checkRightRow.recurses==Tryz.pinned.checked.prog.recurses 3)=true:=by kernel_rfl
theorem oU:(Rows.checkRightRow.named==Tryz.pinned.checked.prog.varsNamed 3)=true:=by kernel_rfl
theorem nK:joinedFacts Tryz.pinned.checked.prog 3 Tryz.f3 Rows.checkRightSpec Rows.checkRightRow=true:=by
 unfold joinedFacts;rw[mi,kU,l7,oU]
 kernel_rfl
theorem oH:Rows.CheckRightSaid:=
 OpenClaim.holds_of_wide 3 Tryz.f3 rfl rfl rfl rfl rfl rfl rfl ⟨rfl,rfl,rfl,rfl,rfl⟩ rfl rfl rfl rfl rfl (by kernel_rfl) Tryz.func3 nK
  (oj (by kernel_rfl)) (by unfold Func.isWrapper;first|(rw[n9 (by decide +kernel)];kernel_rfl)|(rw[n8 (by decide +kernel)];exact⟨rfl,rfl⟩))
  (fun os started H enc _=>nJ os started H enc)
theorem checkRight_card:Rows.CheckRightCardSaid:=
 Claim7.holds_tied_plain_at .later [] [.data,.sentinel,.listed,.data,.pinned] true (true, "1daf93cbe7f73498447e2423f9cea74df96d10f92f7e8defd60c1e92f6c5db26") true
  oH (fun _ h=>by cases h) (by kernel_rfl) (fun _ h=>by cases h) checkRight_row_tie rfl ⟨rfl,rfl⟩ (by kernel_rfl) rfl
  (fun f fn e c=>by
   obtain rfl:f=3:=o1 ((show Tryz.prog.funcNamed Rows.checkRightRow.func=some 3 by kernel_rfl).symm.trans e) |>.symm
   obtain rfl:fn=Tryz.f3:=(o1 (Tryz.func3.symm.trans c)).symm
   exact⟨by kernel_rfl,fun j t d=>by
    rw[Tryz.params3]at d;have hm:t∈[25]:=by simpa using Array.mem_of_getElem? d
    have b:([25].all fun u=>!Tryz.prog.wantsStandIn u)=true:=by kernel_rfl
    exact (show Tryz.prog.wantsStandIn t=false by simpa using Fe.1 b t hm)⟩)
  (by kernel_rfl)
#print axioms checkRight_card
