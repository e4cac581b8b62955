/- The law CheckApart: the row, proved, and its tied card. Condition: the listed variables lie as the program lays them. -/
import Derived.Test.YtmpekinjoeibbaaGreatDoorMOK
import Derived.Test.YtmpekinjoeibbaaGreatDoorGY
import Derived.Test.YtmpekinjoeibbaaGreatDoorMM
import Derived.Test.YtmpekinjoeibbaaGreatDoorTie
import Derived.Test.YtmpekinjoeibbaaGreatDoorCards
open Go.Proofs.Tryz renaming prog→r6
namespace Go.Proofs.YtmpekinjoeibbaaGreatDoor
set_option maxRecDepth 100000
open Go.ChangeShapes Go.WideShapes Go.ChangeAt Go.ChangeMaps Go.RowKit
theorem om(os:Os)(started:os.Started)(H:Type)(enc:TypeId×Value→H) :
  ReturnsInHanded {} Tryz.checked os 3 .any (fun w args=>(Rows.checkApartSpec.pre enc r6 Tryz.f3 [] false w args∧laidMetH r6 jw w)∧sizedMet enc r6 Tryz.f3 (OpenSpec.ofChange Rows.checkApartSpec) false w args)
   (Rows.checkApartSpec.post enc r6 Tryz.f3 false true false false):=by
 refine og (C:=Tryz.checked) (X:=fun w _=>laidMetH r6 jw w) (fun _ _ _ i h=>h.of_heap i) own started (by kernel_rfl) Tryz.func3
  (ChangeSpec.witness_shaped (enc:=enc) (C:=Tryz.checked) (os:=os) (X:=fun w _=>laidMetH r6 jw w) false (World.laidAll r6 os jw) #[Value.string ⟨#[]⟩] 8 (World.laidAll_os _ _ _) (wK os #[Value.string ⟨#[]⟩]) (by kernel_rfl) (by kernel_rfl) (by kernel_rfl) (Ba os _)) ?_
 intro W base args k gs before b f _ _ l _ _;have a:∀(j:Nat) t v,Tryz.f3.params[j]?=some t→args[j]?=some v→Value.okWide r6 W .any base t v:=b;have c:=f;obtain⟨p,q,d,m,rfl,n,o⟩:=f;have g:DataW.TrodAll enc r6 W 0 (fun _=>true) true Tryz.f3.params.toList args.toList k p:=d;rw[Tryz.params3]at g a;obtain⟨v0,d0,rfl,rfl,r⟩:=trodAll_one g;obtain⟨rfl,rfl⟩:=trodVars_none m;obtain⟨s,rfl,rfl,rfl,u⟩:=open_string Tryz.underlying9 (a 0 9 v0 Z Z) r;refine (rr s W (rq l)).mono fun e y ⟨he,x⟩=>?_
 subst he;exact⟨_,Z,CG laidOut (by kernel_rfl) (tb:=4) (by kernel_rfl) Tryz.underlying4 Z ⟨Z,Z,Z⟩ c x⟩
theorem mA:(Rows.checkApartRow.inPlace==Tryz.pinned.checked.prog.inPlace 3)=true:=by kernel_rfl
theorem lA:(Rows.checkApartRow.unfollowed==Tryz.pinned.checked.prog.unfollowed 3)=true:=by kernel_rfl
theorem mt:(Rows.checkApartRow.recurses==Tryz.pinned.checked.prog.recurses 3)=true:=by kernel_rfl
theorem pq:(Rows.checkApartRow.named==Tryz.pinned.checked.prog.varsNamed 3)=true:=by kernel_rfl
theorem oh:joinedFacts Tryz.pinned.checked.prog 3 Tryz.f3 Rows.checkApartSpec Rows.checkApartRow=true:=by
 unfold joinedFacts;rw[mA,lA,mt,pq]
 kernel_rfl
theorem o0:Rows.CheckApartSaid:=
 OpenClaim.holds_of_wide 3 Tryz.f3 Z Z Z Z Z Z Z ⟨Z,Z,Z,Z,Z⟩ Z Z Z Z Z (by kernel_rfl) Tryz.func3 oh
  (of_decide_eq_true (by kernel_rfl)) (by unfold Func.isWrapper;first|(rw[oA (by decide +kernel)];kernel_rfl)|(rw[ox (by decide +kernel)];exact⟨Z,Z⟩))
  (fun os started H enc _=>om os started H enc)
theorem checkApart_card:Rows.CheckApartCardSaid:=
 Claim7.holds_tied_plain_at .later [] [.data,.sentinel,.listed,.data,.pinned] true (true, "294d1af95b90e401b7cf99ea205841834856e096d9c30b868b42d6fc1db37d56") true
  o0 (fun _ h=>by cases h) (by kernel_rfl) (fun _ h=>by cases h) checkApart_row_tie Z ⟨Z,Z⟩ (by kernel_rfl) Z
  (fun f fn d b=>by
   obtain rfl:f=3:=pt ((show Tryz.prog.funcNamed Rows.checkApartRow.func=some 3 by kernel_rfl).symm.trans d) |>.symm
   obtain rfl:fn=Tryz.f3:=(pt (Tryz.func3.symm.trans b)).symm
   exact⟨by kernel_rfl,fun j t c=>by
    rw[Tryz.params3]at c;have hm:t∈[9]:=by simpa using Array.mem_of_getElem? c
    have a:([9].all fun u=>!Tryz.prog.wantsStandIn u)=true:=by kernel_rfl
    exact (show Tryz.prog.wantsStandIn t=false by simpa using FG.1 a t hm)⟩)
  (by kernel_rfl)
#print axioms checkApart_card
