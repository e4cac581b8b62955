/- The law CheckMakes: the row, proved, and its tied card. Condition: the listed variables lie as the program lays them. -/
import Derived.Test.YtkhfjgjjhlnnnaaGreatDoorMOK
import Derived.Test.YtkhfjgjjhlnnnaaGreatDoorOH
import Derived.Test.YtkhfjgjjhlnnnaaGreatDoorMM
import Derived.Test.YtkhfjgjjhlnnnaaGreatDoorTie
import Derived.Test.YtkhfjgjjhlnnnaaGreatDoorCards
open Go.Proofs.Tryz renaming prog→wq
open Go.Value renaming agg→wD,int→I,string→J,slice→A
open Go.IntKind renaming u8→O,i64→Z
namespace Go.Proofs.YtkhfjgjjhlnnnaaGreatDoor
set_option maxRecDepth 100000
open Go.ChangeShapes Go.WideShapes Go.ChangeAt Go.ChangeMaps Go.RowKit
theorem oL(os:Os)(started:os.Started)(H:Type)(enc:TypeId×Value→H) :
  ReturnsInHanded {} Tryz.checked os 3 .any (fun w args=>(Rows.checkMakesSpec.pre enc wq Tryz.f3 [] false w args∧laidMetH wq jC w)∧sizedMet enc wq Tryz.f3 (OpenSpec.ofChange Rows.checkMakesSpec) false w args)
   (Rows.checkMakesSpec.post enc wq Tryz.f3 false true false false):=by
 refine oK (C:=Tryz.checked) (X:=fun w _=>laidMetH wq jC w) (fun _ _ _ k h=>h.of_heap k) own started (by kernel_rfl) Tryz.func3
  (ChangeSpec.witness_shaped (enc:=enc) (C:=Tryz.checked) (os:=os) (X:=fun w _=>laidMetH wq jC w) false (World.laidAll wq os jC) #[wD #[I O 0,J ⟨#[]⟩,I Z 0,I Z 0,A none 0 0]] 8 (World.laidAll_os _ _ _) (wk os #[wD #[I O 0,J ⟨#[]⟩,I Z 0,I Z 0,A none 0 0]]) (by kernel_rfl) (by kernel_rfl) (by kernel_rfl) (Bh os _)) ?_
 intro W base args l gs before b g _ _ m _ _;have a:∀(j:Nat) t v,Tryz.f3.params[j]?=some t→args[j]?=some v→Value.okWide wq W .any base t v:=b;have c:=g;obtain⟨p,q,d,n,rfl,o,r⟩:=g;have i:DataW.TrodAll enc wq W 0 (fun _=>true) true Tryz.f3.params.toList args.toList l p:=d;rw[Tryz.params3]at i a;obtain⟨v0,d0,rfl,rfl,s⟩:=trodAll_one i;obtain⟨rfl,rfl⟩:=trodVars_none n;obtain⟨u,x,f⟩:=open_node (a 0 25 v0 V V) s;refine (rb u x _ _ W f (Fj _) (rD m)).mono fun e z ⟨he,y⟩=>?_
 subst he;exact⟨_,V,CS laidOut (by kernel_rfl) (tb:=4) (by kernel_rfl) Tryz.underlying4 V ⟨V,V,V⟩ c y⟩
theorem nX:(Rows.checkMakesRow.inPlace==Tryz.pinned.checked.prog.inPlace 3)=true:=by kernel_rfl
theorem lR:(Rows.checkMakesRow.unfollowed==Tryz.pinned.checked.prog.unfollowed 3)=true:=by kernel_rfl
theorem mP:(Rows.checkMakesRow.recurses==Tryz.pinned.checked.prog.recurses 3)=true:=by kernel_rfl
theorem py:(Rows.checkMakesRow.named==Tryz.pinned.checked.prog.varsNamed 3)=true:=by kernel_rfl
theorem oJ:joinedFacts Tryz.pinned.checked.prog 3 Tryz.f3 Rows.checkMakesSpec Rows.checkMakesRow=true:=by
 unfold joinedFacts;rw[nX,lR,mP,py]
 kernel_rfl
theorem pZ:Rows.CheckMakesSaid:=
 OpenClaim.holds_of_wide 3 Tryz.f3 V V V V V V V ⟨V,V,V,V,V⟩ V V V V V (by kernel_rfl) Tryz.func3 oJ
  (tf (by kernel_rfl)) (by unfold Func.isWrapper;first|(rw[r6 (by decide +kernel)];kernel_rfl)|(rw[r5 (by decide +kernel)];exact⟨V,V⟩))
  (fun os started H enc _=>oL os started H enc)
theorem checkMakes_card:Rows.CheckMakesCardSaid:=
 Claim7.holds_tied_plain_at .later [] [.data,.sentinel,.listed,.data,.pinned] true (true, "c17394d5e93320b6e500b2dee2cd08424dec011412c9296d9296b48c3ec535c8") true
  pZ (fun _ h=>by cases h) (by kernel_rfl) (fun _ h=>by cases h) checkMakes_row_tie V ⟨V,V⟩ (by kernel_rfl) V
  (fun f fn d b=>by
   obtain rfl:f=3:=tT ((show Tryz.prog.funcNamed Rows.checkMakesRow.func=some 3 by kernel_rfl).symm.trans d) |>.symm
   obtain rfl:fn=Tryz.f3:=(tT (Tryz.func3.symm.trans b)).symm
   exact⟨by kernel_rfl,fun j t c=>by
    rw[Tryz.params3]at c;have hm:t∈[25]:=by simpa using Array.mem_of_getElem? c
    have a:([25].all fun u=>!Tryz.prog.wantsStandIn u)=true:=by kernel_rfl
    exact (show Tryz.prog.wantsStandIn t=false by simpa using FW.1 a t hm)⟩)
  (by kernel_rfl)
#print axioms checkMakes_card
