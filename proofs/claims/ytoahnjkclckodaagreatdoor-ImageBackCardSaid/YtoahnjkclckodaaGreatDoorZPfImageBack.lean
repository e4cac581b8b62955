/- The law ImageBack: the row, proved, and its tied card. Condition: the listed variables lie as the program lays them. -/
import Derived.Test.YtoahnjkclckodaaGreatDoorMOK
import Derived.Test.YtoahnjkclckodaaGreatDoorIS
import Derived.Test.YtoahnjkclckodaaGreatDoorOO
import Derived.Test.YtoahnjkclckodaaGreatDoorTie
import Derived.Test.YtoahnjkclckodaaGreatDoorCards
open Go.Proofs.Tryz renaming prog→va
open Go.Value renaming agg→wP,string→r9,int→I,slice→O
open Go.IntKind renaming i64→U
namespace Go.Proofs.YtoahnjkclckodaaGreatDoor
set_option maxRecDepth 100000
open Go.ChangeShapes Go.WideShapes Go.ChangeAt Go.ChangeMaps Go.RowKit
theorem rN(os:Os)(started:os.Started)(H:Type)(enc:TypeId×Value→H) :
  ReturnsInHanded {} Tryz.checked os 3 .any (fun w args=>(Rows.imageBackSpec.pre enc va Tryz.f3 [] false w args∧laidMetH va jJ w)∧sizedMet enc va Tryz.f3 (OpenSpec.ofChange Rows.imageBackSpec) false w args)
   (Rows.imageBackSpec.post enc va Tryz.f3 false true false false):=by
 refine qW (C:=Tryz.checked) (X:=fun w _=>laidMetH va jJ w) (fun _ _ _ u h=>h.of_heap u) own started (by kernel_rfl) Tryz.func3
  (ChangeSpec.witness_shaped (enc:=enc) (C:=Tryz.checked) (os:=os) (X:=fun w _=>laidMetH va jJ w) false (World.laidAll va os jJ) #[wP #[r9 ⟨#[]⟩,I U 0,O none 0 0,O none 0 0,O none 0 0,I U 0],O none 0 0,I U 0] 8 (World.laidAll_os _ _ _) (zg os #[wP #[r9 ⟨#[]⟩,I U 0,O none 0 0,O none 0 0,O none 0 0,I U 0],O none 0 0,I U 0]) (by kernel_rfl) (by kernel_rfl) (by kernel_rfl) (Do os _)) ?_
 intro W base args x gs before b r _ f y _ _;have a:∀(j:Nat) t v,Tryz.f3.params[j]?=some t→args[j]?=some v→Value.okWide va W .any base t v:=b;have g:=r;obtain⟨p,q,i,z,rfl,B,D⟩:=r;have s:DataW.TrodAll enc va W 0 (fun _=>true) true Tryz.f3.params.toList args.toList x p:=i;rw[Tryz.params3]at s a;obtain⟨v0,v1,v2,d0,d1,d2,P,Q,R,rfl,rfl,rfl,E,F,G⟩:=trodAll_three s;obtain⟨rfl,rfl⟩:=trodVars_none z;have k:qQ 28 d0:=fun n K=>by
  have:=Kh.1 f n (DataW.weights_mem_each (j:=0) (t:=28) (d:=d0) (by rw[Tryz.params3];rfl) Z n K)
  simpa using this
 obtain⟨S,L,rfl,l,c⟩:=ER (a 0 28 v0 Z Z) E k;obtain⟨M,m,o⟩:=open_bytes (a 1 29 v1 Z Z) F;obtain⟨n2,rfl,rfl,rfl,_⟩:=open_int Tryz.underlying3 (a 2 3 v2 Z Z) G;refine (wt l c M v1 m o n2 (um y)).mono fun e T ⟨he,N⟩=>?_
 subst he;exact⟨_,Z,GO laidOut (by kernel_rfl) (tb:=4) (by kernel_rfl) Tryz.underlying4 Z ⟨Z,Z,Z⟩ g N⟩
theorem qV:(Rows.imageBackRow.inPlace==Tryz.pinned.checked.prog.inPlace 3)=true:=by kernel_rfl
theorem ob:(Rows.imageBackRow.unfollowed==Tryz.pinned.checked.prog.unfollowed 3)=true:=by kernel_rfl
theorem px:(Rows.imageBackRow.recurses==Tryz.pinned.checked.prog.recurses 3)=true:=by kernel_rfl
theorem tO:(Rows.imageBackRow.named==Tryz.pinned.checked.prog.varsNamed 3)=true:=by kernel_rfl
theorem sd:joinedFacts Tryz.pinned.checked.prog 3 Tryz.f3 Rows.imageBackSpec Rows.imageBackRow=true:=by
 unfold joinedFacts;rw[qV,ob,px,tO]
 kernel_rfl
theorem te:Rows.ImageBackSaid:=
 OpenClaim.holds_of_wide 3 Tryz.f3 Z Z Z Z Z Z Z ⟨Z,Z,Z,Z,Z⟩ Z Z Z Z Z (by kernel_rfl) Tryz.func3 sd
  (o1 (by kernel_rfl)) (by unfold Func.isWrapper;first|(rw[oj (by decide +kernel)];kernel_rfl)|(rw[oe (by decide +kernel)];exact⟨Z,Z⟩))
  (fun os started H enc _=>rN os started H enc)
theorem imageBack_card:Rows.ImageBackCardSaid:=
 Claim7.holds_tied_plain_at .later [] [.data,.sentinel,.listed,.sentinel,.data,.pinned] true (true, "9f0dcb4a6faba85013a77a9235cdc854228f65e636326901e6e46621152702f3") true
  te (fun _ h=>by cases h) (by kernel_rfl) (fun _ h=>by cases h) imageBack_row_tie Z ⟨Z,Z⟩ (by kernel_rfl) Z
  (fun f fn d b=>by
   obtain rfl:f=3:=qv ((show Tryz.prog.funcNamed Rows.imageBackRow.func=some 3 by kernel_rfl).symm.trans d) |>.symm
   obtain rfl:fn=Tryz.f3:=(qv (Tryz.func3.symm.trans b)).symm
   exact⟨by kernel_rfl,fun j t c=>by
    rw[Tryz.params3]at c;have hm:t∈[28,29,3]:=by simpa using Array.mem_of_getElem? c
    have a:([28,29,3].all fun u=>!Tryz.prog.wantsStandIn u)=true:=by kernel_rfl
    exact (show Tryz.prog.wantsStandIn t=false by simpa using Kh.1 a t hm)⟩)
  (by kernel_rfl)
#print axioms imageBack_card
