/- The law CheckNumbers: the row, proved, and its tied card. Condition: the listed variables lie as the program lays them. -/
import Derived.Test.YtkhfjgjjhlnnnaaGreatDoorYMOK
import Derived.Test.YtkhfjgjjhlnnnaaGreatDoorYOI
import Derived.Test.YtkhfjgjjhlnnnaaGreatDoorTie
import Derived.Test.YtkhfjgjjhlnnnaaGreatDoorCards
open Go.Proofs.Tryz renaming prog→xD
open Go.Value renaming int→I
open Go.IntKind renaming i64→Z
namespace Go.Proofs.YtkhfjgjjhlnnnaaGreatDoor
set_option maxRecDepth 100000
open Go.ChangeShapes Go.WideShapes Go.ChangeAt Go.ChangeMaps Go.RowKit
theorem mS(os:Os)(started:os.Started)(H:Type)(enc:TypeId×Value→H) :
  ReturnsInHanded {} Tryz.checked os 4 .any (fun w args=>(Rows.checkNumbersSpec.pre enc xD Tryz.f4 [] false w args∧laidMetH xD jF w)∧sizedMet enc xD Tryz.f4 (OpenSpec.ofChange Rows.checkNumbersSpec) false w args)
   (Rows.checkNumbersSpec.post enc xD Tryz.f4 false true false false):=by
 refine oP (C:=Tryz.checked) (X:=fun w _=>laidMetH xD jF w) (fun _ _ _ k h=>h.of_heap k) own started (by kernel_rfl) Tryz.func4
  (ChangeSpec.witness_shaped (enc:=enc) (C:=Tryz.checked) (os:=os) (X:=fun w _=>laidMetH xD jF w) false (World.laidAll xD os jF) #[I Z 0,I Z 0,I Z 0,I Z 0,I Z 0,I Z 0] 8 (World.laidAll_os _ _ _) (v8 os #[I Z 0,I Z 0,I Z 0,I Z 0,I Z 0,I Z 0]) (by kernel_rfl) (by kernel_rfl) (by kernel_rfl) (A6 os _)) ?_
 intro W base args l gs before d i _ _ m _ _;have a:∀(j:Nat) t v,Tryz.f4.params[j]?=some t→args[j]?=some v→Value.okWide xD W .any base t v:=d;have f:=i;obtain⟨p,q,g,n,rfl,o,r⟩:=i;have b:DataW.TrodAll enc xD W 0 (fun _=>true) true Tryz.f4.params.toList args.toList l p:=g;rw[Tryz.params4]at b a;obtain⟨v0,L,d0,M,N,P,c,rfl,rfl,s,b⟩:=trodAll_cons b;obtain⟨v1,Q,d1,R,S,T,rfl,rfl,rfl,u,b⟩:=trodAll_cons b;obtain⟨v2,r2,d2,e2,p2,q2,rfl,rfl,rfl,x,b⟩:=trodAll_cons b;obtain⟨v3,r3,d3,e3,p3,q3,rfl,rfl,rfl,y,b⟩:=trodAll_cons b;obtain⟨v4,r4,d4,e4,p4,q4,rfl,rfl,rfl,z,b⟩:=trodAll_cons b;obtain⟨v5,r5,d5,e5,p5,q5,rfl,rfl,rfl,B,b⟩:=trodAll_cons b;obtain⟨rfl,rfl,rfl⟩:=trodAll_nil b;have c:args=#[v0,v1,v2,v3,v4,v5]:=by cases args;simp_all
 subst c;obtain⟨rfl,rfl⟩:=trodVars_none n;obtain⟨D,rfl,rfl,rfl,_⟩:=open_int Tryz.underlying3 (a 0 3 v0 V V) s;obtain⟨E,rfl,rfl,rfl,_⟩:=open_int Tryz.underlying3 (a 1 3 v1 V V) u;obtain⟨n2,rfl,rfl,rfl,_⟩:=open_int Tryz.underlying3 (a 2 3 v2 V V) x;obtain⟨F,rfl,rfl,rfl,_⟩:=open_int Tryz.underlying3 (a 3 3 v3 V V) y;obtain⟨n4,rfl,rfl,rfl,_⟩:=open_int Tryz.underlying3 (a 4 3 v4 V V) z;obtain⟨G,rfl,rfl,rfl,_⟩:=open_int Tryz.underlying3 (a 5 3 v5 V V) B;refine (pJ D E n2 F n4 G W (rG m)).mono fun e W1 ⟨he,K⟩=>?_
 subst he;exact⟨_,V,Cx laidOut (by kernel_rfl) (tb:=4) (by kernel_rfl) Tryz.underlying4 V ⟨V,V,V⟩ f K⟩
theorem l8:(Rows.checkNumbersRow.inPlace==Tryz.pinned.checked.prog.inPlace 4)=true:=by kernel_rfl
theorem lj:(Rows.checkNumbersRow.unfollowed==Tryz.pinned.checked.prog.unfollowed 4)=true:=by kernel_rfl
theorem lR:(Rows.checkNumbersRow.recurses==Tryz.pinned.checked.prog.recurses 4)=true:=by kernel_rfl
theorem nw:(Rows.checkNumbersRow.named==Tryz.pinned.checked.prog.varsNamed 4)=true:=by kernel_rfl
theorem mT:joinedFacts Tryz.pinned.checked.prog 4 Tryz.f4 Rows.checkNumbersSpec Rows.checkNumbersRow=true:=by
 unfold joinedFacts;rw[l8,lj,lR,nw]
 kernel_rfl
theorem ol:Rows.CheckNumbersSaid:=
 OpenClaim.holds_of_wide 4 Tryz.f4 V V V V V V V ⟨V,V,V,V,V⟩ V V V V V (by kernel_rfl) Tryz.func4 mT
  (of_decide_eq_true (by kernel_rfl)) (by unfold Func.isWrapper;first|(rw[rv (by decide +kernel)];kernel_rfl)|(rw[qv (by decide +kernel)];exact⟨V,V⟩))
  (fun os started H enc _=>mS os started H enc)
theorem checkNumbers_card:Rows.CheckNumbersCardSaid:=
 Claim7.holds_tied_plain_at .later [] [.data,.sentinel,.listed,.data,.pinned] true (true, "c17394d5e93320b6e500b2dee2cd08424dec011412c9296d9296b48c3ec535c8") true
  ol (fun _ h=>by cases h) (by kernel_rfl) (fun _ h=>by cases h) checkNumbers_row_tie V ⟨V,V⟩ (by kernel_rfl) V
  (fun f fn d b=>by
   obtain rfl:f=4:=tE ((show Tryz.prog.funcNamed Rows.checkNumbersRow.func=some 4 by kernel_rfl).symm.trans d) |>.symm
   obtain rfl:fn=Tryz.f4:=(tE (Tryz.func4.symm.trans b)).symm
   exact⟨by kernel_rfl,fun j t c=>by
    rw[Tryz.params4]at c;have hm:t∈[3,3,3,3,3,3]:=by simpa using Array.mem_of_getElem? c
    have a:([3,3,3,3,3,3].all fun u=>!Tryz.prog.wantsStandIn u)=true:=by kernel_rfl
    exact (show Tryz.prog.wantsStandIn t=false by simpa using Fx.1 a t hm)⟩)
  (by kernel_rfl)
#print axioms checkNumbers_card
