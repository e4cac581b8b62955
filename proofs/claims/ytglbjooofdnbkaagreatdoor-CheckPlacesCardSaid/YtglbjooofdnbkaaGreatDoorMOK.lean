/- The rows' frame: from the listed variables to the table of blanks; the witness's start; the last step where memory only grew. -/
import Derived.Test.YtglbjooofdnbkaaGreatDoorMA
import Derived.Test.YtglbjooofdnbkaaGreatDoorRows
import Derived.ProofKit
import Derived.LaidMore
import Derived.OpenShut
import Derived.Stop.Joined
import Derived.LaidSub
namespace Go.Proofs.YtglbjooofdnbkaaGreatDoor
open Go.ChangeShapes Go.WideShapes Go.ChangeAt Go.RowKit
theorem own:ownKnob Tryz.prog.godebug=none:=by kernel_rfl
theorem gAscii:Tryz.prog.globalNamed "strings.asciiSpace" = some 0:=by kernel_rfl
def readAll (P:Program) (ts:List TypeId):Bool:=ts.all fun t=>P.readableRec t&&decide (t<P.types.size)
section
variable {H:Type} {enc:TypeId×Value→H} {P:Program}
theorem trodAll_below (hl:laidOutB P=true){W W':World}(hb:Below W.heap.size W W'):∀{ts:List TypeId}{vs:List Value}{ds:List (DataW H)}{ps:List MemPlace},readAll P ts=true →
  DataW.TrodAll enc P W 0 (fun _=>true) true ts vs ds ps→(∀x∈ps,x.block<W.heap.size)→DataW.TrodAll enc P W' 0 (fun b=>decide (b<W.heap.size)) true ts vs ds ps:=by
 intro ts
 induction ts with
 | nil =>
  intro vs ds ps _ h _
  obtain⟨rfl,rfl,rfl⟩:=trodAll_nil h
  exact trodAll_mk0
 | cons t ts ih =>
  intro vs ds ps hr h hlt
  cases vs with
  | nil=>exact h.elim
  | cons v vs =>
   cases ds with
   | nil=>exact h.elim
   | cons d ds =>
    obtain⟨p,q,h1,h2,rfl⟩:=h
    simp only[readAll,List.all_cons,Bool.and_eq_true,decide_eq_true_eq] at hr
    exact⟨p,q,Below.trod hl hr.1.1 hr.1.2 h1 hb (fun x hx=>hlt x (List.mem_append_left _ hx)),ih hr.2 h2 (fun x hx=>hlt x (List.mem_append_right _ hx)),rfl⟩
theorem law_post {f:Func}{s:ChangeSpec}{apart fresh handsOn:Bool}{W W':World}{args:Array Value}{ds:List (DataW H)}{before:List MemPlace}{tb:TypeId}
  (hl:laidOutB P=true) (hp:readAll P f.params.toList=true) (hr:f.resultTypes=#[tb]) (hbo:P.underlying tb=some .bool) (hv:s.vars=[])
  (hfn':(s.fn H (ds++[])).results=[.lit (.bool true)]∧(s.fn H (ds++[])).args=ds∧(s.fn H (ds++[])).vars=[])
  (hW:DataW.Whole enc P f.params.toList s.vars apart W args.toList ds [] before) (hb:Below W.heap.size W W') :
  s.post enc P f apart fresh handsOn false W args (.bool true) W':=by
 obtain⟨h1,h2,h3⟩:=hfn'
 have hlt:∀x∈before,x.block<W.heap.size:=fun x hx=>hW.lt x hx
 have hW2:=hW
 obtain⟨p,q,hA,hV,rfl,_,_⟩:=hW2
 rw[hv] at hV
 obtain rfl:q=[]:=hV
 refine⟨ds,[],_,[],p,[],hW,?_,?_,?_,?_,fun h=>by cases h⟩
 ·rw[h1,hr]
  exact trodAll_mk1 (shut_bool hbo true)
 ·rw[h2]
  exact trodAll_below hl hb hp hA (fun x hx=>hlt x (List.mem_append_left _ hx))
 ·rw[h3,hv]
  rfl
 ·refine World.keptBut_mono (fun x hx=>⟨hx,Or.inr (Or.inl ?_)⟩) (hb.frame (·∈p++[]))
  simpa using hx
end
theorem laidOut:laidOutB Tryz.prog=true:=by kernel_rfl
end Go.Proofs.YtglbjooofdnbkaaGreatDoor
