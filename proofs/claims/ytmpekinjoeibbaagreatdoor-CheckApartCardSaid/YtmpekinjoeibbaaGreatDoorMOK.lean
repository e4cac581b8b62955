/- Parts of one proof, joined; conditions stand in each theorem. -/
import Derived.Test.YtmpekinjoeibbaaGreatDoorMA
import Derived.Test.YtmpekinjoeibbaaGreatDoorRows
import Derived.ProofKit
import Derived.LaidMore
import Derived.OpenShut
import Derived.Stop.Joined
import Derived.LaidSub
import Derived.Shelf.Vars
import Derived.Lay
open Go renaming TypeId→vn,Value→r3,World→p7
open Go.Proofs.Tryz renaming prog→r6
namespace Go.Proofs.YtmpekinjoeibbaaGreatDoor
open Go.ChangeShapes Go.WideShapes Go.ChangeAt Go.RowKit
theorem own:ownKnob Tryz.prog.godebug=none:=by kernel_rfl
theorem Bz:Tryz.prog.globalNamed "strings.asciiSpace" = some 1:=by kernel_rfl
def readAll(P:Program) (ts:List vn):Bool:=ts.all fun t=>P.readableRec t&&decide (t<P.types.size)
section
variable {H:Type} {enc:vn×r3→H} {P:Program}
theorem tA(i:laidOutB P=true){W W':p7}(j:FS W W'):∀{ts:List vn} {vs:List r3} {a:List (DataW H)} {c:List MemPlace},readAll P ts=true→
  DataW.TrodAll enc P W 0 (fun _=>true) true ts vs a c→(∀x∈c,x.block<W.heap.size)→DataW.TrodAll enc P W' 0 (fun b=>decide (b<W.heap.size)) true ts vs a c:=by
 intro ts
 induction ts with
 | nil =>
  intro vs a c _ h _;obtain⟨rfl,rfl,rfl⟩:=trodAll_nil h;exact trodAll_mk0
 | cons t ts k =>
  intro vs a c f h e
  cases vs with
  | nil=>exact h.elim
  | cons v vs =>
   cases a with
   | nil=>exact h.elim
   | cons d a =>
    obtain⟨p,q,l,m,rfl⟩:=h;simp only[readAll,List.all_cons,Fp,oE]at f;exact⟨p,q,Below.trod i f.1.1 f.1.2 l j (fun x g=>e x (List.mem_append_left _ g)),k f.2 m (fun x g=>e x (List.mem_append_right _ g)),Z⟩
theorem CG{f:Func}{s:ChangeSpec}{apart fresh handsOn:Bool}{W W':p7}{args:Array r3}{a:List (DataW H)}{before:List MemPlace}{tb:vn}
  (l:laidOutB P=true) (m:readAll P f.params.toList=true) (n:f.resultTypes=#[tb]) (d:P.underlying tb=some .bool) (hv:s.vars=[])
  (c:(s.fn H (a++[])).results=[.lit (.bool true)]∧(s.fn H (a++[])).args=a∧(s.fn H (a++[])).vars=[])
  (e:DataW.Whole enc P f.params.toList s.vars apart W args.toList a [] before) (j:FS W W') :
  s.post enc P f apart fresh handsOn false W args (Value.bool true) W':=by
 obtain⟨o,r,t⟩:=c;have g:∀x∈before,x.block<W.heap.size:=fun x b=>e.lt x b
 have i:=e;obtain⟨p,q,u,k,rfl,_,_⟩:=i;rw[hv]at k;obtain rfl:q=[]:=k;refine⟨a,[],_,[],p,[],e,?_,?_,?_,?_,fun h=>by cases h⟩
 ·rw[o,n];exact trodAll_mk1 (shut_bool d true)
 ·rw[r];exact tA l j m u (fun x b=>g x (List.mem_append_left _ b))
 ·rw[t,hv];rfl
 ·refine World.keptBut_mono (fun x b=>⟨b,Or.inr (Or.inl ?_)⟩) (j.frame (·∈p++[]))
  simpa using b
end
theorem laidOut:laidOutB r6=true:=by kernel_rfl
noncomputable def jw:List (String×DataW Unit):=[("unicode/utf8.acceptRanges",Rows.laid_unicode_utf8_acceptRanges),("io.EOF",Rows.laid_io_EOF),("unicode.White_Space",Rows.laid_unicode_White_Space),("strings.asciiSpace",Rows.laid_strings_asciiSpace),("unicode/utf8.first",Rows.laid_unicode_utf8_first)]
theorem rq{w:p7}(h:laidMetH r6 jw w):aM w:=by
 have a:laidMetH r6 [("strings.asciiSpace",Lib.tabData IntKind.u8 Lib.asciiSpaceTab)] w:=by
  have b:=h.filter (fun x=>x.1 == "strings.asciiSpace");have e:jw.filter (fun x=>x.1 == "strings.asciiSpace")=[("strings.asciiSpace",Lib.tabData IntKind.u8 Lib.asciiSpaceTab)]:=by kernel_rfl
  rw[e]at b;exact b
 rw[MakeChecks.laidMetH_plain _ _ _ (by kernel_rfl)]at a;have f:Lib.TabIs r6 w "strings.asciiSpace" IntKind.u8 Lib.asciiSpaceTab:=Lib.tabIs_of_head Bz (t:=363) (by kernel_rfl) Tryz.underlying363 Tryz.underlying5 (by kernel_rfl) (by kernel_rfl) a;intro c d;have:=f.cell Bz c (by rw[Lib.asciiSpaceTab_length];exact d);rw[Lib.asciiSpaceTab_at c d]at this;exact this
theorem Ba(os:Os)(args:Array r3):laidMetH r6 jw ((World.laidAll r6 os jw).forCall (fun _ _=>0) ⟨#[],args,[]⟩).memory:=by
 rw[MakeChecks.laidMetH_plain _ _ _ (by kernel_rfl)];exact laidMet_laidAll _ (by kernel_rfl) (by kernel_rfl)
theorem wK(os:Os)(args:Array r3):((World.laidAll r6 os jw).forCall (fun _ _=>0) ⟨#[],args,[]⟩).Shaped Tryz.prog:=World.shaped_of_ZipB (by kernel_rfl) (by kernel_rfl)
section
variable {H:Type} {enc:vn×r3→H}
theorem og{a:Assume}{C:Checked}{os:Os}{f:FuncId}{fn:Func}{s:ChangeSpec}{conds:List PathCond}{apart fresh handsOn again:Bool}{X:p7→Array r3→Prop}
  (r:∀(w w':p7) (args:Array r3),w.heap=w'.heap→X w args→X w' args)
  (own:ownKnob C.prog.godebug=none) (started:os.Started) (c:C.prog.inits.idxOf? f=none) (m:C.prog.funcs[f]?=some fn)
  (witness:∃(w:p7) (tape:Tape) (i:Input),w.os=os∧(w.forCall tape i).Shaped C.prog∧i.vars=[]∧Input.okWide C.prog (w.forCall tape i) .any w.heap.size f i∧
   ((s.pre enc C.prog fn conds apart (w.forCall tape i).memory i.args∧X (w.forCall tape i).memory i.args)∧sizedMet enc C.prog fn (OpenSpec.ofChange s) apart (w.forCall tape i).memory i.args)∧a.holds C.prog (lone (Frame.enter C.prog f i.args .normal) [] (w.forCall tape i)))
  (b:∀(W:p7) (base:Nat) (args:Array r3) (g gs:List (DataW H)) (before:List MemPlace),
   (∀(j:Nat) t v,fn.params[j]?=some t→args[j]?=some v→Value.okWide C.prog W .any base t v)→
   DataW.Whole enc C.prog fn.params.toList s.vars apart W args.toList g gs before→
   conds.all (PathCond.test C.prog ⟨fn.params.toList,g,s.plain.varTypes C.prog,gs⟩)=true→
   (DataW.weightsEach C.prog (fn.params.toList++s.plain.varTypes C.prog) (g++gs)).all (·≤reachBytes)=true→X W args→W.ShapedOpen C.prog→
   a.holds C.prog (lone (Frame.enter C.prog f args .normal) [] W)→
   Calls C.prog f args W fun e W'=>∃v,e=Ending.returned v∧s.post enc C.prog fn apart fresh handsOn again W args v W') :
  ReturnsInHanded a C os f .any (fun w args=>(s.pre enc C.prog fn conds apart w args∧X w args)∧sizedMet enc C.prog fn (OpenSpec.ofChange s) apart w args) (s.post enc C.prog fn apart fresh handsOn again):=by
 refine returnsInHanded_of_calls own started c witness ?_;intro w tape i _ n _ o h d;obtain⟨_,_,_,p,k,_,_,_,_,l⟩:=o;have e:p=fn:=pt (k.symm.trans m);subst e;obtain⟨⟨⟨g,gs,before,hw,u⟩,x⟩,y⟩:=h;have q:=DataW.Whole.of_heap (w':=w.forCall tape i) (by rfl) hw;refine (b (w.forCall tape i) w.heap.size i.args g gs before l q u (y.weights hw) (r _ _ _ (by rfl) x) n d).mono fun e W' ⟨v,he,z⟩=>?_
 subst he;exact ChangeSpec.post_blind z
end
