/- Parts of one proof, joined; conditions stand in each theorem. -/
import Derived.Test.YtoahnjkclckodaaGreatDoorMA
import Derived.Test.YtoahnjkclckodaaGreatDoorRows
import Derived.ProofKit
import Derived.LaidMore
import Derived.OpenShut
import Derived.Stop.Joined
import Derived.LaidSub
import Derived.Shelf.Vars
import Derived.Lay
import Derived.ChangeArms
import Derived.ChangeSlices
import Derived.WideShapes
import Derived.Lib.SlParts
import Derived.RowKit
open Option renaming some→A,none→Y
open Go renaming TypeId→xD,Value→tS,World→J
open Go.Proofs.Tryz renaming prog→va
open Go.IntKind renaming u8→r8
open Go.Value renaming slice→O,int→I
namespace Go.Proofs.YtoahnjkclckodaaGreatDoor
set_option maxRecDepth 100000
open Go.ChangeShapes Go.WideShapes Go.ChangeAt Go.RowKit
theorem own:ownKnob Tryz.prog.godebug=none:=by kernel_rfl
theorem Fo:Tryz.prog.globalNamed "strings.asciiSpace" = A 3:=by kernel_rfl
def readAll(P:Program) (ts:List xD):Bool:=ts.all fun t=>P.readableRec t&&decide (t<P.types.size)
section
variable {H:Type} {enc:xD×tS→H} {P:Program}
theorem wK(i:laidOutB P=true){W W':J}(j:Kr W W'):∀{ts:List xD} {vs:List tS} {a:List (DataW H)} {c:List MemPlace},readAll P ts=true→
  DataW.TrodAll enc P W 0 (fun _=>true) true ts vs a c→(∀x∈c,x.block<W.heap.size)→DataW.TrodAll enc P W' 0 (fun b=>decide (b<W.heap.size)) true ts vs a c:=by
 intro ts
 induction ts with
 | nil =>
  intro vs a c _ h _;obtain⟨rfl,rfl,rfl⟩:=trodAll_nil h;exact trodAll_mk0
 | cons t ts k =>
  intro vs a c f h e
  cases vs with
  | nil=>exact h.elim
  | cons v vs =>
   cases a with
   | nil=>exact h.elim
   | cons d a =>
    obtain⟨p,q,l,m,rfl⟩:=h;simp only[readAll,List.all_cons,J4,oB]at f;exact⟨p,q,Below.trod i f.1.1 f.1.2 l j (fun x g=>e x (List.mem_append_left _ g)),k f.2 m (fun x g=>e x (List.mem_append_right _ g)),Z⟩
theorem GO{f:Func}{s:ChangeSpec}{apart fresh handsOn:Bool}{W W':J}{args:Array tS}{a:List (DataW H)}{before:List MemPlace}{tb:xD}
  (m:laidOutB P=true) (n:readAll P f.params.toList=true) (o:f.resultTypes=#[tb]) (d:P.underlying tb=A .bool) (j:s.vars=[])
  (c:(s.fn H (a++[])).results=[.lit (.bool true)]∧(s.fn H (a++[])).args=a∧(s.fn H (a++[])).vars=[])
  (e:DataW.Whole enc P f.params.toList s.vars apart W args.toList a [] before) (k:Kr W W') :
  s.post enc P f apart fresh handsOn false W args (Value.bool true) W':=by
 obtain⟨r,t,u⟩:=c;have g:∀x∈before,x.block<W.heap.size:=fun x b=>e.lt x b
 have i:=e;obtain⟨p,q,v,l,rfl,_,_⟩:=i;rw[j]at l;obtain rfl:q=[]:=l;refine⟨a,[],_,[],p,[],e,?_,?_,?_,?_,fun h=>by cases h⟩
 ·rw[r,o];exact trodAll_mk1 (shut_bool d true)
 ·rw[t];exact wK m k n v (fun x b=>g x (List.mem_append_left _ b))
 ·rw[u,j];rfl
 ·refine World.keptBut_mono (fun x b=>⟨b,Or.inr (Or.inl ?_)⟩) (k.frame (·∈p++[]))
  simpa using b
end
theorem laidOut:laidOutB va=true:=by kernel_rfl
section
variable {H:Type} {enc:xD×tS→H}
theorem qW{a:Assume}{C:Checked}{os:Os}{f:FuncId}{fn:Func}{s:ChangeSpec}{conds:List PathCond}{apart fresh handsOn again:Bool}{X:J→Array tS→Prop}
  (r:∀(w w':J) (args:Array tS),w.heap=w'.heap→X w args→X w' args)
  (own:ownKnob C.prog.godebug=Y) (started:os.Started) (c:C.prog.inits.idxOf? f=Y) (m:C.prog.funcs[f]?=A fn)
  (witness:∃(w:J) (tape:Tape) (i:Input),w.os=os∧(w.forCall tape i).Shaped C.prog∧i.vars=[]∧Input.okWide C.prog (w.forCall tape i) .any w.heap.size f i∧
   ((s.pre enc C.prog fn conds apart (w.forCall tape i).memory i.args∧X (w.forCall tape i).memory i.args)∧sizedMet enc C.prog fn (OpenSpec.ofChange s) apart (w.forCall tape i).memory i.args)∧a.holds C.prog (lone (Frame.enter C.prog f i.args .normal) [] (w.forCall tape i)))
  (b:∀(W:J) (base:Nat) (args:Array tS) (g gs:List (DataW H)) (before:List MemPlace),
   (∀(j:Nat) t v,fn.params[j]?=A t→args[j]?=A v→Value.okWide C.prog W .any base t v)→
   DataW.Whole enc C.prog fn.params.toList s.vars apart W args.toList g gs before→
   conds.all (PathCond.test C.prog ⟨fn.params.toList,g,s.plain.varTypes C.prog,gs⟩)=true→
   (DataW.weightsEach C.prog (fn.params.toList++s.plain.varTypes C.prog) (g++gs)).all (·≤reachBytes)=true→X W args→W.ShapedOpen C.prog→
   a.holds C.prog (lone (Frame.enter C.prog f args .normal) [] W)→
   Calls C.prog f args W fun e W'=>∃v,e=Ending.returned v∧s.post enc C.prog fn apart fresh handsOn again W args v W') :
  ReturnsInHanded a C os f .any (fun w args=>(s.pre enc C.prog fn conds apart w args∧X w args)∧sizedMet enc C.prog fn (OpenSpec.ofChange s) apart w args) (s.post enc C.prog fn apart fresh handsOn again):=by
 refine returnsInHanded_of_calls own started c witness ?_;intro w tape i _ n _ o h d;obtain⟨_,_,_,p,k,_,_,_,_,l⟩:=o;have e:p=fn:=qv (k.symm.trans m);subst e;obtain⟨⟨⟨g,gs,before,hw,u⟩,x⟩,y⟩:=h;have q:=DataW.Whole.of_heap (w':=w.forCall tape i) (by rfl) hw;refine (b (w.forCall tape i) w.heap.size i.args g gs before l q u (y.weights hw) (r _ _ _ (by rfl) x) n d).mono fun e W' ⟨v,he,z⟩=>?_
 subst he;exact ChangeSpec.post_blind z
end
noncomputable def jJ:List (String×DataW Unit):=[("unicode/utf8.acceptRanges",Rows.laid_unicode_utf8_acceptRanges),("io.EOF",Rows.laid_io_EOF),("unicode.White_Space",Rows.laid_unicode_White_Space),("bytes.ErrTooLarge",Rows.laid_bytes_ErrTooLarge),("strings.asciiSpace",Rows.laid_strings_asciiSpace),("unicode/utf8.first",Rows.laid_unicode_utf8_first)]
theorem um{w:J}(h:laidMetH va jJ w):aI w:=by
 have a:laidMetH va [("strings.asciiSpace",Lib.tabData r8 Lib.asciiSpaceTab)] w:=by
  have b:=h.filter (fun x=>x.1 == "strings.asciiSpace");have e:jJ.filter (fun x=>x.1 == "strings.asciiSpace")=[("strings.asciiSpace",Lib.tabData r8 Lib.asciiSpaceTab)]:=by kernel_rfl
  rw[e]at b;exact b
 rw[MakeChecks.laidMetH_plain _ _ _ (by kernel_rfl)]at a;have f:Lib.TabIs va w "strings.asciiSpace" r8 Lib.asciiSpaceTab:=Lib.tabIs_of_head Fo (t:=302) (by kernel_rfl) Tryz.underlying302 Tryz.underlying5 (by kernel_rfl) (by kernel_rfl) a;intro c d;have:=f.cell Fo c (by rw[Lib.asciiSpaceTab_length];exact d);rw[Lib.asciiSpaceTab_at c d]at this;exact this
theorem Do(os:Os)(args:Array tS):laidMetH va jJ ((World.laidAll va os jJ).forCall (fun _ _=>0) ⟨#[],args,[]⟩).memory:=by
 rw[MakeChecks.laidMetH_plain _ _ _ (by kernel_rfl)];exact laidMet_laidAll _ (by kernel_rfl) (by kernel_rfl)
theorem zg(os:Os)(args:Array tS):((World.laidAll va os jJ).forCall (fun _ _=>0) ⟨#[],args,[]⟩).Shaped Tryz.prog:=World.shaped_of_ZipB (by kernel_rfl) (by kernel_rfl)
theorem open_bytes{H:Type}{enc:xD×tS→H}{w:J}{sp:Nat→Bool}{D:Bool}{r:Reach}{base:Nat}{v:tS}{d:DataW H}{E:List MemPlace}(f:Value.okWide va w r base 29 v)(h:DataW.Trod enc va w 0 sp D 29 v d E) :
  ∃l:List UInt8,Lib.HoldsBytes w v l∧l.length≤maxLen:=by
 obtain⟨fuel,F⟩:=h;obtain⟨p,n,c,rfl⟩:=okWide_slice Tryz.underlying29 f;rcases open_ints Tryz.underlying29 Tryz.underlying5 (by kernel_rfl) F with ⟨e,_⟩|⟨a,len,cap,j,e,_,G,K,hlen,_,k,m⟩
 ·have e:[O p n c]=[O Y 0 0]:=e;injection e with e _
  injection e with o q s
  subst o q s;exact⟨[],⟨Y,0,Z,fun _=>rfl,fun a L=>by cases L⟩,J0 _⟩
 ·have e:[O p n c]=[O (A a) len cap]:=e;injection e with e _
  injection e with o q s
  subst o q s;have t:n≤j.length:=by rw[hlen];split<;>omega
  refine⟨(j.take n).map fun z=>UInt8.ofNat z.toNat,⟨A a,c,?_,fun h=>(by cases h),fun b u i x B=>?_⟩,?_⟩
  ·rw[List.length_map,List.length_take,Nat.min_eq_left t]
  ·injection u with u
   subst u;rw[List.getElem?_map]at B;obtain⟨z,y,rfl⟩:=o7.1 B;have hi:i<n:=by
    have:=(J3.1 y).1;rw[List.length_take]at this;omega
   have g:j[i]?=A z:=by rw[List.getElem?_take]at y;rwa [oj hi]at y
   have C:=k i (by omega);rw[List.getD_eq_getElem?_getD,g]at C;rw[C];have hw:=m z (J8 g);unfold Lit.wf at hw;rw[J4]at hw;have e:0≤z:=o1 hw.1;have N:z≤255:=o1 hw.2;have M:(UInt8.ofNat z.toNat).toNat=z.toNat:=by rw[UInt8.toNat_ofNat'];omega
   show A (I r8 z)=A (I r8 ((UInt8.ofNat z.toNat).toNat:Int))
   rw[M,Int.toNat_of_nonneg e]
  ·rw[List.length_map,List.length_take];omega
