/- Parts of one proof, joined; conditions stand in each theorem. -/
import Derived.Test.YtoonjedifockoaaGreatDoorMRI
import Derived.ArgAppend
import Derived.Deep.MidRow
namespace Go.Proofs.YtoonjedifockoaaGreatDoor.RE
open Go.IntKind(i64)
open Go.Value(int string slice)
open Go.RowKit
theorem ir{P:Program}{w w':World}{f:FuncId}{xs:Array Value}{α:Type}(s:Sem α)(g:α→Value):(s >>= fun v=>(pure (Next.value (g v)):Sem Next)).run P w≠.ok (.enter f xs) w':=by
 rw[oE]
 cases s.run P w with
 | ok v w1=>simp[Result.andThen,Sem.run_pure]
 | halt h w1=>simp[Result.andThen]
theorem Bt{P:Program}{w w':World}{f:FuncId}{xs:Array Value}(b:Operand→Value)(x:Operand)(d:Option Tmp)(ty:TypeId)(pos:String)(c:Array Edge)(g:Option (Nat×Bool)):(execOp b ⟨d,.nilCheck x,ty,pos,c,g⟩).run P w≠.ok (.enter f xs) w':=by
 simp only[execOp]
 (repeat' split)<;>first
  | (simp[runtimePanic,Sem.run_pure,go_sem];done)
  | skip
 rw[oE]
 cases (program).run P w with
 | halt h w1=>simp[Result.andThen]
 | ok p w1 =>
  simp only[Result.andThen];rw[oE]
  rename_i t y _
  cases (nilAhead (p.types.size+Made.depth) _ _ _).run P w1 with
  | halt h w1=>simp[Result.andThen]
  | ok p w1 =>
   simp only[Result.andThen]
   split
   ·rw[oE]
    cases (unsupported _:Sem Unit).run P w1 with
    | halt h w1=>simp[Result.andThen]
    | ok p w1=>simp[Result.andThen,Sem.run_pure]
   ·simp[Sem.run_pure]
def sO:Op→Bool
 | .move _ | .assign _ | .load .. | .binOp .. | .unOp .. | .convert .. | .sliceToArrayPointer .. | .makeInterface .. | .makeFunc .. | .slice .. | .fieldAddr .. | .field .. | .indexAddr .. | .index .. | .lookup .. | .extract .. | .build .. | .typeAssert .. | .pick .. | .nilCheck _=>true
 | .call { callee:=.builtin .len,.. } | .call { callee:=.builtin .max,.. } | .call { callee:=.builtin .min,.. } | .call { callee:=.builtin .cap,.. }=>true
 | _=>false
theorem pK{P:Program}{w w':World}{f:FuncId}{xs:Array Value}(d:Operand→Value)(o:Oper)(h:sO o.op=true):(execOp d o).run P w≠.ok (.enter f xs) w':=by
 obtain⟨dst,op,type,pos,after,guard⟩:=o
 cases op<;>first
  | (simp only[sO]at h;cases h;done)
  | (exact ir _ id)
  | (exact ir _ _)
  | (simp[execOp,Sem.run_pure];done)
  | exact Bt d _ _ _ _ _ _
  | skip
 case call c =>
  obtain⟨callee,args,e⟩:=c
  cases callee with
  | value f=>cases h
  | invoke r m=>cases h
  | builtin b =>
   cases b<;>first
    | (cases h;done)
    | (exact ir (Builtin.len_ _ _ _) id)
    | (exact ir (Builtin.max_ _ _ _) id)
    | (exact ir (Builtin.min_ _ _ _) id)
    | (exact ir (Builtin.cap_ _ _ _) id)
def aN(l:List Oper):Nat→Nat→Nat→Bool
 | 0,_,_=>false
 | f+1,j,i=>match l[j]? with
  | some o=>o.after.any fun e=>Region.binds .any e&&(decide (e.on=i)||aN l f e.on i)
  | none=>false
def Closed(l:List Oper) (listed:Array Bool):Prop:=∀(i:Nat) (o:Oper),l[i]?=some o→listed.getD i false=true→∀e∈o.after,Region.binds .any e=true→listed.getD e.on false=true
theorem dt{l:List Oper}{listed:Array Bool}(n:Closed l listed):∀(f j i:Nat) (o:Oper),l[j]?=some o→(∀e∈o.after,Region.binds .any e=true→listed.getD e.on false=true)→aN l f j i=true→listed.getD i false=true:=by
 intro f
 induction f with
 | zero=>intro j i o _ _ h;cases h
 | succ f p =>
  intro j i o q r h;unfold aN at h;rw[q]at h;obtain⟨e,he,d⟩:=Array.any_eq_true'.1 h;simp only[EQ,Bool.or_eq_true,oe]at d;have g:=r e he d.1;rcases d.2 with b|b
  ·rw[←b];exact g
  ·cases f with
   | zero=>cases b
   | succ f =>
    cases c:l[e.on]? with
    | none=>unfold aN at b;rw[c]at b;cases b
    | some k=>exact p e.on i k c (n e.on k c g) b
theorem fg{listed:Array Bool}{i:Nat}(h:i<listed.size):(listed.setIfInBounds i true).getD i false=true:=by simp[h]
theorem bg{listed:Array Bool}{i j:Nat}(h:i≠j):(listed.setIfInBounds i true).getD j false=listed.getD j false:=by simp[h]
theorem gv{n i:Nat}:(Array.replicate n false).getD i false=false:=by
 by_cases h:i<n
 ·simp[h]
 ·simp[h]
def tidy(l:List Oper) (m:Nat) (es cs:List Nat):Bool:=
 Region.lexB .any l.toArray&&decide (m≤l.length)&&((List.range l.length).all fun i=>match l[i]? with
  | none=>true
  | some o=>o.after.all (fun e=>!Region.binds .any e||decide (e.on<i))&&(decide (i<m)||(List.range i).all fun k=>aN l l.length i k)) &&
 cs.all (fun i=>decide (i<m)&&es.contains i&&cs.all fun k=>decide (i≤k)||aN l l.length i k)
section
variable {P:Program} {l:List Oper} {m:Nat} {es cs:List Nat} {w0:World} {S:Nat→World→Prop} {R:World→World→Prop} {vf:Nat→List Value→Value} {φ:Nat→World→List Value→Prop}
def upto(cs:List Nat) (i:Nat):Nat:=(cs.filter (fun k=>decide (k<i))).length
def lim(l:List Oper) (cs:List Nat) (i:Nat):Nat:=(cs.filter (fun c=>!aN l l.length c i)).length
def Cl(l:List Oper) (cs:List Nat) (S:Nat→World→Prop) (i:Nat) (W:World):Prop:=∃s,s≤lim l cs i∧S s W
def ups(E:Nat→Option (List Value)) (i:Nat) (xs:List Value):Nat→Option (List Value):=fun k=>if k=i then some xs else E k
def Upon(P:Program) (o:Oper) (a:Act) (W:World) (G:Value→World→Prop):Prop:=
 match (execOp a.eval o).run P W with
 | .ok (.value v) W'=>G v W'
 | .ok .skip W'=>G undef W'
 | .ok (.enter f args) W'=>Calls P f args W' (fun e b=>∃v,e=.returned v∧G v b)
 | _=>False
theorem Upon.wp{o:Oper}{a:Act}{W:World}{G:Value→World→Prop}{K:Act→World→Prop}{Q:Exit→Act→World→Prop}(h:Upon P o a W G)(b:∀v W',G v W'→K (a.put o.dst v) W'):o.wp P a W K Q:=by
 unfold Upon at h;unfold Oper.wp;generalize (execOp a.eval o).run P W=r at *
 cases r with
 | ok n w' =>
  cases n<;>simp only[Oper.upon]at h ⊢
  case value u=>exact b _ _ h
  case skip=>exact b _ _ h
  case enter f args=>exact h.mono fun e c ⟨v,he,d⟩=>by subst he;exact b _ _ d
 | halt x w'=>exact h.elim
def Ob(P:Program) (l:List Oper) (cs:List Nat) (S:Nat→World→Prop) (R:World→World→Prop) (vf:Nat→List Value→Value) (φ:Nat→World→List Value→Prop) (i:Nat) (o:Oper) (a:Act) (E:Nat→Option (List Value)):Prop:=
 ∀W:World,Cl l cs S i W→(cs.contains i=true→S (upto cs i) W)→(∀k xs,aN l l.length i k=true→E k=some xs→φ k W xs)→
  Upon P o a W (fun v W'=>∃xs,v=vf i xs∧(if cs.contains i=true then S (upto cs (i+1)) W' else Ft W W')∧R W W'∧φ i W' xs)
def eV(P:Program) (w0:World) (o:Oper) (a:Act):Value:=match (execOp a.eval o).run P w0 with | .ok (.value v) _=>v|_=>undef
def nt(P:Program) (C:World→Prop) (w0:World) (o:Oper) (a:Act):Prop:=∀w,C w→(execOp a.eval o).run P w=.ok (.value (eV P w0 o a)) w∨((execOp a.eval o).run P w=.ok .skip w∧eV P w0 o a=undef)
def pre(P:Program) (l:List Oper) (es cs:List Nat) (w0:World) (S:Nat→World→Prop) (R:World→World→Prop) (vf:Nat→List Value→Value) (φ:Nat→World→List Value→Prop) (i:Nat) (o:Oper) (a:Act) (E:Nat→Option (List Value)):Prop:=
 if Region.wanted o (yielded l.toArray a.tmps)=true then (if es.contains i=true then Ob P l cs S R vf φ i o a E else nt P (Cl l cs S i) w0 o a)
 else ∀W,cs.contains i=true→S (upto cs i) W→S (upto cs (i+1)) W
def val(P:Program) (l:List Oper) (es:List Nat) (w0:World) (vf:Nat→List Value→Value) (i:Nat) (o:Oper) (a:Act) (xs:List Value):Value:=
 if Region.wanted o (yielded l.toArray a.tmps)=true then (if es.contains i=true then vf i xs else eV P w0 o a) else undef
def env(l:List Oper) (es:List Nat) (i:Nat) (o:Oper) (a:Act) (E:Nat→Option (List Value)) (xs:List Value):Nat→Option (List Value):=
 if Region.wanted o (yielded l.toArray a.tmps)=true then (if es.contains i=true then ups E i xs else E) else E
def bW(P:Program) (l:List Oper) (es cs:List Nat) (w0:World) (S:Nat→World→Prop) (R:World→World→Prop) (vf:Nat→List Value→Value) (φ:Nat→World→List Value→Prop) (i:Nat) (o:Oper) (K:Act→(Nat→Option (List Value))→Prop) (a:Act) (E:Nat→Option (List Value)):Prop:=
 pre P l es cs w0 S R vf φ i o a E∧∀xs,K (a.put o.dst (val P l es w0 vf i o a xs)) (env l es i o a E xs)
def wpE(P:Program) (l:List Oper) (es cs:List Nat) (w0:World) (S:Nat→World→Prop) (R:World→World→Prop) (vf:Nat→List Value→Value) (φ:Nat→World→List Value→Prop) (Q:Act→(Nat→Option (List Value))→Prop):Nat→List Oper→Act→(Nat→Option (List Value))→Prop
 | _,[],a,E=>Q a E
 | i,o::rest,a,E=>bW P l es cs w0 S R vf φ i o (wpE P l es cs w0 S R vf φ Q (i+1) rest) a E
def dE(l:List Oper) (m:Nat) (listed:Array Bool):List Nat:=(Region.ready .any l.toArray listed).filter (fun i=>decide (i<m))
def lm(P:Program) (l:List Oper) (es cs:List Nat) (w0:World) (S:Nat→World→Prop) (R:World→World→Prop) (vf:Nat→List Value→Value) (φ:Nat→World→List Value→Prop) (i:Nat) (K:Act→(Nat→Option (List Value))→Prop) (a:Act) (E:Nat→Option (List Value)):Prop:=
 match l[i]? with
 | none=>K a E
 | some o=>bW P l es cs w0 S R vf φ i o K a E
def dZ(P:Program) (l:List Oper) (m:Nat) (es cs:List Nat) (w0:World) (S:Nat→World→Prop) (R:World→World→Prop) (vf:Nat→List Value→Value) (φ:Nat→World→List Value→Prop) (Q:Act→(Nat→Option (List Value))→Prop):Nat→Array Bool→Act→(Nat→Option (List Value))→Prop
 | 0,listed,a,E=>dE l m listed=[]∧Q a E
 | fuel+1,listed,a,E=>(dE l m listed=[]→Q a E)∧∀i∈dE l m listed,lm P l es cs w0 S R vf φ i (dZ P l m es cs w0 S R vf φ Q fuel (listed.setIfInBounds i true)) a E
theorem xn{i j:Nat}{d c:Oper}(A:i≠j)(B:d.apart l.toArray c=true)(C:∀cs b,d.op≠.select cs b)(D:∀cs b,c.op≠.select cs b)(H:aN l l.length i j=false)(I:aN l l.length j i=false)
  {K:Act→(Nat→Option (List Value))→Prop} {a:Act} {E:Nat→Option (List Value)}
  (h:bW P l es cs w0 S R vf φ i d (bW P l es cs w0 S R vf φ j c K) a E):bW P l es cs w0 S R vf φ j c (bW P l es cs w0 S R vf φ i d K) a E:=by
 obtain⟨n,r,N⟩:=Oper.apart_spec B;have J:∀v,Region.wanted c (yielded l.toArray (a.put d.dst v).tmps)=Region.wanted c (yielded l.toArray a.tmps):=fun v=>wanted_put c a d.dst v n
 have L:∀v,Region.wanted d (yielded l.toArray (a.put c.dst v).tmps)=Region.wanted d (yielded l.toArray a.tmps):=fun v=>wanted_put d a c.dst v N
 have O:∀v,execOp (a.put d.dst v).eval c=execOp a.eval c:=fun v=>execOp_put c D a d.dst v n
 have T:∀v,execOp (a.put c.dst v).eval d=execOp a.eval d:=fun v=>execOp_put d C a c.dst v N
 have X:∀v xs,val P l es w0 vf j c (a.put d.dst v) xs=val P l es w0 vf j c a xs:=fun v xs=>by unfold val eV;rw[J,O]
 have Y:∀v xs,val P l es w0 vf i d (a.put c.dst v) xs=val P l es w0 vf i d a xs:=fun v xs=>by unfold val eV;rw[L,T]
 have obj:∀v F,(∀k,aN l l.length j k=true→F k=E k)→(pre P l es cs w0 S R vf φ j c (a.put d.dst v) F↔pre P l es cs w0 S R vf φ j c a E):=fun v F hF=>by
  unfold pre Ob Upon nt eV;rw[J,O];have:∀W,(∀k xs,aN l l.length j k=true→F k=some xs→φ k W xs)↔(∀k xs,aN l l.length j k=true→E k=some xs→φ k W xs):=fun W =>⟨fun h k xs g he=>h k xs g (by rw[hF k g];exact he),fun h k xs g he=>h k xs g (by rw[←hF k g];exact he)⟩
  simp only[this]
 have M:∀v F,(∀k,aN l l.length i k=true→F k=E k)→(pre P l es cs w0 S R vf φ i d (a.put c.dst v) F↔pre P l es cs w0 S R vf φ i d a E):=fun v F hF=>by
  unfold pre Ob Upon nt eV;rw[L,T];have:∀W,(∀k xs,aN l l.length i k=true→F k=some xs→φ k W xs)↔(∀k xs,aN l l.length i k=true→E k=some xs→φ k W xs):=fun W =>⟨fun h k xs g he=>h k xs g (by rw[hF k g];exact he),fun h k xs g he=>h k xs g (by rw[←hF k g];exact he)⟩
  simp only[this]
 have f:∀(q k:Nat) (xs:List Value),aN l l.length k q=false→∀z,aN l l.length k z=true→ups E q xs z=E z:=fun q k xs Z z s=>by unfold ups;rw[n8];rintro rfl;rw[Z]at s;cases s
 have t:∀xs k,aN l l.length j k=true→env l es i d a E xs k=E k:=fun xs k g=>by
  unfold env;split
  ·split
   ·exact f i j xs I k g
   ·rfl
  ·rfl
 have x:∀xs k,aN l l.length i k=true→env l es j c a E xs k=E k:=fun xs k g=>by
  unfold env;split
  ·split
   ·exact f j i xs H k g
   ·rfl
  ·rfl
 have y:∀v u xs p,env l es j c (a.put d.dst v) (env l es i d a E xs) p=env l es i d (a.put c.dst u) (env l es j c a E p) xs:=fun v u xs p=>by
  unfold env;rw[J,L];have hc:ups (ups E i xs) j p=ups (ups E j p) i xs:=by
   funext k;unfold ups
   by_cases n:k=j
   ·rw[n9 n,n8 (fun e=>A (e.symm.trans n)),n9 n]
   ·by_cases r:k=i
    ·rw[n8 n,n9 r,n9 r]
    ·rw[n8 n,n8 r,n8 r,n8 n]
  repeat' split
  all_goals first|rfl|exact hc
 obtain⟨p1,U⟩:=h;refine⟨(obj _ _ (t [])).1 (U []).1,fun p=>⟨(M _ _ (x p)).2 p1,fun xs=>?_⟩⟩;have V:=(U xs).2 p;rw[X,Act.put_comm a _ _ r,y _ (val P l es w0 vf j c a p)]at V;rw[Y];exact V
theorem fO{i:Nat}{o:Oper}{K b:Act→(Nat→Option (List Value))→Prop}(c:∀a E,K a E→b a E){a:Act}{E:Nat→Option (List Value)}(h:bW P l es cs w0 S R vf φ i o K a E):bW P l es cs w0 S R vf φ i o b a E:=⟨h.1,fun xs=>c _ _ (h.2 xs)⟩
theorem dX{i:Nat}{o:Oper}(b:l[i]?=some o){K:Act→(Nat→Option (List Value))→Prop}{a:Act}{E:Nat→Option (List Value)}:lm P l es cs w0 S R vf φ i K a E↔bW P l es cs w0 S R vf φ i o K a E:=by unfold lm;rw[b]
theorem aZ{listed:Array Bool}{i:Nat}:i∈dE l m listed↔i∈Region.ready .any l.toArray listed∧i<m:=by unfold dE;rw[List.mem_filter,oe]
theorem gI{listed:Array Bool}(s:Closed l listed)(t:listed.size=l.length)(n:∀(k:Nat)(o:Oper),l[k]?=some o→∀e∈o.after,Region.binds .any e=true→e.on<k){i:Nat}(u:i∈Region.ready .any l.toArray listed):Closed l (listed.setIfInBounds i true):=by
 obtain⟨v,o,x,d⟩:=mem_ready.1 u;have c:l[i]?=some o:=by simpa using x
 have y:i<l.length:=(EP.1 c).1;intro k ok b f e he p
 by_cases g:k=i
 ·subst g;rw[c]at b;injection b with b
  subst b;have q:=d e he p;have r:k≠e.on:=fun h=>by have:=n k _ c e he p;omega
  rw[bg r];exact q
 ·rw[bg (fun h=>g h.symm)]at f;have q:=s k ok b f e he p
  by_cases j:i=e.on
  ·rw[←j];exact fg (by omega)
  ·rw[bg j];exact q
theorem kJ{Q:Act→(Nat→Option (List Value))→Prop}{i:Nat}{U:Oper}(D:l[i]?=some U)(r:∀(j:Nat)(o:Oper) cs b,l.toArray[j]?=some o→o.op≠.select cs b)(W:∀(k:Nat)(o:Oper),l[k]?=some o→∀e∈o.after,Region.binds .any e=true→e.on<k) :
  ∀(fuel:Nat) (listed:Array Bool) (a:Act) (E:Nat→Option (List Value)),
   (∀j n,l.toArray[j]?=some n→j≠i→listed.getD j true=false→(∀e∈n.after,Region.binds .any e=true→e.on≠i)→U.apart l.toArray n=true)→
   listed.size=l.length→Closed l listed→i∈dE l m listed→
   lm P l es cs w0 S R vf φ i (dZ P l m es cs w0 S R vf φ Q fuel (listed.setIfInBounds i true)) a E→dZ P l m es cs w0 S R vf φ Q (fuel+1) listed a E:=by
 intro fuel
 induction fuel with
 | zero =>
  intro listed a E _ _ _ v H;refine⟨fun h=>(by rw[h]at v;cases v),fun j F=>?_⟩
  by_cases c:j=i
  ·subst c;exact H
  ·have V:=(((dX D).1 H).2 []).1;have:j∈dE l m (listed.setIfInBounds i true):=aZ.2 ⟨ready_mono (aZ.1 F).1 c,(aZ.1 F).2⟩;rw[V]at this
   cases this
 | succ fuel ih =>
  intro listed a E d I x v H;refine⟨fun h=>(by rw[h]at v;cases v),fun j F=>?_⟩
  by_cases c:j=i
  ·subst c;exact H
  ·have y:=(aZ.1 F).1;have J:=(aZ.1 v).1;have H':=(dX D).1 H;obtain⟨f,n,z,s⟩:=mem_ready.1 y;obtain⟨t,A,u,B⟩:=mem_ready.1 J;have K:A=U:=by rw[show l.toArray[i]?=some U by simpa using D]at u;injection u with h;exact h.symm
   subst K;have g:l[j]?=some n:=by simpa using z
   have C:∀q,listed.getD q true=false→listed.getD q false=false:=fun q h=>by
    rcases Nat.lt_or_ge q listed.size with X | X
    ·simp[X]at h ⊢;exact h
    ·simp[Fl X]at h
   have L:∀e∈n.after,Region.binds .any e=true→e.on≠i:=fun e he hb heq=>by
    have V:=s e he hb;rw[heq,C i t]at V;cases V
   have M:aN l l.length i j=false:=by
    cases Y:aN l l.length i j with
    | false=>rfl
    | true=>have:=dt x _ i j _ D B Y;rw[C j f]at this;cases this
   have N:aN l l.length j i=false:=by
    cases Y:aN l l.length j i with
    | false=>rfl
    | true=>have:=dt x _ j i _ g s Y;rw[C i t]at this;cases this
   have p:∀k ok,l.toArray[k]?=some ok→k≠i→(listed.setIfInBounds j true).getD k true=false→
     (∀e∈ok.after,Region.binds .any e=true→e.on≠i)→A.apart l.toArray ok=true:=fun k ok hk Z O ad=>by
    refine d k ok hk Z ?_ ad
    by_cases T:j=k
    ·subst T;exact f
    ·rw[getD_set_ne true T]at O;exact O
   have af:bW P l es cs w0 S R vf φ j n (bW P l es cs w0 S R vf φ i A (dZ P l m es cs w0 S R vf φ Q fuel ((listed.setIfInBounds i true).setIfInBounds j true))) a E:=by
    refine xn (fun e=>c e.symm) (d j n z c f L) (fun cs b=>r i _ cs b (by simpa using D)) (fun cs b=>r j n cs b z) M N ?_;refine fO (fun a' E' h3=>?_) H';have h4:=h3.2 j (aZ.2 ⟨ready_mono y c,(aZ.1 F).2⟩);exact (dX g).1 h4
   rw[dX g];refine fO (fun a' E' h3=>?_) af;refine ih (listed.setIfInBounds j true) a' E' p (by simpa using I) (gI x I W y) (aZ.2 ⟨ready_mono J (Ne.symm c),(aZ.1 v).2⟩) ?_;rw[dX D,Array.setIfInBounds_comm _ _ c];exact h3
theorem jw{Q:Act→(Nat→Option (List Value))→Prop}(x:Region.noSelect l.toArray=true)(c:∀(k:Nat)(o:Oper),l[k]?=some o→∀e∈o.after,Region.binds .any e=true→e.on<k):∀(r:List Oper) (k fuel:Nat) (listed:Array Bool) (a:Act) (E:Nat→Option (List Value)),(∀j,j<r.length→r[j]?=l[k+j]?)→k+r.length=m→r.length≤fuel→
  (∀i,i<k→listed.getD i false=true)→listed.size=l.length→Closed l listed→Region.lexFrom .any l.toArray fuel k listed=true→wpE P l es cs w0 S R vf φ Q k r a E→dZ P l m es cs w0 S R vf φ Q r.length listed a E
 | [],k,fuel,listed,a,E,_,b,_,d,_,_,_,h=>by
  refine⟨?_,h⟩;rw[List.eq_nil_iff_forall_not_mem];intro i y;obtain⟨A,J⟩:=aZ.1 y;have g:=(mem_ready.1 A).1;have u:=d i (by simp at b;omega);have:i<listed.size:=by
   rcases Nat.lt_or_ge i listed.size with h|h
   ·exact h
   ·simp[Fl h]at g
  simp[this]at g u;rw[g]at u;cases u
 | o::r,k,fuel,listed,a,E,z,b,n,d,f,p,hB,h=>by
  have t:l[k]?=some o:=by simpa using (z 0 (by simp)).symm
  obtain⟨fuel,rfl⟩:∃B,fuel=B+1:=⟨fuel-1,by simp at n;omega⟩;simp only[Region.lexFrom,EQ]at hB;obtain⟨⟨C,D⟩,v⟩:=hB;have q:k∈Region.ready .any l.toArray listed:=by simpa using C
  have F:k<l.length:=(EP.1 t).1;refine kJ t (Region.noSelect_spec x) c r.length listed a E (Region.free_spec (by simpa using t) D) f p (aZ.2 ⟨q,by simp at b;omega⟩) ?_;rw[dX t];refine fO (fun H I g=>?_) h;refine jw x c r (k+1) fuel _ H I (fun j K=>by have:=z (j+1) (by simp;omega);simpa [Nat.add_assoc,Nat.add_comm 1 j]using this) (by simp at b;omega) (by simp at n;omega) (fun i y=>?_) (by simpa using f) (gI p f c q) v g
  by_cases s:k=i
  ·subst s;exact fg (by omega)
  ·rw[bg s];exact d i (by omega)
theorem pU(h:tidy l m es cs=true):Region.noSelect l.toArray=true∧Region.lexFrom .any l.toArray l.length 0 (Array.replicate l.length false)=true∧m≤l.length∧
  (∀(k:Nat) (o:Oper),l[k]?=some o→∀e∈o.after,Region.binds .any e=true→e.on<k)∧(∀(i:Nat) (o:Oper),l[i]?=some o→m≤i→∀k,k<i→aN l l.length i k=true)∧
  (∀i∈cs,i<m∧es.contains i=true∧∀k∈cs,k<i→aN l l.length i k=true):=by
 unfold tidy at h;simp only[EQ,oe]at h;obtain⟨⟨⟨f,n⟩,p⟩,q⟩:=h;unfold Region.lexB at f;simp only[EQ]at f;have at_:∀(i:Nat) (o:Oper),l[i]?=some o→(∀e∈o.after,Region.binds .any e=true→e.on<i)∧(m≤i→∀k,k<i→aN l l.length i k=true):=fun i o c=>by
  have g:i<l.length:=(EP.1 c).1;have b:=Fe.1 p i (List.mem_range.2 g);rw[c]at b;simp only[EQ,Bool.or_eq_true,oe]at b;refine⟨fun e he r=>?_,fun hm k j=>?_⟩
  ·have:=Array.all_eq_true_iff_forall_mem.1 b.1 e he
   simpa [r]using this
  ·rcases b.2 with d|d
   ·omega
   ·exact Fe.1 d k (List.mem_range.2 j)
 refine⟨f.1,by simpa using f.2,n,fun k o c=>(at_ k o c).1,fun i o c hm=>(at_ i o c).2 hm,fun i g=>?_⟩;have b:=Fe.1 q i g;simp only[EQ,oe,Fe,Bool.or_eq_true]at b;refine⟨b.1.1,b.1.2,fun k j s=>?_⟩;rcases b.2 k j with d|d
 ·omega
 ·exact d
def done(cs:List Nat) (listed:Array Bool):Nat:=(cs.filter (fun k=>listed.getD k false)).length
theorem eJ{listed:Array Bool}{i:Nat}(h:i∈Region.ready .any l.toArray listed):listed.getD i false=false:=by
 have b:=(mem_ready.1 h).1;rcases Nat.lt_or_ge i listed.size with c | c
 ·simp[c]at b ⊢;exact b
 ·simp[Fl c]at b
theorem lL(b:∀(k:Nat)(o:Oper),l[k]?=some o→∀e∈o.after,Region.binds .any e=true→e.on<k){listed:Array Bool}(g:listed.size=l.length){n:Nat}(r:n≤l.length)(h:∀i∈Region.ready .any l.toArray listed,n≤i):∀i,i<n→listed.getD i false=true:=by
 intro i
 induction i using Nat.strongRecOn with
 | _ i j =>
  intro s
  cases d:listed.getD i false with
  | true=>rfl
  | false =>
   exfalso
   obtain⟨o,f⟩:∃o,l[i]?=some o:=⟨l[i]'(by omega),EE _⟩;have:i∈Region.ready .any l.toArray listed:=by
    refine mem_ready.2 ⟨?_,o,by simpa using f,fun e he p=>?_⟩
    ·have c:i<listed.size:=by omega
     simp[c]at d ⊢;exact d
    ·have q:=b i o f e he p;exact j e.on q (by omega)
   have:=h i this;omega
theorem gW(s:∀i∈cs,i<m∧es.contains i=true∧∀k∈cs,k<i→aN l l.length i k=true){listed:Array Bool}(d:Closed l listed){i:Nat}(v:listed.size=l.length)(t:i∈Region.ready .any l.toArray listed)(r:cs.contains i=true) :
  done cs listed=upto cs i∧done cs (listed.setIfInBounds i true)=upto cs (i+1):=by
 obtain⟨_,o,x,f⟩:=mem_ready.1 t;have g:l[i]?=some o:=by simpa using x
 have y:i<l.length:=(EP.1 g).1;have j:=eJ t;have c:i∈cs:=by simpa using r
 have key:∀k∈cs,listed.getD k false=decide (k<i):=fun k q=>by
  by_cases e:k<i
  ·rw[decide_eq_true e];exact dt d _ i k o g f ((s i c).2.2 k q e)
  ·rw[oc e]
   by_cases b:k=i
   ·subst b;exact j
   ·cases u:listed.getD k false with
    | false=>rfl
    | true =>
     have n:k<l.length:=by
      rcases Nat.lt_or_ge k listed.size with h|h
      ·omega
      ·simp[Fl h]at u
     obtain⟨ok,p⟩:∃o,l[k]?=some o:=⟨l[k]'n,EE n⟩;have:=dt d _ k i ok p (d k ok p u) ((s k q).2.2 i c (by omega));rw[j]at this;cases this
 refine⟨?_,?_⟩
 ·unfold done upto;rw[List.filter_congr key]
 ·unfold done upto;rw[List.filter_congr fun k q=>?_]
  by_cases b:i=k
  ·subst b;rw[fg (by omega)];simp
  ·rw[bg b,key k q]
   by_cases h:k<i
   ·simp[h];omega
   ·simp[h];omega
theorem gP{listed:Array Bool}{i:Nat}(b:cs.contains i=false):done cs (listed.setIfInBounds i true)=done cs listed:=by
 unfold done;rw[List.filter_congr fun k c=>?_];have:i≠k:=by rintro rfl;simp at b;exact b c
 exact bg this
theorem wH{listed:Array Bool}(d:Closed l listed){i:Nat}(j:listed.size=l.length)(k:i∈Region.ready .any l.toArray listed):done cs listed≤lim l cs i:=by
 unfold done lim;rw[←List.countP_eq_length_filter,←List.countP_eq_length_filter];refine List.countP_mono_left fun c p f=>?_
 have b:c<l.length:=by
  rcases Nat.lt_or_ge c listed.size with h|h
  ·omega
  ·simp[Fl h]at f
 obtain⟨g,e⟩:∃o,l[c]?=some o:=⟨l[c]'b,EE b⟩
 cases n:aN l l.length c i with
 | false=>rfl
 | true =>
  have:=dt d _ c i g e (d c g e f) n;rw[eJ k]at this;cases this
theorem lP(b:∀i∈cs,i<m∧es.contains i=true∧∀k∈cs,k<i→aN l l.length i k=true){listed:Array Bool}(h:∀i,i<m→listed.getD i false=true):done cs listed=cs.length:=by
 unfold done;rw[List.filter_eq_self.2 fun k c=>h k (b k c).1]
theorem wp_region_eff{id:Nat}{Q:Exit→Act→World→Prop}{a0:Act}(hm:P.follows .mixedOrders=true)(m:Nat)(es cs:List Nat)(S:Nat→World→Prop)(R:World→World→Prop)(vf:Nat→List Value→Value)(φ:Nat→World→List Value→Prop)
  (ht:tidy l m es cs=true)
  (av:∀i,es.contains i=true→cs.contains i=false→∀s W W',S s W→Ft W W'→S s W') (a1:∀k W W' xs,φ k W xs→(∃s,S s W)→R W W'→φ k W' xs)
  (a6:S 0 w0.drew)
  (h:wpE P l es cs w0.drew S R vf φ (fun a E=>∀W,S cs.length W→(∀k xs,E k=some xs→φ k W xs)→wpList P l.toArray Q (l.drop m) a W) 0 (l.take m) a0 (fun _=>none)) :
  (Code.region id l.toArray true).wp P Q a0 w0:=by
 obtain⟨t1,t2,t3,t4,t5,t6⟩:=pU ht;have hlen:(l.take m).length=m:=by rw[List.length_take];omega
 have D:=jw (m:=m) t1 t4 (l.take m) 0 l.length (Array.replicate l.length false) a0 (fun _=>none) (fun j hj=>by rw[List.getElem?_take,n9 (by omega),Nat.zero_add]) (by omega) (by omega) (fun i B=>by omega) (by simp) (fun i o _ hl=>by rw[gv]at hl;cases hl) t2 h;rw[hlen]at D;refine lU hm (fun listed a W=>Closed l listed∧∃j,m≤j∧j≤l.length∧(∀i,j≤i→listed.getD i false=false)∧((j=m∧(∃fuel E,dZ P l m es cs w0.drew S R vf φ (fun a E=>∀W,S cs.length W→(∀k xs,E k=some xs→φ k W xs)→wpList P l.toArray Q (l.drop m) a W) fuel listed a E∧S (done cs listed) W∧∀k xs,E k=some xs→φ k W xs))∨(m<j∧(∀i,i<j→listed.getD i false=true)∧wpList P l.toArray Q (l.drop j) a W))) ?_ ?_ ?_
 ·refine⟨fun i o _ hl=>(by rw[gv]at hl;cases hl),m,EA _,t3,fun i _=>gv,Or.inl ⟨rfl,m,_,D,?_,fun k xs h=>by cases h⟩⟩;have:done cs (Array.replicate l.length false)=0:=by
   unfold done;rw[List.filter_eq_nil_iff.2 fun k _=>by rw[gv];simp];rfl
  rw[this];exact a6
 ·intro listed a W i X Y B;obtain⟨p,j,a7,M,c,X⟩:=X;have d:listed.size=l.length:=by simpa using Y
  obtain⟨bl,o,ho,aq⟩:=mem_ready.1 B;have F:l[i]?=some o:=by simpa using ho
  have a8:i<l.length:=(EP.1 F).1;have T:=eJ B;have A:=gI p d t4 B;have hw:wpOp P l.toArray Q i=fun K a W=>if Region.wanted o (yielded l.toArray a.tmps)=true then o.wp P a W K Q∨(o.asks P a W∧LetsOut Q) else K (a.put o.dst undef) W:=by funext K a W;unfold wpOp;simp only[ho]
  rw[hw]
  show (if Region.wanted o (yielded l.toArray a.tmps)=true then _ else _)
  have n:m≤i→∀k,k<i→listed.getD k false=true:=fun H k hk=>dt p _ i k o F aq (t5 i o F H k hk)
  have I:∀(r:Nat),r=i→m≤r→(∀k,k<r→listed.getD k false=true)→(∀k,r≤k→listed.getD k false=false)→wpList P l.toArray Q (l.drop r) a W→
    (if Region.wanted o (yielded l.toArray a.tmps)=true then o.wp P a W (fun N W'=>Closed l (listed.setIfInBounds i true)∧∃j,m≤j∧j≤l.length∧(∀k,j≤k→(listed.setIfInBounds i true).getD k false=false)∧((j=m∧(∃fuel E,dZ P l m es cs w0.drew S R vf φ (fun a E=>∀W,S cs.length W→(∀k xs,E k=some xs→φ k W xs)→wpList P l.toArray Q (l.drop m) a W) fuel (listed.setIfInBounds i true) N E∧S (done cs (listed.setIfInBounds i true)) W'∧∀k xs,E k=some xs→φ k W' xs))∨(m<j∧(∀k,k<j→(listed.setIfInBounds i true).getD k false=true)∧wpList P l.toArray Q (l.drop j) N W'))) Q∨(o.asks P a W∧LetsOut Q)
     else Closed l (listed.setIfInBounds i true)∧∃j,m≤j∧j≤l.length∧(∀k,j≤k→(listed.setIfInBounds i true).getD k false=false)∧((j=m∧(∃fuel E,dZ P l m es cs w0.drew S R vf φ (fun a E=>∀W,S cs.length W→(∀k xs,E k=some xs→φ k W xs)→wpList P l.toArray Q (l.drop m) a W) fuel (listed.setIfInBounds i true) (a.put o.dst undef) E∧S (done cs (listed.setIfInBounds i true)) W∧∀k xs,E k=some xs→φ k W xs))∨(m<j∧(∀k,k<j→(listed.setIfInBounds i true).getD k false=true)∧wpList P l.toArray Q (l.drop j) (a.put o.dst undef) W))):=by
   intro r ba H b bb g;subst ba;rw[List.drop_eq_getElem_cons a8,show l[r]=o from (EP.1 F).2]at g;unfold wpList at g;have fin:∀N W',wpList P l.toArray Q (l.drop (r+1)) N W'→Closed l (listed.setIfInBounds r true)∧∃j,m≤j∧j≤l.length∧(∀k,j≤k→(listed.setIfInBounds r true).getD k false=false)∧((j=m∧(∃fuel E,dZ P l m es cs w0.drew S R vf φ (fun a E=>∀W,S cs.length W→(∀k xs,E k=some xs→φ k W xs)→wpList P l.toArray Q (l.drop m) a W) fuel (listed.setIfInBounds r true) N E∧S (done cs (listed.setIfInBounds r true)) W'∧∀k xs,E k=some xs→φ k W' xs))∨(m<j∧(∀k,k<j→(listed.setIfInBounds r true).getD k false=true)∧wpList P l.toArray Q (l.drop j) N W')):=by
    intro N W' h;refine⟨A,r+1,by omega,by omega,fun k hk=>?_,Or.inr ⟨by omega,fun k hk=>?_,h⟩⟩
    ·rw[bg (by omega)];exact bb k (by omega)
    ·by_cases ar:k=r
     ·subst ar;exact fg (by omega)
     ·rw[bg (fun e=>ar e.symm)];exact b k (by omega)
   by_cases t:Region.wanted o (yielded l.toArray a.tmps)=true
   ·rw[n9 t]at g ⊢;exact g.imp (Oper.wp_mono (fun N W' hq=>fin N W' hq)) (fun h=>h)
   ·rw[n8 t]at g ⊢;exact fin _ _ g
  rcases X with ⟨rfl,fuel,E,u,L,Z⟩|⟨bk,b,g⟩
  ·by_cases H:j≤i
   ·have ad:j=i:=by
     rcases Nat.lt_or_ge j i with h|h
     ·have x:=n H j h;rw[c j (EA _)]at x;cases x
     ·omega
    have b:∀k,k<j→listed.getD k false=true:=fun k hk=>n H k (by omega)
    refine I j ad (EA _) b c ?_;have af:dE l j listed=[]:=by
     rw[List.eq_nil_iff_forall_not_mem];intro q hq;obtain⟨x,h2⟩:=aZ.1 hq;have:=eJ x;rw[b q h2]at this;cases this
    have hQ:∀W,S cs.length W→(∀k xs,E k=some xs→φ k W xs)→wpList P l.toArray Q (l.drop j) a W:=by
     cases fuel with
     | zero=>exact u.2
     | succ fuel=>exact u.1 af
    exact hQ W (by rw[←lP t6 b];exact L) Z
   ·have bc:i<j:=by omega
    have J:∀k,j≤k→(listed.setIfInBounds i true).getD k false=false:=fun k hk=>by rw[bg (by omega)];exact c k hk
    have ak:i∈dE l j listed:=aZ.2 ⟨B,bc⟩;obtain⟨y,hf⟩:∃f',fuel=f'+1:=by
     cases fuel with
     | zero=>have:=u.1;rw[this]at ak;cases ak
     | succ f=>exact⟨f,rfl⟩
    subst hf;obtain⟨U,V⟩:=(dX F).1 (u.2 i ak);have hC:Cl l cs S i W:=⟨_,wH p d B,L⟩;unfold pre at U;unfold val env at V
    by_cases t:Region.wanted o (yielded l.toArray a.tmps)=true
    ·rw[n9 t]at U ⊢;simp only[t,oA]at V
     left
     cases O:es.contains i with
     | true =>
      simp only[O,oA]at U V;refine (U W hC (fun C=>by rw[←(gW t6 p d B C).1];exact L) (fun k xs _ he=>Z k xs he)).wp (fun v W' hg=>?_);obtain⟨xs,rfl,x,h2,h3⟩:=hg;refine⟨A,j,EA _,M,J,Or.inl ⟨rfl,y,_,V xs,?_,fun k ys he=>?_⟩⟩
      ·cases C:cs.contains i with
       | true=>simp only[C,oA]at x;rw[(gW t6 p d B C).2];exact x
       | false=>simp only[C,EW,oi]at x;rw[gP C];exact av i O C _ _ _ L x
      ·unfold ups at he
       by_cases an:k=i
       ·rw[n9 an]at he;injection he with he;subst he an;exact h3
       ·rw[n8 an]at he;exact a1 k W W' ys (Z k ys he) ⟨_,L⟩ h2
     | false =>
      simp only[O,EW,oi]at U V;have bd:cs.contains i=false:=by
       cases C:cs.contains i with
       | false=>rfl
       | true=>have:=(t6 i (by simpa using C)).2.1;rw[O]at this;cases this
      have fin:∀v,v=eV P w0.drew o a→Closed l (listed.setIfInBounds i true)∧∃z,j≤z∧z≤l.length∧(∀k,z≤k→(listed.setIfInBounds i true).getD k false=false)∧((z=j∧(∃fuel E,dZ P l j es cs w0.drew S R vf φ (fun a E=>∀W,S cs.length W→(∀k xs,E k=some xs→φ k W xs)→wpList P l.toArray Q (l.drop j) a W) fuel (listed.setIfInBounds i true) (a.put o.dst v) E∧S (done cs (listed.setIfInBounds i true)) W∧∀k xs,E k=some xs→φ k W xs))∨(j<z∧(∀k,k<z→(listed.setIfInBounds i true).getD k false=true)∧wpList P l.toArray Q (l.drop z) (a.put o.dst v) W)):=by
       rintro v rfl;exact⟨A,j,EA _,M,J,Or.inl ⟨rfl,y,E,V [],by rw[gP bd];exact L,Z⟩⟩
      unfold Oper.wp;rcases U W hC with h|⟨h,hv⟩
      ·rw[h,Oper.upon_value];exact fin _ rfl
      ·rw[h,Oper.upon_skip];exact fin _ hv.symm
    ·rw[n8 t]at U ⊢;simp only[t]at V;refine⟨A,j,EA _,M,J,Or.inl ⟨rfl,y,E,V [],?_,Z⟩⟩
     cases C:cs.contains i with
     | true =>
      obtain⟨d1,d2⟩:=gW t6 p d B C;rw[d2];exact U W C (by rw[←d1];exact L)
     | false=>rw[gP C];exact L
  ·have ad:j=i:=by
    rcases Nat.lt_trichotomy i j with h|h|h
    ·rw[b i h]at T;cases T
    ·exact h.symm
    ·have x:=n (by omega) j h;rw[c j (EA _)]at x;cases x
   exact I j ad (by omega) b c g
 ·intro listed a W X Y hr;obtain⟨p,j,a7,M,c,X⟩:=X;have d:listed.size=l.length:=by simpa using Y
  have b:=lL t4 d (EA l.length) (fun i B=>by rw[hr]at B;cases B);have hj:j=l.length:=by
   rcases Nat.lt_or_ge j l.length with h|h
   ·have x:=b j h;rw[c j (EA _)]at x;cases x
   ·omega
  rcases X with ⟨rfl,fuel,E,u,L,Z⟩|⟨_,_,g⟩
  ·have af:dE l j listed=[]:=by unfold dE;rw[hr];rfl
   have hQ:∀W,S cs.length W→(∀k xs,E k=some xs→φ k W xs)→wpList P l.toArray Q (l.drop j) a W:=by
    cases fuel with
    | zero=>exact u.2
    | succ fuel=>exact u.1 af
   have h:=hQ W (by rw[←lP t6 (fun i B=>b i (by omega))];exact L) Z;rw[List.drop_eq_nil_of_le (by omega)]at h;exact h
  ·rw[List.drop_eq_nil_of_le (by omega)]at g;exact g
section
variable {Q:Act→(Nat→Option (List Value))→Prop} {i:Nat} {o:Oper} {rest:List Oper} {a:Act} {E:Nat→Option (List Value)}
theorem wpE_read(C:World→Prop)(e:∀s W,s≤lim l cs i→S s W→C W)(j:sO o.op=true)(he:es.contains i=false)(d:cs.contains i=false)(k:S 0 w0)
  (h:wpQuiet P l.toArray C (fun p=>wpE P l es cs w0 S R vf φ Q (i+1) rest p E) [o] a):wpE P l es cs w0 S R vf φ Q i (o::rest) a E:=by
 unfold wpQuiet at h
 show bW P l es cs w0 S R vf φ i o _ a E
 unfold bW pre val env
 by_cases hw:Region.wanted o (yielded l.toArray a.tmps)=true
 ·rw[n9 hw]at h ⊢;simp only[hw,oA,he,EW,oi];obtain⟨v,q,t⟩:=h;have key:∀w,C w→(execOp a.eval o).run P w=.ok (.value v) w∨((execOp a.eval o).run P w=.ok .skip w∧v=undef):=fun w b=>by
   have c:=q w b;have y:∀f xs w',(execOp a.eval o).run P w≠.ok (.enter f xs) w':=fun f xs w'=>pK a.eval o j
   unfold Oper.quietAt at c;generalize (execOp a.eval o).run P w=r at *
   cases r with
   | ok n w' =>
    cases n<;>simp only[Oper.quietUpon]at c
    case value u=>obtain⟨rfl,rfl⟩:=c;exact Or.inl rfl
    case skip=>obtain⟨rfl,rfl⟩:=c;exact Or.inr ⟨rfl,rfl⟩
    case enter f args=>exact absurd rfl (y f args w')
   | halt x w'=>simp only[Oper.quietUpon]at c
  have g:eV P w0 o a=v:=by
   unfold eV;rcases key w0 (e 0 w0 (EM _) k) with h|⟨h,rfl⟩
   ·rw[h]
   ·rw[h]
  rw[g];refine⟨fun w b=>?_,fun _=>t⟩;rw[g];obtain⟨s,z,A⟩:=b;exact key w (e s w z A)
 ·rw[n8 hw]at h ⊢;simp only[hw];exact⟨fun W B=>absurd B (by rw[d];decide),fun _=>h⟩
theorem wpE_turn(hw:Region.wanted o (yielded l.toArray a.tmps)=true)(he:es.contains i=true)(b:Ob P l cs S R vf φ i o a E)(h:∀xs,wpE P l es cs w0 S R vf φ Q (i+1) rest (a.put o.dst (vf i xs)) (ups E i xs)) :
  wpE P l es cs w0 S R vf φ Q i (o::rest) a E:=by
 show bW P l es cs w0 S R vf φ i o _ a E
 unfold bW pre val env;simp only[hw,oA,he];exact⟨b,h⟩
theorem wpE_off(hw:Region.wanted o (yielded l.toArray a.tmps)=false)(b:∀W,cs.contains i=true→S (upto cs i) W→S (upto cs (i+1)) W)(h:wpE P l es cs w0 S R vf φ Q (i+1) rest (a.put o.dst undef) E) :
  wpE P l es cs w0 S R vf φ Q i (o::rest) a E:=by
 show bW P l es cs w0 S R vf φ i o _ a E
 unfold bW pre val env;simp only[hw,EW,oi];exact⟨b,fun _=>h⟩
theorem wpE_nil(h:Q a E):wpE P l es cs w0 S R vf φ Q i [] a E:=h
end
end
end Go.Proofs.YtoonjedifockoaaGreatDoor.RE
namespace Go.Proofs.YtoonjedifockoaaGreatDoor.RE
open Go.RowKit
def Two(a b:World):={W:World // W=a∨W=b}
instance (a b:World):Nonempty (Two a b):=⟨⟨a,Or.inl rfl⟩⟩
def CN(a b W:World):Prop:=∃x:Two a b,W=x.1
theorem Two.cell{a b:World}{p:Addr}{v:Value}(c:a.cell? p=some v)(d:b.cell? p=some v)(x:Two a b):x.1.cell? p=some v:=by
 obtain⟨W,rfl|rfl⟩:=x
 ·exact c
 ·exact d
theorem qk{a b:World}:CN a b a:=⟨⟨a,Or.inl rfl⟩,rfl⟩
theorem wu{a b:World}:CN a b b:=⟨⟨b,Or.inr rfl⟩,rfl⟩
theorem two_class{a b:World}{n:Nat}:∀s W,s≤n→(if s=0 then W=a else W=b)→∃x:Two a b,W=x.1:=fun s W _ h=>by
 split at h
 ·rw[h];exact qk
 ·rw[h];exact wu
theorem one_class{a b:World}{n:Nat}(c:n=0):∀s W,s≤n→(if s=0 then W=a else W=b)→∃x:Two a a,W=x.1:=fun s W d h=>by
 rw[n9 (by omega)]at h;rw[h];exact qk
def natOf(xs:List Value):Nat:=match xs.getD 0 undef with | .int _ g=>g.toNat|_=>0
def Gr(w:World) (Q:Nat):={W:World // w.grownBy W (some Q)}
instance (w:World) (Q:Nat):Nonempty (Gr w Q):=⟨⟨w,World.grownBy.refl w _⟩⟩
theorem Gr.cell{w:World}{Q:Nat}(x:Gr w Q){p:Addr}{v:Value}(h:w.cell? p=some v)(b:p.block≠Q):x.1.cell? p=some v:=by
 have c:=x.2.block p.block (World.block_lt_of_cell? w p h) (by rintro e;injection e with e;exact b e)
 have e:x.1.cell? p=w.cell? p:=by unfold World.cell?;rw[c]
 rw[e];exact h
section
variable {P:Program} {o:Oper} {a:Act} {w:World} {G:Value→World→Prop}
theorem Upon.mono{c:Value→World→Prop}(h:∀v w',G v w'→c v w')(b:Upon P o a w G):Upon P o a w c:=by
 unfold Upon at *;generalize (execOp a.eval o).run P w=r at *
 cases r with
 | ok n w' =>
  cases n<;>simp only at b ⊢
  case value u=>exact h _ _ b
  case skip=>exact h _ _ b
  case enter f args=>exact b.mono fun e d ⟨v,he,g⟩=>⟨v,he,h _ _ g⟩
 | halt x w'=>exact b.elim
theorem Upon.told{v:Value}{w':World}(h:Upon P o a w (fun u x=>u=v∧x=w'))(b:G v w'):Upon P o a w G:=h.mono fun _ _ ⟨c,d⟩=>by rw[c,d];exact b
theorem upon_run{v:Value}{w':World}(h:(execOp a.eval o).run P w=.ok (.value v) w')(b:G v w'):Upon P o a w G:=by unfold Upon;rw[h];exact b
theorem upon_skip{w':World}(h:(execOp a.eval o).run P w=.ok .skip w')(b:G undef w'):Upon P o a w G:=by unfold Upon;rw[h];exact b
theorem upon_enter{f:FuncId}{vs:Array Value}(h:(execOp a.eval o).run P w=.ok (.enter f vs) w)(b:Calls P f vs w (fun e w'=>∃v,e=.returned v∧G v w')):Upon P o a w G:=by unfold Upon;rw[h];exact b
theorem upon_call(f:FuncId)(args:Array Operand)(c:Array TypeId)(d:o.op=.call { callee:=.value (.func f),args:=args,argTypes:=c })(b:∀(xs:Array Value)(w:World),(callFunc f xs).run P w=.ok (.enter f xs) w)
  (vs:Array Value) (g:args.map a.eval=vs) (h:Calls P f vs w (fun e w'=>∃v,e=.returned v∧G v w')):Upon P o a w G:=by
 refine upon_enter (f:=f) (vs:=vs) ?_ h;have he:=b vs w;have j:a.eval (.func f)=.func (.func f) #[] #[]:=rfl;simp[execOp,d,resolve,Deferred.ofValue,j,g,invoke,he]
theorem run_store_agg(ty:TypeId)(x y:Operand)(c:o.op=.store ty x y)(b off:Nat)(cells:Array Value)(d:a.eval x=.pointer (some ⟨b,off,none⟩))(e:a.eval y=.agg cells)
  (f:w.there b off cells.size) (g:(P.info? ty).map (·.size)=some cells.size) (h:cells.all (·.oneCell')=true):(execOp a.eval o).run P w=.ok .skip (w.setCells b off cells.toList):=by
 unfold execOp;simp only[c,d,e,Instr.storeAt,Instr.sureAddr,oE,oF,Result.andThen_ok,run_storeVar_mid w b off ty cells f g h]
end
end Go.Proofs.YtoonjedifockoaaGreatDoor.RE
