/- Parts of one proof, joined; conditions stand in each theorem. -/
import Derived.Test.YtoahnjkclckodaaGreatDoorMRI
import Derived.ArgAppend
import Derived.Deep.MidRow
open Go renaming World→J,Value→tS,Oper→xV,undef→xk
open Bool renaming true→tT,false→ur
open Option renaming some→A
open Go.Region renaming wanted→AR
open Or renaming inl→wD,inr→wF
namespace Go.Proofs.YtoahnjkclckodaaGreatDoor.RE
open Go.RowKit
theorem jz{P:Program}{w w':J}{f:FuncId}{xs:Array tS}{α:Type}(s:Sem α)(g:α→tS):(s >>= fun v=>(pure (Next.value (g v)):Sem Next)).run P w≠.ok (.enter f xs) w':=by
 rw[pb]
 cases s.run P w with
 | ok v w1=>simp[Result.andThen,Sem.run_pure]
 | halt h w1=>simp[Result.andThen]
theorem FS{P:Program}{w w':J}{f:FuncId}{xs:Array tS}(b:Operand→tS)(x:Operand)(d:Option Tmp)(ty:TypeId)(pos:String)(c:Array Edge)(g:Option (Nat×Bool)):(execOp b ⟨d,.nilCheck x,ty,pos,c,g⟩).run P w≠.ok (.enter f xs) w':=by
 simp only[execOp]
 (repeat' split)<;>first
  | (simp[runtimePanic,Sem.run_pure,go_sem];done)
  | skip
 rw[pb]
 cases (program).run P w with
 | halt h w1=>simp[Result.andThen]
 | ok p w1 =>
  simp only[Result.andThen];rw[pb]
  rename_i t y _
  cases (nilAhead (p.types.size+Made.depth) _ _ _).run P w1 with
  | halt h w1=>simp[Result.andThen]
  | ok p w1 =>
   simp only[Result.andThen]
   split
   ·rw[pb]
    cases (unsupported _:Sem Unit).run P w1 with
    | halt h w1=>simp[Result.andThen]
    | ok p w1=>simp[Result.andThen,Sem.run_pure]
   ·simp[Sem.run_pure]
def wO:Op→Bool
 | .move _ | .assign _ | .load .. | .binOp .. | .unOp .. | .convert .. | .sliceToArrayPointer .. | .makeInterface .. | .makeFunc .. | .slice .. | .fieldAddr .. | .field .. | .indexAddr .. | .index .. | .lookup .. | .extract .. | .build .. | .typeAssert .. | .pick .. | .nilCheck _=>tT
 | .call { callee:=.builtin .len,.. } | .call { callee:=.builtin .max,.. } | .call { callee:=.builtin .min,.. } | .call { callee:=.builtin .cap,.. }=>tT
 | _=>ur
theorem td{P:Program}{w w':J}{f:FuncId}{xs:Array tS}(d:Operand→tS)(o:xV)(h:wO o.op=tT):(execOp d o).run P w≠.ok (.enter f xs) w':=by
 obtain⟨dst,op,type,pos,after,guard⟩:=o
 cases op<;>first
  | (simp only[wO]at h;cases h;done)
  | (exact jz _ id)
  | (exact jz _ _)
  | (simp[execOp,Sem.run_pure];done)
  | exact FS d _ _ _ _ _ _
  | skip
 case call c =>
  obtain⟨callee,args,e⟩:=c
  cases callee with
  | value f=>cases h
  | invoke r m=>cases h
  | builtin b =>
   cases b<;>first
    | (cases h;done)
    | (exact jz (Builtin.len_ _ _ _) id)
    | (exact jz (Builtin.max_ _ _ _) id)
    | (exact jz (Builtin.min_ _ _ _) id)
    | (exact jz (Builtin.cap_ _ _ _) id)
def aN(l:List xV):Nat→Nat→Nat→Bool
 | 0,_,_=>ur
 | f+1,j,i=>match l[j]? with
  | some o=>o.after.any fun e=>Region.binds .any e&&(decide (e.on=i)||aN l f e.on i)
  | none=>ur
def Closed(l:List xV) (listed:Array Bool):Prop:=∀(i:Nat) (o:xV),l[i]?=A o→listed.getD i ur=tT→∀e∈o.after,Region.binds .any e=tT→listed.getD e.on ur=tT
theorem dQ{l:List xV}{listed:Array Bool}(n:Closed l listed):∀(f j i:Nat) (o:xV),l[j]?=A o→(∀e∈o.after,Region.binds .any e=tT→listed.getD e.on ur=tT)→aN l f j i=tT→listed.getD i ur=true:=by
 intro f
 induction f with
 | zero=>intro j i o _ _ h;cases h
 | succ f p =>
  intro j i o q r h;unfold aN at h;rw[q]at h;obtain⟨e,he,d⟩:=Array.any_eq_true'.1 h;simp only[J4,Bool.or_eq_true,oB]at d;have g:=r e he d.1;rcases d.2 with b|b
  ·rw[←b];exact g
  ·cases f with
   | zero=>cases b
   | succ f =>
    cases c:l[e.on]? with
    | none=>unfold aN at b;rw[c]at b;cases b
    | some k=>exact p e.on i k c (n e.on k c g) b
theorem gd{listed:Array Bool}{i:Nat}(h:i<listed.size):(listed.setIfInBounds i tT).getD i ur=true:=by simp[h]
theorem bp{listed:Array Bool}{i j:Nat}(h:i≠j):(listed.setIfInBounds i tT).getD j ur=listed.getD j false:=by simp[h]
theorem iM{n i:Nat}:(Array.replicate n ur).getD i ur=false:=by
 by_cases h:i<n
 ·simp[h]
 ·simp[h]
def tidy(l:List xV) (m:Nat) (es cs:List Nat):Bool:=
 Region.lexB .any l.toArray&&decide (m≤l.length)&&((List.range l.length).all fun i=>match l[i]? with
  | none=>tT
  | some o=>o.after.all (fun e=>!Region.binds .any e||decide (e.on<i))&&(decide (i<m)||(List.range i).all fun k=>aN l l.length i k)) &&
 cs.all (fun i=>decide (i<m)&&es.contains i&&cs.all fun k=>decide (i≤k)||aN l l.length i k)
section
variable {P:Program} {l:List xV} {m:Nat} {es cs:List Nat} {w0:J} {S:Nat→J→Prop} {R:J→J→Prop} {vf:Nat→List tS→tS} {φ:Nat→J→List tS→Prop}
def upto(cs:List Nat) (i:Nat):Nat:=(cs.filter (fun k=>decide (k<i))).length
def lim(l:List xV) (cs:List Nat) (i:Nat):Nat:=(cs.filter (fun c=>!aN l l.length c i)).length
def Cl(l:List xV) (cs:List Nat) (S:Nat→J→Prop) (i:Nat) (W:J):Prop:=∃s,s≤lim l cs i∧S s W
def ups(E:Nat→Option (List tS)) (i:Nat) (xs:List tS):Nat→Option (List tS):=fun k=>if k=i then A xs else E k
def Upon(P:Program) (o:xV) (a:Act) (W:J) (G:tS→J→Prop):Prop:=
 match (execOp a.eval o).run P W with
 | .ok (.value v) W'=>G v W'
 | .ok .skip W'=>G xk W'
 | .ok (.enter f args) W'=>Calls P f args W' (fun e b=>∃v,e=Ending.returned v∧G v b)
 | _=>False
theorem Upon.wp{o:xV}{a:Act}{W:J}{G:tS→J→Prop}{K:Act→J→Prop}{Q:Exit→Act→J→Prop}(h:Upon P o a W G)(b:∀v W',G v W'→K (a.put o.dst v) W'):o.wp P a W K Q:=by
 unfold Upon at h;unfold Oper.wp;generalize (execOp a.eval o).run P W=r at *
 cases r with
 | ok n w' =>
  cases n<;>simp only[Oper.upon]at h ⊢
  case value u=>exact b _ _ h
  case skip=>exact b _ _ h
  case enter f args=>exact h.mono fun e c ⟨v,he,d⟩=>by subst he;exact b _ _ d
 | halt x w'=>exact h.elim
def Ob(P:Program) (l:List xV) (cs:List Nat) (S:Nat→J→Prop) (R:J→J→Prop) (vf:Nat→List tS→tS) (φ:Nat→J→List tS→Prop) (i:Nat) (o:xV) (a:Act) (E:Nat→Option (List tS)):Prop:=
 ∀W:J,Cl l cs S i W→(cs.contains i=tT→S (upto cs i) W)→(∀k xs,aN l l.length i k=tT→E k=A xs→φ k W xs)→
  Upon P o a W (fun v W'=>∃xs,v=vf i xs∧(if cs.contains i=tT then S (upto cs (i+1)) W' else Kr W W')∧R W W'∧φ i W' xs)
def fY(P:Program) (w0:J) (o:xV) (a:Act):Value:=match (execOp a.eval o).run P w0 with | .ok (.value v) _=>v|_=>xk
def qI(P:Program) (C:J→Prop) (w0:J) (o:xV) (a:Act):Prop:=∀w,C w→(execOp a.eval o).run P w=.ok (.value (fY P w0 o a)) w∨((execOp a.eval o).run P w=.ok .skip w∧fY P w0 o a=xk)
def pre(P:Program) (l:List xV) (es cs:List Nat) (w0:J) (S:Nat→J→Prop) (R:J→J→Prop) (vf:Nat→List tS→tS) (φ:Nat→J→List tS→Prop) (i:Nat) (o:xV) (a:Act) (E:Nat→Option (List tS)):Prop:=
 if AR o (yielded l.toArray a.tmps)=tT then (if es.contains i=tT then Ob P l cs S R vf φ i o a E else qI P (Cl l cs S i) w0 o a)
 else ∀W,cs.contains i=tT→S (upto cs i) W→S (upto cs (i+1)) W
def val(P:Program) (l:List xV) (es:List Nat) (w0:J) (vf:Nat→List tS→tS) (i:Nat) (o:xV) (a:Act) (xs:List tS):Value:=
 if AR o (yielded l.toArray a.tmps)=tT then (if es.contains i=tT then vf i xs else fY P w0 o a) else xk
def env(l:List xV) (es:List Nat) (i:Nat) (o:xV) (a:Act) (E:Nat→Option (List tS)) (xs:List tS):Nat→Option (List tS):=
 if AR o (yielded l.toArray a.tmps)=tT then (if es.contains i=tT then ups E i xs else E) else E
def cw(P:Program) (l:List xV) (es cs:List Nat) (w0:J) (S:Nat→J→Prop) (R:J→J→Prop) (vf:Nat→List tS→tS) (φ:Nat→J→List tS→Prop) (i:Nat) (o:xV) (K:Act→(Nat→Option (List tS))→Prop) (a:Act) (E:Nat→Option (List tS)):Prop:=
 pre P l es cs w0 S R vf φ i o a E∧∀xs,K (a.put o.dst (val P l es w0 vf i o a xs)) (env l es i o a E xs)
def wpE(P:Program) (l:List xV) (es cs:List Nat) (w0:J) (S:Nat→J→Prop) (R:J→J→Prop) (vf:Nat→List tS→tS) (φ:Nat→J→List tS→Prop) (Q:Act→(Nat→Option (List tS))→Prop):Nat→List xV→Act→(Nat→Option (List tS))→Prop
 | _,[],a,E=>Q a E
 | i,o::rest,a,E=>cw P l es cs w0 S R vf φ i o (wpE P l es cs w0 S R vf φ Q (i+1) rest) a E
def ed(l:List xV) (m:Nat) (listed:Array Bool):List Nat:=(Region.ready .any l.toArray listed).filter (fun i=>decide (i<m))
def nN(P:Program) (l:List xV) (es cs:List Nat) (w0:J) (S:Nat→J→Prop) (R:J→J→Prop) (vf:Nat→List tS→tS) (φ:Nat→J→List tS→Prop) (i:Nat) (K:Act→(Nat→Option (List tS))→Prop) (a:Act) (E:Nat→Option (List tS)):Prop:=
 match l[i]? with
 | none=>K a E
 | some o=>cw P l es cs w0 S R vf φ i o K a E
def eN(P:Program) (l:List xV) (m:Nat) (es cs:List Nat) (w0:J) (S:Nat→J→Prop) (R:J→J→Prop) (vf:Nat→List tS→tS) (φ:Nat→J→List tS→Prop) (Q:Act→(Nat→Option (List tS))→Prop):Nat→Array Bool→Act→(Nat→Option (List tS))→Prop
 | 0,listed,a,E=>ed l m listed=[]∧Q a E
 | fuel+1,listed,a,E=>(ed l m listed=[]→Q a E)∧∀i∈ed l m listed,nN P l es cs w0 S R vf φ i (eN P l m es cs w0 S R vf φ Q fuel (listed.setIfInBounds i tT)) a E
theorem AU{i j:Nat}{d c:xV}(B:i≠j)(C:d.apart l.toArray c=tT)(D:∀cs b,d.op≠.select cs b)(H:∀cs b,c.op≠.select cs b)(L:aN l l.length i j=ur)(M:aN l l.length j i=ur)
  {K:Act→(Nat→Option (List tS))→Prop} {a:Act} {E:Nat→Option (List tS)}
  (h:cw P l es cs w0 S R vf φ i d (cw P l es cs w0 S R vf φ j c K) a E):cw P l es cs w0 S R vf φ j c (cw P l es cs w0 S R vf φ i d K) a E:=by
 obtain⟨n,r,X⟩:=Oper.apart_spec C;have N:∀v,AR c (yielded l.toArray (a.put d.dst v).tmps)=AR c (yielded l.toArray a.tmps):=fun v=>wanted_put c a d.dst v n
 have T:∀v,AR d (yielded l.toArray (a.put c.dst v).tmps)=AR d (yielded l.toArray a.tmps):=fun v=>wanted_put d a c.dst v X
 have xj:∀v,execOp (a.put d.dst v).eval c=execOp a.eval c:=fun v=>execOp_put c H a d.dst v n
 have xi:∀v,execOp (a.put c.dst v).eval d=execOp a.eval d:=fun v=>execOp_put d D a c.dst v X
 have vj:∀v xs,val P l es w0 vf j c (a.put d.dst v) xs=val P l es w0 vf j c a xs:=fun v xs=>by unfold val fY;rw[N,xj]
 have vi:∀v xs,val P l es w0 vf i d (a.put c.dst v) xs=val P l es w0 vf i d a xs:=fun v xs=>by unfold val fY;rw[T,xi]
 have obj:∀v F,(∀k,aN l l.length j k=tT→F k=E k)→(pre P l es cs w0 S R vf φ j c (a.put d.dst v) F↔pre P l es cs w0 S R vf φ j c a E):=fun v F hF=>by
  unfold pre Ob Upon qI fY;rw[N,xj];have:∀W,(∀k xs,aN l l.length j k=tT→F k=A xs→φ k W xs)↔(∀k xs,aN l l.length j k=tT→E k=A xs→φ k W xs):=fun W =>⟨fun h k xs g he=>h k xs g (by rw[hF k g];exact he),fun h k xs g he=>h k xs g (by rw[←hF k g];exact he)⟩
  simp only[this]
 have V:∀v F,(∀k,aN l l.length i k=tT→F k=E k)→(pre P l es cs w0 S R vf φ i d (a.put c.dst v) F↔pre P l es cs w0 S R vf φ i d a E):=fun v F hF=>by
  unfold pre Ob Upon qI fY;rw[T,xi];have:∀W,(∀k xs,aN l l.length i k=tT→F k=A xs→φ k W xs)↔(∀k xs,aN l l.length i k=tT→E k=A xs→φ k W xs):=fun W =>⟨fun h k xs g he=>h k xs g (by rw[hF k g];exact he),fun h k xs g he=>h k xs g (by rw[←hF k g];exact he)⟩
  simp only[this]
 have f:∀(q k:Nat) (xs:List tS),aN l l.length k q=ur→∀z,aN l l.length k z=tT→ups E q xs z=E z:=fun q k xs hr z s=>by unfold ups;rw[oe];rintro rfl;rw[hr]at s;cases s
 have t:∀xs k,aN l l.length j k=tT→env l es i d a E xs k=E k:=fun xs k g=>by
  unfold env;split
  ·split
   ·exact f i j xs M k g
   ·rfl
  ·rfl
 have x:∀xs k,aN l l.length i k=tT→env l es j c a E xs k=E k:=fun xs k g=>by
  unfold env;split
  ·split
   ·exact f j i xs L k g
   ·rfl
  ·rfl
 have y:∀v u xs p,env l es j c (a.put d.dst v) (env l es i d a E xs) p=env l es i d (a.put c.dst u) (env l es j c a E p) xs:=fun v u xs p=>by
  unfold env;rw[N,T];have hc:ups (ups E i xs) j p=ups (ups E j p) i xs:=by
   funext k;unfold ups
   by_cases n:k=j
   ·rw[oj n,oe (fun e=>B (e.symm.trans n)),oj n]
   ·by_cases r:k=i
    ·rw[oe n,oj r,oj r]
    ·rw[oe n,oe r,oe r,oe n]
  repeat' split
  all_goals first|rfl|exact hc
 obtain⟨p1,p2⟩:=h;refine⟨(obj _ _ (t [])).1 (p2 []).1,fun p=>⟨(V _ _ (x p)).2 p1,fun xs=>?_⟩⟩;have h4:=(p2 xs).2 p;rw[vj,Act.put_comm a _ _ r,y _ (val P l es w0 vf j c a p)]at h4;rw[vi];exact h4
theorem gU{i:Nat}{o:xV}{K b:Act→(Nat→Option (List tS))→Prop}(c:∀a E,K a E→b a E){a:Act}{E:Nat→Option (List tS)}(h:cw P l es cs w0 S R vf φ i o K a E):cw P l es cs w0 S R vf φ i o b a E:=⟨h.1,fun xs=>c _ _ (h.2 xs)⟩
theorem eL{i:Nat}{o:xV}(b:l[i]?=A o){K:Act→(Nat→Option (List tS))→Prop}{a:Act}{E:Nat→Option (List tS)}:nN P l es cs w0 S R vf φ i K a E↔cw P l es cs w0 S R vf φ i o K a E:=by unfold nN;rw[b]
theorem be{listed:Array Bool}{i:Nat}:i∈ed l m listed↔i∈Region.ready .any l.toArray listed∧i<m:=by unfold ed;rw[List.mem_filter,oB]
theorem iV{listed:Array Bool}(s:Closed l listed)(t:listed.size=l.length)(n:∀(k:Nat)(o:xV),l[k]?=A o→∀e∈o.after,Region.binds .any e=tT→e.on<k){i:Nat}(hi:i∈Region.ready .any l.toArray listed):Closed l (listed.setIfInBounds i tT):=by
 obtain⟨u,o,v,d⟩:=mem_ready.1 hi;have c:l[i]?=A o:=by simpa using v
 have x:i<l.length:=(J3.1 c).1;intro k ok b f e he p
 by_cases g:k=i
 ·subst g;rw[c]at b;injection b with b
  subst b;have q:=d e he p;have r:k≠e.on:=fun h=>by have:=n k _ c e he p;omega
  rw[bp r];exact q
 ·rw[bp (fun h=>g h.symm)]at f;have q:=s k ok b f e he p
  by_cases j:i=e.on
  ·rw[←j];exact gd (by omega)
  ·rw[bp j];exact q
theorem mF{Q:Act→(Nat→Option (List tS))→Prop}{i:Nat}{oi:xV}(hi:l[i]?=A oi)(r:∀(j:Nat)(o:xV) cs b,l.toArray[j]?=A o→o.op≠.select cs b)(ad:∀(k:Nat)(o:xV),l[k]?=A o→∀e∈o.after,Region.binds .any e=tT→e.on<k) :
  ∀(fuel:Nat) (listed:Array Bool) (a:Act) (E:Nat→Option (List tS)),
   (∀j n,l.toArray[j]?=A n→j≠i→listed.getD j tT=ur→(∀e∈n.after,Region.binds .any e=tT→e.on≠i)→oi.apart l.toArray n=tT)→
   listed.size=l.length→Closed l listed→i∈ed l m listed→
   nN P l es cs w0 S R vf φ i (eN P l m es cs w0 S R vf φ Q fuel (listed.setIfInBounds i tT)) a E→eN P l m es cs w0 S R vf φ Q (fuel+1) listed a E:=by
 intro fuel
 induction fuel with
 | zero =>
  intro listed a E _ _ _ v H;refine⟨fun h=>(by rw[h]at v;cases v),fun j F=>?_⟩
  by_cases c:j=i
  ·subst c;exact H
  ·have h1:=(((eL hi).1 H).2 []).1;have:j∈ed l m (listed.setIfInBounds i tT):=be.2 ⟨ready_mono (be.1 F).1 c,(be.1 F).2⟩;rw[h1]at this
   cases this
 | succ fuel ih =>
  intro listed a E d K x v H;refine⟨fun h=>(by rw[h]at v;cases v),fun j F=>?_⟩
  by_cases c:j=i
  ·subst c;exact H
  ·have y:=(be.1 F).1;have L:=(be.1 v).1;have H':=(eL hi).1 H;obtain⟨f,n,z,s⟩:=mem_ready.1 y;obtain⟨t,B,u,C⟩:=mem_ready.1 L;have M:B=oi:=by rw[show l.toArray[i]?=A oi by simpa using hi]at u;injection u with h;exact h.symm
   subst M;have g:l[j]?=A n:=by simpa using z
   have D:∀q,listed.getD q tT=ur→listed.getD q ur=false:=fun q h=>by
    rcases Nat.lt_or_ge q listed.size with h' | h'
    ·simp[h']at h ⊢;exact h
    ·simp[Array.getElem?_eq_none h']at h
   have N:∀e∈n.after,Region.binds .any e=tT→e.on≠i:=fun e he hb heq=>by
    have h1:=s e he hb;rw[heq,D i t]at h1;cases h1
   have T:aN l l.length i j=false:=by
    cases hc:aN l l.length i j with
    | false=>rfl
    | true=>have:=dQ x _ i j _ hi C hc;rw[D j f]at this;cases this
   have V:aN l l.length j i=false:=by
    cases hc:aN l l.length j i with
    | false=>rfl
    | true=>have:=dQ x _ j i _ g s hc;rw[D i t]at this;cases this
   have p:∀k ok,l.toArray[k]?=A ok→k≠i→(listed.setIfInBounds j tT).getD k tT=ur→
     (∀e∈ok.after,Region.binds .any e=tT→e.on≠i)→B.apart l.toArray ok=true:=fun k ok hk af W aq=>by
    refine d k ok hk af ?_ aq
    by_cases X:j=k
    ·subst X;exact f
    ·rw[getD_set_ne tT X]at W;exact W
   have ar:cw P l es cs w0 S R vf φ j n (cw P l es cs w0 S R vf φ i B (eN P l m es cs w0 S R vf φ Q fuel ((listed.setIfInBounds i tT).setIfInBounds j tT))) a E:=by
    refine AU (fun e=>c e.symm) (d j n z c f N) (fun cs b=>r i _ cs b (by simpa using hi)) (fun cs b=>r j n cs b z) T V ?_;refine gU (fun a' E' h3=>?_) H';have h4:=h3.2 j (be.2 ⟨ready_mono y c,(be.1 F).2⟩);exact (eL g).1 h4
   rw[eL g];refine gU (fun a' E' h3=>?_) ar;refine ih (listed.setIfInBounds j tT) a' E' p (by simpa using K) (iV x K ad y) (be.2 ⟨ready_mono L (Ne.symm c),(be.1 v).2⟩) ?_;rw[eL hi,Array.setIfInBounds_comm _ _ c];exact h3
theorem kG{Q:Act→(Nat→Option (List tS))→Prop}(x:Region.noSelect l.toArray=tT)(c:∀(k:Nat)(o:xV),l[k]?=A o→∀e∈o.after,Region.binds .any e=tT→e.on<k):∀(r:List xV) (k fuel:Nat) (listed:Array Bool) (a:Act) (E:Nat→Option (List tS)),(∀j,j<r.length→r[j]?=l[k+j]?)→k+r.length=m→r.length≤fuel→
  (∀i,i<k→listed.getD i ur=tT)→listed.size=l.length→Closed l listed→Region.lexFrom .any l.toArray fuel k listed=tT→wpE P l es cs w0 S R vf φ Q k r a E→eN P l m es cs w0 S R vf φ Q r.length listed a E
 | [],k,fuel,listed,a,E,_,b,_,d,_,_,_,h=>by
  refine⟨?_,h⟩;rw[List.eq_nil_iff_forall_not_mem];intro i hi;obtain⟨z,L⟩:=be.1 hi;have g:=(mem_ready.1 z).1;have u:=d i (by simp at b;omega);have:i<listed.size:=by
   rcases Nat.lt_or_ge i listed.size with h|h
   ·exact h
   ·simp[Array.getElem?_eq_none h]at g
  simp[this]at g u;rw[g]at u;cases u
 | o::r,k,fuel,listed,a,E,y,b,n,d,f,p,hB,h=>by
  have t:l[k]?=A o:=by simpa using (y 0 (by simp)).symm
  obtain⟨fuel,rfl⟩:∃B,fuel=B+1:=⟨fuel-1,by simp at n;omega⟩;simp only[Region.lexFrom,J4]at hB;obtain⟨⟨C,D⟩,v⟩:=hB;have q:k∈Region.ready .any l.toArray listed:=by simpa using C
  have F:k<l.length:=(J3.1 t).1;refine mF t (Region.noSelect_spec x) c r.length listed a E (Region.free_spec (by simpa using t) D) f p (be.2 ⟨q,by simp at b;omega⟩) ?_;rw[eL t];refine gU (fun H K g=>?_) h;refine kG x c r (k+1) fuel _ H K (fun j M=>by have:=y (j+1) (by simp;omega);simpa [Nat.add_assoc,Nat.add_comm 1 j]using this) (by simp at b;omega) (by simp at n;omega) (fun i hi=>?_) (by simpa using f) (iV p f c q) v g
  by_cases s:k=i
  ·subst s;exact gd (by omega)
  ·rw[bp s];exact d i (by omega)
theorem tA(h:tidy l m es cs=tT):Region.noSelect l.toArray=tT∧Region.lexFrom .any l.toArray l.length 0 (Array.replicate l.length ur)=tT∧m≤l.length∧
  (∀(k:Nat) (o:xV),l[k]?=A o→∀e∈o.after,Region.binds .any e=tT→e.on<k)∧(∀(i:Nat) (o:xV),l[i]?=A o→m≤i→∀k,k<i→aN l l.length i k=tT)∧
  (∀i∈cs,i<m∧es.contains i=tT∧∀k∈cs,k<i→aN l l.length i k=tT):=by
 unfold tidy at h;simp only[J4,oB]at h;obtain⟨⟨⟨f,j⟩,n⟩,p⟩:=h;unfold Region.lexB at f;simp only[J4]at f;have at_:∀(i:Nat) (o:xV),l[i]?=A o→(∀e∈o.after,Region.binds .any e=tT→e.on<i)∧(m≤i→∀k,k<i→aN l l.length i k=tT):=fun i o c=>by
  have hi:i<l.length:=(J3.1 c).1;have b:=Kh.1 n i (List.mem_range.2 hi);rw[c]at b;simp only[J4,Bool.or_eq_true,oB]at b;refine⟨fun e he q=>?_,fun hm k g=>?_⟩
  ·have:=Array.all_eq_true_iff_forall_mem.1 b.1 e he
   simpa [q]using this
  ·rcases b.2 with d|d
   ·omega
   ·exact Kh.1 d k (List.mem_range.2 g)
 refine⟨f.1,by simpa using f.2,j,fun k o c=>(at_ k o c).1,fun i o c hm=>(at_ i o c).2 hm,fun i hi=>?_⟩;have b:=Kh.1 p i hi;simp only[J4,oB,Kh,Bool.or_eq_true]at b;refine⟨b.1.1,b.1.2,fun k g r=>?_⟩;rcases b.2 k g with d|d
 ·omega
 ·exact d
def done(cs:List Nat) (listed:Array Bool):Nat:=(cs.filter (fun k=>listed.getD k ur)).length
theorem fE{listed:Array Bool}{i:Nat}(h:i∈Region.ready .any l.toArray listed):listed.getD i ur=false:=by
 have b:=(mem_ready.1 h).1;rcases Nat.lt_or_ge i listed.size with c | c
 ·simp[c]at b ⊢;exact b
 ·simp[Array.getElem?_eq_none c]at b
theorem oH(b:∀(k:Nat)(o:xV),l[k]?=A o→∀e∈o.after,Region.binds .any e=tT→e.on<k){listed:Array Bool}(g:listed.size=l.length){n:Nat}(r:n≤l.length)(h:∀i∈Region.ready .any l.toArray listed,n≤i):∀i,i<n→listed.getD i ur=true:=by
 intro i
 induction i using Nat.strongRecOn with
 | _ i j =>
  intro hi
  cases d:listed.getD i ur with
  | true=>rfl
  | false =>
   exfalso
   obtain⟨o,f⟩:∃o,l[i]?=A o:=⟨l[i]'(by omega),JR _⟩;have:i∈Region.ready .any l.toArray listed:=by
    refine mem_ready.2 ⟨?_,o,by simpa using f,fun e he p=>?_⟩
    ·have c:i<listed.size:=by omega
     simp[c]at d ⊢;exact d
    ·have q:=b i o f e he p;exact j e.on q (by omega)
   have:=h i this;omega
theorem jb(s:∀i∈cs,i<m∧es.contains i=tT∧∀k∈cs,k<i→aN l l.length i k=tT){listed:Array Bool}(d:Closed l listed){i:Nat}(u:listed.size=l.length)(hi:i∈Region.ready .any l.toArray listed)(r:cs.contains i=tT) :
  done cs listed=upto cs i∧done cs (listed.setIfInBounds i tT)=upto cs (i+1):=by
 obtain⟨_,o,v,f⟩:=mem_ready.1 hi;have g:l[i]?=A o:=by simpa using v
 have x:i<l.length:=(J3.1 g).1;have j:=fE hi;have c:i∈cs:=by simpa using r
 have key:∀k∈cs,listed.getD k ur=decide (k<i):=fun k q=>by
  by_cases e:k<i
  ·rw[decide_eq_true e];exact dQ d _ i k o g f ((s i c).2.2 k q e)
  ·rw[oE e]
   by_cases b:k=i
   ·subst b;exact j
   ·cases t:listed.getD k ur with
    | false=>rfl
    | true =>
     have n:k<l.length:=by
      rcases Nat.lt_or_ge k listed.size with h|h
      ·omega
      ·simp[Array.getElem?_eq_none h]at t
     obtain⟨ok,p⟩:∃o,l[k]?=A o:=⟨l[k]'n,JR n⟩;have:=dQ d _ k i ok p (d k ok p t) ((s k q).2.2 i c (by omega));rw[j]at this;cases this
 refine⟨?_,?_⟩
 ·unfold done upto;rw[List.filter_congr key]
 ·unfold done upto;rw[List.filter_congr fun k q=>?_]
  by_cases b:i=k
  ·subst b;rw[gd (by omega)];simp
  ·rw[bp b,key k q]
   by_cases h:k<i
   ·simp[h];omega
   ·simp[h];omega
theorem iZ{listed:Array Bool}{i:Nat}(b:cs.contains i=ur):done cs (listed.setIfInBounds i tT)=done cs listed:=by
 unfold done;rw[List.filter_congr fun k c=>?_];have:i≠k:=by rintro rfl;simp at b;exact b c
 exact bp this
theorem Af{listed:Array Bool}(d:Closed l listed){i:Nat}(j:listed.size=l.length)(hi:i∈Region.ready .any l.toArray listed):done cs listed≤lim l cs i:=by
 unfold done lim;rw[←List.countP_eq_length_filter,←List.countP_eq_length_filter];refine List.countP_mono_left fun c n f=>?_
 have b:c<l.length:=by
  rcases Nat.lt_or_ge c listed.size with h|h
  ·omega
  ·simp[Array.getElem?_eq_none h]at f
 obtain⟨g,e⟩:∃o,l[c]?=A o:=⟨l[c]'b,JR b⟩
 cases k:aN l l.length c i with
 | false=>rfl
 | true =>
  have:=dQ d _ c i g e (d c g e f) k;rw[fE hi]at this;cases this
theorem oN(b:∀i∈cs,i<m∧es.contains i=tT∧∀k∈cs,k<i→aN l l.length i k=tT){listed:Array Bool}(h:∀i,i<m→listed.getD i ur=tT):done cs listed=cs.length:=by
 unfold done;rw[List.filter_eq_self.2 fun k c=>h k (b k c).1]
theorem z{id:Nat}{Q:Exit→Act→J→Prop}{a0:Act}(hm:P.follows .mixedOrders=tT)(m:Nat)(es cs:List Nat)(S:Nat→J→Prop)(R:J→J→Prop)(vf:Nat→List tS→tS)(φ:Nat→J→List tS→Prop)
  (ht:tidy l m es cs=tT)
  (bd:∀i,es.contains i=tT→cs.contains i=ur→∀s W W',S s W→Kr W W'→S s W') (bg:∀k W W' xs,φ k W xs→(∃s,S s W)→R W W'→φ k W' xs)
  (bk:S 0 w0.drew)
  (h:wpE P l es cs w0.drew S R vf φ (fun a E=>∀W,S cs.length W→(∀k xs,E k=A xs→φ k W xs)→wpList P l.toArray Q (l.drop m) a W) 0 (l.take m) a0 (fun _=>none)) :
  (Code.region id l.toArray tT).wp P Q a0 w0:=by
 obtain⟨t1,t2,t3,t4,t5,t6⟩:=tA ht;have hlen:(l.take m).length=m:=by rw[List.length_take];omega
 have D:=kG (m:=m) t1 t4 (l.take m) 0 l.length (Array.replicate l.length ur) a0 (fun _=>none) (fun j hj=>by rw[List.getElem?_take,oj (by omega),Nat.zero_add]) (by omega) (by omega) (fun i hi=>by omega) (by simp) (fun i o _ hl=>by rw[iM]at hl;cases hl) t2 h;rw[hlen]at D;refine oR hm (fun listed a W=>Closed l listed∧∃j,m≤j∧j≤l.length∧(∀i,j≤i→listed.getD i ur=ur)∧((j=m∧(∃fuel E,eN P l m es cs w0.drew S R vf φ (fun a E=>∀W,S cs.length W→(∀k xs,E k=A xs→φ k W xs)→wpList P l.toArray Q (l.drop m) a W) fuel listed a E∧S (done cs listed) W∧∀k xs,E k=A xs→φ k W xs))∨(m<j∧(∀i,i<j→listed.getD i ur=tT)∧wpList P l.toArray Q (l.drop j) a W))) ?_ ?_ ?_
 ·refine⟨fun i o _ hl=>(by rw[iM]at hl;cases hl),m,JM _,t3,fun i _=>iM,wD ⟨Z,m,_,D,?_,fun k xs h=>by cases h⟩⟩;have:done cs (Array.replicate l.length ur)=0:=by
   unfold done;rw[List.filter_eq_nil_iff.2 fun k _=>by rw[iM];simp];rfl
  rw[this];exact bk
 ·intro listed a W i hI af hi;obtain⟨p,j,bl,T,c,hI⟩:=hI;have d:listed.size=l.length:=by simpa using af
  obtain⟨b0,o,ho,ba⟩:=mem_ready.1 hi;have F:l[i]?=A o:=by simpa using ho
  have bm:i<l.length:=(J3.1 F).1;have ad:=fE hi;have B:=iV p d t4 hi;have hw:wpOp P l.toArray Q i=fun K a W=>if AR o (yielded l.toArray a.tmps)=tT then o.wp P a W K Q∨(o.asks P a W∧LetsOut Q) else K (a.put o.dst xk) W:=by funext K a W;unfold wpOp;simp only[ho]
  rw[hw]
  show (if AR o (yielded l.toArray a.tmps)=tT then _ else _)
  have n:m≤i→∀k,k<i→listed.getD k ur=true:=fun H k hk=>dQ p _ i k o F ba (t5 i o F H k hk)
  have L:∀(r:Nat),r=i→m≤r→(∀k,k<r→listed.getD k ur=tT)→(∀k,r≤k→listed.getD k ur=ur)→wpList P l.toArray Q (l.drop r) a W→
    (if AR o (yielded l.toArray a.tmps)=tT then o.wp P a W (fun V W'=>Closed l (listed.setIfInBounds i tT)∧∃j,m≤j∧j≤l.length∧(∀k,j≤k→(listed.setIfInBounds i tT).getD k ur=ur)∧((j=m∧(∃fuel E,eN P l m es cs w0.drew S R vf φ (fun a E=>∀W,S cs.length W→(∀k xs,E k=A xs→φ k W xs)→wpList P l.toArray Q (l.drop m) a W) fuel (listed.setIfInBounds i tT) V E∧S (done cs (listed.setIfInBounds i tT)) W'∧∀k xs,E k=A xs→φ k W' xs))∨(m<j∧(∀k,k<j→(listed.setIfInBounds i tT).getD k ur=tT)∧wpList P l.toArray Q (l.drop j) V W'))) Q∨(o.asks P a W∧LetsOut Q)
     else Closed l (listed.setIfInBounds i tT)∧∃j,m≤j∧j≤l.length∧(∀k,j≤k→(listed.setIfInBounds i tT).getD k ur=ur)∧((j=m∧(∃fuel E,eN P l m es cs w0.drew S R vf φ (fun a E=>∀W,S cs.length W→(∀k xs,E k=A xs→φ k W xs)→wpList P l.toArray Q (l.drop m) a W) fuel (listed.setIfInBounds i tT) (a.put o.dst xk) E∧S (done cs (listed.setIfInBounds i tT)) W∧∀k xs,E k=A xs→φ k W xs))∨(m<j∧(∀k,k<j→(listed.setIfInBounds i tT).getD k ur=tT)∧wpList P l.toArray Q (l.drop j) (a.put o.dst xk) W))):=by
   intro r bn H b bq g;subst bn;rw[List.drop_eq_getElem_cons bm,show l[r]=o from (J3.1 F).2]at g;unfold wpList at g;have fin:∀V W',wpList P l.toArray Q (l.drop (r+1)) V W'→Closed l (listed.setIfInBounds r tT)∧∃j,m≤j∧j≤l.length∧(∀k,j≤k→(listed.setIfInBounds r tT).getD k ur=ur)∧((j=m∧(∃fuel E,eN P l m es cs w0.drew S R vf φ (fun a E=>∀W,S cs.length W→(∀k xs,E k=A xs→φ k W xs)→wpList P l.toArray Q (l.drop m) a W) fuel (listed.setIfInBounds r tT) V E∧S (done cs (listed.setIfInBounds r tT)) W'∧∀k xs,E k=A xs→φ k W' xs))∨(m<j∧(∀k,k<j→(listed.setIfInBounds r tT).getD k ur=tT)∧wpList P l.toArray Q (l.drop j) V W')):=by
    intro V W' h;refine⟨B,r+1,by omega,by omega,fun k hk=>?_,wF ⟨by omega,fun k hk=>?_,h⟩⟩
    ·rw[bp (by omega)];exact bq k (by omega)
    ·by_cases bb:k=r
     ·subst bb;exact gd (by omega)
     ·rw[bp (fun e=>bb e.symm)];exact b k (by omega)
   by_cases t:AR o (yielded l.toArray a.tmps)=tT
   ·rw[oj t]at g ⊢;exact g.imp (Oper.wp_mono (fun V W' hq=>fin V W' hq)) (fun h=>h)
   ·rw[oe t]at g ⊢;exact fin _ _ g
  rcases hI with ⟨rfl,fuel,E,u,N,hE⟩|⟨bR,b,g⟩
  ·by_cases H:j≤i
   ·have aq:j=i:=by
     rcases Nat.lt_or_ge j i with h|h
     ·have x:=n H j h;rw[c j (JM _)]at x;cases x
     ·omega
    have b:∀k,k<j→listed.getD k ur=true:=fun k hk=>n H k (by omega)
    refine L j aq (JM _) b c ?_;have ar:ed l j listed=[]:=by
     rw[List.eq_nil_iff_forall_not_mem];intro q hq;obtain⟨x,h2⟩:=be.1 hq;have:=fE x;rw[b q h2]at this;cases this
    have hQ:∀W,S cs.length W→(∀k xs,E k=A xs→φ k W xs)→wpList P l.toArray Q (l.drop j) a W:=by
     cases fuel with
     | zero=>exact u.2
     | succ fuel=>exact u.1 ar
    exact hQ W (by rw[←oN t6 b];exact N) hE
   ·have bt:i<j:=by omega
    have M:∀k,j≤k→(listed.setIfInBounds i tT).getD k ur=false:=fun k hk=>by rw[bp (by omega)];exact c k hk
    have a1:i∈ed l j listed:=be.2 ⟨hi,bt⟩;obtain⟨y,hf⟩:∃f',fuel=f'+1:=by
     cases fuel with
     | zero=>have:=u.1;rw[this]at a1;cases a1
     | succ f=>exact⟨f,Z⟩
    subst hf;obtain⟨p1,p2⟩:=(eL F).1 (u.2 i a1);have hC:Cl l cs S i W:=⟨_,Af p d hi,N⟩;unfold pre at p1;unfold val env at p2
    by_cases t:AR o (yielded l.toArray a.tmps)=tT
    ·rw[oj t]at p1 ⊢;simp only[t,oX]at p2
     left
     cases X:es.contains i with
     | true =>
      simp only[X,oX]at p1 p2;refine (p1 W hC (fun C=>by rw[←(jb t6 p d hi C).1];exact N) (fun k xs _ he=>hE k xs he)).wp (fun v W' hg=>?_);obtain⟨xs,rfl,x,h2,h3⟩:=hg;refine⟨B,j,JM _,T,M,wD ⟨Z,y,_,p2 xs,?_,fun k ys he=>?_⟩⟩
      ·cases C:cs.contains i with
       | true=>simp only[C,oX]at x;rw[(jb t6 p d hi C).2];exact x
       | false=>simp only[C,Ka,oF]at x;rw[iZ C];exact bd i X C _ _ _ N x
      ·unfold ups at he
       by_cases a6:k=i
       ·rw[oj a6]at he;injection he with he;subst he a6;exact h3
       ·rw[oe a6]at he;exact bg k W W' ys (hE k ys he) ⟨_,N⟩ h2
     | false =>
      simp only[X,Ka,oF]at p1 p2;have bB:cs.contains i=false:=by
       cases C:cs.contains i with
       | false=>rfl
       | true=>have:=(t6 i (by simpa using C)).2.1;rw[X]at this;cases this
      have fin:∀v,v=fY P w0.drew o a→Closed l (listed.setIfInBounds i tT)∧∃z,j≤z∧z≤l.length∧(∀k,z≤k→(listed.setIfInBounds i tT).getD k ur=ur)∧((z=j∧(∃fuel E,eN P l j es cs w0.drew S R vf φ (fun a E=>∀W,S cs.length W→(∀k xs,E k=A xs→φ k W xs)→wpList P l.toArray Q (l.drop j) a W) fuel (listed.setIfInBounds i tT) (a.put o.dst v) E∧S (done cs (listed.setIfInBounds i tT)) W∧∀k xs,E k=A xs→φ k W xs))∨(j<z∧(∀k,k<z→(listed.setIfInBounds i tT).getD k ur=tT)∧wpList P l.toArray Q (l.drop z) (a.put o.dst v) W)):=by
       rintro v rfl;exact⟨B,j,JM _,T,M,wD ⟨Z,y,E,p2 [],by rw[iZ bB];exact N,hE⟩⟩
      unfold Oper.wp;rcases p1 W hC with h|⟨h,hv⟩
      ·rw[h,Oper.upon_value];exact fin _ Z
      ·rw[h,Oper.upon_skip];exact fin _ hv.symm
    ·rw[oe t]at p1 ⊢;simp only[t]at p2;refine⟨B,j,JM _,T,M,wD ⟨Z,y,E,p2 [],?_,hE⟩⟩
     cases C:cs.contains i with
     | true =>
      obtain⟨d1,d2⟩:=jb t6 p d hi C;rw[d2];exact p1 W C (by rw[←d1];exact N)
     | false=>rw[iZ C];exact N
  ·have aq:j=i:=by
    rcases Nat.lt_trichotomy i j with h|h|h
    ·rw[b i h]at ad;cases ad
    ·exact h.symm
    ·have x:=n (by omega) j h;rw[c j (JM _)]at x;cases x
   exact L j aq (by omega) b c g
 ·intro listed a W hI af hr;obtain⟨p,j,bl,T,c,hI⟩:=hI;have d:listed.size=l.length:=by simpa using af
  have b:=oH t4 d (JM l.length) (fun i hi=>by rw[hr]at hi;cases hi);have hj:j=l.length:=by
   rcases Nat.lt_or_ge j l.length with h|h
   ·have x:=b j h;rw[c j (JM _)]at x;cases x
   ·omega
  rcases hI with ⟨rfl,fuel,E,u,N,hE⟩|⟨_,_,g⟩
  ·have ar:ed l j listed=[]:=by unfold ed;rw[hr];rfl
   have hQ:∀W,S cs.length W→(∀k xs,E k=A xs→φ k W xs)→wpList P l.toArray Q (l.drop j) a W:=by
    cases fuel with
    | zero=>exact u.2
    | succ fuel=>exact u.1 ar
   have h:=hQ W (by rw[←oN t6 (fun i hi=>b i (by omega))];exact N) hE;rw[List.drop_eq_nil_of_le (by omega)]at h;exact h
  ·rw[List.drop_eq_nil_of_le (by omega)]at g;exact g
section
variable {Q:Act→(Nat→Option (List tS))→Prop} {i:Nat} {o:xV} {rest:List xV} {a:Act} {E:Nat→Option (List tS)}
theorem q(C:J→Prop)(e:∀s W,s≤lim l cs i→S s W→C W)(j:wO o.op=tT)(he:es.contains i=ur)(d:cs.contains i=ur)(k:S 0 w0)
  (h:wpQuiet P l.toArray C (fun p=>wpE P l es cs w0 S R vf φ Q (i+1) rest p E) [o] a):wpE P l es cs w0 S R vf φ Q i (o::rest) a E:=by
 unfold wpQuiet at h
 show cw P l es cs w0 S R vf φ i o _ a E
 unfold cw pre val env
 by_cases hw:AR o (yielded l.toArray a.tmps)=tT
 ·rw[oj hw]at h ⊢;simp only[hw,oX,he,Ka,oF];obtain⟨v,q,t⟩:=h;have key:∀w,C w→(execOp a.eval o).run P w=.ok (.value v) w∨((execOp a.eval o).run P w=.ok .skip w∧v=xk):=fun w b=>by
   have c:=q w b;have y:∀f xs w',(execOp a.eval o).run P w≠.ok (.enter f xs) w':=fun f xs w'=>td a.eval o j
   unfold Oper.quietAt at c;generalize (execOp a.eval o).run P w=r at *
   cases r with
   | ok n w' =>
    cases n<;>simp only[Oper.quietUpon]at c
    case value u=>obtain⟨rfl,rfl⟩:=c;exact wD Z
    case skip=>obtain⟨rfl,rfl⟩:=c;exact wF ⟨Z,Z⟩
    case enter f args=>exact absurd Z (y f args w')
   | halt x w'=>simp only[Oper.quietUpon]at c
  have g:fY P w0 o a=v:=by
   unfold fY;rcases key w0 (e 0 w0 (J0 _) k) with h|⟨h,rfl⟩
   ·rw[h]
   ·rw[h]
  rw[g];refine⟨fun w b=>?_,fun _=>t⟩;rw[g];obtain⟨s,z,B⟩:=b;exact key w (e s w z B)
 ·rw[oe hw]at h ⊢;simp only[hw];exact⟨fun W D=>absurd D (by rw[d];decide),fun _=>h⟩
theorem h(hw:AR o (yielded l.toArray a.tmps)=tT)(he:es.contains i=tT)(b:Ob P l cs S R vf φ i o a E)(h:∀xs,wpE P l es cs w0 S R vf φ Q (i+1) rest (a.put o.dst (vf i xs)) (ups E i xs)) :
  wpE P l es cs w0 S R vf φ Q i (o::rest) a E:=by
 show cw P l es cs w0 S R vf φ i o _ a E
 unfold cw pre val env;simp only[hw,oX,he];exact⟨b,h⟩
theorem wpE_off(hw:AR o (yielded l.toArray a.tmps)=ur)(b:∀W,cs.contains i=tT→S (upto cs i) W→S (upto cs (i+1)) W)(h:wpE P l es cs w0 S R vf φ Q (i+1) rest (a.put o.dst xk) E) :
  wpE P l es cs w0 S R vf φ Q i (o::rest) a E:=by
 show cw P l es cs w0 S R vf φ i o _ a E
 unfold cw pre val env;simp only[hw,Ka,oF];exact⟨b,fun _=>h⟩
theorem u(h:Q a E):wpE P l es cs w0 S R vf φ Q i [] a E:=h
end
end
end Go.Proofs.YtoahnjkclckodaaGreatDoor.RE
namespace Go.Proofs.YtoahnjkclckodaaGreatDoor.RE
open Go.RowKit
def Two(a b:J):={W:J // W=a∨W=b}
instance (a b:J):Nonempty (Two a b):=⟨⟨a,wD Z⟩⟩
def Hx(a b W:J):Prop:=∃x:Two a b,W=x.1
theorem Two.h{a b:J}{p:Addr}{v:tS}(c:a.cell? p=A v)(d:b.cell? p=A v)(x:Two a b):x.1.cell? p=A v:=by
 obtain⟨W,rfl|rfl⟩:=x
 ·exact c
 ·exact d
theorem tQ{a b:J}:Hx a b a:=⟨⟨a,wD Z⟩,Z⟩
theorem zV{a b:J}:Hx a b b:=⟨⟨b,wF Z⟩,Z⟩
theorem two_class{a b:J}{n:Nat}:∀s W,s≤n→(if s=0 then W=a else W=b)→∃x:Two a b,W=x.1:=fun s W _ h=>by
 split at h
 ·rw[h];exact tQ
 ·rw[h];exact zV
theorem one_class{a b:J}{n:Nat}(c:n=0):∀s W,s≤n→(if s=0 then W=a else W=b)→∃x:Two a a,W=x.1:=fun s W d h=>by
 rw[oj (by omega)]at h;rw[h];exact tQ
def natOf(xs:List tS):Nat:=match xs.getD 0 xk with | .int _ g=>g.toNat|_=>0
def Gr(w:J) (Q:Nat):={W:J // w.grownBy W (A Q)}
instance (w:J) (Q:Nat):Nonempty (Gr w Q):=⟨⟨w,oT w _⟩⟩
theorem Gr.h{w:J}{Q:Nat}(x:Gr w Q){p:Addr}{v:tS}(h:w.cell? p=A v)(b:p.block≠Q):x.1.cell? p=A v:=by
 have c:=x.2.block p.block (World.block_lt_of_cell? w p h) (by rintro e;injection e with e;exact b e)
 have e:x.1.cell? p=w.cell? p:=by unfold World.cell?;rw[c]
 rw[e];exact h
section
variable {P:Program} {o:xV} {a:Act} {w:J} {G:tS→J→Prop}
theorem Upon.mono{c:tS→J→Prop}(h:∀v w',G v w'→c v w')(b:Upon P o a w G):Upon P o a w c:=by
 unfold Upon at *;generalize (execOp a.eval o).run P w=r at *
 cases r with
 | ok n w' =>
  cases n<;>simp only at b ⊢
  case value u=>exact h _ _ b
  case skip=>exact h _ _ b
  case enter f args=>exact b.mono fun e d ⟨v,he,g⟩=>⟨v,he,h _ _ g⟩
 | halt x w'=>exact b.elim
theorem Upon.told{v:tS}{w':J}(h:Upon P o a w (fun u x=>u=v∧x=w'))(b:G v w'):Upon P o a w G:=h.mono fun _ _ ⟨c,d⟩=>by rw[c,d];exact b
theorem upon_run{v:tS}{w':J}(h:(execOp a.eval o).run P w=.ok (.value v) w')(b:G v w'):Upon P o a w G:=by unfold Upon;rw[h];exact b
theorem upon_skip{w':J}(h:(execOp a.eval o).run P w=.ok .skip w')(b:G xk w'):Upon P o a w G:=by unfold Upon;rw[h];exact b
theorem upon_enter{f:FuncId}{vs:Array tS}(h:(execOp a.eval o).run P w=.ok (.enter f vs) w)(b:Calls P f vs w (fun e w'=>∃v,e=Ending.returned v∧G v w')):Upon P o a w G:=by unfold Upon;rw[h];exact b
theorem C(f:FuncId)(args:Array Operand)(c:Array TypeId)(d:o.op=.call { callee:=.value (.func f),args:=args,argTypes:=c })(b:∀(xs:Array tS)(w:J),(callFunc f xs).run P w=.ok (.enter f xs) w)
  (vs:Array tS) (g:args.map a.eval=vs) (h:Calls P f vs w (fun e w'=>∃v,e=Ending.returned v∧G v w')):Upon P o a w G:=by
 refine upon_enter (f:=f) (vs:=vs) ?_ h;have he:=b vs w;have j:a.eval (.func f)=Value.func (.func f) #[] #[]:=rfl;simp[execOp,d,resolve,Deferred.ofValue,j,g,invoke,he]
theorem run_store_agg(ty:TypeId)(x y:Operand)(c:o.op=.store ty x y)(b off:Nat)(cells:Array tS)(d:a.eval x=Value.pointer (A ⟨b,off,none⟩))(e:a.eval y=Value.agg cells)
  (f:w.there b off cells.size) (hi:(P.info? ty).map (·.size)=A cells.size) (g:cells.all (·.oneCell')=tT):(execOp a.eval o).run P w=.ok .skip (w.setCells b off cells.toList):=by
 unfold execOp;simp only[c,d,e,Instr.storeAt,Instr.sureAddr,pb,ph,Result.andThen_ok,run_storeVar_mid w b off ty cells f hi g]
end
end Go.Proofs.YtoahnjkclckodaaGreatDoor.RE
namespace Go.Proofs.YtoahnjkclckodaaGreatDoor.RE
open Go.RowKit
section
variable {P:Program} {l:List xV} {w0:J}
end
end Go.Proofs.YtoahnjkclckodaaGreatDoor.RE
