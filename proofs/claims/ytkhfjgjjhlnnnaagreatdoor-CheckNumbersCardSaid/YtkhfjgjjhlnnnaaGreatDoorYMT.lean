/- Parts of one proof, joined; conditions stand in each theorem. -/
import Derived.Test.YtkhfjgjjhlnnnaaGreatDoorYMRI
import Derived.ArgAppend
import Derived.Deep.MidRow
open Go renaming World→wD,Value→wF,Oper→B3,undef→At
open Bool renaming true→wP,false→xj
open Option renaming some→Y
open Go.Region renaming wanted→CT
open Or renaming inl→z6,inr→z7
namespace Go.Proofs.YtkhfjgjjhlnnnaaGreatDoor.RE
open Go.RowKit
theorem ji{P:Program}{w w':wD}{f:FuncId}{xs:Array wF}{α:Type}(s:Sem α)(g:α→wF):(s >>= fun v=>(pure (Next.value (g v)):Sem Next)).run P w≠.ok (.enter f xs) w':=by
 rw[th]
 cases s.run P w with
 | ok v w1=>simp[Result.andThen,Sem.run_pure]
 | halt h w1=>simp[Result.andThen]
theorem BG{P:Program}{w w':wD}{f:FuncId}{xs:Array wF}(b:Operand→wF)(x:Operand)(d:Option Tmp)(ty:TypeId)(pos:String)(c:Array Edge)(g:Option (Nat×Bool)):(execOp b ⟨d,.nilCheck x,ty,pos,c,g⟩).run P w≠.ok (.enter f xs) w':=by
 simp only[execOp]
 (repeat' split)<;>first
  | (simp[runtimePanic,Sem.run_pure,go_sem];done)
  | skip
 rw[th]
 cases (program).run P w with
 | halt h w1=>simp[Result.andThen]
 | ok p w1 =>
  simp only[Result.andThen];rw[th]
  rename_i t y _
  cases (nilAhead (p.types.size+Made.depth) _ _ _).run P w1 with
  | halt h w1=>simp[Result.andThen]
  | ok p w1 =>
   simp only[Result.andThen]
   split
   ·rw[th]
    cases (unsupported _:Sem Unit).run P w1 with
    | halt h w1=>simp[Result.andThen]
    | ok p w1=>simp[Result.andThen,Sem.run_pure]
   ·simp[Sem.run_pure]
def tC:Op→Bool
 | .move _ | .assign _ | .load .. | .binOp .. | .unOp .. | .convert .. | .sliceToArrayPointer .. | .makeInterface .. | .makeFunc .. | .slice .. | .fieldAddr .. | .field .. | .indexAddr .. | .index .. | .lookup .. | .extract .. | .build .. | .typeAssert .. | .pick .. | .nilCheck _=>wP
 | .call { callee:=.builtin .len,.. } | .call { callee:=.builtin .max,.. } | .call { callee:=.builtin .min,.. } | .call { callee:=.builtin .cap,.. }=>wP
 | _=>xj
theorem qE{P:Program}{w w':wD}{f:FuncId}{xs:Array wF}(d:Operand→wF)(o:B3)(h:tC o.op=wP):(execOp d o).run P w≠.ok (.enter f xs) w':=by
 obtain⟨dst,op,type,pos,after,guard⟩:=o
 cases op<;>first
  | (simp only[tC]at h;cases h;done)
  | (exact ji _ id)
  | (exact ji _ _)
  | (simp[execOp,Sem.run_pure];done)
  | exact BG d _ _ _ _ _ _
  | skip
 case call c =>
  obtain⟨callee,args,e⟩:=c
  cases callee with
  | value f=>cases h
  | invoke r m=>cases h
  | builtin b =>
   cases b<;>first
    | (cases h;done)
    | (exact ji (Builtin.len_ _ _ _) id)
    | (exact ji (Builtin.max_ _ _ _) id)
    | (exact ji (Builtin.min_ _ _ _) id)
    | (exact ji (Builtin.cap_ _ _ _) id)
def aS(l:List B3):Nat→Nat→Nat→Bool
 | 0,_,_=>xj
 | f+1,j,i=>match l[j]? with
  | some o=>o.after.any fun e=>Region.binds .any e&&(decide (e.on=i)||aS l f e.on i)
  | none=>xj
def Closed(l:List B3) (listed:Array Bool):Prop:=∀(i:Nat) (o:B3),l[i]?=Y o→listed.getD i xj=wP→∀e∈o.after,Region.binds .any e=wP→listed.getD e.on xj=wP
theorem dE{l:List B3}{listed:Array Bool}(n:Closed l listed):∀(f j i:Nat) (o:B3),l[j]?=Y o→(∀e∈o.after,Region.binds .any e=wP→listed.getD e.on xj=wP)→aS l f j i=wP→listed.getD i xj=true:=by
 intro f
 induction f with
 | zero=>intro j i o _ _ h;cases h
 | succ f p =>
  intro j i o q r h;unfold aS at h;rw[q]at h;obtain⟨e,he,d⟩:=Array.any_eq_true'.1 h;simp only[Ff,Bool.or_eq_true,r7]at d;have g:=r e he d.1;rcases d.2 with b|b
  ·rw[←b];exact g
  ·cases f with
   | zero=>cases b
   | succ f =>
    cases c:l[e.on]? with
    | none=>unfold aS at b;rw[c]at b;cases b
    | some k=>exact p e.on i k c (n e.on k c g) b
theorem f7{listed:Array Bool}{i:Nat}(h:i<listed.size):(listed.setIfInBounds i wP).getD i xj=true:=by simp[h]
theorem bo{listed:Array Bool}{i j:Nat}(h:i≠j):(listed.setIfInBounds i wP).getD j xj=listed.getD j false:=by simp[h]
theorem it{n i:Nat}:(Array.replicate n xj).getD i xj=false:=by
 by_cases h:i<n
 ·simp[h]
 ·simp[h]
def tidy(l:List B3) (m:Nat) (es cs:List Nat):Bool:=
 Region.lexB .any l.toArray&&decide (m≤l.length)&&((List.range l.length).all fun i=>match l[i]? with
  | none=>wP
  | some o=>o.after.all (fun e=>!Region.binds .any e||decide (e.on<i))&&(decide (i<m)||(List.range i).all fun k=>aS l l.length i k)) &&
 cs.all (fun i=>decide (i<m)&&es.contains i&&cs.all fun k=>decide (i≤k)||aS l l.length i k)
section
variable {P:Program} {l:List B3} {m:Nat} {es cs:List Nat} {w0:wD} {S:Nat→wD→Prop} {R:wD→wD→Prop} {vf:Nat→List wF→wF} {φ:Nat→wD→List wF→Prop}
def upto(cs:List Nat) (i:Nat):Nat:=(cs.filter (fun k=>decide (k<i))).length
def lim(l:List B3) (cs:List Nat) (i:Nat):Nat:=(cs.filter (fun c=>!aS l l.length c i)).length
def Cl(l:List B3) (cs:List Nat) (S:Nat→wD→Prop) (i:Nat) (W:wD):Prop:=∃s,s≤lim l cs i∧S s W
def ups(E:Nat→Option (List wF)) (i:Nat) (xs:List wF):Nat→Option (List wF):=fun k=>if k=i then Y xs else E k
def Upon(P:Program) (o:B3) (a:Act) (W:wD) (G:wF→wD→Prop):Prop:=
 match (execOp a.eval o).run P W with
 | .ok (.value v) W'=>G v W'
 | .ok .skip W'=>G At W'
 | .ok (.enter f args) W'=>Calls P f args W' (fun e b=>∃v,e=Ending.returned v∧G v b)
 | _=>False
theorem Upon.wp{o:B3}{a:Act}{W:wD}{G:wF→wD→Prop}{K:Act→wD→Prop}{Q:Exit→Act→wD→Prop}(h:Upon P o a W G)(b:∀v W',G v W'→K (a.put o.dst v) W'):o.wp P a W K Q:=by
 unfold Upon at h;unfold Oper.wp;generalize (execOp a.eval o).run P W=r at *
 cases r with
 | ok n w' =>
  cases n<;>simp only[Oper.upon]at h ⊢
  case value u=>exact b _ _ h
  case skip=>exact b _ _ h
  case enter f args=>exact h.mono fun e c ⟨v,he,d⟩=>by subst he;exact b _ _ d
 | halt x w'=>exact h.elim
def Ob(P:Program) (l:List B3) (cs:List Nat) (S:Nat→wD→Prop) (R:wD→wD→Prop) (vf:Nat→List wF→wF) (φ:Nat→wD→List wF→Prop) (i:Nat) (o:B3) (a:Act) (E:Nat→Option (List wF)):Prop:=
 ∀W:wD,Cl l cs S i W→(cs.contains i=wP→S (upto cs i) W)→(∀k xs,aS l l.length i k=wP→E k=Y xs→φ k W xs)→
  Upon P o a W (fun v W'=>∃xs,v=vf i xs∧(if cs.contains i=wP then S (upto cs (i+1)) W' else FK W W')∧R W W'∧φ i W' xs)
def fL(P:Program) (w0:wD) (o:B3) (a:Act):Value:=match (execOp a.eval o).run P w0 with | .ok (.value v) _=>v|_=>At
def oC(P:Program) (C:wD→Prop) (w0:wD) (o:B3) (a:Act):Prop:=∀w,C w→(execOp a.eval o).run P w=.ok (.value (fL P w0 o a)) w∨((execOp a.eval o).run P w=.ok .skip w∧fL P w0 o a=At)
def pre(P:Program) (l:List B3) (es cs:List Nat) (w0:wD) (S:Nat→wD→Prop) (R:wD→wD→Prop) (vf:Nat→List wF→wF) (φ:Nat→wD→List wF→Prop) (i:Nat) (o:B3) (a:Act) (E:Nat→Option (List wF)):Prop:=
 if CT o (yielded l.toArray a.tmps)=wP then (if es.contains i=wP then Ob P l cs S R vf φ i o a E else oC P (Cl l cs S i) w0 o a)
 else ∀W,cs.contains i=wP→S (upto cs i) W→S (upto cs (i+1)) W
def val(P:Program) (l:List B3) (es:List Nat) (w0:wD) (vf:Nat→List wF→wF) (i:Nat) (o:B3) (a:Act) (xs:List wF):Value:=
 if CT o (yielded l.toArray a.tmps)=wP then (if es.contains i=wP then vf i xs else fL P w0 o a) else At
def env(l:List B3) (es:List Nat) (i:Nat) (o:B3) (a:Act) (E:Nat→Option (List wF)) (xs:List wF):Nat→Option (List wF):=
 if CT o (yielded l.toArray a.tmps)=wP then (if es.contains i=wP then ups E i xs else E) else E
def cd(P:Program) (l:List B3) (es cs:List Nat) (w0:wD) (S:Nat→wD→Prop) (R:wD→wD→Prop) (vf:Nat→List wF→wF) (φ:Nat→wD→List wF→Prop) (i:Nat) (o:B3) (K:Act→(Nat→Option (List wF))→Prop) (a:Act) (E:Nat→Option (List wF)):Prop:=
 pre P l es cs w0 S R vf φ i o a E∧∀xs,K (a.put o.dst (val P l es w0 vf i o a xs)) (env l es i o a E xs)
def wpE(P:Program) (l:List B3) (es cs:List Nat) (w0:wD) (S:Nat→wD→Prop) (R:wD→wD→Prop) (vf:Nat→List wF→wF) (φ:Nat→wD→List wF→Prop) (Q:Act→(Nat→Option (List wF))→Prop):Nat→List B3→Act→(Nat→Option (List wF))→Prop
 | _,[],a,E=>Q a E
 | i,o::rest,a,E=>cd P l es cs w0 S R vf φ i o (wpE P l es cs w0 S R vf φ Q (i+1) rest) a E
def dV(l:List B3) (m:Nat) (listed:Array Bool):List Nat:=(Region.ready .any l.toArray listed).filter (fun i=>decide (i<m))
def l6(P:Program) (l:List B3) (es cs:List Nat) (w0:wD) (S:Nat→wD→Prop) (R:wD→wD→Prop) (vf:Nat→List wF→wF) (φ:Nat→wD→List wF→Prop) (i:Nat) (K:Act→(Nat→Option (List wF))→Prop) (a:Act) (E:Nat→Option (List wF)):Prop:=
 match l[i]? with
 | none=>K a E
 | some o=>cd P l es cs w0 S R vf φ i o K a E
def eE(P:Program) (l:List B3) (m:Nat) (es cs:List Nat) (w0:wD) (S:Nat→wD→Prop) (R:wD→wD→Prop) (vf:Nat→List wF→wF) (φ:Nat→wD→List wF→Prop) (Q:Act→(Nat→Option (List wF))→Prop):Nat→Array Bool→Act→(Nat→Option (List wF))→Prop
 | 0,listed,a,E=>dV l m listed=[]∧Q a E
 | fuel+1,listed,a,E=>(dV l m listed=[]→Q a E)∧∀i∈dV l m listed,l6 P l es cs w0 S R vf φ i (eE P l m es cs w0 S R vf φ Q fuel (listed.setIfInBounds i wP)) a E
theorem xz{i j:Nat}{d c:B3}(y:i≠j)(z:d.apart l.toArray c=wP)(B:∀cs b,d.op≠.select cs b)(C:∀cs b,c.op≠.select cs b)(D:aS l l.length i j=xj)(H:aS l l.length j i=xj)
  {K:Act→(Nat→Option (List wF))→Prop} {a:Act} {E:Nat→Option (List wF)}
  (h:cd P l es cs w0 S R vf φ i d (cd P l es cs w0 S R vf φ j c K) a E):cd P l es cs w0 S R vf φ j c (cd P l es cs w0 S R vf φ i d K) a E:=by
 obtain⟨n,p,T⟩:=Oper.apart_spec z;have L:∀v,CT c (yielded l.toArray (a.put d.dst v).tmps)=CT c (yielded l.toArray a.tmps):=fun v=>wanted_put c a d.dst v n
 have M:∀v,CT d (yielded l.toArray (a.put c.dst v).tmps)=CT d (yielded l.toArray a.tmps):=fun v=>wanted_put d a c.dst v T
 have X:∀v,execOp (a.put d.dst v).eval c=execOp a.eval c:=fun v=>execOp_put c C a d.dst v n
 have xi:∀v,execOp (a.put c.dst v).eval d=execOp a.eval d:=fun v=>execOp_put d B a c.dst v T
 have vj:∀v xs,val P l es w0 vf j c (a.put d.dst v) xs=val P l es w0 vf j c a xs:=fun v xs=>by unfold val fL;rw[L,X]
 have vi:∀v xs,val P l es w0 vf i d (a.put c.dst v) xs=val P l es w0 vf i d a xs:=fun v xs=>by unfold val fL;rw[M,xi]
 have obj:∀v F,(∀k,aS l l.length j k=wP→F k=E k)→(pre P l es cs w0 S R vf φ j c (a.put d.dst v) F↔pre P l es cs w0 S R vf φ j c a E):=fun v F hF=>by
  unfold pre Ob Upon oC fL;rw[L,X];have:∀W,(∀k xs,aS l l.length j k=wP→F k=Y xs→φ k W xs)↔(∀k xs,aS l l.length j k=wP→E k=Y xs→φ k W xs):=fun W =>⟨fun h k xs g he=>h k xs g (by rw[hF k g];exact he),fun h k xs g he=>h k xs g (by rw[←hF k g];exact he)⟩
  simp only[this]
 have N:∀v F,(∀k,aS l l.length i k=wP→F k=E k)→(pre P l es cs w0 S R vf φ i d (a.put c.dst v) F↔pre P l es cs w0 S R vf φ i d a E):=fun v F hF=>by
  unfold pre Ob Upon oC fL;rw[M,xi];have:∀W,(∀k xs,aS l l.length i k=wP→F k=Y xs→φ k W xs)↔(∀k xs,aS l l.length i k=wP→E k=Y xs→φ k W xs):=fun W =>⟨fun h k xs g he=>h k xs g (by rw[hF k g];exact he),fun h k xs g he=>h k xs g (by rw[←hF k g];exact he)⟩
  simp only[this]
 have f:∀(q k:Nat) (xs:List wF),aS l l.length k q=xj→∀k',aS l l.length k k'=wP→ups E q xs k'=E k':=fun q k xs hr k' r=>by unfold ups;rw[qv];rintro rfl;rw[hr]at r;cases r
 have s:∀xs k,aS l l.length j k=wP→env l es i d a E xs k=E k:=fun xs k g=>by
  unfold env;split
  ·split
   ·exact f i j xs H k g
   ·rfl
  ·rfl
 have t:∀xs k,aS l l.length i k=wP→env l es j c a E xs k=E k:=fun xs k g=>by
  unfold env;split
  ·split
   ·exact f j i xs D k g
   ·rfl
  ·rfl
 have x:∀v u xs ys,env l es j c (a.put d.dst v) (env l es i d a E xs) ys=env l es i d (a.put c.dst u) (env l es j c a E ys) xs:=fun v u xs ys=>by
  unfold env;rw[L,M];have hc:ups (ups E i xs) j ys=ups (ups E j ys) i xs:=by
   funext k;unfold ups
   by_cases n:k=j
   ·rw[rv n,qv (fun e=>y (e.symm.trans n)),rv n]
   ·by_cases p:k=i
    ·rw[qv n,rv p,rv p]
    ·rw[qv n,qv p,qv p,qv n]
  repeat' split
  all_goals first|rfl|exact hc
 obtain⟨p1,p2⟩:=h;refine⟨(obj _ _ (s [])).1 (p2 []).1,fun ys=>⟨(N _ _ (t ys)).2 p1,fun xs=>?_⟩⟩;have h4:=(p2 xs).2 ys;rw[vj,Act.put_comm a _ _ p,x _ (val P l es w0 vf j c a ys)]at h4;rw[vi];exact h4
theorem gI{i:Nat}{o:B3}{K b:Act→(Nat→Option (List wF))→Prop}(c:∀a E,K a E→b a E){a:Act}{E:Nat→Option (List wF)}(h:cd P l es cs w0 S R vf φ i o K a E):cd P l es cs w0 S R vf φ i o b a E:=⟨h.1,fun xs=>c _ _ (h.2 xs)⟩
theorem eA{i:Nat}{o:B3}(b:l[i]?=Y o){K:Act→(Nat→Option (List wF))→Prop}{a:Act}{E:Nat→Option (List wF)}:l6 P l es cs w0 S R vf φ i K a E↔cd P l es cs w0 S R vf φ i o K a E:=by unfold l6;rw[b]
theorem bh{listed:Array Bool}{i:Nat}:i∈dV l m listed↔i∈Region.ready .any l.toArray listed∧i<m:=by unfold dV;rw[List.mem_filter,r7]
theorem iI{listed:Array Bool}(s:Closed l listed)(t:listed.size=l.length)(n:∀(k:Nat)(o:B3),l[k]?=Y o→∀e∈o.after,Region.binds .any e=wP→e.on<k){i:Nat}(u:i∈Region.ready .any l.toArray listed):Closed l (listed.setIfInBounds i wP):=by
 obtain⟨v,o,x,d⟩:=mem_ready.1 u;have c:l[i]?=Y o:=by simpa using x
 have y:i<l.length:=(Fe.1 c).1;intro k ok b f e he p
 by_cases g:k=i
 ·subst g;rw[c]at b;injection b with b
  subst b;have q:=d e he p;have r:k≠e.on:=fun h=>by have:=n k _ c e he p;omega
  rw[bo r];exact q
 ·rw[bo (fun h=>g h.symm)]at f;have q:=s k ok b f e he p
  by_cases j:i=e.on
  ·rw[←j];exact f7 (by omega)
  ·rw[bo j];exact q
theorem lF{Q:Act→(Nat→Option (List wF))→Prop}{i:Nat}{oi:B3}(F:l[i]?=Y oi)(r:∀(j:Nat)(o:B3) cs b,l.toArray[j]?=Y o→o.op≠.select cs b)(ak:∀(k:Nat)(o:B3),l[k]?=Y o→∀e∈o.after,Region.binds .any e=wP→e.on<k) :
  ∀(fuel:Nat) (listed:Array Bool) (a:Act) (E:Nat→Option (List wF)),
   (∀j n,l.toArray[j]?=Y n→j≠i→listed.getD j wP=xj→(∀e∈n.after,Region.binds .any e=wP→e.on≠i)→oi.apart l.toArray n=wP)→
   listed.size=l.length→Closed l listed→i∈dV l m listed→
   l6 P l es cs w0 S R vf φ i (eE P l m es cs w0 S R vf φ Q fuel (listed.setIfInBounds i wP)) a E→eE P l m es cs w0 S R vf φ Q (fuel+1) listed a E:=by
 intro fuel
 induction fuel with
 | zero =>
  intro listed a E _ _ _ v H;refine⟨fun h=>(by rw[h]at v;cases v),fun j K=>?_⟩
  by_cases c:j=i
  ·subst c;exact H
  ·have h1:=(((eA F).1 H).2 []).1;have:j∈dV l m (listed.setIfInBounds i wP):=bh.2 ⟨ready_mono (bh.1 K).1 c,(bh.1 K).2⟩;rw[h1]at this
   cases this
 | succ fuel ih =>
  intro listed a E d L x v H;refine⟨fun h=>(by rw[h]at v;cases v),fun j K=>?_⟩
  by_cases c:j=i
  ·subst c;exact H
  ·have y:=(bh.1 K).1;have M:=(bh.1 v).1;have H':=(eA F).1 H;obtain⟨f,n,z,s⟩:=mem_ready.1 y;obtain⟨t,B,u,C⟩:=mem_ready.1 M;have N:B=oi:=by rw[show l.toArray[i]?=Y oi by simpa using F]at u;injection u with h;exact h.symm
   subst N;have g:l[j]?=Y n:=by simpa using z
   have D:∀q,listed.getD q wP=xj→listed.getD q xj=false:=fun q h=>by
    rcases Nat.lt_or_ge q listed.size with h' | h'
    ·simp[h']at h ⊢;exact h
    ·simp[Array.getElem?_eq_none h']at h
   have T:∀e∈n.after,Region.binds .any e=wP→e.on≠i:=fun e he hb heq=>by
    have h1:=s e he hb;rw[heq,D i t]at h1;cases h1
   have W:aS l l.length i j=false:=by
    cases hc:aS l l.length i j with
    | false=>rfl
    | true=>have:=dE x _ i j _ F C hc;rw[D j f]at this;cases this
   have X:aS l l.length j i=false:=by
    cases hc:aS l l.length j i with
    | false=>rfl
    | true=>have:=dE x _ j i _ g s hc;rw[D i t]at this;cases this
   have p:∀k ok,l.toArray[k]?=Y ok→k≠i→(listed.setIfInBounds j wP).getD k wP=xj→
     (∀e∈ok.after,Region.binds .any e=wP→e.on≠i)→B.apart l.toArray ok=true:=fun k ok hk al ad aq=>by
    refine d k ok hk al ?_ aq
    by_cases af:j=k
    ·subst af;exact f
    ·rw[getD_set_ne wP af]at ad;exact ad
   have ar:cd P l es cs w0 S R vf φ j n (cd P l es cs w0 S R vf φ i B (eE P l m es cs w0 S R vf φ Q fuel ((listed.setIfInBounds i wP).setIfInBounds j wP))) a E:=by
    refine xz (fun e=>c e.symm) (d j n z c f T) (fun cs b=>r i _ cs b (by simpa using F)) (fun cs b=>r j n cs b z) W X ?_;refine gI (fun a' E' h3=>?_) H';have h4:=h3.2 j (bh.2 ⟨ready_mono y c,(bh.1 K).2⟩);exact (eA g).1 h4
   rw[eA g];refine gI (fun a' E' h3=>?_) ar;refine ih (listed.setIfInBounds j wP) a' E' p (by simpa using L) (iI x L ak y) (bh.2 ⟨ready_mono M (Ne.symm c),(bh.1 v).2⟩) ?_;rw[eA F,Array.setIfInBounds_comm _ _ c];exact h3
theorem j9{Q:Act→(Nat→Option (List wF))→Prop}(x:Region.noSelect l.toArray=wP)(c:∀(k:Nat)(o:B3),l[k]?=Y o→∀e∈o.after,Region.binds .any e=wP→e.on<k):∀(r:List B3) (k fuel:Nat) (listed:Array Bool) (a:Act) (E:Nat→Option (List wF)),(∀j,j<r.length→r[j]?=l[k+j]?)→k+r.length=m→r.length≤fuel→
  (∀i,i<k→listed.getD i xj=wP)→listed.size=l.length→Closed l listed→Region.lexFrom .any l.toArray fuel k listed=wP→wpE P l es cs w0 S R vf φ Q k r a E→eE P l m es cs w0 S R vf φ Q r.length listed a E
 | [],k,fuel,listed,a,E,_,b,_,d,_,_,_,h=>by
  refine⟨?_,h⟩;rw[List.eq_nil_iff_forall_not_mem];intro i y;obtain⟨B,M⟩:=bh.1 y;have g:=(mem_ready.1 B).1;have u:=d i (by simp at b;omega);have:i<listed.size:=by
   rcases Nat.lt_or_ge i listed.size with h|h
   ·exact h
   ·simp[Array.getElem?_eq_none h]at g
  simp[this]at g u;rw[g]at u;cases u
 | o::r,k,fuel,listed,a,E,z,b,n,d,f,p,hB,h=>by
  have t:l[k]?=Y o:=by simpa using (z 0 (by simp)).symm
  obtain⟨fuel,rfl⟩:∃C,fuel=C+1:=⟨fuel-1,by simp at n;omega⟩;simp only[Region.lexFrom,Ff]at hB;obtain⟨⟨D,F⟩,v⟩:=hB;have q:k∈Region.ready .any l.toArray listed:=by simpa using D
  have H:k<l.length:=(Fe.1 t).1;refine lF t (Region.noSelect_spec x) c r.length listed a E (Region.free_spec (by simpa using t) F) f p (bh.2 ⟨q,by simp at b;omega⟩) ?_;rw[eA t];refine gI (fun K L g=>?_) h;refine j9 x c r (k+1) fuel _ K L (fun j N=>by have:=z (j+1) (by simp;omega);simpa [Nat.add_assoc,Nat.add_comm 1 j]using this) (by simp at b;omega) (by simp at n;omega) (fun i y=>?_) (by simpa using f) (iI p f c q) v g
  by_cases s:k=i
  ·subst s;exact f7 (by omega)
  ·rw[bo s];exact d i (by omega)
theorem qO(h:tidy l m es cs=wP):Region.noSelect l.toArray=wP∧Region.lexFrom .any l.toArray l.length 0 (Array.replicate l.length xj)=wP∧m≤l.length∧
  (∀(k:Nat) (o:B3),l[k]?=Y o→∀e∈o.after,Region.binds .any e=wP→e.on<k)∧(∀(i:Nat) (o:B3),l[i]?=Y o→m≤i→∀k,k<i→aS l l.length i k=wP)∧
  (∀i∈cs,i<m∧es.contains i=wP∧∀k∈cs,k<i→aS l l.length i k=wP):=by
 unfold tidy at h;simp only[Ff,r7]at h;obtain⟨⟨⟨f,n⟩,p⟩,q⟩:=h;unfold Region.lexB at f;simp only[Ff]at f;have at_:∀(i:Nat) (o:B3),l[i]?=Y o→(∀e∈o.after,Region.binds .any e=wP→e.on<i)∧(m≤i→∀k,k<i→aS l l.length i k=wP):=fun i o c=>by
  have g:i<l.length:=(Fe.1 c).1;have b:=Fx.1 p i (List.mem_range.2 g);rw[c]at b;simp only[Ff,Bool.or_eq_true,r7]at b;refine⟨fun e he r=>?_,fun hm k j=>?_⟩
  ·have:=Array.all_eq_true_iff_forall_mem.1 b.1 e he
   simpa [r]using this
  ·rcases b.2 with d|d
   ·omega
   ·exact Fx.1 d k (List.mem_range.2 j)
 refine⟨f.1,by simpa using f.2,n,fun k o c=>(at_ k o c).1,fun i o c hm=>(at_ i o c).2 hm,fun i g=>?_⟩;have b:=Fx.1 q i g;simp only[Ff,r7,Fx,Bool.or_eq_true]at b;refine⟨b.1.1,b.1.2,fun k j s=>?_⟩;rcases b.2 k j with d|d
 ·omega
 ·exact d
def done(cs:List Nat) (listed:Array Bool):Nat:=(cs.filter (fun k=>listed.getD k xj)).length
theorem ft{listed:Array Bool}{i:Nat}(h:i∈Region.ready .any l.toArray listed):listed.getD i xj=false:=by
 have b:=(mem_ready.1 h).1;rcases Nat.lt_or_ge i listed.size with c | c
 ·simp[c]at b ⊢;exact b
 ·simp[Array.getElem?_eq_none c]at b
theorem mt(b:∀(k:Nat)(o:B3),l[k]?=Y o→∀e∈o.after,Region.binds .any e=wP→e.on<k){listed:Array Bool}(g:listed.size=l.length){n:Nat}(r:n≤l.length)(h:∀i∈Region.ready .any l.toArray listed,n≤i):∀i,i<n→listed.getD i xj=true:=by
 intro i
 induction i using Nat.strongRecOn with
 | _ i j =>
  intro s
  cases d:listed.getD i xj with
  | true=>rfl
  | false =>
   exfalso
   obtain⟨o,f⟩:∃o,l[i]?=Y o:=⟨l[i]'(by omega),ES _⟩;have:i∈Region.ready .any l.toArray listed:=by
    refine mem_ready.2 ⟨?_,o,by simpa using f,fun e he p=>?_⟩
    ·have c:i<listed.size:=by omega
     simp[c]at d ⊢;exact d
    ·have q:=b i o f e he p;exact j e.on q (by omega)
   have:=h i this;omega
theorem iQ(s:∀i∈cs,i<m∧es.contains i=wP∧∀k∈cs,k<i→aS l l.length i k=wP){listed:Array Bool}(d:Closed l listed){i:Nat}(v:listed.size=l.length)(t:i∈Region.ready .any l.toArray listed)(r:cs.contains i=wP) :
  done cs listed=upto cs i∧done cs (listed.setIfInBounds i wP)=upto cs (i+1):=by
 obtain⟨_,o,x,f⟩:=mem_ready.1 t;have g:l[i]?=Y o:=by simpa using x
 have y:i<l.length:=(Fe.1 g).1;have j:=ft t;have c:i∈cs:=by simpa using r
 have key:∀k∈cs,listed.getD k xj=decide (k<i):=fun k q=>by
  by_cases e:k<i
  ·rw[decide_eq_true e];exact dE d _ i k o g f ((s i c).2.2 k q e)
  ·rw[r6 e]
   by_cases b:k=i
   ·subst b;exact j
   ·cases u:listed.getD k xj with
    | false=>rfl
    | true =>
     have n:k<l.length:=by
      rcases Nat.lt_or_ge k listed.size with h|h
      ·omega
      ·simp[Array.getElem?_eq_none h]at u
     obtain⟨ok,p⟩:∃o,l[k]?=Y o:=⟨l[k]'n,ES n⟩;have:=dE d _ k i ok p (d k ok p u) ((s k q).2.2 i c (by omega));rw[j]at this;cases this
 refine⟨?_,?_⟩
 ·unfold done upto;rw[List.filter_congr key]
 ·unfold done upto;rw[List.filter_congr fun k q=>?_]
  by_cases b:i=k
  ·subst b;rw[f7 (by omega)];simp
  ·rw[bo b,key k q]
   by_cases h:k<i
   ·simp[h];omega
   ·simp[h];omega
theorem iJ{listed:Array Bool}{i:Nat}(b:cs.contains i=xj):done cs (listed.setIfInBounds i wP)=done cs listed:=by
 unfold done;rw[List.filter_congr fun k c=>?_];have:i≠k:=by rintro rfl;simp at b;exact b c
 exact bo this
theorem wQ{listed:Array Bool}(d:Closed l listed){i:Nat}(j:listed.size=l.length)(k:i∈Region.ready .any l.toArray listed):done cs listed≤lim l cs i:=by
 unfold done lim;rw[←List.countP_eq_length_filter,←List.countP_eq_length_filter];refine List.countP_mono_left fun c p f=>?_
 have b:c<l.length:=by
  rcases Nat.lt_or_ge c listed.size with h|h
  ·omega
  ·simp[Array.getElem?_eq_none h]at f
 obtain⟨g,e⟩:∃o,l[c]?=Y o:=⟨l[c]'b,ES b⟩
 cases n:aS l l.length c i with
 | false=>rfl
 | true =>
  have:=dE d _ c i g e (d c g e f) n;rw[ft k]at this;cases this
theorem mF(b:∀i∈cs,i<m∧es.contains i=wP∧∀k∈cs,k<i→aS l l.length i k=wP){listed:Array Bool}(h:∀i,i<m→listed.getD i xj=wP):done cs listed=cs.length:=by
 unfold done;rw[List.filter_eq_self.2 fun k c=>h k (b k c).1]
theorem u{id:Nat}{Q:Exit→Act→wD→Prop}{a0:Act}(hm:P.follows .mixedOrders=wP)(m:Nat)(es cs:List Nat)(S:Nat→wD→Prop)(R:wD→wD→Prop)(vf:Nat→List wF→wF)(φ:Nat→wD→List wF→Prop)
  (ht:tidy l m es cs=wP)
  (ba:∀i,es.contains i=wP→cs.contains i=xj→∀s W W',S s W→FK W W'→S s W') (bb:∀k W W' xs,φ k W xs→(∃s,S s W)→R W W'→φ k W' xs)
  (bc:S 0 w0.drew)
  (h:wpE P l es cs w0.drew S R vf φ (fun a E=>∀W,S cs.length W→(∀k xs,E k=Y xs→φ k W xs)→wpList P l.toArray Q (l.drop m) a W) 0 (l.take m) a0 (fun _=>none)) :
  (Code.region id l.toArray wP).wp P Q a0 w0:=by
 obtain⟨t1,t2,t3,t4,t5,t6⟩:=qO ht;have hlen:(l.take m).length=m:=by rw[List.length_take];omega
 have F:=j9 (m:=m) t1 t4 (l.take m) 0 l.length (Array.replicate l.length xj) a0 (fun _=>none) (fun j hj=>by rw[List.getElem?_take,rv (by omega),Nat.zero_add]) (by omega) (by omega) (fun i C=>by omega) (by simp) (fun i o _ hl=>by rw[it]at hl;cases hl) t2 h;rw[hlen]at F;refine mK hm (fun listed a W=>Closed l listed∧∃j,m≤j∧j≤l.length∧(∀i,j≤i→listed.getD i xj=xj)∧((j=m∧(∃fuel E,eE P l m es cs w0.drew S R vf φ (fun a E=>∀W,S cs.length W→(∀k xs,E k=Y xs→φ k W xs)→wpList P l.toArray Q (l.drop m) a W) fuel listed a E∧S (done cs listed) W∧∀k xs,E k=Y xs→φ k W xs))∨(m<j∧(∀i,i<j→listed.getD i xj=wP)∧wpList P l.toArray Q (l.drop j) a W))) ?_ ?_ ?_
 ·refine⟨fun i o _ hl=>(by rw[it]at hl;cases hl),m,EO _,t3,fun i _=>it,z6 ⟨V,m,_,F,?_,fun k xs h=>by cases h⟩⟩;have:done cs (Array.replicate l.length xj)=0:=by
   unfold done;rw[List.filter_eq_nil_iff.2 fun k _=>by rw[it];simp];rfl
  rw[this];exact bc
 ·intro listed a W i hI ak C;obtain⟨p,j,bd,X,c,hI⟩:=hI;have d:listed.size=l.length:=by simpa using ak
  obtain⟨bB,o,ho,a1⟩:=mem_ready.1 C;have H:l[i]?=Y o:=by simpa using ho
  have bk:i<l.length:=(Fe.1 H).1;have af:=ft C;have B:=iI p d t4 C;have hw:wpOp P l.toArray Q i=fun K a W=>if CT o (yielded l.toArray a.tmps)=wP then o.wp P a W K Q∨(o.asks P a W∧LetsOut Q) else K (a.put o.dst At) W:=by funext K a W;unfold wpOp;simp only[ho]
  rw[hw]
  show (if CT o (yielded l.toArray a.tmps)=wP then _ else _)
  have n:m≤i→∀k,k<i→listed.getD k xj=true:=fun L k hk=>dE p _ i k o H a1 (t5 i o H L k hk)
  have M:∀(r:Nat),r=i→m≤r→(∀k,k<r→listed.getD k xj=wP)→(∀k,r≤k→listed.getD k xj=xj)→wpList P l.toArray Q (l.drop r) a W→
    (if CT o (yielded l.toArray a.tmps)=wP then o.wp P a W (fun a' W'=>Closed l (listed.setIfInBounds i wP)∧∃j,m≤j∧j≤l.length∧(∀k,j≤k→(listed.setIfInBounds i wP).getD k xj=xj)∧((j=m∧(∃fuel E,eE P l m es cs w0.drew S R vf φ (fun a E=>∀W,S cs.length W→(∀k xs,E k=Y xs→φ k W xs)→wpList P l.toArray Q (l.drop m) a W) fuel (listed.setIfInBounds i wP) a' E∧S (done cs (listed.setIfInBounds i wP)) W'∧∀k xs,E k=Y xs→φ k W' xs))∨(m<j∧(∀k,k<j→(listed.setIfInBounds i wP).getD k xj=wP)∧wpList P l.toArray Q (l.drop j) a' W'))) Q∨(o.asks P a W∧LetsOut Q)
     else Closed l (listed.setIfInBounds i wP)∧∃j,m≤j∧j≤l.length∧(∀k,j≤k→(listed.setIfInBounds i wP).getD k xj=xj)∧((j=m∧(∃fuel E,eE P l m es cs w0.drew S R vf φ (fun a E=>∀W,S cs.length W→(∀k xs,E k=Y xs→φ k W xs)→wpList P l.toArray Q (l.drop m) a W) fuel (listed.setIfInBounds i wP) (a.put o.dst At) E∧S (done cs (listed.setIfInBounds i wP)) W∧∀k xs,E k=Y xs→φ k W xs))∨(m<j∧(∀k,k<j→(listed.setIfInBounds i wP).getD k xj=wP)∧wpList P l.toArray Q (l.drop j) (a.put o.dst At) W))):=by
   intro r bl L b bn g;subst bl;rw[List.drop_eq_getElem_cons bk,show l[r]=o from (Fe.1 H).2]at g;unfold wpList at g;have fin:∀a' W',wpList P l.toArray Q (l.drop (r+1)) a' W'→Closed l (listed.setIfInBounds r wP)∧∃j,m≤j∧j≤l.length∧(∀k,j≤k→(listed.setIfInBounds r wP).getD k xj=xj)∧((j=m∧(∃fuel E,eE P l m es cs w0.drew S R vf φ (fun a E=>∀W,S cs.length W→(∀k xs,E k=Y xs→φ k W xs)→wpList P l.toArray Q (l.drop m) a W) fuel (listed.setIfInBounds r wP) a' E∧S (done cs (listed.setIfInBounds r wP)) W'∧∀k xs,E k=Y xs→φ k W' xs))∨(m<j∧(∀k,k<j→(listed.setIfInBounds r wP).getD k xj=wP)∧wpList P l.toArray Q (l.drop j) a' W')):=by
    intro a' W' h;refine⟨B,r+1,by omega,by omega,fun k hk=>?_,z7 ⟨by omega,fun k hk=>?_,h⟩⟩
    ·rw[bo (by omega)];exact bn k (by omega)
    ·by_cases a6:k=r
     ·subst a6;exact f7 (by omega)
     ·rw[bo (fun e=>a6 e.symm)];exact b k (by omega)
   by_cases t:CT o (yielded l.toArray a.tmps)=wP
   ·rw[rv t]at g ⊢;exact g.imp (Oper.wp_mono (fun a' W' hq=>fin a' W' hq)) (fun h=>h)
   ·rw[qv t]at g ⊢;exact fin _ _ g
  rcases hI with ⟨rfl,fuel,E,u,T,hE⟩|⟨bt,b,g⟩
  ·by_cases L:j≤i
   ·have al:j=i:=by
     rcases Nat.lt_or_ge j i with h|h
     ·have x:=n L j h;rw[c j (EO _)]at x;cases x
     ·omega
    have b:∀k,k<j→listed.getD k xj=true:=fun k hk=>n L k (by omega)
    refine M j al (EO _) b c ?_;have aq:dV l j listed=[]:=by
     rw[List.eq_nil_iff_forall_not_mem];intro q hq;obtain⟨x,h2⟩:=bh.1 hq;have:=ft x;rw[b q h2]at this;cases this
    have hQ:∀W,S cs.length W→(∀k xs,E k=Y xs→φ k W xs)→wpList P l.toArray Q (l.drop j) a W:=by
     cases fuel with
     | zero=>exact u.2
     | succ fuel=>exact u.1 aq
    exact hQ W (by rw[←mF t6 b];exact T) hE
   ·have bq:i<j:=by omega
    have N:∀k,j≤k→(listed.setIfInBounds i wP).getD k xj=false:=fun k hk=>by rw[bo (by omega)];exact c k hk
    have ar:i∈dV l j listed:=bh.2 ⟨C,bq⟩;obtain⟨y,hf⟩:∃f',fuel=f'+1:=by
     cases fuel with
     | zero=>have:=u.1;rw[this]at ar;cases ar
     | succ f=>exact⟨f,V⟩
    subst hf;obtain⟨p1,p2⟩:=(eA H).1 (u.2 i ar);have hC:Cl l cs S i W:=⟨_,wQ p d C,T⟩;unfold pre at p1;unfold val env at p2
    by_cases t:CT o (yielded l.toArray a.tmps)=wP
    ·rw[rv t]at p1 ⊢;simp only[t,sx]at p2
     left
     cases ad:es.contains i with
     | true =>
      simp only[ad,sx]at p1 p2;refine (p1 W hC (fun D=>by rw[←(iQ t6 p d C D).1];exact T) (fun k xs _ he=>hE k xs he)).wp (fun v W' hg=>?_);obtain⟨xs,rfl,x,h2,h3⟩:=hg;refine⟨B,j,EO _,X,N,z6 ⟨V,y,_,p2 xs,?_,fun k ys he=>?_⟩⟩
      ·cases D:cs.contains i with
       | true=>simp only[D,sx]at x;rw[(iQ t6 p d C D).2];exact x
       | false=>simp only[D,Fo,sm]at x;rw[iJ D];exact ba i ad D _ _ _ T x
      ·unfold ups at he
       by_cases av:k=i
       ·rw[rv av]at he;injection he with he;subst he av;exact h3
       ·rw[qv av]at he;exact bb k W W' ys (hE k ys he) ⟨_,T⟩ h2
     | false =>
      simp only[ad,Fo,sm]at p1 p2;have br:cs.contains i=false:=by
       cases D:cs.contains i with
       | false=>rfl
       | true=>have:=(t6 i (by simpa using D)).2.1;rw[ad]at this;cases this
      have fin:∀v,v=fL P w0.drew o a→Closed l (listed.setIfInBounds i wP)∧∃z,j≤z∧z≤l.length∧(∀k,z≤k→(listed.setIfInBounds i wP).getD k xj=xj)∧((z=j∧(∃fuel E,eE P l j es cs w0.drew S R vf φ (fun a E=>∀W,S cs.length W→(∀k xs,E k=Y xs→φ k W xs)→wpList P l.toArray Q (l.drop j) a W) fuel (listed.setIfInBounds i wP) (a.put o.dst v) E∧S (done cs (listed.setIfInBounds i wP)) W∧∀k xs,E k=Y xs→φ k W xs))∨(j<z∧(∀k,k<z→(listed.setIfInBounds i wP).getD k xj=wP)∧wpList P l.toArray Q (l.drop z) (a.put o.dst v) W)):=by
       rintro v rfl;exact⟨B,j,EO _,X,N,z6 ⟨V,y,E,p2 [],by rw[iJ br];exact T,hE⟩⟩
      unfold Oper.wp;rcases p1 W hC with h|⟨h,hv⟩
      ·rw[h,Oper.upon_value];exact fin _ V
      ·rw[h,Oper.upon_skip];exact fin _ hv.symm
    ·rw[qv t]at p1 ⊢;simp only[t]at p2;refine⟨B,j,EO _,X,N,z6 ⟨V,y,E,p2 [],?_,hE⟩⟩
     cases D:cs.contains i with
     | true =>
      obtain⟨d1,d2⟩:=iQ t6 p d C D;rw[d2];exact p1 W D (by rw[←d1];exact T)
     | false=>rw[iJ D];exact T
  ·have al:j=i:=by
    rcases Nat.lt_trichotomy i j with h|h|h
    ·rw[b i h]at af;cases af
    ·exact h.symm
    ·have x:=n (by omega) j h;rw[c j (EO _)]at x;cases x
   exact M j al (by omega) b c g
 ·intro listed a W hI ak hr;obtain⟨p,j,bd,X,c,hI⟩:=hI;have d:listed.size=l.length:=by simpa using ak
  have b:=mt t4 d (EO l.length) (fun i C=>by rw[hr]at C;cases C);have hj:j=l.length:=by
   rcases Nat.lt_or_ge j l.length with h|h
   ·have x:=b j h;rw[c j (EO _)]at x;cases x
   ·omega
  rcases hI with ⟨rfl,fuel,E,u,T,hE⟩|⟨_,_,g⟩
  ·have aq:dV l j listed=[]:=by unfold dV;rw[hr];rfl
   have hQ:∀W,S cs.length W→(∀k xs,E k=Y xs→φ k W xs)→wpList P l.toArray Q (l.drop j) a W:=by
    cases fuel with
    | zero=>exact u.2
    | succ fuel=>exact u.1 aq
   have h:=hQ W (by rw[←mF t6 (fun i C=>b i (by omega))];exact T) hE;rw[List.drop_eq_nil_of_le (by omega)]at h;exact h
  ·rw[List.drop_eq_nil_of_le (by omega)]at g;exact g
section
variable {Q:Act→(Nat→Option (List wF))→Prop} {i:Nat} {o:B3} {rest:List B3} {a:Act} {E:Nat→Option (List wF)}
theorem b(C:wD→Prop)(e:∀s W,s≤lim l cs i→S s W→C W)(j:tC o.op=wP)(he:es.contains i=xj)(d:cs.contains i=xj)(k:S 0 w0)
  (h:wpQuiet P l.toArray C (fun p=>wpE P l es cs w0 S R vf φ Q (i+1) rest p E) [o] a):wpE P l es cs w0 S R vf φ Q i (o::rest) a E:=by
 unfold wpQuiet at h
 show cd P l es cs w0 S R vf φ i o _ a E
 unfold cd pre val env
 by_cases hw:CT o (yielded l.toArray a.tmps)=wP
 ·rw[rv hw]at h ⊢;simp only[hw,sx,he,Fo,sm];obtain⟨v,q,t⟩:=h;have key:∀w,C w→(execOp a.eval o).run P w=.ok (.value v) w∨((execOp a.eval o).run P w=.ok .skip w∧v=At):=fun w b=>by
   have c:=q w b;have y:∀f xs w',(execOp a.eval o).run P w≠.ok (.enter f xs) w':=fun f xs w'=>qE a.eval o j
   unfold Oper.quietAt at c;generalize (execOp a.eval o).run P w=r at *
   cases r with
   | ok n w' =>
    cases n<;>simp only[Oper.quietUpon]at c
    case value u=>obtain⟨rfl,rfl⟩:=c;exact z6 V
    case skip=>obtain⟨rfl,rfl⟩:=c;exact z7 ⟨V,V⟩
    case enter f args=>exact absurd V (y f args w')
   | halt x w'=>simp only[Oper.quietUpon]at c
  have g:fL P w0 o a=v:=by
   unfold fL;rcases key w0 (e 0 w0 (Fa _) k) with h|⟨h,rfl⟩
   ·rw[h]
   ·rw[h]
  rw[g];refine⟨fun w b=>?_,fun _=>t⟩;rw[g];obtain⟨s,z,B⟩:=b;exact key w (e s w z B)
 ·rw[qv hw]at h ⊢;simp only[hw];exact⟨fun W D=>absurd D (by rw[d];decide),fun _=>h⟩
theorem f(hw:CT o (yielded l.toArray a.tmps)=wP)(he:es.contains i=wP)(b:Ob P l cs S R vf φ i o a E)(h:∀xs,wpE P l es cs w0 S R vf φ Q (i+1) rest (a.put o.dst (vf i xs)) (ups E i xs)) :
  wpE P l es cs w0 S R vf φ Q i (o::rest) a E:=by
 show cd P l es cs w0 S R vf φ i o _ a E
 unfold cd pre val env;simp only[hw,sx,he];exact⟨b,h⟩
theorem wpE_off(hw:CT o (yielded l.toArray a.tmps)=xj)(b:∀W,cs.contains i=wP→S (upto cs i) W→S (upto cs (i+1)) W)(h:wpE P l es cs w0 S R vf φ Q (i+1) rest (a.put o.dst At) E) :
  wpE P l es cs w0 S R vf φ Q i (o::rest) a E:=by
 show cd P l es cs w0 S R vf φ i o _ a E
 unfold cd pre val env;simp only[hw,Fo,sm];exact⟨b,fun _=>h⟩
theorem h(h:Q a E):wpE P l es cs w0 S R vf φ Q i [] a E:=h
end
end
end Go.Proofs.YtkhfjgjjhlnnnaaGreatDoor.RE
namespace Go.Proofs.YtkhfjgjjhlnnnaaGreatDoor.RE
open Go.RowKit
def Two(a b:wD):={W:wD // W=a∨W=b}
instance (a b:wD):Nonempty (Two a b):=⟨⟨a,z6 V⟩⟩
def Dd(a b W:wD):Prop:=∃x:Two a b,W=x.1
theorem Two.b{a b:wD}{p:Addr}{v:wF}(c:a.cell? p=Y v)(d:b.cell? p=Y v)(x:Two a b):x.1.cell? p=Y v:=by
 obtain⟨W,rfl|rfl⟩:=x
 ·exact c
 ·exact d
theorem qW{a b:wD}:Dd a b a:=⟨⟨a,z6 V⟩,V⟩
theorem wI{a b:wD}:Dd a b b:=⟨⟨b,z7 V⟩,V⟩
theorem z{a b:wD}{n:Nat}:∀s W,s≤n→(if s=0 then W=a else W=b)→∃x:Two a b,W=x.1:=fun s W _ h=>by
 split at h
 ·rw[h];exact qW
 ·rw[h];exact wI
theorem one_class{a b:wD}{n:Nat}(c:n=0):∀s W,s≤n→(if s=0 then W=a else W=b)→∃x:Two a a,W=x.1:=fun s W d h=>by
 rw[rv (by omega)]at h;rw[h];exact qW
def natOf(xs:List wF):Nat:=match xs.getD 0 At with | .int _ g=>g.toNat|_=>0
def Gr(w:wD) (Q:Nat):={W:wD // w.grownBy W (Y Q)}
instance (w:wD) (Q:Nat):Nonempty (Gr w Q):=⟨⟨w,r8 w _⟩⟩
theorem Gr.b{w:wD}{Q:Nat}(x:Gr w Q){p:Addr}{v:wF}(h:w.cell? p=Y v)(b:p.block≠Q):x.1.cell? p=Y v:=by
 have c:=x.2.block p.block (World.block_lt_of_cell? w p h) (by rintro e;injection e with e;exact b e)
 have e:x.1.cell? p=w.cell? p:=by unfold World.cell?;rw[c]
 rw[e];exact h
section
variable {P:Program} {o:B3} {a:Act} {w:wD} {G:wF→wD→Prop}
theorem Upon.mono{c:wF→wD→Prop}(h:∀v w',G v w'→c v w')(b:Upon P o a w G):Upon P o a w c:=by
 unfold Upon at *;generalize (execOp a.eval o).run P w=r at *
 cases r with
 | ok n w' =>
  cases n<;>simp only at b ⊢
  case value u=>exact h _ _ b
  case skip=>exact h _ _ b
  case enter f args=>exact b.mono fun e d ⟨v,he,g⟩=>⟨v,he,h _ _ g⟩
 | halt x w'=>exact b.elim
theorem Upon.told{v:wF}{w':wD}(h:Upon P o a w (fun u x=>u=v∧x=w'))(b:G v w'):Upon P o a w G:=h.mono fun _ _ ⟨c,d⟩=>by rw[c,d];exact b
theorem upon_run{v:wF}{w':wD}(h:(execOp a.eval o).run P w=.ok (.value v) w')(b:G v w'):Upon P o a w G:=by unfold Upon;rw[h];exact b
theorem C{w':wD}(h:(execOp a.eval o).run P w=.ok .skip w')(b:G At w'):Upon P o a w G:=by unfold Upon;rw[h];exact b
theorem upon_enter{f:FuncId}{vs:Array wF}(h:(execOp a.eval o).run P w=.ok (.enter f vs) w)(b:Calls P f vs w (fun e w'=>∃v,e=Ending.returned v∧G v w')):Upon P o a w G:=by unfold Upon;rw[h];exact b
theorem y(f:FuncId)(args:Array Operand)(c:Array TypeId)(d:o.op=.call { callee:=.value (.func f),args:=args,argTypes:=c })(b:∀(xs:Array wF)(w:wD),(callFunc f xs).run P w=.ok (.enter f xs) w)
  (vs:Array wF) (g:args.map a.eval=vs) (h:Calls P f vs w (fun e w'=>∃v,e=Ending.returned v∧G v w')):Upon P o a w G:=by
 refine upon_enter (f:=f) (vs:=vs) ?_ h;have he:=b vs w;have j:a.eval (.func f)=Value.func (.func f) #[] #[]:=rfl;simp[execOp,d,resolve,Deferred.ofValue,j,g,invoke,he]
theorem K(ty:TypeId)(x y:Operand)(c:o.op=.store ty x y)(b off:Nat)(cells:Array wF)(d:a.eval x=Value.pointer (Y ⟨b,off,none⟩))(e:a.eval y=Value.agg cells)
  (f:w.there b off cells.size) (g:(P.info? ty).map (·.size)=Y cells.size) (h:cells.all (·.oneCell')=wP):(execOp a.eval o).run P w=.ok .skip (w.setCells b off cells.toList):=by
 unfold execOp;simp only[c,d,e,Instr.storeAt,Instr.sureAddr,th,s3,Result.andThen_ok,run_storeVar_mid w b off ty cells f g h]
end
end Go.Proofs.YtkhfjgjjhlnnnaaGreatDoor.RE
namespace Go.Proofs.YtkhfjgjjhlnnnaaGreatDoor.RE
open Go.RowKit
section
variable {P:Program} {l:List B3} {w0:wD}
end
end Go.Proofs.YtkhfjgjjhlnnnaaGreatDoor.RE
