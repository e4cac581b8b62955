/- Parts of one proof, joined; conditions stand in each theorem. -/
import Derived.Test.YtmpekinjoeibbaaGreatDoorMRI
import Derived.ArgAppend
import Derived.Deep.MidRow
open Go renaming World→p7,Value→r3,Oper→wg,undef→tT
open Bool renaming true→r5,false→r7
open Option renaming some→A
open Go.Region renaming wanted→xL
open Or renaming inl→tE,inr→tS
namespace Go.Proofs.YtmpekinjoeibbaaGreatDoor.RE
open Go.RowKit
theorem ja{P:Program}{w w':p7}{f:FuncId}{xs:Array r3}{α:Type}(s:Sem α)(g:α→r3):(s >>= fun v=>(pure (Next.value (g v)):Sem Next)).run P w≠.ok (.enter f xs) w':=by
 rw[o8]
 cases s.run P w with
 | ok v w1=>simp[Result.andThen,Sem.run_pure]
 | halt h w1=>simp[Result.andThen]
theorem BO{P:Program}{w w':p7}{f:FuncId}{xs:Array r3}(b:Operand→r3)(x:Operand)(d:Option Tmp)(ty:TypeId)(pos:String)(c:Array Edge)(g:Option (Nat×Bool)):(execOp b ⟨d,.nilCheck x,ty,pos,c,g⟩).run P w≠.ok (.enter f xs) w':=by
 simp only[execOp]
 (repeat' split)<;>first
  | (simp[runtimePanic,Sem.run_pure,go_sem];done)
  | skip
 rw[o8]
 cases (program).run P w with
 | halt h w1=>simp[Result.andThen]
 | ok p w1 =>
  simp only[Result.andThen];rw[o8]
  rename_i t y _
  cases (nilAhead (p.types.size+Made.depth) _ _ _).run P w1 with
  | halt h w1=>simp[Result.andThen]
  | ok p w1 =>
   simp only[Result.andThen]
   split
   ·rw[o8]
    cases (unsupported _:Sem Unit).run P w1 with
    | halt h w1=>simp[Result.andThen]
    | ok p w1=>simp[Result.andThen,Sem.run_pure]
   ·simp[Sem.run_pure]
def tI:Op→Bool
 | .move _ | .assign _ | .load .. | .binOp .. | .unOp .. | .convert .. | .sliceToArrayPointer .. | .makeInterface .. | .makeFunc .. | .slice .. | .fieldAddr .. | .field .. | .indexAddr .. | .index .. | .lookup .. | .extract .. | .build .. | .typeAssert .. | .pick .. | .nilCheck _=>r5
 | .call { callee:=.builtin .len,.. } | .call { callee:=.builtin .max,.. } | .call { callee:=.builtin .min,.. } | .call { callee:=.builtin .cap,.. }=>r5
 | _=>r7
theorem qp{P:Program}{w w':p7}{f:FuncId}{xs:Array r3}(d:Operand→r3)(o:wg)(h:tI o.op=r5):(execOp d o).run P w≠.ok (.enter f xs) w':=by
 obtain⟨dst,op,type,pos,after,guard⟩:=o
 cases op<;>first
  | (simp only[tI]at h;cases h;done)
  | (exact ja _ id)
  | (exact ja _ _)
  | (simp[execOp,Sem.run_pure];done)
  | exact BO d _ _ _ _ _ _
  | skip
 case call c =>
  obtain⟨callee,args,e⟩:=c
  cases callee with
  | value f=>cases h
  | invoke r m=>cases h
  | builtin b =>
   cases b<;>first
    | (cases h;done)
    | (exact ja (Builtin.len_ _ _ _) id)
    | (exact ja (Builtin.max_ _ _ _) id)
    | (exact ja (Builtin.min_ _ _ _) id)
    | (exact ja (Builtin.cap_ _ _ _) id)
def aO(l:List wg):Nat→Nat→Nat→Bool
 | 0,_,_=>r7
 | f+1,j,i=>match l[j]? with
  | some o=>o.after.any fun e=>Region.binds .any e&&(decide (e.on=i)||aO l f e.on i)
  | none=>r7
def Closed(l:List wg) (listed:Array Bool):Prop:=∀(i:Nat) (o:wg),l[i]?=A o→listed.getD i r7=r5→∀e∈o.after,Region.binds .any e=r5→listed.getD e.on r7=r5
theorem dG{l:List wg}{listed:Array Bool}(n:Closed l listed):∀(f j i:Nat) (o:wg),l[j]?=A o→(∀e∈o.after,Region.binds .any e=r5→listed.getD e.on r7=r5)→aO l f j i=r5→listed.getD i r7=true:=by
 intro f
 induction f with
 | zero=>intro j i o _ _ h;cases h
 | succ f p =>
  intro j i o q r h;unfold aO at h;rw[q]at h;obtain⟨e,he,d⟩:=Array.any_eq_true'.1 h;simp only[Fp,Bool.or_eq_true,oE]at d;have g:=r e he d.1;rcases d.2 with b|b
  ·rw[←b];exact g
  ·cases f with
   | zero=>cases b
   | succ f =>
    cases c:l[e.on]? with
    | none=>unfold aO at b;rw[c]at b;cases b
    | some k=>exact p e.on i k c (n e.on k c g) b
theorem fJ{listed:Array Bool}{i:Nat}(h:i<listed.size):(listed.setIfInBounds i r5).getD i r7=true:=by simp[h]
theorem bh{listed:Array Bool}{i j:Nat}(h:i≠j):(listed.setIfInBounds i r5).getD j r7=listed.getD j false:=by simp[h]
theorem il{n i:Nat}:(Array.replicate n r7).getD i r7=false:=by
 by_cases h:i<n
 ·simp[h]
 ·simp[h]
def tidy(l:List wg) (m:Nat) (es cs:List Nat):Bool:=
 Region.lexB .any l.toArray&&decide (m≤l.length)&&((List.range l.length).all fun i=>match l[i]? with
  | none=>r5
  | some o=>o.after.all (fun e=>!Region.binds .any e||decide (e.on<i))&&(decide (i<m)||(List.range i).all fun k=>aO l l.length i k)) &&
 cs.all (fun i=>decide (i<m)&&es.contains i&&cs.all fun k=>decide (i≤k)||aO l l.length i k)
section
variable {P:Program} {l:List wg} {m:Nat} {es cs:List Nat} {w0:p7} {S:Nat→p7→Prop} {R:p7→p7→Prop} {vf:Nat→List r3→r3} {φ:Nat→p7→List r3→Prop}
def upto(cs:List Nat) (i:Nat):Nat:=(cs.filter (fun k=>decide (k<i))).length
def lim(l:List wg) (cs:List Nat) (i:Nat):Nat:=(cs.filter (fun c=>!aO l l.length c i)).length
def Cl(l:List wg) (cs:List Nat) (S:Nat→p7→Prop) (i:Nat) (W:p7):Prop:=∃s,s≤lim l cs i∧S s W
def ups(E:Nat→Option (List r3)) (i:Nat) (xs:List r3):Nat→Option (List r3):=fun k=>if k=i then A xs else E k
def Upon(P:Program) (o:wg) (a:Act) (W:p7) (G:r3→p7→Prop):Prop:=
 match (execOp a.eval o).run P W with
 | .ok (.value v) W'=>G v W'
 | .ok .skip W'=>G tT W'
 | .ok (.enter f args) W'=>Calls P f args W' (fun e b=>∃v,e=Ending.returned v∧G v b)
 | _=>False
theorem Upon.wp{o:wg}{a:Act}{W:p7}{G:r3→p7→Prop}{K:Act→p7→Prop}{Q:Exit→Act→p7→Prop}(h:Upon P o a W G)(b:∀v W',G v W'→K (a.put o.dst v) W'):o.wp P a W K Q:=by
 unfold Upon at h;unfold Oper.wp;generalize (execOp a.eval o).run P W=r at *
 cases r with
 | ok n w' =>
  cases n<;>simp only[Oper.upon]at h ⊢
  case value u=>exact b _ _ h
  case skip=>exact b _ _ h
  case enter f args=>exact h.mono fun e c ⟨v,he,d⟩=>by subst he;exact b _ _ d
 | halt x w'=>exact h.elim
def Ob(P:Program) (l:List wg) (cs:List Nat) (S:Nat→p7→Prop) (R:p7→p7→Prop) (vf:Nat→List r3→r3) (φ:Nat→p7→List r3→Prop) (i:Nat) (o:wg) (a:Act) (E:Nat→Option (List r3)):Prop:=
 ∀W:p7,Cl l cs S i W→(cs.contains i=r5→S (upto cs i) W)→(∀k xs,aO l l.length i k=r5→E k=A xs→φ k W xs)→
  Upon P o a W (fun v W'=>∃xs,v=vf i xs∧(if cs.contains i=r5 then S (upto cs (i+1)) W' else FS W W')∧R W W'∧φ i W' xs)
def fw(P:Program) (w0:p7) (o:wg) (a:Act):Value:=match (execOp a.eval o).run P w0 with | .ok (.value v) _=>v|_=>tT
def nO(P:Program) (C:p7→Prop) (w0:p7) (o:wg) (a:Act):Prop:=∀w,C w→(execOp a.eval o).run P w=.ok (.value (fw P w0 o a)) w∨((execOp a.eval o).run P w=.ok .skip w∧fw P w0 o a=tT)
def pre(P:Program) (l:List wg) (es cs:List Nat) (w0:p7) (S:Nat→p7→Prop) (R:p7→p7→Prop) (vf:Nat→List r3→r3) (φ:Nat→p7→List r3→Prop) (i:Nat) (o:wg) (a:Act) (E:Nat→Option (List r3)):Prop:=
 if xL o (yielded l.toArray a.tmps)=r5 then (if es.contains i=r5 then Ob P l cs S R vf φ i o a E else nO P (Cl l cs S i) w0 o a)
 else ∀W,cs.contains i=r5→S (upto cs i) W→S (upto cs (i+1)) W
def val(P:Program) (l:List wg) (es:List Nat) (w0:p7) (vf:Nat→List r3→r3) (i:Nat) (o:wg) (a:Act) (xs:List r3):Value:=
 if xL o (yielded l.toArray a.tmps)=r5 then (if es.contains i=r5 then vf i xs else fw P w0 o a) else tT
def env(l:List wg) (es:List Nat) (i:Nat) (o:wg) (a:Act) (E:Nat→Option (List r3)) (xs:List r3):Nat→Option (List r3):=
 if xL o (yielded l.toArray a.tmps)=r5 then (if es.contains i=r5 then ups E i xs else E) else E
def bV(P:Program) (l:List wg) (es cs:List Nat) (w0:p7) (S:Nat→p7→Prop) (R:p7→p7→Prop) (vf:Nat→List r3→r3) (φ:Nat→p7→List r3→Prop) (i:Nat) (o:wg) (K:Act→(Nat→Option (List r3))→Prop) (a:Act) (E:Nat→Option (List r3)):Prop:=
 pre P l es cs w0 S R vf φ i o a E∧∀xs,K (a.put o.dst (val P l es w0 vf i o a xs)) (env l es i o a E xs)
def wpE(P:Program) (l:List wg) (es cs:List Nat) (w0:p7) (S:Nat→p7→Prop) (R:p7→p7→Prop) (vf:Nat→List r3→r3) (φ:Nat→p7→List r3→Prop) (Q:Act→(Nat→Option (List r3))→Prop):Nat→List wg→Act→(Nat→Option (List r3))→Prop
 | _,[],a,E=>Q a E
 | i,o::rest,a,E=>bV P l es cs w0 S R vf φ i o (wpE P l es cs w0 S R vf φ Q (i+1) rest) a E
def dT(l:List wg) (m:Nat) (listed:Array Bool):List Nat:=(Region.ready .any l.toArray listed).filter (fun i=>decide (i<m))
def lI(P:Program) (l:List wg) (es cs:List Nat) (w0:p7) (S:Nat→p7→Prop) (R:p7→p7→Prop) (vf:Nat→List r3→r3) (φ:Nat→p7→List r3→Prop) (i:Nat) (K:Act→(Nat→Option (List r3))→Prop) (a:Act) (E:Nat→Option (List r3)):Prop:=
 match l[i]? with
 | none=>K a E
 | some o=>bV P l es cs w0 S R vf φ i o K a E
def eB(P:Program) (l:List wg) (m:Nat) (es cs:List Nat) (w0:p7) (S:Nat→p7→Prop) (R:p7→p7→Prop) (vf:Nat→List r3→r3) (φ:Nat→p7→List r3→Prop) (Q:Act→(Nat→Option (List r3))→Prop):Nat→Array Bool→Act→(Nat→Option (List r3))→Prop
 | 0,listed,a,E=>dT l m listed=[]∧Q a E
 | fuel+1,listed,a,E=>(dT l m listed=[]→Q a E)∧∀i∈dT l m listed,lI P l es cs w0 S R vf φ i (eB P l m es cs w0 S R vf φ Q fuel (listed.setIfInBounds i r5)) a E
theorem xR{i j:Nat}{d c:wg}(z:i≠j)(B:d.apart l.toArray c=r5)(C:∀cs b,d.op≠.select cs b)(D:∀cs b,c.op≠.select cs b)(H:aO l l.length i j=r7)(L:aO l l.length j i=r7)
  {K:Act→(Nat→Option (List r3))→Prop} {a:Act} {E:Nat→Option (List r3)}
  (h:bV P l es cs w0 S R vf φ i d (bV P l es cs w0 S R vf φ j c K) a E):bV P l es cs w0 S R vf φ j c (bV P l es cs w0 S R vf φ i d K) a E:=by
 obtain⟨n,p,U⟩:=Oper.apart_spec B;have M:∀v,xL c (yielded l.toArray (a.put d.dst v).tmps)=xL c (yielded l.toArray a.tmps):=fun v=>wanted_put c a d.dst v n
 have N:∀v,xL d (yielded l.toArray (a.put c.dst v).tmps)=xL d (yielded l.toArray a.tmps):=fun v=>wanted_put d a c.dst v U
 have X:∀v,execOp (a.put d.dst v).eval c=execOp a.eval c:=fun v=>execOp_put c D a d.dst v n
 have xi:∀v,execOp (a.put c.dst v).eval d=execOp a.eval d:=fun v=>execOp_put d C a c.dst v U
 have vj:∀v xs,val P l es w0 vf j c (a.put d.dst v) xs=val P l es w0 vf j c a xs:=fun v xs=>by unfold val fw;rw[M,X]
 have vi:∀v xs,val P l es w0 vf i d (a.put c.dst v) xs=val P l es w0 vf i d a xs:=fun v xs=>by unfold val fw;rw[N,xi]
 have obj:∀v F,(∀k,aO l l.length j k=r5→F k=E k)→(pre P l es cs w0 S R vf φ j c (a.put d.dst v) F↔pre P l es cs w0 S R vf φ j c a E):=fun v F hF=>by
  unfold pre Ob Upon nO fw;rw[M,X];have:∀W,(∀k xs,aO l l.length j k=r5→F k=A xs→φ k W xs)↔(∀k xs,aO l l.length j k=r5→E k=A xs→φ k W xs):=fun W =>⟨fun h k xs g he=>h k xs g (by rw[hF k g];exact he),fun h k xs g he=>h k xs g (by rw[←hF k g];exact he)⟩
  simp only[this]
 have T:∀v F,(∀k,aO l l.length i k=r5→F k=E k)→(pre P l es cs w0 S R vf φ i d (a.put c.dst v) F↔pre P l es cs w0 S R vf φ i d a E):=fun v F hF=>by
  unfold pre Ob Upon nO fw;rw[N,xi];have:∀W,(∀k xs,aO l l.length i k=r5→F k=A xs→φ k W xs)↔(∀k xs,aO l l.length i k=r5→E k=A xs→φ k W xs):=fun W =>⟨fun h k xs g he=>h k xs g (by rw[hF k g];exact he),fun h k xs g he=>h k xs g (by rw[←hF k g];exact he)⟩
  simp only[this]
 have f:∀(q k:Nat) (xs:List r3),aO l l.length k q=r7→∀y,aO l l.length k y=r5→ups E q xs y=E y:=fun q k xs hr y r=>by unfold ups;rw[ox];rintro rfl;rw[hr]at r;cases r
 have s:∀xs k,aO l l.length j k=r5→env l es i d a E xs k=E k:=fun xs k g=>by
  unfold env;split
  ·split
   ·exact f i j xs L k g
   ·rfl
  ·rfl
 have t:∀xs k,aO l l.length i k=r5→env l es j c a E xs k=E k:=fun xs k g=>by
  unfold env;split
  ·split
   ·exact f j i xs H k g
   ·rfl
  ·rfl
 have x:∀v u xs ys,env l es j c (a.put d.dst v) (env l es i d a E xs) ys=env l es i d (a.put c.dst u) (env l es j c a E ys) xs:=fun v u xs ys=>by
  unfold env;rw[M,N];have hc:ups (ups E i xs) j ys=ups (ups E j ys) i xs:=by
   funext k;unfold ups
   by_cases n:k=j
   ·rw[oA n,ox (fun e=>z (e.symm.trans n)),oA n]
   ·by_cases p:k=i
    ·rw[ox n,oA p,oA p]
    ·rw[ox n,ox p,ox p,ox n]
  repeat' split
  all_goals first|rfl|exact hc
 obtain⟨p1,p2⟩:=h;refine⟨(obj _ _ (s [])).1 (p2 []).1,fun ys=>⟨(T _ _ (t ys)).2 p1,fun xs=>?_⟩⟩;have h4:=(p2 xs).2 ys;rw[vj,Act.put_comm a _ _ p,x _ (val P l es w0 vf j c a ys)]at h4;rw[vi];exact h4
theorem gp{i:Nat}{o:wg}{K b:Act→(Nat→Option (List r3))→Prop}(c:∀a E,K a E→b a E){a:Act}{E:Nat→Option (List r3)}(h:bV P l es cs w0 S R vf φ i o K a E):bV P l es cs w0 S R vf φ i o b a E:=⟨h.1,fun xs=>c _ _ (h.2 xs)⟩
theorem ez{i:Nat}{o:wg}(b:l[i]?=A o){K:Act→(Nat→Option (List r3))→Prop}{a:Act}{E:Nat→Option (List r3)}:lI P l es cs w0 S R vf φ i K a E↔bV P l es cs w0 S R vf φ i o K a E:=by unfold lI;rw[b]
theorem be{listed:Array Bool}{i:Nat}:i∈dT l m listed↔i∈Region.ready .any l.toArray listed∧i<m:=by unfold dT;rw[List.mem_filter,oE]
theorem iv{listed:Array Bool}(s:Closed l listed)(t:listed.size=l.length)(n:∀(k:Nat)(o:wg),l[k]?=A o→∀e∈o.after,Region.binds .any e=r5→e.on<k){i:Nat}(u:i∈Region.ready .any l.toArray listed):Closed l (listed.setIfInBounds i r5):=by
 obtain⟨v,o,x,d⟩:=mem_ready.1 u;have c:l[i]?=A o:=by simpa using x
 have y:i<l.length:=(Fo.1 c).1;intro k ok b f e he p
 by_cases g:k=i
 ·subst g;rw[c]at b;injection b with b
  subst b;have q:=d e he p;have r:k≠e.on:=fun h=>by have:=n k _ c e he p;omega
  rw[bh r];exact q
 ·rw[bh (fun h=>g h.symm)]at f;have q:=s k ok b f e he p
  by_cases j:i=e.on
  ·rw[←j];exact fJ (by omega)
  ·rw[bh j];exact q
theorem lh{Q:Act→(Nat→Option (List r3))→Prop}{i:Nat}{oi:wg}(F:l[i]?=A oi)(r:∀(j:Nat)(o:wg) cs b,l.toArray[j]?=A o→o.op≠.select cs b)(af:∀(k:Nat)(o:wg),l[k]?=A o→∀e∈o.after,Region.binds .any e=r5→e.on<k) :
  ∀(fuel:Nat) (listed:Array Bool) (a:Act) (E:Nat→Option (List r3)),
   (∀j n,l.toArray[j]?=A n→j≠i→listed.getD j r5=r7→(∀e∈n.after,Region.binds .any e=r5→e.on≠i)→oi.apart l.toArray n=r5)→
   listed.size=l.length→Closed l listed→i∈dT l m listed→
   lI P l es cs w0 S R vf φ i (eB P l m es cs w0 S R vf φ Q fuel (listed.setIfInBounds i r5)) a E→eB P l m es cs w0 S R vf φ Q (fuel+1) listed a E:=by
 intro fuel
 induction fuel with
 | zero =>
  intro listed a E _ _ _ v H;refine⟨fun h=>(by rw[h]at v;cases v),fun j K=>?_⟩
  by_cases c:j=i
  ·subst c;exact H
  ·have h1:=(((ez F).1 H).2 []).1;have:j∈dT l m (listed.setIfInBounds i r5):=be.2 ⟨ready_mono (be.1 K).1 c,(be.1 K).2⟩;rw[h1]at this
   cases this
 | succ fuel ih =>
  intro listed a E d L x v H;refine⟨fun h=>(by rw[h]at v;cases v),fun j K=>?_⟩
  by_cases c:j=i
  ·subst c;exact H
  ·have y:=(be.1 K).1;have M:=(be.1 v).1;have H':=(ez F).1 H;obtain⟨f,n,z,s⟩:=mem_ready.1 y;obtain⟨t,B,u,C⟩:=mem_ready.1 M;have N:B=oi:=by rw[show l.toArray[i]?=A oi by simpa using F]at u;injection u with h;exact h.symm
   subst N;have g:l[j]?=A n:=by simpa using z
   have D:∀q,listed.getD q r5=r7→listed.getD q r7=false:=fun q h=>by
    rcases Nat.lt_or_ge q listed.size with h' | h'
    ·simp[h']at h ⊢;exact h
    ·simp[Array.getElem?_eq_none h']at h
   have T:∀e∈n.after,Region.binds .any e=r5→e.on≠i:=fun e he hb heq=>by
    have h1:=s e he hb;rw[heq,D i t]at h1;cases h1
   have U:aO l l.length i j=false:=by
    cases hc:aO l l.length i j with
    | false=>rfl
    | true=>have:=dG x _ i j _ F C hc;rw[D j f]at this;cases this
   have W:aO l l.length j i=false:=by
    cases hc:aO l l.length j i with
    | false=>rfl
    | true=>have:=dG x _ j i _ g s hc;rw[D i t]at this;cases this
   have p:∀k ok,l.toArray[k]?=A ok→k≠i→(listed.setIfInBounds j r5).getD k r5=r7→
     (∀e∈ok.after,Region.binds .any e=r5→e.on≠i)→B.apart l.toArray ok=true:=fun k ok hk ak X aq=>by
    refine d k ok hk ak ?_ aq
    by_cases ad:j=k
    ·subst ad;exact f
    ·rw[getD_set_ne r5 ad]at X;exact X
   have ar:bV P l es cs w0 S R vf φ j n (bV P l es cs w0 S R vf φ i B (eB P l m es cs w0 S R vf φ Q fuel ((listed.setIfInBounds i r5).setIfInBounds j r5))) a E:=by
    refine xR (fun e=>c e.symm) (d j n z c f T) (fun cs b=>r i _ cs b (by simpa using F)) (fun cs b=>r j n cs b z) U W ?_;refine gp (fun a' E' h3=>?_) H';have h4:=h3.2 j (be.2 ⟨ready_mono y c,(be.1 K).2⟩);exact (ez g).1 h4
   rw[ez g];refine gp (fun a' E' h3=>?_) ar;refine ih (listed.setIfInBounds j r5) a' E' p (by simpa using L) (iv x L af y) (be.2 ⟨ready_mono M (Ne.symm c),(be.1 v).2⟩) ?_;rw[ez F,Array.setIfInBounds_comm _ _ c];exact h3
theorem jV{Q:Act→(Nat→Option (List r3))→Prop}(x:Region.noSelect l.toArray=r5)(c:∀(k:Nat)(o:wg),l[k]?=A o→∀e∈o.after,Region.binds .any e=r5→e.on<k):∀(r:List wg) (k fuel:Nat) (listed:Array Bool) (a:Act) (E:Nat→Option (List r3)),(∀j,j<r.length→r[j]?=l[k+j]?)→k+r.length=m→r.length≤fuel→
  (∀i,i<k→listed.getD i r7=r5)→listed.size=l.length→Closed l listed→Region.lexFrom .any l.toArray fuel k listed=r5→wpE P l es cs w0 S R vf φ Q k r a E→eB P l m es cs w0 S R vf φ Q r.length listed a E
 | [],k,fuel,listed,a,E,_,b,_,d,_,_,_,h=>by
  refine⟨?_,h⟩;rw[List.eq_nil_iff_forall_not_mem];intro i y;obtain⟨B,M⟩:=be.1 y;have g:=(mem_ready.1 B).1;have u:=d i (by simp at b;omega);have:i<listed.size:=by
   rcases Nat.lt_or_ge i listed.size with h|h
   ·exact h
   ·simp[Array.getElem?_eq_none h]at g
  simp[this]at g u;rw[g]at u;cases u
 | o::r,k,fuel,listed,a,E,z,b,n,d,f,p,hB,h=>by
  have t:l[k]?=A o:=by simpa using (z 0 (by simp)).symm
  obtain⟨fuel,rfl⟩:∃C,fuel=C+1:=⟨fuel-1,by simp at n;omega⟩;simp only[Region.lexFrom,Fp]at hB;obtain⟨⟨D,F⟩,v⟩:=hB;have q:k∈Region.ready .any l.toArray listed:=by simpa using D
  have H:k<l.length:=(Fo.1 t).1;refine lh t (Region.noSelect_spec x) c r.length listed a E (Region.free_spec (by simpa using t) F) f p (be.2 ⟨q,by simp at b;omega⟩) ?_;rw[ez t];refine gp (fun K L g=>?_) h;refine jV x c r (k+1) fuel _ K L (fun j N=>by have:=z (j+1) (by simp;omega);simpa [Nat.add_assoc,Nat.add_comm 1 j]using this) (by simp at b;omega) (by simp at n;omega) (fun i y=>?_) (by simpa using f) (iv p f c q) v g
  by_cases s:k=i
  ·subst s;exact fJ (by omega)
  ·rw[bh s];exact d i (by omega)
theorem qy(h:tidy l m es cs=r5):Region.noSelect l.toArray=r5∧Region.lexFrom .any l.toArray l.length 0 (Array.replicate l.length r7)=r5∧m≤l.length∧
  (∀(k:Nat) (o:wg),l[k]?=A o→∀e∈o.after,Region.binds .any e=r5→e.on<k)∧(∀(i:Nat) (o:wg),l[i]?=A o→m≤i→∀k,k<i→aO l l.length i k=r5)∧
  (∀i∈cs,i<m∧es.contains i=r5∧∀k∈cs,k<i→aO l l.length i k=r5):=by
 unfold tidy at h;simp only[Fp,oE]at h;obtain⟨⟨⟨f,n⟩,p⟩,q⟩:=h;unfold Region.lexB at f;simp only[Fp]at f;have at_:∀(i:Nat) (o:wg),l[i]?=A o→(∀e∈o.after,Region.binds .any e=r5→e.on<i)∧(m≤i→∀k,k<i→aO l l.length i k=r5):=fun i o c=>by
  have g:i<l.length:=(Fo.1 c).1;have b:=FG.1 p i (List.mem_range.2 g);rw[c]at b;simp only[Fp,Bool.or_eq_true,oE]at b;refine⟨fun e he r=>?_,fun hm k j=>?_⟩
  ·have:=Array.all_eq_true_iff_forall_mem.1 b.1 e he
   simpa [r]using this
  ·rcases b.2 with d|d
   ·omega
   ·exact FG.1 d k (List.mem_range.2 j)
 refine⟨f.1,by simpa using f.2,n,fun k o c=>(at_ k o c).1,fun i o c hm=>(at_ i o c).2 hm,fun i g=>?_⟩;have b:=FG.1 q i g;simp only[Fp,oE,FG,Bool.or_eq_true]at b;refine⟨b.1.1,b.1.2,fun k j s=>?_⟩;rcases b.2 k j with d|d
 ·omega
 ·exact d
def done(cs:List Nat) (listed:Array Bool):Nat:=(cs.filter (fun k=>listed.getD k r7)).length
theorem ff{listed:Array Bool}{i:Nat}(h:i∈Region.ready .any l.toArray listed):listed.getD i r7=false:=by
 have b:=(mem_ready.1 h).1;rcases Nat.lt_or_ge i listed.size with c | c
 ·simp[c]at b ⊢;exact b
 ·simp[Array.getElem?_eq_none c]at b
theorem l9(b:∀(k:Nat)(o:wg),l[k]?=A o→∀e∈o.after,Region.binds .any e=r5→e.on<k){listed:Array Bool}(g:listed.size=l.length){n:Nat}(r:n≤l.length)(h:∀i∈Region.ready .any l.toArray listed,n≤i):∀i,i<n→listed.getD i r7=true:=by
 intro i
 induction i using Nat.strongRecOn with
 | _ i j =>
  intro s
  cases d:listed.getD i r7 with
  | true=>rfl
  | false =>
   exfalso
   obtain⟨o,f⟩:∃o,l[i]?=A o:=⟨l[i]'(by omega),EX _⟩;have:i∈Region.ready .any l.toArray listed:=by
    refine mem_ready.2 ⟨?_,o,by simpa using f,fun e he p=>?_⟩
    ·have c:i<listed.size:=by omega
     simp[c]at d ⊢;exact d
    ·have q:=b i o f e he p;exact j e.on q (by omega)
   have:=h i this;omega
theorem iJ(s:∀i∈cs,i<m∧es.contains i=r5∧∀k∈cs,k<i→aO l l.length i k=r5){listed:Array Bool}(d:Closed l listed){i:Nat}(v:listed.size=l.length)(t:i∈Region.ready .any l.toArray listed)(r:cs.contains i=r5) :
  done cs listed=upto cs i∧done cs (listed.setIfInBounds i r5)=upto cs (i+1):=by
 obtain⟨_,o,x,f⟩:=mem_ready.1 t;have g:l[i]?=A o:=by simpa using x
 have y:i<l.length:=(Fo.1 g).1;have j:=ff t;have c:i∈cs:=by simpa using r
 have key:∀k∈cs,listed.getD k r7=decide (k<i):=fun k q=>by
  by_cases e:k<i
  ·rw[decide_eq_true e];exact dG d _ i k o g f ((s i c).2.2 k q e)
  ·rw[oB e]
   by_cases b:k=i
   ·subst b;exact j
   ·cases u:listed.getD k r7 with
    | false=>rfl
    | true =>
     have n:k<l.length:=by
      rcases Nat.lt_or_ge k listed.size with h|h
      ·omega
      ·simp[Array.getElem?_eq_none h]at u
     obtain⟨ok,p⟩:∃o,l[k]?=A o:=⟨l[k]'n,EX n⟩;have:=dG d _ k i ok p (d k ok p u) ((s k q).2.2 i c (by omega));rw[j]at this;cases this
 refine⟨?_,?_⟩
 ·unfold done upto;rw[List.filter_congr key]
 ·unfold done upto;rw[List.filter_congr fun k q=>?_]
  by_cases b:i=k
  ·subst b;rw[fJ (by omega)];simp
  ·rw[bh b,key k q]
   by_cases h:k<i
   ·simp[h];omega
   ·simp[h];omega
theorem iC{listed:Array Bool}{i:Nat}(b:cs.contains i=r7):done cs (listed.setIfInBounds i r5)=done cs listed:=by
 unfold done;rw[List.filter_congr fun k c=>?_];have:i≠k:=by rintro rfl;simp at b;exact b c
 exact bh this
theorem xl{listed:Array Bool}(d:Closed l listed){i:Nat}(j:listed.size=l.length)(k:i∈Region.ready .any l.toArray listed):done cs listed≤lim l cs i:=by
 unfold done lim;rw[←List.countP_eq_length_filter,←List.countP_eq_length_filter];refine List.countP_mono_left fun c p f=>?_
 have b:c<l.length:=by
  rcases Nat.lt_or_ge c listed.size with h|h
  ·omega
  ·simp[Array.getElem?_eq_none h]at f
 obtain⟨g,e⟩:∃o,l[c]?=A o:=⟨l[c]'b,EX b⟩
 cases n:aO l l.length c i with
 | false=>rfl
 | true =>
  have:=dG d _ c i g e (d c g e f) n;rw[ff k]at this;cases this
theorem mh(b:∀i∈cs,i<m∧es.contains i=r5∧∀k∈cs,k<i→aO l l.length i k=r5){listed:Array Bool}(h:∀i,i<m→listed.getD i r7=r5):done cs listed=cs.length:=by
 unfold done;rw[List.filter_eq_self.2 fun k c=>h k (b k c).1]
theorem t{id:Nat}{Q:Exit→Act→p7→Prop}{a0:Act}(hm:P.follows .mixedOrders=r5)(m:Nat)(es cs:List Nat)(S:Nat→p7→Prop)(R:p7→p7→Prop)(vf:Nat→List r3→r3)(φ:Nat→p7→List r3→Prop)
  (ht:tidy l m es cs=r5)
  (a8:∀i,es.contains i=r5→cs.contains i=r7→∀s W W',S s W→FS W W'→S s W') (ba:∀k W W' xs,φ k W xs→(∃s,S s W)→R W W'→φ k W' xs)
  (bb:S 0 w0.drew)
  (h:wpE P l es cs w0.drew S R vf φ (fun a E=>∀W,S cs.length W→(∀k xs,E k=A xs→φ k W xs)→wpList P l.toArray Q (l.drop m) a W) 0 (l.take m) a0 (fun _=>none)) :
  (Code.region id l.toArray r5).wp P Q a0 w0:=by
 obtain⟨t1,t2,t3,t4,t5,t6⟩:=qy ht;have hlen:(l.take m).length=m:=by rw[List.length_take];omega
 have F:=jV (m:=m) t1 t4 (l.take m) 0 l.length (Array.replicate l.length r7) a0 (fun _=>none) (fun j hj=>by rw[List.getElem?_take,oA (by omega),Nat.zero_add]) (by omega) (by omega) (fun i C=>by omega) (by simp) (fun i o _ hl=>by rw[il]at hl;cases hl) t2 h;rw[hlen]at F;refine mm hm (fun listed a W=>Closed l listed∧∃j,m≤j∧j≤l.length∧(∀i,j≤i→listed.getD i r7=r7)∧((j=m∧(∃fuel E,eB P l m es cs w0.drew S R vf φ (fun a E=>∀W,S cs.length W→(∀k xs,E k=A xs→φ k W xs)→wpList P l.toArray Q (l.drop m) a W) fuel listed a E∧S (done cs listed) W∧∀k xs,E k=A xs→φ k W xs))∨(m<j∧(∀i,i<j→listed.getD i r7=r5)∧wpList P l.toArray Q (l.drop j) a W))) ?_ ?_ ?_
 ·refine⟨fun i o _ hl=>(by rw[il]at hl;cases hl),m,ET _,t3,fun i _=>il,tE ⟨Z,m,_,F,?_,fun k xs h=>by cases h⟩⟩;have:done cs (Array.replicate l.length r7)=0:=by
   unfold done;rw[List.filter_eq_nil_iff.2 fun k _=>by rw[il];simp];rfl
  rw[this];exact bb
 ·intro listed a W i hI ak C;obtain⟨p,j,bc,U,c,hI⟩:=hI;have d:listed.size=l.length:=by simpa using ak
  obtain⟨bt,o,ho,a6⟩:=mem_ready.1 C;have H:l[i]?=A o:=by simpa using ho
  have bd:i<l.length:=(Fo.1 H).1;have af:=ff C;have B:=iv p d t4 C;have hw:wpOp P l.toArray Q i=fun K a W=>if xL o (yielded l.toArray a.tmps)=r5 then o.wp P a W K Q∨(o.asks P a W∧LetsOut Q) else K (a.put o.dst tT) W:=by funext K a W;unfold wpOp;simp only[ho]
  rw[hw]
  show (if xL o (yielded l.toArray a.tmps)=r5 then _ else _)
  have n:m≤i→∀k,k<i→listed.getD k r7=true:=fun L k hk=>dG p _ i k o H a6 (t5 i o H L k hk)
  have M:∀(r:Nat),r=i→m≤r→(∀k,k<r→listed.getD k r7=r5)→(∀k,r≤k→listed.getD k r7=r7)→wpList P l.toArray Q (l.drop r) a W→
    (if xL o (yielded l.toArray a.tmps)=r5 then o.wp P a W (fun X W'=>Closed l (listed.setIfInBounds i r5)∧∃j,m≤j∧j≤l.length∧(∀k,j≤k→(listed.setIfInBounds i r5).getD k r7=r7)∧((j=m∧(∃fuel E,eB P l m es cs w0.drew S R vf φ (fun a E=>∀W,S cs.length W→(∀k xs,E k=A xs→φ k W xs)→wpList P l.toArray Q (l.drop m) a W) fuel (listed.setIfInBounds i r5) X E∧S (done cs (listed.setIfInBounds i r5)) W'∧∀k xs,E k=A xs→φ k W' xs))∨(m<j∧(∀k,k<j→(listed.setIfInBounds i r5).getD k r7=r5)∧wpList P l.toArray Q (l.drop j) X W'))) Q∨(o.asks P a W∧LetsOut Q)
     else Closed l (listed.setIfInBounds i r5)∧∃j,m≤j∧j≤l.length∧(∀k,j≤k→(listed.setIfInBounds i r5).getD k r7=r7)∧((j=m∧(∃fuel E,eB P l m es cs w0.drew S R vf φ (fun a E=>∀W,S cs.length W→(∀k xs,E k=A xs→φ k W xs)→wpList P l.toArray Q (l.drop m) a W) fuel (listed.setIfInBounds i r5) (a.put o.dst tT) E∧S (done cs (listed.setIfInBounds i r5)) W∧∀k xs,E k=A xs→φ k W xs))∨(m<j∧(∀k,k<j→(listed.setIfInBounds i r5).getD k r7=r5)∧wpList P l.toArray Q (l.drop j) (a.put o.dst tT) W))):=by
   intro r bk L b bl g;subst bk;rw[List.drop_eq_getElem_cons bd,show l[r]=o from (Fo.1 H).2]at g;unfold wpList at g;have fin:∀X W',wpList P l.toArray Q (l.drop (r+1)) X W'→Closed l (listed.setIfInBounds r r5)∧∃j,m≤j∧j≤l.length∧(∀k,j≤k→(listed.setIfInBounds r r5).getD k r7=r7)∧((j=m∧(∃fuel E,eB P l m es cs w0.drew S R vf φ (fun a E=>∀W,S cs.length W→(∀k xs,E k=A xs→φ k W xs)→wpList P l.toArray Q (l.drop m) a W) fuel (listed.setIfInBounds r r5) X E∧S (done cs (listed.setIfInBounds r r5)) W'∧∀k xs,E k=A xs→φ k W' xs))∨(m<j∧(∀k,k<j→(listed.setIfInBounds r r5).getD k r7=r5)∧wpList P l.toArray Q (l.drop j) X W')):=by
    intro X W' h;refine⟨B,r+1,by omega,by omega,fun k hk=>?_,tS ⟨by omega,fun k hk=>?_,h⟩⟩
    ·rw[bh (by omega)];exact bl k (by omega)
    ·by_cases a7:k=r
     ·subst a7;exact fJ (by omega)
     ·rw[bh (fun e=>a7 e.symm)];exact b k (by omega)
   by_cases t:xL o (yielded l.toArray a.tmps)=r5
   ·rw[oA t]at g ⊢;exact g.imp (Oper.wp_mono (fun X W' hq=>fin X W' hq)) (fun h=>h)
   ·rw[ox t]at g ⊢;exact fin _ _ g
  rcases hI with ⟨rfl,fuel,E,u,T,hE⟩|⟨br,b,g⟩
  ·by_cases L:j≤i
   ·have aq:j=i:=by
     rcases Nat.lt_or_ge j i with h|h
     ·have x:=n L j h;rw[c j (ET _)]at x;cases x
     ·omega
    have b:∀k,k<j→listed.getD k r7=true:=fun k hk=>n L k (by omega)
    refine M j aq (ET _) b c ?_;have ar:dT l j listed=[]:=by
     rw[List.eq_nil_iff_forall_not_mem];intro q hq;obtain⟨x,h2⟩:=be.1 hq;have:=ff x;rw[b q h2]at this;cases this
    have hQ:∀W,S cs.length W→(∀k xs,E k=A xs→φ k W xs)→wpList P l.toArray Q (l.drop j) a W:=by
     cases fuel with
     | zero=>exact u.2
     | succ fuel=>exact u.1 ar
    exact hQ W (by rw[←mh t6 b];exact T) hE
   ·have bn:i<j:=by omega
    have N:∀k,j≤k→(listed.setIfInBounds i r5).getD k r7=false:=fun k hk=>by rw[bh (by omega)];exact c k hk
    have av:i∈dT l j listed:=be.2 ⟨C,bn⟩;obtain⟨y,hf⟩:∃f',fuel=f'+1:=by
     cases fuel with
     | zero=>have:=u.1;rw[this]at av;cases av
     | succ f=>exact⟨f,Z⟩
    subst hf;obtain⟨p1,p2⟩:=(ez H).1 (u.2 i av);have hC:Cl l cs S i W:=⟨_,xl p d C,T⟩;unfold pre at p1;unfold val env at p2
    by_cases t:xL o (yielded l.toArray a.tmps)=r5
    ·rw[oA t]at p1 ⊢;simp only[t,o4]at p2
     left
     cases ad:es.contains i with
     | true =>
      simp only[ad,o4]at p1 p2;refine (p1 W hC (fun D=>by rw[←(iJ t6 p d C D).1];exact T) (fun k xs _ he=>hE k xs he)).wp (fun v W' hg=>?_);obtain⟨xs,rfl,x,h2,h3⟩:=hg;refine⟨B,j,ET _,U,N,tE ⟨Z,y,_,p2 xs,?_,fun k ys he=>?_⟩⟩
      ·cases D:cs.contains i with
       | true=>simp only[D,o4]at x;rw[(iJ t6 p d C D).2];exact x
       | false=>simp only[D,Fx,oX]at x;rw[iC D];exact a8 i ad D _ _ _ T x
      ·unfold ups at he
       by_cases a1:k=i
       ·rw[oA a1]at he;injection he with he;subst he a1;exact h3
       ·rw[ox a1]at he;exact ba k W W' ys (hE k ys he) ⟨_,T⟩ h2
     | false =>
      simp only[ad,Fx,oX]at p1 p2;have bq:cs.contains i=false:=by
       cases D:cs.contains i with
       | false=>rfl
       | true=>have:=(t6 i (by simpa using D)).2.1;rw[ad]at this;cases this
      have fin:∀v,v=fw P w0.drew o a→Closed l (listed.setIfInBounds i r5)∧∃z,j≤z∧z≤l.length∧(∀k,z≤k→(listed.setIfInBounds i r5).getD k r7=r7)∧((z=j∧(∃fuel E,eB P l j es cs w0.drew S R vf φ (fun a E=>∀W,S cs.length W→(∀k xs,E k=A xs→φ k W xs)→wpList P l.toArray Q (l.drop j) a W) fuel (listed.setIfInBounds i r5) (a.put o.dst v) E∧S (done cs (listed.setIfInBounds i r5)) W∧∀k xs,E k=A xs→φ k W xs))∨(j<z∧(∀k,k<z→(listed.setIfInBounds i r5).getD k r7=r5)∧wpList P l.toArray Q (l.drop z) (a.put o.dst v) W)):=by
       rintro v rfl;exact⟨B,j,ET _,U,N,tE ⟨Z,y,E,p2 [],by rw[iC bq];exact T,hE⟩⟩
      unfold Oper.wp;rcases p1 W hC with h|⟨h,hv⟩
      ·rw[h,Oper.upon_value];exact fin _ Z
      ·rw[h,Oper.upon_skip];exact fin _ hv.symm
    ·rw[ox t]at p1 ⊢;simp only[t]at p2;refine⟨B,j,ET _,U,N,tE ⟨Z,y,E,p2 [],?_,hE⟩⟩
     cases D:cs.contains i with
     | true =>
      obtain⟨d1,d2⟩:=iJ t6 p d C D;rw[d2];exact p1 W D (by rw[←d1];exact T)
     | false=>rw[iC D];exact T
  ·have aq:j=i:=by
    rcases Nat.lt_trichotomy i j with h|h|h
    ·rw[b i h]at af;cases af
    ·exact h.symm
    ·have x:=n (by omega) j h;rw[c j (ET _)]at x;cases x
   exact M j aq (by omega) b c g
 ·intro listed a W hI ak hr;obtain⟨p,j,bc,U,c,hI⟩:=hI;have d:listed.size=l.length:=by simpa using ak
  have b:=l9 t4 d (ET l.length) (fun i C=>by rw[hr]at C;cases C);have hj:j=l.length:=by
   rcases Nat.lt_or_ge j l.length with h|h
   ·have x:=b j h;rw[c j (ET _)]at x;cases x
   ·omega
  rcases hI with ⟨rfl,fuel,E,u,T,hE⟩|⟨_,_,g⟩
  ·have ar:dT l j listed=[]:=by unfold dT;rw[hr];rfl
   have hQ:∀W,S cs.length W→(∀k xs,E k=A xs→φ k W xs)→wpList P l.toArray Q (l.drop j) a W:=by
    cases fuel with
    | zero=>exact u.2
    | succ fuel=>exact u.1 ar
   have h:=hQ W (by rw[←mh t6 (fun i C=>b i (by omega))];exact T) hE;rw[List.drop_eq_nil_of_le (by omega)]at h;exact h
  ·rw[List.drop_eq_nil_of_le (by omega)]at g;exact g
section
variable {Q:Act→(Nat→Option (List r3))→Prop} {i:Nat} {o:wg} {rest:List wg} {a:Act} {E:Nat→Option (List r3)}
theorem h(C:p7→Prop)(e:∀s W,s≤lim l cs i→S s W→C W)(g:tI o.op=r5)(he:es.contains i=r7)(d:cs.contains i=r7)(j:S 0 w0)
  (h:wpQuiet P l.toArray C (fun k=>wpE P l es cs w0 S R vf φ Q (i+1) rest k E) [o] a):wpE P l es cs w0 S R vf φ Q i (o::rest) a E:=by
 unfold wpQuiet at h
 show bV P l es cs w0 S R vf φ i o _ a E
 unfold bV pre val env
 by_cases hw:xL o (yielded l.toArray a.tmps)=r5
 ·rw[oA hw]at h ⊢;simp only[hw,o4,he,Fx,oX];obtain⟨v,p,q⟩:=h;have key:∀w,C w→(execOp a.eval o).run P w=.ok (.value v) w∨((execOp a.eval o).run P w=.ok .skip w∧v=tT):=fun w b=>by
   have c:=p w b;have t:∀f xs w',(execOp a.eval o).run P w≠.ok (.enter f xs) w':=fun f xs w'=>qp a.eval o g
   unfold Oper.quietAt at c;generalize (execOp a.eval o).run P w=r at *
   cases r with
   | ok n w' =>
    cases n<;>simp only[Oper.quietUpon]at c
    case value u=>obtain⟨rfl,rfl⟩:=c;exact tE Z
    case skip=>obtain⟨rfl,rfl⟩:=c;exact tS ⟨Z,Z⟩
    case enter f args=>exact absurd Z (t f args w')
   | halt x w'=>simp only[Oper.quietUpon]at c
  have hv:fw P w0 o a=v:=by
   unfold fw;rcases key w0 (e 0 w0 (Fi _) j) with h|⟨h,rfl⟩
   ·rw[h]
   ·rw[h]
  rw[hv];refine⟨fun w b=>?_,fun _=>q⟩;rw[hv];obtain⟨s,y,z⟩:=b;exact key w (e s w y z)
 ·rw[ox hw]at h ⊢;simp only[hw];exact⟨fun W B=>absurd B (by rw[d];decide),fun _=>h⟩
theorem b(hw:xL o (yielded l.toArray a.tmps)=r5)(he:es.contains i=r5)(b:Ob P l cs S R vf φ i o a E)(h:∀xs,wpE P l es cs w0 S R vf φ Q (i+1) rest (a.put o.dst (vf i xs)) (ups E i xs)) :
  wpE P l es cs w0 S R vf φ Q i (o::rest) a E:=by
 show bV P l es cs w0 S R vf φ i o _ a E
 unfold bV pre val env;simp only[hw,o4,he];exact⟨b,h⟩
theorem wpE_off(hw:xL o (yielded l.toArray a.tmps)=r7)(b:∀W,cs.contains i=r5→S (upto cs i) W→S (upto cs (i+1)) W)(h:wpE P l es cs w0 S R vf φ Q (i+1) rest (a.put o.dst tT) E) :
  wpE P l es cs w0 S R vf φ Q i (o::rest) a E:=by
 show bV P l es cs w0 S R vf φ i o _ a E
 unfold bV pre val env;simp only[hw,Fx,oX];exact⟨b,fun _=>h⟩
theorem q(h:Q a E):wpE P l es cs w0 S R vf φ Q i [] a E:=h
end
end
end Go.Proofs.YtmpekinjoeibbaaGreatDoor.RE
namespace Go.Proofs.YtmpekinjoeibbaaGreatDoor.RE
open Go.RowKit
def Two(a b:p7):={W:p7 // W=a∨W=b}
instance (a b:p7):Nonempty (Two a b):=⟨⟨a,tE Z⟩⟩
def Di(a b W:p7):Prop:=∃x:Two a b,W=x.1
theorem Two.b{a b:p7}{p:Addr}{v:r3}(c:a.cell? p=A v)(d:b.cell? p=A v)(x:Two a b):x.1.cell? p=A v:=by
 obtain⟨W,rfl|rfl⟩:=x
 ·exact c
 ·exact d
theorem qG{a b:p7}:Di a b a:=⟨⟨a,tE Z⟩,Z⟩
theorem xc{a b:p7}:Di a b b:=⟨⟨b,tS Z⟩,Z⟩
theorem y{a b:p7}{n:Nat}:∀s W,s≤n→(if s=0 then W=a else W=b)→∃x:Two a b,W=x.1:=fun s W _ h=>by
 split at h
 ·rw[h];exact qG
 ·rw[h];exact xc
theorem one_class{a b:p7}{n:Nat}(c:n=0):∀s W,s≤n→(if s=0 then W=a else W=b)→∃x:Two a a,W=x.1:=fun s W d h=>by
 rw[oA (by omega)]at h;rw[h];exact qG
def natOf(xs:List r3):Nat:=match xs.getD 0 tT with | .int _ g=>g.toNat|_=>0
def Gr(w:p7) (Q:Nat):={W:p7 // w.grownBy W (A Q)}
instance (w:p7) (Q:Nat):Nonempty (Gr w Q):=⟨⟨w,oT w _⟩⟩
theorem Gr.b{w:p7}{Q:Nat}(x:Gr w Q){p:Addr}{v:r3}(h:w.cell? p=A v)(b:p.block≠Q):x.1.cell? p=A v:=by
 have c:=x.2.block p.block (World.block_lt_of_cell? w p h) (by rintro e;injection e with e;exact b e)
 have e:x.1.cell? p=w.cell? p:=by unfold World.cell?;rw[c]
 rw[e];exact h
section
variable {P:Program} {o:wg} {a:Act} {w:p7} {G:r3→p7→Prop}
theorem Upon.mono{c:r3→p7→Prop}(h:∀v w',G v w'→c v w')(b:Upon P o a w G):Upon P o a w c:=by
 unfold Upon at *;generalize (execOp a.eval o).run P w=r at *
 cases r with
 | ok n w' =>
  cases n<;>simp only at b ⊢
  case value u=>exact h _ _ b
  case skip=>exact h _ _ b
  case enter f args=>exact b.mono fun e d ⟨v,he,g⟩=>⟨v,he,h _ _ g⟩
 | halt x w'=>exact b.elim
theorem Upon.told{v:r3}{w':p7}(h:Upon P o a w (fun u x=>u=v∧x=w'))(b:G v w'):Upon P o a w G:=h.mono fun _ _ ⟨c,d⟩=>by rw[c,d];exact b
theorem upon_run{v:r3}{w':p7}(h:(execOp a.eval o).run P w=.ok (.value v) w')(b:G v w'):Upon P o a w G:=by unfold Upon;rw[h];exact b
theorem upon_skip{w':p7}(h:(execOp a.eval o).run P w=.ok .skip w')(b:G tT w'):Upon P o a w G:=by unfold Upon;rw[h];exact b
theorem upon_enter{f:FuncId}{vs:Array r3}(h:(execOp a.eval o).run P w=.ok (.enter f vs) w)(b:Calls P f vs w (fun e w'=>∃v,e=Ending.returned v∧G v w')):Upon P o a w G:=by unfold Upon;rw[h];exact b
theorem u(f:FuncId)(args:Array Operand)(c:Array TypeId)(d:o.op=.call { callee:=.value (.func f),args:=args,argTypes:=c })(b:∀(xs:Array r3)(w:p7),(callFunc f xs).run P w=.ok (.enter f xs) w)
  (vs:Array r3) (hv:args.map a.eval=vs) (g:Calls P f vs w (fun e w'=>∃v,e=Ending.returned v∧G v w')):Upon P o a w G:=by
 refine upon_enter (f:=f) (vs:=vs) ?_ g;have he:=b vs w;have h:a.eval (.func f)=Value.func (.func f) #[] #[]:=rfl;simp[execOp,d,resolve,Deferred.ofValue,h,hv,invoke,he]
theorem run_store_agg(ty:TypeId)(x y:Operand)(c:o.op=.store ty x y)(b off:Nat)(cells:Array r3)(d:a.eval x=Value.pointer (A ⟨b,off,none⟩))(e:a.eval y=Value.agg cells)
  (f:w.there b off cells.size) (g:(P.info? ty).map (·.size)=A cells.size) (h:cells.all (·.oneCell')=r5):(execOp a.eval o).run P w=.ok .skip (w.setCells b off cells.toList):=by
 unfold execOp;simp only[c,d,e,Instr.storeAt,Instr.sureAddr,o8,ph,Result.andThen_ok,run_storeVar_mid w b off ty cells f g h]
end
end Go.Proofs.YtmpekinjoeibbaaGreatDoor.RE
namespace Go.Proofs.YtmpekinjoeibbaaGreatDoor.RE
open Go.RowKit
section
variable {P:Program} {l:List wg} {w0:p7}
end
end Go.Proofs.YtmpekinjoeibbaaGreatDoor.RE
