/- Parts of one proof, joined; conditions stand in each theorem. -/
import Derived.Test.YtkhfjgjjhlnnnaaGreatDoorMRI
import Derived.ArgAppend
import Derived.Deep.MidRow
open Go renaming World→vk,Value→vn,Oper→At,undef→xD
open Bool renaming true→wg,false→wj
open Option renaming some→Y
open Go.Region renaming wanted→B4
open Or renaming inl→wP,inr→xj
namespace Go.Proofs.YtkhfjgjjhlnnnaaGreatDoor.RE
open Go.RowKit
theorem jf{P:Program}{w w':vk}{f:FuncId}{xs:Array vn}{α:Type}(s:Sem α)(g:α→vn):(s >>= fun v=>(pure (Next.value (g v)):Sem Next)).run P w≠.ok (.enter f xs) w':=by
 rw[tv]
 cases s.run P w with
 | ok v w1=>simp[Result.andThen,Sem.run_pure]
 | halt h w1=>simp[Result.andThen]
theorem BS{P:Program}{w w':vk}{f:FuncId}{xs:Array vn}(b:Operand→vn)(x:Operand)(d:Option Tmp)(ty:TypeId)(pos:String)(c:Array Edge)(g:Option (Nat×Bool)):(execOp b ⟨d,.nilCheck x,ty,pos,c,g⟩).run P w≠.ok (.enter f xs) w':=by
 simp only[execOp]
 (repeat' split)<;>first
  | (simp[runtimePanic,Sem.run_pure,go_sem];done)
  | skip
 rw[tv]
 cases (program).run P w with
 | halt h w1=>simp[Result.andThen]
 | ok p w1 =>
  simp only[Result.andThen];rw[tv]
  rename_i t y _
  cases (nilAhead (p.types.size+Made.depth) _ _ _).run P w1 with
  | halt h w1=>simp[Result.andThen]
  | ok p w1 =>
   simp only[Result.andThen]
   split
   ·rw[tv]
    cases (unsupported _:Sem Unit).run P w1 with
    | halt h w1=>simp[Result.andThen]
    | ok p w1=>simp[Result.andThen,Sem.run_pure]
   ·simp[Sem.run_pure]
def tG:Op→Bool
 | .move _ | .assign _ | .load .. | .binOp .. | .unOp .. | .convert .. | .sliceToArrayPointer .. | .makeInterface .. | .makeFunc .. | .slice .. | .fieldAddr .. | .field .. | .indexAddr .. | .index .. | .lookup .. | .extract .. | .build .. | .typeAssert .. | .pick .. | .nilCheck _=>wg
 | .call { callee:=.builtin .len,.. } | .call { callee:=.builtin .max,.. } | .call { callee:=.builtin .min,.. } | .call { callee:=.builtin .cap,.. }=>wg
 | _=>wj
theorem qz{P:Program}{w w':vk}{f:FuncId}{xs:Array vn}(d:Operand→vn)(o:At)(h:tG o.op=wg):(execOp d o).run P w≠.ok (.enter f xs) w':=by
 obtain⟨dst,op,type,pos,after,guard⟩:=o
 cases op<;>first
  | (simp only[tG]at h;cases h;done)
  | (exact jf _ id)
  | (exact jf _ _)
  | (simp[execOp,Sem.run_pure];done)
  | exact BS d _ _ _ _ _ _
  | skip
 case call c =>
  obtain⟨callee,args,e⟩:=c
  cases callee with
  | value f=>cases h
  | invoke r m=>cases h
  | builtin b =>
   cases b<;>first
    | (cases h;done)
    | (exact jf (Builtin.len_ _ _ _) id)
    | (exact jf (Builtin.max_ _ _ _) id)
    | (exact jf (Builtin.min_ _ _ _) id)
    | (exact jf (Builtin.cap_ _ _ _) id)
def aT(l:List At):Nat→Nat→Nat→Bool
 | 0,_,_=>wj
 | f+1,j,i=>match l[j]? with
  | some o=>o.after.any fun e=>Region.binds .any e&&(decide (e.on=i)||aT l f e.on i)
  | none=>wj
def Closed(l:List At) (listed:Array Bool):Prop:=∀(i:Nat) (o:At),l[i]?=Y o→listed.getD i wj=wg→∀e∈o.after,Region.binds .any e=wg→listed.getD e.on wj=wg
theorem dE{l:List At}{listed:Array Bool}(n:Closed l listed):∀(f j i:Nat) (o:At),l[j]?=Y o→(∀e∈o.after,Region.binds .any e=wg→listed.getD e.on wj=wg)→aT l f j i=wg→listed.getD i wj=true:=by
 intro f
 induction f with
 | zero=>intro j i o _ _ h;cases h
 | succ f p =>
  intro j i o q r h;unfold aT at h;rw[q]at h;obtain⟨e,he,d⟩:=Array.any_eq_true'.1 h;simp only[FG,Bool.or_eq_true,r8]at d;have g:=r e he d.1;rcases d.2 with b|b
  ·rw[←b];exact g
  ·cases f with
   | zero=>cases b
   | succ f =>
    cases c:l[e.on]? with
    | none=>unfold aT at b;rw[c]at b;cases b
    | some k=>exact p e.on i k c (n e.on k c g) b
theorem fY{listed:Array Bool}{i:Nat}(h:i<listed.size):(listed.setIfInBounds i wg).getD i wj=true:=by simp[h]
theorem bp{listed:Array Bool}{i j:Nat}(h:i≠j):(listed.setIfInBounds i wg).getD j wj=listed.getD j false:=by simp[h]
theorem iq{n i:Nat}:(Array.replicate n wj).getD i wj=false:=by
 by_cases h:i<n
 ·simp[h]
 ·simp[h]
def tidy(l:List At) (m:Nat) (es cs:List Nat):Bool:=
 Region.lexB .any l.toArray&&decide (m≤l.length)&&((List.range l.length).all fun i=>match l[i]? with
  | none=>wg
  | some o=>o.after.all (fun e=>!Region.binds .any e||decide (e.on<i))&&(decide (i<m)||(List.range i).all fun k=>aT l l.length i k)) &&
 cs.all (fun i=>decide (i<m)&&es.contains i&&cs.all fun k=>decide (i≤k)||aT l l.length i k)
section
variable {P:Program} {l:List At} {m:Nat} {es cs:List Nat} {w0:vk} {S:Nat→vk→Prop} {R:vk→vk→Prop} {vf:Nat→List vn→vn} {φ:Nat→vk→List vn→Prop}
def upto(cs:List Nat) (i:Nat):Nat:=(cs.filter (fun k=>decide (k<i))).length
def lim(l:List At) (cs:List Nat) (i:Nat):Nat:=(cs.filter (fun c=>!aT l l.length c i)).length
def Cl(l:List At) (cs:List Nat) (S:Nat→vk→Prop) (i:Nat) (W:vk):Prop:=∃s,s≤lim l cs i∧S s W
def ups(E:Nat→Option (List vn)) (i:Nat) (xs:List vn):Nat→Option (List vn):=fun k=>if k=i then Y xs else E k
def Upon(P:Program) (o:At) (a:Act) (W:vk) (G:vn→vk→Prop):Prop:=
 match (execOp a.eval o).run P W with
 | .ok (.value v) W'=>G v W'
 | .ok .skip W'=>G xD W'
 | .ok (.enter f args) W'=>Calls P f args W' (fun e b=>∃v,e=Ending.returned v∧G v b)
 | _=>False
theorem Upon.wp{o:At}{a:Act}{W:vk}{G:vn→vk→Prop}{K:Act→vk→Prop}{Q:Exit→Act→vk→Prop}(h:Upon P o a W G)(b:∀v W',G v W'→K (a.put o.dst v) W'):o.wp P a W K Q:=by
 unfold Upon at h;unfold Oper.wp;generalize (execOp a.eval o).run P W=r at *
 cases r with
 | ok n w' =>
  cases n<;>simp only[Oper.upon]at h ⊢
  case value u=>exact b _ _ h
  case skip=>exact b _ _ h
  case enter f args=>exact h.mono fun e c ⟨v,he,d⟩=>by subst he;exact b _ _ d
 | halt x w'=>exact h.elim
def Ob(P:Program) (l:List At) (cs:List Nat) (S:Nat→vk→Prop) (R:vk→vk→Prop) (vf:Nat→List vn→vn) (φ:Nat→vk→List vn→Prop) (i:Nat) (o:At) (a:Act) (E:Nat→Option (List vn)):Prop:=
 ∀W:vk,Cl l cs S i W→(cs.contains i=wg→S (upto cs i) W)→(∀k xs,aT l l.length i k=wg→E k=Y xs→φ k W xs)→
  Upon P o a W (fun v W'=>∃xs,v=vf i xs∧(if cs.contains i=wg then S (upto cs (i+1)) W' else Gc W W')∧R W W'∧φ i W' xs)
def fJ(P:Program) (w0:vk) (o:At) (a:Act):Value:=match (execOp a.eval o).run P w0 with | .ok (.value v) _=>v|_=>xD
def ov(P:Program) (C:vk→Prop) (w0:vk) (o:At) (a:Act):Prop:=∀w,C w→(execOp a.eval o).run P w=.ok (.value (fJ P w0 o a)) w∨((execOp a.eval o).run P w=.ok .skip w∧fJ P w0 o a=xD)
def pre(P:Program) (l:List At) (es cs:List Nat) (w0:vk) (S:Nat→vk→Prop) (R:vk→vk→Prop) (vf:Nat→List vn→vn) (φ:Nat→vk→List vn→Prop) (i:Nat) (o:At) (a:Act) (E:Nat→Option (List vn)):Prop:=
 if B4 o (yielded l.toArray a.tmps)=wg then (if es.contains i=wg then Ob P l cs S R vf φ i o a E else ov P (Cl l cs S i) w0 o a)
 else ∀W,cs.contains i=wg→S (upto cs i) W→S (upto cs (i+1)) W
def val(P:Program) (l:List At) (es:List Nat) (w0:vk) (vf:Nat→List vn→vn) (i:Nat) (o:At) (a:Act) (xs:List vn):Value:=
 if B4 o (yielded l.toArray a.tmps)=wg then (if es.contains i=wg then vf i xs else fJ P w0 o a) else xD
def env(l:List At) (es:List Nat) (i:Nat) (o:At) (a:Act) (E:Nat→Option (List vn)) (xs:List vn):Nat→Option (List vn):=
 if B4 o (yielded l.toArray a.tmps)=wg then (if es.contains i=wg then ups E i xs else E) else E
def cj(P:Program) (l:List At) (es cs:List Nat) (w0:vk) (S:Nat→vk→Prop) (R:vk→vk→Prop) (vf:Nat→List vn→vn) (φ:Nat→vk→List vn→Prop) (i:Nat) (o:At) (K:Act→(Nat→Option (List vn))→Prop) (a:Act) (E:Nat→Option (List vn)):Prop:=
 pre P l es cs w0 S R vf φ i o a E∧∀xs,K (a.put o.dst (val P l es w0 vf i o a xs)) (env l es i o a E xs)
def wpE(P:Program) (l:List At) (es cs:List Nat) (w0:vk) (S:Nat→vk→Prop) (R:vk→vk→Prop) (vf:Nat→List vn→vn) (φ:Nat→vk→List vn→Prop) (Q:Act→(Nat→Option (List vn))→Prop):Nat→List At→Act→(Nat→Option (List vn))→Prop
 | _,[],a,E=>Q a E
 | i,o::rest,a,E=>cj P l es cs w0 S R vf φ i o (wpE P l es cs w0 S R vf φ Q (i+1) rest) a E
def dV(l:List At) (m:Nat) (listed:Array Bool):List Nat:=(Region.ready .any l.toArray listed).filter (fun i=>decide (i<m))
def lX(P:Program) (l:List At) (es cs:List Nat) (w0:vk) (S:Nat→vk→Prop) (R:vk→vk→Prop) (vf:Nat→List vn→vn) (φ:Nat→vk→List vn→Prop) (i:Nat) (K:Act→(Nat→Option (List vn))→Prop) (a:Act) (E:Nat→Option (List vn)):Prop:=
 match l[i]? with
 | none=>K a E
 | some o=>cj P l es cs w0 S R vf φ i o K a E
def eE(P:Program) (l:List At) (m:Nat) (es cs:List Nat) (w0:vk) (S:Nat→vk→Prop) (R:vk→vk→Prop) (vf:Nat→List vn→vn) (φ:Nat→vk→List vn→Prop) (Q:Act→(Nat→Option (List vn))→Prop):Nat→Array Bool→Act→(Nat→Option (List vn))→Prop
 | 0,listed,a,E=>dV l m listed=[]∧Q a E
 | fuel+1,listed,a,E=>(dV l m listed=[]→Q a E)∧∀i∈dV l m listed,lX P l es cs w0 S R vf φ i (eE P l m es cs w0 S R vf φ Q fuel (listed.setIfInBounds i wg)) a E
theorem xA{i j:Nat}{d c:At}(y:i≠j)(z:d.apart l.toArray c=wg)(B:∀cs b,d.op≠.select cs b)(C:∀cs b,c.op≠.select cs b)(D:aT l l.length i j=wj)(H:aT l l.length j i=wj)
  {K:Act→(Nat→Option (List vn))→Prop} {a:Act} {E:Nat→Option (List vn)}
  (h:cj P l es cs w0 S R vf φ i d (cj P l es cs w0 S R vf φ j c K) a E):cj P l es cs w0 S R vf φ j c (cj P l es cs w0 S R vf φ i d K) a E:=by
 obtain⟨n,p,T⟩:=Oper.apart_spec z;have L:∀v,B4 c (yielded l.toArray (a.put d.dst v).tmps)=B4 c (yielded l.toArray a.tmps):=fun v=>wanted_put c a d.dst v n
 have M:∀v,B4 d (yielded l.toArray (a.put c.dst v).tmps)=B4 d (yielded l.toArray a.tmps):=fun v=>wanted_put d a c.dst v T
 have X:∀v,execOp (a.put d.dst v).eval c=execOp a.eval c:=fun v=>execOp_put c C a d.dst v n
 have xi:∀v,execOp (a.put c.dst v).eval d=execOp a.eval d:=fun v=>execOp_put d B a c.dst v T
 have vj:∀v xs,val P l es w0 vf j c (a.put d.dst v) xs=val P l es w0 vf j c a xs:=fun v xs=>by unfold val fJ;rw[L,X]
 have vi:∀v xs,val P l es w0 vf i d (a.put c.dst v) xs=val P l es w0 vf i d a xs:=fun v xs=>by unfold val fJ;rw[M,xi]
 have obj:∀v F,(∀k,aT l l.length j k=wg→F k=E k)→(pre P l es cs w0 S R vf φ j c (a.put d.dst v) F↔pre P l es cs w0 S R vf φ j c a E):=fun v F hF=>by
  unfold pre Ob Upon ov fJ;rw[L,X];have:∀W,(∀k xs,aT l l.length j k=wg→F k=Y xs→φ k W xs)↔(∀k xs,aT l l.length j k=wg→E k=Y xs→φ k W xs):=fun W =>⟨fun h k xs g he=>h k xs g (by rw[hF k g];exact he),fun h k xs g he=>h k xs g (by rw[←hF k g];exact he)⟩
  simp only[this]
 have N:∀v F,(∀k,aT l l.length i k=wg→F k=E k)→(pre P l es cs w0 S R vf φ i d (a.put c.dst v) F↔pre P l es cs w0 S R vf φ i d a E):=fun v F hF=>by
  unfold pre Ob Upon ov fJ;rw[M,xi];have:∀W,(∀k xs,aT l l.length i k=wg→F k=Y xs→φ k W xs)↔(∀k xs,aT l l.length i k=wg→E k=Y xs→φ k W xs):=fun W =>⟨fun h k xs g he=>h k xs g (by rw[hF k g];exact he),fun h k xs g he=>h k xs g (by rw[←hF k g];exact he)⟩
  simp only[this]
 have f:∀(q k:Nat) (xs:List vn),aT l l.length k q=wj→∀k',aT l l.length k k'=wg→ups E q xs k'=E k':=fun q k xs hr k' r=>by unfold ups;rw[r5];rintro rfl;rw[hr]at r;cases r
 have s:∀xs k,aT l l.length j k=wg→env l es i d a E xs k=E k:=fun xs k g=>by
  unfold env;split
  ·split
   ·exact f i j xs H k g
   ·rfl
  ·rfl
 have t:∀xs k,aT l l.length i k=wg→env l es j c a E xs k=E k:=fun xs k g=>by
  unfold env;split
  ·split
   ·exact f j i xs D k g
   ·rfl
  ·rfl
 have x:∀v u xs ys,env l es j c (a.put d.dst v) (env l es i d a E xs) ys=env l es i d (a.put c.dst u) (env l es j c a E ys) xs:=fun v u xs ys=>by
  unfold env;rw[L,M];have hc:ups (ups E i xs) j ys=ups (ups E j ys) i xs:=by
   funext k;unfold ups
   by_cases n:k=j
   ·rw[r6 n,r5 (fun e=>y (e.symm.trans n)),r6 n]
   ·by_cases p:k=i
    ·rw[r5 n,r6 p,r6 p]
    ·rw[r5 n,r5 p,r5 p,r5 n]
  repeat' split
  all_goals first|rfl|exact hc
 obtain⟨p1,p2⟩:=h;refine⟨(obj _ _ (s [])).1 (p2 []).1,fun ys=>⟨(N _ _ (t ys)).2 p1,fun xs=>?_⟩⟩;have h4:=(p2 xs).2 ys;rw[vj,Act.put_comm a _ _ p,x _ (val P l es w0 vf j c a ys)]at h4;rw[vi];exact h4
theorem gG{i:Nat}{o:At}{K b:Act→(Nat→Option (List vn))→Prop}(c:∀a E,K a E→b a E){a:Act}{E:Nat→Option (List vn)}(h:cj P l es cs w0 S R vf φ i o K a E):cj P l es cs w0 S R vf φ i o b a E:=⟨h.1,fun xs=>c _ _ (h.2 xs)⟩
theorem eA{i:Nat}{o:At}(b:l[i]?=Y o){K:Act→(Nat→Option (List vn))→Prop}{a:Act}{E:Nat→Option (List vn)}:lX P l es cs w0 S R vf φ i K a E↔cj P l es cs w0 S R vf φ i o K a E:=by unfold lX;rw[b]
theorem bj{listed:Array Bool}{i:Nat}:i∈dV l m listed↔i∈Region.ready .any l.toArray listed∧i<m:=by unfold dV;rw[List.mem_filter,r8]
theorem iF{listed:Array Bool}(s:Closed l listed)(t:listed.size=l.length)(n:∀(k:Nat)(o:At),l[k]?=Y o→∀e∈o.after,Region.binds .any e=wg→e.on<k){i:Nat}(u:i∈Region.ready .any l.toArray listed):Closed l (listed.setIfInBounds i wg):=by
 obtain⟨v,o,x,d⟩:=mem_ready.1 u;have c:l[i]?=Y o:=by simpa using x
 have y:i<l.length:=(FD.1 c).1;intro k ok b f e he p
 by_cases g:k=i
 ·subst g;rw[c]at b;injection b with b
  subst b;have q:=d e he p;have r:k≠e.on:=fun h=>by have:=n k _ c e he p;omega
  rw[bp r];exact q
 ·rw[bp (fun h=>g h.symm)]at f;have q:=s k ok b f e he p
  by_cases j:i=e.on
  ·rw[←j];exact fY (by omega)
  ·rw[bp j];exact q
theorem lz{Q:Act→(Nat→Option (List vn))→Prop}{i:Nat}{oi:At}(F:l[i]?=Y oi)(r:∀(j:Nat)(o:At) cs b,l.toArray[j]?=Y o→o.op≠.select cs b)(ak:∀(k:Nat)(o:At),l[k]?=Y o→∀e∈o.after,Region.binds .any e=wg→e.on<k) :
  ∀(fuel:Nat) (listed:Array Bool) (a:Act) (E:Nat→Option (List vn)),
   (∀j n,l.toArray[j]?=Y n→j≠i→listed.getD j wg=wj→(∀e∈n.after,Region.binds .any e=wg→e.on≠i)→oi.apart l.toArray n=wg)→
   listed.size=l.length→Closed l listed→i∈dV l m listed→
   lX P l es cs w0 S R vf φ i (eE P l m es cs w0 S R vf φ Q fuel (listed.setIfInBounds i wg)) a E→eE P l m es cs w0 S R vf φ Q (fuel+1) listed a E:=by
 intro fuel
 induction fuel with
 | zero =>
  intro listed a E _ _ _ v H;refine⟨fun h=>(by rw[h]at v;cases v),fun j K=>?_⟩
  by_cases c:j=i
  ·subst c;exact H
  ·have h1:=(((eA F).1 H).2 []).1;have:j∈dV l m (listed.setIfInBounds i wg):=bj.2 ⟨ready_mono (bj.1 K).1 c,(bj.1 K).2⟩;rw[h1]at this
   cases this
 | succ fuel ih =>
  intro listed a E d L x v H;refine⟨fun h=>(by rw[h]at v;cases v),fun j K=>?_⟩
  by_cases c:j=i
  ·subst c;exact H
  ·have y:=(bj.1 K).1;have M:=(bj.1 v).1;have H':=(eA F).1 H;obtain⟨f,n,z,s⟩:=mem_ready.1 y;obtain⟨t,B,u,C⟩:=mem_ready.1 M;have N:B=oi:=by rw[show l.toArray[i]?=Y oi by simpa using F]at u;injection u with h;exact h.symm
   subst N;have g:l[j]?=Y n:=by simpa using z
   have D:∀q,listed.getD q wg=wj→listed.getD q wj=false:=fun q h=>by
    rcases Nat.lt_or_ge q listed.size with h' | h'
    ·simp[h']at h ⊢;exact h
    ·simp[Array.getElem?_eq_none h']at h
   have T:∀e∈n.after,Region.binds .any e=wg→e.on≠i:=fun e he hb heq=>by
    have h1:=s e he hb;rw[heq,D i t]at h1;cases h1
   have W:aT l l.length i j=false:=by
    cases hc:aT l l.length i j with
    | false=>rfl
    | true=>have:=dE x _ i j _ F C hc;rw[D j f]at this;cases this
   have X:aT l l.length j i=false:=by
    cases hc:aT l l.length j i with
    | false=>rfl
    | true=>have:=dE x _ j i _ g s hc;rw[D i t]at this;cases this
   have p:∀k ok,l.toArray[k]?=Y ok→k≠i→(listed.setIfInBounds j wg).getD k wg=wj→
     (∀e∈ok.after,Region.binds .any e=wg→e.on≠i)→B.apart l.toArray ok=true:=fun k ok hk al ad aq=>by
    refine d k ok hk al ?_ aq
    by_cases af:j=k
    ·subst af;exact f
    ·rw[getD_set_ne wg af]at ad;exact ad
   have ar:cj P l es cs w0 S R vf φ j n (cj P l es cs w0 S R vf φ i B (eE P l m es cs w0 S R vf φ Q fuel ((listed.setIfInBounds i wg).setIfInBounds j wg))) a E:=by
    refine xA (fun e=>c e.symm) (d j n z c f T) (fun cs b=>r i _ cs b (by simpa using F)) (fun cs b=>r j n cs b z) W X ?_;refine gG (fun a' E' h3=>?_) H';have h4:=h3.2 j (bj.2 ⟨ready_mono y c,(bj.1 K).2⟩);exact (eA g).1 h4
   rw[eA g];refine gG (fun a' E' h3=>?_) ar;refine ih (listed.setIfInBounds j wg) a' E' p (by simpa using L) (iF x L ak y) (bj.2 ⟨ready_mono M (Ne.symm c),(bj.1 v).2⟩) ?_;rw[eA F,Array.setIfInBounds_comm _ _ c];exact h3
theorem j5{Q:Act→(Nat→Option (List vn))→Prop}(x:Region.noSelect l.toArray=wg)(c:∀(k:Nat)(o:At),l[k]?=Y o→∀e∈o.after,Region.binds .any e=wg→e.on<k):∀(r:List At) (k fuel:Nat) (listed:Array Bool) (a:Act) (E:Nat→Option (List vn)),(∀j,j<r.length→r[j]?=l[k+j]?)→k+r.length=m→r.length≤fuel→
  (∀i,i<k→listed.getD i wj=wg)→listed.size=l.length→Closed l listed→Region.lexFrom .any l.toArray fuel k listed=wg→wpE P l es cs w0 S R vf φ Q k r a E→eE P l m es cs w0 S R vf φ Q r.length listed a E
 | [],k,fuel,listed,a,E,_,b,_,d,_,_,_,h=>by
  refine⟨?_,h⟩;rw[List.eq_nil_iff_forall_not_mem];intro i y;obtain⟨B,M⟩:=bj.1 y;have g:=(mem_ready.1 B).1;have u:=d i (by simp at b;omega);have:i<listed.size:=by
   rcases Nat.lt_or_ge i listed.size with h|h
   ·exact h
   ·simp[Array.getElem?_eq_none h]at g
  simp[this]at g u;rw[g]at u;cases u
 | o::r,k,fuel,listed,a,E,z,b,n,d,f,p,hB,h=>by
  have t:l[k]?=Y o:=by simpa using (z 0 (by simp)).symm
  obtain⟨fuel,rfl⟩:∃C,fuel=C+1:=⟨fuel-1,by simp at n;omega⟩;simp only[Region.lexFrom,FG]at hB;obtain⟨⟨D,F⟩,v⟩:=hB;have q:k∈Region.ready .any l.toArray listed:=by simpa using D
  have H:k<l.length:=(FD.1 t).1;refine lz t (Region.noSelect_spec x) c r.length listed a E (Region.free_spec (by simpa using t) F) f p (bj.2 ⟨q,by simp at b;omega⟩) ?_;rw[eA t];refine gG (fun K L g=>?_) h;refine j5 x c r (k+1) fuel _ K L (fun j N=>by have:=z (j+1) (by simp;omega);simpa [Nat.add_assoc,Nat.add_comm 1 j]using this) (by simp at b;omega) (by simp at n;omega) (fun i y=>?_) (by simpa using f) (iF p f c q) v g
  by_cases s:k=i
  ·subst s;exact fY (by omega)
  ·rw[bp s];exact d i (by omega)
theorem qJ(h:tidy l m es cs=wg):Region.noSelect l.toArray=wg∧Region.lexFrom .any l.toArray l.length 0 (Array.replicate l.length wj)=wg∧m≤l.length∧
  (∀(k:Nat) (o:At),l[k]?=Y o→∀e∈o.after,Region.binds .any e=wg→e.on<k)∧(∀(i:Nat) (o:At),l[i]?=Y o→m≤i→∀k,k<i→aT l l.length i k=wg)∧
  (∀i∈cs,i<m∧es.contains i=wg∧∀k∈cs,k<i→aT l l.length i k=wg):=by
 unfold tidy at h;simp only[FG,r8]at h;obtain⟨⟨⟨f,n⟩,p⟩,q⟩:=h;unfold Region.lexB at f;simp only[FG]at f;have at_:∀(i:Nat) (o:At),l[i]?=Y o→(∀e∈o.after,Region.binds .any e=wg→e.on<i)∧(m≤i→∀k,k<i→aT l l.length i k=wg):=fun i o c=>by
  have g:i<l.length:=(FD.1 c).1;have b:=FW.1 p i (List.mem_range.2 g);rw[c]at b;simp only[FG,Bool.or_eq_true,r8]at b;refine⟨fun e he r=>?_,fun hm k j=>?_⟩
  ·have:=Array.all_eq_true_iff_forall_mem.1 b.1 e he
   simpa [r]using this
  ·rcases b.2 with d|d
   ·omega
   ·exact FW.1 d k (List.mem_range.2 j)
 refine⟨f.1,by simpa using f.2,n,fun k o c=>(at_ k o c).1,fun i o c hm=>(at_ i o c).2 hm,fun i g=>?_⟩;have b:=FW.1 q i g;simp only[FG,r8,FW,Bool.or_eq_true]at b;refine⟨b.1.1,b.1.2,fun k j s=>?_⟩;rcases b.2 k j with d|d
 ·omega
 ·exact d
def done(cs:List Nat) (listed:Array Bool):Nat:=(cs.filter (fun k=>listed.getD k wj)).length
theorem fq{listed:Array Bool}{i:Nat}(h:i∈Region.ready .any l.toArray listed):listed.getD i wj=false:=by
 have b:=(mem_ready.1 h).1;rcases Nat.lt_or_ge i listed.size with c | c
 ·simp[c]at b ⊢;exact b
 ·simp[Array.getElem?_eq_none c]at b
theorem mj(b:∀(k:Nat)(o:At),l[k]?=Y o→∀e∈o.after,Region.binds .any e=wg→e.on<k){listed:Array Bool}(g:listed.size=l.length){n:Nat}(r:n≤l.length)(h:∀i∈Region.ready .any l.toArray listed,n≤i):∀i,i<n→listed.getD i wj=true:=by
 intro i
 induction i using Nat.strongRecOn with
 | _ i j =>
  intro s
  cases d:listed.getD i wj with
  | true=>rfl
  | false =>
   exfalso
   obtain⟨o,f⟩:∃o,l[i]?=Y o:=⟨l[i]'(by omega),Fq _⟩;have:i∈Region.ready .any l.toArray listed:=by
    refine mem_ready.2 ⟨?_,o,by simpa using f,fun e he p=>?_⟩
    ·have c:i<listed.size:=by omega
     simp[c]at d ⊢;exact d
    ·have q:=b i o f e he p;exact j e.on q (by omega)
   have:=h i this;omega
theorem iN(s:∀i∈cs,i<m∧es.contains i=wg∧∀k∈cs,k<i→aT l l.length i k=wg){listed:Array Bool}(d:Closed l listed){i:Nat}(v:listed.size=l.length)(t:i∈Region.ready .any l.toArray listed)(r:cs.contains i=wg) :
  done cs listed=upto cs i∧done cs (listed.setIfInBounds i wg)=upto cs (i+1):=by
 obtain⟨_,o,x,f⟩:=mem_ready.1 t;have g:l[i]?=Y o:=by simpa using x
 have y:i<l.length:=(FD.1 g).1;have j:=fq t;have c:i∈cs:=by simpa using r
 have key:∀k∈cs,listed.getD k wj=decide (k<i):=fun k q=>by
  by_cases e:k<i
  ·rw[decide_eq_true e];exact dE d _ i k o g f ((s i c).2.2 k q e)
  ·rw[r7 e]
   by_cases b:k=i
   ·subst b;exact j
   ·cases u:listed.getD k wj with
    | false=>rfl
    | true =>
     have n:k<l.length:=by
      rcases Nat.lt_or_ge k listed.size with h|h
      ·omega
      ·simp[Array.getElem?_eq_none h]at u
     obtain⟨ok,p⟩:∃o,l[k]?=Y o:=⟨l[k]'n,Fq n⟩;have:=dE d _ k i ok p (d k ok p u) ((s k q).2.2 i c (by omega));rw[j]at this;cases this
 refine⟨?_,?_⟩
 ·unfold done upto;rw[List.filter_congr key]
 ·unfold done upto;rw[List.filter_congr fun k q=>?_]
  by_cases b:i=k
  ·subst b;rw[fY (by omega)];simp
  ·rw[bp b,key k q]
   by_cases h:k<i
   ·simp[h];omega
   ·simp[h];omega
theorem iG{listed:Array Bool}{i:Nat}(b:cs.contains i=wj):done cs (listed.setIfInBounds i wg)=done cs listed:=by
 unfold done;rw[List.filter_congr fun k c=>?_];have:i≠k:=by rintro rfl;simp at b;exact b c
 exact bp this
theorem wT{listed:Array Bool}(d:Closed l listed){i:Nat}(j:listed.size=l.length)(k:i∈Region.ready .any l.toArray listed):done cs listed≤lim l cs i:=by
 unfold done lim;rw[←List.countP_eq_length_filter,←List.countP_eq_length_filter];refine List.countP_mono_left fun c p f=>?_
 have b:c<l.length:=by
  rcases Nat.lt_or_ge c listed.size with h|h
  ·omega
  ·simp[Array.getElem?_eq_none h]at f
 obtain⟨g,e⟩:∃o,l[c]?=Y o:=⟨l[c]'b,Fq b⟩
 cases n:aT l l.length c i with
 | false=>rfl
 | true =>
  have:=dE d _ c i g e (d c g e f) n;rw[fq k]at this;cases this
theorem mB(b:∀i∈cs,i<m∧es.contains i=wg∧∀k∈cs,k<i→aT l l.length i k=wg){listed:Array Bool}(h:∀i,i<m→listed.getD i wj=wg):done cs listed=cs.length:=by
 unfold done;rw[List.filter_eq_self.2 fun k c=>h k (b k c).1]
theorem q{id:Nat}{Q:Exit→Act→vk→Prop}{a0:Act}(hm:P.follows .mixedOrders=wg)(m:Nat)(es cs:List Nat)(S:Nat→vk→Prop)(R:vk→vk→Prop)(vf:Nat→List vn→vn)(φ:Nat→vk→List vn→Prop)
  (ht:tidy l m es cs=wg)
  (ba:∀i,es.contains i=wg→cs.contains i=wj→∀s W W',S s W→Gc W W'→S s W') (bb:∀k W W' xs,φ k W xs→(∃s,S s W)→R W W'→φ k W' xs)
  (bc:S 0 w0.drew)
  (h:wpE P l es cs w0.drew S R vf φ (fun a E=>∀W,S cs.length W→(∀k xs,E k=Y xs→φ k W xs)→wpList P l.toArray Q (l.drop m) a W) 0 (l.take m) a0 (fun _=>none)) :
  (Code.region id l.toArray wg).wp P Q a0 w0:=by
 obtain⟨t1,t2,t3,t4,t5,t6⟩:=qJ ht;have hlen:(l.take m).length=m:=by rw[List.length_take];omega
 have F:=j5 (m:=m) t1 t4 (l.take m) 0 l.length (Array.replicate l.length wj) a0 (fun _=>none) (fun j hj=>by rw[List.getElem?_take,r6 (by omega),Nat.zero_add]) (by omega) (by omega) (fun i C=>by omega) (by simp) (fun i o _ hl=>by rw[iq]at hl;cases hl) t2 h;rw[hlen]at F;refine mH hm (fun listed a W=>Closed l listed∧∃j,m≤j∧j≤l.length∧(∀i,j≤i→listed.getD i wj=wj)∧((j=m∧(∃fuel E,eE P l m es cs w0.drew S R vf φ (fun a E=>∀W,S cs.length W→(∀k xs,E k=Y xs→φ k W xs)→wpList P l.toArray Q (l.drop m) a W) fuel listed a E∧S (done cs listed) W∧∀k xs,E k=Y xs→φ k W xs))∨(m<j∧(∀i,i<j→listed.getD i wj=wg)∧wpList P l.toArray Q (l.drop j) a W))) ?_ ?_ ?_
 ·refine⟨fun i o _ hl=>(by rw[iq]at hl;cases hl),m,Fj _,t3,fun i _=>iq,wP ⟨V,m,_,F,?_,fun k xs h=>by cases h⟩⟩;have:done cs (Array.replicate l.length wj)=0:=by
   unfold done;rw[List.filter_eq_nil_iff.2 fun k _=>by rw[iq];simp];rfl
  rw[this];exact bc
 ·intro listed a W i hI ak C;obtain⟨p,j,bd,X,c,hI⟩:=hI;have d:listed.size=l.length:=by simpa using ak
  obtain⟨bB,o,ho,a1⟩:=mem_ready.1 C;have H:l[i]?=Y o:=by simpa using ho
  have bk:i<l.length:=(FD.1 H).1;have af:=fq C;have B:=iF p d t4 C;have hw:wpOp P l.toArray Q i=fun K a W=>if B4 o (yielded l.toArray a.tmps)=wg then o.wp P a W K Q∨(o.asks P a W∧LetsOut Q) else K (a.put o.dst xD) W:=by funext K a W;unfold wpOp;simp only[ho]
  rw[hw]
  show (if B4 o (yielded l.toArray a.tmps)=wg then _ else _)
  have n:m≤i→∀k,k<i→listed.getD k wj=true:=fun L k hk=>dE p _ i k o H a1 (t5 i o H L k hk)
  have M:∀(r:Nat),r=i→m≤r→(∀k,k<r→listed.getD k wj=wg)→(∀k,r≤k→listed.getD k wj=wj)→wpList P l.toArray Q (l.drop r) a W→
    (if B4 o (yielded l.toArray a.tmps)=wg then o.wp P a W (fun a' W'=>Closed l (listed.setIfInBounds i wg)∧∃j,m≤j∧j≤l.length∧(∀k,j≤k→(listed.setIfInBounds i wg).getD k wj=wj)∧((j=m∧(∃fuel E,eE P l m es cs w0.drew S R vf φ (fun a E=>∀W,S cs.length W→(∀k xs,E k=Y xs→φ k W xs)→wpList P l.toArray Q (l.drop m) a W) fuel (listed.setIfInBounds i wg) a' E∧S (done cs (listed.setIfInBounds i wg)) W'∧∀k xs,E k=Y xs→φ k W' xs))∨(m<j∧(∀k,k<j→(listed.setIfInBounds i wg).getD k wj=wg)∧wpList P l.toArray Q (l.drop j) a' W'))) Q∨(o.asks P a W∧LetsOut Q)
     else Closed l (listed.setIfInBounds i wg)∧∃j,m≤j∧j≤l.length∧(∀k,j≤k→(listed.setIfInBounds i wg).getD k wj=wj)∧((j=m∧(∃fuel E,eE P l m es cs w0.drew S R vf φ (fun a E=>∀W,S cs.length W→(∀k xs,E k=Y xs→φ k W xs)→wpList P l.toArray Q (l.drop m) a W) fuel (listed.setIfInBounds i wg) (a.put o.dst xD) E∧S (done cs (listed.setIfInBounds i wg)) W∧∀k xs,E k=Y xs→φ k W xs))∨(m<j∧(∀k,k<j→(listed.setIfInBounds i wg).getD k wj=wg)∧wpList P l.toArray Q (l.drop j) (a.put o.dst xD) W))):=by
   intro r bl L b bn g;subst bl;rw[List.drop_eq_getElem_cons bk,show l[r]=o from (FD.1 H).2]at g;unfold wpList at g;have fin:∀a' W',wpList P l.toArray Q (l.drop (r+1)) a' W'→Closed l (listed.setIfInBounds r wg)∧∃j,m≤j∧j≤l.length∧(∀k,j≤k→(listed.setIfInBounds r wg).getD k wj=wj)∧((j=m∧(∃fuel E,eE P l m es cs w0.drew S R vf φ (fun a E=>∀W,S cs.length W→(∀k xs,E k=Y xs→φ k W xs)→wpList P l.toArray Q (l.drop m) a W) fuel (listed.setIfInBounds r wg) a' E∧S (done cs (listed.setIfInBounds r wg)) W'∧∀k xs,E k=Y xs→φ k W' xs))∨(m<j∧(∀k,k<j→(listed.setIfInBounds r wg).getD k wj=wg)∧wpList P l.toArray Q (l.drop j) a' W')):=by
    intro a' W' h;refine⟨B,r+1,by omega,by omega,fun k hk=>?_,xj ⟨by omega,fun k hk=>?_,h⟩⟩
    ·rw[bp (by omega)];exact bn k (by omega)
    ·by_cases a6:k=r
     ·subst a6;exact fY (by omega)
     ·rw[bp (fun e=>a6 e.symm)];exact b k (by omega)
   by_cases t:B4 o (yielded l.toArray a.tmps)=wg
   ·rw[r6 t]at g ⊢;exact g.imp (Oper.wp_mono (fun a' W' hq=>fin a' W' hq)) (fun h=>h)
   ·rw[r5 t]at g ⊢;exact fin _ _ g
  rcases hI with ⟨rfl,fuel,E,u,T,hE⟩|⟨bt,b,g⟩
  ·by_cases L:j≤i
   ·have al:j=i:=by
     rcases Nat.lt_or_ge j i with h|h
     ·have x:=n L j h;rw[c j (Fj _)]at x;cases x
     ·omega
    have b:∀k,k<j→listed.getD k wj=true:=fun k hk=>n L k (by omega)
    refine M j al (Fj _) b c ?_;have aq:dV l j listed=[]:=by
     rw[List.eq_nil_iff_forall_not_mem];intro q hq;obtain⟨x,h2⟩:=bj.1 hq;have:=fq x;rw[b q h2]at this;cases this
    have hQ:∀W,S cs.length W→(∀k xs,E k=Y xs→φ k W xs)→wpList P l.toArray Q (l.drop j) a W:=by
     cases fuel with
     | zero=>exact u.2
     | succ fuel=>exact u.1 aq
    exact hQ W (by rw[←mB t6 b];exact T) hE
   ·have bq:i<j:=by omega
    have N:∀k,j≤k→(listed.setIfInBounds i wg).getD k wj=false:=fun k hk=>by rw[bp (by omega)];exact c k hk
    have ar:i∈dV l j listed:=bj.2 ⟨C,bq⟩;obtain⟨y,hf⟩:∃f',fuel=f'+1:=by
     cases fuel with
     | zero=>have:=u.1;rw[this]at ar;cases ar
     | succ f=>exact⟨f,V⟩
    subst hf;obtain⟨p1,p2⟩:=(eA H).1 (u.2 i ar);have hC:Cl l cs S i W:=⟨_,wT p d C,T⟩;unfold pre at p1;unfold val env at p2
    by_cases t:B4 o (yielded l.toArray a.tmps)=wg
    ·rw[r6 t]at p1 ⊢;simp only[t,sy]at p2
     left
     cases ad:es.contains i with
     | true =>
      simp only[ad,sy]at p1 p2;refine (p1 W hC (fun D=>by rw[←(iN t6 p d C D).1];exact T) (fun k xs _ he=>hE k xs he)).wp (fun v W' hg=>?_);obtain⟨xs,rfl,x,h2,h3⟩:=hg;refine⟨B,j,Fj _,X,N,wP ⟨V,y,_,p2 xs,?_,fun k ys he=>?_⟩⟩
      ·cases D:cs.contains i with
       | true=>simp only[D,sy]at x;rw[(iN t6 p d C D).2];exact x
       | false=>simp only[D,FO,sn]at x;rw[iG D];exact ba i ad D _ _ _ T x
      ·unfold ups at he
       by_cases av:k=i
       ·rw[r6 av]at he;injection he with he;subst he av;exact h3
       ·rw[r5 av]at he;exact bb k W W' ys (hE k ys he) ⟨_,T⟩ h2
     | false =>
      simp only[ad,FO,sn]at p1 p2;have br:cs.contains i=false:=by
       cases D:cs.contains i with
       | false=>rfl
       | true=>have:=(t6 i (by simpa using D)).2.1;rw[ad]at this;cases this
      have fin:∀v,v=fJ P w0.drew o a→Closed l (listed.setIfInBounds i wg)∧∃z,j≤z∧z≤l.length∧(∀k,z≤k→(listed.setIfInBounds i wg).getD k wj=wj)∧((z=j∧(∃fuel E,eE P l j es cs w0.drew S R vf φ (fun a E=>∀W,S cs.length W→(∀k xs,E k=Y xs→φ k W xs)→wpList P l.toArray Q (l.drop j) a W) fuel (listed.setIfInBounds i wg) (a.put o.dst v) E∧S (done cs (listed.setIfInBounds i wg)) W∧∀k xs,E k=Y xs→φ k W xs))∨(j<z∧(∀k,k<z→(listed.setIfInBounds i wg).getD k wj=wg)∧wpList P l.toArray Q (l.drop z) (a.put o.dst v) W)):=by
       rintro v rfl;exact⟨B,j,Fj _,X,N,wP ⟨V,y,E,p2 [],by rw[iG br];exact T,hE⟩⟩
      unfold Oper.wp;rcases p1 W hC with h|⟨h,hv⟩
      ·rw[h,Oper.upon_value];exact fin _ V
      ·rw[h,Oper.upon_skip];exact fin _ hv.symm
    ·rw[r5 t]at p1 ⊢;simp only[t]at p2;refine⟨B,j,Fj _,X,N,wP ⟨V,y,E,p2 [],?_,hE⟩⟩
     cases D:cs.contains i with
     | true =>
      obtain⟨d1,d2⟩:=iN t6 p d C D;rw[d2];exact p1 W D (by rw[←d1];exact T)
     | false=>rw[iG D];exact T
  ·have al:j=i:=by
    rcases Nat.lt_trichotomy i j with h|h|h
    ·rw[b i h]at af;cases af
    ·exact h.symm
    ·have x:=n (by omega) j h;rw[c j (Fj _)]at x;cases x
   exact M j al (by omega) b c g
 ·intro listed a W hI ak hr;obtain⟨p,j,bd,X,c,hI⟩:=hI;have d:listed.size=l.length:=by simpa using ak
  have b:=mj t4 d (Fj l.length) (fun i C=>by rw[hr]at C;cases C);have hj:j=l.length:=by
   rcases Nat.lt_or_ge j l.length with h|h
   ·have x:=b j h;rw[c j (Fj _)]at x;cases x
   ·omega
  rcases hI with ⟨rfl,fuel,E,u,T,hE⟩|⟨_,_,g⟩
  ·have aq:dV l j listed=[]:=by unfold dV;rw[hr];rfl
   have hQ:∀W,S cs.length W→(∀k xs,E k=Y xs→φ k W xs)→wpList P l.toArray Q (l.drop j) a W:=by
    cases fuel with
    | zero=>exact u.2
    | succ fuel=>exact u.1 aq
   have h:=hQ W (by rw[←mB t6 (fun i C=>b i (by omega))];exact T) hE;rw[List.drop_eq_nil_of_le (by omega)]at h;exact h
  ·rw[List.drop_eq_nil_of_le (by omega)]at g;exact g
section
variable {Q:Act→(Nat→Option (List vn))→Prop} {i:Nat} {o:At} {rest:List At} {a:Act} {E:Nat→Option (List vn)}
theorem b(C:vk→Prop)(e:∀s W,s≤lim l cs i→S s W→C W)(j:tG o.op=wg)(he:es.contains i=wj)(d:cs.contains i=wj)(k:S 0 w0)
  (h:wpQuiet P l.toArray C (fun p=>wpE P l es cs w0 S R vf φ Q (i+1) rest p E) [o] a):wpE P l es cs w0 S R vf φ Q i (o::rest) a E:=by
 unfold wpQuiet at h
 show cj P l es cs w0 S R vf φ i o _ a E
 unfold cj pre val env
 by_cases hw:B4 o (yielded l.toArray a.tmps)=wg
 ·rw[r6 hw]at h ⊢;simp only[hw,sy,he,FO,sn];obtain⟨v,q,t⟩:=h;have key:∀w,C w→(execOp a.eval o).run P w=.ok (.value v) w∨((execOp a.eval o).run P w=.ok .skip w∧v=xD):=fun w b=>by
   have c:=q w b;have y:∀f xs w',(execOp a.eval o).run P w≠.ok (.enter f xs) w':=fun f xs w'=>qz a.eval o j
   unfold Oper.quietAt at c;generalize (execOp a.eval o).run P w=r at *
   cases r with
   | ok n w' =>
    cases n<;>simp only[Oper.quietUpon]at c
    case value u=>obtain⟨rfl,rfl⟩:=c;exact wP V
    case skip=>obtain⟨rfl,rfl⟩:=c;exact xj ⟨V,V⟩
    case enter f args=>exact absurd V (y f args w')
   | halt x w'=>simp only[Oper.quietUpon]at c
  have g:fJ P w0 o a=v:=by
   unfold fJ;rcases key w0 (e 0 w0 (FA _) k) with h|⟨h,rfl⟩
   ·rw[h]
   ·rw[h]
  rw[g];refine⟨fun w b=>?_,fun _=>t⟩;rw[g];obtain⟨s,z,B⟩:=b;exact key w (e s w z B)
 ·rw[r5 hw]at h ⊢;simp only[hw];exact⟨fun W D=>absurd D (by rw[d];decide),fun _=>h⟩
theorem f(hw:B4 o (yielded l.toArray a.tmps)=wg)(he:es.contains i=wg)(b:Ob P l cs S R vf φ i o a E)(h:∀xs,wpE P l es cs w0 S R vf φ Q (i+1) rest (a.put o.dst (vf i xs)) (ups E i xs)) :
  wpE P l es cs w0 S R vf φ Q i (o::rest) a E:=by
 show cj P l es cs w0 S R vf φ i o _ a E
 unfold cj pre val env;simp only[hw,sy,he];exact⟨b,h⟩
theorem wpE_off(hw:B4 o (yielded l.toArray a.tmps)=wj)(b:∀W,cs.contains i=wg→S (upto cs i) W→S (upto cs (i+1)) W)(h:wpE P l es cs w0 S R vf φ Q (i+1) rest (a.put o.dst xD) E) :
  wpE P l es cs w0 S R vf φ Q i (o::rest) a E:=by
 show cj P l es cs w0 S R vf φ i o _ a E
 unfold cj pre val env;simp only[hw,FO,sn];exact⟨b,fun _=>h⟩
theorem h(h:Q a E):wpE P l es cs w0 S R vf φ Q i [] a E:=h
end
end
end Go.Proofs.YtkhfjgjjhlnnnaaGreatDoor.RE
namespace Go.Proofs.YtkhfjgjjhlnnnaaGreatDoor.RE
open Go.RowKit
def Two(a b:vk):={W:vk // W=a∨W=b}
instance (a b:vk):Nonempty (Two a b):=⟨⟨a,wP V⟩⟩
def Dt(a b W:vk):Prop:=∃x:Two a b,W=x.1
theorem Two.b{a b:vk}{p:Addr}{v:vn}(c:a.cell? p=Y v)(d:b.cell? p=Y v)(x:Two a b):x.1.cell? p=Y v:=by
 obtain⟨W,rfl|rfl⟩:=x
 ·exact c
 ·exact d
theorem qR{a b:vk}:Dt a b a:=⟨⟨a,wP V⟩,V⟩
theorem wL{a b:vk}:Dt a b b:=⟨⟨b,xj V⟩,V⟩
theorem u{a b:vk}{n:Nat}:∀s W,s≤n→(if s=0 then W=a else W=b)→∃x:Two a b,W=x.1:=fun s W _ h=>by
 split at h
 ·rw[h];exact qR
 ·rw[h];exact wL
theorem one_class{a b:vk}{n:Nat}(c:n=0):∀s W,s≤n→(if s=0 then W=a else W=b)→∃x:Two a a,W=x.1:=fun s W d h=>by
 rw[r6 (by omega)]at h;rw[h];exact qR
def natOf(xs:List vn):Nat:=match xs.getD 0 xD with | .int _ g=>g.toNat|_=>0
def Gr(w:vk) (Q:Nat):={W:vk // w.grownBy W (Y Q)}
instance (w:vk) (Q:Nat):Nonempty (Gr w Q):=⟨⟨w,sm w _⟩⟩
theorem Gr.b{w:vk}{Q:Nat}(x:Gr w Q){p:Addr}{v:vn}(h:w.cell? p=Y v)(b:p.block≠Q):x.1.cell? p=Y v:=by
 have c:=x.2.block p.block (World.block_lt_of_cell? w p h) (by rintro e;injection e with e;exact b e)
 have e:x.1.cell? p=w.cell? p:=by unfold World.cell?;rw[c]
 rw[e];exact h
section
variable {P:Program} {o:At} {a:Act} {w:vk} {G:vn→vk→Prop}
theorem Upon.mono{c:vn→vk→Prop}(h:∀v w',G v w'→c v w')(b:Upon P o a w G):Upon P o a w c:=by
 unfold Upon at *;generalize (execOp a.eval o).run P w=r at *
 cases r with
 | ok n w' =>
  cases n<;>simp only at b ⊢
  case value u=>exact h _ _ b
  case skip=>exact h _ _ b
  case enter f args=>exact b.mono fun e d ⟨v,he,g⟩=>⟨v,he,h _ _ g⟩
 | halt x w'=>exact b.elim
theorem Upon.told{v:vn}{w':vk}(h:Upon P o a w (fun u x=>u=v∧x=w'))(b:G v w'):Upon P o a w G:=h.mono fun _ _ ⟨c,d⟩=>by rw[c,d];exact b
theorem upon_run{v:vn}{w':vk}(h:(execOp a.eval o).run P w=.ok (.value v) w')(b:G v w'):Upon P o a w G:=by unfold Upon;rw[h];exact b
theorem y{w':vk}(h:(execOp a.eval o).run P w=.ok .skip w')(b:G xD w'):Upon P o a w G:=by unfold Upon;rw[h];exact b
theorem upon_enter{f:FuncId}{vs:Array vn}(h:(execOp a.eval o).run P w=.ok (.enter f vs) w)(b:Calls P f vs w (fun e w'=>∃v,e=Ending.returned v∧G v w')):Upon P o a w G:=by unfold Upon;rw[h];exact b
theorem t(f:FuncId)(args:Array Operand)(c:Array TypeId)(d:o.op=.call { callee:=.value (.func f),args:=args,argTypes:=c })(b:∀(xs:Array vn)(w:vk),(callFunc f xs).run P w=.ok (.enter f xs) w)
  (vs:Array vn) (g:args.map a.eval=vs) (h:Calls P f vs w (fun e w'=>∃v,e=Ending.returned v∧G v w')):Upon P o a w G:=by
 refine upon_enter (f:=f) (vs:=vs) ?_ h;have he:=b vs w;have j:a.eval (.func f)=Value.func (.func f) #[] #[]:=rfl;simp[execOp,d,resolve,Deferred.ofValue,j,g,invoke,he]
theorem z(ty:TypeId)(x y:Operand)(c:o.op=.store ty x y)(b off:Nat)(cells:Array vn)(d:a.eval x=Value.pointer (Y ⟨b,off,none⟩))(e:a.eval y=Value.agg cells)
  (f:w.there b off cells.size) (g:(P.info? ty).map (·.size)=Y cells.size) (h:cells.all (·.oneCell')=wg):(execOp a.eval o).run P w=.ok .skip (w.setCells b off cells.toList):=by
 unfold execOp;simp only[c,d,e,Instr.storeAt,Instr.sureAddr,tv,th,Result.andThen_ok,run_storeVar_mid w b off ty cells f g h]
end
end Go.Proofs.YtkhfjgjjhlnnnaaGreatDoor.RE
namespace Go.Proofs.YtkhfjgjjhlnnnaaGreatDoor.RE
open Go.RowKit
section
variable {P:Program} {l:List At} {w0:vk}
end
end Go.Proofs.YtkhfjgjjhlnnnaaGreatDoor.RE
