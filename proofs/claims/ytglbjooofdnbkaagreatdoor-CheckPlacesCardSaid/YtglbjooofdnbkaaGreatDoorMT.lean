/- Several texts joined, each with its own sentence and conditions ahead of it: RegE, RegF. -/
import Derived.Test.YtglbjooofdnbkaaGreatDoorMRI
import Derived.ArgAppend
import Derived.Deep.MidRow
namespace Go.Proofs.YtglbjooofdnbkaaGreatDoor.RE
open Go.RowKit
theorem run_value {P:Program}{w w':World}{f:FuncId}{xs:Array Value}{α:Type}(s:Sem α)(g:α→Value):(s >>= fun v=>(pure (Next.value (g v)):Sem Next)).run P w≠.ok (.enter f xs) w':=by
 rw[Sem.run_bind]
 cases s.run P w with
 | ok v w1=>simp[Result.andThen,Sem.run_pure]
 | halt h w1=>simp[Result.andThen]
theorem calm_nil {P:Program}{w w':World}{f:FuncId}{xs:Array Value}(ρ:Operand→Value)(x:Operand)(d:Option Tmp)(ty:TypeId)(pos:String)(af:Array Edge)(g:Option (Nat×Bool)):(execOp ρ ⟨d,.nilCheck x,ty,pos,af,g⟩).run P w≠.ok (.enter f xs) w':=by
 simp only[execOp]
 (repeat' split)<;>first
  | (simp[runtimePanic,Sem.run_pure,go_sem];done)
  | skip
 rw[Sem.run_bind]
 cases (program).run P w with
 | halt h w1=>simp[Result.andThen]
 | ok p w1 =>
  simp only[Result.andThen]
  rw[Sem.run_bind]
  rename_i t y _
  cases (nilAhead (p.types.size+Made.depth) _ _ _).run P w1 with
  | halt h w1=>simp[Result.andThen]
  | ok p w1 =>
   simp only[Result.andThen]
   split
   ·rw[Sem.run_bind]
    cases (unsupported _:Sem Unit).run P w1 with
    | halt h w1=>simp[Result.andThen]
    | ok p w1=>simp[Result.andThen,Sem.run_pure]
   ·simp[Sem.run_pure]
def calmB:Op→Bool
 | .move _ | .assign _ | .load .. | .binOp .. | .unOp .. | .convert .. | .sliceToArrayPointer .. | .makeInterface .. | .makeFunc .. | .slice .. | .fieldAddr .. | .field .. | .indexAddr .. | .index .. | .lookup .. | .extract .. | .build .. | .typeAssert .. | .pick .. | .nilCheck _=>true
 | .call { callee:=.builtin .len,.. } | .call { callee:=.builtin .max,.. } | .call { callee:=.builtin .min,.. } | .call { callee:=.builtin .cap,.. }=>true
 | _=>false
theorem calm_enter {P:Program}{w w':World}{f:FuncId}{xs:Array Value}(ρ:Operand→Value)(o:Oper)(h:calmB o.op=true):(execOp ρ o).run P w≠.ok (.enter f xs) w':=by
 obtain⟨dst,op,type,pos,after,guard⟩:=o
 cases op<;>first
  | (simp only[calmB] at h;cases h;done)
  | (exact run_value _ id)
  | (exact run_value _ _)
  | (simp[execOp,Sem.run_pure];done)
  | exact calm_nil ρ _ _ _ _ _ _
  | skip
 case call c =>
  obtain⟨callee,args,tys⟩:=c
  cases callee with
  | value f=>cases h
  | invoke r m=>cases h
  | builtin b =>
   cases b<;>first
    | (cases h;done)
    | (exact run_value (Builtin.len_ _ _ _) id)
    | (exact run_value (Builtin.max_ _ _ _) id)
    | (exact run_value (Builtin.min_ _ _ _) id)
    | (exact run_value (Builtin.cap_ _ _ _) id)
def reachB (l:List Oper):Nat→Nat→Nat→Bool
 | 0,_,_=>false
 | f+1,j,i=>match l[j]? with
  | some o=>o.after.any fun e=>Region.binds .any e&&(decide (e.on=i)||reachB l f e.on i)
  | none=>false
def Closed (l:List Oper) (listed:Array Bool):Prop:=∀(i:Nat) (o:Oper),l[i]? = some o→listed.getD i false=true→∀e∈o.after,Region.binds .any e=true→listed.getD e.on false=true
theorem reach_listed {l:List Oper}{listed:Array Bool}(hc:Closed l listed):∀(f j i:Nat)(o:Oper),l[j]? = some o→(∀e∈o.after,Region.binds .any e=true→listed.getD e.on false=true)→reachB l f j i=true→listed.getD i false=true:=by
 intro f
 induction f with
 | zero=>intro j i o _ _ h;cases h
 | succ f ih =>
  intro j i o ho ha h
  unfold reachB at h
  rw[ho] at h
  obtain⟨e,he,h2⟩:=Array.any_eq_true'.1 h
  simp only[Bool.and_eq_true,Bool.or_eq_true,decide_eq_true_eq] at h2
  have hl:=ha e he h2.1
  rcases h2.2 with h3|h3
  ·rw[←h3];exact hl
  ·cases f with
   | zero=>cases h3
   | succ f =>
    cases hoe:l[e.on]? with
    | none=>unfold reachB at h3;rw[hoe] at h3;cases h3
    | some oe=>exact ih e.on i oe hoe (hc e.on oe hoe hl) h3
theorem getD_listed {listed:Array Bool}{i:Nat}(h:i<listed.size):(listed.setIfInBounds i true).getD i false=true:=by simp[h]
theorem getD_listed_other {listed:Array Bool}{i j:Nat}(h:i≠j):(listed.setIfInBounds i true).getD j false=listed.getD j false:=by simp[h]
theorem getD_rep {n i:Nat}:(Array.replicate n false).getD i false=false:=by
 by_cases h:i<n
 ·simp[h]
 ·simp[h]
def tidy (l:List Oper) (m:Nat) (es cs:List Nat):Bool:=
 Region.lexB .any l.toArray&&decide (m≤l.length)&&((List.range l.length).all fun i=>match l[i]? with
  | none=>true
  | some o=>o.after.all (fun e=>!Region.binds .any e||decide (e.on<i))&&(decide (i<m)||(List.range i).all fun k=>reachB l l.length i k)) &&
 cs.all (fun i=>decide (i<m)&&es.contains i&&cs.all fun k=>decide (i≤k)||reachB l l.length i k)
section
variable {P:Program} {l:List Oper} {m:Nat} {es cs:List Nat} {w0:World} {S:Nat→World→Prop} {R:World→World→Prop} {vf:Nat→List Value→Value} {φ:Nat→World→List Value→Prop}
def upto (cs:List Nat) (i:Nat):Nat:=(cs.filter (fun k=>decide (k<i))).length
def lim (l:List Oper) (cs:List Nat) (i:Nat):Nat:=(cs.filter (fun c=>!reachB l l.length c i)).length
def Cl (l:List Oper) (cs:List Nat) (S:Nat→World→Prop) (i:Nat) (W:World):Prop:=∃s,s≤lim l cs i∧S s W
def ups (E:Nat→Option (List Value)) (i:Nat) (xs:List Value):Nat→Option (List Value):=fun k=>if k=i then some xs else E k
def Upon (P:Program) (o:Oper) (a:Act) (W:World) (G:Value→World→Prop):Prop:=
 match (execOp a.eval o).run P W with
 | .ok (.value v) W'=>G v W'
 | .ok .skip W'=>G undef W'
 | .ok (.enter f args) W'=>Calls P f args W' (fun e W''=>∃v,e=.returned v∧G v W'')
 | _=>False
theorem Upon.wp {o:Oper}{a:Act}{W:World}{G:Value→World→Prop}{K:Act→World→Prop}{Q:Exit→Act→World→Prop}(h:Upon P o a W G)(hk:∀v W',G v W'→K (a.put o.dst v) W'):o.wp P a W K Q:=by
 unfold Upon at h
 unfold Oper.wp
 generalize (execOp a.eval o).run P W=r at *
 cases r with
 | ok n w' =>
  cases n<;>simp only[Oper.upon] at h ⊢
  case value u=>exact hk _ _ h
  case skip=>exact hk _ _ h
  case enter f args=>exact h.mono fun e w'' ⟨v,he,hg⟩=>by subst he;exact hk _ _ hg
 | halt x w'=>exact h.elim
def Ob (P:Program) (l:List Oper) (cs:List Nat) (S:Nat→World→Prop) (R:World→World→Prop) (vf:Nat→List Value→Value) (φ:Nat→World→List Value→Prop) (i:Nat) (o:Oper) (a:Act) (E:Nat→Option (List Value)):Prop:=
 ∀W:World,Cl l cs S i W→(cs.contains i=true→S (upto cs i) W)→(∀k xs,reachB l l.length i k=true→E k=some xs→φ k W xs) →
  Upon P o a W (fun v W'=>∃xs,v=vf i xs∧(if cs.contains i=true then S (upto cs (i+1)) W' else Below W.heap.size W W')∧R W W'∧φ i W' xs)
def valAt (P:Program) (w0:World) (o:Oper) (a:Act):Value:=match (execOp a.eval o).run P w0 with | .ok (.value v) _=>v|_=>undef
def Still (P:Program) (C:World→Prop) (w0:World) (o:Oper) (a:Act):Prop:=∀w,C w→(execOp a.eval o).run P w=.ok (.value (valAt P w0 o a)) w∨((execOp a.eval o).run P w=.ok .skip w∧valAt P w0 o a=undef)
def pre (P:Program) (l:List Oper) (es cs:List Nat) (w0:World) (S:Nat→World→Prop) (R:World→World→Prop) (vf:Nat→List Value→Value) (φ:Nat→World→List Value→Prop) (i:Nat) (o:Oper) (a:Act) (E:Nat→Option (List Value)):Prop:=
 if Region.wanted o (yielded l.toArray a.tmps)=true then (if es.contains i=true then Ob P l cs S R vf φ i o a E else Still P (Cl l cs S i) w0 o a)
 else ∀W,cs.contains i=true→S (upto cs i) W→S (upto cs (i+1)) W
def val (P:Program) (l:List Oper) (es:List Nat) (w0:World) (vf:Nat→List Value→Value) (i:Nat) (o:Oper) (a:Act) (xs:List Value):Value:=
 if Region.wanted o (yielded l.toArray a.tmps)=true then (if es.contains i=true then vf i xs else valAt P w0 o a) else undef
def env (l:List Oper) (es:List Nat) (i:Nat) (o:Oper) (a:Act) (E:Nat→Option (List Value)) (xs:List Value):Nat→Option (List Value):=
 if Region.wanted o (yielded l.toArray a.tmps)=true then (if es.contains i=true then ups E i xs else E) else E
def stepE (P:Program) (l:List Oper) (es cs:List Nat) (w0:World) (S:Nat→World→Prop) (R:World→World→Prop) (vf:Nat→List Value→Value) (φ:Nat→World→List Value→Prop) (i:Nat) (o:Oper) (K:Act→(Nat→Option (List Value))→Prop) (a:Act) (E:Nat→Option (List Value)):Prop:=
 pre P l es cs w0 S R vf φ i o a E∧∀xs,K (a.put o.dst (val P l es w0 vf i o a xs)) (env l es i o a E xs)
def wpE (P:Program) (l:List Oper) (es cs:List Nat) (w0:World) (S:Nat→World→Prop) (R:World→World→Prop) (vf:Nat→List Value→Value) (φ:Nat→World→List Value→Prop) (Q:Act→(Nat→Option (List Value))→Prop):Nat→List Oper→Act→(Nat→Option (List Value))→Prop
 | _,[],a,E=>Q a E
 | i,o::rest,a,E=>stepE P l es cs w0 S R vf φ i o (wpE P l es cs w0 S R vf φ Q (i+1) rest) a E
def readyM (l:List Oper) (m:Nat) (listed:Array Bool):List Nat:=(Region.ready .any l.toArray listed).filter (fun i=>decide (i<m))
def qOpE (P:Program) (l:List Oper) (es cs:List Nat) (w0:World) (S:Nat→World→Prop) (R:World→World→Prop) (vf:Nat→List Value→Value) (φ:Nat→World→List Value→Prop) (i:Nat) (K:Act→(Nat→Option (List Value))→Prop) (a:Act) (E:Nat→Option (List Value)):Prop:=
 match l[i]? with
 | none=>K a E
 | some o=>stepE P l es cs w0 S R vf φ i o K a E
def treeE (P:Program) (l:List Oper) (m:Nat) (es cs:List Nat) (w0:World) (S:Nat→World→Prop) (R:World→World→Prop) (vf:Nat→List Value→Value) (φ:Nat→World→List Value→Prop) (Q:Act→(Nat→Option (List Value))→Prop):Nat→Array Bool→Act→(Nat→Option (List Value))→Prop
 | 0,listed,a,E=>readyM l m listed=[]∧Q a E
 | fuel+1,listed,a,E=>(readyM l m listed=[]→Q a E)∧∀i∈readyM l m listed,qOpE P l es cs w0 S R vf φ i (treeE P l m es cs w0 S R vf φ Q fuel (listed.setIfInBounds i true)) a E
theorem swapE {i j:Nat}{oi oj:Oper}(hij:i≠j)(hap:oi.apart l.toArray oj=true)(hsi:∀cs b,oi.op≠.select cs b)(hsj:∀cs b,oj.op≠.select cs b)(hri:reachB l l.length i j=false)(hrj:reachB l l.length j i=false)
  {K:Act→(Nat→Option (List Value))→Prop} {a:Act} {E:Nat→Option (List Value)}
  (h:stepE P l es cs w0 S R vf φ i oi (stepE P l es cs w0 S R vf φ j oj K) a E):stepE P l es cs w0 S R vf φ j oj (stepE P l es cs w0 S R vf φ i oi K) a E:=by
 obtain⟨h1,h2,h3⟩:=Oper.apart_spec hap
 have wj:∀v,Region.wanted oj (yielded l.toArray (a.put oi.dst v).tmps)=Region.wanted oj (yielded l.toArray a.tmps):=fun v=>wanted_put oj a oi.dst v h1
 have wi:∀v,Region.wanted oi (yielded l.toArray (a.put oj.dst v).tmps)=Region.wanted oi (yielded l.toArray a.tmps):=fun v=>wanted_put oi a oj.dst v h3
 have xj:∀v,execOp (a.put oi.dst v).eval oj=execOp a.eval oj:=fun v=>execOp_put oj hsj a oi.dst v h1
 have xi:∀v,execOp (a.put oj.dst v).eval oi=execOp a.eval oi:=fun v=>execOp_put oi hsi a oj.dst v h3
 have vj:∀v xs,val P l es w0 vf j oj (a.put oi.dst v) xs=val P l es w0 vf j oj a xs:=fun v xs=>by unfold val valAt;rw[wj,xj]
 have vi:∀v xs,val P l es w0 vf i oi (a.put oj.dst v) xs=val P l es w0 vf i oi a xs:=fun v xs=>by unfold val valAt;rw[wi,xi]
 have obj:∀v F,(∀k,reachB l l.length j k=true→F k=E k)→(pre P l es cs w0 S R vf φ j oj (a.put oi.dst v) F↔pre P l es cs w0 S R vf φ j oj a E):=fun v F hF=>by
  unfold pre Ob Upon Still valAt
  rw[wj,xj]
  have:∀W,(∀k xs,reachB l l.length j k=true→F k=some xs→φ k W xs)↔(∀k xs,reachB l l.length j k=true→E k=some xs→φ k W xs):=fun W =>
   ⟨fun h k xs hk he=>h k xs hk (by rw[hF k hk];exact he),fun h k xs hk he=>h k xs hk (by rw[←hF k hk];exact he)⟩
  simp only[this]
 have obi:∀v F,(∀k,reachB l l.length i k=true→F k=E k)→(pre P l es cs w0 S R vf φ i oi (a.put oj.dst v) F↔pre P l es cs w0 S R vf φ i oi a E):=fun v F hF=>by
  unfold pre Ob Upon Still valAt
  rw[wi,xi]
  have:∀W,(∀k xs,reachB l l.length i k=true→F k=some xs→φ k W xs)↔(∀k xs,reachB l l.length i k=true→E k=some xs→φ k W xs):=fun W =>
   ⟨fun h k xs hk he=>h k xs hk (by rw[hF k hk];exact he),fun h k xs hk he=>h k xs hk (by rw[←hF k hk];exact he)⟩
  simp only[this]
 have upsOther:∀(q k:Nat) (xs:List Value),reachB l l.length k q=false→∀k',reachB l l.length k k'=true→ups E q xs k'=E k':=fun q k xs hr k' hk'=>by
  unfold ups;rw[if_neg];rintro rfl;rw[hr] at hk';cases hk'
 have envI:∀xs k,reachB l l.length j k=true→env l es i oi a E xs k=E k:=fun xs k hk=>by
  unfold env;split
  ·split
   ·exact upsOther i j xs hrj k hk
   ·rfl
  ·rfl
 have envJ:∀xs k,reachB l l.length i k=true→env l es j oj a E xs k=E k:=fun xs k hk=>by
  unfold env;split
  ·split
   ·exact upsOther j i xs hri k hk
   ·rfl
  ·rfl
 have envC:∀v u xs ys,env l es j oj (a.put oi.dst v) (env l es i oi a E xs) ys=env l es i oi (a.put oj.dst u) (env l es j oj a E ys) xs:=fun v u xs ys=>by
  unfold env
  rw[wj,wi]
  have hc:ups (ups E i xs) j ys=ups (ups E j ys) i xs:=by
   funext k;unfold ups
   by_cases h1:k=j
   ·rw[if_pos h1,if_neg (fun e=>hij (e.symm.trans h1)),if_pos h1]
   ·by_cases h2:k=i
    ·rw[if_neg h1,if_pos h2,if_pos h2]
    ·rw[if_neg h1,if_neg h2,if_neg h2,if_neg h1]
  repeat' split
  all_goals first|rfl|exact hc
 obtain⟨p1,p2⟩:=h
 refine⟨(obj _ _ (envI [])).1 (p2 []).1,fun ys=>⟨(obi _ _ (envJ ys)).2 p1,fun xs=>?_⟩⟩
 have h4:=(p2 xs).2 ys
 rw[vj,Act.put_comm a _ _ h2,envC _ (val P l es w0 vf j oj a ys)] at h4
 rw[vi]
 exact h4
theorem stepE_mono {i:Nat}{o:Oper}{K K':Act→(Nat→Option (List Value))→Prop}(hk:∀a E,K a E→K' a E){a:Act}{E:Nat→Option (List Value)}(h:stepE P l es cs w0 S R vf φ i o K a E):stepE P l es cs w0 S R vf φ i o K' a E:=⟨h.1,fun xs=>hk _ _ (h.2 xs)⟩
theorem qOpE_at {i:Nat}{o:Oper}(ho:l[i]? = some o){K:Act→(Nat→Option (List Value))→Prop}{a:Act}{E:Nat→Option (List Value)}:qOpE P l es cs w0 S R vf φ i K a E↔stepE P l es cs w0 S R vf φ i o K a E:=by
 unfold qOpE;rw[ho]
theorem mem_readyM {listed:Array Bool}{i:Nat}:i∈readyM l m listed↔i∈Region.ready .any l.toArray listed∧i<m:=by
 unfold readyM;rw[List.mem_filter,decide_eq_true_eq]
theorem closed_put {listed:Array Bool}(hc:Closed l listed)(hsz:listed.size=l.length)(hlt:∀(k:Nat)(o:Oper),l[k]? = some o→∀e∈o.after,Region.binds .any e=true→e.on<k){i:Nat}(hi:i∈Region.ready .any l.toArray listed):Closed l (listed.setIfInBounds i true):=by
 obtain⟨hun,o,ho,haft⟩:=mem_ready.1 hi
 have ho':l[i]? = some o:=by simpa using ho
 have hil:i<l.length:=(List.getElem?_eq_some_iff.1 ho').1
 intro k ok hok hlk e he hb
 by_cases hki:k=i
 ·subst hki
  rw[ho'] at hok
  injection hok with hok
  subst hok
  have hl:=haft e he hb
  have hne:k≠e.on:=fun h=>by have:=hlt k _ ho' e he hb;omega
  rw[getD_listed_other hne]
  exact hl
 ·rw[getD_listed_other (fun h=>hki h.symm)] at hlk
  have hl:=hc k ok hok hlk e he hb
  by_cases hie:i=e.on
  ·rw[←hie];exact getD_listed (by omega)
  ·rw[getD_listed_other hie];exact hl
theorem treeE_first {Q:Act→(Nat→Option (List Value))→Prop}{i:Nat}{oi:Oper}(hi:l[i]? = some oi)(hsel:∀(j:Nat)(o:Oper) cs b,l.toArray[j]? = some o→o.op≠.select cs b)(hlt:∀(k:Nat)(o:Oper),l[k]? = some o→∀e∈o.after,Region.binds .any e=true→e.on<k) :
  ∀(fuel:Nat) (listed:Array Bool) (a:Act) (E:Nat→Option (List Value)),
   (∀j oj,l.toArray[j]? = some oj→j≠i→listed.getD j true=false→(∀e∈oj.after,Region.binds .any e=true→e.on≠i)→oi.apart l.toArray oj=true) →
   listed.size=l.length→Closed l listed→i∈readyM l m listed →
   qOpE P l es cs w0 S R vf φ i (treeE P l m es cs w0 S R vf φ Q fuel (listed.setIfInBounds i true)) a E→treeE P l m es cs w0 S R vf φ Q (fuel+1) listed a E:=by
 intro fuel
 induction fuel with
 | zero =>
  intro listed a E _ _ _ hr H
  refine⟨fun h=>(by rw[h] at hr;cases hr),fun j hj=>?_⟩
  by_cases hji:j=i
  ·subst hji;exact H
  ·have h1:=(((qOpE_at hi).1 H).2 []).1
   have:j∈readyM l m (listed.setIfInBounds i true):=mem_readyM.2 ⟨ready_mono (mem_readyM.1 hj).1 hji,(mem_readyM.1 hj).2⟩
   rw[h1] at this
   cases this
 | succ fuel ih =>
  intro listed a E hfree hsz hcl hr H
  refine⟨fun h=>(by rw[h] at hr;cases hr),fun j hj=>?_⟩
  by_cases hji:j=i
  ·subst hji;exact H
  ·have hjr:=(mem_readyM.1 hj).1
   have hir:=(mem_readyM.1 hr).1
   have H':=(qOpE_at hi).1 H
   obtain⟨hjun,oj,hoj,hall⟩:=mem_ready.1 hjr
   obtain⟨hiun,oi',hoi',halli⟩:=mem_ready.1 hir
   have hoi2:oi'=oi:=by rw[show l.toArray[i]? = some oi by simpa using hi] at hoi';injection hoi' with h;exact h.symm
   subst hoi2
   have hoj':l[j]? = some oj:=by simpa using hoj
   have unl:∀q,listed.getD q true=false→listed.getD q false=false:=fun q h=>by
    rcases Nat.lt_or_ge q listed.size with h' | h'
    ·simp[h'] at h ⊢;exact h
    ·simp[Array.getElem?_eq_none h'] at h
   have hnot:∀e∈oj.after,Region.binds .any e=true→e.on≠i:=fun e he hb heq=>by
    have h1:=hall e he hb
    rw[heq,unl i hiun] at h1;cases h1
   have hrij:reachB l l.length i j=false:=by
    cases hc:reachB l l.length i j with
    | false=>rfl
    | true=>have:=reach_listed hcl _ i j _ hi halli hc;rw[unl j hjun] at this;cases this
   have hrji:reachB l l.length j i=false:=by
    cases hc:reachB l l.length j i with
    | false=>rfl
    | true=>have:=reach_listed hcl _ j i _ hoj' hall hc;rw[unl i hiun] at this;cases this
   have hfree':∀k ok,l.toArray[k]? = some ok→k≠i→(listed.setIfInBounds j true).getD k true=false →
     (∀e∈ok.after,Region.binds .any e=true→e.on≠i)→oi'.apart l.toArray ok=true:=fun k ok hk hki hun hno=>by
    refine hfree k ok hk hki ?_ hno
    by_cases hjk:j=k
    ·subst hjk;exact hjun
    ·rw[getD_set_ne true hjk] at hun;exact hun
   have hsw:stepE P l es cs w0 S R vf φ j oj (stepE P l es cs w0 S R vf φ i oi' (treeE P l m es cs w0 S R vf φ Q fuel ((listed.setIfInBounds i true).setIfInBounds j true))) a E:=by
    refine swapE (fun e=>hji e.symm) (hfree j oj hoj hji hjun hnot) (fun cs b=>hsel i _ cs b (by simpa using hi)) (fun cs b=>hsel j oj cs b hoj) hrij hrji ?_
    refine stepE_mono (fun a' E' h3=>?_) H'
    have h4:=h3.2 j (mem_readyM.2 ⟨ready_mono hjr hji,(mem_readyM.1 hj).2⟩)
    exact (qOpE_at hoj').1 h4
   rw[qOpE_at hoj']
   refine stepE_mono (fun a' E' h3=>?_) hsw
   refine ih (listed.setIfInBounds j true) a' E' hfree' (by simpa using hsz) (closed_put hcl hsz hlt hjr) (mem_readyM.2 ⟨ready_mono hir (Ne.symm hji),(mem_readyM.1 hr).2⟩) ?_
   rw[qOpE_at hi,Array.setIfInBounds_comm _ _ hji]
   exact h3
theorem treeE_lex {Q:Act→(Nat→Option (List Value))→Prop}(hs:Region.noSelect l.toArray=true)(hlt:∀(k:Nat)(o:Oper),l[k]? = some o→∀e∈o.after,Region.binds .any e=true→e.on<k):∀(r:List Oper)(k fuel:Nat)(listed:Array Bool)(a:Act)(E:Nat→Option (List Value)),(∀j,j<r.length→r[j]? = l[k+j]?)→k+r.length=m→r.length≤fuel →
  (∀i,i<k→listed.getD i false=true)→listed.size=l.length→Closed l listed→Region.lexFrom .any l.toArray fuel k listed=true→wpE P l es cs w0 S R vf φ Q k r a E→treeE P l m es cs w0 S R vf φ Q r.length listed a E
 | [],k,fuel,listed,a,E,_,hkm,_,hal,_,_,_,h=>by
  refine⟨?_,h⟩
  rw[List.eq_nil_iff_forall_not_mem]
  intro i hi
  obtain⟨h1,h2⟩:=mem_readyM.1 hi
  have h3:=(mem_ready.1 h1).1
  have h4:=hal i (by simp at hkm;omega)
  have:i<listed.size:=by
   rcases Nat.lt_or_ge i listed.size with h|h
   ·exact h
   ·simp[Array.getElem?_eq_none h] at h3
  simp[this] at h3 h4
  rw[h3] at h4;cases h4
 | o::r,k,fuel,listed,a,E,hl,hkm,hfu,hal,hsz,hcl,hB,h=>by
  have h0:l[k]? = some o:=by simpa using (hl 0 (by simp)).symm
  obtain⟨fuel,rfl⟩:∃f',fuel=f'+1:=⟨fuel-1,by simp at hfu;omega⟩
  simp only[Region.lexFrom,Bool.and_eq_true] at hB
  obtain⟨⟨hr,hf⟩,hB'⟩:=hB
  have hr':k∈Region.ready .any l.toArray listed:=by simpa using hr
  have hkl:k<l.length:=(List.getElem?_eq_some_iff.1 h0).1
  refine treeE_first h0 (Region.noSelect_spec hs) hlt r.length listed a E (Region.free_spec (by simpa using h0) hf) hsz hcl (mem_readyM.2 ⟨hr',by simp at hkm;omega⟩) ?_
  rw[qOpE_at h0]
  refine stepE_mono (fun a' E' h3=>?_) h
  refine treeE_lex hs hlt r (k+1) fuel _ a' E' (fun j hj=>by have:=hl (j+1) (by simp;omega);simpa [Nat.add_assoc,Nat.add_comm 1 j] using this) (by simp at hkm;omega) (by simp at hfu;omega) (fun i hi=>?_) (by simpa using hsz) (closed_put hcl hsz hlt hr') hB' h3
  by_cases hik:k=i
  ·subst hik;exact getD_listed (by omega)
  ·rw[getD_listed_other hik];exact hal i (by omega)
theorem tidy_parts (h:tidy l m es cs=true):Region.noSelect l.toArray=true∧Region.lexFrom .any l.toArray l.length 0 (Array.replicate l.length false)=true∧m≤l.length ∧
  (∀(k:Nat) (o:Oper),l[k]? = some o→∀e∈o.after,Region.binds .any e=true→e.on<k)∧(∀(i:Nat) (o:Oper),l[i]? = some o→m≤i→∀k,k<i→reachB l l.length i k=true) ∧
  (∀i∈cs,i<m∧es.contains i=true∧∀k∈cs,k<i→reachB l l.length i k=true):=by
 unfold tidy at h
 simp only[Bool.and_eq_true,decide_eq_true_eq] at h
 obtain⟨⟨⟨h1,h2⟩,h3⟩,h4⟩:=h
 unfold Region.lexB at h1
 simp only[Bool.and_eq_true] at h1
 have at_:∀(i:Nat) (o:Oper),l[i]? = some o→(∀e∈o.after,Region.binds .any e=true→e.on<i)∧(m≤i→∀k,k<i→reachB l l.length i k=true):=fun i o ho=>by
  have hi:i<l.length:=(List.getElem?_eq_some_iff.1 ho).1
  have h5:=List.all_eq_true.1 h3 i (List.mem_range.2 hi)
  rw[ho] at h5
  simp only[Bool.and_eq_true,Bool.or_eq_true,decide_eq_true_eq] at h5
  refine⟨fun e he hb=>?_,fun hm k hk=>?_⟩
  ·have:=Array.all_eq_true_iff_forall_mem.1 h5.1 e he
   simpa [hb] using this
  ·rcases h5.2 with h6|h6
   ·omega
   ·exact List.all_eq_true.1 h6 k (List.mem_range.2 hk)
 refine⟨h1.1,by simpa using h1.2,h2,fun k o ho=>(at_ k o ho).1,fun i o ho hm=>(at_ i o ho).2 hm,fun i hi=>?_⟩
 have h5:=List.all_eq_true.1 h4 i hi
 simp only[Bool.and_eq_true,decide_eq_true_eq,List.all_eq_true,Bool.or_eq_true] at h5
 refine⟨h5.1.1,h5.1.2,fun k hk hlt=>?_⟩
 rcases h5.2 k hk with h6|h6
 ·omega
 ·exact h6
def done (cs:List Nat) (listed:Array Bool):Nat:=(cs.filter (fun k=>listed.getD k false)).length
theorem ready_unlisted {listed:Array Bool}{i:Nat}(h:i∈Region.ready .any l.toArray listed):listed.getD i false=false:=by
 have h1:=(mem_ready.1 h).1
 rcases Nat.lt_or_ge i listed.size with h' | h'
 ·simp[h'] at h1 ⊢;exact h1
 ·simp[Array.getElem?_eq_none h'] at h1
theorem all_listed (hlt:∀(k:Nat)(o:Oper),l[k]? = some o→∀e∈o.after,Region.binds .any e=true→e.on<k){listed:Array Bool}(hsz:listed.size=l.length){n:Nat}(hn:n≤l.length)(hr:∀i∈Region.ready .any l.toArray listed,n≤i):∀i,i<n→listed.getD i false=true:=by
 intro i
 induction i using Nat.strongRecOn with
 | _ i ih =>
  intro hi
  cases hc:listed.getD i false with
  | true=>rfl
  | false =>
   exfalso
   obtain⟨o,ho⟩:∃o,l[i]? = some o:=⟨l[i]'(by omega),List.getElem?_eq_getElem _⟩
   have:i∈Region.ready .any l.toArray listed:=by
    refine mem_ready.2 ⟨?_,o,by simpa using ho,fun e he hb=>?_⟩
    ·have hi2:i<listed.size:=by omega
     simp[hi2] at hc ⊢;exact hc
    ·have h1:=hlt i o ho e he hb
     exact ih e.on h1 (by omega)
   have:=hr i this
   omega
theorem done_ready (ht:∀i∈cs,i<m∧es.contains i=true∧∀k∈cs,k<i→reachB l l.length i k=true){listed:Array Bool}(hcl:Closed l listed){i:Nat}(hsz:listed.size=l.length)(hi:i∈Region.ready .any l.toArray listed)(hic:cs.contains i=true) :
  done cs listed=upto cs i∧done cs (listed.setIfInBounds i true)=upto cs (i+1):=by
 obtain⟨_,o,ho,haft⟩:=mem_ready.1 hi
 have ho':l[i]? = some o:=by simpa using ho
 have hil:i<l.length:=(List.getElem?_eq_some_iff.1 ho').1
 have hun:=ready_unlisted hi
 have hic':i∈cs:=by simpa using hic
 have key:∀k∈cs,listed.getD k false=decide (k<i):=fun k hk=>by
  by_cases hlt:k<i
  ·rw[decide_eq_true hlt]
   exact reach_listed hcl _ i k o ho' haft ((ht i hic').2.2 k hk hlt)
  ·rw[decide_eq_false hlt]
   by_cases hki:k=i
   ·subst hki;exact hun
   ·cases hc:listed.getD k false with
    | false=>rfl
    | true =>
     have hkl:k<l.length:=by
      rcases Nat.lt_or_ge k listed.size with h|h
      ·omega
      ·simp[Array.getElem?_eq_none h] at hc
     obtain⟨ok,hok⟩:∃o,l[k]? = some o:=⟨l[k]'hkl,List.getElem?_eq_getElem hkl⟩
     have:=reach_listed hcl _ k i ok hok (hcl k ok hok hc) ((ht k hk).2.2 i hic' (by omega))
     rw[hun] at this;cases this
 refine⟨?_,?_⟩
 ·unfold done upto
  rw[List.filter_congr key]
 ·unfold done upto
  rw[List.filter_congr fun k hk=>?_]
  by_cases hki:i=k
  ·subst hki
   rw[getD_listed (by omega)];simp
  ·rw[getD_listed_other hki,key k hk]
   by_cases h:k<i
   ·simp[h];omega
   ·simp[h];omega
theorem done_other {listed:Array Bool}{i:Nat}(hic:cs.contains i=false):done cs (listed.setIfInBounds i true)=done cs listed:=by
 unfold done
 rw[List.filter_congr fun k hk=>?_]
 have:i≠k:=by rintro rfl;simp at hic;exact hic hk
 exact getD_listed_other this
theorem done_le {listed:Array Bool}(hcl:Closed l listed){i:Nat}(hsz:listed.size=l.length)(hi:i∈Region.ready .any l.toArray listed):done cs listed≤lim l cs i:=by
 unfold done lim
 rw[←List.countP_eq_length_filter,←List.countP_eq_length_filter]
 refine List.countP_mono_left fun c hc hl=>?_
 have hcl':c<l.length:=by
  rcases Nat.lt_or_ge c listed.size with h|h
  ·omega
  ·simp[Array.getElem?_eq_none h] at hl
 obtain⟨oc,hoc⟩:∃o,l[c]? = some o:=⟨l[c]'hcl',List.getElem?_eq_getElem hcl'⟩
 cases hr:reachB l l.length c i with
 | false=>rfl
 | true =>
  have:=reach_listed hcl _ c i oc hoc (hcl c oc hoc hl) hr
  rw[ready_unlisted hi] at this;cases this
theorem done_all (ht:∀i∈cs,i<m∧es.contains i=true∧∀k∈cs,k<i→reachB l l.length i k=true){listed:Array Bool}(h:∀i,i<m→listed.getD i false=true):done cs listed=cs.length:=by
 unfold done
 rw[List.filter_eq_self.2 fun k hk=>h k (ht k hk).1]
theorem wp_region_eff {id:Nat}{Q:Exit→Act→World→Prop}{a0:Act}(hm:P.follows .mixedOrders=true)(m:Nat)(es cs:List Nat)(S:Nat→World→Prop)(R:World→World→Prop)(vf:Nat→List Value→Value)(φ:Nat→World→List Value→Prop)
  (ht:tidy l m es cs=true)
  (hSg:∀i,es.contains i=true→cs.contains i=false→∀s W W',S s W→Below W.heap.size W W'→S s W') (hφ:∀k W W' xs,φ k W xs→(∃s,S s W)→R W W'→φ k W' xs)
  (hS0:S 0 w0.drew)
  (h:wpE P l es cs w0.drew S R vf φ (fun a E=>∀W,S cs.length W→(∀k xs,E k=some xs→φ k W xs)→wpList P l.toArray Q (l.drop m) a W) 0 (l.take m) a0 (fun _=>none)) :
  (Code.region id l.toArray true).wp P Q a0 w0:=by
 obtain⟨t1,t2,t3,t4,t5,t6⟩:=tidy_parts ht
 have hlen:(l.take m).length=m:=by rw[List.length_take];omega
 have htree:=treeE_lex (m:=m) t1 t4 (l.take m) 0 l.length (Array.replicate l.length false) a0 (fun _=>none) (fun j hj=>by rw[List.getElem?_take,if_pos (by omega),Nat.zero_add]) (by omega) (by omega) (fun i hi=>by omega) (by simp) (fun i o _ hl=>by rw[getD_rep] at hl;cases hl) t2 h
 rw[hlen] at htree
 refine wp_region_inv hm (fun listed a W=>Closed l listed∧∃j,m≤j∧j≤l.length∧(∀i,j≤i→listed.getD i false=false)∧((j=m∧(∃fuel E,treeE P l m es cs w0.drew S R vf φ (fun a E=>∀W,S cs.length W→(∀k xs,E k=some xs→φ k W xs)→wpList P l.toArray Q (l.drop m) a W) fuel listed a E∧S (done cs listed) W∧∀k xs,E k=some xs→φ k W xs))∨(m<j∧(∀i,i<j→listed.getD i false=true)∧wpList P l.toArray Q (l.drop j) a W))) ?_ ?_ ?_
 ·refine⟨fun i o _ hl=>(by rw[getD_rep] at hl;cases hl),m,Nat.le_refl _,t3,fun i _=>getD_rep,Or.inl ⟨rfl,m,_,htree,?_,fun k xs h=>by cases h⟩⟩
  have:done cs (Array.replicate l.length false)=0:=by
   unfold done
   rw[List.filter_eq_nil_iff.2 fun k _=>by rw[getD_rep];simp];rfl
  rw[this];exact hS0
 ·intro listed a W i hI hsz hi
  obtain⟨hcl,j,hmj,hjl,hoffj,hI⟩:=hI
  have hsz':listed.size=l.length:=by simpa using hsz
  obtain⟨hun,o,ho,haft⟩:=mem_ready.1 hi
  have ho':l[i]? = some o:=by simpa using ho
  have hil:i<l.length:=(List.getElem?_eq_some_iff.1 ho').1
  have hunf:=ready_unlisted hi
  have hcl':=closed_put hcl hsz' t4 hi
  have hw:wpOp P l.toArray Q i=fun K a W=>if Region.wanted o (yielded l.toArray a.tmps)=true then o.wp P a W K Q∨(o.asks P a W∧LetsOut Q) else K (a.put o.dst undef) W:=by
   funext K a W;unfold wpOp;simp only[ho]
  rw[hw]
  show (if Region.wanted o (yielded l.toArray a.tmps)=true then _ else _)
  have hahead:m≤i→∀k,k<i→listed.getD k false=true:=fun hge k hk=>reach_listed hcl _ i k o ho' haft (t5 i o ho' hge k hk)
  have htail:∀(jj:Nat),jj=i→m≤jj→(∀k,k<jj→listed.getD k false=true)→(∀k,jj≤k→listed.getD k false=false)→wpList P l.toArray Q (l.drop jj) a W →
    (if Region.wanted o (yielded l.toArray a.tmps)=true then o.wp P a W (fun a' W'=>Closed l (listed.setIfInBounds i true)∧∃j,m≤j∧j≤l.length∧(∀k,j≤k→(listed.setIfInBounds i true).getD k false=false)∧((j=m∧(∃fuel E,treeE P l m es cs w0.drew S R vf φ (fun a E=>∀W,S cs.length W→(∀k xs,E k=some xs→φ k W xs)→wpList P l.toArray Q (l.drop m) a W) fuel (listed.setIfInBounds i true) a' E∧S (done cs (listed.setIfInBounds i true)) W'∧∀k xs,E k=some xs→φ k W' xs))∨(m<j∧(∀k,k<j→(listed.setIfInBounds i true).getD k false=true)∧wpList P l.toArray Q (l.drop j) a' W'))) Q∨(o.asks P a W∧LetsOut Q)
     else Closed l (listed.setIfInBounds i true)∧∃j,m≤j∧j≤l.length∧(∀k,j≤k→(listed.setIfInBounds i true).getD k false=false)∧((j=m∧(∃fuel E,treeE P l m es cs w0.drew S R vf φ (fun a E=>∀W,S cs.length W→(∀k xs,E k=some xs→φ k W xs)→wpList P l.toArray Q (l.drop m) a W) fuel (listed.setIfInBounds i true) (a.put o.dst undef) E∧S (done cs (listed.setIfInBounds i true)) W∧∀k xs,E k=some xs→φ k W xs))∨(m<j∧(∀k,k<j→(listed.setIfInBounds i true).getD k false=true)∧wpList P l.toArray Q (l.drop j) (a.put o.dst undef) W))):=by
   intro jj hji hge hall hno hwp
   subst hji
   rw[List.drop_eq_getElem_cons hil,show l[jj]=o from (List.getElem?_eq_some_iff.1 ho').2] at hwp
   unfold wpList at hwp
   have fin:∀a' W',wpList P l.toArray Q (l.drop (jj+1)) a' W'→Closed l (listed.setIfInBounds jj true)∧∃j,m≤j∧j≤l.length∧(∀k,j≤k→(listed.setIfInBounds jj true).getD k false=false)∧((j=m∧(∃fuel E,treeE P l m es cs w0.drew S R vf φ (fun a E=>∀W,S cs.length W→(∀k xs,E k=some xs→φ k W xs)→wpList P l.toArray Q (l.drop m) a W) fuel (listed.setIfInBounds jj true) a' E∧S (done cs (listed.setIfInBounds jj true)) W'∧∀k xs,E k=some xs→φ k W' xs))∨(m<j∧(∀k,k<j→(listed.setIfInBounds jj true).getD k false=true)∧wpList P l.toArray Q (l.drop j) a' W')):=by
    intro a' W' h
    refine⟨hcl',jj+1,by omega,by omega,fun k hk=>?_,Or.inr ⟨by omega,fun k hk=>?_,h⟩⟩
    ·rw[getD_listed_other (by omega)];exact hno k (by omega)
    ·by_cases hkj:k=jj
     ·subst hkj;exact getD_listed (by omega)
     ·rw[getD_listed_other (fun e=>hkj e.symm)];exact hall k (by omega)
   by_cases hwd:Region.wanted o (yielded l.toArray a.tmps)=true
   ·rw[if_pos hwd] at hwp ⊢
    exact hwp.imp (Oper.wp_mono (fun a' W' hq=>fin a' W' hq)) (fun h=>h)
   ·rw[if_neg hwd] at hwp ⊢
    exact fin _ _ hwp
  rcases hI with ⟨rfl,fuel,E,htr,hS,hE⟩|⟨hmj',hall,hwp⟩
  ·by_cases hge:j≤i
   ·have hij:j=i:=by
     rcases Nat.lt_or_ge j i with h|h
     ·have h1:=hahead hge j h
      rw[hoffj j (Nat.le_refl _)] at h1;cases h1
     ·omega
    have hall:∀k,k<j→listed.getD k false=true:=fun k hk=>hahead hge k (by omega)
    refine htail j hij (Nat.le_refl _) hall hoffj ?_
    have hrm:readyM l j listed=[]:=by
     rw[List.eq_nil_iff_forall_not_mem]
     intro q hq
     obtain⟨h1,h2⟩:=mem_readyM.1 hq
     have:=ready_unlisted h1
     rw[hall q h2] at this;cases this
    have hQ:∀W,S cs.length W→(∀k xs,E k=some xs→φ k W xs)→wpList P l.toArray Q (l.drop j) a W:=by
     cases fuel with
     | zero=>exact htr.2
     | succ fuel=>exact htr.1 hrm
    exact hQ W (by rw[←done_all t6 hall];exact hS) hE
   ·have him:i<j:=by omega
    have hunj:∀k,j≤k→(listed.setIfInBounds i true).getD k false=false:=fun k hk=>by rw[getD_listed_other (by omega)];exact hoffj k hk
    have hin:i∈readyM l j listed:=mem_readyM.2 ⟨hi,him⟩
    obtain⟨fuel',hf⟩:∃f',fuel=f'+1:=by
     cases fuel with
     | zero=>have:=htr.1;rw[this] at hin;cases hin
     | succ f=>exact⟨f,rfl⟩
    subst hf
    obtain⟨p1,p2⟩:=(qOpE_at ho').1 (htr.2 i hin)
    have hC:Cl l cs S i W:=⟨_,done_le hcl hsz' hi,hS⟩
    unfold pre at p1
    unfold val env at p2
    by_cases hwd:Region.wanted o (yielded l.toArray a.tmps)=true
    ·rw[if_pos hwd] at p1 ⊢
     simp only[hwd,if_true] at p2
     left
     cases hes:es.contains i with
     | true =>
      simp only[hes,if_true] at p1 p2
      refine (p1 W hC (fun hc=>by rw[←(done_ready t6 hcl hsz' hi hc).1];exact hS) (fun k xs _ he=>hE k xs he)).wp (fun v W' hg=>?_)
      obtain⟨xs,rfl,h1,h2,h3⟩:=hg
      refine⟨hcl',j,Nat.le_refl _,hjl,hunj,Or.inl ⟨rfl,fuel',_,p2 xs,?_,fun k ys he=>?_⟩⟩
      ·cases hc:cs.contains i with
       | true=>simp only[hc,if_true] at h1;rw[(done_ready t6 hcl hsz' hi hc).2];exact h1
       | false=>simp only[hc,Bool.false_eq_true,if_false] at h1;rw[done_other hc];exact hSg i hes hc _ _ _ hS h1
      ·unfold ups at he
       by_cases hki:k=i
       ·rw[if_pos hki] at he;injection he with he;subst he hki;exact h3
       ·rw[if_neg hki] at he;exact hφ k W W' ys (hE k ys he) ⟨_,hS⟩ h2
     | false =>
      simp only[hes,Bool.false_eq_true,if_false] at p1 p2
      have hnc:cs.contains i=false:=by
       cases hc:cs.contains i with
       | false=>rfl
       | true=>have:=(t6 i (by simpa using hc)).2.1;rw[hes] at this;cases this
      have fin:∀v,v=valAt P w0.drew o a→Closed l (listed.setIfInBounds i true)∧∃j_1,j≤j_1∧j_1≤l.length∧(∀k,j_1≤k→(listed.setIfInBounds i true).getD k false=false)∧((j_1=j∧(∃fuel E,treeE P l j es cs w0.drew S R vf φ (fun a E=>∀W,S cs.length W→(∀k xs,E k=some xs→φ k W xs)→wpList P l.toArray Q (l.drop j) a W) fuel (listed.setIfInBounds i true) (a.put o.dst v) E∧S (done cs (listed.setIfInBounds i true)) W∧∀k xs,E k=some xs→φ k W xs))∨(j<j_1∧(∀k,k<j_1→(listed.setIfInBounds i true).getD k false=true)∧wpList P l.toArray Q (l.drop j_1) (a.put o.dst v) W)):=by
       rintro v rfl
       exact⟨hcl',j,Nat.le_refl _,hjl,hunj,Or.inl ⟨rfl,fuel',E,p2 [],by rw[done_other hnc];exact hS,hE⟩⟩
      unfold Oper.wp
      rcases p1 W hC with h|⟨h,hv⟩
      ·rw[h,Oper.upon_value];exact fin _ rfl
      ·rw[h,Oper.upon_skip];exact fin _ hv.symm
    ·rw[if_neg hwd] at p1 ⊢
     simp only[hwd] at p2
     refine⟨hcl',j,Nat.le_refl _,hjl,hunj,Or.inl ⟨rfl,fuel',E,p2 [],?_,hE⟩⟩
     cases hc:cs.contains i with
     | true =>
      obtain⟨d1,d2⟩:=done_ready t6 hcl hsz' hi hc
      rw[d2];exact p1 W hc (by rw[←d1];exact hS)
     | false=>rw[done_other hc];exact hS
  ·have hij:j=i:=by
    rcases Nat.lt_trichotomy i j with h|h|h
    ·rw[hall i h] at hunf;cases hunf
    ·exact h.symm
    ·have h1:=hahead (by omega) j h
     rw[hoffj j (Nat.le_refl _)] at h1;cases h1
   exact htail j hij (by omega) hall hoffj hwp
 ·intro listed a W hI hsz hr
  obtain⟨hcl,j,hmj,hjl,hoffj,hI⟩:=hI
  have hsz':listed.size=l.length:=by simpa using hsz
  have hall:=all_listed t4 hsz' (Nat.le_refl l.length) (fun i hi=>by rw[hr] at hi;cases hi)
  have hj:j=l.length:=by
   rcases Nat.lt_or_ge j l.length with h|h
   ·have h1:=hall j h
    rw[hoffj j (Nat.le_refl _)] at h1;cases h1
   ·omega
  rcases hI with ⟨rfl,fuel,E,htr,hS,hE⟩|⟨_,_,hwp⟩
  ·have hrm:readyM l j listed=[]:=by unfold readyM;rw[hr];rfl
   have hQ:∀W,S cs.length W→(∀k xs,E k=some xs→φ k W xs)→wpList P l.toArray Q (l.drop j) a W:=by
    cases fuel with
    | zero=>exact htr.2
    | succ fuel=>exact htr.1 hrm
   have h:=hQ W (by rw[←done_all t6 (fun i hi=>hall i (by omega))];exact hS) hE
   rw[List.drop_eq_nil_of_le (by omega)] at h
   exact h
  ·rw[List.drop_eq_nil_of_le (by omega)] at hwp
   exact hwp
section
variable {Q:Act→(Nat→Option (List Value))→Prop} {i:Nat} {o:Oper} {rest:List Oper} {a:Act} {E:Nat→Option (List Value)}
theorem wpE_read (C:World→Prop)(hC:∀s W,s≤lim l cs i→S s W→C W)(hc:calmB o.op=true)(he:es.contains i=false)(hcs:cs.contains i=false)(h0:S 0 w0)
  (h:wpQuiet P l.toArray C (fun a'=>wpE P l es cs w0 S R vf φ Q (i+1) rest a' E) [o] a):wpE P l es cs w0 S R vf φ Q i (o::rest) a E:=by
 unfold wpQuiet at h
 show stepE P l es cs w0 S R vf φ i o _ a E
 unfold stepE pre val env
 by_cases hw:Region.wanted o (yielded l.toArray a.tmps)=true
 ·rw[if_pos hw] at h ⊢
  simp only[hw,if_true,he,Bool.false_eq_true,if_false]
  obtain⟨v,h1,h2⟩:=h
  have key:∀w,C w→(execOp a.eval o).run P w=.ok (.value v) w∨((execOp a.eval o).run P w=.ok .skip w∧v=undef):=fun w hw'=>by
   have h3:=h1 w hw'
   have h4:∀f xs w',(execOp a.eval o).run P w≠.ok (.enter f xs) w':=fun f xs w'=>calm_enter a.eval o hc
   unfold Oper.quietAt at h3
   generalize (execOp a.eval o).run P w=r at *
   cases r with
   | ok n w' =>
    cases n<;>simp only[Oper.quietUpon] at h3
    case value u=>obtain⟨rfl,rfl⟩:=h3;exact Or.inl rfl
    case skip=>obtain⟨rfl,rfl⟩:=h3;exact Or.inr ⟨rfl,rfl⟩
    case enter f args=>exact absurd rfl (h4 f args w')
   | halt x w'=>simp only[Oper.quietUpon] at h3
  have hv:valAt P w0 o a=v:=by
   unfold valAt
   rcases key w0 (hC 0 w0 (Nat.zero_le _) h0) with h|⟨h,rfl⟩
   ·rw[h]
   ·rw[h]
  rw[hv]
  refine⟨fun w hw'=>?_,fun _=>h2⟩
  rw[hv]
  obtain⟨s,hs,hS⟩:=hw'
  exact key w (hC s w hs hS)
 ·rw[if_neg hw] at h ⊢
  simp only[hw]
  exact⟨fun W hW=>absurd hW (by rw[hcs];decide),fun _=>h⟩
theorem wpE_turn (hw:Region.wanted o (yielded l.toArray a.tmps)=true)(he:es.contains i=true)(ho:Ob P l cs S R vf φ i o a E)(h:∀xs,wpE P l es cs w0 S R vf φ Q (i+1) rest (a.put o.dst (vf i xs)) (ups E i xs)) :
  wpE P l es cs w0 S R vf φ Q i (o::rest) a E:=by
 show stepE P l es cs w0 S R vf φ i o _ a E
 unfold stepE pre val env
 simp only[hw,if_true,he]
 exact⟨ho,h⟩
theorem wpE_off (hw:Region.wanted o (yielded l.toArray a.tmps)=false)(hs:∀W,cs.contains i=true→S (upto cs i) W→S (upto cs (i+1)) W)(h:wpE P l es cs w0 S R vf φ Q (i+1) rest (a.put o.dst undef) E) :
  wpE P l es cs w0 S R vf φ Q i (o::rest) a E:=by
 show stepE P l es cs w0 S R vf φ i o _ a E
 unfold stepE pre val env
 simp only[hw,Bool.false_eq_true,if_false]
 exact⟨hs,fun _=>h⟩
theorem wpE_nil (h:Q a E):wpE P l es cs w0 S R vf φ Q i [] a E:=h
end
end
end Go.Proofs.YtglbjooofdnbkaaGreatDoor.RE
namespace Go.Proofs.YtglbjooofdnbkaaGreatDoor.RE
open Go.RowKit
def Two (a b:World):={W:World // W=a∨W=b}
instance (a b:World):Nonempty (Two a b):=⟨⟨a,Or.inl rfl⟩⟩
def InTwo (a b W:World):Prop:=∃x:Two a b,W=x.1
theorem Two.cell {a b:World}{p:Addr}{v:Value}(ha:a.cell? p=some v)(hb:b.cell? p=some v)(x:Two a b):x.1.cell? p=some v:=by
 obtain⟨W,rfl|rfl⟩:=x
 ·exact ha
 ·exact hb
theorem inTwo_left {a b:World}:InTwo a b a:=⟨⟨a,Or.inl rfl⟩,rfl⟩
theorem inTwo_right {a b:World}:InTwo a b b:=⟨⟨b,Or.inr rfl⟩,rfl⟩
theorem two_class {a b:World}{n:Nat}:∀s W,s≤n→(if s=0 then W=a else W=b)→∃x:Two a b,W=x.1:=fun s W _ h=>by
 split at h
 ·rw[h];exact inTwo_left
 ·rw[h];exact inTwo_right
theorem one_class {a b:World}{n:Nat}(hn:n=0):∀s W,s≤n→(if s=0 then W=a else W=b)→∃x:Two a a,W=x.1:=fun s W hs h=>by
 rw[if_pos (by omega)] at h
 rw[h];exact inTwo_left
def natOf (xs:List Value):Nat:=match xs.getD 0 undef with | .int _ g=>g.toNat|_=>0
def Gr (w:World) (Q:Nat):={W:World // w.grownBy W (some Q)}
instance (w:World) (Q:Nat):Nonempty (Gr w Q):=⟨⟨w,World.grownBy.refl w _⟩⟩
theorem Gr.cell {w:World}{Q:Nat}(x:Gr w Q){p:Addr}{v:Value}(h:w.cell? p=some v)(hne:p.block≠Q):x.1.cell? p=some v:=by
 have hb:=x.2.block p.block (World.block_lt_of_cell? w p h) (by rintro e;injection e with e;exact hne e)
 have e:x.1.cell? p=w.cell? p:=by unfold World.cell?;rw[hb]
 rw[e];exact h
section
variable {P:Program} {o:Oper} {a:Act} {w:World} {G:Value→World→Prop}
theorem Upon.mono {G':Value→World→Prop}(h:∀v w',G v w'→G' v w')(hh:Upon P o a w G):Upon P o a w G':=by
 unfold Upon at *
 generalize (execOp a.eval o).run P w=r at *
 cases r with
 | ok n w' =>
  cases n<;>simp only at hh ⊢
  case value u=>exact h _ _ hh
  case skip=>exact h _ _ hh
  case enter f args=>exact hh.mono fun e w'' ⟨v,he,hg⟩=>⟨v,he,h _ _ hg⟩
 | halt x w'=>exact hh.elim
theorem Upon.told {v:Value}{w':World}(h:Upon P o a w (fun u x=>u=v∧x=w'))(hg:G v w'):Upon P o a w G:=h.mono fun _ _ ⟨e1,e2⟩=>by rw[e1,e2];exact hg
theorem upon_run {v:Value}{w':World}(h:(execOp a.eval o).run P w=.ok (.value v) w')(hg:G v w'):Upon P o a w G:=by
 unfold Upon;rw[h];exact hg
theorem upon_skip {w':World}(h:(execOp a.eval o).run P w=.ok .skip w')(hg:G undef w'):Upon P o a w G:=by
 unfold Upon;rw[h];exact hg
theorem upon_enter {f:FuncId}{vs:Array Value}(h:(execOp a.eval o).run P w=.ok (.enter f vs) w)(hc:Calls P f vs w (fun e w'=>∃v,e=.returned v∧G v w')):Upon P o a w G:=by
 unfold Upon;rw[h];exact hc
theorem upon_call (f:FuncId)(args:Array Operand)(tys:Array TypeId)(ho:o.op=.call { callee:=.value (.func f),args:=args,argTypes:=tys })(hent:∀(xs:Array Value)(w:World),(callFunc f xs).run P w=.ok (.enter f xs) w)
  (vs:Array Value) (hv:args.map a.eval=vs) (hc:Calls P f vs w (fun e w'=>∃v,e=.returned v∧G v w')):Upon P o a w G:=by
 refine upon_enter (f:=f) (vs:=vs) ?_ hc
 have he:=hent vs w
 have hf:a.eval (.func f)=.func (.func f) #[] #[]:=rfl
 simp[execOp,ho,resolve,Deferred.ofValue,hf,hv,invoke,he]
theorem run_store_agg (ty:TypeId)(x y:Operand)(ho:o.op=.store ty x y)(b off:Nat)(cells:Array Value)(hx:a.eval x=.pointer (some ⟨b,off,none⟩))(hy:a.eval y=.agg cells)
  (ht:w.there b off cells.size) (hi:(P.info? ty).map (·.size)=some cells.size) (h1:cells.all (·.oneCell')=true):(execOp a.eval o).run P w=.ok .skip (w.setCells b off cells.toList):=by
 unfold execOp
 simp only[ho,hx,hy,Instr.storeAt,Instr.sureAddr,Sem.run_bind,Sem.run_pure,Result.andThen_ok,run_storeVar_mid w b off ty cells ht hi h1]
end
end Go.Proofs.YtglbjooofdnbkaaGreatDoor.RE
