/- As RegE; an operation's callee may end with a panic: then the region ends with it. No condition. Printed by tools/genRegH.py. -/
import Derived.Test.YtglbjooofdnbkaaGreatDoorMTG
namespace Go.Proofs.YtglbjooofdnbkaaGreatDoor.RP
open Go.RowKit RE
section
variable {P:Program} {l:List Oper} {m:Nat} {es cs:List Nat} {w0:World} {S:Nat→World→Prop} {R:World→World→Prop} {vf:Nat→List Value→Value} {φ:Nat→World→List Value→Prop} {Pn:List PanicEntry→World→Prop}
def UponP (P:Program) (o:Oper) (a:Act) (W:World) (Pn:List PanicEntry→World→Prop) (G:Value→World→Prop):Prop:=
 match (execOp a.eval o).run P W with
 | .ok (.value v) W'=>G v W'
 | .ok .skip W'=>G undef W'
 | .ok (.enter f args) W'=>Calls P f args W' (fun e W''=>(∃v,e=.returned v∧G v W'')∨∃ch,e=.panicked ch∧Pn ch W'')
 | _=>False
theorem UponP.wp {o:Oper}{a:Act}{W:World}{Pn:List PanicEntry→World→Prop}{G:Value→World→Prop}{K:Act→World→Prop}{Q:Exit→Act→World→Prop}(h:UponP P o a W Pn G)(hk:∀v W',G v W'→K (a.put o.dst v) W')(hp:∀ch W',Pn ch W'→Q (.panic ch) a W'):o.wp P a W K Q:=by
 unfold UponP at h
 unfold Oper.wp
 generalize (execOp a.eval o).run P W=r at *
 cases r with
 | ok n w' =>
  cases n<;>simp only[Oper.upon] at h ⊢
  case value u=>exact hk _ _ h
  case skip=>exact hk _ _ h
  case enter f args =>
   refine h.mono ?_
   rintro e w'' (⟨v,rfl,hg⟩|⟨ch,rfl,hg⟩)
   ·exact hk _ _ hg
   ·exact hp _ _ hg
 | halt x w'=>exact h.elim
theorem UponP.of {o:Oper}{a:Act}{W:World}{Pn:List PanicEntry→World→Prop}{G:Value→World→Prop}(h:RE.Upon P o a W G):UponP P o a W Pn G:=by
 unfold RE.Upon at h
 unfold UponP
 generalize (execOp a.eval o).run P W=r at *
 cases r with
 | ok n w' =>
  cases n<;>simp only at h ⊢
  case value u=>exact h
  case skip=>exact h
  case enter f args=>exact h.mono fun e w'' hh=>Or.inl hh
 | halt x w'=>exact h.elim
theorem uponP_call {o:Oper}{a:Act}{w:World}{Pn:List PanicEntry→World→Prop}{G:Value→World→Prop}(f:FuncId)(args:Array Operand)(tys:Array TypeId)(ho:o.op=.call { callee:=.value (.func f),args:=args,argTypes:=tys })(hent:∀(xs:Array Value)(w:World),(callFunc f xs).run P w=.ok (.enter f xs) w)
  (vs:Array Value) (hv:args.map a.eval=vs) (hc:Calls P f vs w (fun e w'=>(∃v,e=.returned v∧G v w')∨∃ch,e=.panicked ch∧Pn ch w')):UponP P o a w Pn G:=by
 unfold UponP
 have he:=hent vs w
 have hf:a.eval (.func f)=.func (.func f) #[] #[]:=rfl
 have hr:(execOp a.eval o).run P w=.ok (.enter f vs) w:=by simp[execOp,ho,resolve,Deferred.ofValue,hf,hv,invoke,he]
 rw[hr];exact hc
def Ob (P:Program) (l:List Oper) (cs:List Nat) (S:Nat→World→Prop) (R:World→World→Prop) (vf:Nat→List Value→Value) (φ:Nat→World→List Value→Prop) (Pn:List PanicEntry→World→Prop) (i:Nat) (o:Oper) (a:Act) (E:Nat→Option (List Value)):Prop:=
 ∀W:World,Cl l cs S i W→(cs.contains i=true→S (upto cs i) W)→(∀k xs,reachB l l.length i k=true→E k=some xs→φ k W xs) →
  UponP P o a W Pn (fun v W'=>∃xs,v=vf i xs∧(if cs.contains i=true then S (upto cs (i+1)) W' else Below W.heap.size W W')∧R W W'∧φ i W' xs)
def pre (P:Program) (l:List Oper) (es cs:List Nat) (w0:World) (S:Nat→World→Prop) (R:World→World→Prop) (vf:Nat→List Value→Value) (φ:Nat→World→List Value→Prop) (Pn:List PanicEntry→World→Prop) (i:Nat) (o:Oper) (a:Act) (E:Nat→Option (List Value)):Prop:=
 if Region.wanted o (yielded l.toArray a.tmps)=true then (if es.contains i=true then Ob P l cs S R vf φ Pn i o a E else Still P (Cl l cs S i) w0 o a)
 else ∀W,cs.contains i=true→S (upto cs i) W→S (upto cs (i+1)) W
def stepE (P:Program) (l:List Oper) (es cs:List Nat) (w0:World) (S:Nat→World→Prop) (R:World→World→Prop) (vf:Nat→List Value→Value) (φ:Nat→World→List Value→Prop) (Pn:List PanicEntry→World→Prop) (i:Nat) (o:Oper) (K:Act→(Nat→Option (List Value))→Prop) (a:Act) (E:Nat→Option (List Value)):Prop:=
 pre P l es cs w0 S R vf φ Pn i o a E∧∀xs,K (a.put o.dst (val P l es w0 vf i o a xs)) (env l es i o a E xs)
def wpE (P:Program) (l:List Oper) (es cs:List Nat) (w0:World) (S:Nat→World→Prop) (R:World→World→Prop) (vf:Nat→List Value→Value) (φ:Nat→World→List Value→Prop) (Pn:List PanicEntry→World→Prop) (Q:Act→(Nat→Option (List Value))→Prop):Nat→List Oper→Act→(Nat→Option (List Value))→Prop
 | _,[],a,E=>Q a E
 | i,o::rest,a,E=>stepE P l es cs w0 S R vf φ Pn i o (wpE P l es cs w0 S R vf φ Pn Q (i+1) rest) a E
def qOpE (P:Program) (l:List Oper) (es cs:List Nat) (w0:World) (S:Nat→World→Prop) (R:World→World→Prop) (vf:Nat→List Value→Value) (φ:Nat→World→List Value→Prop) (Pn:List PanicEntry→World→Prop) (i:Nat) (K:Act→(Nat→Option (List Value))→Prop) (a:Act) (E:Nat→Option (List Value)):Prop:=
 match l[i]? with
 | none=>K a E
 | some o=>stepE P l es cs w0 S R vf φ Pn i o K a E
def treeE (P:Program) (l:List Oper) (m:Nat) (es cs:List Nat) (w0:World) (S:Nat→World→Prop) (R:World→World→Prop) (vf:Nat→List Value→Value) (φ:Nat→World→List Value→Prop) (Pn:List PanicEntry→World→Prop) (Q:Act→(Nat→Option (List Value))→Prop):Nat→Array Bool→Act→(Nat→Option (List Value))→Prop
 | 0,listed,a,E=>readyM l m listed=[]∧Q a E
 | fuel+1,listed,a,E=>(readyM l m listed=[]→Q a E)∧∀i∈readyM l m listed,qOpE P l es cs w0 S R vf φ Pn i (treeE P l m es cs w0 S R vf φ Pn Q fuel (listed.setIfInBounds i true)) a E
theorem swapE {i j:Nat}{oi oj:Oper}(hij:i≠j)(hap:oi.apart l.toArray oj=true)(hsi:∀cs b,oi.op≠.select cs b)(hsj:∀cs b,oj.op≠.select cs b)(hri:reachB l l.length i j=false)(hrj:reachB l l.length j i=false)
  {K:Act→(Nat→Option (List Value))→Prop} {a:Act} {E:Nat→Option (List Value)}
  (h:stepE P l es cs w0 S R vf φ Pn i oi (stepE P l es cs w0 S R vf φ Pn j oj K) a E):stepE P l es cs w0 S R vf φ Pn j oj (stepE P l es cs w0 S R vf φ Pn i oi K) a E:=by
 obtain⟨h1,h2,h3⟩:=Oper.apart_spec hap
 have wj:∀v,Region.wanted oj (yielded l.toArray (a.put oi.dst v).tmps)=Region.wanted oj (yielded l.toArray a.tmps):=fun v=>wanted_put oj a oi.dst v h1
 have wi:∀v,Region.wanted oi (yielded l.toArray (a.put oj.dst v).tmps)=Region.wanted oi (yielded l.toArray a.tmps):=fun v=>wanted_put oi a oj.dst v h3
 have xj:∀v,execOp (a.put oi.dst v).eval oj=execOp a.eval oj:=fun v=>execOp_put oj hsj a oi.dst v h1
 have xi:∀v,execOp (a.put oj.dst v).eval oi=execOp a.eval oi:=fun v=>execOp_put oi hsi a oj.dst v h3
 have vj:∀v xs,val P l es w0 vf j oj (a.put oi.dst v) xs=val P l es w0 vf j oj a xs:=fun v xs=>by unfold val valAt;rw[wj,xj]
 have vi:∀v xs,val P l es w0 vf i oi (a.put oj.dst v) xs=val P l es w0 vf i oi a xs:=fun v xs=>by unfold val valAt;rw[wi,xi]
 have obj:∀v F,(∀k,reachB l l.length j k=true→F k=E k)→(pre P l es cs w0 S R vf φ Pn j oj (a.put oi.dst v) F↔pre P l es cs w0 S R vf φ Pn j oj a E):=fun v F hF=>by
  unfold pre Ob UponP Still valAt
  rw[wj,xj]
  have:∀W,(∀k xs,reachB l l.length j k=true→F k=some xs→φ k W xs)↔(∀k xs,reachB l l.length j k=true→E k=some xs→φ k W xs):=fun W =>
   ⟨fun h k xs hk he=>h k xs hk (by rw[hF k hk];exact he),fun h k xs hk he=>h k xs hk (by rw[←hF k hk];exact he)⟩
  simp only[this]
 have obi:∀v F,(∀k,reachB l l.length i k=true→F k=E k)→(pre P l es cs w0 S R vf φ Pn i oi (a.put oj.dst v) F↔pre P l es cs w0 S R vf φ Pn i oi a E):=fun v F hF=>by
  unfold pre Ob UponP Still valAt
  rw[wi,xi]
  have:∀W,(∀k xs,reachB l l.length i k=true→F k=some xs→φ k W xs)↔(∀k xs,reachB l l.length i k=true→E k=some xs→φ k W xs):=fun W =>
   ⟨fun h k xs hk he=>h k xs hk (by rw[hF k hk];exact he),fun h k xs hk he=>h k xs hk (by rw[←hF k hk];exact he)⟩
  simp only[this]
 have upsOther:∀(q k:Nat) (xs:List Value),reachB l l.length k q=false→∀k',reachB l l.length k k'=true→ups E q xs k'=E k':=fun q k xs hr k' hk'=>by
  unfold ups;rw[if_neg];rintro rfl;rw[hr] at hk';cases hk'
 have envI:∀xs k,reachB l l.length j k=true→env l es i oi a E xs k=E k:=fun xs k hk=>by
  unfold env;split
  ·split
   ·exact upsOther i j xs hrj k hk
   ·rfl
  ·rfl
 have envJ:∀xs k,reachB l l.length i k=true→env l es j oj a E xs k=E k:=fun xs k hk=>by
  unfold env;split
  ·split
   ·exact upsOther j i xs hri k hk
   ·rfl
  ·rfl
 have envC:∀v u xs ys,env l es j oj (a.put oi.dst v) (env l es i oi a E xs) ys=env l es i oi (a.put oj.dst u) (env l es j oj a E ys) xs:=fun v u xs ys=>by
  unfold env
  rw[wj,wi]
  have hc:ups (ups E i xs) j ys=ups (ups E j ys) i xs:=by
   funext k;unfold ups
   by_cases h1:k=j
   ·rw[if_pos h1,if_neg (fun e=>hij (e.symm.trans h1)),if_pos h1]
   ·by_cases h2:k=i
    ·rw[if_neg h1,if_pos h2,if_pos h2]
    ·rw[if_neg h1,if_neg h2,if_neg h2,if_neg h1]
  repeat' split
  all_goals first|rfl|exact hc
 obtain⟨p1,p2⟩:=h
 refine⟨(obj _ _ (envI [])).1 (p2 []).1,fun ys=>⟨(obi _ _ (envJ ys)).2 p1,fun xs=>?_⟩⟩
 have h4:=(p2 xs).2 ys
 rw[vj,Act.put_comm a _ _ h2,envC _ (val P l es w0 vf j oj a ys)] at h4
 rw[vi]
 exact h4
theorem stepE_mono {i:Nat}{o:Oper}{K K':Act→(Nat→Option (List Value))→Prop}(hk:∀a E,K a E→K' a E){a:Act}{E:Nat→Option (List Value)}(h:stepE P l es cs w0 S R vf φ Pn i o K a E):stepE P l es cs w0 S R vf φ Pn i o K' a E:=⟨h.1,fun xs=>hk _ _ (h.2 xs)⟩
theorem qOpE_at {i:Nat}{o:Oper}(ho:l[i]? = some o){K:Act→(Nat→Option (List Value))→Prop}{a:Act}{E:Nat→Option (List Value)}:qOpE P l es cs w0 S R vf φ Pn i K a E↔stepE P l es cs w0 S R vf φ Pn i o K a E:=by
 unfold qOpE;rw[ho]
theorem treeE_first {Q:Act→(Nat→Option (List Value))→Prop}{i:Nat}{oi:Oper}(hi:l[i]? = some oi)(hsel:∀(j:Nat)(o:Oper) cs b,l.toArray[j]? = some o→o.op≠.select cs b)(hlt:∀(k:Nat)(o:Oper),l[k]? = some o→∀e∈o.after,Region.binds .any e=true→e.on<k) :
  ∀(fuel:Nat) (listed:Array Bool) (a:Act) (E:Nat→Option (List Value)),
   (∀j oj,l.toArray[j]? = some oj→j≠i→listed.getD j true=false→(∀e∈oj.after,Region.binds .any e=true→e.on≠i)→oi.apart l.toArray oj=true) →
   listed.size=l.length→Closed l listed→i∈readyM l m listed →
   qOpE P l es cs w0 S R vf φ Pn i (treeE P l m es cs w0 S R vf φ Pn Q fuel (listed.setIfInBounds i true)) a E→treeE P l m es cs w0 S R vf φ Pn Q (fuel+1) listed a E:=by
 intro fuel
 induction fuel with
 | zero =>
  intro listed a E _ _ _ hr H
  refine⟨fun h=>(by rw[h] at hr;cases hr),fun j hj=>?_⟩
  by_cases hji:j=i
  ·subst hji;exact H
  ·have h1:=(((qOpE_at hi).1 H).2 []).1
   have:j∈readyM l m (listed.setIfInBounds i true):=mem_readyM.2 ⟨ready_mono (mem_readyM.1 hj).1 hji,(mem_readyM.1 hj).2⟩
   rw[h1] at this
   cases this
 | succ fuel ih =>
  intro listed a E hfree hsz hcl hr H
  refine⟨fun h=>(by rw[h] at hr;cases hr),fun j hj=>?_⟩
  by_cases hji:j=i
  ·subst hji;exact H
  ·have hjr:=(mem_readyM.1 hj).1
   have hir:=(mem_readyM.1 hr).1
   have H':=(qOpE_at hi).1 H
   obtain⟨hjun,oj,hoj,hall⟩:=mem_ready.1 hjr
   obtain⟨hiun,oi',hoi',halli⟩:=mem_ready.1 hir
   have hoi2:oi'=oi:=by rw[show l.toArray[i]? = some oi by simpa using hi] at hoi';injection hoi' with h;exact h.symm
   subst hoi2
   have hoj':l[j]? = some oj:=by simpa using hoj
   have unl:∀q,listed.getD q true=false→listed.getD q false=false:=fun q h=>by
    rcases Nat.lt_or_ge q listed.size with h' | h'
    ·simp[h'] at h ⊢;exact h
    ·simp[Array.getElem?_eq_none h'] at h
   have hnot:∀e∈oj.after,Region.binds .any e=true→e.on≠i:=fun e he hb heq=>by
    have h1:=hall e he hb
    rw[heq,unl i hiun] at h1;cases h1
   have hrij:reachB l l.length i j=false:=by
    cases hc:reachB l l.length i j with
    | false=>rfl
    | true=>have:=reach_listed hcl _ i j _ hi halli hc;rw[unl j hjun] at this;cases this
   have hrji:reachB l l.length j i=false:=by
    cases hc:reachB l l.length j i with
    | false=>rfl
    | true=>have:=reach_listed hcl _ j i _ hoj' hall hc;rw[unl i hiun] at this;cases this
   have hfree':∀k ok,l.toArray[k]? = some ok→k≠i→(listed.setIfInBounds j true).getD k true=false →
     (∀e∈ok.after,Region.binds .any e=true→e.on≠i)→oi'.apart l.toArray ok=true:=fun k ok hk hki hun hno=>by
    refine hfree k ok hk hki ?_ hno
    by_cases hjk:j=k
    ·subst hjk;exact hjun
    ·rw[getD_set_ne true hjk] at hun;exact hun
   have hsw:stepE P l es cs w0 S R vf φ Pn j oj (stepE P l es cs w0 S R vf φ Pn i oi' (treeE P l m es cs w0 S R vf φ Pn Q fuel ((listed.setIfInBounds i true).setIfInBounds j true))) a E:=by
    refine swapE (fun e=>hji e.symm) (hfree j oj hoj hji hjun hnot) (fun cs b=>hsel i _ cs b (by simpa using hi)) (fun cs b=>hsel j oj cs b hoj) hrij hrji ?_
    refine stepE_mono (fun a' E' h3=>?_) H'
    have h4:=h3.2 j (mem_readyM.2 ⟨ready_mono hjr hji,(mem_readyM.1 hj).2⟩)
    exact (qOpE_at hoj').1 h4
   rw[qOpE_at hoj']
   refine stepE_mono (fun a' E' h3=>?_) hsw
   refine ih (listed.setIfInBounds j true) a' E' hfree' (by simpa using hsz) (closed_put hcl hsz hlt hjr) (mem_readyM.2 ⟨ready_mono hir (Ne.symm hji),(mem_readyM.1 hr).2⟩) ?_
   rw[qOpE_at hi,Array.setIfInBounds_comm _ _ hji]
   exact h3
theorem treeE_lex {Q:Act→(Nat→Option (List Value))→Prop}(hs:Region.noSelect l.toArray=true)(hlt:∀(k:Nat)(o:Oper),l[k]? = some o→∀e∈o.after,Region.binds .any e=true→e.on<k):∀(r:List Oper)(k fuel:Nat)(listed:Array Bool)(a:Act)(E:Nat→Option (List Value)),(∀j,j<r.length→r[j]? = l[k+j]?)→k+r.length=m→r.length≤fuel →
  (∀i,i<k→listed.getD i false=true)→listed.size=l.length→Closed l listed→Region.lexFrom .any l.toArray fuel k listed=true→wpE P l es cs w0 S R vf φ Pn Q k r a E→treeE P l m es cs w0 S R vf φ Pn Q r.length listed a E
 | [],k,fuel,listed,a,E,_,hkm,_,hal,_,_,_,h=>by
  refine⟨?_,h⟩
  rw[List.eq_nil_iff_forall_not_mem]
  intro i hi
  obtain⟨h1,h2⟩:=mem_readyM.1 hi
  have h3:=(mem_ready.1 h1).1
  have h4:=hal i (by simp at hkm;omega)
  have:i<listed.size:=by
   rcases Nat.lt_or_ge i listed.size with h|h
   ·exact h
   ·simp[Array.getElem?_eq_none h] at h3
  simp[this] at h3 h4
  rw[h3] at h4;cases h4
 | o::r,k,fuel,listed,a,E,hl,hkm,hfu,hal,hsz,hcl,hB,h=>by
  have h0:l[k]? = some o:=by simpa using (hl 0 (by simp)).symm
  obtain⟨fuel,rfl⟩:∃f',fuel=f'+1:=⟨fuel-1,by simp at hfu;omega⟩
  simp only[Region.lexFrom,Bool.and_eq_true] at hB
  obtain⟨⟨hr,hf⟩,hB'⟩:=hB
  have hr':k∈Region.ready .any l.toArray listed:=by simpa using hr
  have hkl:k<l.length:=(List.getElem?_eq_some_iff.1 h0).1
  refine treeE_first h0 (Region.noSelect_spec hs) hlt r.length listed a E (Region.free_spec (by simpa using h0) hf) hsz hcl (mem_readyM.2 ⟨hr',by simp at hkm;omega⟩) ?_
  rw[qOpE_at h0]
  refine stepE_mono (fun a' E' h3=>?_) h
  refine treeE_lex hs hlt r (k+1) fuel _ a' E' (fun j hj=>by have:=hl (j+1) (by simp;omega);simpa [Nat.add_assoc,Nat.add_comm 1 j] using this) (by simp at hkm;omega) (by simp at hfu;omega) (fun i hi=>?_) (by simpa using hsz) (closed_put hcl hsz hlt hr') hB' h3
  by_cases hik:k=i
  ·subst hik;exact getD_listed (by omega)
  ·rw[getD_listed_other hik];exact hal i (by omega)
theorem put_df (a:Act)(x:Option Tmp)(v:Value):(a.put x v).defers=a.defers:=by cases x<;>rfl
theorem wp_region_effP {id:Nat}{Q:Exit→Act→World→Prop}{a0:Act}(hm:P.follows .mixedOrders=true)(m:Nat)(es cs:List Nat)(S:Nat→World→Prop)(R:World→World→Prop)(vf:Nat→List Value→Value)(φ:Nat→World→List Value→Prop)(Pn:List PanicEntry→World→Prop)(hPn:∀a ch W,a.defers=a0.defers→Pn ch W→Q (.panic ch) a W)
  (ht:tidy l m es cs=true)
  (hSg:∀i,es.contains i=true→cs.contains i=false→∀s W W',S s W→Below W.heap.size W W'→S s W') (hφ:∀k W W' xs,φ k W xs→(∃s,S s W)→R W W'→φ k W' xs)
  (hS0:S 0 w0.drew)
  (h:wpE P l es cs w0.drew S R vf φ Pn (fun a E=>∀W,S cs.length W→(∀k xs,E k=some xs→φ k W xs)→wpList P l.toArray Q (l.drop m) a W) 0 (l.take m) a0 (fun _=>none)) :
  (Code.region id l.toArray true).wp P Q a0 w0:=by
 obtain⟨t1,t2,t3,t4,t5,t6⟩:=tidy_parts ht
 have hlen:(l.take m).length=m:=by rw[List.length_take];omega
 have htree:=treeE_lex (m:=m) t1 t4 (l.take m) 0 l.length (Array.replicate l.length false) a0 (fun _=>none) (fun j hj=>by rw[List.getElem?_take,if_pos (by omega),Nat.zero_add]) (by omega) (by omega) (fun i hi=>by omega) (by simp) (fun i o _ hl=>by rw[getD_rep] at hl;cases hl) t2 h
 rw[hlen] at htree
 refine wp_region_inv hm (fun listed a W=>Closed l listed∧∃j,m≤j∧j≤l.length∧(∀i,j≤i→listed.getD i false=false)∧((j=m∧(∃fuel E,a.defers=a0.defers∧treeE P l m es cs w0.drew S R vf φ Pn (fun a E=>∀W,S cs.length W→(∀k xs,E k=some xs→φ k W xs)→wpList P l.toArray Q (l.drop m) a W) fuel listed a E∧S (done cs listed) W∧∀k xs,E k=some xs→φ k W xs))∨(m<j∧(∀i,i<j→listed.getD i false=true)∧wpList P l.toArray Q (l.drop j) a W))) ?_ ?_ ?_
 ·refine⟨fun i o _ hl=>(by rw[getD_rep] at hl;cases hl),m,Nat.le_refl _,t3,fun i _=>getD_rep,Or.inl ⟨rfl,m,_,rfl,htree,?_,fun k xs h=>by cases h⟩⟩
  have:done cs (Array.replicate l.length false)=0:=by
   unfold done
   rw[List.filter_eq_nil_iff.2 fun k _=>by rw[getD_rep];simp];rfl
  rw[this];exact hS0
 ·intro listed a W i hI hsz hi
  obtain⟨hcl,j,hmj,hjl,hoffj,hI⟩:=hI
  have hsz':listed.size=l.length:=by simpa using hsz
  obtain⟨hun,o,ho,haft⟩:=mem_ready.1 hi
  have ho':l[i]? = some o:=by simpa using ho
  have hil:i<l.length:=(List.getElem?_eq_some_iff.1 ho').1
  have hunf:=ready_unlisted hi
  have hcl':=closed_put hcl hsz' t4 hi
  have hw:wpOp P l.toArray Q i=fun K a W=>if Region.wanted o (yielded l.toArray a.tmps)=true then o.wp P a W K Q∨(o.asks P a W∧LetsOut Q) else K (a.put o.dst undef) W:=by
   funext K a W;unfold wpOp;simp only[ho]
  rw[hw]
  show (if Region.wanted o (yielded l.toArray a.tmps)=true then _ else _)
  have hahead:m≤i→∀k,k<i→listed.getD k false=true:=fun hge k hk=>reach_listed hcl _ i k o ho' haft (t5 i o ho' hge k hk)
  have htail:∀(jj:Nat),jj=i→m≤jj→(∀k,k<jj→listed.getD k false=true)→(∀k,jj≤k→listed.getD k false=false)→wpList P l.toArray Q (l.drop jj) a W →
    (if Region.wanted o (yielded l.toArray a.tmps)=true then o.wp P a W (fun a' W'=>Closed l (listed.setIfInBounds i true)∧∃j,m≤j∧j≤l.length∧(∀k,j≤k→(listed.setIfInBounds i true).getD k false=false)∧((j=m∧(∃fuel E,a'.defers=a0.defers∧treeE P l m es cs w0.drew S R vf φ Pn (fun a E=>∀W,S cs.length W→(∀k xs,E k=some xs→φ k W xs)→wpList P l.toArray Q (l.drop m) a W) fuel (listed.setIfInBounds i true) a' E∧S (done cs (listed.setIfInBounds i true)) W'∧∀k xs,E k=some xs→φ k W' xs))∨(m<j∧(∀k,k<j→(listed.setIfInBounds i true).getD k false=true)∧wpList P l.toArray Q (l.drop j) a' W'))) Q∨(o.asks P a W∧LetsOut Q)
     else Closed l (listed.setIfInBounds i true)∧∃j,m≤j∧j≤l.length∧(∀k,j≤k→(listed.setIfInBounds i true).getD k false=false)∧((j=m∧(∃fuel E,(a.put o.dst undef).defers=a0.defers∧treeE P l m es cs w0.drew S R vf φ Pn (fun a E=>∀W,S cs.length W→(∀k xs,E k=some xs→φ k W xs)→wpList P l.toArray Q (l.drop m) a W) fuel (listed.setIfInBounds i true) (a.put o.dst undef) E∧S (done cs (listed.setIfInBounds i true)) W∧∀k xs,E k=some xs→φ k W xs))∨(m<j∧(∀k,k<j→(listed.setIfInBounds i true).getD k false=true)∧wpList P l.toArray Q (l.drop j) (a.put o.dst undef) W))):=by
   intro jj hji hge hall hno hwp
   subst hji
   rw[List.drop_eq_getElem_cons hil,show l[jj]=o from (List.getElem?_eq_some_iff.1 ho').2] at hwp
   unfold wpList at hwp
   have fin:∀a' W',wpList P l.toArray Q (l.drop (jj+1)) a' W'→Closed l (listed.setIfInBounds jj true)∧∃j,m≤j∧j≤l.length∧(∀k,j≤k→(listed.setIfInBounds jj true).getD k false=false)∧((j=m∧(∃fuel E,a'.defers=a0.defers∧treeE P l m es cs w0.drew S R vf φ Pn (fun a E=>∀W,S cs.length W→(∀k xs,E k=some xs→φ k W xs)→wpList P l.toArray Q (l.drop m) a W) fuel (listed.setIfInBounds jj true) a' E∧S (done cs (listed.setIfInBounds jj true)) W'∧∀k xs,E k=some xs→φ k W' xs))∨(m<j∧(∀k,k<j→(listed.setIfInBounds jj true).getD k false=true)∧wpList P l.toArray Q (l.drop j) a' W')):=by
    intro a' W' h
    refine⟨hcl',jj+1,by omega,by omega,fun k hk=>?_,Or.inr ⟨by omega,fun k hk=>?_,h⟩⟩
    ·rw[getD_listed_other (by omega)];exact hno k (by omega)
    ·by_cases hkj:k=jj
     ·subst hkj;exact getD_listed (by omega)
     ·rw[getD_listed_other (fun e=>hkj e.symm)];exact hall k (by omega)
   by_cases hwd:Region.wanted o (yielded l.toArray a.tmps)=true
   ·rw[if_pos hwd] at hwp ⊢
    exact hwp.imp (Oper.wp_mono (fun a' W' hq=>fin a' W' hq)) (fun h=>h)
   ·rw[if_neg hwd] at hwp ⊢
    exact fin _ _ hwp
  rcases hI with ⟨rfl,fuel,E,hdf,htr,hS,hE⟩|⟨hmj',hall,hwp⟩
  ·by_cases hge:j≤i
   ·have hij:j=i:=by
     rcases Nat.lt_or_ge j i with h|h
     ·have h1:=hahead hge j h
      rw[hoffj j (Nat.le_refl _)] at h1;cases h1
     ·omega
    have hall:∀k,k<j→listed.getD k false=true:=fun k hk=>hahead hge k (by omega)
    refine htail j hij (Nat.le_refl _) hall hoffj ?_
    have hrm:readyM l j listed=[]:=by
     rw[List.eq_nil_iff_forall_not_mem]
     intro q hq
     obtain⟨h1,h2⟩:=mem_readyM.1 hq
     have:=ready_unlisted h1
     rw[hall q h2] at this;cases this
    have hQ:∀W,S cs.length W→(∀k xs,E k=some xs→φ k W xs)→wpList P l.toArray Q (l.drop j) a W:=by
     cases fuel with
     | zero=>exact htr.2
     | succ fuel=>exact htr.1 hrm
    exact hQ W (by rw[←done_all t6 hall];exact hS) hE
   ·have him:i<j:=by omega
    have hunj:∀k,j≤k→(listed.setIfInBounds i true).getD k false=false:=fun k hk=>by rw[getD_listed_other (by omega)];exact hoffj k hk
    have hin:i∈readyM l j listed:=mem_readyM.2 ⟨hi,him⟩
    obtain⟨fuel',hf⟩:∃f',fuel=f'+1:=by
     cases fuel with
     | zero=>have:=htr.1;rw[this] at hin;cases hin
     | succ f=>exact⟨f,rfl⟩
    subst hf
    obtain⟨p1,p2⟩:=(qOpE_at ho').1 (htr.2 i hin)
    have hC:Cl l cs S i W:=⟨_,done_le hcl hsz' hi,hS⟩
    unfold pre at p1
    unfold val env at p2
    by_cases hwd:Region.wanted o (yielded l.toArray a.tmps)=true
    ·rw[if_pos hwd] at p1 ⊢
     simp only[hwd,if_true] at p2
     left
     cases hes:es.contains i with
     | true =>
      simp only[hes,if_true] at p1 p2
      refine (p1 W hC (fun hc=>by rw[←(done_ready t6 hcl hsz' hi hc).1];exact hS) (fun k xs _ he=>hE k xs he)).wp (fun v W' hg=>?_) (fun ch W' hg=>hPn a ch W' hdf hg)
      obtain⟨xs,rfl,h1,h2,h3⟩:=hg
      refine⟨hcl',j,Nat.le_refl _,hjl,hunj,Or.inl ⟨rfl,fuel',_,(put_df _ _ _).trans hdf,p2 xs,?_,fun k ys he=>?_⟩⟩
      ·cases hc:cs.contains i with
       | true=>simp only[hc,if_true] at h1;rw[(done_ready t6 hcl hsz' hi hc).2];exact h1
       | false=>simp only[hc,Bool.false_eq_true,if_false] at h1;rw[done_other hc];exact hSg i hes hc _ _ _ hS h1
      ·unfold ups at he
       by_cases hki:k=i
       ·rw[if_pos hki] at he;injection he with he;subst he hki;exact h3
       ·rw[if_neg hki] at he;exact hφ k W W' ys (hE k ys he) ⟨_,hS⟩ h2
     | false =>
      simp only[hes,Bool.false_eq_true,if_false] at p1 p2
      have hnc:cs.contains i=false:=by
       cases hc:cs.contains i with
       | false=>rfl
       | true=>have:=(t6 i (by simpa using hc)).2.1;rw[hes] at this;cases this
      have fin:∀v,v=valAt P w0.drew o a→Closed l (listed.setIfInBounds i true)∧∃j_1,j≤j_1∧j_1≤l.length∧(∀k,j_1≤k→(listed.setIfInBounds i true).getD k false=false)∧((j_1=j∧(∃fuel E,(a.put o.dst v).defers=a0.defers∧treeE P l j es cs w0.drew S R vf φ Pn (fun a E=>∀W,S cs.length W→(∀k xs,E k=some xs→φ k W xs)→wpList P l.toArray Q (l.drop j) a W) fuel (listed.setIfInBounds i true) (a.put o.dst v) E∧S (done cs (listed.setIfInBounds i true)) W∧∀k xs,E k=some xs→φ k W xs))∨(j<j_1∧(∀k,k<j_1→(listed.setIfInBounds i true).getD k false=true)∧wpList P l.toArray Q (l.drop j_1) (a.put o.dst v) W)):=by
       rintro v rfl
       exact⟨hcl',j,Nat.le_refl _,hjl,hunj,Or.inl ⟨rfl,fuel',E,(put_df _ _ _).trans hdf,p2 [],by rw[done_other hnc];exact hS,hE⟩⟩
      unfold Oper.wp
      rcases p1 W hC with h|⟨h,hv⟩
      ·rw[h,Oper.upon_value];exact fin _ rfl
      ·rw[h,Oper.upon_skip];exact fin _ hv.symm
    ·rw[if_neg hwd] at p1 ⊢
     simp only[hwd] at p2
     refine⟨hcl',j,Nat.le_refl _,hjl,hunj,Or.inl ⟨rfl,fuel',E,(put_df _ _ _).trans hdf,p2 [],?_,hE⟩⟩
     cases hc:cs.contains i with
     | true =>
      obtain⟨d1,d2⟩:=done_ready t6 hcl hsz' hi hc
      rw[d2];exact p1 W hc (by rw[←d1];exact hS)
     | false=>rw[done_other hc];exact hS
  ·have hij:j=i:=by
    rcases Nat.lt_trichotomy i j with h|h|h
    ·rw[hall i h] at hunf;cases hunf
    ·exact h.symm
    ·have h1:=hahead (by omega) j h
     rw[hoffj j (Nat.le_refl _)] at h1;cases h1
   exact htail j hij (by omega) hall hoffj hwp
 ·intro listed a W hI hsz hr
  obtain⟨hcl,j,hmj,hjl,hoffj,hI⟩:=hI
  have hsz':listed.size=l.length:=by simpa using hsz
  have hall:=all_listed t4 hsz' (Nat.le_refl l.length) (fun i hi=>by rw[hr] at hi;cases hi)
  have hj:j=l.length:=by
   rcases Nat.lt_or_ge j l.length with h|h
   ·have h1:=hall j h
    rw[hoffj j (Nat.le_refl _)] at h1;cases h1
   ·omega
  rcases hI with ⟨rfl,fuel,E,hdf,htr,hS,hE⟩|⟨_,_,hwp⟩
  ·have hrm:readyM l j listed=[]:=by unfold readyM;rw[hr];rfl
   have hQ:∀W,S cs.length W→(∀k xs,E k=some xs→φ k W xs)→wpList P l.toArray Q (l.drop j) a W:=by
    cases fuel with
    | zero=>exact htr.2
    | succ fuel=>exact htr.1 hrm
   have h:=hQ W (by rw[←done_all t6 (fun i hi=>hall i (by omega))];exact hS) hE
   rw[List.drop_eq_nil_of_le (by omega)] at h
   exact h
  ·rw[List.drop_eq_nil_of_le (by omega)] at hwp
   exact hwp
section
variable {Q:Act→(Nat→Option (List Value))→Prop} {i:Nat} {o:Oper} {rest:List Oper} {a:Act} {E:Nat→Option (List Value)}
theorem wpE_read (C:World→Prop)(hC:∀s W,s≤lim l cs i→S s W→C W)(hc:calmB o.op=true)(he:es.contains i=false)(hcs:cs.contains i=false)(h0:S 0 w0)
  (h:wpQuiet P l.toArray C (fun a'=>wpE P l es cs w0 S R vf φ Pn Q (i+1) rest a' E) [o] a):wpE P l es cs w0 S R vf φ Pn Q i (o::rest) a E:=by
 unfold wpQuiet at h
 show stepE P l es cs w0 S R vf φ Pn i o _ a E
 unfold stepE pre val env
 by_cases hw:Region.wanted o (yielded l.toArray a.tmps)=true
 ·rw[if_pos hw] at h ⊢
  simp only[hw,if_true,he,Bool.false_eq_true,if_false]
  obtain⟨v,h1,h2⟩:=h
  have key:∀w,C w→(execOp a.eval o).run P w=.ok (.value v) w∨((execOp a.eval o).run P w=.ok .skip w∧v=undef):=fun w hw'=>by
   have h3:=h1 w hw'
   have h4:∀f xs w',(execOp a.eval o).run P w≠.ok (.enter f xs) w':=fun f xs w'=>calm_enter a.eval o hc
   unfold Oper.quietAt at h3
   generalize (execOp a.eval o).run P w=r at *
   cases r with
   | ok n w' =>
    cases n<;>simp only[Oper.quietUpon] at h3
    case value u=>obtain⟨rfl,rfl⟩:=h3;exact Or.inl rfl
    case skip=>obtain⟨rfl,rfl⟩:=h3;exact Or.inr ⟨rfl,rfl⟩
    case enter f args=>exact absurd rfl (h4 f args w')
   | halt x w'=>simp only[Oper.quietUpon] at h3
  have hv:valAt P w0 o a=v:=by
   unfold valAt
   rcases key w0 (hC 0 w0 (Nat.zero_le _) h0) with h|⟨h,rfl⟩
   ·rw[h]
   ·rw[h]
  rw[hv]
  refine⟨fun w hw'=>?_,fun _=>h2⟩
  rw[hv]
  obtain⟨s,hs,hS⟩:=hw'
  exact key w (hC s w hs hS)
 ·rw[if_neg hw] at h ⊢
  simp only[hw]
  exact⟨fun W hW=>absurd hW (by rw[hcs];decide),fun _=>h⟩
theorem wpE_turn (hw:Region.wanted o (yielded l.toArray a.tmps)=true)(he:es.contains i=true)(ho:Ob P l cs S R vf φ Pn i o a E)(h:∀xs,wpE P l es cs w0 S R vf φ Pn Q (i+1) rest (a.put o.dst (vf i xs)) (ups E i xs)) :
  wpE P l es cs w0 S R vf φ Pn Q i (o::rest) a E:=by
 show stepE P l es cs w0 S R vf φ Pn i o _ a E
 unfold stepE pre val env
 simp only[hw,if_true,he]
 exact⟨ho,h⟩
theorem wpE_off (hw:Region.wanted o (yielded l.toArray a.tmps)=false)(hs:∀W,cs.contains i=true→S (upto cs i) W→S (upto cs (i+1)) W)(h:wpE P l es cs w0 S R vf φ Pn Q (i+1) rest (a.put o.dst undef) E) :
  wpE P l es cs w0 S R vf φ Pn Q i (o::rest) a E:=by
 show stepE P l es cs w0 S R vf φ Pn i o _ a E
 unfold stepE pre val env
 simp only[hw,Bool.false_eq_true,if_false]
 exact⟨hs,fun _=>h⟩
theorem wpE_nil (h:Q a E):wpE P l es cs w0 S R vf φ Pn Q i [] a E:=h
end
end
end Go.Proofs.YtglbjooofdnbkaaGreatDoor.RP
