/- As RegE; an operation's callee may end with a panic: then the region ends with it. No condition. Printed by tools/genRegH.py. -/
import Derived.Test.YtoonjedifockoaaGreatDoorMTG
namespace Go.Proofs.YtoonjedifockoaaGreatDoor.RP
open Go.IntKind(i64)
open Go.Value(int string slice)
open Go.RowKit RE
section
variable {P:Program} {l:List Oper} {m:Nat} {es cs:List Nat} {w0:World} {S:Nat→World→Prop} {R:World→World→Prop} {vf:Nat→List Value→Value} {φ:Nat→World→List Value→Prop} {Pn:List PanicEntry→World→Prop}
def UponP(P:Program) (o:Oper) (a:Act) (W:World) (Pn:List PanicEntry→World→Prop) (G:Value→World→Prop):Prop:=
 match (execOp a.eval o).run P W with
 | .ok (.value v) W'=>G v W'
 | .ok .skip W'=>G undef W'
 | .ok (.enter f args) W'=>Calls P f args W' (fun e b=>(∃v,e=.returned v∧G v b)∨∃c,e=.panicked c∧Pn c b)
 | _=>False
theorem UponP.wp{o:Oper}{a:Act}{W:World}{Pn:List PanicEntry→World→Prop}{G:Value→World→Prop}{K:Act→World→Prop}{Q:Exit→Act→World→Prop}(h:UponP P o a W Pn G)(b:∀v W',G v W'→K (a.put o.dst v) W')(g:∀c W',Pn c W'→Q (.panic c) a W'):o.wp P a W K Q:=by
 unfold UponP at h;unfold Oper.wp;generalize (execOp a.eval o).run P W=r at *
 cases r with
 | ok n w' =>
  cases n<;>simp only[Oper.upon]at h ⊢
  case value u=>exact b _ _ h
  case skip=>exact b _ _ h
  case enter f args =>
   refine h.mono ?_;rintro e j (⟨v,rfl,d⟩|⟨c,rfl,d⟩)
   ·exact b _ _ d
   ·exact g _ _ d
 | halt x w'=>exact h.elim
theorem UponP.of{o:Oper}{a:Act}{W:World}{Pn:List PanicEntry→World→Prop}{G:Value→World→Prop}(h:RE.Upon P o a W G):UponP P o a W Pn G:=by
 unfold RE.Upon at h;unfold UponP;generalize (execOp a.eval o).run P W=r at *
 cases r with
 | ok n w' =>
  cases n<;>simp only at h ⊢
  case value u=>exact h
  case skip=>exact h
  case enter f args=>exact h.mono fun e b c=>Or.inl c
 | halt x w'=>exact h.elim
theorem uponP_call{o:Oper}{a:Act}{w:World}{Pn:List PanicEntry→World→Prop}{G:Value→World→Prop}(f:FuncId)(args:Array Operand)(c:Array TypeId)(g:o.op=.call { callee:=.value (.func f),args:=args,argTypes:=c })(b:∀(xs:Array Value)(w:World),(callFunc f xs).run P w=.ok (.enter f xs) w)
  (vs:Array Value) (h:args.map a.eval=vs) (j:Calls P f vs w (fun e w'=>(∃v,e=.returned v∧G v w')∨∃d,e=.panicked d∧Pn d w')):UponP P o a w Pn G:=by
 unfold UponP;have he:=b vs w;have k:a.eval (.func f)=.func (.func f) #[] #[]:=rfl;have n:(execOp a.eval o).run P w=.ok (.enter f vs) w:=by simp[execOp,g,resolve,Deferred.ofValue,k,h,invoke,he]
 rw[n];exact j
def Ob(P:Program) (l:List Oper) (cs:List Nat) (S:Nat→World→Prop) (R:World→World→Prop) (vf:Nat→List Value→Value) (φ:Nat→World→List Value→Prop) (Pn:List PanicEntry→World→Prop) (i:Nat) (o:Oper) (a:Act) (E:Nat→Option (List Value)):Prop:=
 ∀W:World,Cl l cs S i W→(cs.contains i=true→S (upto cs i) W)→(∀k xs,aN l l.length i k=true→E k=some xs→φ k W xs)→
  UponP P o a W Pn (fun v W'=>∃xs,v=vf i xs∧(if cs.contains i=true then S (upto cs (i+1)) W' else Ft W W')∧R W W'∧φ i W' xs)
def pre(P:Program) (l:List Oper) (es cs:List Nat) (w0:World) (S:Nat→World→Prop) (R:World→World→Prop) (vf:Nat→List Value→Value) (φ:Nat→World→List Value→Prop) (Pn:List PanicEntry→World→Prop) (i:Nat) (o:Oper) (a:Act) (E:Nat→Option (List Value)):Prop:=
 if Region.wanted o (yielded l.toArray a.tmps)=true then (if es.contains i=true then Ob P l cs S R vf φ Pn i o a E else nt P (Cl l cs S i) w0 o a)
 else ∀W,cs.contains i=true→S (upto cs i) W→S (upto cs (i+1)) W
def bW(P:Program) (l:List Oper) (es cs:List Nat) (w0:World) (S:Nat→World→Prop) (R:World→World→Prop) (vf:Nat→List Value→Value) (φ:Nat→World→List Value→Prop) (Pn:List PanicEntry→World→Prop) (i:Nat) (o:Oper) (K:Act→(Nat→Option (List Value))→Prop) (a:Act) (E:Nat→Option (List Value)):Prop:=
 pre P l es cs w0 S R vf φ Pn i o a E∧∀xs,K (a.put o.dst (val P l es w0 vf i o a xs)) (env l es i o a E xs)
def wpE(P:Program) (l:List Oper) (es cs:List Nat) (w0:World) (S:Nat→World→Prop) (R:World→World→Prop) (vf:Nat→List Value→Value) (φ:Nat→World→List Value→Prop) (Pn:List PanicEntry→World→Prop) (Q:Act→(Nat→Option (List Value))→Prop):Nat→List Oper→Act→(Nat→Option (List Value))→Prop
 | _,[],a,E=>Q a E
 | i,o::rest,a,E=>bW P l es cs w0 S R vf φ Pn i o (wpE P l es cs w0 S R vf φ Pn Q (i+1) rest) a E
def lm(P:Program) (l:List Oper) (es cs:List Nat) (w0:World) (S:Nat→World→Prop) (R:World→World→Prop) (vf:Nat→List Value→Value) (φ:Nat→World→List Value→Prop) (Pn:List PanicEntry→World→Prop) (i:Nat) (K:Act→(Nat→Option (List Value))→Prop) (a:Act) (E:Nat→Option (List Value)):Prop:=
 match l[i]? with
 | none=>K a E
 | some o=>bW P l es cs w0 S R vf φ Pn i o K a E
def dZ(P:Program) (l:List Oper) (m:Nat) (es cs:List Nat) (w0:World) (S:Nat→World→Prop) (R:World→World→Prop) (vf:Nat→List Value→Value) (φ:Nat→World→List Value→Prop) (Pn:List PanicEntry→World→Prop) (Q:Act→(Nat→Option (List Value))→Prop):Nat→Array Bool→Act→(Nat→Option (List Value))→Prop
 | 0,listed,a,E=>dE l m listed=[]∧Q a E
 | fuel+1,listed,a,E=>(dE l m listed=[]→Q a E)∧∀i∈dE l m listed,lm P l es cs w0 S R vf φ Pn i (dZ P l m es cs w0 S R vf φ Pn Q fuel (listed.setIfInBounds i true)) a E
theorem xn{i j:Nat}{d c:Oper}(z:i≠j)(A:d.apart l.toArray c=true)(B:∀cs b,d.op≠.select cs b)(C:∀cs b,c.op≠.select cs b)(D:aN l l.length i j=false)(G:aN l l.length j i=false)
  {K:Act→(Nat→Option (List Value))→Prop} {a:Act} {E:Nat→Option (List Value)}
  (h:bW P l es cs w0 S R vf φ Pn i d (bW P l es cs w0 S R vf φ Pn j c K) a E):bW P l es cs w0 S R vf φ Pn j c (bW P l es cs w0 S R vf φ Pn i d K) a E:=by
 obtain⟨n,r,L⟩:=Oper.apart_spec A;have H:∀v,Region.wanted c (yielded l.toArray (a.put d.dst v).tmps)=Region.wanted c (yielded l.toArray a.tmps):=fun v=>wanted_put c a d.dst v n
 have I:∀v,Region.wanted d (yielded l.toArray (a.put c.dst v).tmps)=Region.wanted d (yielded l.toArray a.tmps):=fun v=>wanted_put d a c.dst v L
 have M:∀v,execOp (a.put d.dst v).eval c=execOp a.eval c:=fun v=>execOp_put c C a d.dst v n
 have N:∀v,execOp (a.put c.dst v).eval d=execOp a.eval d:=fun v=>execOp_put d B a c.dst v L
 have U:∀v xs,val P l es w0 vf j c (a.put d.dst v) xs=val P l es w0 vf j c a xs:=fun v xs=>by unfold val eV;rw[H,M]
 have V:∀v xs,val P l es w0 vf i d (a.put c.dst v) xs=val P l es w0 vf i d a xs:=fun v xs=>by unfold val eV;rw[I,N]
 have obj:∀v F,(∀k,aN l l.length j k=true→F k=E k)→(pre P l es cs w0 S R vf φ Pn j c (a.put d.dst v) F↔pre P l es cs w0 S R vf φ Pn j c a E):=fun v F hF=>by
  unfold pre Ob UponP nt eV;rw[H,M];have:∀W,(∀k xs,aN l l.length j k=true→F k=some xs→φ k W xs)↔(∀k xs,aN l l.length j k=true→E k=some xs→φ k W xs):=fun W =>⟨fun h k xs g he=>h k xs g (by rw[hF k g];exact he),fun h k xs g he=>h k xs g (by rw[←hF k g];exact he)⟩
  simp only[this]
 have J:∀v F,(∀k,aN l l.length i k=true→F k=E k)→(pre P l es cs w0 S R vf φ Pn i d (a.put c.dst v) F↔pre P l es cs w0 S R vf φ Pn i d a E):=fun v F hF=>by
  unfold pre Ob UponP nt eV;rw[I,N];have:∀W,(∀k xs,aN l l.length i k=true→F k=some xs→φ k W xs)↔(∀k xs,aN l l.length i k=true→E k=some xs→φ k W xs):=fun W =>⟨fun h k xs g he=>h k xs g (by rw[hF k g];exact he),fun h k xs g he=>h k xs g (by rw[←hF k g];exact he)⟩
  simp only[this]
 have f:∀(q k:Nat) (xs:List Value),aN l l.length k q=false→∀y,aN l l.length k y=true→ups E q xs y=E y:=fun q k xs X y s=>by unfold ups;rw[n8];rintro rfl;rw[X]at s;cases s
 have t:∀xs k,aN l l.length j k=true→env l es i d a E xs k=E k:=fun xs k g=>by
  unfold env;split
  ·split
   ·exact f i j xs G k g
   ·rfl
  ·rfl
 have w:∀xs k,aN l l.length i k=true→env l es j c a E xs k=E k:=fun xs k g=>by
  unfold env;split
  ·split
   ·exact f j i xs D k g
   ·rfl
  ·rfl
 have x:∀v u xs p,env l es j c (a.put d.dst v) (env l es i d a E xs) p=env l es i d (a.put c.dst u) (env l es j c a E p) xs:=fun v u xs p=>by
  unfold env;rw[H,I];have Y:ups (ups E i xs) j p=ups (ups E j p) i xs:=by
   funext k;unfold ups
   by_cases n:k=j
   ·rw[n9 n,n8 (fun e=>z (e.symm.trans n)),n9 n]
   ·by_cases r:k=i
    ·rw[n8 n,n9 r,n9 r]
    ·rw[n8 n,n8 r,n8 r,n8 n]
  repeat' split
  all_goals first|rfl|exact Y
 obtain⟨Z,O⟩:=h;refine⟨(obj _ _ (t [])).1 (O []).1,fun p=>⟨(J _ _ (w p)).2 Z,fun xs=>?_⟩⟩;have T:=(O xs).2 p;rw[U,Act.put_comm a _ _ r,x _ (val P l es w0 vf j c a p)]at T;rw[V];exact T
theorem fO{i:Nat}{o:Oper}{K b:Act→(Nat→Option (List Value))→Prop}(c:∀a E,K a E→b a E){a:Act}{E:Nat→Option (List Value)}(h:bW P l es cs w0 S R vf φ Pn i o K a E):bW P l es cs w0 S R vf φ Pn i o b a E:=⟨h.1,fun xs=>c _ _ (h.2 xs)⟩
theorem dX{i:Nat}{o:Oper}(b:l[i]?=some o){K:Act→(Nat→Option (List Value))→Prop}{a:Act}{E:Nat→Option (List Value)}:lm P l es cs w0 S R vf φ Pn i K a E↔bW P l es cs w0 S R vf φ Pn i o K a E:=by unfold lm;rw[b]
theorem kJ{Q:Act→(Nat→Option (List Value))→Prop}{i:Nat}{O:Oper}(C:l[i]?=some O)(r:∀(j:Nat)(o:Oper) cs b,l.toArray[j]?=some o→o.op≠.select cs b)(U:∀(k:Nat)(o:Oper),l[k]?=some o→∀e∈o.after,Region.binds .any e=true→e.on<k) :
  ∀(fuel:Nat) (listed:Array Bool) (a:Act) (E:Nat→Option (List Value)),
   (∀j n,l.toArray[j]?=some n→j≠i→listed.getD j true=false→(∀e∈n.after,Region.binds .any e=true→e.on≠i)→O.apart l.toArray n=true)→
   listed.size=l.length→Closed l listed→i∈dE l m listed→
   lm P l es cs w0 S R vf φ Pn i (dZ P l m es cs w0 S R vf φ Pn Q fuel (listed.setIfInBounds i true)) a E→dZ P l m es cs w0 S R vf φ Pn Q (fuel+1) listed a E:=by
 intro fuel
 induction fuel with
 | zero =>
  intro listed a E _ _ _ v H;refine⟨fun h=>(by rw[h]at v;cases v),fun j D=>?_⟩
  by_cases c:j=i
  ·subst c;exact H
  ·have T:=(((dX C).1 H).2 []).1;have:j∈dE l m (listed.setIfInBounds i true):=aZ.2 ⟨ready_mono (aZ.1 D).1 c,(aZ.1 D).2⟩;rw[T]at this
   cases this
 | succ fuel ih =>
  intro listed a E d F w v H;refine⟨fun h=>(by rw[h]at v;cases v),fun j D=>?_⟩
  by_cases c:j=i
  ·subst c;exact H
  ·have x:=(aZ.1 D).1;have G:=(aZ.1 v).1;have H':=(dX C).1 H;obtain⟨f,n,y,s⟩:=mem_ready.1 x;obtain⟨t,z,u,A⟩:=mem_ready.1 G;have I:z=O:=by rw[show l.toArray[i]?=some O by simpa using C]at u;injection u with h;exact h.symm
   subst I;have g:l[j]?=some n:=by simpa using y
   have B:∀q,listed.getD q true=false→listed.getD q false=false:=fun q h=>by
    rcases Nat.lt_or_ge q listed.size with V | V
    ·simp[V]at h ⊢;exact h
    ·simp[Fl V]at h
   have J:∀e∈n.after,Region.binds .any e=true→e.on≠i:=fun e he hb heq=>by
    have T:=s e he hb;rw[heq,B i t]at T;cases T
   have K:aN l l.length i j=false:=by
    cases W:aN l l.length i j with
    | false=>rfl
    | true=>have:=dt w _ i j _ C A W;rw[B j f]at this;cases this
   have L:aN l l.length j i=false:=by
    cases W:aN l l.length j i with
    | false=>rfl
    | true=>have:=dt w _ j i _ g s W;rw[B i t]at this;cases this
   have p:∀k ok,l.toArray[k]?=some ok→k≠i→(listed.setIfInBounds j true).getD k true=false→
     (∀e∈ok.after,Region.binds .any e=true→e.on≠i)→z.apart l.toArray ok=true:=fun k ok hk X M Y=>by
    refine d k ok hk X ?_ Y
    by_cases N:j=k
    ·subst N;exact f
    ·rw[getD_set_ne true N]at M;exact M
   have Z:bW P l es cs w0 S R vf φ Pn j n (bW P l es cs w0 S R vf φ Pn i z (dZ P l m es cs w0 S R vf φ Pn Q fuel ((listed.setIfInBounds i true).setIfInBounds j true))) a E:=by
    refine xn (fun e=>c e.symm) (d j n y c f J) (fun cs b=>r i _ cs b (by simpa using C)) (fun cs b=>r j n cs b y) K L ?_;refine fO (fun a' E' h3=>?_) H';have h4:=h3.2 j (aZ.2 ⟨ready_mono x c,(aZ.1 D).2⟩);exact (dX g).1 h4
   rw[dX g];refine fO (fun a' E' h3=>?_) Z;refine ih (listed.setIfInBounds j true) a' E' p (by simpa using F) (gI w F U x) (aZ.2 ⟨ready_mono G (Ne.symm c),(aZ.1 v).2⟩) ?_;rw[dX C,Array.setIfInBounds_comm _ _ c];exact h3
theorem jw{Q:Act→(Nat→Option (List Value))→Prop}(w:Region.noSelect l.toArray=true)(c:∀(k:Nat)(o:Oper),l[k]?=some o→∀e∈o.after,Region.binds .any e=true→e.on<k):∀(r:List Oper) (k fuel:Nat) (listed:Array Bool) (a:Act) (E:Nat→Option (List Value)),(∀j,j<r.length→r[j]?=l[k+j]?)→k+r.length=m→r.length≤fuel→
  (∀i,i<k→listed.getD i false=true)→listed.size=l.length→Closed l listed→Region.lexFrom .any l.toArray fuel k listed=true→wpE P l es cs w0 S R vf φ Pn Q k r a E→dZ P l m es cs w0 S R vf φ Pn Q r.length listed a E
 | [],k,fuel,listed,a,E,_,b,_,d,_,_,_,h=>by
  refine⟨?_,h⟩;rw[List.eq_nil_iff_forall_not_mem];intro i x;obtain⟨z,H⟩:=aZ.1 x;have g:=(mem_ready.1 z).1;have u:=d i (by simp at b;omega);have:i<listed.size:=by
   rcases Nat.lt_or_ge i listed.size with h|h
   ·exact h
   ·simp[Fl h]at g
  simp[this]at g u;rw[g]at u;cases u
 | o::r,k,fuel,listed,a,E,y,b,n,d,f,p,hB,h=>by
  have t:l[k]?=some o:=by simpa using (y 0 (by simp)).symm
  obtain⟨fuel,rfl⟩:∃A,fuel=A+1:=⟨fuel-1,by simp at n;omega⟩;simp only[Region.lexFrom,EQ]at hB;obtain⟨⟨B,C⟩,v⟩:=hB;have q:k∈Region.ready .any l.toArray listed:=by simpa using B
  have D:k<l.length:=(EP.1 t).1;refine kJ t (Region.noSelect_spec w) c r.length listed a E (Region.free_spec (by simpa using t) C) f p (aZ.2 ⟨q,by simp at b;omega⟩) ?_;rw[dX t];refine fO (fun F G g=>?_) h;refine jw w c r (k+1) fuel _ F G (fun j I=>by have:=y (j+1) (by simp;omega);simpa [Nat.add_assoc,Nat.add_comm 1 j]using this) (by simp at b;omega) (by simp at n;omega) (fun i x=>?_) (by simpa using f) (gI p f c q) v g
  by_cases s:k=i
  ·subst s;exact fg (by omega)
  ·rw[bg s];exact d i (by omega)
theorem uf(a:Act)(x:Option Tmp)(v:Value):(a.put x v).defers=a.defers:=by cases x<;>rfl
theorem wp_region_effP{id:Nat}{Q:Exit→Act→World→Prop}{a0:Act}(hm:P.follows .mixedOrders=true)(m:Nat)(es cs:List Nat)(S:Nat→World→Prop)(R:World→World→Prop)(vf:Nat→List Value→Value)(φ:Nat→World→List Value→Prop)(Pn:List PanicEntry→World→Prop)(ar:∀a ch W,a.defers=a0.defers→Pn ch W→Q (.panic ch) a W)
  (ht:tidy l m es cs=true)
  (av:∀i,es.contains i=true→cs.contains i=false→∀s W W',S s W→Ft W W'→S s W') (a1:∀k W W' xs,φ k W xs→(∃s,S s W)→R W W'→φ k W' xs)
  (a6:S 0 w0.drew)
  (h:wpE P l es cs w0.drew S R vf φ Pn (fun a E=>∀W,S cs.length W→(∀k xs,E k=some xs→φ k W xs)→wpList P l.toArray Q (l.drop m) a W) 0 (l.take m) a0 (fun _=>none)) :
  (Code.region id l.toArray true).wp P Q a0 w0:=by
 obtain⟨t1,t2,t3,t4,t5,t6⟩:=pU ht;have hlen:(l.take m).length=m:=by rw[List.length_take];omega
 have C:=jw (m:=m) t1 t4 (l.take m) 0 l.length (Array.replicate l.length false) a0 (fun _=>none) (fun j hj=>by rw[List.getElem?_take,n9 (by omega),Nat.zero_add]) (by omega) (by omega) (fun i A=>by omega) (by simp) (fun i o _ hl=>by rw[gv]at hl;cases hl) t2 h;rw[hlen]at C;refine lU hm (fun listed a W=>Closed l listed∧∃j,m≤j∧j≤l.length∧(∀i,j≤i→listed.getD i false=false)∧((j=m∧(∃fuel E,a.defers=a0.defers∧dZ P l m es cs w0.drew S R vf φ Pn (fun a E=>∀W,S cs.length W→(∀k xs,E k=some xs→φ k W xs)→wpList P l.toArray Q (l.drop m) a W) fuel listed a E∧S (done cs listed) W∧∀k xs,E k=some xs→φ k W xs))∨(m<j∧(∀i,i<j→listed.getD i false=true)∧wpList P l.toArray Q (l.drop j) a W))) ?_ ?_ ?_
 ·refine⟨fun i o _ hl=>(by rw[gv]at hl;cases hl),m,EA _,t3,fun i _=>gv,Or.inl ⟨rfl,m,_,rfl,C,?_,fun k xs h=>by cases h⟩⟩;have:done cs (Array.replicate l.length false)=0:=by
   unfold done;rw[List.filter_eq_nil_iff.2 fun k _=>by rw[gv];simp];rfl
  rw[this];exact a6
 ·intro listed a W i V X A;obtain⟨p,j,a7,M,c,V⟩:=V;have d:listed.size=l.length:=by simpa using X
  obtain⟨bl,o,ho,an⟩:=mem_ready.1 A;have D:l[i]?=some o:=by simpa using ho
  have a8:i<l.length:=(EP.1 D).1;have O:=eJ A;have z:=gI p d t4 A;have hw:wpOp P l.toArray Q i=fun K a W=>if Region.wanted o (yielded l.toArray a.tmps)=true then o.wp P a W K Q∨(o.asks P a W∧LetsOut Q) else K (a.put o.dst undef) W:=by funext K a W;unfold wpOp;simp only[ho]
  rw[hw]
  show (if Region.wanted o (yielded l.toArray a.tmps)=true then _ else _)
  have n:m≤i→∀k,k<i→listed.getD k false=true:=fun F k hk=>dt p _ i k o D an (t5 i o D F k hk)
  have G:∀(r:Nat),r=i→m≤r→(∀k,k<r→listed.getD k false=true)→(∀k,r≤k→listed.getD k false=false)→wpList P l.toArray Q (l.drop r) a W→
    (if Region.wanted o (yielded l.toArray a.tmps)=true then o.wp P a W (fun H W'=>Closed l (listed.setIfInBounds i true)∧∃j,m≤j∧j≤l.length∧(∀k,j≤k→(listed.setIfInBounds i true).getD k false=false)∧((j=m∧(∃fuel E,H.defers=a0.defers∧dZ P l m es cs w0.drew S R vf φ Pn (fun a E=>∀W,S cs.length W→(∀k xs,E k=some xs→φ k W xs)→wpList P l.toArray Q (l.drop m) a W) fuel (listed.setIfInBounds i true) H E∧S (done cs (listed.setIfInBounds i true)) W'∧∀k xs,E k=some xs→φ k W' xs))∨(m<j∧(∀k,k<j→(listed.setIfInBounds i true).getD k false=true)∧wpList P l.toArray Q (l.drop j) H W'))) Q∨(o.asks P a W∧LetsOut Q)
     else Closed l (listed.setIfInBounds i true)∧∃j,m≤j∧j≤l.length∧(∀k,j≤k→(listed.setIfInBounds i true).getD k false=false)∧((j=m∧(∃fuel E,(a.put o.dst undef).defers=a0.defers∧dZ P l m es cs w0.drew S R vf φ Pn (fun a E=>∀W,S cs.length W→(∀k xs,E k=some xs→φ k W xs)→wpList P l.toArray Q (l.drop m) a W) fuel (listed.setIfInBounds i true) (a.put o.dst undef) E∧S (done cs (listed.setIfInBounds i true)) W∧∀k xs,E k=some xs→φ k W xs))∨(m<j∧(∀k,k<j→(listed.setIfInBounds i true).getD k false=true)∧wpList P l.toArray Q (l.drop j) (a.put o.dst undef) W))):=by
   intro r ba F b bb g;subst ba;rw[List.drop_eq_getElem_cons a8,show l[r]=o from (EP.1 D).2]at g;unfold wpList at g;have fin:∀H W',wpList P l.toArray Q (l.drop (r+1)) H W'→Closed l (listed.setIfInBounds r true)∧∃j,m≤j∧j≤l.length∧(∀k,j≤k→(listed.setIfInBounds r true).getD k false=false)∧((j=m∧(∃fuel E,H.defers=a0.defers∧dZ P l m es cs w0.drew S R vf φ Pn (fun a E=>∀W,S cs.length W→(∀k xs,E k=some xs→φ k W xs)→wpList P l.toArray Q (l.drop m) a W) fuel (listed.setIfInBounds r true) H E∧S (done cs (listed.setIfInBounds r true)) W'∧∀k xs,E k=some xs→φ k W' xs))∨(m<j∧(∀k,k<j→(listed.setIfInBounds r true).getD k false=true)∧wpList P l.toArray Q (l.drop j) H W')):=by
    intro H W' h;refine⟨z,r+1,by omega,by omega,fun k hk=>?_,Or.inr ⟨by omega,fun k hk=>?_,h⟩⟩
    ·rw[bg (by omega)];exact bb k (by omega)
    ·by_cases aq:k=r
     ·subst aq;exact fg (by omega)
     ·rw[bg (fun e=>aq e.symm)];exact b k (by omega)
   by_cases t:Region.wanted o (yielded l.toArray a.tmps)=true
   ·rw[n9 t]at g ⊢;exact g.imp (Oper.wp_mono (fun H W' hq=>fin H W' hq)) (fun h=>h)
   ·rw[n8 t]at g ⊢;exact fin _ _ g
  rcases V with ⟨rfl,fuel,E,I,u,L,Y⟩|⟨bk,b,g⟩
  ·by_cases F:j≤i
   ·have Z:j=i:=by
     rcases Nat.lt_or_ge j i with h|h
     ·have w:=n F j h;rw[c j (EA _)]at w;cases w
     ·omega
    have b:∀k,k<j→listed.getD k false=true:=fun k hk=>n F k (by omega)
    refine G j Z (EA _) b c ?_;have ad:dE l j listed=[]:=by
     rw[List.eq_nil_iff_forall_not_mem];intro q hq;obtain⟨w,h2⟩:=aZ.1 hq;have:=eJ w;rw[b q h2]at this;cases this
    have hQ:∀W,S cs.length W→(∀k xs,E k=some xs→φ k W xs)→wpList P l.toArray Q (l.drop j) a W:=by
     cases fuel with
     | zero=>exact u.2
     | succ fuel=>exact u.1 ad
    exact hQ W (by rw[←lP t6 b];exact L) Y
   ·have bc:i<j:=by omega
    have J:∀k,j≤k→(listed.setIfInBounds i true).getD k false=false:=fun k hk=>by rw[bg (by omega)];exact c k hk
    have af:i∈dE l j listed:=aZ.2 ⟨A,bc⟩;obtain⟨x,hf⟩:∃f',fuel=f'+1:=by
     cases fuel with
     | zero=>have:=u.1;rw[this]at af;cases af
     | succ f=>exact⟨f,rfl⟩
    subst hf;obtain⟨T,U⟩:=(dX D).1 (u.2 i af);have hC:Cl l cs S i W:=⟨_,wH p d A,L⟩;unfold pre at T;unfold val env at U
    by_cases t:Region.wanted o (yielded l.toArray a.tmps)=true
    ·rw[n9 t]at T ⊢;simp only[t,oA]at U
     left
     cases N:es.contains i with
     | true =>
      simp only[N,oA]at T U;refine (T W hC (fun B=>by rw[←(gW t6 p d A B).1];exact L) (fun k xs _ he=>Y k xs he)).wp (fun v W' hg=>?_) (fun ch W' hg=>ar a ch W' I hg);obtain⟨xs,rfl,w,h2,h3⟩:=hg;refine⟨z,j,EA _,M,J,Or.inl ⟨rfl,x,_,(uf _ _ _).trans I,U xs,?_,fun k ys he=>?_⟩⟩
      ·cases B:cs.contains i with
       | true=>simp only[B,oA]at w;rw[(gW t6 p d A B).2];exact w
       | false=>simp only[B,EW,oi]at w;rw[gP B];exact av i N B _ _ _ L w
      ·unfold ups at he
       by_cases ak:k=i
       ·rw[n9 ak]at he;injection he with he;subst he ak;exact h3
       ·rw[n8 ak]at he;exact a1 k W W' ys (Y k ys he) ⟨_,L⟩ h2
     | false =>
      simp only[N,EW,oi]at T U;have bd:cs.contains i=false:=by
       cases B:cs.contains i with
       | false=>rfl
       | true=>have:=(t6 i (by simpa using B)).2.1;rw[N]at this;cases this
      have fin:∀v,v=eV P w0.drew o a→Closed l (listed.setIfInBounds i true)∧∃y,j≤y∧y≤l.length∧(∀k,y≤k→(listed.setIfInBounds i true).getD k false=false)∧((y=j∧(∃fuel E,(a.put o.dst v).defers=a0.defers∧dZ P l j es cs w0.drew S R vf φ Pn (fun a E=>∀W,S cs.length W→(∀k xs,E k=some xs→φ k W xs)→wpList P l.toArray Q (l.drop j) a W) fuel (listed.setIfInBounds i true) (a.put o.dst v) E∧S (done cs (listed.setIfInBounds i true)) W∧∀k xs,E k=some xs→φ k W xs))∨(j<y∧(∀k,k<y→(listed.setIfInBounds i true).getD k false=true)∧wpList P l.toArray Q (l.drop y) (a.put o.dst v) W)):=by
       rintro v rfl;exact⟨z,j,EA _,M,J,Or.inl ⟨rfl,x,E,(uf _ _ _).trans I,U [],by rw[gP bd];exact L,Y⟩⟩
      unfold Oper.wp;rcases T W hC with h|⟨h,hv⟩
      ·rw[h,Oper.upon_value];exact fin _ rfl
      ·rw[h,Oper.upon_skip];exact fin _ hv.symm
    ·rw[n8 t]at T ⊢;simp only[t]at U;refine⟨z,j,EA _,M,J,Or.inl ⟨rfl,x,E,(uf _ _ _).trans I,U [],?_,Y⟩⟩
     cases B:cs.contains i with
     | true =>
      obtain⟨d1,d2⟩:=gW t6 p d A B;rw[d2];exact T W B (by rw[←d1];exact L)
     | false=>rw[gP B];exact L
  ·have Z:j=i:=by
    rcases Nat.lt_trichotomy i j with h|h|h
    ·rw[b i h]at O;cases O
    ·exact h.symm
    ·have w:=n (by omega) j h;rw[c j (EA _)]at w;cases w
   exact G j Z (by omega) b c g
 ·intro listed a W V X hr;obtain⟨p,j,a7,M,c,V⟩:=V;have d:listed.size=l.length:=by simpa using X
  have b:=lL t4 d (EA l.length) (fun i A=>by rw[hr]at A;cases A);have hj:j=l.length:=by
   rcases Nat.lt_or_ge j l.length with h|h
   ·have w:=b j h;rw[c j (EA _)]at w;cases w
   ·omega
  rcases V with ⟨rfl,fuel,E,I,u,L,Y⟩|⟨_,_,g⟩
  ·have ad:dE l j listed=[]:=by unfold dE;rw[hr];rfl
   have hQ:∀W,S cs.length W→(∀k xs,E k=some xs→φ k W xs)→wpList P l.toArray Q (l.drop j) a W:=by
    cases fuel with
    | zero=>exact u.2
    | succ fuel=>exact u.1 ad
   have h:=hQ W (by rw[←lP t6 (fun i A=>b i (by omega))];exact L) Y;rw[List.drop_eq_nil_of_le (by omega)]at h;exact h
  ·rw[List.drop_eq_nil_of_le (by omega)]at g;exact g
section
variable {Q:Act→(Nat→Option (List Value))→Prop} {i:Nat} {o:Oper} {rest:List Oper} {a:Act} {E:Nat→Option (List Value)}
theorem wpE_read(C:World→Prop)(e:∀s W,s≤lim l cs i→S s W→C W)(j:sO o.op=true)(he:es.contains i=false)(d:cs.contains i=false)(k:S 0 w0)
  (h:wpQuiet P l.toArray C (fun p=>wpE P l es cs w0 S R vf φ Pn Q (i+1) rest p E) [o] a):wpE P l es cs w0 S R vf φ Pn Q i (o::rest) a E:=by
 unfold wpQuiet at h
 show bW P l es cs w0 S R vf φ Pn i o _ a E
 unfold bW pre val env
 by_cases hw:Region.wanted o (yielded l.toArray a.tmps)=true
 ·rw[n9 hw]at h ⊢;simp only[hw,oA,he,EW,oi];obtain⟨v,q,t⟩:=h;have key:∀w,C w→(execOp a.eval o).run P w=.ok (.value v) w∨((execOp a.eval o).run P w=.ok .skip w∧v=undef):=fun w b=>by
   have c:=q w b;have y:∀f xs w',(execOp a.eval o).run P w≠.ok (.enter f xs) w':=fun f xs w'=>pK a.eval o j
   unfold Oper.quietAt at c;generalize (execOp a.eval o).run P w=r at *
   cases r with
   | ok n w' =>
    cases n<;>simp only[Oper.quietUpon]at c
    case value u=>obtain⟨rfl,rfl⟩:=c;exact Or.inl rfl
    case skip=>obtain⟨rfl,rfl⟩:=c;exact Or.inr ⟨rfl,rfl⟩
    case enter f args=>exact absurd rfl (y f args w')
   | halt x w'=>simp only[Oper.quietUpon]at c
  have g:eV P w0 o a=v:=by
   unfold eV;rcases key w0 (e 0 w0 (EM _) k) with h|⟨h,rfl⟩
   ·rw[h]
   ·rw[h]
  rw[g];refine⟨fun w b=>?_,fun _=>t⟩;rw[g];obtain⟨s,z,A⟩:=b;exact key w (e s w z A)
 ·rw[n8 hw]at h ⊢;simp only[hw];exact⟨fun W B=>absurd B (by rw[d];decide),fun _=>h⟩
theorem wpE_turn(hw:Region.wanted o (yielded l.toArray a.tmps)=true)(he:es.contains i=true)(b:Ob P l cs S R vf φ Pn i o a E)(h:∀xs,wpE P l es cs w0 S R vf φ Pn Q (i+1) rest (a.put o.dst (vf i xs)) (ups E i xs)) :
  wpE P l es cs w0 S R vf φ Pn Q i (o::rest) a E:=by
 show bW P l es cs w0 S R vf φ Pn i o _ a E
 unfold bW pre val env;simp only[hw,oA,he];exact⟨b,h⟩
theorem wpE_off(hw:Region.wanted o (yielded l.toArray a.tmps)=false)(b:∀W,cs.contains i=true→S (upto cs i) W→S (upto cs (i+1)) W)(h:wpE P l es cs w0 S R vf φ Pn Q (i+1) rest (a.put o.dst undef) E) :
  wpE P l es cs w0 S R vf φ Pn Q i (o::rest) a E:=by
 show bW P l es cs w0 S R vf φ Pn i o _ a E
 unfold bW pre val env;simp only[hw,EW,oi];exact⟨b,fun _=>h⟩
theorem wpE_nil(h:Q a E):wpE P l es cs w0 S R vf φ Pn Q i [] a E:=h
end
end
end Go.Proofs.YtoonjedifockoaaGreatDoor.RP
