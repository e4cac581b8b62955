/- As RegE; an operation's callee may end with a panic: then the region ends with it. No condition. Printed by tools/genRegH.py. -/
import Derived.Test.YtoahnjkclckodaaGreatDoorMT
open Go renaming Oper→xV,World→J,Value→tS,undef→xk
open Bool renaming true→tT,false→ur
open Option renaming some→A
open Go.Region renaming wanted→AR
namespace Go.Proofs.YtoahnjkclckodaaGreatDoor.RP
open Go.RowKit RE
section
variable {P:Program} {l:List xV} {m:Nat} {es cs:List Nat} {w0:J} {S:Nat→J→Prop} {R:J→J→Prop} {vf:Nat→List tS→tS} {φ:Nat→J→List tS→Prop} {Pn:List PanicEntry→J→Prop}
def UponP(P:Program) (o:xV) (a:Act) (W:J) (Pn:List PanicEntry→J→Prop) (G:tS→J→Prop):Prop:=
 match (execOp a.eval o).run P W with
 | .ok (.value v) W'=>G v W'
 | .ok .skip W'=>G xk W'
 | .ok (.enter f args) W'=>Calls P f args W' (fun e b=>(∃v,e=Ending.returned v∧G v b)∨∃c,e=.panicked c∧Pn c b)
 | _=>False
theorem UponP.wp{o:xV}{a:Act}{W:J}{Pn:List PanicEntry→J→Prop}{G:tS→J→Prop}{K:Act→J→Prop}{Q:Exit→Act→J→Prop}(h:UponP P o a W Pn G)(b:∀v W',G v W'→K (a.put o.dst v) W')(g:∀c W',Pn c W'→Q (.panic c) a W'):o.wp P a W K Q:=by
 unfold UponP at h;unfold Oper.wp;generalize (execOp a.eval o).run P W=r at *
 cases r with
 | ok n w' =>
  cases n<;>simp only[Oper.upon]at h ⊢
  case value u=>exact b _ _ h
  case skip=>exact b _ _ h
  case enter f args =>
   refine h.mono ?_;rintro e j (⟨v,rfl,d⟩|⟨c,rfl,d⟩)
   ·exact b _ _ d
   ·exact g _ _ d
 | halt x w'=>exact h.elim
theorem UponP.of{o:xV}{a:Act}{W:J}{Pn:List PanicEntry→J→Prop}{G:tS→J→Prop}(h:RE.Upon P o a W G):UponP P o a W Pn G:=by
 unfold RE.Upon at h;unfold UponP;generalize (execOp a.eval o).run P W=r at *
 cases r with
 | ok n w' =>
  cases n<;>simp only at h ⊢
  case value u=>exact h
  case skip=>exact h
  case enter f args=>exact h.mono fun e b c=>Or.inl c
 | halt x w'=>exact h.elim
theorem uponP_call{o:xV}{a:Act}{w:J}{Pn:List PanicEntry→J→Prop}{G:tS→J→Prop}(f:FuncId)(args:Array Operand)(c:Array TypeId)(g:o.op=.call { callee:=.value (.func f),args:=args,argTypes:=c })(b:∀(xs:Array tS)(w:J),(callFunc f xs).run P w=.ok (.enter f xs) w)
  (vs:Array tS) (h:args.map a.eval=vs) (j:Calls P f vs w (fun e w'=>(∃v,e=Ending.returned v∧G v w')∨∃d,e=.panicked d∧Pn d w')):UponP P o a w Pn G:=by
 unfold UponP;have he:=b vs w;have k:a.eval (.func f)=Value.func (.func f) #[] #[]:=rfl;have n:(execOp a.eval o).run P w=.ok (.enter f vs) w:=by simp[execOp,g,resolve,Deferred.ofValue,k,h,invoke,he]
 rw[n];exact j
def Ob(P:Program) (l:List xV) (cs:List Nat) (S:Nat→J→Prop) (R:J→J→Prop) (vf:Nat→List tS→tS) (φ:Nat→J→List tS→Prop) (Pn:List PanicEntry→J→Prop) (i:Nat) (o:xV) (a:Act) (E:Nat→Option (List tS)):Prop:=
 ∀W:J,Cl l cs S i W→(cs.contains i=tT→S (upto cs i) W)→(∀k xs,aN l l.length i k=tT→E k=A xs→φ k W xs)→
  UponP P o a W Pn (fun v W'=>∃xs,v=vf i xs∧(if cs.contains i=tT then S (upto cs (i+1)) W' else Kr W W')∧R W W'∧φ i W' xs)
def pre(P:Program) (l:List xV) (es cs:List Nat) (w0:J) (S:Nat→J→Prop) (R:J→J→Prop) (vf:Nat→List tS→tS) (φ:Nat→J→List tS→Prop) (Pn:List PanicEntry→J→Prop) (i:Nat) (o:xV) (a:Act) (E:Nat→Option (List tS)):Prop:=
 if AR o (yielded l.toArray a.tmps)=tT then (if es.contains i=tT then Ob P l cs S R vf φ Pn i o a E else qI P (Cl l cs S i) w0 o a)
 else ∀W,cs.contains i=tT→S (upto cs i) W→S (upto cs (i+1)) W
def cw(P:Program) (l:List xV) (es cs:List Nat) (w0:J) (S:Nat→J→Prop) (R:J→J→Prop) (vf:Nat→List tS→tS) (φ:Nat→J→List tS→Prop) (Pn:List PanicEntry→J→Prop) (i:Nat) (o:xV) (K:Act→(Nat→Option (List tS))→Prop) (a:Act) (E:Nat→Option (List tS)):Prop:=
 pre P l es cs w0 S R vf φ Pn i o a E∧∀xs,K (a.put o.dst (val P l es w0 vf i o a xs)) (env l es i o a E xs)
def wpE(P:Program) (l:List xV) (es cs:List Nat) (w0:J) (S:Nat→J→Prop) (R:J→J→Prop) (vf:Nat→List tS→tS) (φ:Nat→J→List tS→Prop) (Pn:List PanicEntry→J→Prop) (Q:Act→(Nat→Option (List tS))→Prop):Nat→List xV→Act→(Nat→Option (List tS))→Prop
 | _,[],a,E=>Q a E
 | i,o::rest,a,E=>cw P l es cs w0 S R vf φ Pn i o (wpE P l es cs w0 S R vf φ Pn Q (i+1) rest) a E
def nN(P:Program) (l:List xV) (es cs:List Nat) (w0:J) (S:Nat→J→Prop) (R:J→J→Prop) (vf:Nat→List tS→tS) (φ:Nat→J→List tS→Prop) (Pn:List PanicEntry→J→Prop) (i:Nat) (K:Act→(Nat→Option (List tS))→Prop) (a:Act) (E:Nat→Option (List tS)):Prop:=
 match l[i]? with
 | none=>K a E
 | some o=>cw P l es cs w0 S R vf φ Pn i o K a E
def eN(P:Program) (l:List xV) (m:Nat) (es cs:List Nat) (w0:J) (S:Nat→J→Prop) (R:J→J→Prop) (vf:Nat→List tS→tS) (φ:Nat→J→List tS→Prop) (Pn:List PanicEntry→J→Prop) (Q:Act→(Nat→Option (List tS))→Prop):Nat→Array Bool→Act→(Nat→Option (List tS))→Prop
 | 0,listed,a,E=>ed l m listed=[]∧Q a E
 | fuel+1,listed,a,E=>(ed l m listed=[]→Q a E)∧∀i∈ed l m listed,nN P l es cs w0 S R vf φ Pn i (eN P l m es cs w0 S R vf φ Pn Q fuel (listed.setIfInBounds i tT)) a E
theorem AU{i j:Nat}{d c:xV}(z:i≠j)(B:d.apart l.toArray c=tT)(C:∀cs b,d.op≠.select cs b)(D:∀cs b,c.op≠.select cs b)(G:aN l l.length i j=ur)(H:aN l l.length j i=ur)
  {K:Act→(Nat→Option (List tS))→Prop} {a:Act} {E:Nat→Option (List tS)}
  (h:cw P l es cs w0 S R vf φ Pn i d (cw P l es cs w0 S R vf φ Pn j c K) a E):cw P l es cs w0 S R vf φ Pn j c (cw P l es cs w0 S R vf φ Pn i d K) a E:=by
 obtain⟨n,r,T⟩:=Oper.apart_spec B;have L:∀v,AR c (yielded l.toArray (a.put d.dst v).tmps)=AR c (yielded l.toArray a.tmps):=fun v=>wanted_put c a d.dst v n
 have M:∀v,AR d (yielded l.toArray (a.put c.dst v).tmps)=AR d (yielded l.toArray a.tmps):=fun v=>wanted_put d a c.dst v T
 have V:∀v,execOp (a.put d.dst v).eval c=execOp a.eval c:=fun v=>execOp_put c D a d.dst v n
 have X:∀v,execOp (a.put c.dst v).eval d=execOp a.eval d:=fun v=>execOp_put d C a c.dst v T
 have vj:∀v xs,val P l es w0 vf j c (a.put d.dst v) xs=val P l es w0 vf j c a xs:=fun v xs=>by unfold val fY;rw[L,V]
 have vi:∀v xs,val P l es w0 vf i d (a.put c.dst v) xs=val P l es w0 vf i d a xs:=fun v xs=>by unfold val fY;rw[M,X]
 have obj:∀v F,(∀k,aN l l.length j k=tT→F k=E k)→(pre P l es cs w0 S R vf φ Pn j c (a.put d.dst v) F↔pre P l es cs w0 S R vf φ Pn j c a E):=fun v F hF=>by
  unfold pre Ob UponP qI fY;rw[L,V];have:∀W,(∀k xs,aN l l.length j k=tT→F k=A xs→φ k W xs)↔(∀k xs,aN l l.length j k=tT→E k=A xs→φ k W xs):=fun W =>⟨fun h k xs g he=>h k xs g (by rw[hF k g];exact he),fun h k xs g he=>h k xs g (by rw[←hF k g];exact he)⟩
  simp only[this]
 have N:∀v F,(∀k,aN l l.length i k=tT→F k=E k)→(pre P l es cs w0 S R vf φ Pn i d (a.put c.dst v) F↔pre P l es cs w0 S R vf φ Pn i d a E):=fun v F hF=>by
  unfold pre Ob UponP qI fY;rw[M,X];have:∀W,(∀k xs,aN l l.length i k=tT→F k=A xs→φ k W xs)↔(∀k xs,aN l l.length i k=tT→E k=A xs→φ k W xs):=fun W =>⟨fun h k xs g he=>h k xs g (by rw[hF k g];exact he),fun h k xs g he=>h k xs g (by rw[←hF k g];exact he)⟩
  simp only[this]
 have f:∀(q k:Nat) (xs:List tS),aN l l.length k q=ur→∀y,aN l l.length k y=tT→ups E q xs y=E y:=fun q k xs hr y s=>by unfold ups;rw[oe];rintro rfl;rw[hr]at s;cases s
 have t:∀xs k,aN l l.length j k=tT→env l es i d a E xs k=E k:=fun xs k g=>by
  unfold env;split
  ·split
   ·exact f i j xs H k g
   ·rfl
  ·rfl
 have w:∀xs k,aN l l.length i k=tT→env l es j c a E xs k=E k:=fun xs k g=>by
  unfold env;split
  ·split
   ·exact f j i xs G k g
   ·rfl
  ·rfl
 have x:∀v u xs p,env l es j c (a.put d.dst v) (env l es i d a E xs) p=env l es i d (a.put c.dst u) (env l es j c a E p) xs:=fun v u xs p=>by
  unfold env;rw[L,M];have hc:ups (ups E i xs) j p=ups (ups E j p) i xs:=by
   funext k;unfold ups
   by_cases n:k=j
   ·rw[oj n,oe (fun e=>z (e.symm.trans n)),oj n]
   ·by_cases r:k=i
    ·rw[oe n,oj r,oj r]
    ·rw[oe n,oe r,oe r,oe n]
  repeat' split
  all_goals first|rfl|exact hc
 obtain⟨p1,p2⟩:=h;refine⟨(obj _ _ (t [])).1 (p2 []).1,fun p=>⟨(N _ _ (w p)).2 p1,fun xs=>?_⟩⟩;have h4:=(p2 xs).2 p;rw[vj,Act.put_comm a _ _ r,x _ (val P l es w0 vf j c a p)]at h4;rw[vi];exact h4
theorem gU{i:Nat}{o:xV}{K b:Act→(Nat→Option (List tS))→Prop}(c:∀a E,K a E→b a E){a:Act}{E:Nat→Option (List tS)}(h:cw P l es cs w0 S R vf φ Pn i o K a E):cw P l es cs w0 S R vf φ Pn i o b a E:=⟨h.1,fun xs=>c _ _ (h.2 xs)⟩
theorem eL{i:Nat}{o:xV}(b:l[i]?=A o){K:Act→(Nat→Option (List tS))→Prop}{a:Act}{E:Nat→Option (List tS)}:nN P l es cs w0 S R vf φ Pn i K a E↔cw P l es cs w0 S R vf φ Pn i o K a E:=by unfold nN;rw[b]
theorem mF{Q:Act→(Nat→Option (List tS))→Prop}{i:Nat}{W:xV}(hi:l[i]?=A W)(r:∀(j:Nat)(o:xV) cs b,l.toArray[j]?=A o→o.op≠.select cs b)(ad:∀(k:Nat)(o:xV),l[k]?=A o→∀e∈o.after,Region.binds .any e=tT→e.on<k) :
  ∀(fuel:Nat) (listed:Array Bool) (a:Act) (E:Nat→Option (List tS)),
   (∀j n,l.toArray[j]?=A n→j≠i→listed.getD j tT=ur→(∀e∈n.after,Region.binds .any e=tT→e.on≠i)→W.apart l.toArray n=tT)→
   listed.size=l.length→Closed l listed→i∈ed l m listed→
   nN P l es cs w0 S R vf φ Pn i (eN P l m es cs w0 S R vf φ Pn Q fuel (listed.setIfInBounds i tT)) a E→eN P l m es cs w0 S R vf φ Pn Q (fuel+1) listed a E:=by
 intro fuel
 induction fuel with
 | zero =>
  intro listed a E _ _ _ v H;refine⟨fun h=>(by rw[h]at v;cases v),fun j D=>?_⟩
  by_cases c:j=i
  ·subst c;exact H
  ·have X:=(((eL hi).1 H).2 []).1;have:j∈ed l m (listed.setIfInBounds i tT):=be.2 ⟨ready_mono (be.1 D).1 c,(be.1 D).2⟩;rw[X]at this
   cases this
 | succ fuel ih =>
  intro listed a E d F w v H;refine⟨fun h=>(by rw[h]at v;cases v),fun j D=>?_⟩
  by_cases c:j=i
  ·subst c;exact H
  ·have x:=(be.1 D).1;have G:=(be.1 v).1;have H':=(eL hi).1 H;obtain⟨f,n,y,s⟩:=mem_ready.1 x;obtain⟨t,z,u,B⟩:=mem_ready.1 G;have K:z=W:=by rw[show l.toArray[i]?=A W by simpa using hi]at u;injection u with h;exact h.symm
   subst K;have g:l[j]?=A n:=by simpa using y
   have C:∀q,listed.getD q tT=ur→listed.getD q ur=false:=fun q h=>by
    rcases Nat.lt_or_ge q listed.size with h' | h'
    ·simp[h']at h ⊢;exact h
    ·simp[Array.getElem?_eq_none h']at h
   have L:∀e∈n.after,Region.binds .any e=tT→e.on≠i:=fun e he hb heq=>by
    have X:=s e he hb;rw[heq,C i t]at X;cases X
   have M:aN l l.length i j=false:=by
    cases hc:aN l l.length i j with
    | false=>rfl
    | true=>have:=dQ w _ i j _ hi B hc;rw[C j f]at this;cases this
   have N:aN l l.length j i=false:=by
    cases hc:aN l l.length j i with
    | false=>rfl
    | true=>have:=dQ w _ j i _ g s hc;rw[C i t]at this;cases this
   have p:∀k ok,l.toArray[k]?=A ok→k≠i→(listed.setIfInBounds j tT).getD k tT=ur→
     (∀e∈ok.after,Region.binds .any e=tT→e.on≠i)→z.apart l.toArray ok=true:=fun k ok hk af T aq=>by
    refine d k ok hk af ?_ aq
    by_cases V:j=k
    ·subst V;exact f
    ·rw[getD_set_ne tT V]at T;exact T
   have ar:cw P l es cs w0 S R vf φ Pn j n (cw P l es cs w0 S R vf φ Pn i z (eN P l m es cs w0 S R vf φ Pn Q fuel ((listed.setIfInBounds i tT).setIfInBounds j tT))) a E:=by
    refine AU (fun e=>c e.symm) (d j n y c f L) (fun cs b=>r i _ cs b (by simpa using hi)) (fun cs b=>r j n cs b y) M N ?_;refine gU (fun a' E' h3=>?_) H';have h4:=h3.2 j (be.2 ⟨ready_mono x c,(be.1 D).2⟩);exact (eL g).1 h4
   rw[eL g];refine gU (fun a' E' h3=>?_) ar;refine ih (listed.setIfInBounds j tT) a' E' p (by simpa using F) (iV w F ad x) (be.2 ⟨ready_mono G (Ne.symm c),(be.1 v).2⟩) ?_;rw[eL hi,Array.setIfInBounds_comm _ _ c];exact h3
theorem kG{Q:Act→(Nat→Option (List tS))→Prop}(w:Region.noSelect l.toArray=tT)(c:∀(k:Nat)(o:xV),l[k]?=A o→∀e∈o.after,Region.binds .any e=tT→e.on<k):∀(r:List xV) (k fuel:Nat) (listed:Array Bool) (a:Act) (E:Nat→Option (List tS)),(∀j,j<r.length→r[j]?=l[k+j]?)→k+r.length=m→r.length≤fuel→
  (∀i,i<k→listed.getD i ur=tT)→listed.size=l.length→Closed l listed→Region.lexFrom .any l.toArray fuel k listed=tT→wpE P l es cs w0 S R vf φ Pn Q k r a E→eN P l m es cs w0 S R vf φ Pn Q r.length listed a E
 | [],k,fuel,listed,a,E,_,b,_,d,_,_,_,h=>by
  refine⟨?_,h⟩;rw[List.eq_nil_iff_forall_not_mem];intro i hi;obtain⟨y,H⟩:=be.1 hi;have g:=(mem_ready.1 y).1;have u:=d i (by simp at b;omega);have:i<listed.size:=by
   rcases Nat.lt_or_ge i listed.size with h|h
   ·exact h
   ·simp[Array.getElem?_eq_none h]at g
  simp[this]at g u;rw[g]at u;cases u
 | o::r,k,fuel,listed,a,E,x,b,n,d,f,p,hB,h=>by
  have t:l[k]?=A o:=by simpa using (x 0 (by simp)).symm
  obtain⟨fuel,rfl⟩:∃z,fuel=z+1:=⟨fuel-1,by simp at n;omega⟩;simp only[Region.lexFrom,J4]at hB;obtain⟨⟨B,C⟩,v⟩:=hB;have q:k∈Region.ready .any l.toArray listed:=by simpa using B
  have D:k<l.length:=(J3.1 t).1;refine mF t (Region.noSelect_spec w) c r.length listed a E (Region.free_spec (by simpa using t) C) f p (be.2 ⟨q,by simp at b;omega⟩) ?_;rw[eL t];refine gU (fun F G g=>?_) h;refine kG w c r (k+1) fuel _ F G (fun j K=>by have:=x (j+1) (by simp;omega);simpa [Nat.add_assoc,Nat.add_comm 1 j]using this) (by simp at b;omega) (by simp at n;omega) (fun i hi=>?_) (by simpa using f) (iV p f c q) v g
  by_cases s:k=i
  ·subst s;exact gd (by omega)
  ·rw[bp s];exact d i (by omega)
theorem yg(a:Act)(x:Option Tmp)(v:tS):(a.put x v).defers=a.defers:=by cases x<;>rfl
theorem wp_region_effP{id:Nat}{Q:Exit→Act→J→Prop}{a0:Act}(hm:P.follows .mixedOrders=tT)(m:Nat)(es cs:List Nat)(S:Nat→J→Prop)(R:J→J→Prop)(vf:Nat→List tS→tS)(φ:Nat→J→List tS→Prop)(Pn:List PanicEntry→J→Prop)(bb:∀a ch W,a.defers=a0.defers→Pn ch W→Q (.panic ch) a W)
  (ht:tidy l m es cs=tT)
  (bd:∀i,es.contains i=tT→cs.contains i=ur→∀s W W',S s W→Kr W W'→S s W') (bg:∀k W W' xs,φ k W xs→(∃s,S s W)→R W W'→φ k W' xs)
  (bk:S 0 w0.drew)
  (h:wpE P l es cs w0.drew S R vf φ Pn (fun a E=>∀W,S cs.length W→(∀k xs,E k=A xs→φ k W xs)→wpList P l.toArray Q (l.drop m) a W) 0 (l.take m) a0 (fun _=>none)) :
  (Code.region id l.toArray tT).wp P Q a0 w0:=by
 obtain⟨t1,t2,t3,t4,t5,t6⟩:=tA ht;have hlen:(l.take m).length=m:=by rw[List.length_take];omega
 have C:=kG (m:=m) t1 t4 (l.take m) 0 l.length (Array.replicate l.length ur) a0 (fun _=>none) (fun j hj=>by rw[List.getElem?_take,oj (by omega),Nat.zero_add]) (by omega) (by omega) (fun i hi=>by omega) (by simp) (fun i o _ hl=>by rw[iM]at hl;cases hl) t2 h;rw[hlen]at C;refine oR hm (fun listed a W=>Closed l listed∧∃j,m≤j∧j≤l.length∧(∀i,j≤i→listed.getD i ur=ur)∧((j=m∧(∃fuel E,a.defers=a0.defers∧eN P l m es cs w0.drew S R vf φ Pn (fun a E=>∀W,S cs.length W→(∀k xs,E k=A xs→φ k W xs)→wpList P l.toArray Q (l.drop m) a W) fuel listed a E∧S (done cs listed) W∧∀k xs,E k=A xs→φ k W xs))∨(m<j∧(∀i,i<j→listed.getD i ur=tT)∧wpList P l.toArray Q (l.drop j) a W))) ?_ ?_ ?_
 ·refine⟨fun i o _ hl=>(by rw[iM]at hl;cases hl),m,JM _,t3,fun i _=>iM,Or.inl ⟨Z,m,_,Z,C,?_,fun k xs h=>by cases h⟩⟩;have:done cs (Array.replicate l.length ur)=0:=by
   unfold done;rw[List.filter_eq_nil_iff.2 fun k _=>by rw[iM];simp];rfl
  rw[this];exact bk
 ·intro listed a W i hI ad hi;obtain⟨p,j,bl,T,c,hI⟩:=hI;have d:listed.size=l.length:=by simpa using ad
  obtain⟨b0,o,ho,a6⟩:=mem_ready.1 hi;have D:l[i]?=A o:=by simpa using ho
  have bm:i<l.length:=(J3.1 D).1;have X:=fE hi;have z:=iV p d t4 hi;have hw:wpOp P l.toArray Q i=fun K a W=>if AR o (yielded l.toArray a.tmps)=tT then o.wp P a W K Q∨(o.asks P a W∧LetsOut Q) else K (a.put o.dst xk) W:=by funext K a W;unfold wpOp;simp only[ho]
  rw[hw]
  show (if AR o (yielded l.toArray a.tmps)=tT then _ else _)
  have n:m≤i→∀k,k<i→listed.getD k ur=true:=fun F k hk=>dQ p _ i k o D a6 (t5 i o D F k hk)
  have G:∀(r:Nat),r=i→m≤r→(∀k,k<r→listed.getD k ur=tT)→(∀k,r≤k→listed.getD k ur=ur)→wpList P l.toArray Q (l.drop r) a W→
    (if AR o (yielded l.toArray a.tmps)=tT then o.wp P a W (fun H W'=>Closed l (listed.setIfInBounds i tT)∧∃j,m≤j∧j≤l.length∧(∀k,j≤k→(listed.setIfInBounds i tT).getD k ur=ur)∧((j=m∧(∃fuel E,H.defers=a0.defers∧eN P l m es cs w0.drew S R vf φ Pn (fun a E=>∀W,S cs.length W→(∀k xs,E k=A xs→φ k W xs)→wpList P l.toArray Q (l.drop m) a W) fuel (listed.setIfInBounds i tT) H E∧S (done cs (listed.setIfInBounds i tT)) W'∧∀k xs,E k=A xs→φ k W' xs))∨(m<j∧(∀k,k<j→(listed.setIfInBounds i tT).getD k ur=tT)∧wpList P l.toArray Q (l.drop j) H W'))) Q∨(o.asks P a W∧LetsOut Q)
     else Closed l (listed.setIfInBounds i tT)∧∃j,m≤j∧j≤l.length∧(∀k,j≤k→(listed.setIfInBounds i tT).getD k ur=ur)∧((j=m∧(∃fuel E,(a.put o.dst xk).defers=a0.defers∧eN P l m es cs w0.drew S R vf φ Pn (fun a E=>∀W,S cs.length W→(∀k xs,E k=A xs→φ k W xs)→wpList P l.toArray Q (l.drop m) a W) fuel (listed.setIfInBounds i tT) (a.put o.dst xk) E∧S (done cs (listed.setIfInBounds i tT)) W∧∀k xs,E k=A xs→φ k W xs))∨(m<j∧(∀k,k<j→(listed.setIfInBounds i tT).getD k ur=tT)∧wpList P l.toArray Q (l.drop j) (a.put o.dst xk) W))):=by
   intro r bn F b bq g;subst bn;rw[List.drop_eq_getElem_cons bm,show l[r]=o from (J3.1 D).2]at g;unfold wpList at g;have fin:∀H W',wpList P l.toArray Q (l.drop (r+1)) H W'→Closed l (listed.setIfInBounds r tT)∧∃j,m≤j∧j≤l.length∧(∀k,j≤k→(listed.setIfInBounds r tT).getD k ur=ur)∧((j=m∧(∃fuel E,H.defers=a0.defers∧eN P l m es cs w0.drew S R vf φ Pn (fun a E=>∀W,S cs.length W→(∀k xs,E k=A xs→φ k W xs)→wpList P l.toArray Q (l.drop m) a W) fuel (listed.setIfInBounds r tT) H E∧S (done cs (listed.setIfInBounds r tT)) W'∧∀k xs,E k=A xs→φ k W' xs))∨(m<j∧(∀k,k<j→(listed.setIfInBounds r tT).getD k ur=tT)∧wpList P l.toArray Q (l.drop j) H W')):=by
    intro H W' h;refine⟨z,r+1,by omega,by omega,fun k hk=>?_,Or.inr ⟨by omega,fun k hk=>?_,h⟩⟩
    ·rw[bp (by omega)];exact bq k (by omega)
    ·by_cases ba:k=r
     ·subst ba;exact gd (by omega)
     ·rw[bp (fun e=>ba e.symm)];exact b k (by omega)
   by_cases t:AR o (yielded l.toArray a.tmps)=tT
   ·rw[oj t]at g ⊢;exact g.imp (Oper.wp_mono (fun H W' hq=>fin H W' hq)) (fun h=>h)
   ·rw[oe t]at g ⊢;exact fin _ _ g
  rcases hI with ⟨rfl,fuel,E,L,u,N,hE⟩|⟨bR,b,g⟩
  ·by_cases F:j≤i
   ·have af:j=i:=by
     rcases Nat.lt_or_ge j i with h|h
     ·have w:=n F j h;rw[c j (JM _)]at w;cases w
     ·omega
    have b:∀k,k<j→listed.getD k ur=true:=fun k hk=>n F k (by omega)
    refine G j af (JM _) b c ?_;have aq:ed l j listed=[]:=by
     rw[List.eq_nil_iff_forall_not_mem];intro q hq;obtain⟨w,h2⟩:=be.1 hq;have:=fE w;rw[b q h2]at this;cases this
    have hQ:∀W,S cs.length W→(∀k xs,E k=A xs→φ k W xs)→wpList P l.toArray Q (l.drop j) a W:=by
     cases fuel with
     | zero=>exact u.2
     | succ fuel=>exact u.1 aq
    exact hQ W (by rw[←oN t6 b];exact N) hE
   ·have bt:i<j:=by omega
    have M:∀k,j≤k→(listed.setIfInBounds i tT).getD k ur=false:=fun k hk=>by rw[bp (by omega)];exact c k hk
    have ar:i∈ed l j listed:=be.2 ⟨hi,bt⟩;obtain⟨x,hf⟩:∃f',fuel=f'+1:=by
     cases fuel with
     | zero=>have:=u.1;rw[this]at ar;cases ar
     | succ f=>exact⟨f,Z⟩
    subst hf;obtain⟨p1,p2⟩:=(eL D).1 (u.2 i ar);have hC:Cl l cs S i W:=⟨_,Af p d hi,N⟩;unfold pre at p1;unfold val env at p2
    by_cases t:AR o (yielded l.toArray a.tmps)=tT
    ·rw[oj t]at p1 ⊢;simp only[t,oX]at p2
     left
     cases V:es.contains i with
     | true =>
      simp only[V,oX]at p1 p2;refine (p1 W hC (fun B=>by rw[←(jb t6 p d hi B).1];exact N) (fun k xs _ he=>hE k xs he)).wp (fun v W' hg=>?_) (fun ch W' hg=>bb a ch W' L hg);obtain⟨xs,rfl,w,h2,h3⟩:=hg;refine⟨z,j,JM _,T,M,Or.inl ⟨Z,x,_,(yg _ _ _).trans L,p2 xs,?_,fun k ys he=>?_⟩⟩
      ·cases B:cs.contains i with
       | true=>simp only[B,oX]at w;rw[(jb t6 p d hi B).2];exact w
       | false=>simp only[B,Ka,oF]at w;rw[iZ B];exact bd i V B _ _ _ N w
      ·unfold ups at he
       by_cases a1:k=i
       ·rw[oj a1]at he;injection he with he;subst he a1;exact h3
       ·rw[oe a1]at he;exact bg k W W' ys (hE k ys he) ⟨_,N⟩ h2
     | false =>
      simp only[V,Ka,oF]at p1 p2;have bB:cs.contains i=false:=by
       cases B:cs.contains i with
       | false=>rfl
       | true=>have:=(t6 i (by simpa using B)).2.1;rw[V]at this;cases this
      have fin:∀v,v=fY P w0.drew o a→Closed l (listed.setIfInBounds i tT)∧∃y,j≤y∧y≤l.length∧(∀k,y≤k→(listed.setIfInBounds i tT).getD k ur=ur)∧((y=j∧(∃fuel E,(a.put o.dst v).defers=a0.defers∧eN P l j es cs w0.drew S R vf φ Pn (fun a E=>∀W,S cs.length W→(∀k xs,E k=A xs→φ k W xs)→wpList P l.toArray Q (l.drop j) a W) fuel (listed.setIfInBounds i tT) (a.put o.dst v) E∧S (done cs (listed.setIfInBounds i tT)) W∧∀k xs,E k=A xs→φ k W xs))∨(j<y∧(∀k,k<y→(listed.setIfInBounds i tT).getD k ur=tT)∧wpList P l.toArray Q (l.drop y) (a.put o.dst v) W)):=by
       rintro v rfl;exact⟨z,j,JM _,T,M,Or.inl ⟨Z,x,E,(yg _ _ _).trans L,p2 [],by rw[iZ bB];exact N,hE⟩⟩
      unfold Oper.wp;rcases p1 W hC with h|⟨h,hv⟩
      ·rw[h,Oper.upon_value];exact fin _ Z
      ·rw[h,Oper.upon_skip];exact fin _ hv.symm
    ·rw[oe t]at p1 ⊢;simp only[t]at p2;refine⟨z,j,JM _,T,M,Or.inl ⟨Z,x,E,(yg _ _ _).trans L,p2 [],?_,hE⟩⟩
     cases B:cs.contains i with
     | true =>
      obtain⟨d1,d2⟩:=jb t6 p d hi B;rw[d2];exact p1 W B (by rw[←d1];exact N)
     | false=>rw[iZ B];exact N
  ·have af:j=i:=by
    rcases Nat.lt_trichotomy i j with h|h|h
    ·rw[b i h]at X;cases X
    ·exact h.symm
    ·have w:=n (by omega) j h;rw[c j (JM _)]at w;cases w
   exact G j af (by omega) b c g
 ·intro listed a W hI ad hr;obtain⟨p,j,bl,T,c,hI⟩:=hI;have d:listed.size=l.length:=by simpa using ad
  have b:=oH t4 d (JM l.length) (fun i hi=>by rw[hr]at hi;cases hi);have hj:j=l.length:=by
   rcases Nat.lt_or_ge j l.length with h|h
   ·have w:=b j h;rw[c j (JM _)]at w;cases w
   ·omega
  rcases hI with ⟨rfl,fuel,E,L,u,N,hE⟩|⟨_,_,g⟩
  ·have aq:ed l j listed=[]:=by unfold ed;rw[hr];rfl
   have hQ:∀W,S cs.length W→(∀k xs,E k=A xs→φ k W xs)→wpList P l.toArray Q (l.drop j) a W:=by
    cases fuel with
    | zero=>exact u.2
    | succ fuel=>exact u.1 aq
   have h:=hQ W (by rw[←oN t6 (fun i hi=>b i (by omega))];exact N) hE;rw[List.drop_eq_nil_of_le (by omega)]at h;exact h
  ·rw[List.drop_eq_nil_of_le (by omega)]at g;exact g
section
variable {Q:Act→(Nat→Option (List tS))→Prop} {i:Nat} {o:xV} {rest:List xV} {a:Act} {E:Nat→Option (List tS)}
theorem q(C:J→Prop)(e:∀s W,s≤lim l cs i→S s W→C W)(j:wO o.op=tT)(he:es.contains i=ur)(d:cs.contains i=ur)(k:S 0 w0)
  (h:wpQuiet P l.toArray C (fun p=>wpE P l es cs w0 S R vf φ Pn Q (i+1) rest p E) [o] a):wpE P l es cs w0 S R vf φ Pn Q i (o::rest) a E:=by
 unfold wpQuiet at h
 show cw P l es cs w0 S R vf φ Pn i o _ a E
 unfold cw pre val env
 by_cases hw:AR o (yielded l.toArray a.tmps)=tT
 ·rw[oj hw]at h ⊢;simp only[hw,oX,he,Ka,oF];obtain⟨v,q,t⟩:=h;have key:∀w,C w→(execOp a.eval o).run P w=.ok (.value v) w∨((execOp a.eval o).run P w=.ok .skip w∧v=xk):=fun w b=>by
   have c:=q w b;have y:∀f xs w',(execOp a.eval o).run P w≠.ok (.enter f xs) w':=fun f xs w'=>td a.eval o j
   unfold Oper.quietAt at c;generalize (execOp a.eval o).run P w=r at *
   cases r with
   | ok n w' =>
    cases n<;>simp only[Oper.quietUpon]at c
    case value u=>obtain⟨rfl,rfl⟩:=c;exact Or.inl Z
    case skip=>obtain⟨rfl,rfl⟩:=c;exact Or.inr ⟨Z,Z⟩
    case enter f args=>exact absurd Z (y f args w')
   | halt x w'=>simp only[Oper.quietUpon]at c
  have g:fY P w0 o a=v:=by
   unfold fY;rcases key w0 (e 0 w0 (J0 _) k) with h|⟨h,rfl⟩
   ·rw[h]
   ·rw[h]
  rw[g];refine⟨fun w b=>?_,fun _=>t⟩;rw[g];obtain⟨s,z,B⟩:=b;exact key w (e s w z B)
 ·rw[oe hw]at h ⊢;simp only[hw];exact⟨fun W D=>absurd D (by rw[d];decide),fun _=>h⟩
theorem h(hw:AR o (yielded l.toArray a.tmps)=tT)(he:es.contains i=tT)(b:Ob P l cs S R vf φ Pn i o a E)(h:∀xs,wpE P l es cs w0 S R vf φ Pn Q (i+1) rest (a.put o.dst (vf i xs)) (ups E i xs)) :
  wpE P l es cs w0 S R vf φ Pn Q i (o::rest) a E:=by
 show cw P l es cs w0 S R vf φ Pn i o _ a E
 unfold cw pre val env;simp only[hw,oX,he];exact⟨b,h⟩
theorem wpE_off(hw:AR o (yielded l.toArray a.tmps)=ur)(b:∀W,cs.contains i=tT→S (upto cs i) W→S (upto cs (i+1)) W)(h:wpE P l es cs w0 S R vf φ Pn Q (i+1) rest (a.put o.dst xk) E) :
  wpE P l es cs w0 S R vf φ Pn Q i (o::rest) a E:=by
 show cw P l es cs w0 S R vf φ Pn i o _ a E
 unfold cw pre val env;simp only[hw,Ka,oF];exact⟨b,fun _=>h⟩
theorem u(h:Q a E):wpE P l es cs w0 S R vf φ Pn Q i [] a E:=h
end
end
end Go.Proofs.YtoahnjkclckodaaGreatDoor.RP
