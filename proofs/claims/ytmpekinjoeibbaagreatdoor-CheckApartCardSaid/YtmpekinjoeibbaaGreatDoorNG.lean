/- As RegE; an operation's callee may end with a panic: then the region ends with it. No condition. Printed by tools/genRegH.py. -/
import Derived.Test.YtmpekinjoeibbaaGreatDoorMT
open Go renaming Oper→wg,World→p7,Value→r3,undef→tT
open Bool renaming true→r5,false→r7
open Option renaming some→A
open Go.Region renaming wanted→xL
namespace Go.Proofs.YtmpekinjoeibbaaGreatDoor.RP
open Go.RowKit RE
section
variable {P:Program} {l:List wg} {m:Nat} {es cs:List Nat} {w0:p7} {S:Nat→p7→Prop} {R:p7→p7→Prop} {vf:Nat→List r3→r3} {φ:Nat→p7→List r3→Prop} {Pn:List PanicEntry→p7→Prop}
def UponP(P:Program) (o:wg) (a:Act) (W:p7) (Pn:List PanicEntry→p7→Prop) (G:r3→p7→Prop):Prop:=
 match (execOp a.eval o).run P W with
 | .ok (.value v) W'=>G v W'
 | .ok .skip W'=>G tT W'
 | .ok (.enter f args) W'=>Calls P f args W' (fun e b=>(∃v,e=Ending.returned v∧G v b)∨∃c,e=.panicked c∧Pn c b)
 | _=>False
theorem UponP.wp{o:wg}{a:Act}{W:p7}{Pn:List PanicEntry→p7→Prop}{G:r3→p7→Prop}{K:Act→p7→Prop}{Q:Exit→Act→p7→Prop}(h:UponP P o a W Pn G)(b:∀v W',G v W'→K (a.put o.dst v) W')(g:∀c W',Pn c W'→Q (.panic c) a W'):o.wp P a W K Q:=by
 unfold UponP at h;unfold Oper.wp;generalize (execOp a.eval o).run P W=r at *
 cases r with
 | ok n w' =>
  cases n<;>simp only[Oper.upon]at h ⊢
  case value u=>exact b _ _ h
  case skip=>exact b _ _ h
  case enter f args =>
   refine h.mono ?_;rintro e j (⟨v,rfl,d⟩|⟨c,rfl,d⟩)
   ·exact b _ _ d
   ·exact g _ _ d
 | halt x w'=>exact h.elim
theorem UponP.of{o:wg}{a:Act}{W:p7}{Pn:List PanicEntry→p7→Prop}{G:r3→p7→Prop}(h:RE.Upon P o a W G):UponP P o a W Pn G:=by
 unfold RE.Upon at h;unfold UponP;generalize (execOp a.eval o).run P W=r at *
 cases r with
 | ok n w' =>
  cases n<;>simp only at h ⊢
  case value u=>exact h
  case skip=>exact h
  case enter f args=>exact h.mono fun e b c=>Or.inl c
 | halt x w'=>exact h.elim
theorem uponP_call{o:wg}{a:Act}{w:p7}{Pn:List PanicEntry→p7→Prop}{G:r3→p7→Prop}(f:FuncId)(args:Array Operand)(c:Array TypeId)(g:o.op=.call { callee:=.value (.func f),args:=args,argTypes:=c })(b:∀(xs:Array r3)(w:p7),(callFunc f xs).run P w=.ok (.enter f xs) w)
  (vs:Array r3) (hv:args.map a.eval=vs) (h:Calls P f vs w (fun e w'=>(∃v,e=Ending.returned v∧G v w')∨∃d,e=.panicked d∧Pn d w')):UponP P o a w Pn G:=by
 unfold UponP;have he:=b vs w;have j:a.eval (.func f)=Value.func (.func f) #[] #[]:=rfl;have k:(execOp a.eval o).run P w=.ok (.enter f vs) w:=by simp[execOp,g,resolve,Deferred.ofValue,j,hv,invoke,he]
 rw[k];exact h
def Ob(P:Program) (l:List wg) (cs:List Nat) (S:Nat→p7→Prop) (R:p7→p7→Prop) (vf:Nat→List r3→r3) (φ:Nat→p7→List r3→Prop) (Pn:List PanicEntry→p7→Prop) (i:Nat) (o:wg) (a:Act) (E:Nat→Option (List r3)):Prop:=
 ∀W:p7,Cl l cs S i W→(cs.contains i=r5→S (upto cs i) W)→(∀k xs,aO l l.length i k=r5→E k=A xs→φ k W xs)→
  UponP P o a W Pn (fun v W'=>∃xs,v=vf i xs∧(if cs.contains i=r5 then S (upto cs (i+1)) W' else FS W W')∧R W W'∧φ i W' xs)
def pre(P:Program) (l:List wg) (es cs:List Nat) (w0:p7) (S:Nat→p7→Prop) (R:p7→p7→Prop) (vf:Nat→List r3→r3) (φ:Nat→p7→List r3→Prop) (Pn:List PanicEntry→p7→Prop) (i:Nat) (o:wg) (a:Act) (E:Nat→Option (List r3)):Prop:=
 if xL o (yielded l.toArray a.tmps)=r5 then (if es.contains i=r5 then Ob P l cs S R vf φ Pn i o a E else nO P (Cl l cs S i) w0 o a)
 else ∀W,cs.contains i=r5→S (upto cs i) W→S (upto cs (i+1)) W
def bV(P:Program) (l:List wg) (es cs:List Nat) (w0:p7) (S:Nat→p7→Prop) (R:p7→p7→Prop) (vf:Nat→List r3→r3) (φ:Nat→p7→List r3→Prop) (Pn:List PanicEntry→p7→Prop) (i:Nat) (o:wg) (K:Act→(Nat→Option (List r3))→Prop) (a:Act) (E:Nat→Option (List r3)):Prop:=
 pre P l es cs w0 S R vf φ Pn i o a E∧∀xs,K (a.put o.dst (val P l es w0 vf i o a xs)) (env l es i o a E xs)
def wpE(P:Program) (l:List wg) (es cs:List Nat) (w0:p7) (S:Nat→p7→Prop) (R:p7→p7→Prop) (vf:Nat→List r3→r3) (φ:Nat→p7→List r3→Prop) (Pn:List PanicEntry→p7→Prop) (Q:Act→(Nat→Option (List r3))→Prop):Nat→List wg→Act→(Nat→Option (List r3))→Prop
 | _,[],a,E=>Q a E
 | i,o::rest,a,E=>bV P l es cs w0 S R vf φ Pn i o (wpE P l es cs w0 S R vf φ Pn Q (i+1) rest) a E
def lI(P:Program) (l:List wg) (es cs:List Nat) (w0:p7) (S:Nat→p7→Prop) (R:p7→p7→Prop) (vf:Nat→List r3→r3) (φ:Nat→p7→List r3→Prop) (Pn:List PanicEntry→p7→Prop) (i:Nat) (K:Act→(Nat→Option (List r3))→Prop) (a:Act) (E:Nat→Option (List r3)):Prop:=
 match l[i]? with
 | none=>K a E
 | some o=>bV P l es cs w0 S R vf φ Pn i o K a E
def eB(P:Program) (l:List wg) (m:Nat) (es cs:List Nat) (w0:p7) (S:Nat→p7→Prop) (R:p7→p7→Prop) (vf:Nat→List r3→r3) (φ:Nat→p7→List r3→Prop) (Pn:List PanicEntry→p7→Prop) (Q:Act→(Nat→Option (List r3))→Prop):Nat→Array Bool→Act→(Nat→Option (List r3))→Prop
 | 0,listed,a,E=>dT l m listed=[]∧Q a E
 | fuel+1,listed,a,E=>(dT l m listed=[]→Q a E)∧∀i∈dT l m listed,lI P l es cs w0 S R vf φ Pn i (eB P l m es cs w0 S R vf φ Pn Q fuel (listed.setIfInBounds i r5)) a E
theorem xR{i j:Nat}{d c:wg}(y:i≠j)(z:d.apart l.toArray c=r5)(B:∀cs b,d.op≠.select cs b)(C:∀cs b,c.op≠.select cs b)(D:aO l l.length i j=r7)(G:aO l l.length j i=r7)
  {K:Act→(Nat→Option (List r3))→Prop} {a:Act} {E:Nat→Option (List r3)}
  (h:bV P l es cs w0 S R vf φ Pn i d (bV P l es cs w0 S R vf φ Pn j c K) a E):bV P l es cs w0 S R vf φ Pn j c (bV P l es cs w0 S R vf φ Pn i d K) a E:=by
 obtain⟨n,p,N⟩:=Oper.apart_spec z;have H:∀v,xL c (yielded l.toArray (a.put d.dst v).tmps)=xL c (yielded l.toArray a.tmps):=fun v=>wanted_put c a d.dst v n
 have L:∀v,xL d (yielded l.toArray (a.put c.dst v).tmps)=xL d (yielded l.toArray a.tmps):=fun v=>wanted_put d a c.dst v N
 have T:∀v,execOp (a.put d.dst v).eval c=execOp a.eval c:=fun v=>execOp_put c C a d.dst v n
 have U:∀v,execOp (a.put c.dst v).eval d=execOp a.eval d:=fun v=>execOp_put d B a c.dst v N
 have vj:∀v xs,val P l es w0 vf j c (a.put d.dst v) xs=val P l es w0 vf j c a xs:=fun v xs=>by unfold val fw;rw[H,T]
 have vi:∀v xs,val P l es w0 vf i d (a.put c.dst v) xs=val P l es w0 vf i d a xs:=fun v xs=>by unfold val fw;rw[L,U]
 have obj:∀v F,(∀k,aO l l.length j k=r5→F k=E k)→(pre P l es cs w0 S R vf φ Pn j c (a.put d.dst v) F↔pre P l es cs w0 S R vf φ Pn j c a E):=fun v F hF=>by
  unfold pre Ob UponP nO fw;rw[H,T];have:∀W,(∀k xs,aO l l.length j k=r5→F k=A xs→φ k W xs)↔(∀k xs,aO l l.length j k=r5→E k=A xs→φ k W xs):=fun W =>⟨fun h k xs g he=>h k xs g (by rw[hF k g];exact he),fun h k xs g he=>h k xs g (by rw[←hF k g];exact he)⟩
  simp only[this]
 have M:∀v F,(∀k,aO l l.length i k=r5→F k=E k)→(pre P l es cs w0 S R vf φ Pn i d (a.put c.dst v) F↔pre P l es cs w0 S R vf φ Pn i d a E):=fun v F hF=>by
  unfold pre Ob UponP nO fw;rw[L,U];have:∀W,(∀k xs,aO l l.length i k=r5→F k=A xs→φ k W xs)↔(∀k xs,aO l l.length i k=r5→E k=A xs→φ k W xs):=fun W =>⟨fun h k xs g he=>h k xs g (by rw[hF k g];exact he),fun h k xs g he=>h k xs g (by rw[←hF k g];exact he)⟩
  simp only[this]
 have f:∀(q k:Nat) (xs:List r3),aO l l.length k q=r7→∀x,aO l l.length k x=r5→ups E q xs x=E x:=fun q k xs hr x r=>by unfold ups;rw[ox];rintro rfl;rw[hr]at r;cases r
 have s:∀xs k,aO l l.length j k=r5→env l es i d a E xs k=E k:=fun xs k g=>by
  unfold env;split
  ·split
   ·exact f i j xs G k g
   ·rfl
  ·rfl
 have t:∀xs k,aO l l.length i k=r5→env l es j c a E xs k=E k:=fun xs k g=>by
  unfold env;split
  ·split
   ·exact f j i xs D k g
   ·rfl
  ·rfl
 have w:∀v u xs ys,env l es j c (a.put d.dst v) (env l es i d a E xs) ys=env l es i d (a.put c.dst u) (env l es j c a E ys) xs:=fun v u xs ys=>by
  unfold env;rw[H,L];have hc:ups (ups E i xs) j ys=ups (ups E j ys) i xs:=by
   funext k;unfold ups
   by_cases n:k=j
   ·rw[oA n,ox (fun e=>y (e.symm.trans n)),oA n]
   ·by_cases p:k=i
    ·rw[ox n,oA p,oA p]
    ·rw[ox n,ox p,ox p,ox n]
  repeat' split
  all_goals first|rfl|exact hc
 obtain⟨p1,X⟩:=h;refine⟨(obj _ _ (s [])).1 (X []).1,fun ys=>⟨(M _ _ (t ys)).2 p1,fun xs=>?_⟩⟩;have h4:=(X xs).2 ys;rw[vj,Act.put_comm a _ _ p,w _ (val P l es w0 vf j c a ys)]at h4;rw[vi];exact h4
theorem gp{i:Nat}{o:wg}{K b:Act→(Nat→Option (List r3))→Prop}(c:∀a E,K a E→b a E){a:Act}{E:Nat→Option (List r3)}(h:bV P l es cs w0 S R vf φ Pn i o K a E):bV P l es cs w0 S R vf φ Pn i o b a E:=⟨h.1,fun xs=>c _ _ (h.2 xs)⟩
theorem ez{i:Nat}{o:wg}(b:l[i]?=A o){K:Act→(Nat→Option (List r3))→Prop}{a:Act}{E:Nat→Option (List r3)}:lI P l es cs w0 S R vf φ Pn i K a E↔bV P l es cs w0 S R vf φ Pn i o K a E:=by unfold lI;rw[b]
theorem lh{Q:Act→(Nat→Option (List r3))→Prop}{i:Nat}{X:wg}(D:l[i]?=A X)(r:∀(j:Nat)(o:wg) cs b,l.toArray[j]?=A o→o.op≠.select cs b)(ad:∀(k:Nat)(o:wg),l[k]?=A o→∀e∈o.after,Region.binds .any e=r5→e.on<k) :
  ∀(fuel:Nat) (listed:Array Bool) (a:Act) (E:Nat→Option (List r3)),
   (∀j n,l.toArray[j]?=A n→j≠i→listed.getD j r5=r7→(∀e∈n.after,Region.binds .any e=r5→e.on≠i)→X.apart l.toArray n=r5)→
   listed.size=l.length→Closed l listed→i∈dT l m listed→
   lI P l es cs w0 S R vf φ Pn i (eB P l m es cs w0 S R vf φ Pn Q fuel (listed.setIfInBounds i r5)) a E→eB P l m es cs w0 S R vf φ Pn Q (fuel+1) listed a E:=by
 intro fuel
 induction fuel with
 | zero =>
  intro listed a E _ _ _ v H;refine⟨fun h=>(by rw[h]at v;cases v),fun j F=>?_⟩
  by_cases c:j=i
  ·subst c;exact H
  ·have h1:=(((ez D).1 H).2 []).1;have:j∈dT l m (listed.setIfInBounds i r5):=be.2 ⟨ready_mono (be.1 F).1 c,(be.1 F).2⟩;rw[h1]at this
   cases this
 | succ fuel ih =>
  intro listed a E d G w v H;refine⟨fun h=>(by rw[h]at v;cases v),fun j F=>?_⟩
  by_cases c:j=i
  ·subst c;exact H
  ·have x:=(be.1 F).1;have K:=(be.1 v).1;have H':=(ez D).1 H;obtain⟨f,n,y,s⟩:=mem_ready.1 x;obtain⟨t,z,u,B⟩:=mem_ready.1 K;have L:z=X:=by rw[show l.toArray[i]?=A X by simpa using D]at u;injection u with h;exact h.symm
   subst L;have g:l[j]?=A n:=by simpa using y
   have C:∀q,listed.getD q r5=r7→listed.getD q r7=false:=fun q h=>by
    rcases Nat.lt_or_ge q listed.size with h' | h'
    ·simp[h']at h ⊢;exact h
    ·simp[Array.getElem?_eq_none h']at h
   have M:∀e∈n.after,Region.binds .any e=r5→e.on≠i:=fun e he hb heq=>by
    have h1:=s e he hb;rw[heq,C i t]at h1;cases h1
   have N:aO l l.length i j=false:=by
    cases hc:aO l l.length i j with
    | false=>rfl
    | true=>have:=dG w _ i j _ D B hc;rw[C j f]at this;cases this
   have T:aO l l.length j i=false:=by
    cases hc:aO l l.length j i with
    | false=>rfl
    | true=>have:=dG w _ j i _ g s hc;rw[C i t]at this;cases this
   have p:∀k ok,l.toArray[k]?=A ok→k≠i→(listed.setIfInBounds j r5).getD k r5=r7→
     (∀e∈ok.after,Region.binds .any e=r5→e.on≠i)→z.apart l.toArray ok=true:=fun k ok hk af U ak=>by
    refine d k ok hk af ?_ ak
    by_cases W:j=k
    ·subst W;exact f
    ·rw[getD_set_ne r5 W]at U;exact U
   have aq:bV P l es cs w0 S R vf φ Pn j n (bV P l es cs w0 S R vf φ Pn i z (eB P l m es cs w0 S R vf φ Pn Q fuel ((listed.setIfInBounds i r5).setIfInBounds j r5))) a E:=by
    refine xR (fun e=>c e.symm) (d j n y c f M) (fun cs b=>r i _ cs b (by simpa using D)) (fun cs b=>r j n cs b y) N T ?_;refine gp (fun a' E' h3=>?_) H';have h4:=h3.2 j (be.2 ⟨ready_mono x c,(be.1 F).2⟩);exact (ez g).1 h4
   rw[ez g];refine gp (fun a' E' h3=>?_) aq;refine ih (listed.setIfInBounds j r5) a' E' p (by simpa using G) (iv w G ad x) (be.2 ⟨ready_mono K (Ne.symm c),(be.1 v).2⟩) ?_;rw[ez D,Array.setIfInBounds_comm _ _ c];exact h3
theorem jV{Q:Act→(Nat→Option (List r3))→Prop}(w:Region.noSelect l.toArray=r5)(c:∀(k:Nat)(o:wg),l[k]?=A o→∀e∈o.after,Region.binds .any e=r5→e.on<k):∀(r:List wg) (k fuel:Nat) (listed:Array Bool) (a:Act) (E:Nat→Option (List r3)),(∀j,j<r.length→r[j]?=l[k+j]?)→k+r.length=m→r.length≤fuel→
  (∀i,i<k→listed.getD i r7=r5)→listed.size=l.length→Closed l listed→Region.lexFrom .any l.toArray fuel k listed=r5→wpE P l es cs w0 S R vf φ Pn Q k r a E→eB P l m es cs w0 S R vf φ Pn Q r.length listed a E
 | [],k,fuel,listed,a,E,_,b,_,d,_,_,_,h=>by
  refine⟨?_,h⟩;rw[List.eq_nil_iff_forall_not_mem];intro i x;obtain⟨z,K⟩:=be.1 x;have g:=(mem_ready.1 z).1;have u:=d i (by simp at b;omega);have:i<listed.size:=by
   rcases Nat.lt_or_ge i listed.size with h|h
   ·exact h
   ·simp[Array.getElem?_eq_none h]at g
  simp[this]at g u;rw[g]at u;cases u
 | o::r,k,fuel,listed,a,E,y,b,n,d,f,p,hB,h=>by
  have t:l[k]?=A o:=by simpa using (y 0 (by simp)).symm
  obtain⟨fuel,rfl⟩:∃B,fuel=B+1:=⟨fuel-1,by simp at n;omega⟩;simp only[Region.lexFrom,Fp]at hB;obtain⟨⟨C,D⟩,v⟩:=hB;have q:k∈Region.ready .any l.toArray listed:=by simpa using C
  have F:k<l.length:=(Fo.1 t).1;refine lh t (Region.noSelect_spec w) c r.length listed a E (Region.free_spec (by simpa using t) D) f p (be.2 ⟨q,by simp at b;omega⟩) ?_;rw[ez t];refine gp (fun G H g=>?_) h;refine jV w c r (k+1) fuel _ G H (fun j L=>by have:=y (j+1) (by simp;omega);simpa [Nat.add_assoc,Nat.add_comm 1 j]using this) (by simp at b;omega) (by simp at n;omega) (fun i x=>?_) (by simpa using f) (iv p f c q) v g
  by_cases s:k=i
  ·subst s;exact fJ (by omega)
  ·rw[bh s];exact d i (by omega)
theorem uN(a:Act)(x:Option Tmp)(v:r3):(a.put x v).defers=a.defers:=by cases x<;>rfl
theorem wp_region_effP{id:Nat}{Q:Exit→Act→p7→Prop}{a0:Act}(hm:P.follows .mixedOrders=r5)(m:Nat)(es cs:List Nat)(S:Nat→p7→Prop)(R:p7→p7→Prop)(vf:Nat→List r3→r3)(φ:Nat→p7→List r3→Prop)(Pn:List PanicEntry→p7→Prop)(a7:∀a ch W,a.defers=a0.defers→Pn ch W→Q (.panic ch) a W)
  (ht:tidy l m es cs=r5)
  (a8:∀i,es.contains i=r5→cs.contains i=r7→∀s W W',S s W→FS W W'→S s W') (ba:∀k W W' xs,φ k W xs→(∃s,S s W)→R W W'→φ k W' xs)
  (bb:S 0 w0.drew)
  (h:wpE P l es cs w0.drew S R vf φ Pn (fun a E=>∀W,S cs.length W→(∀k xs,E k=A xs→φ k W xs)→wpList P l.toArray Q (l.drop m) a W) 0 (l.take m) a0 (fun _=>none)) :
  (Code.region id l.toArray r5).wp P Q a0 w0:=by
 obtain⟨t1,t2,t3,t4,t5,t6⟩:=qy ht;have hlen:(l.take m).length=m:=by rw[List.length_take];omega
 have D:=jV (m:=m) t1 t4 (l.take m) 0 l.length (Array.replicate l.length r7) a0 (fun _=>none) (fun j hj=>by rw[List.getElem?_take,oA (by omega),Nat.zero_add]) (by omega) (by omega) (fun i B=>by omega) (by simp) (fun i o _ hl=>by rw[il]at hl;cases hl) t2 h;rw[hlen]at D;refine mm hm (fun listed a W=>Closed l listed∧∃j,m≤j∧j≤l.length∧(∀i,j≤i→listed.getD i r7=r7)∧((j=m∧(∃fuel E,a.defers=a0.defers∧eB P l m es cs w0.drew S R vf φ Pn (fun a E=>∀W,S cs.length W→(∀k xs,E k=A xs→φ k W xs)→wpList P l.toArray Q (l.drop m) a W) fuel listed a E∧S (done cs listed) W∧∀k xs,E k=A xs→φ k W xs))∨(m<j∧(∀i,i<j→listed.getD i r7=r5)∧wpList P l.toArray Q (l.drop j) a W))) ?_ ?_ ?_
 ·refine⟨fun i o _ hl=>(by rw[il]at hl;cases hl),m,ET _,t3,fun i _=>il,Or.inl ⟨Z,m,_,Z,D,?_,fun k xs h=>by cases h⟩⟩;have:done cs (Array.replicate l.length r7)=0:=by
   unfold done;rw[List.filter_eq_nil_iff.2 fun k _=>by rw[il];simp];rfl
  rw[this];exact bb
 ·intro listed a W i hI af B;obtain⟨p,j,bc,U,c,hI⟩:=hI;have d:listed.size=l.length:=by simpa using af
  obtain⟨bt,o,ho,a1⟩:=mem_ready.1 B;have F:l[i]?=A o:=by simpa using ho
  have bd:i<l.length:=(Fo.1 F).1;have ad:=ff B;have z:=iv p d t4 B;have hw:wpOp P l.toArray Q i=fun K a W=>if xL o (yielded l.toArray a.tmps)=r5 then o.wp P a W K Q∨(o.asks P a W∧LetsOut Q) else K (a.put o.dst tT) W:=by funext K a W;unfold wpOp;simp only[ho]
  rw[hw]
  show (if xL o (yielded l.toArray a.tmps)=r5 then _ else _)
  have n:m≤i→∀k,k<i→listed.getD k r7=true:=fun G k hk=>dG p _ i k o F a1 (t5 i o F G k hk)
  have H:∀(r:Nat),r=i→m≤r→(∀k,k<r→listed.getD k r7=r5)→(∀k,r≤k→listed.getD k r7=r7)→wpList P l.toArray Q (l.drop r) a W→
    (if xL o (yielded l.toArray a.tmps)=r5 then o.wp P a W (fun L W'=>Closed l (listed.setIfInBounds i r5)∧∃j,m≤j∧j≤l.length∧(∀k,j≤k→(listed.setIfInBounds i r5).getD k r7=r7)∧((j=m∧(∃fuel E,L.defers=a0.defers∧eB P l m es cs w0.drew S R vf φ Pn (fun a E=>∀W,S cs.length W→(∀k xs,E k=A xs→φ k W xs)→wpList P l.toArray Q (l.drop m) a W) fuel (listed.setIfInBounds i r5) L E∧S (done cs (listed.setIfInBounds i r5)) W'∧∀k xs,E k=A xs→φ k W' xs))∨(m<j∧(∀k,k<j→(listed.setIfInBounds i r5).getD k r7=r5)∧wpList P l.toArray Q (l.drop j) L W'))) Q∨(o.asks P a W∧LetsOut Q)
     else Closed l (listed.setIfInBounds i r5)∧∃j,m≤j∧j≤l.length∧(∀k,j≤k→(listed.setIfInBounds i r5).getD k r7=r7)∧((j=m∧(∃fuel E,(a.put o.dst tT).defers=a0.defers∧eB P l m es cs w0.drew S R vf φ Pn (fun a E=>∀W,S cs.length W→(∀k xs,E k=A xs→φ k W xs)→wpList P l.toArray Q (l.drop m) a W) fuel (listed.setIfInBounds i r5) (a.put o.dst tT) E∧S (done cs (listed.setIfInBounds i r5)) W∧∀k xs,E k=A xs→φ k W xs))∨(m<j∧(∀k,k<j→(listed.setIfInBounds i r5).getD k r7=r5)∧wpList P l.toArray Q (l.drop j) (a.put o.dst tT) W))):=by
   intro r bk G b bl g;subst bk;rw[List.drop_eq_getElem_cons bd,show l[r]=o from (Fo.1 F).2]at g;unfold wpList at g;have fin:∀L W',wpList P l.toArray Q (l.drop (r+1)) L W'→Closed l (listed.setIfInBounds r r5)∧∃j,m≤j∧j≤l.length∧(∀k,j≤k→(listed.setIfInBounds r r5).getD k r7=r7)∧((j=m∧(∃fuel E,L.defers=a0.defers∧eB P l m es cs w0.drew S R vf φ Pn (fun a E=>∀W,S cs.length W→(∀k xs,E k=A xs→φ k W xs)→wpList P l.toArray Q (l.drop m) a W) fuel (listed.setIfInBounds r r5) L E∧S (done cs (listed.setIfInBounds r r5)) W'∧∀k xs,E k=A xs→φ k W' xs))∨(m<j∧(∀k,k<j→(listed.setIfInBounds r r5).getD k r7=r5)∧wpList P l.toArray Q (l.drop j) L W')):=by
    intro L W' h;refine⟨z,r+1,by omega,by omega,fun k hk=>?_,Or.inr ⟨by omega,fun k hk=>?_,h⟩⟩
    ·rw[bh (by omega)];exact bl k (by omega)
    ·by_cases a6:k=r
     ·subst a6;exact fJ (by omega)
     ·rw[bh (fun e=>a6 e.symm)];exact b k (by omega)
   by_cases t:xL o (yielded l.toArray a.tmps)=r5
   ·rw[oA t]at g ⊢;exact g.imp (Oper.wp_mono (fun L W' hq=>fin L W' hq)) (fun h=>h)
   ·rw[ox t]at g ⊢;exact fin _ _ g
  rcases hI with ⟨rfl,fuel,E,M,u,T,hE⟩|⟨br,b,g⟩
  ·by_cases G:j≤i
   ·have ak:j=i:=by
     rcases Nat.lt_or_ge j i with h|h
     ·have w:=n G j h;rw[c j (ET _)]at w;cases w
     ·omega
    have b:∀k,k<j→listed.getD k r7=true:=fun k hk=>n G k (by omega)
    refine H j ak (ET _) b c ?_;have aq:dT l j listed=[]:=by
     rw[List.eq_nil_iff_forall_not_mem];intro q hq;obtain⟨w,h2⟩:=be.1 hq;have:=ff w;rw[b q h2]at this;cases this
    have hQ:∀W,S cs.length W→(∀k xs,E k=A xs→φ k W xs)→wpList P l.toArray Q (l.drop j) a W:=by
     cases fuel with
     | zero=>exact u.2
     | succ fuel=>exact u.1 aq
    exact hQ W (by rw[←mh t6 b];exact T) hE
   ·have bn:i<j:=by omega
    have N:∀k,j≤k→(listed.setIfInBounds i r5).getD k r7=false:=fun k hk=>by rw[bh (by omega)];exact c k hk
    have ar:i∈dT l j listed:=be.2 ⟨B,bn⟩;obtain⟨x,hf⟩:∃f',fuel=f'+1:=by
     cases fuel with
     | zero=>have:=u.1;rw[this]at ar;cases ar
     | succ f=>exact⟨f,Z⟩
    subst hf;obtain⟨p1,p2⟩:=(ez F).1 (u.2 i ar);have hC:Cl l cs S i W:=⟨_,xl p d B,T⟩;unfold pre at p1;unfold val env at p2
    by_cases t:xL o (yielded l.toArray a.tmps)=r5
    ·rw[oA t]at p1 ⊢;simp only[t,o4]at p2
     left
     cases X:es.contains i with
     | true =>
      simp only[X,o4]at p1 p2;refine (p1 W hC (fun C=>by rw[←(iJ t6 p d B C).1];exact T) (fun k xs _ he=>hE k xs he)).wp (fun v W' hg=>?_) (fun ch W' hg=>a7 a ch W' M hg);obtain⟨xs,rfl,w,h2,h3⟩:=hg;refine⟨z,j,ET _,U,N,Or.inl ⟨Z,x,_,(uN _ _ _).trans M,p2 xs,?_,fun k ys he=>?_⟩⟩
      ·cases C:cs.contains i with
       | true=>simp only[C,o4]at w;rw[(iJ t6 p d B C).2];exact w
       | false=>simp only[C,Fx,oX]at w;rw[iC C];exact a8 i X C _ _ _ T w
      ·unfold ups at he
       by_cases av:k=i
       ·rw[oA av]at he;injection he with he;subst he av;exact h3
       ·rw[ox av]at he;exact ba k W W' ys (hE k ys he) ⟨_,T⟩ h2
     | false =>
      simp only[X,Fx,oX]at p1 p2;have bq:cs.contains i=false:=by
       cases C:cs.contains i with
       | false=>rfl
       | true=>have:=(t6 i (by simpa using C)).2.1;rw[X]at this;cases this
      have fin:∀v,v=fw P w0.drew o a→Closed l (listed.setIfInBounds i r5)∧∃y,j≤y∧y≤l.length∧(∀k,y≤k→(listed.setIfInBounds i r5).getD k r7=r7)∧((y=j∧(∃fuel E,(a.put o.dst v).defers=a0.defers∧eB P l j es cs w0.drew S R vf φ Pn (fun a E=>∀W,S cs.length W→(∀k xs,E k=A xs→φ k W xs)→wpList P l.toArray Q (l.drop j) a W) fuel (listed.setIfInBounds i r5) (a.put o.dst v) E∧S (done cs (listed.setIfInBounds i r5)) W∧∀k xs,E k=A xs→φ k W xs))∨(j<y∧(∀k,k<y→(listed.setIfInBounds i r5).getD k r7=r5)∧wpList P l.toArray Q (l.drop y) (a.put o.dst v) W)):=by
       rintro v rfl;exact⟨z,j,ET _,U,N,Or.inl ⟨Z,x,E,(uN _ _ _).trans M,p2 [],by rw[iC bq];exact T,hE⟩⟩
      unfold Oper.wp;rcases p1 W hC with h|⟨h,hv⟩
      ·rw[h,Oper.upon_value];exact fin _ Z
      ·rw[h,Oper.upon_skip];exact fin _ hv.symm
    ·rw[ox t]at p1 ⊢;simp only[t]at p2;refine⟨z,j,ET _,U,N,Or.inl ⟨Z,x,E,(uN _ _ _).trans M,p2 [],?_,hE⟩⟩
     cases C:cs.contains i with
     | true =>
      obtain⟨d1,d2⟩:=iJ t6 p d B C;rw[d2];exact p1 W C (by rw[←d1];exact T)
     | false=>rw[iC C];exact T
  ·have ak:j=i:=by
    rcases Nat.lt_trichotomy i j with h|h|h
    ·rw[b i h]at ad;cases ad
    ·exact h.symm
    ·have w:=n (by omega) j h;rw[c j (ET _)]at w;cases w
   exact H j ak (by omega) b c g
 ·intro listed a W hI af hr;obtain⟨p,j,bc,U,c,hI⟩:=hI;have d:listed.size=l.length:=by simpa using af
  have b:=l9 t4 d (ET l.length) (fun i B=>by rw[hr]at B;cases B);have hj:j=l.length:=by
   rcases Nat.lt_or_ge j l.length with h|h
   ·have w:=b j h;rw[c j (ET _)]at w;cases w
   ·omega
  rcases hI with ⟨rfl,fuel,E,M,u,T,hE⟩|⟨_,_,g⟩
  ·have aq:dT l j listed=[]:=by unfold dT;rw[hr];rfl
   have hQ:∀W,S cs.length W→(∀k xs,E k=A xs→φ k W xs)→wpList P l.toArray Q (l.drop j) a W:=by
    cases fuel with
    | zero=>exact u.2
    | succ fuel=>exact u.1 aq
   have h:=hQ W (by rw[←mh t6 (fun i B=>b i (by omega))];exact T) hE;rw[List.drop_eq_nil_of_le (by omega)]at h;exact h
  ·rw[List.drop_eq_nil_of_le (by omega)]at g;exact g
section
variable {Q:Act→(Nat→Option (List r3))→Prop} {i:Nat} {o:wg} {rest:List wg} {a:Act} {E:Nat→Option (List r3)}
theorem h(C:p7→Prop)(e:∀s W,s≤lim l cs i→S s W→C W)(g:tI o.op=r5)(he:es.contains i=r7)(d:cs.contains i=r7)(j:S 0 w0)
  (h:wpQuiet P l.toArray C (fun k=>wpE P l es cs w0 S R vf φ Pn Q (i+1) rest k E) [o] a):wpE P l es cs w0 S R vf φ Pn Q i (o::rest) a E:=by
 unfold wpQuiet at h
 show bV P l es cs w0 S R vf φ Pn i o _ a E
 unfold bV pre val env
 by_cases hw:xL o (yielded l.toArray a.tmps)=r5
 ·rw[oA hw]at h ⊢;simp only[hw,o4,he,Fx,oX];obtain⟨v,p,q⟩:=h;have key:∀w,C w→(execOp a.eval o).run P w=.ok (.value v) w∨((execOp a.eval o).run P w=.ok .skip w∧v=tT):=fun w b=>by
   have c:=p w b;have t:∀f xs w',(execOp a.eval o).run P w≠.ok (.enter f xs) w':=fun f xs w'=>qp a.eval o g
   unfold Oper.quietAt at c;generalize (execOp a.eval o).run P w=r at *
   cases r with
   | ok n w' =>
    cases n<;>simp only[Oper.quietUpon]at c
    case value u=>obtain⟨rfl,rfl⟩:=c;exact Or.inl Z
    case skip=>obtain⟨rfl,rfl⟩:=c;exact Or.inr ⟨Z,Z⟩
    case enter f args=>exact absurd Z (t f args w')
   | halt x w'=>simp only[Oper.quietUpon]at c
  have hv:fw P w0 o a=v:=by
   unfold fw;rcases key w0 (e 0 w0 (Fi _) j) with h|⟨h,rfl⟩
   ·rw[h]
   ·rw[h]
  rw[hv];refine⟨fun w b=>?_,fun _=>q⟩;rw[hv];obtain⟨s,y,z⟩:=b;exact key w (e s w y z)
 ·rw[ox hw]at h ⊢;simp only[hw];exact⟨fun W B=>absurd B (by rw[d];decide),fun _=>h⟩
theorem b(hw:xL o (yielded l.toArray a.tmps)=r5)(he:es.contains i=r5)(b:Ob P l cs S R vf φ Pn i o a E)(h:∀xs,wpE P l es cs w0 S R vf φ Pn Q (i+1) rest (a.put o.dst (vf i xs)) (ups E i xs)) :
  wpE P l es cs w0 S R vf φ Pn Q i (o::rest) a E:=by
 show bV P l es cs w0 S R vf φ Pn i o _ a E
 unfold bV pre val env;simp only[hw,o4,he];exact⟨b,h⟩
theorem wpE_off(hw:xL o (yielded l.toArray a.tmps)=r7)(b:∀W,cs.contains i=r5→S (upto cs i) W→S (upto cs (i+1)) W)(h:wpE P l es cs w0 S R vf φ Pn Q (i+1) rest (a.put o.dst tT) E) :
  wpE P l es cs w0 S R vf φ Pn Q i (o::rest) a E:=by
 show bV P l es cs w0 S R vf φ Pn i o _ a E
 unfold bV pre val env;simp only[hw,Fx,oX];exact⟨b,fun _=>h⟩
theorem q(h:Q a E):wpE P l es cs w0 S R vf φ Pn Q i [] a E:=h
end
end
end Go.Proofs.YtmpekinjoeibbaaGreatDoor.RP
