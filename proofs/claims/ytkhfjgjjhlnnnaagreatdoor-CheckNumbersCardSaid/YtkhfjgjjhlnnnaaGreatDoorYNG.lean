/- As RegE; an operation's callee may end with a panic: then the region ends with it. No condition. Printed by tools/genRegH.py. -/
import Derived.Test.YtkhfjgjjhlnnnaaGreatDoorYMT
open Go renaming Oper→B3,World→wD,Value→wF,undef→At
open Bool renaming true→wP,false→xj
open Option renaming some→Y
open Go.Region renaming wanted→CT
namespace Go.Proofs.YtkhfjgjjhlnnnaaGreatDoor.RP
open Go.RowKit RE
section
variable {P:Program} {l:List B3} {m:Nat} {es cs:List Nat} {w0:wD} {S:Nat→wD→Prop} {R:wD→wD→Prop} {vf:Nat→List wF→wF} {φ:Nat→wD→List wF→Prop} {Pn:List PanicEntry→wD→Prop}
def UponP(P:Program) (o:B3) (a:Act) (W:wD) (Pn:List PanicEntry→wD→Prop) (G:wF→wD→Prop):Prop:=
 match (execOp a.eval o).run P W with
 | .ok (.value v) W'=>G v W'
 | .ok .skip W'=>G At W'
 | .ok (.enter f args) W'=>Calls P f args W' (fun e b=>(∃v,e=Ending.returned v∧G v b)∨∃c,e=.panicked c∧Pn c b)
 | _=>False
theorem UponP.wp{o:B3}{a:Act}{W:wD}{Pn:List PanicEntry→wD→Prop}{G:wF→wD→Prop}{K:Act→wD→Prop}{Q:Exit→Act→wD→Prop}(h:UponP P o a W Pn G)(b:∀v W',G v W'→K (a.put o.dst v) W')(g:∀c W',Pn c W'→Q (.panic c) a W'):o.wp P a W K Q:=by
 unfold UponP at h;unfold Oper.wp;generalize (execOp a.eval o).run P W=r at *
 cases r with
 | ok n w' =>
  cases n<;>simp only[Oper.upon]at h ⊢
  case value u=>exact b _ _ h
  case skip=>exact b _ _ h
  case enter f args =>
   refine h.mono ?_;rintro e j (⟨v,rfl,d⟩|⟨c,rfl,d⟩)
   ·exact b _ _ d
   ·exact g _ _ d
 | halt x w'=>exact h.elim
theorem UponP.of{o:B3}{a:Act}{W:wD}{Pn:List PanicEntry→wD→Prop}{G:wF→wD→Prop}(h:RE.Upon P o a W G):UponP P o a W Pn G:=by
 unfold RE.Upon at h;unfold UponP;generalize (execOp a.eval o).run P W=r at *
 cases r with
 | ok n w' =>
  cases n<;>simp only at h ⊢
  case value u=>exact h
  case skip=>exact h
  case enter f args=>exact h.mono fun e b c=>Or.inl c
 | halt x w'=>exact h.elim
theorem uponP_call{o:B3}{a:Act}{w:wD}{Pn:List PanicEntry→wD→Prop}{G:wF→wD→Prop}(f:FuncId)(args:Array Operand)(c:Array TypeId)(g:o.op=.call { callee:=.value (.func f),args:=args,argTypes:=c })(b:∀(xs:Array wF)(w:wD),(callFunc f xs).run P w=.ok (.enter f xs) w)
  (vs:Array wF) (h:args.map a.eval=vs) (j:Calls P f vs w (fun e w'=>(∃v,e=Ending.returned v∧G v w')∨∃d,e=.panicked d∧Pn d w')):UponP P o a w Pn G:=by
 unfold UponP;have he:=b vs w;have k:a.eval (.func f)=Value.func (.func f) #[] #[]:=rfl;have n:(execOp a.eval o).run P w=.ok (.enter f vs) w:=by simp[execOp,g,resolve,Deferred.ofValue,k,h,invoke,he]
 rw[n];exact j
def Ob(P:Program) (l:List B3) (cs:List Nat) (S:Nat→wD→Prop) (R:wD→wD→Prop) (vf:Nat→List wF→wF) (φ:Nat→wD→List wF→Prop) (Pn:List PanicEntry→wD→Prop) (i:Nat) (o:B3) (a:Act) (E:Nat→Option (List wF)):Prop:=
 ∀W:wD,Cl l cs S i W→(cs.contains i=wP→S (upto cs i) W)→(∀k xs,aS l l.length i k=wP→E k=Y xs→φ k W xs)→
  UponP P o a W Pn (fun v W'=>∃xs,v=vf i xs∧(if cs.contains i=wP then S (upto cs (i+1)) W' else FK W W')∧R W W'∧φ i W' xs)
def pre(P:Program) (l:List B3) (es cs:List Nat) (w0:wD) (S:Nat→wD→Prop) (R:wD→wD→Prop) (vf:Nat→List wF→wF) (φ:Nat→wD→List wF→Prop) (Pn:List PanicEntry→wD→Prop) (i:Nat) (o:B3) (a:Act) (E:Nat→Option (List wF)):Prop:=
 if CT o (yielded l.toArray a.tmps)=wP then (if es.contains i=wP then Ob P l cs S R vf φ Pn i o a E else oC P (Cl l cs S i) w0 o a)
 else ∀W,cs.contains i=wP→S (upto cs i) W→S (upto cs (i+1)) W
def cd(P:Program) (l:List B3) (es cs:List Nat) (w0:wD) (S:Nat→wD→Prop) (R:wD→wD→Prop) (vf:Nat→List wF→wF) (φ:Nat→wD→List wF→Prop) (Pn:List PanicEntry→wD→Prop) (i:Nat) (o:B3) (K:Act→(Nat→Option (List wF))→Prop) (a:Act) (E:Nat→Option (List wF)):Prop:=
 pre P l es cs w0 S R vf φ Pn i o a E∧∀xs,K (a.put o.dst (val P l es w0 vf i o a xs)) (env l es i o a E xs)
def wpE(P:Program) (l:List B3) (es cs:List Nat) (w0:wD) (S:Nat→wD→Prop) (R:wD→wD→Prop) (vf:Nat→List wF→wF) (φ:Nat→wD→List wF→Prop) (Pn:List PanicEntry→wD→Prop) (Q:Act→(Nat→Option (List wF))→Prop):Nat→List B3→Act→(Nat→Option (List wF))→Prop
 | _,[],a,E=>Q a E
 | i,o::rest,a,E=>cd P l es cs w0 S R vf φ Pn i o (wpE P l es cs w0 S R vf φ Pn Q (i+1) rest) a E
def l6(P:Program) (l:List B3) (es cs:List Nat) (w0:wD) (S:Nat→wD→Prop) (R:wD→wD→Prop) (vf:Nat→List wF→wF) (φ:Nat→wD→List wF→Prop) (Pn:List PanicEntry→wD→Prop) (i:Nat) (K:Act→(Nat→Option (List wF))→Prop) (a:Act) (E:Nat→Option (List wF)):Prop:=
 match l[i]? with
 | none=>K a E
 | some o=>cd P l es cs w0 S R vf φ Pn i o K a E
def eE(P:Program) (l:List B3) (m:Nat) (es cs:List Nat) (w0:wD) (S:Nat→wD→Prop) (R:wD→wD→Prop) (vf:Nat→List wF→wF) (φ:Nat→wD→List wF→Prop) (Pn:List PanicEntry→wD→Prop) (Q:Act→(Nat→Option (List wF))→Prop):Nat→Array Bool→Act→(Nat→Option (List wF))→Prop
 | 0,listed,a,E=>dV l m listed=[]∧Q a E
 | fuel+1,listed,a,E=>(dV l m listed=[]→Q a E)∧∀i∈dV l m listed,l6 P l es cs w0 S R vf φ Pn i (eE P l m es cs w0 S R vf φ Pn Q fuel (listed.setIfInBounds i wP)) a E
theorem xz{i j:Nat}{d c:B3}(x:i≠j)(y:d.apart l.toArray c=wP)(z:∀cs b,d.op≠.select cs b)(B:∀cs b,c.op≠.select cs b)(C:aS l l.length i j=xj)(D:aS l l.length j i=xj)
  {K:Act→(Nat→Option (List wF))→Prop} {a:Act} {E:Nat→Option (List wF)}
  (h:cd P l es cs w0 S R vf φ Pn i d (cd P l es cs w0 S R vf φ Pn j c K) a E):cd P l es cs w0 S R vf φ Pn j c (cd P l es cs w0 S R vf φ Pn i d K) a E:=by
 obtain⟨n,p,M⟩:=Oper.apart_spec y;have G:∀v,CT c (yielded l.toArray (a.put d.dst v).tmps)=CT c (yielded l.toArray a.tmps):=fun v=>wanted_put c a d.dst v n
 have H:∀v,CT d (yielded l.toArray (a.put c.dst v).tmps)=CT d (yielded l.toArray a.tmps):=fun v=>wanted_put d a c.dst v M
 have N:∀v,execOp (a.put d.dst v).eval c=execOp a.eval c:=fun v=>execOp_put c B a d.dst v n
 have T:∀v,execOp (a.put c.dst v).eval d=execOp a.eval d:=fun v=>execOp_put d z a c.dst v M
 have vj:∀v xs,val P l es w0 vf j c (a.put d.dst v) xs=val P l es w0 vf j c a xs:=fun v xs=>by unfold val fL;rw[G,N]
 have vi:∀v xs,val P l es w0 vf i d (a.put c.dst v) xs=val P l es w0 vf i d a xs:=fun v xs=>by unfold val fL;rw[H,T]
 have obj:∀v F,(∀k,aS l l.length j k=wP→F k=E k)→(pre P l es cs w0 S R vf φ Pn j c (a.put d.dst v) F↔pre P l es cs w0 S R vf φ Pn j c a E):=fun v F hF=>by
  unfold pre Ob UponP oC fL;rw[G,N];have:∀W,(∀k xs,aS l l.length j k=wP→F k=Y xs→φ k W xs)↔(∀k xs,aS l l.length j k=wP→E k=Y xs→φ k W xs):=fun W =>⟨fun h k xs g he=>h k xs g (by rw[hF k g];exact he),fun h k xs g he=>h k xs g (by rw[←hF k g];exact he)⟩
  simp only[this]
 have L:∀v F,(∀k,aS l l.length i k=wP→F k=E k)→(pre P l es cs w0 S R vf φ Pn i d (a.put c.dst v) F↔pre P l es cs w0 S R vf φ Pn i d a E):=fun v F hF=>by
  unfold pre Ob UponP oC fL;rw[H,T];have:∀W,(∀k xs,aS l l.length i k=wP→F k=Y xs→φ k W xs)↔(∀k xs,aS l l.length i k=wP→E k=Y xs→φ k W xs):=fun W =>⟨fun h k xs g he=>h k xs g (by rw[hF k g];exact he),fun h k xs g he=>h k xs g (by rw[←hF k g];exact he)⟩
  simp only[this]
 have f:∀(q k:Nat) (xs:List wF),aS l l.length k q=xj→∀k',aS l l.length k k'=wP→ups E q xs k'=E k':=fun q k xs hr k' r=>by unfold ups;rw[qv];rintro rfl;rw[hr]at r;cases r
 have s:∀xs k,aS l l.length j k=wP→env l es i d a E xs k=E k:=fun xs k g=>by
  unfold env;split
  ·split
   ·exact f i j xs D k g
   ·rfl
  ·rfl
 have t:∀xs k,aS l l.length i k=wP→env l es j c a E xs k=E k:=fun xs k g=>by
  unfold env;split
  ·split
   ·exact f j i xs C k g
   ·rfl
  ·rfl
 have w:∀v u xs ys,env l es j c (a.put d.dst v) (env l es i d a E xs) ys=env l es i d (a.put c.dst u) (env l es j c a E ys) xs:=fun v u xs ys=>by
  unfold env;rw[G,H];have hc:ups (ups E i xs) j ys=ups (ups E j ys) i xs:=by
   funext k;unfold ups
   by_cases n:k=j
   ·rw[rv n,qv (fun e=>x (e.symm.trans n)),rv n]
   ·by_cases p:k=i
    ·rw[qv n,rv p,rv p]
    ·rw[qv n,qv p,qv p,qv n]
  repeat' split
  all_goals first|rfl|exact hc
 obtain⟨p1,X⟩:=h;refine⟨(obj _ _ (s [])).1 (X []).1,fun ys=>⟨(L _ _ (t ys)).2 p1,fun xs=>?_⟩⟩;have h4:=(X xs).2 ys;rw[vj,Act.put_comm a _ _ p,w _ (val P l es w0 vf j c a ys)]at h4;rw[vi];exact h4
theorem gI{i:Nat}{o:B3}{K b:Act→(Nat→Option (List wF))→Prop}(c:∀a E,K a E→b a E){a:Act}{E:Nat→Option (List wF)}(h:cd P l es cs w0 S R vf φ Pn i o K a E):cd P l es cs w0 S R vf φ Pn i o b a E:=⟨h.1,fun xs=>c _ _ (h.2 xs)⟩
theorem eA{i:Nat}{o:B3}(b:l[i]?=Y o){K:Act→(Nat→Option (List wF))→Prop}{a:Act}{E:Nat→Option (List wF)}:l6 P l es cs w0 S R vf φ Pn i K a E↔cd P l es cs w0 S R vf φ Pn i o K a E:=by unfold l6;rw[b]
theorem lF{Q:Act→(Nat→Option (List wF))→Prop}{i:Nat}{oi:B3}(D:l[i]?=Y oi)(r:∀(j:Nat)(o:B3) cs b,l.toArray[j]?=Y o→o.op≠.select cs b)(ad:∀(k:Nat)(o:B3),l[k]?=Y o→∀e∈o.after,Region.binds .any e=wP→e.on<k) :
  ∀(fuel:Nat) (listed:Array Bool) (a:Act) (E:Nat→Option (List wF)),
   (∀j n,l.toArray[j]?=Y n→j≠i→listed.getD j wP=xj→(∀e∈n.after,Region.binds .any e=wP→e.on≠i)→oi.apart l.toArray n=wP)→
   listed.size=l.length→Closed l listed→i∈dV l m listed→
   l6 P l es cs w0 S R vf φ Pn i (eE P l m es cs w0 S R vf φ Pn Q fuel (listed.setIfInBounds i wP)) a E→eE P l m es cs w0 S R vf φ Pn Q (fuel+1) listed a E:=by
 intro fuel
 induction fuel with
 | zero =>
  intro listed a E _ _ _ v H;refine⟨fun h=>(by rw[h]at v;cases v),fun j F=>?_⟩
  by_cases c:j=i
  ·subst c;exact H
  ·have h1:=(((eA D).1 H).2 []).1;have:j∈dV l m (listed.setIfInBounds i wP):=bh.2 ⟨ready_mono (bh.1 F).1 c,(bh.1 F).2⟩;rw[h1]at this
   cases this
 | succ fuel ih =>
  intro listed a E d G w v H;refine⟨fun h=>(by rw[h]at v;cases v),fun j F=>?_⟩
  by_cases c:j=i
  ·subst c;exact H
  ·have x:=(bh.1 F).1;have K:=(bh.1 v).1;have H':=(eA D).1 H;obtain⟨f,n,y,s⟩:=mem_ready.1 x;obtain⟨t,z,u,B⟩:=mem_ready.1 K;have L:z=oi:=by rw[show l.toArray[i]?=Y oi by simpa using D]at u;injection u with h;exact h.symm
   subst L;have g:l[j]?=Y n:=by simpa using y
   have C:∀q,listed.getD q wP=xj→listed.getD q xj=false:=fun q h=>by
    rcases Nat.lt_or_ge q listed.size with h' | h'
    ·simp[h']at h ⊢;exact h
    ·simp[Array.getElem?_eq_none h']at h
   have M:∀e∈n.after,Region.binds .any e=wP→e.on≠i:=fun e he hb heq=>by
    have h1:=s e he hb;rw[heq,C i t]at h1;cases h1
   have N:aS l l.length i j=false:=by
    cases hc:aS l l.length i j with
    | false=>rfl
    | true=>have:=dE w _ i j _ D B hc;rw[C j f]at this;cases this
   have T:aS l l.length j i=false:=by
    cases hc:aS l l.length j i with
    | false=>rfl
    | true=>have:=dE w _ j i _ g s hc;rw[C i t]at this;cases this
   have p:∀k ok,l.toArray[k]?=Y ok→k≠i→(listed.setIfInBounds j wP).getD k wP=xj→
     (∀e∈ok.after,Region.binds .any e=wP→e.on≠i)→z.apart l.toArray ok=true:=fun k ok hk af W ak=>by
    refine d k ok hk af ?_ ak
    by_cases X:j=k
    ·subst X;exact f
    ·rw[getD_set_ne wP X]at W;exact W
   have al:cd P l es cs w0 S R vf φ Pn j n (cd P l es cs w0 S R vf φ Pn i z (eE P l m es cs w0 S R vf φ Pn Q fuel ((listed.setIfInBounds i wP).setIfInBounds j wP))) a E:=by
    refine xz (fun e=>c e.symm) (d j n y c f M) (fun cs b=>r i _ cs b (by simpa using D)) (fun cs b=>r j n cs b y) N T ?_;refine gI (fun a' E' h3=>?_) H';have h4:=h3.2 j (bh.2 ⟨ready_mono x c,(bh.1 F).2⟩);exact (eA g).1 h4
   rw[eA g];refine gI (fun a' E' h3=>?_) al;refine ih (listed.setIfInBounds j wP) a' E' p (by simpa using G) (iI w G ad x) (bh.2 ⟨ready_mono K (Ne.symm c),(bh.1 v).2⟩) ?_;rw[eA D,Array.setIfInBounds_comm _ _ c];exact h3
theorem j9{Q:Act→(Nat→Option (List wF))→Prop}(w:Region.noSelect l.toArray=wP)(c:∀(k:Nat)(o:B3),l[k]?=Y o→∀e∈o.after,Region.binds .any e=wP→e.on<k):∀(r:List B3) (k fuel:Nat) (listed:Array Bool) (a:Act) (E:Nat→Option (List wF)),(∀j,j<r.length→r[j]?=l[k+j]?)→k+r.length=m→r.length≤fuel→
  (∀i,i<k→listed.getD i xj=wP)→listed.size=l.length→Closed l listed→Region.lexFrom .any l.toArray fuel k listed=wP→wpE P l es cs w0 S R vf φ Pn Q k r a E→eE P l m es cs w0 S R vf φ Pn Q r.length listed a E
 | [],k,fuel,listed,a,E,_,b,_,d,_,_,_,h=>by
  refine⟨?_,h⟩;rw[List.eq_nil_iff_forall_not_mem];intro i x;obtain⟨z,K⟩:=bh.1 x;have g:=(mem_ready.1 z).1;have u:=d i (by simp at b;omega);have:i<listed.size:=by
   rcases Nat.lt_or_ge i listed.size with h|h
   ·exact h
   ·simp[Array.getElem?_eq_none h]at g
  simp[this]at g u;rw[g]at u;cases u
 | o::r,k,fuel,listed,a,E,y,b,n,d,f,p,hB,h=>by
  have t:l[k]?=Y o:=by simpa using (y 0 (by simp)).symm
  obtain⟨fuel,rfl⟩:∃B,fuel=B+1:=⟨fuel-1,by simp at n;omega⟩;simp only[Region.lexFrom,Ff]at hB;obtain⟨⟨C,D⟩,v⟩:=hB;have q:k∈Region.ready .any l.toArray listed:=by simpa using C
  have F:k<l.length:=(Fe.1 t).1;refine lF t (Region.noSelect_spec w) c r.length listed a E (Region.free_spec (by simpa using t) D) f p (bh.2 ⟨q,by simp at b;omega⟩) ?_;rw[eA t];refine gI (fun G H g=>?_) h;refine j9 w c r (k+1) fuel _ G H (fun j L=>by have:=y (j+1) (by simp;omega);simpa [Nat.add_assoc,Nat.add_comm 1 j]using this) (by simp at b;omega) (by simp at n;omega) (fun i x=>?_) (by simpa using f) (iI p f c q) v g
  by_cases s:k=i
  ·subst s;exact f7 (by omega)
  ·rw[bo s];exact d i (by omega)
theorem uD(a:Act)(x:Option Tmp)(v:wF):(a.put x v).defers=a.defers:=by cases x<;>rfl
theorem wp_region_effP{id:Nat}{Q:Exit→Act→wD→Prop}{a0:Act}(hm:P.follows .mixedOrders=wP)(m:Nat)(es cs:List Nat)(S:Nat→wD→Prop)(R:wD→wD→Prop)(vf:Nat→List wF→wF)(φ:Nat→wD→List wF→Prop)(Pn:List PanicEntry→wD→Prop)(ba:∀a ch W,a.defers=a0.defers→Pn ch W→Q (.panic ch) a W)
  (ht:tidy l m es cs=wP)
  (bb:∀i,es.contains i=wP→cs.contains i=xj→∀s W W',S s W→FK W W'→S s W') (bc:∀k W W' xs,φ k W xs→(∃s,S s W)→R W W'→φ k W' xs)
  (bd:S 0 w0.drew)
  (h:wpE P l es cs w0.drew S R vf φ Pn (fun a E=>∀W,S cs.length W→(∀k xs,E k=Y xs→φ k W xs)→wpList P l.toArray Q (l.drop m) a W) 0 (l.take m) a0 (fun _=>none)) :
  (Code.region id l.toArray wP).wp P Q a0 w0:=by
 obtain⟨t1,t2,t3,t4,t5,t6⟩:=qO ht;have hlen:(l.take m).length=m:=by rw[List.length_take];omega
 have D:=j9 (m:=m) t1 t4 (l.take m) 0 l.length (Array.replicate l.length xj) a0 (fun _=>none) (fun j hj=>by rw[List.getElem?_take,rv (by omega),Nat.zero_add]) (by omega) (by omega) (fun i B=>by omega) (by simp) (fun i o _ hl=>by rw[it]at hl;cases hl) t2 h;rw[hlen]at D;refine mK hm (fun listed a W=>Closed l listed∧∃j,m≤j∧j≤l.length∧(∀i,j≤i→listed.getD i xj=xj)∧((j=m∧(∃fuel E,a.defers=a0.defers∧eE P l m es cs w0.drew S R vf φ Pn (fun a E=>∀W,S cs.length W→(∀k xs,E k=Y xs→φ k W xs)→wpList P l.toArray Q (l.drop m) a W) fuel listed a E∧S (done cs listed) W∧∀k xs,E k=Y xs→φ k W xs))∨(m<j∧(∀i,i<j→listed.getD i xj=wP)∧wpList P l.toArray Q (l.drop j) a W))) ?_ ?_ ?_
 ·refine⟨fun i o _ hl=>(by rw[it]at hl;cases hl),m,EO _,t3,fun i _=>it,Or.inl ⟨V,m,_,V,D,?_,fun k xs h=>by cases h⟩⟩;have:done cs (Array.replicate l.length xj)=0:=by
   unfold done;rw[List.filter_eq_nil_iff.2 fun k _=>by rw[it];simp];rfl
  rw[this];exact bd
 ·intro listed a W i hI ak B;obtain⟨p,j,bk,X,c,hI⟩:=hI;have d:listed.size=l.length:=by simpa using ak
  obtain⟨bR,o,ho,a1⟩:=mem_ready.1 B;have F:l[i]?=Y o:=by simpa using ho
  have bl:i<l.length:=(Fe.1 F).1;have af:=ft B;have z:=iI p d t4 B;have hw:wpOp P l.toArray Q i=fun K a W=>if CT o (yielded l.toArray a.tmps)=wP then o.wp P a W K Q∨(o.asks P a W∧LetsOut Q) else K (a.put o.dst At) W:=by funext K a W;unfold wpOp;simp only[ho]
  rw[hw]
  show (if CT o (yielded l.toArray a.tmps)=wP then _ else _)
  have n:m≤i→∀k,k<i→listed.getD k xj=true:=fun G k hk=>dE p _ i k o F a1 (t5 i o F G k hk)
  have H:∀(r:Nat),r=i→m≤r→(∀k,k<r→listed.getD k xj=wP)→(∀k,r≤k→listed.getD k xj=xj)→wpList P l.toArray Q (l.drop r) a W→
    (if CT o (yielded l.toArray a.tmps)=wP then o.wp P a W (fun L W'=>Closed l (listed.setIfInBounds i wP)∧∃j,m≤j∧j≤l.length∧(∀k,j≤k→(listed.setIfInBounds i wP).getD k xj=xj)∧((j=m∧(∃fuel E,L.defers=a0.defers∧eE P l m es cs w0.drew S R vf φ Pn (fun a E=>∀W,S cs.length W→(∀k xs,E k=Y xs→φ k W xs)→wpList P l.toArray Q (l.drop m) a W) fuel (listed.setIfInBounds i wP) L E∧S (done cs (listed.setIfInBounds i wP)) W'∧∀k xs,E k=Y xs→φ k W' xs))∨(m<j∧(∀k,k<j→(listed.setIfInBounds i wP).getD k xj=wP)∧wpList P l.toArray Q (l.drop j) L W'))) Q∨(o.asks P a W∧LetsOut Q)
     else Closed l (listed.setIfInBounds i wP)∧∃j,m≤j∧j≤l.length∧(∀k,j≤k→(listed.setIfInBounds i wP).getD k xj=xj)∧((j=m∧(∃fuel E,(a.put o.dst At).defers=a0.defers∧eE P l m es cs w0.drew S R vf φ Pn (fun a E=>∀W,S cs.length W→(∀k xs,E k=Y xs→φ k W xs)→wpList P l.toArray Q (l.drop m) a W) fuel (listed.setIfInBounds i wP) (a.put o.dst At) E∧S (done cs (listed.setIfInBounds i wP)) W∧∀k xs,E k=Y xs→φ k W xs))∨(m<j∧(∀k,k<j→(listed.setIfInBounds i wP).getD k xj=wP)∧wpList P l.toArray Q (l.drop j) (a.put o.dst At) W))):=by
   intro r bn G b bq g;subst bn;rw[List.drop_eq_getElem_cons bl,show l[r]=o from (Fe.1 F).2]at g;unfold wpList at g;have fin:∀L W',wpList P l.toArray Q (l.drop (r+1)) L W'→Closed l (listed.setIfInBounds r wP)∧∃j,m≤j∧j≤l.length∧(∀k,j≤k→(listed.setIfInBounds r wP).getD k xj=xj)∧((j=m∧(∃fuel E,L.defers=a0.defers∧eE P l m es cs w0.drew S R vf φ Pn (fun a E=>∀W,S cs.length W→(∀k xs,E k=Y xs→φ k W xs)→wpList P l.toArray Q (l.drop m) a W) fuel (listed.setIfInBounds r wP) L E∧S (done cs (listed.setIfInBounds r wP)) W'∧∀k xs,E k=Y xs→φ k W' xs))∨(m<j∧(∀k,k<j→(listed.setIfInBounds r wP).getD k xj=wP)∧wpList P l.toArray Q (l.drop j) L W')):=by
    intro L W' h;refine⟨z,r+1,by omega,by omega,fun k hk=>?_,Or.inr ⟨by omega,fun k hk=>?_,h⟩⟩
    ·rw[bo (by omega)];exact bq k (by omega)
    ·by_cases a6:k=r
     ·subst a6;exact f7 (by omega)
     ·rw[bo (fun e=>a6 e.symm)];exact b k (by omega)
   by_cases t:CT o (yielded l.toArray a.tmps)=wP
   ·rw[rv t]at g ⊢;exact g.imp (Oper.wp_mono (fun L W' hq=>fin L W' hq)) (fun h=>h)
   ·rw[qv t]at g ⊢;exact fin _ _ g
  rcases hI with ⟨rfl,fuel,E,M,u,T,hE⟩|⟨bB,b,g⟩
  ·by_cases G:j≤i
   ·have al:j=i:=by
     rcases Nat.lt_or_ge j i with h|h
     ·have w:=n G j h;rw[c j (EO _)]at w;cases w
     ·omega
    have b:∀k,k<j→listed.getD k xj=true:=fun k hk=>n G k (by omega)
    refine H j al (EO _) b c ?_;have aq:dV l j listed=[]:=by
     rw[List.eq_nil_iff_forall_not_mem];intro q hq;obtain⟨w,h2⟩:=bh.1 hq;have:=ft w;rw[b q h2]at this;cases this
    have hQ:∀W,S cs.length W→(∀k xs,E k=Y xs→φ k W xs)→wpList P l.toArray Q (l.drop j) a W:=by
     cases fuel with
     | zero=>exact u.2
     | succ fuel=>exact u.1 aq
    exact hQ W (by rw[←mF t6 b];exact T) hE
   ·have br:i<j:=by omega
    have N:∀k,j≤k→(listed.setIfInBounds i wP).getD k xj=false:=fun k hk=>by rw[bo (by omega)];exact c k hk
    have ar:i∈dV l j listed:=bh.2 ⟨B,br⟩;obtain⟨x,hf⟩:∃f',fuel=f'+1:=by
     cases fuel with
     | zero=>have:=u.1;rw[this]at ar;cases ar
     | succ f=>exact⟨f,V⟩
    subst hf;obtain⟨p1,p2⟩:=(eA F).1 (u.2 i ar);have hC:Cl l cs S i W:=⟨_,wQ p d B,T⟩;unfold pre at p1;unfold val env at p2
    by_cases t:CT o (yielded l.toArray a.tmps)=wP
    ·rw[rv t]at p1 ⊢;simp only[t,sx]at p2
     left
     cases ad:es.contains i with
     | true =>
      simp only[ad,sx]at p1 p2;refine (p1 W hC (fun C=>by rw[←(iQ t6 p d B C).1];exact T) (fun k xs _ he=>hE k xs he)).wp (fun v W' hg=>?_) (fun ch W' hg=>ba a ch W' M hg);obtain⟨xs,rfl,w,h2,h3⟩:=hg;refine⟨z,j,EO _,X,N,Or.inl ⟨V,x,_,(uD _ _ _).trans M,p2 xs,?_,fun k ys he=>?_⟩⟩
      ·cases C:cs.contains i with
       | true=>simp only[C,sx]at w;rw[(iQ t6 p d B C).2];exact w
       | false=>simp only[C,Fo,sm]at w;rw[iJ C];exact bb i ad C _ _ _ T w
      ·unfold ups at he
       by_cases av:k=i
       ·rw[rv av]at he;injection he with he;subst he av;exact h3
       ·rw[qv av]at he;exact bc k W W' ys (hE k ys he) ⟨_,T⟩ h2
     | false =>
      simp only[ad,Fo,sm]at p1 p2;have bt:cs.contains i=false:=by
       cases C:cs.contains i with
       | false=>rfl
       | true=>have:=(t6 i (by simpa using C)).2.1;rw[ad]at this;cases this
      have fin:∀v,v=fL P w0.drew o a→Closed l (listed.setIfInBounds i wP)∧∃y,j≤y∧y≤l.length∧(∀k,y≤k→(listed.setIfInBounds i wP).getD k xj=xj)∧((y=j∧(∃fuel E,(a.put o.dst v).defers=a0.defers∧eE P l j es cs w0.drew S R vf φ Pn (fun a E=>∀W,S cs.length W→(∀k xs,E k=Y xs→φ k W xs)→wpList P l.toArray Q (l.drop j) a W) fuel (listed.setIfInBounds i wP) (a.put o.dst v) E∧S (done cs (listed.setIfInBounds i wP)) W∧∀k xs,E k=Y xs→φ k W xs))∨(j<y∧(∀k,k<y→(listed.setIfInBounds i wP).getD k xj=wP)∧wpList P l.toArray Q (l.drop y) (a.put o.dst v) W)):=by
       rintro v rfl;exact⟨z,j,EO _,X,N,Or.inl ⟨V,x,E,(uD _ _ _).trans M,p2 [],by rw[iJ bt];exact T,hE⟩⟩
      unfold Oper.wp;rcases p1 W hC with h|⟨h,hv⟩
      ·rw[h,Oper.upon_value];exact fin _ V
      ·rw[h,Oper.upon_skip];exact fin _ hv.symm
    ·rw[qv t]at p1 ⊢;simp only[t]at p2;refine⟨z,j,EO _,X,N,Or.inl ⟨V,x,E,(uD _ _ _).trans M,p2 [],?_,hE⟩⟩
     cases C:cs.contains i with
     | true =>
      obtain⟨d1,d2⟩:=iQ t6 p d B C;rw[d2];exact p1 W C (by rw[←d1];exact T)
     | false=>rw[iJ C];exact T
  ·have al:j=i:=by
    rcases Nat.lt_trichotomy i j with h|h|h
    ·rw[b i h]at af;cases af
    ·exact h.symm
    ·have w:=n (by omega) j h;rw[c j (EO _)]at w;cases w
   exact H j al (by omega) b c g
 ·intro listed a W hI ak hr;obtain⟨p,j,bk,X,c,hI⟩:=hI;have d:listed.size=l.length:=by simpa using ak
  have b:=mt t4 d (EO l.length) (fun i B=>by rw[hr]at B;cases B);have hj:j=l.length:=by
   rcases Nat.lt_or_ge j l.length with h|h
   ·have w:=b j h;rw[c j (EO _)]at w;cases w
   ·omega
  rcases hI with ⟨rfl,fuel,E,M,u,T,hE⟩|⟨_,_,g⟩
  ·have aq:dV l j listed=[]:=by unfold dV;rw[hr];rfl
   have hQ:∀W,S cs.length W→(∀k xs,E k=Y xs→φ k W xs)→wpList P l.toArray Q (l.drop j) a W:=by
    cases fuel with
    | zero=>exact u.2
    | succ fuel=>exact u.1 aq
   have h:=hQ W (by rw[←mF t6 (fun i B=>b i (by omega))];exact T) hE;rw[List.drop_eq_nil_of_le (by omega)]at h;exact h
  ·rw[List.drop_eq_nil_of_le (by omega)]at g;exact g
section
variable {Q:Act→(Nat→Option (List wF))→Prop} {i:Nat} {o:B3} {rest:List B3} {a:Act} {E:Nat→Option (List wF)}
theorem b(C:wD→Prop)(e:∀s W,s≤lim l cs i→S s W→C W)(j:tC o.op=wP)(he:es.contains i=xj)(d:cs.contains i=xj)(k:S 0 w0)
  (h:wpQuiet P l.toArray C (fun p=>wpE P l es cs w0 S R vf φ Pn Q (i+1) rest p E) [o] a):wpE P l es cs w0 S R vf φ Pn Q i (o::rest) a E:=by
 unfold wpQuiet at h
 show cd P l es cs w0 S R vf φ Pn i o _ a E
 unfold cd pre val env
 by_cases hw:CT o (yielded l.toArray a.tmps)=wP
 ·rw[rv hw]at h ⊢;simp only[hw,sx,he,Fo,sm];obtain⟨v,q,t⟩:=h;have key:∀w,C w→(execOp a.eval o).run P w=.ok (.value v) w∨((execOp a.eval o).run P w=.ok .skip w∧v=At):=fun w b=>by
   have c:=q w b;have y:∀f xs w',(execOp a.eval o).run P w≠.ok (.enter f xs) w':=fun f xs w'=>qE a.eval o j
   unfold Oper.quietAt at c;generalize (execOp a.eval o).run P w=r at *
   cases r with
   | ok n w' =>
    cases n<;>simp only[Oper.quietUpon]at c
    case value u=>obtain⟨rfl,rfl⟩:=c;exact Or.inl V
    case skip=>obtain⟨rfl,rfl⟩:=c;exact Or.inr ⟨V,V⟩
    case enter f args=>exact absurd V (y f args w')
   | halt x w'=>simp only[Oper.quietUpon]at c
  have g:fL P w0 o a=v:=by
   unfold fL;rcases key w0 (e 0 w0 (Fa _) k) with h|⟨h,rfl⟩
   ·rw[h]
   ·rw[h]
  rw[g];refine⟨fun w b=>?_,fun _=>t⟩;rw[g];obtain⟨s,z,B⟩:=b;exact key w (e s w z B)
 ·rw[qv hw]at h ⊢;simp only[hw];exact⟨fun W D=>absurd D (by rw[d];decide),fun _=>h⟩
theorem f(hw:CT o (yielded l.toArray a.tmps)=wP)(he:es.contains i=wP)(b:Ob P l cs S R vf φ Pn i o a E)(h:∀xs,wpE P l es cs w0 S R vf φ Pn Q (i+1) rest (a.put o.dst (vf i xs)) (ups E i xs)) :
  wpE P l es cs w0 S R vf φ Pn Q i (o::rest) a E:=by
 show cd P l es cs w0 S R vf φ Pn i o _ a E
 unfold cd pre val env;simp only[hw,sx,he];exact⟨b,h⟩
theorem wpE_off(hw:CT o (yielded l.toArray a.tmps)=xj)(b:∀W,cs.contains i=wP→S (upto cs i) W→S (upto cs (i+1)) W)(h:wpE P l es cs w0 S R vf φ Pn Q (i+1) rest (a.put o.dst At) E) :
  wpE P l es cs w0 S R vf φ Pn Q i (o::rest) a E:=by
 show cd P l es cs w0 S R vf φ Pn i o _ a E
 unfold cd pre val env;simp only[hw,Fo,sm];exact⟨b,fun _=>h⟩
theorem h(h:Q a E):wpE P l es cs w0 S R vf φ Pn Q i [] a E:=h
end
end
end Go.Proofs.YtkhfjgjjhlnnnaaGreatDoor.RP
