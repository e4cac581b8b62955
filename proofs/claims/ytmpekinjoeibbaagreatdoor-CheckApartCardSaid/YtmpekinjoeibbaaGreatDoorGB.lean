/- Parts of one proof, joined; conditions stand in each theorem. -/
import Derived.Test.YtmpekinjoeibbaaGreatDoorMD
import Derived.Test.YtmpekinjoeibbaaGreatDoorMA
import Derived.Test.YtmpekinjoeibbaaGreatDoorMV
import Derived.Test.YtmpekinjoeibbaaGreatDoorMN
import Derived.Test.YtmpekinjoeibbaaGreatDoorNB
import Derived.Test.YtmpekinjoeibbaaGreatDoorNZ
open Go renaming Value→r3,TypeId→vn,World→p7,Ending→xv,Calls→r9,undef→tT
open Option renaming some→A,none→V
open Go.Value renaming slice→O,int→I,bool→ur,string→p9,agg→s3,pointer→tv
open Or renaming inr→tS,inl→tE
open Go.Obj renaming cells→p8
open Go.IntKind renaming i64→Y,u8→J
open Bool renaming true→r5
open Go.Proofs.Tryz renaming prog→r6
open Go.Ending renaming returned→tF
open Go.World renaming cell?→xj
namespace Go.Proofs.YtmpekinjoeibbaaGreatDoor
open Go.RowKit
def mkA(k i:Nat):Int:=1000003*((k:Int)+7)+i
def aI(mk:Nat→Nat→List r3) (k n:Nat):List Value:=(List.range n).flatMap (mk k)
section
variable {E S:vn} {z:Nat} {mk:Nat→Nat→List r3}
theorem dR(k n:Nat):aI mk k (n+1)=aI mk k n++mk k n:=by
 unfold aI;rw[List.range_succ,List.flatMap_append,List.flatMap_cons,List.flatMap_nil,List.append_nil]
theorem ij(a:∀k i,(mk k i).length=z)(k:Nat):∀n,(aI mk k n).length=n*z:=by
 intro n
 induction n with
 | zero=>simp[aI]
 | succ n b=>rw[dR,Fl,b,a,Nat.add_mul,Nat.one_mul]
theorem Cq(a:∀k i,(mk k i).length=z)(k:Nat){i n m:Nat}{u:r3}(e:i<n)(hm:(mk k i)[m]?=A u):(aI mk k n)[i*z+m]?=A u:=by
 have b:m<z:=by rw[←a k i];exact (Fo.1 hm).1
 induction n with
 | zero=>omega
 | succ n c =>
  rw[dR]
  by_cases h:i<n
  ·have d:i*z+m<n*z:=by
    have:=Nat.mul_le_mul_right z (show i+1≤n from h);rw[Nat.add_mul,Nat.one_mul]at this;omega
   rw[FM (by rw[ij a];exact d)];exact c h
  ·obtain rfl:i=n:=by omega
   rw[FA (by rw[ij a];omega),ij a,show i*z+m-i*z=m by omega];exact hm
theorem BF(k:Nat){i n:Nat}(h:i≤n):∃ys,aI mk k n=aI mk k i++ys:=by
 induction n with
 | zero=>obtain rfl:i=0:=by omega
         exact⟨[],Z⟩
 | succ n a =>
  by_cases b:i≤n
  ·obtain⟨ys,c⟩:=a b;exact⟨ys++mk k n,by rw[dR,c,List.append_assoc]⟩
  ·obtain rfl:i=n+1:=by omega
   exact⟨[],by rw[List.append_nil]⟩
theorem zL{w w':p7}{B g:Nat}{e:vn}{z n n' cap:Nat}{v:r3}{xs ys:List r3}(h:w.ownsRow B e z v n xs)(hv:v.ownBlock=A g)
  {v1:r3} {r:Nat} {y:List r3} (C:w.ownsRow B e z v1 r y) (b:v1=O (A ⟨g,0,V⟩) r cap) (D:0<z)
  (s:w'.ownsRow B e z (O (A ⟨g,0,V⟩) n' cap) n' (xs++ys)):w'.ownsRow B e z v n xs:=by
 refine⟨h.1,?_⟩;rcases h.2 with ⟨rfl,_⟩|⟨g2,a,cur,rfl,F,G,l,m,o,H⟩
 ·cases hv
 ·obtain rfl:g2=g:=by simpa [Value.ownBlock]using hv
  rcases C.2 with ⟨rfl,_⟩|⟨g3,d,t,rfl,K,c,_,_,f,_⟩
  ·cases b
  ·simp only[Value.slice.injEq,oF,Addr.mk.injEq,and_true,pk]at b;obtain⟨rfl,rfl⟩:=b;rw[G]at c;simp only[oF,Obj.cells.injEq,and_true]at c;subst c;have p:a=d:=Nat.eq_of_mul_eq_mul_right D (o.symm.trans f);subst p;rcases s.2 with ⟨L,_⟩|⟨g4,u,i,x,M,q,_,_,j,k⟩
   ·cases L
   ·simp only[Value.slice.injEq,oF,Addr.mk.injEq,and_true,pk]at x;obtain⟨rfl,rfl⟩:=x;refine tS ⟨_,a,i,Z,F,q,l,m,j,?_⟩;have hle:n*z≤n'*z:=by rw[←h.1,←s.1,Fl];omega
    rw[←Nat.min_eq_left hle,←List.take_take,k,←h.1];exact List.take_left
theorem aC{w:p7}{B n:Nat}{v:r3}{xs:List r3}(h:w.ownsRow B E z v n xs):∃p c,v=O p n c:=by
 rcases h.2 with ⟨rfl,rfl⟩|⟨g,cap,cur,rfl,_⟩
 ·exact⟨V,0,Z⟩
 ·exact⟨_,cap,Z⟩
theorem aU{w:p7}{B n:Nat}{v:r3}{xs:List r3}(h:w.ownsRow B E z v n xs)(b:0<n):∃g c,v=O (A ⟨g,0,V⟩) n c∧n≤c:=by
 rcases h.2 with ⟨rfl,rfl⟩|⟨g,cap,cur,rfl,_,_,a,_⟩
 ·omega
 ·exact⟨g,cap,Z,a⟩
def Fm(E S:vn) (z:Nat) (B b0:Nat) (c0:Array r3) (D:List (r3×Nat)) (q:Nat→Nat→List r3→Prop) (W:p7):Prop:=
 W.heap[b0]?=A (p8 c0 S (0,0))∧∀k v n,D[k]?=A (v,n)→∃xs,W.ownsRow B E z v n xs∧q k n xs
structure FIn (B b0:Nat) (c0:Array r3) (D:List (r3×Nat)):Prop where
 N:D.length≤100000
 n:∀(k:Nat) (v:r3) (n:Nat),D[k]?=A (v,n)→n≤20000
 b:∀(k:Nat) (v:r3) (n:Nat),D[k]?=A (v,n)→c0[k]?=A v
 T:∀(i j:Nat) (v u:r3) (n m g:Nat),D[i]?=A (v,n)→D[j]?=A (u,m)→i≠j→v.ownBlock=A g→u.ownBlock≠A g
def q1(z:Nat) (mk:Nat→Nat→List r3) (k i:Nat) (j n:Nat) (xs:List r3):Prop:=(j<k→xs=aI mk j n)∧(j=k→xs.take (i*z)=aI mk k i)
def Dg(D:List (r3×Nat)) (b:Nat):Prop:=∃(k:Nat) (v:r3) (n:Nat),D[k]?=A (v,n)∧v.ownBlock=A b
def nY(E S:vn) (z:Nat) (mk:Nat→Nat→List r3) (B b0:Nat) (c0:Array r3) (D:List (r3×Nat)) (w:p7) (i:r3) (W:p7):Prop:=
 ∃(a:p7) (k:Nat),a=W∧k≤D.length∧i=I Y k∧Chg (Dg D) w a∧B≤a.heap.size∧Fm E S z B b0 c0 D (q1 z mk k 0) a
def gJ(E S:vn) (z:Nat) (mk:Nat→Nat→List r3) (B b0:Nat) (c0:Array r3) (D:List (r3×Nat)) (w:p7) (k n:Nat) (i:r3) (W:p7):Prop:=
 ∃(a:p7) (j:Nat),a=W∧j≤n∧i=I Y j∧Chg (Dg D) w a∧B≤a.heap.size∧Fm E S z B b0 c0 D (q1 z mk k j) a
def lm:List r3→Nat→List r3→List r3
 | xs,_,[]=>xs
 | xs,b,v::vs=>lm (xs.set b v) (b+1) vs
theorem py:∀(vs xs:List r3) (b j:Nat),j<b→(lm xs b vs)[j]?=xs[j]?
 | [],_,_,_,_=>rfl
 | v::vs,xs,b,j,h=>by unfold lm;rw[py vs _ _ _ (by omega),List.getElem?_set_ne (by omega)]
theorem xz:∀(vs xs:List r3) (b m:Nat) (u:r3),b+vs.length≤xs.length→vs[m]?=A u→(lm xs b vs)[b+m]?=A u
 | [],_,_,_,_,_,h=>by simp at h
 | v::vs,xs,b,0,u,a,h=>by
  injection h with h
  subst h;rw[FC]at a;unfold lm;rw[py vs _ _ _ (by omega)];exact List.getElem?_set_self (by omega)
 | v::vs,xs,b,m+1,u,a,h=>by
  rw[FC]at a;unfold lm;have:=xz vs (xs.set b v) (b+1) m u (by simp;omega) h;rw[show b+1+m=b+(m+1) by omega]at this;exact this
theorem ia:∀(vs xs:List r3) (b:Nat),(∀u∈xs,u.oneCell'=r5)→(∀u∈vs,u.oneCell'=r5)→∀u∈lm xs b vs,u.oneCell'=r5
 | [],_,_,h,_=>h
 | v::vs,xs,b,h,a=>by
  unfold lm;refine ia vs _ _ (fun u hu=>?_) (fun u hu=>a u (List.mem_cons_of_mem _ hu));rcases List.mem_or_eq_of_mem_set hu with hu|rfl
  ·exact h u hu
  ·exact a _ (List.mem_cons_self ..)
def di:p7→Nat→Nat→List r3→p7
 | W,_,_,[]=>W
 | W,g,b,v::vs=>di (W.setCell ⟨g,b,V⟩ v) g (b+1) vs
theorem fy{F:Nat→Prop}{w:p7}:∀(vs:List r3) (W:p7) (g b:Nat),Chg F w W→(F g∨w.heap.size≤g)→Chg F w (di W g b vs)
 | [],_,_,_,h,_=>h
 | v::vs,W,g,b,h,a=>by unfold di;exact fy vs _ g _ (h.t (p:=⟨g,b,V⟩) a v) a
theorem eF{B:Nat}{w:p7}:∀(vs:List r3) (W:p7) (g b:Nat),Below B w W→B≤g→Below B w (di W g b vs)
 | [],_,_,_,h,_=>h
 | v::vs,W,g,b,h,a=>by unfold di;exact eF vs _ g _ (h.setCell (p:=⟨g,b,V⟩) a v) a
theorem dV{B g n cap:Nat}{e:vn}:∀(vs:List r3) (W:p7) (xs:List r3) (b:Nat),W.ownsRow B e z (O (A ⟨g,0,V⟩) n cap) n xs→
  (di W g b vs).ownsRow B e z (O (A ⟨g,0,V⟩) n cap) n (lm xs b vs)∧W.grownBy (di W g b vs) (A g)
 | [],W,xs,b,h=>⟨h,⟨Z,Z,Z,ET _,fun _ _ _=>rfl⟩⟩
 | v::vs,W,xs,b,h=>by
  have a0:=h.stored b v;have a1:=dV vs _ _ (b+1) a0.1;exact⟨a1.1,a0.2.trans a1.2⟩
theorem AY{xs:List r3}{k i:Nat}(a:∀k i,(mk k i).length=z)(h:xs.take (i*z)=aI mk k i)(d:i*z+z≤xs.length):(lm xs (i*z) (mk k i)).take ((i+1)*z)=aI mk k (i+1):=by
 apply List.ext_getElem?;intro j;rw[List.getElem?_take]
 by_cases b:j<(i+1)*z
 ·rw[oA b,dR]
  by_cases c:j<i*z
  ·rw[py _ _ _ _ c,FM (by rw[ij a];exact c),←h,List.getElem?_take,oA c]
  ·obtain⟨m,rfl⟩:∃m,j=i*z+m:=⟨j-i*z,by omega⟩;rw[Nat.add_mul,Nat.one_mul]at b;have hm:m<(mk k i).length:=by rw[a];omega
   rw[FA (by rw[ij a];omega),ij a,show i*z+m-i*z=m by omega];rw[EX hm];exact xz _ _ _ _ _ (by rw[a];omega) (EX hm)
 ·rw[ox b,List.getElem?_eq_none (by rw[ij a];omega)]
theorem gJ.step(f:S≠E)(w:∀k i,(mk k i).length=z){B b0:Nat}{c0:Array r3}{D:List (r3×Nat)}{W2 e:p7}{k n i g c:Nat}(x:FIn B b0 c0 D)(l:D[k]?=A (O (A ⟨g,0,V⟩) n c,n))(y:i<n)(hm:Fm E S z B b0 c0 D (q1 z mk k i) W2)(o:FS W2 e) :
  Fm E S z B b0 c0 D (q1 z mk k (i+1)) (di e g (i*z) (mk k i)):=by
 obtain⟨xs,p,C⟩:=hm.2 k _ n l;have q:=ab p o;have r:=dV (mk k i) e xs (i*z) q;obtain⟨F,u,cur,b,_,G,_⟩:=p.2.resolve_left (by rintro ⟨h,_⟩;cases h);obtain rfl:g=F:=by
  simp only[Value.slice.injEq,oF,Addr.mk.injEq,and_true,pk]at b;exact b.1
 have s:b0≠g:=iz hm.1 G f;refine⟨?_,fun j v m d=>?_⟩
 ·have H:e.heap[b0]?=A (p8 c0 S (0,0)):=(o.block b0 (ES.1 hm.1).1).trans hm.1;exact aJ r.2 H (by simpa using s)
 ·by_cases a:j=k
  ·subst a;rw[l]at d;simp only[oF,o6]at d;obtain⟨rfl,rfl⟩:=d;exact⟨_,r.1,fun h=>absurd h (Nat.lt_irrefl _),fun _=>AY w (C.2 Z) (by rw[p.1];have:=Nat.mul_le_mul_right z (show i+1≤n from y);rw[Nat.add_mul,Nat.one_mul]at this;exact this)⟩
  ·obtain⟨ys,K,t⟩:=hm.2 j v m d;refine⟨ys,(ab K o).kept r.2 ?_,fun h=>t.1 h,fun h=>absurd h a⟩
   cases hv:v.ownBlock with
   | none=>exact tE Z
   | some g2 =>
    refine tS fun h=>?_
    exact x.T j k v _ m n g2 d l a hv h.symm
def Gs(E S:vn) (z:Nat) (B b:Nat) (D:List (r3×Nat)) (k:Nat) (q:Nat→Nat→List r3→Prop) (W:p7):Prop:=
 ∃c1:Array r3,W.heap[b]?=A (p8 c1 S (0,0))∧c1.size=D.length∧∀(j:Nat) (v:r3) (n:Nat),j<k→D[j]?=A (v,n)→∃(a:r3) (ys:List r3),c1[j]?=A a∧W.ownsRow B E z a (n+64) ys∧q j n ys∧
  (a.ownBlock=v.ownBlock∨∀(i:Nat) (u:r3) (m:Nat),D[i]?=A (u,m)→u.ownBlock≠a.ownBlock)
def qM(mk:Nat→Nat→List r3) (j n:Nat) (xs:List r3):Prop:=xs=aI mk j n
theorem mM{w:p7}{B n:Nat}{v:r3}{xs:List r3}(h:w.ownsRow B E z v n xs){g:Nat}(a:v.ownBlock=A g):∃cs,w.heap[g]?=A (p8 cs E (0,0)):=by
 rcases h.2 with ⟨rfl,_⟩|⟨b,cap,cur,rfl,_,h,_⟩
 ·cases a
 ·obtain rfl:b=g:=by simpa [Value.ownBlock]using a
  exact⟨cur,h⟩
theorem eA(a:S≠E){w:p7}{B n b:Nat}{v:r3}{xs:List r3}{cs:Array r3}(h:w.ownsRow B E z v n xs)(c:w.heap[b]?=A (p8 cs S (0,0))):v.ownBlock≠A b:=by
 intro hv;obtain⟨e,d⟩:=mM h hv;exact iz c d a Z
theorem t7{w w':p7}{B n:Nat}{v:r3}{xs:List r3}{F:Nat→Prop}(h:w.ownsRow B E z v n xs)(b:Chg F w w')(c:∀g,v.ownBlock=A g→¬F g):w'.ownsRow B E z v n xs:=
 bE h fun g a=>b.q g (h.lt g a).2 (c g a)
theorem jc(o:S≠E){B b0 e:Nat}{c0:Array r3}{D:List (r3×Nat)}{q:Nat→Nat→List r3→Prop}{W0 W2:p7}{k n:Nat}{v f:r3}{ys:List r3}(Q:FIn B b0 c0 D)(G:b0≠e)
  (hm:Fm E S z B b0 c0 D (qM mk) W0) (d:Gs E S z B e D k q W0) (p:D[k]?=A (v,n)) (C:Chg (fun b=>v.ownBlock=A b) W0 W2) (hv:W2.ownsRow B E z v n (aI mk k n)) (H:W2.ownsRow B E z f (n+64) ys) (R:q k n ys)
  (K:f.ownBlock=v.ownBlock∨∃g,f.ownBlock=A g∧W0.heap.size≤g) :
  Fm E S z B b0 c0 D (qM mk) (W2.setCell ⟨e,k,V⟩ f)∧Gs E S z B e D (k+1) q (W2.setCell ⟨e,k,V⟩ f):=by
 obtain⟨c1,L,s,M⟩:=d;obtain⟨T,t,_⟩:=hm.2 k v n p;have U:k<D.length:=(Fo.1 p).1;have N:W2.heap[b0]?=A (p8 c0 S (0,0)):=(C.q b0 (ES.1 hm.1).1 (eA o t hm.1)).trans hm.1;have w:W2.heap[e]?=A (p8 c1 S (0,0)):=(C.q e (ES.1 L).1 (eA o t L)).trans L;have keep:∀{u:r3} {m:Nat} {l:List r3},W2.ownsRow B E z u m l→(W2.setCell ⟨e,k,V⟩ f).ownsRow B E z u m l:=fun {u m l} h=>bE h fun g d=>o7 _ _ _ _ (by rintro rfl;exact eA o h w d)
 refine⟨⟨(o7 _ _ _ _ G).trans N,fun j u m c=>?_⟩,c1.setIfInBounds k f,heap_set w _ _,by simpa using s,fun j u m a c=>?_⟩
 ·by_cases a:j=k
  ·subst a;rw[p]at c;simp only[oF,o6]at c;obtain⟨rfl,rfl⟩:=c;exact⟨_,keep hv,Z⟩
  ·obtain⟨l,x,r⟩:=hm.2 j u m c;exact⟨l,keep (t7 x C fun g d F=>Q.T j k u v m n g c p a d F),r⟩
 ·by_cases a:j=k
  ·subst a;rw[p]at c;simp only[oF,o6]at c;obtain⟨rfl,rfl⟩:=c;refine⟨f,ys,by simp[s,U],keep H,R,?_⟩;rcases K with K|⟨g,d,W⟩
   ·exact tE K
   ·refine tS fun i u m hu he=>?_
    obtain⟨l,x,_⟩:=hm.2 i u m hu;have:=(x.lt g (he.trans d)).2;omega
  ·obtain⟨X,l,P,x,r,y⟩:=M j u m (by omega) c;refine⟨X,l,by rw[Array.getElem?_setIfInBounds_ne (Ne.symm a)];exact P,keep (t7 x C fun g d F=>?_),r,y⟩;rcases y with h|h
   ·exact Q.T j k u v m n g c p a (h.symm.trans d) F
   ·exact h k v n p (F.trans d.symm)
structure Gr4 (E S:vn) (z:Nat) (mk:Nat→Nat→List r3) (B b0:Nat) (c0:Array r3) (W0:p7) (k n:Nat) (v vi:r3) (i:Nat) (W:p7):Prop where
 b0:W.heap[b0]?=A (p8 c0 S (0,0))
 chg:Chg (fun b=>v.ownBlock=A b) W0 W
 ri:W.ownsRow B E z vi (n+i) (aI mk k (n+i))
 rv:W.ownsRow B E z v n (aI mk k n)
 or:vi.ownBlock=v.ownBlock∨∃g,vi.ownBlock=A g∧W0.heap.size≤g
theorem Gr4.C{B b0:Nat}{c0:Array r3}{W0 W W':p7}{k n i:Nat}{v vi:r3}(h:Gr4 E S z mk B b0 c0 W0 k n v vi i W)(a:FS W W'):Gr4 E S z mk B b0 c0 W0 k n v vi i W':=
 ⟨(a.block b0 (ES.1 h.b0).1).trans h.b0,h.chg.h (Chg.b a),ab h.ri a,ab h.rv a,h.or⟩
def Gone(W W':p7) (v a:r3) (n m:Nat):Prop:=
 ((∃g cap,v=O (A ⟨g,0,V⟩) n cap∧a=O (A ⟨g,0,V⟩) (n+m) cap∧W.grownBy W' (A g))∨(∃cap,a=O (A ⟨W.heap.size,0,V⟩) (n+m) cap∧FS W W'))
theorem gk{m n:Nat}{w W W':p7}{v f:r3}{F:Nat→Prop}(hw:Chg F w W)(hF:∀g,v.ownBlock=A g→F g∨w.heap.size≤g)(h:Gone W W' v f n m):Chg F w W':=by
 rcases h with ⟨g,cap,rfl,_,a⟩|⟨cap,_,c⟩
 ·refine⟨a.os.trans hw.os,a.tape.trans hw.tape,a.output.trans hw.a,EZ hw.u a.size,fun b c d=>?_⟩;refine (a.block b (EY c hw.u) fun e=>?_).trans (hw.q b c d);injection e with e
  rcases hF g Z with h|h
  ·exact d (by rw[e];exact h)
  ·omega
 ·exact hw.h (Chg.b c)
theorem Gr4.h(r:S≠E)(s:0<z){B b0:Nat}{c0:Array r3}{W0 W W':p7}{k n i m:Nat}{v vi q:r3}{news:List r3}(h:Gr4 E S z mk B b0 c0 W0 k n v vi i W)(u:W'.ownsRow B E z q (n+i+m) (aI mk k (n+i)++news))(a:Gone W W' vi q (n+i) m) :
  W'.heap[b0]?=A (p8 c0 S (0,0))∧Chg (fun b=>v.ownBlock=A b) W0 W'∧W'.ownsRow B E z v n (aI mk k n)∧(q.ownBlock=v.ownBlock∨∃g,q.ownBlock=A g∧W0.heap.size≤g):=by
 obtain⟨rest,f⟩:=BF (mk:=mk) k (Nat.le_add_right n i);rcases a with ⟨g,cap,l,c,a⟩|⟨cap,c,d⟩
 ·have j:vi.ownBlock=A g:=by rw[l];rfl
  have t:b0≠g:=fun e=>eA r h.ri h.b0 (by rw[j,e])
  have hF:v.ownBlock=A g∨W0.heap.size≤g:=by
   rcases h.or with o|⟨y,o,C⟩
   ·exact tE (o.symm.trans j)
   ·rw[j]at o;injection o with o;exact tS (by omega)
  have x:Chg (fun b=>v.ownBlock=A b) W0 W':=by
   refine⟨a.os.trans h.chg.os,a.tape.trans h.chg.tape,a.output.trans h.chg.a,EZ h.chg.u a.size,fun b d w=>?_⟩;refine (a.block b (EY d h.chg.u) (fun e=>?_)).trans (h.chg.q b d w);injection e with e
   rcases hF with hF|hF
   ·exact w (by rw[e];exact hF)
   ·omega
  refine⟨aJ a h.b0 (by simpa using t),x,?_,?_⟩
  ·by_cases p:v.ownBlock=A g
   ·rw[c]at u;refine zL (n':=n+i+m) (ys:=rest++news) h.rv p h.ri l s ?_;rw[←List.append_assoc,←f];exact u
   ·exact bE h.rv fun b d=>a.block b (h.rv.lt b d).2 (fun e=>p (d.trans e))
  ·rw[c];rcases hF with hF|hF
   ·exact tE hF.symm
   ·exact tS ⟨g,Z,hF⟩
 ·refine⟨(d.block b0 (ES.1 h.b0).1).trans h.b0,h.chg.h (Chg.b d),ab h.rv d,tS ⟨W.heap.size,by rw[c];rfl,h.chg.u⟩⟩
def od(E S:vn) (z:Nat) (mk:Nat→Nat→List r3) (B b0 b:Nat) (c0:Array r3) (D:List (r3×Nat)) (w:p7) (i:r3) (W:p7):Prop:=
 ∃(a:p7) (k:Nat),a=W∧k≤D.length∧i=I Y k∧Chg (Dg D) w a∧B≤a.heap.size∧Fm E S z B b0 c0 D (qM mk) a∧Gs E S z B b D k (fun j n ys=>ys=aI mk j (n+64)) a
def nV(E S:vn) (z:Nat) (mk:Nat→Nat→List r3) (B b0:Nat) (c0:Array r3) (D:List (r3×Nat)) (w W0:p7) (k n:Nat) (v g i:r3) (W:p7):Prop:=
 ∃(a:p7) (j:Nat),a=W∧j≤64∧i=I Y j∧Chg (Dg D) w a∧B≤a.heap.size∧Gr4 E S z mk B b0 c0 W0 k n v g j a
theorem am{W:p7}{B g n cap:Nat}{e:vn}{xs:List r3}(h:W.ownsRow B e z (O (A ⟨g,0,V⟩) n cap) n xs)(j:Nat)(b:j<n*z):∃a,W.cell? ⟨g,j,V⟩=A a:=
 ⟨_,(h.cellAt j b).trans (EX (by rw[h.1];exact b))⟩
theorem ie{R:vn}(e:Tryz.prog.underlying R=A (.slice S))(f:(Tryz.prog.info? S).map (fun i=>(i.zero,i.size,i.bytes))=A (A (O V 0 0),1,24))(N:Nat)(g:N≤100000)(W:p7):∃C:Array r3,C.size=N∧
  (Instr.makeSlice R (I Y N) (I Y N)).run r6 W=.ok (O (A ⟨W.heap.size,0,V⟩) N N) (W.alloc (p8 C S)):=by
 obtain⟨i0,a,b,c,d⟩:=info_parts f;have h:=run_make (P:=r6) W R S i0 _ e a b Y Y (N:Int) (N:Int) (by omega) (by omega) (by rw[d];omega) (by omega);simp only[Int.toNat_natCast]at h;exact⟨_,by rw[size_madeCells,c];omega,h⟩
theorem gW{bytes:Nat}{v:r3}(g:Tryz.prog.underlying S=A (.slice E))(j:(Tryz.prog.info? E).map (fun i=>(i.zero,i.size,i.bytes))=A (A v,z,bytes))(k:bytes≤1000)(hv:v.cells.size=z)(l:0<z)(a:v.cells.toList.all (fun u=>u.oneCell')=r5)(W:p7):∃C:Array r3,C.size=64*z∧(∀u∈C.toList,u.oneCell'=r5)∧
  (Instr.makeSlice S (I Y 64) (I Y 64)).run r6 W=.ok (O (A ⟨W.heap.size,0,V⟩) 64 64) (W.alloc (p8 C E)):=by
 obtain⟨i0,b,c,d,e⟩:=info_parts j;have h:=run_make (P:=r6) W S E i0 _ g b c Y Y 64 64 (by omega) (by omega) (by rw[e];omega) (by omega);rw[d]at h;refine⟨_,?_,?_,h⟩
 ·rw[size_madeCells];rfl
 ·intro u hu;have hu:u∈((Array.range (Int.toNat 64*z)).map (v.cells[· % v.cells.size]!)).toList:=hu;rw[Array.toList_map,List.mem_map]at hu;obtain⟨i,_,rfl⟩:=hu;have f:i % v.cells.size<v.cells.size:=Nat.mod_lt _ (by omega);rw[getElem!_pos v.cells _ f];exact FG.1 a _ (by simp)
def lN(E S:vn) (z:Nat) (mk:Nat→Nat→List r3) (B b0 b:Nat) (c0:Array r3) (D:List (r3×Nat)) (w:p7) (i:r3) (W:p7):Prop:=
 ∃(a:p7) (k:Nat),a=W∧k≤D.length∧i=I Y k∧Chg (Dg D) w a∧B≤a.heap.size∧Fm E S z B b0 c0 D (qM mk) a∧Gs E S z B b D k (fun j n ys=>∃c,ys=aI mk j n++c) a
def lY(E:vn) (z:Nat) (W0:p7) (i:r3) (W:p7):Prop:=
 ∃(a:p7) (j:Nat) (xs:List r3),a=W∧j≤64∧i=I Y j∧FS W0 a∧a.ownsRow W0.heap.size E z (O (A ⟨W0.heap.size,0,V⟩) 64 64) 64 xs∧∀u∈xs,u.oneCell'=r5
theorem kH(d:S≠E)(y:0<z){B b0 b:Nat}{c0:Array r3}{D:List (r3×Nat)}{w C t c:p7}{k n:Nat}{v v9:r3}{xs:List r3}(U:FIn B b0 c0 D)(F:b0≠b)(i:w.heap.size≤b)
  (hm:Fm E S z B b0 c0 D (qM mk) C) (u:Gs E S z B b D k (fun j n ys=>∃l,ys=aI mk j n++l) C) (x:D[k]?=A (v,n)) (W:Gr4 E S z mk B b0 c0 C k n v v 0 t) (G:Chg (Dg D) w t) (R:B≤t.heap.size)
  (H:c.ownsRow B E z v9 (n+64) (aI mk k n++xs)) (e:Gone t c v v9 n 64) :
  ∃q K,v9=O q (n+64) K∧c.frozen? ⟨b,k,V⟩=false∧(∃a,c.cell? ⟨b,k,V⟩=A a)∧
   Hid (Fm E S z B b0 c0 D (qM mk) (c.setCell ⟨b,k,V⟩ v9)∧Gs E S z B b D (k+1) (fun j n ys=>∃l,ys=aI mk j n++l) (c.setCell ⟨b,k,V⟩ v9)∧Chg (Dg D) w (c.setCell ⟨b,k,V⟩ v9)∧B≤(c.setCell ⟨b,k,V⟩ v9).heap.size):=by
 obtain⟨q,K,rfl⟩:=aC H;obtain⟨e0,T,hv,L⟩:=Gr4.h d y (m:=64) W H e;obtain⟨c1,f,o,_⟩:=id u;obtain⟨X,M,_⟩:=hm.2 k v n x;have N:v.ownBlock≠A b:=eA d M f;have r:c.heap[b]?=A (p8 c1 S (0,0)):=(T.q b (ES.1 f).1 N).trans f;have hk:k<D.length:=(Fo.1 x).1;have s:=jc d (k:=k) (q:=fun j n ys=>∃l,ys=aI mk j n++l) U F hm u x T hv H ⟨xs,Z⟩ L;have P:Chg (Dg D) w c:=gk G (fun g u=>tE ⟨k,v,n,x,u⟩) e;have Q:B≤c.heap.size:=by
  rcases e with ⟨_,_,_,_,h⟩|⟨_,_,h⟩
  ·exact EZ R h.size
  ·exact EZ R h.size
 exact⟨q,K,Z,ae r k,⟨_,(FR _ _ _ _ _ _ r).trans (Array.getElem?_eq_getElem (by rw[o];exact hk))⟩,s.1,s.2,P.t (p:=⟨b,k,V⟩) (tS i) _,by simpa [World.setCell]using Q⟩
def bJ(N:Nat) (b:p7) (i:r3) (W:p7):Prop:=
 ∃(a:p7) (k:Nat),a=W∧k≤N∧i=I Y k∧FS b a
theorem ai{W:p7}{B g n c N k i:Nat}{xs:List r3}(b:∀k i,(mk k i).length=z)(h:W.ownsRow B E z (O (A ⟨g,0,V⟩) n c) n xs)(l:∃f,xs=aI mk k N++f)(j:i<N)(d:i<n){m:Nat}{u:r3}(hm:(mk k i)[m]?=A u) :
  W.cell? ⟨g,i*z+m,V⟩=A u:=by
 obtain⟨f,rfl⟩:=l;have o:m<z:=by rw[←b k i];exact (Fo.1 hm).1
 have e:∀a,i+1≤a→i*z+m<a*z:=fun a p=>by
  have:=Nat.mul_le_mul_right z p;rw[Nat.add_mul,Nat.one_mul]at this;omega
 rw[h.cellAt (i*z+m) (e n d),FM (by rw[ij b];exact e N j)];exact Cq b k j hm
def dZ(D:List (r3×Nat)) (w:p7) (e:xv) (w':p7):Prop:=e=tF (ur r5)∧Chg (Dg D) w w'
end
theorem mk_any(k i:Nat)(w:p7)(a:k≤1000000)(b:i≤1000000):r9 r6 116 #[I Y k,I Y i] w fun e w'=>e=tF (I Y (mkA k i))∧w=w':=by
 have c:(0:Int)≤i:=by omega
 have d:(i:Int)≤1000000:=by omega
 have f:(0:Int)≤k:=by omega
 have g:(k:Int)≤1000000:=by omega
 clear a b
 go_enter Tryz.func116,Tryz.ntmps116
 go_wp2
 go_ret;exact⟨Z,Z⟩
theorem kG{k i:Nat}(a:k≤1000000)(b:i≤1000000):I64 (mkA k i):=by
 unfold mkA;exact⟨by omega,by omega⟩
def cj(k i:Nat):List Value:=[I J 0,I J 0,I Y 0,p9 ⟨#[]⟩,I Y (mkA k i),I J 0,O V 0 0]
theorem aS(k i:Nat):(cj k i).length=7:=rfl
theorem vE:(Tryz.prog.info? 51).map (fun i=>(i.zero,i.size,i.bytes))=A (A (s3 #[I J 0,I J 0,I Y 0,p9 ByteArray.empty,I Y 0,I J 0,O V 0 0]),7,80):=by kernel_rfl
theorem ze{W:p7}{tmps:Array r3}{R:xv→p7→Prop}{r:Nat}{c0 c1 c2 b c4 c d:r3}(f:tmps.getD 4 tT=tv (A ⟨r,0,V⟩))(a:W.heap[r]?=A (p8 #[c0,c1,c2,b,c4,c,d] 51 (0,0)))(g:R (tF (s3 #[c0,c1,c2,b,c4,c,d])) W):bodyPost r6 Tryz.f125 R .ret ⟨tmps,[]⟩ W:=by
 have d0:W.cell? ⟨r,0,V⟩=A c0:=by simp[xj,a]
 have d1:W.cell? ⟨r,1,V⟩=A c1:=by simp[xj,a]
 have d2:W.cell? ⟨r,2,V⟩=A c2:=by simp[xj,a]
 have d3:W.cell? ⟨r,3,V⟩=A b:=by simp[xj,a]
 have d4:W.cell? ⟨r,4,V⟩=A c4:=by simp[xj,a]
 have d5:W.cell? ⟨r,5,V⟩=A c:=by simp[xj,a]
 have d6:W.cell? ⟨r,6,V⟩=A d:=by simp[xj,a]
 have e:tmps[4]?.getD tT=tv (A ⟨r,0,V⟩):=by simpa using f
 refine bodyPost_ret (v:=s3 #[c0,c1,c2,b,c4,c,d]) ?_ Z g;simp[results,Tryz.results125,go_sem,e,d0,d1,d2,d3,d4,d5,d6]
theorem nh(k i:Nat)(w:p7)(a:k≤1000000)(b:i≤1000000):r9 r6 125 #[I Y k,I Y i] w fun e w'=>e=tF (s3 #[I J 0,I J 0,I Y 0,p9 ⟨#[]⟩,I Y (mkA k i),I J 0,O V 0 0])∧FS w w':=by
 have c:=Hd (fun W=>mk_any k i W a b);clear a b
 go_enter Tryz.func125,Tryz.ntmps125
 go_wp2_with (first
  | (go_at_call 116;refine Ff (c.o _) ?_;rintro e w' ⟨rfl,rfl⟩))
 exact ze (r:=w.heap.size) Z (ot w _) ⟨Z,(EU _ w).alloc (ET _) _⟩
theorem Cd(W:p7):∃C:Array r3,C.size=64*7∧(∀u∈C.toList,u.oneCell'=r5)∧(Instr.makeSlice 49 (I Y 64) (I Y 64)).run r6 W=.ok (O (A ⟨W.heap.size,0,V⟩) 64 64) (W.alloc (p8 C 51)):=gW (S:=49) (E:=51) (z:=7) Tryz.underlying49 vE (by decide) (by kernel_rfl) (by decide) (by kernel_rfl) W
theorem AN(k i:Nat)(w:p7)(c:k≤1000000)(d:i≤1000000):r9 r6 126 #[s3 #[I J 0,I J 0,I Y 0,p9 ⟨#[]⟩,I Y (mkA k i),I J 0,O V 0 0],s3 #[I J 0,I J 0,I Y 0,p9 ⟨#[]⟩,I Y (mkA k i),I J 0,O V 0 0]] w fun e w'=>e=tF (ur r5)∧FS w w':=by
 have b:=kG c d;have a:U8 0:=⟨by decide,by decide⟩;have i0:I64 0:=⟨by decide,by decide⟩;have t0:(⟨#[]⟩:ByteArray).size≤maxLen:=Fi _;exact kK 0 ⟨0,⟨0,0,⟨#[]⟩⟩,mkA k i,0,[]⟩ _ _ w (fb.2 ⟨⟨a,⟨a,i0,t0⟩,b,a⟩,_,Z,Z,_,_,Z⟩) (fb.2 ⟨⟨a,⟨a,i0,t0⟩,b,a⟩,_,Z,Z,_,_,Z⟩)
def dq(k i:Nat):List Value:=[I J 0,I Y (mkA k i),I J 0,I Y 0,p9 ⟨#[]⟩]
theorem bL(k i:Nat):(dq k i).length=5:=rfl
theorem xu:(Tryz.prog.info? 56).map (fun i=>(i.zero,i.size,i.bytes))=A (A (s3 #[I J 0,I Y 0,I J 0,I Y 0,p9 ByteArray.empty]),5,48):=by kernel_rfl
theorem Br{W:p7}{tmps:Array r3}{R:xv→p7→Prop}{r:Nat}{c0 c1 c2 b c4:r3}(d:tmps.getD 4 tT=tv (A ⟨r,0,V⟩))(a:W.heap[r]?=A (p8 #[c0,c1,c2,b,c4] 56 (0,0)))(e:R (tF (s3 #[c0,c1,c2,b,c4])) W):bodyPost r6 Tryz.f127 R .ret ⟨tmps,[]⟩ W:=by
 have d0:W.cell? ⟨r,0,V⟩=A c0:=by simp[xj,a]
 have d1:W.cell? ⟨r,1,V⟩=A c1:=by simp[xj,a]
 have d2:W.cell? ⟨r,2,V⟩=A c2:=by simp[xj,a]
 have d3:W.cell? ⟨r,3,V⟩=A b:=by simp[xj,a]
 have d4:W.cell? ⟨r,4,V⟩=A c4:=by simp[xj,a]
 have c:tmps[4]?.getD tT=tv (A ⟨r,0,V⟩):=by simpa using d
 refine bodyPost_ret (v:=s3 #[c0,c1,c2,b,c4]) ?_ Z e;simp[results,Tryz.results127,go_sem,c,d0,d1,d2,d3,d4]
theorem qK(k i:Nat)(w:p7)(a:k≤1000000)(b:i≤1000000):r9 r6 127 #[I Y k,I Y i] w fun e w'=>e=tF (s3 #[I J 0,I Y (mkA k i),I J 0,I Y 0,p9 ⟨#[]⟩])∧FS w w':=by
 have c:=Hd (fun W=>mk_any k i W a b);clear a b
 go_enter Tryz.func127,Tryz.ntmps127
 go_wp2_with (first
  | (go_at_call 116;refine Ff (c.o _) ?_;rintro e w' ⟨rfl,rfl⟩))
 exact Br (r:=w.heap.size) Z (ot w _) ⟨Z,(EU _ w).alloc (ET _) _⟩
theorem Dt(W:p7):∃C:Array r3,C.size=64*5∧(∀u∈C.toList,u.oneCell'=r5)∧(Instr.makeSlice 43 (I Y 64) (I Y 64)).run r6 W=.ok (O (A ⟨W.heap.size,0,V⟩) 64 64) (W.alloc (p8 C 56)):=gW (S:=43) (E:=56) (z:=5) Tryz.underlying43 xu (by decide) (by kernel_rfl) (by decide) (by kernel_rfl) W
def cw(k i:Nat):List Value:=[I J 0,I Y (mkA k i),O V 0 0,I J 0,I J 0,I Y 0,p9 ⟨#[]⟩,I Y 0,I J 0,O V 0 0]
theorem aD(k i:Nat):(cw k i).length=10:=rfl
theorem vI:(Tryz.prog.info? 53).map (fun i=>(i.zero,i.size,i.bytes))=A (A (s3 #[I J 0,I Y 0,O V 0 0,I J 0,I J 0,I Y 0,p9 ByteArray.empty,I Y 0,I J 0,O V 0 0]),10,120):=by kernel_rfl
theorem yF{W:p7}{tmps:Array r3}{R:xv→p7→Prop}{r:Nat}{c0 c1 c2 b c4 c d e f g:r3}(i:tmps.getD 4 tT=tv (A ⟨r,0,V⟩))(a:W.heap[r]?=A (p8 #[c0,c1,c2,b,c4,c,d,e,f,g] 53 (0,0)))(j:R (tF (s3 #[c0,c1,c2,b,c4,c,d,e,f,g])) W):bodyPost r6 Tryz.f128 R .ret ⟨tmps,[]⟩ W:=by
 have d0:W.cell? ⟨r,0,V⟩=A c0:=by simp[xj,a]
 have d1:W.cell? ⟨r,1,V⟩=A c1:=by simp[xj,a]
 have d2:W.cell? ⟨r,2,V⟩=A c2:=by simp[xj,a]
 have d3:W.cell? ⟨r,3,V⟩=A b:=by simp[xj,a]
 have d4:W.cell? ⟨r,4,V⟩=A c4:=by simp[xj,a]
 have d5:W.cell? ⟨r,5,V⟩=A c:=by simp[xj,a]
 have d6:W.cell? ⟨r,6,V⟩=A d:=by simp[xj,a]
 have d7:W.cell? ⟨r,7,V⟩=A e:=by simp[xj,a]
 have d8:W.cell? ⟨r,8,V⟩=A f:=by simp[xj,a]
 have d9:W.cell? ⟨r,9,V⟩=A g:=by simp[xj,a]
 have h:tmps[4]?.getD tT=tv (A ⟨r,0,V⟩):=by simpa using i
 refine bodyPost_ret (v:=s3 #[c0,c1,c2,b,c4,c,d,e,f,g]) ?_ Z j;simp[results,Tryz.results128,go_sem,h,d0,d1,d2,d3,d4,d5,d6,d7,d8,d9]
theorem ny(k i:Nat)(w:p7)(a:k≤1000000)(b:i≤1000000):r9 r6 128 #[I Y k,I Y i] w fun e w'=>e=tF (s3 #[I J 0,I Y (mkA k i),O V 0 0,I J 0,I J 0,I Y 0,p9 ⟨#[]⟩,I Y 0,I J 0,O V 0 0])∧FS w w':=by
 have c:=Hd (fun W=>mk_any k i W a b);clear a b
 go_enter Tryz.func128,Tryz.ntmps128
 go_wp2_with (first
  | (go_at_call 116;refine Ff (c.o _) ?_;rintro e w' ⟨rfl,rfl⟩))
 exact yF (r:=w.heap.size) Z (ot w _) ⟨Z,(EU _ w).alloc (ET _) _⟩
theorem CJ(W:p7):∃C:Array r3,C.size=64*10∧(∀u∈C.toList,u.oneCell'=r5)∧(Instr.makeSlice 36 (I Y 64) (I Y 64)).run r6 W=.ok (O (A ⟨W.heap.size,0,V⟩) 64 64) (W.alloc (p8 C 53)):=gW (S:=36) (E:=53) (z:=10) Tryz.underlying36 vI (by decide) (by kernel_rfl) (by decide) (by kernel_rfl) W
theorem A8(k i:Nat)(w:p7)(c:k≤1000000)(d:i≤1000000):r9 r6 112 #[s3 #[I J 0,I Y (mkA k i),O V 0 0,I J 0,I J 0,I Y 0,p9 ⟨#[]⟩,I Y 0,I J 0,O V 0 0],s3 #[I J 0,I Y (mkA k i),O V 0 0,I J 0,I J 0,I Y 0,p9 ⟨#[]⟩,I Y 0,I J 0,O V 0 0]] w fun e w'=>e=tF (ur r5)∧FS w w':=by
 have b:=kG c d;have a:U8 0:=⟨by decide,by decide⟩;have i0:I64 0:=⟨by decide,by decide⟩;have t0:(⟨#[]⟩:ByteArray).size≤maxLen:=Fi _;exact oO 0 ⟨0,mkA k i,[],⟨0,⟨0,0,⟨#[]⟩⟩,0,0,[]⟩⟩ _ _ w (gh.2 ⟨a,b,⟨a,⟨a,i0,t0⟩,i0,a⟩,_,_,Z,Rd.sv,Z,_,_,Z⟩) (gh.2 ⟨a,b,⟨a,⟨a,i0,t0⟩,i0,a⟩,_,_,Z,Rd.sv,Z,_,_,Z⟩)
def dw(k i:Nat):List Value:=[I J 0,I Y (mkA k i),I Y 0,O V 0 0]
theorem cG(k i:Nat):(dw k i).length=4:=rfl
theorem xG:(Tryz.prog.info? 59).map (fun i=>(i.zero,i.size,i.bytes))=A (A (s3 #[I J 0,I Y 0,I Y 0,O V 0 0]),4,48):=by kernel_rfl
theorem AZ{W:p7}{tmps:Array r3}{R:xv→p7→Prop}{r:Nat}{c0 c1 c2 a:r3}(d:tmps.getD 4 tT=tv (A ⟨r,0,V⟩))(b:W.heap[r]?=A (p8 #[c0,c1,c2,a] 59 (0,0)))(e:R (tF (s3 #[c0,c1,c2,a])) W):bodyPost r6 Tryz.f129 R .ret ⟨tmps,[]⟩ W:=by
 have d0:W.cell? ⟨r,0,V⟩=A c0:=by simp[xj,b]
 have d1:W.cell? ⟨r,1,V⟩=A c1:=by simp[xj,b]
 have d2:W.cell? ⟨r,2,V⟩=A c2:=by simp[xj,b]
 have d3:W.cell? ⟨r,3,V⟩=A a:=by simp[xj,b]
 have c:tmps[4]?.getD tT=tv (A ⟨r,0,V⟩):=by simpa using d
 refine bodyPost_ret (v:=s3 #[c0,c1,c2,a]) ?_ Z e;simp[results,Tryz.results129,go_sem,c,d0,d1,d2,d3]
theorem qF(k i:Nat)(w:p7)(a:k≤1000000)(b:i≤1000000):r9 r6 129 #[I Y k,I Y i] w fun e w'=>e=tF (s3 #[I J 0,I Y (mkA k i),I Y 0,O V 0 0])∧FS w w':=by
 have c:=Hd (fun W=>mk_any k i W a b);clear a b
 go_enter Tryz.func129,Tryz.ntmps129
 go_wp2_with (first
  | (go_at_call 116;refine Ff (c.o _) ?_;rintro e w' ⟨rfl,rfl⟩))
 exact AZ (r:=w.heap.size) Z (ot w _) ⟨Z,(EU _ w).alloc (ET _) _⟩
theorem DY(W:p7):∃C:Array r3,C.size=64*4∧(∀u∈C.toList,u.oneCell'=r5)∧(Instr.makeSlice 37 (I Y 64) (I Y 64)).run r6 W=.ok (O (A ⟨W.heap.size,0,V⟩) 64 64) (W.alloc (p8 C 59)):=gW (S:=37) (E:=59) (z:=4) Tryz.underlying37 xG (by decide) (by kernel_rfl) (by decide) (by kernel_rfl) W
theorem Dk(k i:Nat)(w:p7)(c:k≤1000000)(d:i≤1000000):r9 r6 113 #[s3 #[I J 0,I Y (mkA k i),I Y 0,O V 0 0],s3 #[I J 0,I Y (mkA k i),I Y 0,O V 0 0]] w fun e w'=>e=tF (ur r5)∧FS w w':=by
 have a:=kG c d;have b:U8 0:=⟨by decide,by decide⟩;have i0:I64 0:=⟨by decide,by decide⟩;have t0:(⟨#[]⟩:ByteArray).size≤maxLen:=Fi _;exact qC 0 ⟨0,mkA k i,0,[]⟩ _ _ w (jn.2 ⟨b,a,i0,_,Z,Rd.sv⟩) (jn.2 ⟨b,a,i0,_,Z,Rd.sv⟩)
def cD(k i:Nat):List Value:=[p9 ⟨#[]⟩,I Y (mkA k i)]
theorem eV(k i:Nat):(cD k i).length=2:=rfl
theorem uI:(Tryz.prog.info? 41).map (fun i=>(i.zero,i.size,i.bytes))=A (A (s3 #[p9 ByteArray.empty,I Y 0]),2,24):=by kernel_rfl
theorem yt{W:p7}{tmps:Array r3}{R:xv→p7→Prop}{r:Nat}{c0 c1:r3}(c:tmps.getD 4 tT=tv (A ⟨r,0,V⟩))(b:W.heap[r]?=A (p8 #[c0,c1] 41 (0,0)))(d:R (tF (s3 #[c0,c1])) W):bodyPost r6 Tryz.f130 R .ret ⟨tmps,[]⟩ W:=by
 have d0:W.cell? ⟨r,0,V⟩=A c0:=by simp[xj,b]
 have d1:W.cell? ⟨r,1,V⟩=A c1:=by simp[xj,b]
 have a:tmps[4]?.getD tT=tv (A ⟨r,0,V⟩):=by simpa using c
 refine bodyPost_ret (v:=s3 #[c0,c1]) ?_ Z d;simp[results,Tryz.results130,go_sem,a,d0,d1]
theorem mV(k i:Nat)(w:p7)(a:k≤1000000)(b:i≤1000000):r9 r6 130 #[I Y k,I Y i] w fun e w'=>e=tF (s3 #[p9 ⟨#[]⟩,I Y (mkA k i)])∧FS w w':=by
 have c:=Hd (fun W=>mk_any k i W a b);clear a b
 go_enter Tryz.func130,Tryz.ntmps130
 go_wp2_with (first
  | (go_at_call 116;refine Ff (c.o _) ?_;rintro e w' ⟨rfl,rfl⟩))
 exact yt (r:=w.heap.size) Z (ot w _) ⟨Z,(EU _ w).alloc (ET _) _⟩
theorem B7(W:p7):∃C:Array r3,C.size=64*2∧(∀u∈C.toList,u.oneCell'=r5)∧(Instr.makeSlice 23 (I Y 64) (I Y 64)).run r6 W=.ok (O (A ⟨W.heap.size,0,V⟩) 64 64) (W.alloc (p8 C 41)):=gW (S:=23) (E:=41) (z:=2) Tryz.underlying23 uI (by decide) (by kernel_rfl) (by decide) (by kernel_rfl) W
def co(k i:Nat):List Value:=[p9 ⟨#[]⟩,I Y 0,I Y (mkA k i),O V 0 0,O V 0 0]
theorem bC(k i:Nat):(co k i).length=5:=rfl
theorem tU:(Tryz.prog.info? 39).map (fun i=>(i.zero,i.size,i.bytes))=A (A (s3 #[p9 ByteArray.empty,I Y 0,I Y 0,O V 0 0,O V 0 0]),5,80):=by kernel_rfl
theorem yI{W:p7}{tmps:Array r3}{R:xv→p7→Prop}{r:Nat}{c0 c1 c2 b c4:r3}(d:tmps.getD 4 tT=tv (A ⟨r,0,V⟩))(a:W.heap[r]?=A (p8 #[c0,c1,c2,b,c4] 39 (0,0)))(e:R (tF (s3 #[c0,c1,c2,b,c4])) W):bodyPost r6 Tryz.f131 R .ret ⟨tmps,[]⟩ W:=by
 have d0:W.cell? ⟨r,0,V⟩=A c0:=by simp[xj,a]
 have d1:W.cell? ⟨r,1,V⟩=A c1:=by simp[xj,a]
 have d2:W.cell? ⟨r,2,V⟩=A c2:=by simp[xj,a]
 have d3:W.cell? ⟨r,3,V⟩=A b:=by simp[xj,a]
 have d4:W.cell? ⟨r,4,V⟩=A c4:=by simp[xj,a]
 have c:tmps[4]?.getD tT=tv (A ⟨r,0,V⟩):=by simpa using d
 refine bodyPost_ret (v:=s3 #[c0,c1,c2,b,c4]) ?_ Z e;simp[results,Tryz.results131,go_sem,c,d0,d1,d2,d3,d4]
theorem mK(k i:Nat)(w:p7)(a:k≤1000000)(b:i≤1000000):r9 r6 131 #[I Y k,I Y i] w fun e w'=>e=tF (s3 #[p9 ⟨#[]⟩,I Y 0,I Y (mkA k i),O V 0 0,O V 0 0])∧FS w w':=by
 have c:=Hd (fun W=>mk_any k i W a b);clear a b
 go_enter Tryz.func131,Tryz.ntmps131
 go_wp2_with (first
  | (go_at_call 116;refine Ff (c.o _) ?_;rintro e w' ⟨rfl,rfl⟩))
 exact yI (r:=w.heap.size) Z (ot w _) ⟨Z,(EU _ w).alloc (ET _) _⟩
theorem CN(W:p7):∃C:Array r3,C.size=64*5∧(∀u∈C.toList,u.oneCell'=r5)∧(Instr.makeSlice 24 (I Y 64) (I Y 64)).run r6 W=.ok (O (A ⟨W.heap.size,0,V⟩) 64 64) (W.alloc (p8 C 39)):=gW (S:=24) (E:=39) (z:=5) Tryz.underlying24 tU (by decide) (by kernel_rfl) (by decide) (by kernel_rfl) W
theorem Bj(k i:Nat)(w:p7)(b:k≤1000000)(c:i≤1000000):r9 r6 26 #[s3 #[p9 ⟨#[]⟩,I Y 0,I Y (mkA k i),O V 0 0,O V 0 0],s3 #[p9 ⟨#[]⟩,I Y 0,I Y (mkA k i),O V 0 0,O V 0 0]] w fun e w'=>e=tF (ur r5)∧FS w w':=by
 have a:=kG b c;have d:U8 0:=⟨by decide,by decide⟩;have i0:I64 0:=⟨by decide,by decide⟩;have t0:(⟨#[]⟩:ByteArray).size≤maxLen:=Fi _;exact oq 0 ⟨⟨#[]⟩,0,mkA k i,[],[]⟩ _ _ w (gA.2 ⟨t0,i0,a,_,_,Z,Rd.sv,Rd.sv⟩) (gA.2 ⟨t0,i0,a,_,_,Z,Rd.sv,Rd.sv⟩)
