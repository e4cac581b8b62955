/- Parts of one proof, joined; conditions stand in each theorem. -/
import Derived.Test.YtkhfjgjjhlnnnaaGreatDoorYMM
import Derived.Test.YtkhfjgjjhlnnnaaGreatDoorYMRI
import Derived.Test.YtkhfjgjjhlnnnaaGreatDoorYMC
import Derived.Test.YtkhfjgjjhlnnnaaGreatDoorYMD
import Derived.Test.YtkhfjgjjhlnnnaaGreatDoorYMT
import Derived.Handy
import Derived.Test.YtkhfjgjjhlnnnaaGreatDoorYMA
import Derived.Deep.AppendLies
open Go renaming Oper→B3,World→wD,Value→wF,Calls→xL
open Bool renaming false→xj,true→wP
open Option renaming some→Y,none→U
open Go.Obj renaming cells→wq
open Go.Value renaming slice→A,bool→AJ,int→I,string→J,pointer→xV,agg→xS,tuple→CA
open Go.IntKind renaming u8→O,i64→Z
open Go.Proofs.Tryz renaming prog→xD
open Go.Ending renaming returned→z8
open Or renaming inl→z6,inr→z7
namespace Go.Proofs.YtkhfjgjjhlnnnaaGreatDoor
open Go.RowKit
section
variable {P:Program} {l:List B3} {a0:Act} {w0:wD} {ty:Nat→wD→wF→Prop} {val:Nat→Option Bool} {fr:Nat→Bool} {m:Nat}
def aS(l:List B3):Nat→Nat→Nat→Bool
 | 0,_,_=>xj
 | f+1,j,i=>match l[j]? with
  | some o=>o.after.any fun e=>Region.binds .any e&&(decide (e.on=i)||aS l f e.on i)
  | none=>xj
def Closed(l:List B3) (listed:Array Bool):Prop:=∀(i:Nat) (o:B3),l[i]?=Y o→listed.getD i xj=wP→∀e∈o.after,Region.binds .any e=wP→listed.getD e.on xj=wP
theorem dE{listed:Array Bool}(k:Closed l listed):∀(f j i:Nat) (o:B3),l[j]?=Y o→(∀e∈o.after,Region.binds .any e=wP→listed.getD e.on xj=wP)→aS l f j i=wP→listed.getD i xj=true:=by
 intro f
 induction f with
 | zero=>intro j i o _ _ h;cases h
 | succ f n =>
  intro j i o p q h;unfold aS at h;rw[p]at h;obtain⟨e,he,c⟩:=Array.any_eq_true'.1 h;simp only[Ff,Bool.or_eq_true,r7]at c;have d:=q e he c.1;rcases c.2 with a|a
  ·rw[←a];exact d
  ·cases f with
   | zero=>cases a
   | succ f =>
    cases b:l[e.on]? with
    | none=>unfold aS at a;rw[b]at a;cases a
    | some g=>exact n e.on i g b (k e.on g b d) a
end
section
variable {l:List B3} {m:Nat} {a0:Act} {w0:wD} {ty:Nat→wD→wF→Prop} {fr:Nat→Bool} {i:Nat} {o:B3}
end
structure PAt (w:wD) (P L cap:Nat) (ts:List Tok) (k:Nat) (bad:Bool):Prop where
 p:∃m c,m+k=ts.length∧c+k=cap∧w.heap[P]?=Y (wq #[A (Y ⟨L,k*3,U⟩) m c,AJ bad] 119 (0,0))
 l:∃cs:Array wF,w.heap[L]?=Y (wq cs 122 (0,0))∧∀(j:Nat) (u:wF),(bQ ts)[j]?=Y u→cs[j]?=Y u
 k:k<ts.length
 n:ts.length≤16385
 c:ts.length≤cap
 m:cap≤maxLen
theorem PAt.lt{w:wD}{P L cap:Nat}{ts:List Tok}{k:Nat}{bad:Bool}(h:PAt w P L cap ts k bad):P<w.heap.size∧L<w.heap.size:=by
 obtain⟨m,c,_,_,a⟩:=h.p;obtain⟨cs,b,_⟩:=h.l;exact⟨(EN.1 a).1,(EN.1 b).1⟩
theorem PAt.ne{w:wD}{P L cap:Nat}{ts:List Tok}{k:Nat}{bad:Bool}(h:PAt w P L cap ts k bad):P≠L:=by
 obtain⟨m,c,_,_,a⟩:=h.p;obtain⟨cs,b,_⟩:=h.l;exact kA a b (by decide)
theorem PAt.C{w w':wD}{P L cap:Nat}{ts:List Tok}{k:Nat}{bad:Bool}(h:PAt w P L cap ts k bad)(a:w'.heap[P]?=w.heap[P]?)(b:w'.heap[L]?=w.heap[L]?):PAt w' P L cap ts k bad:=by
 obtain⟨m,c,d,e,f⟩:=h.p;obtain⟨cs,g,j⟩:=h.l;exact⟨⟨m,c,d,e,a.trans f⟩,⟨cs,b.trans g,j⟩,h.k,h.n,h.c,h.m⟩
theorem PAt.z{w w':wD}{P L cap:Nat}{ts:List Tok}{k:Nat}{bad:Bool}(h:PAt w P L cap ts k bad)(a:FK w w'):PAt w' P L cap ts k bad:=
 h.C (a.block P h.lt.1) (a.block L h.lt.2)
theorem PAt.drew{w:wD}{P L cap:Nat}{ts:List Tok}{k:Nat}{bad:Bool}(h:PAt w P L cap ts k bad):PAt w.drew P L cap ts k bad:=h.C V V
theorem tX:∀(ts:List Tok) (k:Nat) (t:Tok),ts[k]?=Y t→∀j u,(gh t)[j]?=Y u→(bQ ts)[k*3+j]?=Y u:=by
 intro ts
 induction ts with
 | nil=>intro k t h;simp at h
 | cons x r a =>
  intro k t h j u hu;have e:bQ (x::r)=gh x++bQ r:=by unfold bQ;rw[List.flatMap_cons]
  have b:(gh x).length=3:=rfl;have c:j<3:=(Fe.1 hu).1;rw[e]
  cases k with
  | zero =>
   simp at h;subst h;rw[FB (by omega),Nat.zero_mul,Nat.zero_add];exact hu
  | succ k =>
   rw[Ft (by omega),b];have:=a k t (by simpa using h) j u hu;rw[show (k+1)*3+j-3=k*3+j by omega];exact this
theorem PAt.tok{w:wD}{P L cap:Nat}{ts:List Tok}{k:Nat}{bad:Bool}{t:Tok}(h:PAt w P L cap ts k bad)(a:ts[k]?=Y t) :
  w.cell? ⟨L,k*3,U⟩=Y (I O t.1)∧w.cell? ⟨L,k*3+1,U⟩=Y (J t.2.1)∧w.cell? ⟨L,k*3+2,U⟩=Y (I Z t.2.2):=by
 obtain⟨cs,b,c⟩:=h.l;have e:∀j u,(gh t)[j]?=Y u→w.cell? ⟨L,k*3+j,U⟩=Y u:=fun j u hu=>by rw[FI _ _ _ _ _ _ b];exact c _ _ (tX ts k t a j u hu)
 exact⟨e 0 _ V,e 1 _ V,e 2 _ V⟩
theorem PAt.u{w:wD}{P L cap:Nat}{ts:List Tok}{k:Nat}{bad:Bool}(h:PAt w P L cap ts k bad) :
  ∃m c,m+k=ts.length∧c+k=cap∧w.cell? ⟨P,0,U⟩=Y (A (Y ⟨L,k*3,U⟩) m c)∧w.cell? ⟨P,1,U⟩=Y (AJ bad)∧w.frozen? ⟨P,0,U⟩=xj∧w.frozen? ⟨P,1,U⟩=false:=by
 obtain⟨m,c,b,d,a⟩:=h.p;exact⟨m,c,b,d,by simp[World.cell?,a],by simp[World.cell?,a],by simp[World.frozen?,a],by simp[World.frozen?,a]⟩
theorem pO{w:wD}{P L cap:Nat}{ts:List Tok}{k:Nat}{bad:Bool}{t:Tok}(h:PAt w P L cap ts k bad)(b:ts[k]?=Y t) :
  xL xD 55 #[xV (Y ⟨P,0,U⟩)] w fun e w'=>e=z8 (xS #[I O t.1,J t.2.1,I Z t.2.2])∧FK w w':=by
 obtain⟨m,c,d,f,r,s,_,_⟩:=h.u;obtain⟨t0,t1,t2⟩:=h.tok b;have hm:(0:Int)<m:=by have:=h.k;omega
 have g:0<m:=by omega
 have a:=h.lt;have j:=a.1;have n:=a.2;clear h b a d f;generalize k*3=o at *;generalize t.1=p at *;generalize t.2.1=tx at *;generalize t.2.2=q at *
 go_enter Tryz.func55,Tryz.ntmps55
 go_wp2
 exact bodyPost_ret (v:=xS #[I O p,J tx,I Z q]) (by simp[results,Tryz.results55,go_sem]) V ⟨V,(EP _ w).alloc (EO _) _⟩
def eG(n k:Nat) (bad:Bool):Nat:=if bad=xj∧k+1<n then k+1 else k
theorem jN{n k:Nat}{bad:Bool}(h:k<n):eG n k bad<n:=by unfold eG;split<;>omega
theorem qb{n k:Nat}{bad:Bool}:k≤eG n k bad:=by unfold eG;split<;>omega
theorem An{n k:Nat}:eG n k wP=k:=by unfold eG;rw[qv];rintro ⟨h,_⟩;cases h
theorem zX{n k:Nat}{bad:Bool}(h:¬k+1<n):eG n k bad=k:=by unfold eG;rw[qv];rintro ⟨_,a⟩;exact h a
theorem qf{n k:Nat}(h:k+1<n):eG n k xj=k+1:=by unfold eG;rw[rv ⟨V,h⟩]
def ax(w:wD) (P L cap:Nat) (ts:List Tok) (k:Nat) (bad:Bool) (w':wD):Prop:=w.grownBy w' (Y P)∧PAt w' P L cap ts k bad
theorem PAt.set{w w':wD}{P L cap:Nat}{ts:List Tok}{k k':Nat}{bad a:Bool}(h:PAt w P L cap ts k bad)(b:w'.heap[L]?=w.heap[L]?)(d:k'<ts.length)
  (e:∃m c,m+k'=ts.length∧c+k'=cap∧w'.heap[P]?=Y (wq #[A (Y ⟨L,k'*3,U⟩) m c,AJ a] 119 (0,0))):PAt w' P L cap ts k' a:=by
 obtain⟨cs,f,g⟩:=h.l;exact⟨e,⟨cs,b.trans f,g⟩,d,h.n,h.c,h.m⟩
theorem ki{w:wD}{P L cap:Nat}{ts:List Tok}{k:Nat}{bad:Bool}(h:PAt w P L cap ts k bad) :
  xL xD 160 #[xV (Y ⟨P,0,U⟩)] w fun e w'=>e=z8 (CA #[])∧ax w P L cap ts (eG ts.length k bad) bad w':=by
 obtain⟨m,c,d,f,B,M,f0,f1⟩:=h.u;have H:=Hd h;have g:c≤maxLen:=by have:=h.m;omega
 have C:m≤c:=by have:=h.c;omega
 unfold maxLen at g;have D:=h.lt.1
 cases bad with
 | true =>
  have b:=Hd (An (n:=ts.length) (k:=k));clear h d f
  go_enter Tryz.func160,Tryz.ntmps160
  go_wp2
  go_returns
  exact⟨V,r8 w _,by rw[b.o];exact H.o⟩
 | false =>
  by_cases a:k+1<ts.length
  ·obtain⟨b,j,q,r⟩:=zz4 (qf a) d f a;have s:(1:Int)<m:=by omega
   have t:1<m:=by omega
   have E:(1:Int)≤m:=by omega
   have F:¬(c=1):=by omega
   clear h d f a;obtain⟨o,u⟩:=zzy (k*3);rw[u]at B;have G:=Hd u;clear u
   go_enter Tryz.func160,Tryz.ntmps160
   go_wp2
   go_returns
   refine⟨V,gz (r8 w _) _ _,?_⟩;rw[b.o];obtain⟨y,z,N,x2,K⟩:=H.o.p;have v:y=m:=by have:=j.o;omega
   have x:z=c:=by have:=q.o;omega
   subst v x;refine H.o.set (ER w _ _ L (fun e=>H.o.ne e.symm)) r.o ⟨y-1,z-1,by omega,by omega,?_⟩;rw[heap_set K 0,show (k+1)*3=o+3 by have:=G.o;omega];rfl
  ·have b:=Hd (zX (bad:=xj) a);have s:decide ((1:Int)<m)=false:=by simp;omega
   have t:decide (1<m)=false:=by simp;omega
   clear h d f a
   go_enter Tryz.func160,Tryz.ntmps160
   go_wp2
   go_returns
   exact⟨V,r8 w _,by rw[b.o];exact H.o⟩
def isT(t:Tok) (texts:List ByteArray):Bool:=(t.1==6||t.1==1)&&texts.any (fun s=>!s.toList.isEmpty&&s.toList==t.2.1.toList)
def kO(w:wD) (B off:Nat) (texts:List ByteArray):Prop:=B<w.heap.size∧∀(i:Nat) (s:ByteArray),texts[i]?=Y s→w.cell? ⟨B,off+i,U⟩=Y (J s)
theorem BB{t:Tok}{texts:List ByteArray}{j:Nat}{s:ByteArray}(a:texts[j]?=Y s)(h:isT t (texts.take j)=xj) :
  isT t (texts.take (j+1))=((t.1==6||t.1==1)&&(!s.toList.isEmpty&&s.toList==t.2.1.toList)):=by
 unfold isT at h ⊢;rw[Fz,a,List.any_append]
 cases b:(t.1==6||t.1==1)
 ·rfl
 ·rw[b]at h;simp only[Bool.true_and]at h ⊢;rw[h];simp
theorem DD{t:Tok}{texts:List ByteArray}{j:Nat}{s:ByteArray}(a:texts[j]?=Y s)(b:(t.1==6||t.1==1)=wP)(h:(!s.toList.isEmpty&&s.toList==t.2.1.toList)=wP):isT t texts=true:=by
 unfold isT;rw[b,Bool.true_and,List.any_eq_true];exact⟨s,Fj a,h⟩
theorem oM{w:wD}{P L cap:Nat}{ts:List Tok}{k:Nat}{bad:Bool}{t:Tok}(h:PAt w P L cap ts k bad)(ht:ts[k]?=Y t)(B off n c:Nat)(texts:List ByteArray)(hB:kO w B off texts)(hn:texts.length=n)(ak:n≤100) :
  xL xD 159 #[xV (Y ⟨P,0,U⟩),A (Y ⟨B,off,U⟩) n c] w fun e w'=>e=z8 (AJ (!bad&&isT t texts))∧FK w w':=by
 obtain⟨HC,HB,W,H,z,q⟩:=zz6 (pO h ht) hB hn h (fun (j:Nat) (s:ByteArray)=>@BB t texts j s) (fun (j:Nat) (s:ByteArray)=>@DD t texts j s);clear h ht hB hn;obtain⟨f,r⟩:∃f:List ByteArray→Bool,f=isT t:=⟨_,rfl⟩;have H0:Hid (f (texts.take 0)=xj):=by show _=_;rw[r];unfold isT;simp
 rw[←r]at z q ⊢;clear r;obtain⟨d,tx,tp⟩:=t
 go_enter Tryz.func159,Tryz.ntmps159
 go_wp2_with fail
 refine EX HC.o ?_;rintro e w1 ⟨rfl,G⟩;go_wp2_with fail
 obtain⟨X,C⟩:=zzx ((w1.alloc (wq #[I O d,J tx,I Z tp] 122)));have K:FK w X:=by rw[C];exact G.alloc G.size _
 have x:=p9 w1 (wq #[I O d,J tx,I Z tp] 122);rw[←C]at x ⊢;obtain⟨HX,u⟩:=zz2 x K;clear C x K
 go_loop [12] (fun i=>∃j:Nat,j≤n∧i=I Z j∧f (texts.take j)=xj) (fun i=>n-(intOf i).toNat)
 case atStart=>exact⟨0,Fa _,V,H0.o⟩
 case round =>
  obtain⟨j,hj,rfl,M⟩:=hrel;have N:=Hd M;clear M
  by_cases Q:j<n
  ·obtain⟨s,R⟩:∃s,texts[j]?=Y s:=⟨texts[j]'(by rw[W.o];exact Q),ES (by rw[W.o];exact Q)⟩;have c0:=(u.o.cell (p:=⟨B,off+j,U⟩) HB.o.1).trans (HB.o.2 j s R);obtain⟨x0,x1,x2,_,_,_⟩:=cells3 HX.o;obtain⟨_,_,_,_,_,c1,_,_⟩:=(H.o.z u.o).u;obtain⟨HS,g,y⟩:=zz3 R (z.o j s R N.o) (q.o j s R);clear R z q;have no:∀b:Bool,f (texts.take (j+1))=b→b=xj→((∃j':Nat,j'≤n∧I Z ((j:Int)+1)=I Z j'∧f (texts.take j')=xj)∧n-(intOf (I Z ((j:Int)+1))).toNat<n-(intOf (I Z j)).toNat):=fun b hb ad =>⟨⟨j+1,by omega,by go_num,hb.trans ad⟩,by simp[intOf];omega⟩
   have D:=Hd no;clear no
   by_cases h1:s.toList=[]
   ·have T:=Hd h1;go_wp2_with fail
    exact D.o _ g.o (by rw[T.o];simp)
   ·by_cases h2:s.toList=tx.toList
    ·have h3:¬tx.toList=[]:=by rw[←h2];exact h1
     have h4:(!tx.toList.isEmpty)=true:=by cases hx:tx.toList with|nil=>exact absurd hx h3|cons _ _=>rfl
     have T:Hid ((!s.toList.isEmpty&&s.toList==tx.toList)=wP):=by show _=_;rw[h2];simp[h3]
     by_cases F:d=6
     ·have af:((d:Int)==6)=true:=by rw[F];rfl
      have a:=y.o (by show (d==6||d==1)=wP;rw[F];rfl) T.o;have HY:=Hd a;clear F a;go_wp2_with fail
      go_ret;exact⟨by rw[HY.o,Bool.and_true];rfl,u.o⟩
     ·have af:((d:Int)==6)=false:=by simp;omega
      by_cases v:d=1
      ·have S:((d:Int)==1)=true:=by rw[v];rfl
       have a:=y.o (by show (d==6||d==1)=wP;rw[v];rfl) T.o;have HY:=Hd a;clear F v a;go_wp2_with fail
       go_ret;exact⟨by rw[HY.o,Bool.and_true];rfl,u.o⟩
      ·have S:((d:Int)==1)=false:=by simp;omega
       have E:Hid (((d==6||d==1)&&(!s.toList.isEmpty&&s.toList==tx.toList))=xj):=by show _=_;simp[F,v]
       clear F v;go_wp2_with fail
       exact D.o _ g.o E.o
    ·have E:Hid (((d==6||d==1)&&(!s.toList.isEmpty&&s.toList==tx.toList))=xj):=by show _=_;simp[h2]
     go_wp2_with fail
     exact D.o _ g.o E.o
  ·obtain rfl:j=n:=by omega
   have e:texts.take j=texts:=by rw[←W.o];exact List.take_length
   have HF:Hid (f texts=xj):=by show _=_;rw[←e];exact N.o
   clear e;go_wp2_with fail
   go_ret;exact⟨by rw[HF.o,Bool.and_false];rfl,u.o⟩
theorem ax.b{w w1 b:wD}{P L cap:Nat}{ts:List Tok}{k c:Nat}{bad a:Bool}(h:ax w P L cap ts k bad w1)(d:ax w1 P L cap ts c a b):ax w P L cap ts c a b:=
 ⟨sn h.1 d.1,d.2⟩
theorem ax.f{w w1 a:wD}{P L cap:Nat}{ts:List Tok}{k:Nat}{bad:Bool}(h:ax w P L cap ts k bad w1)(b:FK w1 a):ax w P L cap ts k bad a:=
 ⟨grown_below h.1 b,h.2.z b⟩
theorem ax.z{w w1:wD}{P L cap:Nat}{ts:List Tok}{k:Nat}{bad:Bool}(h:ax w.drew P L cap ts k bad w1):ax w P L cap ts k bad w1:=
 ⟨sn (grown_drewN (r8 w _) 1) h.1,h.2⟩
theorem PAt.b{w w1:wD}{P L cap:Nat}{ts:List Tok}{k:Nat}{bad:Bool}(h:PAt w P L cap ts k bad)(a:FK w w1):ax w P L cap ts k bad w1:=
 ⟨aP a _,h.z a⟩
def jZ(ts:List Tok) (k:Nat) (bad:Bool) (t:Tok) (texts:List ByteArray):Nat:=if (!bad&&isT t texts)=wP then eG ts.length k bad else k
theorem sL{w:wD}{P L cap:Nat}{ts:List Tok}{k:Nat}{bad:Bool}{t:Tok}(h:PAt w P L cap ts k bad)(j:ts[k]?=Y t)(B off n c:Nat)(texts:List ByteArray)(hB:kO w B off texts)(p:texts.length=n)(f:n≤100) :
  xL xD 88 #[xV (Y ⟨P,0,U⟩),A (Y ⟨B,off,U⟩) n c] w fun e w'=>e=z8 (AJ (!bad&&isT t texts))∧ax w P L cap ts (jZ ts k bad t texts) bad w':=by
 obtain⟨q,H⟩:=zz2 (oM h j B off n c texts hB p f) h;unfold jZ;clear h j hB p;generalize (!bad&&isT t texts)=b at *
 go_enter Tryz.func88,Tryz.ntmps88
 go_wp2_with fail
 refine EX q.o ?_;rintro e w1 ⟨rfl,a⟩
 cases b with
 | false =>
  have g:=Hd a;clear a;go_wp2_with fail
  go_ret;exact⟨V,H.o.b g.o⟩
 | true =>
  obtain⟨g,r⟩:=zz2 a (ki (H.o.z a));clear a;go_wp2_with fail
  refine EX r.o ?_;rintro e u ⟨rfl,d⟩;have s:=Hd d;clear d;go_wp2_with fail
  go_ret;exact⟨V,(H.o.b g.o).b s.o⟩
def oO(ts:List Tok) (k:Nat) (bad:Bool) (t:Tok) (x:ByteArray):Nat:=jZ ts k bad t [x]
def qJ(bad:Bool) (t:Tok) (x:ByteArray):Bool:=!(!bad&&isT t [x])
theorem bT{w:wD}(l:List ByteArray):kO (w.alloc (wq (l.map J).toArray 9)) w.heap.size 0 l:=
 ⟨by simp,fun i s a=>by
  have b:(w.alloc (wq (l.map J).toArray 9)).heap[w.heap.size]?=Y (wq (l.map J).toArray 9 (0,0)):=p9 w _
  rw[FI _ _ _ _ _ _ b];simp[a]⟩
theorem PAt.setBad{w:wD}{P L cap:Nat}{ts:List Tok}{k:Nat}{bad:Bool}(h:PAt w P L cap ts k bad)(b:Bool):ax w P L cap ts k b (w.setCell ⟨P,1,U⟩ (AJ b)):=by
 refine⟨gz (r8 w _) _ _,?_⟩;obtain⟨m,c,a,d,f⟩:=h.p;refine h.set (ER w _ _ L (fun e=>h.ne e.symm)) h.k ⟨m,c,a,d,?_⟩;rw[heap_set f 1];rfl
theorem zd{w:wD}{P L cap:Nat}{ts:List Tok}{k:Nat}{bad:Bool}{t:Tok}(h:PAt w P L cap ts k bad)(n:ts[k]?=Y t)(x:ByteArray) :
  xL xD 92 #[xV (Y ⟨P,0,U⟩),J x] w fun e w'=>e=z8 (CA #[])∧ax w P L cap ts (oO ts k bad t x) (qJ bad t x) w':=by
 have a:FK w (w.alloc (wq #[J x] 9)):=(EP _ w).alloc (EO _) _;obtain⟨p,H⟩:=zz2 (sL (h.z a) n w.heap.size 0 1 1 [x] (bT [x]) V (by omega)) (h.b a);unfold oO qJ;clear h n a;generalize jZ ts k bad t [x]=k' at *;obtain⟨b,g⟩:=zzy ((!bad&&isT t [x]));rw[g]at p ⊢;have j:=Hd g;clear g
 go_enter Tryz.func92,Tryz.ntmps92
 go_wp2_with fail
 refine EX p.o ?_;rintro e w1 ⟨rfl,c⟩;have f:=Hd (H.o.b c);clear c
 cases b with
 | true =>
  go_wp2_with fail
  go_returns
  have d:bad=false:=by have:=j.o;cases bad<;>simp at this ⊢
  have e:ax w P L cap ts k' xj w1:=by rw[←d];exact f.o
  exact⟨V,e⟩
 | false =>
  obtain⟨_,_,_,_,_,q,f0,f1⟩:=f.o.2.u;go_wp2_with fail
  go_returns
  exact⟨V,f.o.b (f.o.2.setBad wP)⟩
theorem bF{w w':wD}{P i:Nat}{o:Obj}(b:w.grownBy w' (Y P))(h:w.heap[i]?=Y o)(a:P≠i):w'.heap[i]?=Y o:=aV b h (by rintro e;injection e with e;exact a e.symm)
theorem ax.y{w W:wD}{P L cap:Nat}{ts:List Tok}{k:Nat}{bad:Bool}(h:ax w P L cap ts k bad W)(c:P<w.heap.size)(d:L<w.heap.size){b:Nat}(a:w.heap.size≤b)(i:Nat)(v:wF):ax w P L cap ts k bad (W.setCell ⟨b,i,U⟩ v):=
 ⟨dL h.1 a _ _,h.2.C (ER W _ _ P (by show P≠b;omega)) (ER W _ _ L (by show L≠b;omega))⟩
theorem ax.u{w W:wD}{P L cap:Nat}{ts:List Tok}{k:Nat}{bad:Bool}(h:ax w P L cap ts k bad W)(o:Obj):ax w P L cap ts k bad (W.alloc o):=h.f ((EP _ W).alloc (EO _) _)
theorem ax.h{w W W':wD}{P L cap:Nat}{ts:List Tok}{k:Nat}{bad:Bool}(h:ax W P L cap ts k bad W'){b:Nat}{o:Obj}(a:W.heap[b]?=Y o)(c:P<w.heap.size)(d:w.heap.size≤b):W'.heap[b]?=Y o:=bF h.1 a (by omega)
def bO:Array Value:=#[I O 0,J ⟨#[]⟩,I Z 0,I Z 0,A U 0 0]
theorem aZ{W:wD}{b:Nat}{a c c2 d c4:wF}{t:TypeId}(h:W.heap[b]?=Y (wq #[a,c,c2,d,c4] t (0,0)))(v0 v1 v2 v3 v4:wF) :
  (((((W.setCell ⟨b,0,U⟩ v0).setCell ⟨b,1,U⟩ v1).setCell ⟨b,2,U⟩ v2).setCell ⟨b,3,U⟩ v3).setCell ⟨b,4,U⟩ v4).heap[b]?=Y (wq #[v0,v1,v2,v3,v4] t (0,0)):=by
 rw[heap_set (heap_set (heap_set (heap_set (heap_set h 0 v0) 1 v1) 2 v2) 3 v3) 4 v4];rfl
theorem bw{fn:Func}{R:Ending→wD→Prop}{a:Act}{W:wD}{slot T:Nat}{v0 v1 v2 v3 v4:wF}(c:fn.results=#[.cell slot 25])(d:a.tmps.getD slot undef=xV (Y ⟨T,0,U⟩))
  (e:W.heap[T]?=Y (wq #[v0,v1,v2,v3,v4] 25 (0,0))) (f:a.defers=[]) (g:R (z8 (xS #[v0,v1,v2,v3,v4])) W):bodyPost xD fn R .ret a W:=by
 obtain⟨h,j,c2,k,c4⟩:=cells5 e;have b:a.tmps[slot]?.getD undef=xV (Y ⟨T,0,U⟩):=by simpa using d
 refine bodyPost_ret (v:=xS #[v0,v1,v2,v3,v4]) ?_ f g;simp[results,c,go_sem,b,h,j,c2,k,c4]
theorem xq{w:wD}{P L cap:Nat}{ts:List Tok}{k:Nat}{bad:Bool}{t:Tok}(h:PAt w P L cap ts k bad)(ht:ts[k]?=Y t)(tok kind:Nat) :
  xL xD 161 #[xV (Y ⟨P,0,U⟩),I O tok,I O kind] w fun e w'=>e=z8 (xS #[I O kind,J t.2.1,I Z 0,I Z t.2.2,A U 0 0])∧
   ax w P L cap ts (eG ts.length k (bad||t.1 != tok)) (bad||t.1 != tok) w':=by
 obtain⟨d,tx,z⟩:=t;obtain⟨b,N⟩:=zzy ((bad||d != tok))
 show xL _ _ _ _ fun e w'=>e=_∧ax w P L cap ts (eG ts.length k (bad||d != tok)) (bad||d != tok) w'
 rw[N];have B:=Hd N;clear N;have n:FK w (w.alloc (wq #[I O 0,J ⟨#[]⟩,I Z 0,I Z 0,A U 0 0] 25)):=(EP _ w).alloc (EO _) _;obtain⟨HC,H⟩:=zz2 (pO (h.z n) ht) (h.b n);have f:=h.lt.1;have C:=Hd (h.lt.2);clear h ht n
 go_enter Tryz.func161,Tryz.ntmps161
 go_wp2_with fail
 refine EX HC.o ?_;rintro e w1 ⟨rfl,p⟩;have y:=Hd (H.o.f p);have D:=aa p (p9 w (wq #[I O 0,J ⟨#[]⟩,I Z 0,I Z 0,A U 0 0] 25)) (by simp);have q:FK w1 (w1.alloc (wq #[I O d,J tx,I Z z] 122)):=(EP _ w1).alloc (EO _) _;obtain⟨Q,E,R⟩:=zz3 (p9 w1 (wq #[I O d,J tx,I Z z] 122)) (y.o.f q) (aa q D (EN.1 D).1);obtain⟨_,_,_,_,c0,c1,f0,f1⟩:=y.o.2.u;have al:=y.o.2.lt.1;have F:w.heap.size<w1.heap.size:=(EN.1 D).1;have S:=Hd D;clear D q p;have fin:∀(W:wD) (b:Bool),ax w P L cap ts (eG ts.length k b) b W→∀v0 v1 v2 v3 v4,ax w P L cap ts (eG ts.length k b) b (((((W.setCell ⟨w.heap.size,0,U⟩ v0).setCell ⟨w.heap.size,1,U⟩ v1).setCell ⟨w.heap.size,2,U⟩ v2).setCell ⟨w.heap.size,3,U⟩ v3).setCell ⟨w.heap.size,4,U⟩ v4):=fun W b h v0 v1 v2 v3 v4 =>((((h.y f C.o (EO _) 0 v0).y f C.o (EO _) 1 v1).y f C.o (EO _) 2 v2).y f C.o (EO _) 3 v3).y f C.o (EO _) 4 v4
 have g:=Hd fin;clear fin
 by_cases M:d=tok
 ·have T:((d:Int) != tok)=false:=by simp;omega
  obtain rfl:bad=b:=by rw[←B.o,M];simp
  have X:=Hd (ki E.o.2);clear M;go_wp2_with fail
  refine EX X.o ?_;rintro e w2 ⟨rfl,a⟩;have c:=a.h R.o f (EO _);have G:=a.h Q.o f (Fu F);obtain⟨r,s⟩:=zz2 (E.o.b a) c;obtain⟨a0,a1,a2,a3,a4⟩:=cells5 c;have z0:=ac c 0;have z1:=ac c 1;have z2:=ac c 2;have z3:=ac c 3;have z4:=ac c 4;obtain⟨b0,b1,b2,_,_,_⟩:=cells3 G;clear a c G;go_wp2_with fail
  exact bw Tryz.results161 V (aZ s.o _ _ _ _ _) V ⟨V,g.o _ _ r.o _ _ _ _ _⟩
 ·have T:((d:Int) != tok)=true:=by simp;omega
  obtain rfl:b=true:=by rw[←B.o];simp[M]
  have u:=(y.o.b (y.o.2.setBad wP)).u (wq #[I O d,J tx,I Z z] 122);have v:=(y.o.2.setBad wP).h S.o f (EO _);have j:=(FH _ (wq #[I O d,J tx,I Z z] 122) _ (EN.1 v).1).trans v;have x:=p9 (w1.setCell ⟨P,1,U⟩ (AJ wP)) (wq #[I O d,J tx,I Z z] 122);have K:(w1.setCell ⟨P,1,U⟩ (AJ wP)).heap.size=w1.heap.size:=by simp[World.setCell]
  rw[K]at x;obtain⟨X,ad,af,ak⟩:=zz4 (ki u.2) u j x;clear M u v j x K;go_wp2_with fail
  refine EX X.o ?_;rintro e w2 ⟨rfl,a⟩;have c:=a.h af.o f (EO _);have G:=a.h ak.o f (Fu F);obtain⟨r,s⟩:=zz2 (ad.o.b a) c;obtain⟨a0,a1,a2,a3,a4⟩:=cells5 c;have z0:=ac c 0;have z1:=ac c 1;have z2:=ac c 2;have z3:=ac c 3;have z4:=ac c 4;obtain⟨b0,b1,b2,_,_,_⟩:=cells3 G;clear a c G;go_wp2_with fail
  exact bw Tryz.results161 V (aZ s.o _ _ _ _ _) V ⟨V,g.o _ _ r.o _ _ _ _ _⟩
def jt(w:wD) (a:wF) (F:Nat→Prop):Prop:=a=A U 0 0∨∃(g cap:Nat) (cs:Array wF),F g∧cap≤maxLen∧a=A (Y ⟨g,0,U⟩) 0 cap∧w.heap[g]?=Y (wq cs 25 (0,0))∧cs.size=cap*5
theorem jt.any{w:wD}{a:wF}{F:Nat→Prop}(h:jt w a F):∃sp cap,a=A sp 0 cap:=by
 rcases h with h|⟨g,cap,_,_,_,h,_⟩
 ·exact⟨U,0,h⟩
 ·exact⟨_,cap,h⟩
theorem jt.C{w w':wD}{a:wF}{F:Nat→Prop}(d:∀b o,F b→w.heap[b]?=Y o→w'.heap[b]?=Y o)(h:jt w a F):jt w' a F:=by
 rcases h with h|⟨g,cap,cs,c,e,f,j,k⟩
 ·exact z6 h
 ·exact z7 ⟨g,cap,cs,c,e,f,d g _ c j,k⟩
theorem jt.N{w:wD}{a:wF}{F G:Nat→Prop}(h:jt w a F)(c:∀b,F b→G b):jt w a G:=by
 rcases h with h|⟨g,cap,cs,d,e⟩
 ·exact z6 h
 ·exact z7 ⟨g,cap,cs,c g d,e⟩
def OwnAt(w:wD):Nat→List ab→wF→(Nat→Prop)→Prop
 | 0,a,c,F=>a=[]∧jt w c F
 | d+1,a,c,F=>(a=[]∧jt w c F)∨
   ∃(g cap:Nat) (cs:Array wF) (e:Nat→Nat→Prop),a≠[]∧F g∧a.length≤cap∧cap≤maxLen∧c=A (Y ⟨g,0,U⟩) a.length cap∧w.heap[g]?=Y (wq cs 25 (0,0))∧cs.size=cap*5∧
    (∀i T,a[i]?=Y T→Fits T∧∃s,(∀m u,(ay T s)[m]?=Y u→cs[i*5+m]?=Y u)∧OwnAt w d T.u s (e i))∧
    (∀i b,e i b→F b∧b≠g)∧∀i j b,i≠j→e i b→¬e j b
theorem OwnAt.C{w w':wD}:∀{d:Nat} {c:List ab} {e:wF} {F:Nat→Prop},(∀b o,F b→w.heap[b]?=Y o→w'.heap[b]?=Y o)→OwnAt w d c e F→OwnAt w' d c e F:=by
 intro d
 induction d with
 | zero=>intro c e F a h;exact⟨h.1,h.2.C a⟩
 | succ d k =>
  rintro c e F a (h|⟨g,cap,cs,n,p,f,q,r,t,u,v,x,j,y⟩)
  ·exact z6 ⟨h.1,h.2.C a⟩
  ·refine z7 ⟨g,cap,cs,n,p,f,q,r,t,a g _ f u,v,fun i T z=>?_,j,y⟩;obtain⟨B,s,C,D⟩:=x i T z;exact⟨B,s,C,k (fun b o E=>a b o (j i b E).1) D⟩
theorem OwnAt.N{w:wD}{d:Nat}{c:List ab}{e:wF}{F G:Nat→Prop}(h:OwnAt w d c e F)(a:∀b,F b→G b):OwnAt w d c e G:=by
 cases d with
 | zero=>exact⟨h.1,h.2.N a⟩
 | succ d =>
  rcases h with h|⟨g,cap,cs,k,n,p,q,r,s,t,u,v,f,x⟩
  ·exact z6 ⟨h.1,h.2.N a⟩
  ·exact z7 ⟨g,cap,cs,k,n,a g p,q,r,s,t,u,v,fun i b j=>⟨a b (f i b j).1,(f i b j).2⟩,x⟩
theorem OwnAt.z{w w':wD}{B d:Nat}{a:List ab}{c:wF}{F:Nat→Prop}(h:OwnAt w d a c F)(hF:∀b,F b→b<B)(e:Below B w w'):OwnAt w' d a c F:=
 h.C fun b _ f g=>(e.block b (hF b f)).trans g
theorem OwnAt.u{w:wD}{B:Nat}:∀{d:Nat} {a:List ab} {c:wF} {F:Nat→Prop},OwnAt w d a c F→(∀b,F b→b<B)→ao w B d a c:=by
 intro d
 induction d with
 | zero=>intro a c F h _;exact⟨h.1,h.2.any⟩
 | succ d f =>
  rintro a c F (h|⟨g,cap,cs,E,j,k,n,p,q,r,G,t,v,H⟩) hF
  ·exact z6 ⟨h.1,h.2.any⟩
  ·refine z7 ⟨g,0,cap,j,hF g k,n,p,q,fun i T x=>?_⟩;obtain⟨y,s,z,C⟩:=t i T x;have e:∀m u,(ay T s)[m]?=Y u→w.cell? ⟨g,0+i*5+m,U⟩=Y u:=fun m u hu=>by
    rw[FI _ _ _ _ _ _ r,Nat.zero_add];exact z m u hu
   exact⟨y,s,e 0 _ V,e 1 _ V,e 2 _ V,e 3 _ V,e 4 _ V,f C fun b D=>hF b (v i b D).1⟩
theorem OwnAt.more{w:wD}:∀{d:Nat} {a:List ab} {b:wF} {F:Nat→Prop},OwnAt w d a b F→OwnAt w (d+1) a b F:=by
 intro d
 induction d with
 | zero=>rintro a b F h;exact z6 h
 | succ d c =>
  rintro a b F (h|⟨g,cap,cs,e,f,j,k,n,p,q,r,t,u,v⟩)
  ·exact z6 h
  ·refine z7 ⟨g,cap,cs,e,f,j,k,n,p,q,r,fun i T x=>?_,u,v⟩;obtain⟨y,s,z,B⟩:=t i T x;exact⟨y,s,z,c B⟩
theorem OwnAt.b{w:wD}{d:Nat}{a:List ab}{b:wF}{F:Nat→Prop}(h:OwnAt w d a b F):∃p cap,b=A p a.length cap:=by
 cases d with
 | zero=>obtain⟨rfl,h⟩:=h;exact h.any
 | succ d =>
  rcases h with ⟨rfl,h⟩|⟨g,cap,cs,e,f,j,k,n,c,_⟩
  ·exact h.any
  ·exact⟨_,cap,c⟩
theorem OwnAt.nil{w:wD}{d:Nat}{a:wF}{F:Nat→Prop}(h:OwnAt w d [] a F):jt w a F:=by
 cases d with
 | zero=>exact h.2
 | succ d =>
  rcases h with h|⟨g,cap,cs,c,b,_⟩
  ·exact h.2
  ·exact absurd V b
def bM(L B:Nat):Nat→Prop:=fun b=>L≤b∧b<B
def cD(W:wD) (L d:Nat) (c:List ab) (k:Nat) (own:Option Nat) (rows:List (List wF)) (a:Nat→Nat→Prop):Prop:=
 rows.length=k∧(∀r∈rows,r.length=5)∧(∀i T,i<k→c[i]?=Y T→Fits T∧∃s,rows[i]?=Y (ay T s)∧OwnAt W d T.u s (a i))∧
  (∀i b,a i b→L≤b∧b<W.heap.size∧own≠Y b)∧(∀i j b,i≠j→a i b→¬a j b)∧∀i b,a i b→i<k
theorem rJ{W:wD}{L n d:Nat}{c:List ab}{v:wF}{rows:List (List wF)}{t:Nat→Nat→Prop}(x:c.length=n)(j:W.ownsRow L 25 5 v n rows.flatten)(y:cD W L (d-1) c n v.ownBlock rows t)(z:d=0→c=[]) :
  OwnAt W d c v (bM L W.heap.size):=by
 subst x;obtain⟨Q,B,C,D,E,R⟩:=y;rcases j with ⟨S,⟨rfl,F⟩|⟨g,cap,cur,rfl,q,f,a⟩⟩
 ·have h:c=[]:=Fp F;subst h
  cases d with
  | zero=>exact⟨V,z6 V⟩
  | succ d=>exact z6 ⟨V,z6 V⟩
 ·cases d with
  | zero =>
   have h:=z V;subst h;obtain⟨r,c2,k,c4⟩:=a;exact⟨V,z7 ⟨g,cap,cur,⟨q,(EN.1 f).1⟩,c2,V,f,k⟩⟩
  | succ d =>
   by_cases h:c=[]
   ·subst h;obtain⟨r,c2,k,c4⟩:=a;exact z6 ⟨V,z7 ⟨g,cap,cur,⟨q,(EN.1 f).1⟩,c2,V,f,k⟩⟩
   ·obtain⟨r,c2,k,c4⟩:=a;refine z7 ⟨g,cap,cur,t,h,⟨q,(EN.1 f).1⟩,r,c2,V,f,k,fun i T w=>?_,fun i b G=>?_,E⟩
    ·have H:i<c.length:=(Fe.1 w).1;obtain⟨a1,s,a2,a3⟩:=C i T H w;refine⟨a1,s,fun m u hu=>?_,a3⟩;have p:=flat5 rows B i m _ u a2 hu;rw[←c4,List.getElem?_take]at p
     split at p
     ·simpa using p
     ·cases p
    ·obtain⟨K,M,N⟩:=D i b G;exact⟨⟨K,M⟩,fun e=>N (by rw[e];rfl)⟩
