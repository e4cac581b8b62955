/- Parts of one proof, joined; conditions stand in each theorem. -/
import Derived.Test.YtmpekinjoeibbaaGreatDoorMM
import Derived.Test.YtmpekinjoeibbaaGreatDoorMRI
import Derived.Test.YtmpekinjoeibbaaGreatDoorMC
import Derived.Test.YtmpekinjoeibbaaGreatDoorMD
import Derived.Test.YtmpekinjoeibbaaGreatDoorMT
import Derived.Handy
import Derived.Test.YtmpekinjoeibbaaGreatDoorMA
import Derived.Deep.AppendLies
open Go renaming Oper→wg,World→p7,Value→r3,Calls→r9
open Bool renaming false→r7,true→r5
open Option renaming some→A,none→V
open Go.Obj renaming cells→p8
open Go.Value renaming slice→O,bool→ur,int→I,string→p9,pointer→tv,agg→s3,tuple→wF
open Go.IntKind renaming u8→J,i64→Y
open Go.Proofs.Tryz renaming prog→r6
open Go.Ending renaming returned→tF
open Or renaming inl→tE,inr→tS
namespace Go.Proofs.YtmpekinjoeibbaaGreatDoor
open Go.RowKit
section
variable {P:Program} {l:List wg} {a0:Act} {w0:p7} {ty:Nat→p7→r3→Prop} {val:Nat→Option Bool} {fr:Nat→Bool} {m:Nat}
def aO(l:List wg):Nat→Nat→Nat→Bool
 | 0,_,_=>r7
 | f+1,j,i=>match l[j]? with
  | some o=>o.after.any fun e=>Region.binds .any e&&(decide (e.on=i)||aO l f e.on i)
  | none=>r7
def Closed(l:List wg) (listed:Array Bool):Prop:=∀(i:Nat) (o:wg),l[i]?=A o→listed.getD i r7=r5→∀e∈o.after,Region.binds .any e=r5→listed.getD e.on r7=r5
theorem dG{listed:Array Bool}(k:Closed l listed):∀(f j i:Nat) (o:wg),l[j]?=A o→(∀e∈o.after,Region.binds .any e=r5→listed.getD e.on r7=r5)→aO l f j i=r5→listed.getD i r7=true:=by
 intro f
 induction f with
 | zero=>intro j i o _ _ h;cases h
 | succ f n =>
  intro j i o p q h;unfold aO at h;rw[p]at h;obtain⟨e,he,c⟩:=Array.any_eq_true'.1 h;simp only[Fp,Bool.or_eq_true,oE]at c;have d:=q e he c.1;rcases c.2 with a|a
  ·rw[←a];exact d
  ·cases f with
   | zero=>cases a
   | succ f =>
    cases b:l[e.on]? with
    | none=>unfold aO at a;rw[b]at a;cases a
    | some g=>exact n e.on i g b (k e.on g b d) a
end
section
variable {l:List wg} {m:Nat} {a0:Act} {w0:p7} {ty:Nat→p7→r3→Prop} {fr:Nat→Bool} {i:Nat} {o:wg}
end
structure PAt (w:p7) (P L cap:Nat) (ts:List Tok) (k:Nat) (bad:Bool):Prop where
 p:∃m c,m+k=ts.length∧c+k=cap∧w.heap[P]?=A (p8 #[O (A ⟨L,k*3,V⟩) m c,ur bad] 86 (0,0))
 l:∃cs:Array r3,w.heap[L]?=A (p8 cs 89 (0,0))∧∀(j:Nat) (u:r3),(bK ts)[j]?=A u→cs[j]?=A u
 k:k<ts.length
 n:ts.length≤16385
 c:ts.length≤cap
 m:cap≤maxLen
theorem PAt.lt{w:p7}{P L cap:Nat}{ts:List Tok}{k:Nat}{bad:Bool}(h:PAt w P L cap ts k bad):P<w.heap.size∧L<w.heap.size:=by
 obtain⟨m,c,_,_,a⟩:=h.p;obtain⟨cs,b,_⟩:=h.l;exact⟨(ES.1 a).1,(ES.1 b).1⟩
theorem PAt.ne{w:p7}{P L cap:Nat}{ts:List Tok}{k:Nat}{bad:Bool}(h:PAt w P L cap ts k bad):P≠L:=by
 obtain⟨m,c,_,_,a⟩:=h.p;obtain⟨cs,b,_⟩:=h.l;exact iz a b (by decide)
theorem PAt.t{w w':p7}{P L cap:Nat}{ts:List Tok}{k:Nat}{bad:Bool}(h:PAt w P L cap ts k bad)(a:w'.heap[P]?=w.heap[P]?)(b:w'.heap[L]?=w.heap[L]?):PAt w' P L cap ts k bad:=by
 obtain⟨m,c,d,e,f⟩:=h.p;obtain⟨cs,g,j⟩:=h.l;exact⟨⟨m,c,d,e,a.trans f⟩,⟨cs,b.trans g,j⟩,h.k,h.n,h.c,h.m⟩
theorem PAt.C{w w':p7}{P L cap:Nat}{ts:List Tok}{k:Nat}{bad:Bool}(h:PAt w P L cap ts k bad)(a:FS w w'):PAt w' P L cap ts k bad:=
 h.t (a.block P h.lt.1) (a.block L h.lt.2)
theorem PAt.drew{w:p7}{P L cap:Nat}{ts:List Tok}{k:Nat}{bad:Bool}(h:PAt w P L cap ts k bad):PAt w.drew P L cap ts k bad:=h.t Z Z
theorem ud:∀(ts:List Tok) (k:Nat) (t:Tok),ts[k]?=A t→∀j u,(fO t)[j]?=A u→(bK ts)[k*3+j]?=A u:=by
 intro ts
 induction ts with
 | nil=>intro k t h;simp at h
 | cons x r a =>
  intro k t h j u hu;have e:bK (x::r)=fO x++bK r:=by unfold bK;rw[List.flatMap_cons]
  have b:(fO x).length=3:=rfl;have c:j<3:=(Fo.1 hu).1;rw[e]
  cases k with
  | zero =>
   simp at h;subst h;rw[FM (by omega),Nat.zero_mul,Nat.zero_add];exact hu
  | succ k =>
   rw[FA (by omega),b];have:=a k t (by simpa using h) j u hu;rw[show (k+1)*3+j-3=k*3+j by omega];exact this
theorem PAt.tok{w:p7}{P L cap:Nat}{ts:List Tok}{k:Nat}{bad:Bool}{t:Tok}(h:PAt w P L cap ts k bad)(a:ts[k]?=A t) :
  w.cell? ⟨L,k*3,V⟩=A (I J t.1)∧w.cell? ⟨L,k*3+1,V⟩=A (p9 t.2.1)∧w.cell? ⟨L,k*3+2,V⟩=A (I Y t.2.2):=by
 obtain⟨cs,b,c⟩:=h.l;have e:∀j u,(fO t)[j]?=A u→w.cell? ⟨L,k*3+j,V⟩=A u:=fun j u hu=>by rw[FR _ _ _ _ _ _ b];exact c _ _ (ud ts k t a j u hu)
 exact⟨e 0 _ Z,e 1 _ Z,e 2 _ Z⟩
theorem PAt.h{w:p7}{P L cap:Nat}{ts:List Tok}{k:Nat}{bad:Bool}(h:PAt w P L cap ts k bad) :
  ∃m c,m+k=ts.length∧c+k=cap∧w.cell? ⟨P,0,V⟩=A (O (A ⟨L,k*3,V⟩) m c)∧w.cell? ⟨P,1,V⟩=A (ur bad)∧w.frozen? ⟨P,0,V⟩=r7∧w.frozen? ⟨P,1,V⟩=false:=by
 obtain⟨m,c,b,d,a⟩:=h.p;exact⟨m,c,b,d,by simp[World.cell?,a],by simp[World.cell?,a],by simp[World.frozen?,a],by simp[World.frozen?,a]⟩
theorem pi{w:p7}{P L cap:Nat}{ts:List Tok}{k:Nat}{bad:Bool}{t:Tok}(h:PAt w P L cap ts k bad)(b:ts[k]?=A t) :
  r9 r6 19 #[tv (A ⟨P,0,V⟩)] w fun e w'=>e=tF (s3 #[I J t.1,p9 t.2.1,I Y t.2.2])∧FS w w':=by
 obtain⟨m,c,d,f,c0,c1,_,_⟩:=h.h;obtain⟨t0,t1,t2⟩:=h.tok b;have hm:(0:Int)<m:=by have:=h.k;omega
 have g:0<m:=by omega
 have a:=h.lt;have j:=a.1;have n:=a.2;clear h b a d f;generalize k*3=o at *;generalize t.1=p at *;generalize t.2.1=tx at *;generalize t.2.2=q at *
 go_enter Tryz.func19,Tryz.ntmps19
 go_wp2
 exact bodyPost_ret (v:=s3 #[I J p,p9 tx,I Y q]) (by simp[results,Tryz.results19,go_sem]) Z ⟨Z,(EU _ w).alloc (ET _) _⟩
def eC(n k:Nat) (bad:Bool):Nat:=if bad=r7∧k+1<n then k+1 else k
theorem jE{n k:Nat}{bad:Bool}(h:k<n):eC n k bad<n:=by unfold eC;split<;>omega
theorem pF{n k:Nat}{bad:Bool}:k≤eC n k bad:=by unfold eC;split<;>omega
theorem Ar{n k:Nat}:eC n k r5=k:=by unfold eC;rw[ox];rintro ⟨h,_⟩;cases h
theorem Af{n k:Nat}{bad:Bool}(h:¬k+1<n):eC n k bad=k:=by unfold eC;rw[ox];rintro ⟨_,a⟩;exact h a
theorem pJ{n k:Nat}(h:k+1<n):eC n k r7=k+1:=by unfold eC;rw[oA ⟨Z,h⟩]
def ax(w:p7) (P L cap:Nat) (ts:List Tok) (k:Nat) (bad:Bool) (w':p7):Prop:=w.grownBy w' (A P)∧PAt w' P L cap ts k bad
theorem PAt.set{w w':p7}{P L cap:Nat}{ts:List Tok}{k b:Nat}{bad a:Bool}(h:PAt w P L cap ts k bad)(d:w'.heap[L]?=w.heap[L]?)(e:b<ts.length)
  (f:∃m c,m+b=ts.length∧c+b=cap∧w'.heap[P]?=A (p8 #[O (A ⟨L,b*3,V⟩) m c,ur a] 86 (0,0))):PAt w' P L cap ts b a:=by
 obtain⟨cs,g,j⟩:=h.l;exact⟨f,⟨cs,d.trans g,j⟩,e,h.n,h.c,h.m⟩
theorem jZ{w:p7}{P L cap:Nat}{ts:List Tok}{k:Nat}{bad:Bool}(h:PAt w P L cap ts k bad) :
  r9 r6 97 #[tv (A ⟨P,0,V⟩)] w fun e w'=>e=tF (wF #[])∧ax w P L cap ts (eC ts.length k bad) bad w':=by
 obtain⟨m,c,d,f,c0,c1,f0,f1⟩:=h.h;have H:=Hd h;have g:c≤maxLen:=by have:=h.m;omega
 have B:m≤c:=by have:=h.c;omega
 unfold maxLen at g;have C:=h.lt.1
 cases bad with
 | true =>
  have b:=Hd (Ar (n:=ts.length) (k:=k));clear h d f
  go_enter Tryz.func97,Tryz.ntmps97
  go_wp2
  go_returns
  exact⟨Z,oT w _,by rw[b.o];exact H.o⟩
 | false =>
  by_cases a:k+1<ts.length
  ·obtain⟨b,j,q,r⟩:=zz4 (pJ a) d f a;have s:(1:Int)<m:=by omega
   have t:1<m:=by omega
   have D:(1:Int)≤m:=by omega
   have E:¬(c=1):=by omega
   clear h d f a;obtain⟨o,u⟩:=zzy (k*3);rw[u]at c0;have F:=Hd u;clear u
   go_enter Tryz.func97,Tryz.ntmps97
   go_wp2
   go_returns
   refine⟨Z,gj (oT w _) _ _,?_⟩;rw[b.o];obtain⟨y,z,K,x2,G⟩:=H.o.p;have v:y=m:=by have:=j.o;omega
   have x:z=c:=by have:=q.o;omega
   subst v x;refine H.o.set (EW w _ _ L (fun e=>H.o.ne e.symm)) r.o ⟨y-1,z-1,by omega,by omega,?_⟩;rw[heap_set G 0,show (k+1)*3=o+3 by have:=F.o;omega];rfl
  ·have b:=Hd (Af (bad:=r7) a);have s:decide ((1:Int)<m)=false:=by simp;omega
   have t:decide (1<m)=false:=by simp;omega
   clear h d f a
   go_enter Tryz.func97,Tryz.ntmps97
   go_wp2
   go_returns
   exact⟨Z,oT w _,by rw[b.o];exact H.o⟩
def isT(t:Tok) (texts:List ByteArray):Bool:=(t.1==6||t.1==1)&&texts.any (fun s=>!s.toList.isEmpty&&s.toList==t.2.1.toList)
def kt(w:p7) (B off:Nat) (texts:List ByteArray):Prop:=B<w.heap.size∧∀(i:Nat) (s:ByteArray),texts[i]?=A s→w.cell? ⟨B,off+i,V⟩=A (p9 s)
theorem BK{t:Tok}{texts:List ByteArray}{j:Nat}{s:ByteArray}(a:texts[j]?=A s)(h:isT t (texts.take j)=r7) :
  isT t (texts.take (j+1))=((t.1==6||t.1==1)&&(!s.toList.isEmpty&&s.toList==t.2.1.toList)):=by
 unfold isT at h ⊢;rw[FI,a,List.any_append]
 cases b:(t.1==6||t.1==1)
 ·rfl
 ·rw[b]at h;simp only[Bool.true_and]at h ⊢;rw[h];simp
theorem DC{t:Tok}{texts:List ByteArray}{j:Nat}{s:ByteArray}(a:texts[j]?=A s)(b:(t.1==6||t.1==1)=r5)(h:(!s.toList.isEmpty&&s.toList==t.2.1.toList)=r5):isT t texts=true:=by
 unfold isT;rw[b,Bool.true_and,List.any_eq_true];exact⟨s,Fv a,h⟩
theorem nX{w:p7}{P L cap:Nat}{ts:List Tok}{k:Nat}{bad:Bool}{t:Tok}(h:PAt w P L cap ts k bad)(ht:ts[k]?=A t)(B off n c:Nat)(texts:List ByteArray)(hB:kt w B off texts)(hn:texts.length=n)(af:n≤100) :
  r9 r6 96 #[tv (A ⟨P,0,V⟩),O (A ⟨B,off,V⟩) n c] w fun e w'=>e=tF (ur (!bad&&isT t texts))∧FS w w':=by
 obtain⟨HC,HB,U,H,z,q⟩:=zz6 (pi h ht) hB hn h (fun (j:Nat) (s:ByteArray)=>@BK t texts j s) (fun (j:Nat) (s:ByteArray)=>@DC t texts j s);clear h ht hB hn;obtain⟨f,r⟩:∃f:List ByteArray→Bool,f=isT t:=⟨_,rfl⟩;have H0:Hid (f (texts.take 0)=r7):=by show _=_;rw[r];unfold isT;simp
 rw[←r]at z q ⊢;clear r;obtain⟨d,tx,tp⟩:=t
 go_enter Tryz.func96,Tryz.ntmps96
 go_wp2_with fail
 refine Ff HC.o ?_;rintro e w1 ⟨rfl,G⟩;go_wp2_with fail
 obtain⟨W0,C⟩:=zzx ((w1.alloc (p8 #[I J d,p9 tx,I Y tp] 89)));have K:FS w W0:=by rw[C];exact G.alloc G.size _
 have x:=ot w1 (p8 #[I J d,p9 tx,I Y tp] 89);rw[←C]at x ⊢;obtain⟨HX,u⟩:=zz2 x K;clear C x K
 go_loop [12] (fun i=>∃j:Nat,j≤n∧i=I Y j∧f (texts.take j)=r7) (fun i=>n-(intOf i).toNat)
 case atStart=>exact⟨0,Fi _,Z,H0.o⟩
 case round =>
  obtain⟨j,hj,rfl,M⟩:=hrel;have N:=Hd M;clear M
  by_cases Q:j<n
  ·obtain⟨s,R⟩:∃s,texts[j]?=A s:=⟨texts[j]'(by rw[U.o];exact Q),EX (by rw[U.o];exact Q)⟩;have c0:=(u.o.cell (p:=⟨B,off+j,V⟩) HB.o.1).trans (HB.o.2 j s R);obtain⟨x0,x1,x2,_,_,_⟩:=cells3 HX.o;obtain⟨_,_,_,_,_,c1,_,_⟩:=(H.o.C u.o).h;obtain⟨HS,g,y⟩:=zz3 R (z.o j s R N.o) (q.o j s R);clear R z q;have no:∀b:Bool,f (texts.take (j+1))=b→b=r7→((∃W:Nat,W≤n∧I Y ((j:Int)+1)=I Y W∧f (texts.take W)=r7)∧n-(intOf (I Y ((j:Int)+1))).toNat<n-(intOf (I Y j)).toNat):=fun b hb X =>⟨⟨j+1,by omega,by go_num,hb.trans X⟩,by simp[intOf];omega⟩
   have D:=Hd no;clear no
   by_cases h1:s.toList=[]
   ·have T:=Hd h1;go_wp2_with fail
    exact D.o _ g.o (by rw[T.o];simp)
   ·by_cases h2:s.toList=tx.toList
    ·have h3:¬tx.toList=[]:=by rw[←h2];exact h1
     have h4:(!tx.toList.isEmpty)=true:=by cases hx:tx.toList with|nil=>exact absurd hx h3|cons _ _=>rfl
     have T:Hid ((!s.toList.isEmpty&&s.toList==tx.toList)=r5):=by show _=_;rw[h2];simp[h3]
     by_cases F:d=6
     ·have ad:((d:Int)==6)=true:=by rw[F];rfl
      have a:=y.o (by show (d==6||d==1)=r5;rw[F];rfl) T.o;have HY:=Hd a;clear F a;go_wp2_with fail
      go_ret;exact⟨by rw[HY.o,Bool.and_true];rfl,u.o⟩
     ·have ad:((d:Int)==6)=false:=by simp;omega
      by_cases v:d=1
      ·have S:((d:Int)==1)=true:=by rw[v];rfl
       have a:=y.o (by show (d==6||d==1)=r5;rw[v];rfl) T.o;have HY:=Hd a;clear F v a;go_wp2_with fail
       go_ret;exact⟨by rw[HY.o,Bool.and_true];rfl,u.o⟩
      ·have S:((d:Int)==1)=false:=by simp;omega
       have E:Hid (((d==6||d==1)&&(!s.toList.isEmpty&&s.toList==tx.toList))=r7):=by show _=_;simp[F,v]
       clear F v;go_wp2_with fail
       exact D.o _ g.o E.o
    ·have E:Hid (((d==6||d==1)&&(!s.toList.isEmpty&&s.toList==tx.toList))=r7):=by show _=_;simp[h2]
     go_wp2_with fail
     exact D.o _ g.o E.o
  ·obtain rfl:j=n:=by omega
   have e:texts.take j=texts:=by rw[←U.o];exact List.take_length
   have HF:Hid (f texts=r7):=by show _=_;rw[←e];exact N.o
   clear e;go_wp2_with fail
   go_ret;exact⟨by rw[HF.o,Bool.and_false];rfl,u.o⟩
theorem ax.h{w w1 b:p7}{P L cap:Nat}{ts:List Tok}{k c:Nat}{bad a:Bool}(h:ax w P L cap ts k bad w1)(d:ax w1 P L cap ts c a b):ax w P L cap ts c a b:=
 ⟨o1 h.1 d.1,d.2⟩
theorem ax.b{w w1 a:p7}{P L cap:Nat}{ts:List Tok}{k:Nat}{bad:Bool}(h:ax w P L cap ts k bad w1)(b:FS w1 a):ax w P L cap ts k bad a:=
 ⟨grown_below h.1 b,h.2.C b⟩
theorem ax.u{w w1:p7}{P L cap:Nat}{ts:List Tok}{k:Nat}{bad:Bool}(h:ax w.drew P L cap ts k bad w1):ax w P L cap ts k bad w1:=
 ⟨o1 (grown_drewN (oT w _) 1) h.1,h.2⟩
theorem PAt.b{w w1:p7}{P L cap:Nat}{ts:List Tok}{k:Nat}{bad:Bool}(h:PAt w P L cap ts k bad)(a:FS w w1):ax w P L cap ts k bad w1:=
 ⟨aL a _,h.C a⟩
def jP(ts:List Tok) (k:Nat) (bad:Bool) (t:Tok) (texts:List ByteArray):Nat:=if (!bad&&isT t texts)=r5 then eC ts.length k bad else k
theorem sj{w:p7}{P L cap:Nat}{ts:List Tok}{k:Nat}{bad:Bool}{t:Tok}(h:PAt w P L cap ts k bad)(j:ts[k]?=A t)(B off n c:Nat)(texts:List ByteArray)(hB:kt w B off texts)(p:texts.length=n)(f:n≤100) :
  r9 r6 40 #[tv (A ⟨P,0,V⟩),O (A ⟨B,off,V⟩) n c] w fun e w'=>e=tF (ur (!bad&&isT t texts))∧ax w P L cap ts (jP ts k bad t texts) bad w':=by
 obtain⟨q,H⟩:=zz2 (nX h j B off n c texts hB p f) h;unfold jP;clear h j hB p;generalize (!bad&&isT t texts)=b at *
 go_enter Tryz.func40,Tryz.ntmps40
 go_wp2_with fail
 refine Ff q.o ?_;rintro e w1 ⟨rfl,a⟩
 cases b with
 | false =>
  have g:=Hd a;clear a;go_wp2_with fail
  go_ret;exact⟨Z,H.o.b g.o⟩
 | true =>
  obtain⟨g,r⟩:=zz2 a (jZ (H.o.C a));clear a;go_wp2_with fail
  refine Ff r.o ?_;rintro e u ⟨rfl,d⟩;have s:=Hd d;clear d;go_wp2_with fail
  go_ret;exact⟨Z,(H.o.b g.o).h s.o⟩
def ob(ts:List Tok) (k:Nat) (bad:Bool) (t:Tok) (x:ByteArray):Nat:=jP ts k bad t [x]
def qs(bad:Bool) (t:Tok) (x:ByteArray):Bool:=!(!bad&&isT t [x])
theorem bN{w:p7}(l:List ByteArray):kt (w.alloc (p8 (l.map p9).toArray 9)) w.heap.size 0 l:=
 ⟨by simp,fun i s a=>by
  have b:(w.alloc (p8 (l.map p9).toArray 9)).heap[w.heap.size]?=A (p8 (l.map p9).toArray 9 (0,0)):=ot w _
  rw[FR _ _ _ _ _ _ b];simp[a]⟩
theorem PAt.setBad{w:p7}{P L cap:Nat}{ts:List Tok}{k:Nat}{bad:Bool}(h:PAt w P L cap ts k bad)(b:Bool):ax w P L cap ts k b (w.setCell ⟨P,1,V⟩ (ur b)):=by
 refine⟨gj (oT w _) _ _,?_⟩;obtain⟨m,c,a,d,f⟩:=h.p;refine h.set (EW w _ _ L (fun e=>h.ne e.symm)) h.k ⟨m,c,a,d,?_⟩;rw[heap_set f 1];rfl
theorem zv{w:p7}{P L cap:Nat}{ts:List Tok}{k:Nat}{bad:Bool}{t:Tok}(h:PAt w P L cap ts k bad)(n:ts[k]?=A t)(x:ByteArray) :
  r9 r6 44 #[tv (A ⟨P,0,V⟩),p9 x] w fun e w'=>e=tF (wF #[])∧ax w P L cap ts (ob ts k bad t x) (qs bad t x) w':=by
 have a:FS w (w.alloc (p8 #[p9 x] 9)):=(EU _ w).alloc (ET _) _;obtain⟨p,H⟩:=zz2 (sj (h.C a) n w.heap.size 0 1 1 [x] (bN [x]) Z (by omega)) (h.b a);unfold ob qs;clear h n a;generalize jP ts k bad t [x]=q at *;obtain⟨b,g⟩:=zzy ((!bad&&isT t [x]));rw[g]at p ⊢;have j:=Hd g;clear g
 go_enter Tryz.func44,Tryz.ntmps44
 go_wp2_with fail
 refine Ff p.o ?_;rintro e w1 ⟨rfl,c⟩;have f:=Hd (H.o.h c);clear c
 cases b with
 | true =>
  go_wp2_with fail
  go_returns
  have d:bad=false:=by have:=j.o;cases bad<;>simp at this ⊢
  have e:ax w P L cap ts q r7 w1:=by rw[←d];exact f.o
  exact⟨Z,e⟩
 | false =>
  obtain⟨_,_,_,_,_,c1,f0,f1⟩:=f.o.2.h;go_wp2_with fail
  go_returns
  exact⟨Z,f.o.h (f.o.2.setBad r5)⟩
theorem bv{w w':p7}{P i:Nat}{o:Obj}(b:w.grownBy w' (A P))(h:w.heap[i]?=A o)(a:P≠i):w'.heap[i]?=A o:=aJ b h (by rintro e;injection e with e;exact a e.symm)
theorem ax.t{w W:p7}{P L cap:Nat}{ts:List Tok}{k:Nat}{bad:Bool}(h:ax w P L cap ts k bad W)(c:P<w.heap.size)(d:L<w.heap.size){b:Nat}(a:w.heap.size≤b)(i:Nat)(v:r3):ax w P L cap ts k bad (W.setCell ⟨b,i,V⟩ v):=
 ⟨dK h.1 a _ _,h.2.t (EW W _ _ P (by show P≠b;omega)) (EW W _ _ L (by show L≠b;omega))⟩
theorem ax.y{w W:p7}{P L cap:Nat}{ts:List Tok}{k:Nat}{bad:Bool}(h:ax w P L cap ts k bad W)(o:Obj):ax w P L cap ts k bad (W.alloc o):=h.b ((EU _ W).alloc (ET _) _)
theorem ax.q{w W W':p7}{P L cap:Nat}{ts:List Tok}{k:Nat}{bad:Bool}(h:ax W P L cap ts k bad W'){b:Nat}{o:Obj}(a:W.heap[b]?=A o)(c:P<w.heap.size)(d:w.heap.size≤b):W'.heap[b]?=A o:=bv h.1 a (by omega)
def bH:Array Value:=#[I J 0,p9 ⟨#[]⟩,I Y 0,I Y 0,O V 0 0]
theorem aV{W:p7}{b:Nat}{c0 c1 c2 a c4:r3}{t:TypeId}(h:W.heap[b]?=A (p8 #[c0,c1,c2,a,c4] t (0,0)))(v0 v1 v2 v3 v4:r3) :
  (((((W.setCell ⟨b,0,V⟩ v0).setCell ⟨b,1,V⟩ v1).setCell ⟨b,2,V⟩ v2).setCell ⟨b,3,V⟩ v3).setCell ⟨b,4,V⟩ v4).heap[b]?=A (p8 #[v0,v1,v2,v3,v4] t (0,0)):=by
 rw[heap_set (heap_set (heap_set (heap_set (heap_set h 0 v0) 1 v1) 2 v2) 3 v3) 4 v4];rfl
theorem bp{fn:Func}{R:Ending→p7→Prop}{a:Act}{W:p7}{slot T:Nat}{v0 v1 v2 v3 v4:r3}(c:fn.results=#[.cell slot 64])(d:a.tmps.getD slot undef=tv (A ⟨T,0,V⟩))
  (e:W.heap[T]?=A (p8 #[v0,v1,v2,v3,v4] 64 (0,0))) (f:a.defers=[]) (g:R (tF (s3 #[v0,v1,v2,v3,v4])) W):bodyPost r6 fn R .ret a W:=by
 obtain⟨c0,c1,c2,h,c4⟩:=cells5 e;have b:a.tmps[slot]?.getD undef=tv (A ⟨T,0,V⟩):=by simpa using d
 refine bodyPost_ret (v:=s3 #[v0,v1,v2,v3,v4]) ?_ f g;simp[results,c,go_sem,b,c0,c1,c2,h,c4]
theorem xM{w:p7}{P L cap:Nat}{ts:List Tok}{k:Nat}{bad:Bool}{t:Tok}(h:PAt w P L cap ts k bad)(ht:ts[k]?=A t)(tok kind:Nat) :
  r9 r6 98 #[tv (A ⟨P,0,V⟩),I J tok,I J kind] w fun e w'=>e=tF (s3 #[I J kind,p9 t.2.1,I Y 0,I Y t.2.2,O V 0 0])∧
   ax w P L cap ts (eC ts.length k (bad||t.1 != tok)) (bad||t.1 != tok) w':=by
 obtain⟨d,tx,z⟩:=t;obtain⟨b,N⟩:=zzy ((bad||d != tok))
 show r9 _ _ _ _ fun e w'=>e=_∧ax w P L cap ts (eC ts.length k (bad||d != tok)) (bad||d != tok) w'
 rw[N];have B:=Hd N;clear N;have n:FS w (w.alloc (p8 #[I J 0,p9 ⟨#[]⟩,I Y 0,I Y 0,O V 0 0] 64)):=(EU _ w).alloc (ET _) _;obtain⟨HC,H⟩:=zz2 (pi (h.C n) ht) (h.b n);have f:=h.lt.1;have C:=Hd (h.lt.2);clear h ht n
 go_enter Tryz.func98,Tryz.ntmps98
 go_wp2_with fail
 refine Ff HC.o ?_;rintro e w1 ⟨rfl,p⟩;have y:=Hd (H.o.b p);have D:=ag p (ot w (p8 #[I J 0,p9 ⟨#[]⟩,I Y 0,I Y 0,O V 0 0] 64)) (by simp);have q:FS w1 (w1.alloc (p8 #[I J d,p9 tx,I Y z] 89)):=(EU _ w1).alloc (ET _) _;obtain⟨Q,E,R⟩:=zz3 (ot w1 (p8 #[I J d,p9 tx,I Y z] 89)) (y.o.b q) (ag q D (ES.1 D).1);obtain⟨_,_,_,_,c0,c1,f0,f1⟩:=y.o.2.h;have ak:=y.o.2.lt.1;have F:w.heap.size<w1.heap.size:=(ES.1 D).1;have S:=Hd D;clear D q p;have fin:∀(W:p7) (b:Bool),ax w P L cap ts (eC ts.length k b) b W→∀v0 v1 v2 v3 v4,ax w P L cap ts (eC ts.length k b) b (((((W.setCell ⟨w.heap.size,0,V⟩ v0).setCell ⟨w.heap.size,1,V⟩ v1).setCell ⟨w.heap.size,2,V⟩ v2).setCell ⟨w.heap.size,3,V⟩ v3).setCell ⟨w.heap.size,4,V⟩ v4):=fun W b h v0 v1 v2 v3 v4 =>((((h.t f C.o (ET _) 0 v0).t f C.o (ET _) 1 v1).t f C.o (ET _) 2 v2).t f C.o (ET _) 3 v3).t f C.o (ET _) 4 v4
 have g:=Hd fin;clear fin
 by_cases M:d=tok
 ·have T:((d:Int) != tok)=false:=by simp;omega
  obtain rfl:bad=b:=by rw[←B.o,M];simp
  have U:=Hd (jZ E.o.2);clear M;go_wp2_with fail
  refine Ff U.o ?_;rintro e w2 ⟨rfl,a⟩;have c:=a.q R.o f (ET _);have G:=a.q Q.o f (FB F);obtain⟨r,s⟩:=zz2 (E.o.h a) c;obtain⟨a0,a1,a2,a3,a4⟩:=cells5 c;have z0:=ae c 0;have z1:=ae c 1;have z2:=ae c 2;have z3:=ae c 3;have z4:=ae c 4;obtain⟨b0,b1,b2,_,_,_⟩:=cells3 G;clear a c G;go_wp2_with fail
  exact bp Tryz.results98 Z (aV s.o _ _ _ _ _) Z ⟨Z,g.o _ _ r.o _ _ _ _ _⟩
 ·have T:((d:Int) != tok)=true:=by simp;omega
  obtain rfl:b=true:=by rw[←B.o];simp[M]
  have u:=(y.o.h (y.o.2.setBad r5)).y (p8 #[I J d,p9 tx,I Y z] 89);have v:=(y.o.2.setBad r5).q S.o f (ET _);have j:=(FQ _ (p8 #[I J d,p9 tx,I Y z] 89) _ (ES.1 v).1).trans v;have x:=ot (w1.setCell ⟨P,1,V⟩ (ur r5)) (p8 #[I J d,p9 tx,I Y z] 89);have K:(w1.setCell ⟨P,1,V⟩ (ur r5)).heap.size=w1.heap.size:=by simp[World.setCell]
  rw[K]at x;obtain⟨U,X,ad,af⟩:=zz4 (jZ u.2) u j x;clear M u v j x K;go_wp2_with fail
  refine Ff U.o ?_;rintro e w2 ⟨rfl,a⟩;have c:=a.q ad.o f (ET _);have G:=a.q af.o f (FB F);obtain⟨r,s⟩:=zz2 (X.o.h a) c;obtain⟨a0,a1,a2,a3,a4⟩:=cells5 c;have z0:=ae c 0;have z1:=ae c 1;have z2:=ae c 2;have z3:=ae c 3;have z4:=ae c 4;obtain⟨b0,b1,b2,_,_,_⟩:=cells3 G;clear a c G;go_wp2_with fail
  exact bp Tryz.results98 Z (aV s.o _ _ _ _ _) Z ⟨Z,g.o _ _ r.o _ _ _ _ _⟩
def jk(w:p7) (a:r3) (F:Nat→Prop):Prop:=a=O V 0 0∨∃(g cap:Nat) (cs:Array r3),F g∧cap≤maxLen∧a=O (A ⟨g,0,V⟩) 0 cap∧w.heap[g]?=A (p8 cs 64 (0,0))∧cs.size=cap*5
theorem jk.any{w:p7}{a:r3}{F:Nat→Prop}(h:jk w a F):∃sp cap,a=O sp 0 cap:=by
 rcases h with h|⟨g,cap,_,_,_,h,_⟩
 ·exact⟨V,0,h⟩
 ·exact⟨_,cap,h⟩
theorem jk.t{w w':p7}{a:r3}{F:Nat→Prop}(d:∀b o,F b→w.heap[b]?=A o→w'.heap[b]?=A o)(h:jk w a F):jk w' a F:=by
 rcases h with h|⟨g,cap,cs,c,e,f,j,k⟩
 ·exact tE h
 ·exact tS ⟨g,cap,cs,c,e,f,d g _ c j,k⟩
theorem jk.N{w:p7}{a:r3}{F G:Nat→Prop}(h:jk w a F)(c:∀b,F b→G b):jk w a G:=by
 rcases h with h|⟨g,cap,cs,d,e⟩
 ·exact tE h
 ·exact tS ⟨g,cap,cs,c g d,e⟩
def OwnAt(w:p7):Nat→List ah→r3→(Nat→Prop)→Prop
 | 0,a,c,F=>a=[]∧jk w c F
 | d+1,a,c,F=>(a=[]∧jk w c F)∨
   ∃(g cap:Nat) (cs:Array r3) (e:Nat→Nat→Prop),a≠[]∧F g∧a.length≤cap∧cap≤maxLen∧c=O (A ⟨g,0,V⟩) a.length cap∧w.heap[g]?=A (p8 cs 64 (0,0))∧cs.size=cap*5∧
    (∀i T,a[i]?=A T→Fits T∧∃s,(∀m u,(az T s)[m]?=A u→cs[i*5+m]?=A u)∧OwnAt w d T.u s (e i))∧
    (∀i b,e i b→F b∧b≠g)∧∀i j b,i≠j→e i b→¬e j b
theorem OwnAt.t{w w':p7}:∀{d:Nat} {c:List ah} {e:r3} {F:Nat→Prop},(∀b o,F b→w.heap[b]?=A o→w'.heap[b]?=A o)→OwnAt w d c e F→OwnAt w' d c e F:=by
 intro d
 induction d with
 | zero=>intro c e F a h;exact⟨h.1,h.2.t a⟩
 | succ d k =>
  rintro c e F a (h|⟨g,cap,cs,n,p,f,q,r,t,u,v,x,j,y⟩)
  ·exact tE ⟨h.1,h.2.t a⟩
  ·refine tS ⟨g,cap,cs,n,p,f,q,r,t,a g _ f u,v,fun i T z=>?_,j,y⟩;obtain⟨B,s,C,D⟩:=x i T z;exact⟨B,s,C,k (fun b o E=>a b o (j i b E).1) D⟩
theorem OwnAt.N{w:p7}{d:Nat}{c:List ah}{e:r3}{F G:Nat→Prop}(h:OwnAt w d c e F)(a:∀b,F b→G b):OwnAt w d c e G:=by
 cases d with
 | zero=>exact⟨h.1,h.2.N a⟩
 | succ d =>
  rcases h with h|⟨g,cap,cs,k,n,p,q,r,s,t,u,v,f,x⟩
  ·exact tE ⟨h.1,h.2.N a⟩
  ·exact tS ⟨g,cap,cs,k,n,a g p,q,r,s,t,u,v,fun i b j=>⟨a b (f i b j).1,(f i b j).2⟩,x⟩
theorem OwnAt.C{w w':p7}{B d:Nat}{a:List ah}{c:r3}{F:Nat→Prop}(h:OwnAt w d a c F)(hF:∀b,F b→b<B)(e:Below B w w'):OwnAt w' d a c F:=
 h.t fun b _ f g=>(e.block b (hF b f)).trans g
theorem OwnAt.u{w:p7}{B:Nat}:∀{d:Nat} {a:List ah} {c:r3} {F:Nat→Prop},OwnAt w d a c F→(∀b,F b→b<B)→aF w B d a c:=by
 intro d
 induction d with
 | zero=>intro a c F h _;exact⟨h.1,h.2.any⟩
 | succ d f =>
  rintro a c F (h|⟨g,cap,cs,E,j,k,n,p,q,r,G,t,v,H⟩) hF
  ·exact tE ⟨h.1,h.2.any⟩
  ·refine tS ⟨g,0,cap,j,hF g k,n,p,q,fun i T x=>?_⟩;obtain⟨y,s,z,C⟩:=t i T x;have e:∀m u,(az T s)[m]?=A u→w.cell? ⟨g,0+i*5+m,V⟩=A u:=fun m u hu=>by
    rw[FR _ _ _ _ _ _ r,Nat.zero_add];exact z m u hu
   exact⟨y,s,e 0 _ Z,e 1 _ Z,e 2 _ Z,e 3 _ Z,e 4 _ Z,f C fun b D=>hF b (v i b D).1⟩
theorem OwnAt.y{w:p7}:∀{d:Nat} {a:List ah} {b:r3} {F:Nat→Prop},OwnAt w d a b F→OwnAt w (d+1) a b F:=by
 intro d
 induction d with
 | zero=>rintro a b F h;exact tE h
 | succ d c =>
  rintro a b F (h|⟨g,cap,cs,e,f,j,k,n,p,q,r,t,u,v⟩)
  ·exact tE h
  ·refine tS ⟨g,cap,cs,e,f,j,k,n,p,q,r,fun i T x=>?_,u,v⟩;obtain⟨y,s,z,B⟩:=t i T x;exact⟨y,s,z,c B⟩
theorem OwnAt.b{w:p7}{d:Nat}{a:List ah}{b:r3}{F:Nat→Prop}(h:OwnAt w d a b F):∃p cap,b=O p a.length cap:=by
 cases d with
 | zero=>obtain⟨rfl,h⟩:=h;exact h.any
 | succ d =>
  rcases h with ⟨rfl,h⟩|⟨g,cap,cs,e,f,j,k,n,c,_⟩
  ·exact h.any
  ·exact⟨_,cap,c⟩
theorem OwnAt.nil{w:p7}{d:Nat}{a:r3}{F:Nat→Prop}(h:OwnAt w d [] a F):jk w a F:=by
 cases d with
 | zero=>exact h.2
 | succ d =>
  rcases h with h|⟨g,cap,cs,c,b,_⟩
  ·exact h.2
  ·exact absurd Z b
def bG(L B:Nat):Nat→Prop:=fun b=>L≤b∧b<B
def cy(W:p7) (L d:Nat) (c:List ah) (k:Nat) (own:Option Nat) (rows:List (List r3)) (a:Nat→Nat→Prop):Prop:=
 rows.length=k∧(∀r∈rows,r.length=5)∧(∀i T,i<k→c[i]?=A T→Fits T∧∃s,rows[i]?=A (az T s)∧OwnAt W d T.u s (a i))∧
  (∀i b,a i b→L≤b∧b<W.heap.size∧own≠A b)∧(∀i j b,i≠j→a i b→¬a j b)∧∀i b,a i b→i<k
theorem rA{W:p7}{L n d:Nat}{c:List ah}{v:r3}{rows:List (List r3)}{r:Nat→Nat→Prop}(w:c.length=n)(j:W.ownsRow L 64 5 v n rows.flatten)(x:cy W L (d-1) c n v.ownBlock rows r)(y:d=0→c=[]) :
  OwnAt W d c v (bG L W.heap.size):=by
 subst w;obtain⟨M,z,B,C,D,N⟩:=x;rcases j with ⟨Q,⟨rfl,E⟩|⟨g,cap,cur,rfl,q,f,a⟩⟩
 ·have h:c=[]:=Fy E;subst h
  cases d with
  | zero=>exact⟨Z,tE Z⟩
  | succ d=>exact tE ⟨Z,tE Z⟩
 ·cases d with
  | zero =>
   have h:=y Z;subst h;obtain⟨c1,c2,k,c4⟩:=a;exact⟨Z,tS ⟨g,cap,cur,⟨q,(ES.1 f).1⟩,c2,Z,f,k⟩⟩
  | succ d =>
   by_cases h:c=[]
   ·subst h;obtain⟨c1,c2,k,c4⟩:=a;exact tE ⟨Z,tS ⟨g,cap,cur,⟨q,(ES.1 f).1⟩,c2,Z,f,k⟩⟩
   ·obtain⟨c1,c2,k,c4⟩:=a;refine tS ⟨g,cap,cur,r,h,⟨q,(ES.1 f).1⟩,c1,c2,Z,f,k,fun i T t=>?_,fun i b F=>?_,D⟩
    ·have G:i<c.length:=(Fo.1 t).1;obtain⟨a1,s,a2,a3⟩:=B i T G t;refine⟨a1,s,fun m u hu=>?_,a3⟩;have p:=flat5 rows z i m _ u a2 hu;rw[←c4,List.getElem?_take]at p
     split at p
     ·simpa using p
     ·cases p
    ·obtain⟨q1,H,K⟩:=C i b F;exact⟨⟨q1,H⟩,fun e=>K (by rw[e];rfl)⟩
