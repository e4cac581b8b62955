/- Parts of one proof, joined; conditions stand in each theorem. -/
import Derived.Test.YtoonjedifockoaaGreatDoorMM
import Derived.Test.YtoonjedifockoaaGreatDoorMRI
import Derived.Test.YtoonjedifockoaaGreatDoorMC
import Derived.Test.YtoonjedifockoaaGreatDoorMD
import Derived.Test.YtoonjedifockoaaGreatDoorMT
import Derived.Handy
import Derived.Test.YtoonjedifockoaaGreatDoorMA
import Derived.Deep.AppendLies
namespace Go.Proofs.YtoonjedifockoaaGreatDoor
open Go.IntKind(i64)
open Go.Value(int string slice)
open Go.RowKit
section
variable {P:Program} {l:List Oper} {a0:Act} {w0:World} {ty:Nat→World→Value→Prop} {val:Nat→Option Bool} {fr:Nat→Bool} {m:Nat}
def aN(l:List Oper):Nat→Nat→Nat→Bool
 | 0,_,_=>false
 | f+1,j,i=>match l[j]? with
  | some o=>o.after.any fun e=>Region.binds .any e&&(decide (e.on=i)||aN l f e.on i)
  | none=>false
def Closed(l:List Oper) (listed:Array Bool):Prop:=∀(i:Nat) (o:Oper),l[i]?=some o→listed.getD i false=true→∀e∈o.after,Region.binds .any e=true→listed.getD e.on false=true
theorem dt{listed:Array Bool}(k:Closed l listed):∀(f j i:Nat) (o:Oper),l[j]?=some o→(∀e∈o.after,Region.binds .any e=true→listed.getD e.on false=true)→aN l f j i=true→listed.getD i false=true:=by
 intro f
 induction f with
 | zero=>intro j i o _ _ h;cases h
 | succ f n =>
  intro j i o p q h;unfold aN at h;rw[p]at h;obtain⟨e,he,c⟩:=Array.any_eq_true'.1 h;simp only[EQ,Bool.or_eq_true,oe]at c;have d:=q e he c.1;rcases c.2 with a|a
  ·rw[←a];exact d
  ·cases f with
   | zero=>cases a
   | succ f =>
    cases b:l[e.on]? with
    | none=>unfold aN at a;rw[b]at a;cases a
    | some g=>exact n e.on i g b (k e.on g b d) a
end
section
variable {l:List Oper} {m:Nat} {a0:Act} {w0:World} {ty:Nat→World→Value→Prop} {fr:Nat→Bool} {i:Nat} {o:Oper}
end
structure PAt (w:World) (P L cap:Nat) (ts:List Tok) (k:Nat) (bad:Bool):Prop where
 p:∃m c,m+k=ts.length∧c+k=cap∧w.heap[P]?=some (.cells #[slice (some ⟨L,k*3,none⟩) m c,.bool bad] 105 (0,0))
 l:∃cs:Array Value,w.heap[L]?=some (.cells cs 108 (0,0))∧∀(j:Nat) (u:Value),(bO ts)[j]?=some u→cs[j]?=some u
 k:k<ts.length
 n:ts.length≤16385
 c:ts.length≤cap
 m:cap≤maxLen
theorem PAt.lt{w:World}{P L cap:Nat}{ts:List Tok}{k:Nat}{bad:Bool}(h:PAt w P L cap ts k bad):P<w.heap.size∧L<w.heap.size:=by
 obtain⟨m,c,_,_,a⟩:=h.p;obtain⟨cs,b,_⟩:=h.l;exact⟨(Ez.1 a).1,(Ez.1 b).1⟩
theorem PAt.ne{w:World}{P L cap:Nat}{ts:List Tok}{k:Nat}{bad:Bool}(h:PAt w P L cap ts k bad):P≠L:=by
 obtain⟨m,c,_,_,a⟩:=h.p;obtain⟨cs,b,_⟩:=h.l;exact jM a b (by decide)
theorem PAt.keep{w w':World}{P L cap:Nat}{ts:List Tok}{k:Nat}{bad:Bool}(h:PAt w P L cap ts k bad)(a:w'.heap[P]?=w.heap[P]?)(b:w'.heap[L]?=w.heap[L]?):PAt w' P L cap ts k bad:=by
 obtain⟨m,c,d,e,f⟩:=h.p;obtain⟨cs,g,j⟩:=h.l;exact⟨⟨m,c,d,e,a.trans f⟩,⟨cs,b.trans g,j⟩,h.k,h.n,h.c,h.m⟩
theorem PAt.below{w w':World}{P L cap:Nat}{ts:List Tok}{k:Nat}{bad:Bool}(h:PAt w P L cap ts k bad)(a:Ft w w'):PAt w' P L cap ts k bad:=
 h.keep (a.block P h.lt.1) (a.block L h.lt.2)
theorem PAt.drew{w:World}{P L cap:Nat}{ts:List Tok}{k:Nat}{bad:Bool}(h:PAt w P L cap ts k bad):PAt w.drew P L cap ts k bad:=h.keep rfl rfl
theorem td:∀(ts:List Tok) (k:Nat) (t:Tok),ts[k]?=some t→∀j u,(fl t)[j]?=some u→(bO ts)[k*3+j]?=some u:=by
 intro ts
 induction ts with
 | nil=>intro k t h;simp at h
 | cons x r a =>
  intro k t h j u hu;have e:bO (x::r)=fl x++bO r:=by unfold bO;rw[List.flatMap_cons]
  have b:(fl x).length=3:=rfl;have c:j<3:=(EP.1 hu).1;rw[e]
  cases k with
  | zero =>
   simp at h;subst h;rw[Fi (by omega),Nat.zero_mul,Nat.zero_add];exact hu
  | succ k =>
   rw[EZ (by omega),b];have:=a k t (by simpa using h) j u hu;rw[show (k+1)*3+j-3=k*3+j by omega];exact this
theorem PAt.tok{w:World}{P L cap:Nat}{ts:List Tok}{k:Nat}{bad:Bool}{t:Tok}(h:PAt w P L cap ts k bad)(a:ts[k]?=some t) :
  w.cell? ⟨L,k*3,none⟩=some (int .u8 t.1)∧w.cell? ⟨L,k*3+1,none⟩=some (.string t.2.1)∧w.cell? ⟨L,k*3+2,none⟩=some (int i64 t.2.2):=by
 obtain⟨cs,b,c⟩:=h.l;have e:∀j u,(fl t)[j]?=some u→w.cell? ⟨L,k*3+j,none⟩=some u:=fun j u hu=>by rw[Fq _ _ _ _ _ _ b];exact c _ _ (td ts k t a j u hu)
 exact⟨e 0 _ rfl,e 1 _ rfl,e 2 _ rfl⟩
theorem PAt.cells{w:World}{P L cap:Nat}{ts:List Tok}{k:Nat}{bad:Bool}(h:PAt w P L cap ts k bad) :
  ∃m c,m+k=ts.length∧c+k=cap∧w.cell? ⟨P,0,none⟩=some (slice (some ⟨L,k*3,none⟩) m c)∧w.cell? ⟨P,1,none⟩=some (.bool bad)∧w.frozen? ⟨P,0,none⟩=false∧w.frozen? ⟨P,1,none⟩=false:=by
 obtain⟨m,c,b,d,a⟩:=h.p;exact⟨m,c,b,d,by simp[World.cell?,a],by simp[World.cell?,a],by simp[World.frozen?,a],by simp[World.frozen?,a]⟩
theorem oO{w:World}{P L cap:Nat}{ts:List Tok}{k:Nat}{bad:Bool}{t:Tok}(h:PAt w P L cap ts k bad)(b:ts[k]?=some t) :
  Calls Tryz.prog 47 #[.pointer (some ⟨P,0,none⟩)] w fun e w'=>e=.returned (.agg #[int .u8 t.1,.string t.2.1,int i64 t.2.2])∧Ft w w':=by
 obtain⟨m,c,d,f,r,s,_,_⟩:=h.cells;obtain⟨t0,t1,t2⟩:=h.tok b;have hm:(0:Int)<m:=by have:=h.k;omega
 have g:0<m:=by omega
 have a:=h.lt;have j:=a.1;have n:=a.2;clear h b a d f;generalize k*3=o at *;generalize t.1=p at *;generalize t.2.1=tx at *;generalize t.2.2=q at *
 go_enter Tryz.func47,Tryz.ntmps47
 go_wp2
 exact bodyPost_ret (v:=.agg #[int .u8 p,.string tx,int i64 q]) (by simp[results,Tryz.results47,go_sem]) rfl ⟨rfl,(EB _ w).alloc (EA _) _⟩
def eb(n k:Nat) (bad:Bool):Nat:=if bad=false∧k+1<n then k+1 else k
theorem i6{n k:Nat}{bad:Bool}(h:k<n):eb n k bad<n:=by unfold eb;split<;>omega
theorem pd{n k:Nat}{bad:Bool}:k≤eb n k bad:=by unfold eb;split<;>omega
theorem Ag{n k:Nat}:eb n k true=k:=by unfold eb;rw[n8];rintro ⟨h,_⟩;cases h
theorem zQ{n k:Nat}{bad:Bool}(h:¬k+1<n):eb n k bad=k:=by unfold eb;rw[n8];rintro ⟨_,a⟩;exact h a
theorem pi{n k:Nat}(h:k+1<n):eb n k false=k+1:=by unfold eb;rw[n9 ⟨rfl,h⟩]
def au(w:World) (P L cap:Nat) (ts:List Tok) (k:Nat) (bad:Bool) (w':World):Prop:=w.grownBy w' (some P)∧PAt w' P L cap ts k bad
theorem PAt.set{w w':World}{P L cap:Nat}{ts:List Tok}{k b:Nat}{bad a:Bool}(h:PAt w P L cap ts k bad)(d:w'.heap[L]?=w.heap[L]?)(e:b<ts.length)
  (f:∃m c,m+b=ts.length∧c+b=cap∧w'.heap[P]?=some (.cells #[slice (some ⟨L,b*3,none⟩) m c,.bool a] 105 (0,0))):PAt w' P L cap ts b a:=by
 obtain⟨cs,g,j⟩:=h.l;exact⟨f,⟨cs,d.trans g,j⟩,e,h.n,h.c,h.m⟩
theorem jB{w:World}{P L cap:Nat}{ts:List Tok}{k:Nat}{bad:Bool}(h:PAt w P L cap ts k bad) :
  Calls Tryz.prog 101 #[.pointer (some ⟨P,0,none⟩)] w fun e w'=>e=.returned (.tuple #[])∧au w P L cap ts (eb ts.length k bad) bad w':=by
 obtain⟨m,c,d,f,A,I,f0,f1⟩:=h.cells;have H:=Hd h;have g:c≤maxLen:=by have:=h.m;omega
 have B:m≤c:=by have:=h.c;omega
 unfold maxLen at g;have C:=h.lt.1
 cases bad with
 | true =>
  have b:=Hd (Ag (n:=ts.length) (k:=k));clear h d f
  go_enter Tryz.func101,Tryz.ntmps101
  go_wp2
  go_returns
  exact⟨rfl,World.grownBy.refl w _,by rw[b.o];exact H.o⟩
 | false =>
  by_cases a:k+1<ts.length
  ·have b:=Hd (pi a);have j:=Hd d;have q:=Hd f;have r:=Hd a;have s:(1:Int)<m:=by omega
   have t:1<m:=by omega
   have D:(1:Int)≤m:=by omega
   have E:¬(c=1):=by omega
   clear h d f a;obtain⟨o,u⟩:=zzy (k*3);rw[u]at A;have F:=Hd u;clear u
   go_enter Tryz.func101,Tryz.ntmps101
   go_wp2
   go_returns
   refine⟨rfl,fG (World.grownBy.refl w _) _ _,?_⟩;rw[b.o];obtain⟨y,z,J,x2,G⟩:=H.o.p;have v:y=m:=by have:=j.o;omega
   have x:z=c:=by have:=q.o;omega
   subst v x;refine H.o.set (ED w _ _ L (fun e=>H.o.ne e.symm)) r.o ⟨y-1,z-1,by omega,by omega,?_⟩;rw[heap_set G 0,show (k+1)*3=o+3 by have:=F.o;omega];rfl
  ·have b:=Hd (zQ (bad:=false) a);have s:decide ((1:Int)<m)=false:=by simp;omega
   have t:decide (1<m)=false:=by simp;omega
   clear h d f a
   go_enter Tryz.func101,Tryz.ntmps101
   go_wp2
   go_returns
   exact⟨rfl,World.grownBy.refl w _,by rw[b.o];exact H.o⟩
def isT(t:Tok) (texts:List ByteArray):Bool:=(t.1==6||t.1==1)&&texts.any (fun s=>!s.toList.isEmpty&&s.toList==t.2.1.toList)
def jV(w:World) (B off:Nat) (texts:List ByteArray):Prop:=B<w.heap.size∧∀(i:Nat) (s:ByteArray),texts[i]?=some s→w.cell? ⟨B,off+i,none⟩=some (.string s)
theorem Bp{t:Tok}{texts:List ByteArray}{j:Nat}{s:ByteArray}(a:texts[j]?=some s)(h:isT t (texts.take j)=false) :
  isT t (texts.take (j+1))=((t.1==6||t.1==1)&&(!s.toList.isEmpty&&s.toList==t.2.1.toList)):=by
 unfold isT at h ⊢;rw[Fg,a,List.any_append]
 cases b:(t.1==6||t.1==1)
 ·rfl
 ·rw[b]at h;simp only[Bool.true_and]at h ⊢;rw[h];simp
theorem Df{t:Tok}{texts:List ByteArray}{j:Nat}{s:ByteArray}(a:texts[j]?=some s)(b:(t.1==6||t.1==1)=true)(h:(!s.toList.isEmpty&&s.toList==t.2.1.toList)=true):isT t texts=true:=by
 unfold isT;rw[b,Bool.true_and,List.any_eq_true];exact⟨s,EU a,h⟩
theorem nB{w:World}{P L cap:Nat}{ts:List Tok}{k:Nat}{bad:Bool}{t:Tok}(h:PAt w P L cap ts k bad)(X:ts[k]?=some t)(B off n c:Nat)(texts:List ByteArray)(hB:jV w B off texts)(Y:texts.length=n)(ad:n≤100) :
  Calls Tryz.prog 100 #[.pointer (some ⟨P,0,none⟩),slice (some ⟨B,off,none⟩) n c] w fun e w'=>e=.returned (.bool (!bad&&isT t texts))∧Ft w w':=by
 have HC:=Hd (oO h X);have Z:=Hd hB;have Q:=Hd Y;have H:=Hd h;have z:=Hd (fun (j:Nat) (s:ByteArray)=>@Bp t texts j s);have q:=Hd (fun (j:Nat) (s:ByteArray)=>@Df t texts j s);clear h X hB Y;obtain⟨f,r⟩:∃f:List ByteArray→Bool,f=isT t:=⟨_,rfl⟩;have H0:Hid (f (texts.take 0)=false):=by show _=_;rw[r];unfold isT;simp
 rw[←r]at z q ⊢;clear r;obtain⟨d,tx,tp⟩:=t
 go_enter Tryz.func100,Tryz.ntmps100
 go_wp2_with fail
 refine EJ HC.o ?_;rintro e w1 ⟨rfl,F⟩;go_wp2_with fail
 obtain⟨R,A⟩:=zzx ((w1.alloc (.cells #[int .u8 d,.string tx,int i64 tp] 108)));have G:Ft w R:=by rw[A];exact F.alloc F.size _
 have x:=n7 w1 (.cells #[int .u8 d,.string tx,int i64 tp] 108);rw[←A]at x ⊢;have HX:=Hd x;have u:=Hd G;clear A x G
 go_loop [12] (fun i=>∃j:Nat,j≤n∧i=int i64 j∧f (texts.take j)=false) (fun i=>n-(intOf i).toNat)
 case atStart=>exact⟨0,EM _,rfl,H0.o⟩
 case round =>
  obtain⟨j,hj,rfl,I⟩:=hrel;have J:=Hd I;clear I
  by_cases K:j<n
  ·obtain⟨s,M⟩:∃s,texts[j]?=some s:=⟨texts[j]'(by rw[Q.o];exact K),EE (by rw[Q.o];exact K)⟩;have c0:=(u.o.cell (p:=⟨B,off+j,none⟩) Z.o.1).trans (Z.o.2 j s M);obtain⟨x0,x1,x2,_,_,_⟩:=cells3 HX.o;obtain⟨_,_,_,_,_,c1,_,_⟩:=(H.o.below u.o).cells;have HS:=Hd M;have g:=Hd (z.o j s M J.o);have y:=Hd (q.o j s M);clear M z q;have no:∀b:Bool,f (texts.take (j+1))=b→b=false→((∃S:Nat,S≤n∧int i64 ((j:Int)+1)=int i64 S∧f (texts.take S)=false)∧n-(intOf (int i64 ((j:Int)+1))).toNat<n-(intOf (int i64 j)).toNat):=fun b hb T =>⟨⟨j+1,by omega,by go_num,hb.trans T⟩,by simp[intOf];omega⟩
   have C:=Hd no;clear no
   by_cases h1:s.toList=[]
   ·have O:=Hd h1;go_wp2_with fail
    exact C.o _ g.o (by rw[O.o];simp)
   ·by_cases U:s.toList=tx.toList
    ·have h3:¬tx.toList=[]:=by rw[←U];exact h1
     have h4:(!tx.toList.isEmpty)=true:=by cases hx:tx.toList with|nil=>exact absurd hx h3|cons _ _=>rfl
     have O:Hid ((!s.toList.isEmpty&&s.toList==tx.toList)=true):=by show _=_;rw[U];simp[h3]
     by_cases E:d=6
     ·have V:((d:Int)==6)=true:=by rw[E];rfl
      have a:=y.o (by show (d==6||d==1)=true;rw[E];rfl) O.o;have W:=Hd a;clear E a;go_wp2_with fail
      go_ret;exact⟨by rw[W.o,Bool.and_true];rfl,u.o⟩
     ·have V:((d:Int)==6)=false:=by simp;omega
      by_cases v:d=1
      ·have N:((d:Int)==1)=true:=by rw[v];rfl
       have a:=y.o (by show (d==6||d==1)=true;rw[v];rfl) O.o;have W:=Hd a;clear E v a;go_wp2_with fail
       go_ret;exact⟨by rw[W.o,Bool.and_true];rfl,u.o⟩
      ·have N:((d:Int)==1)=false:=by simp;omega
       have D:Hid (((d==6||d==1)&&(!s.toList.isEmpty&&s.toList==tx.toList))=false):=by show _=_;simp[E,v]
       clear E v;go_wp2_with fail
       exact C.o _ g.o D.o
    ·have D:Hid (((d==6||d==1)&&(!s.toList.isEmpty&&s.toList==tx.toList))=false):=by show _=_;simp[U]
     go_wp2_with fail
     exact C.o _ g.o D.o
  ·obtain rfl:j=n:=by omega
   have e:texts.take j=texts:=by rw[←Q.o];exact List.take_length
   have HF:Hid (f texts=false):=by show _=_;rw[←e];exact J.o
   clear e;go_wp2_with fail
   go_ret;exact⟨by rw[HF.o,Bool.and_false];rfl,u.o⟩
theorem au.trans{w w1 b:World}{P L cap:Nat}{ts:List Tok}{k c:Nat}{bad a:Bool}(h:au w P L cap ts k bad w1)(d:au w1 P L cap ts c a b):au w P L cap ts c a b:=
 ⟨World.grownBy.trans h.1 d.1,d.2⟩
theorem au.of_below{w w1 a:World}{P L cap:Nat}{ts:List Tok}{k:Nat}{bad:Bool}(h:au w P L cap ts k bad w1)(b:Ft w1 a):au w P L cap ts k bad a:=
 ⟨grown_below h.1 b,h.2.below b⟩
theorem au.of_drew{w w1:World}{P L cap:Nat}{ts:List Tok}{k:Nat}{bad:Bool}(h:au w.drew P L cap ts k bad w1):au w P L cap ts k bad w1:=
 ⟨World.grownBy.trans (grown_drewN (World.grownBy.refl w _) 1) h.1,h.2⟩
theorem PAt.turns{w w1:World}{P L cap:Nat}{ts:List Tok}{k:Nat}{bad:Bool}(h:PAt w P L cap ts k bad)(a:Ft w w1):au w P L cap ts k bad w1:=
 ⟨aH a _,h.below a⟩
def jl(ts:List Tok) (k:Nat) (bad:Bool) (t:Tok) (texts:List ByteArray):Nat:=if (!bad&&isT t texts)=true then eb ts.length k bad else k
theorem rJ{w:World}{P L cap:Nat}{ts:List Tok}{k:Nat}{bad:Bool}{t:Tok}(h:PAt w P L cap ts k bad)(j:ts[k]?=some t)(B off n c:Nat)(texts:List ByteArray)(hB:jV w B off texts)(p:texts.length=n)(f:n≤100) :
  Calls Tryz.prog 71 #[.pointer (some ⟨P,0,none⟩),slice (some ⟨B,off,none⟩) n c] w fun e w'=>e=.returned (.bool (!bad&&isT t texts))∧au w P L cap ts (jl ts k bad t texts) bad w':=by
 have q:=Hd (nB h j B off n c texts hB p f);have H:=Hd h;unfold jl;clear h j hB p;generalize (!bad&&isT t texts)=b at *
 go_enter Tryz.func71,Tryz.ntmps71
 go_wp2_with fail
 refine EJ q.o ?_;rintro e w1 ⟨rfl,a⟩
 cases b with
 | false =>
  have g:=Hd a;clear a;go_wp2_with fail
  go_ret;exact⟨rfl,H.o.turns g.o⟩
 | true =>
  have g:=Hd a;have r:=Hd (jB (H.o.below a));clear a;go_wp2_with fail
  refine EJ r.o ?_;rintro e u ⟨rfl,d⟩;have s:=Hd d;clear d;go_wp2_with fail
  go_ret;exact⟨rfl,(H.o.turns g.o).trans s.o⟩
def nG(ts:List Tok) (k:Nat) (bad:Bool) (t:Tok) (x:ByteArray):Nat:=jl ts k bad t [x]
def pM(bad:Bool) (t:Tok) (x:ByteArray):Bool:=!(!bad&&isT t [x])
theorem bP{w:World}(l:List ByteArray):jV (w.alloc (.cells (l.map string).toArray 9)) w.heap.size 0 l:=
 ⟨by simp,fun i s a=>by
  have b:(w.alloc (.cells (l.map string).toArray 9)).heap[w.heap.size]?=some (.cells (l.map string).toArray 9 (0,0)):=n7 w _
  rw[Fq _ _ _ _ _ _ b];simp[a]⟩
theorem PAt.setBad{w:World}{P L cap:Nat}{ts:List Tok}{k:Nat}{bad:Bool}(h:PAt w P L cap ts k bad)(b:Bool):au w P L cap ts k b (w.setCell ⟨P,1,none⟩ (.bool b)):=by
 refine⟨fG (World.grownBy.refl w _) _ _,?_⟩;obtain⟨m,c,a,d,f⟩:=h.p;refine h.set (ED w _ _ L (fun e=>h.ne e.symm)) h.k ⟨m,c,a,d,?_⟩;rw[heap_set f 1];rfl
theorem zb{w:World}{P L cap:Nat}{ts:List Tok}{k:Nat}{bad:Bool}{t:Tok}(h:PAt w P L cap ts k bad)(n:ts[k]?=some t)(x:ByteArray) :
  Calls Tryz.prog 75 #[.pointer (some ⟨P,0,none⟩),.string x] w fun e w'=>e=.returned (.tuple #[])∧au w P L cap ts (nG ts k bad t x) (pM bad t x) w':=by
 have a:Ft w (w.alloc (.cells #[.string x] 9)):=(EB _ w).alloc (EA _) _;have p:=Hd (rJ (h.below a) n w.heap.size 0 1 1 [x] (bP [x]) rfl (by omega));have H:=Hd (h.turns a);unfold nG pM;clear h n a;generalize jl ts k bad t [x]=q at *;obtain⟨b,g⟩:=zzy ((!bad&&isT t [x]));rw[g]at p ⊢;have j:=Hd g;clear g
 go_enter Tryz.func75,Tryz.ntmps75
 go_wp2_with fail
 refine EJ p.o ?_;rintro e w1 ⟨rfl,c⟩;have f:=Hd (H.o.trans c);clear c
 cases b with
 | true =>
  go_wp2_with fail
  go_returns
  have d:bad=false:=by have:=j.o;cases bad<;>simp at this ⊢
  have e:au w P L cap ts q false w1:=by rw[←d];exact f.o
  exact⟨rfl,e⟩
 | false =>
  obtain⟨_,_,_,_,_,r,f0,f1⟩:=f.o.2.cells;go_wp2_with fail
  go_returns
  exact⟨rfl,f.o.trans (f.o.2.setBad true)⟩
theorem bE{w w':World}{P i:Nat}{o:Obj}(b:w.grownBy w' (some P))(h:w.heap[i]?=some o)(a:P≠i):w'.heap[i]?=some o:=aP b h (by rintro e;injection e with e;exact a e.symm)
theorem au.setCell{w W:World}{P L cap:Nat}{ts:List Tok}{k:Nat}{bad:Bool}(h:au w P L cap ts k bad W)(c:P<w.heap.size)(d:L<w.heap.size){b:Nat}(a:w.heap.size≤b)(i:Nat)(v:Value):au w P L cap ts k bad (W.setCell ⟨b,i,none⟩ v):=
 ⟨dz h.1 a _ _,h.2.keep (ED W _ _ P (by show P≠b;omega)) (ED W _ _ L (by show L≠b;omega))⟩
theorem au.alloc{w W:World}{P L cap:Nat}{ts:List Tok}{k:Nat}{bad:Bool}(h:au w P L cap ts k bad W)(o:Obj):au w P L cap ts k bad (W.alloc o):=h.of_below ((EB _ W).alloc (EA _) _)
theorem au.box{w W W':World}{P L cap:Nat}{ts:List Tok}{k:Nat}{bad:Bool}(h:au W P L cap ts k bad W'){b:Nat}{o:Obj}(a:W.heap[b]?=some o)(c:P<w.heap.size)(d:w.heap.size≤b):W'.heap[b]?=some o:=bE h.1 a (by omega)
def bM:Array Value:=#[int .u8 0,string ⟨#[]⟩,int i64 0,int i64 0,slice none 0 0]
theorem aU{W:World}{b:Nat}{a c c2 d c4:Value}{t:TypeId}(h:W.heap[b]?=some (.cells #[a,c,c2,d,c4] t (0,0)))(v0 v1 v2 v3 v4:Value) :
  (((((W.setCell ⟨b,0,none⟩ v0).setCell ⟨b,1,none⟩ v1).setCell ⟨b,2,none⟩ v2).setCell ⟨b,3,none⟩ v3).setCell ⟨b,4,none⟩ v4).heap[b]?=some (.cells #[v0,v1,v2,v3,v4] t (0,0)):=by
 rw[heap_set (heap_set (heap_set (heap_set (heap_set h 0 v0) 1 v1) 2 v2) 3 v3) 4 v4];rfl
theorem bs{fn:Func}{R:Ending→World→Prop}{a:Act}{W:World}{slot T:Nat}{v0 v1 v2 v3 v4:Value}(c:fn.results=#[.cell slot 76])(d:a.tmps.getD slot undef=.pointer (some ⟨T,0,none⟩))
  (e:W.heap[T]?=some (.cells #[v0,v1,v2,v3,v4] 76 (0,0))) (f:a.defers=[]) (g:R (.returned (.agg #[v0,v1,v2,v3,v4])) W):bodyPost Tryz.prog fn R .ret a W:=by
 obtain⟨h,j,c2,k,c4⟩:=cells5 e;have b:a.tmps[slot]?.getD undef=.pointer (some ⟨T,0,none⟩):=by simpa using d
 refine bodyPost_ret (v:=.agg #[v0,v1,v2,v3,v4]) ?_ f g;simp[results,c,go_sem,b,h,j,c2,k,c4]
theorem xk{w:World}{P L cap:Nat}{ts:List Tok}{k:Nat}{bad:Bool}{t:Tok}(h:PAt w P L cap ts k bad)(U:ts[k]?=some t)(tok kind:Nat) :
  Calls Tryz.prog 102 #[.pointer (some ⟨P,0,none⟩),int .u8 tok,int .u8 kind] w fun e w'=>e=.returned (.agg #[int .u8 kind,.string t.2.1,int i64 0,int i64 t.2.2,slice none 0 0])∧
   au w P L cap ts (eb ts.length k (bad||t.1 != tok)) (bad||t.1 != tok) w':=by
 obtain⟨d,tx,z⟩:=t;obtain⟨b,J⟩:=zzy ((bad||d != tok))
 show Calls _ _ _ _ fun e w'=>e=_∧au w P L cap ts (eb ts.length k (bad||d != tok)) (bad||d != tok) w'
 rw[J];have A:=Hd J;clear J;have n:Ft w (w.alloc (.cells #[int .u8 0,string ⟨#[]⟩,int i64 0,int i64 0,slice none 0 0] 76)):=(EB _ w).alloc (EA _) _;have V:=Hd (oO (h.below n) U);have H:=Hd (h.turns n);have f:=h.lt.1;have B:=Hd (h.lt.2);clear h U n
 go_enter Tryz.func102,Tryz.ntmps102
 go_wp2_with fail
 refine EJ V.o ?_;rintro e w1 ⟨rfl,p⟩;have y:=Hd (H.o.of_below p);have C:=aa p (n7 w (.cells #[int .u8 0,string ⟨#[]⟩,int i64 0,int i64 0,slice none 0 0] 76)) (by simp);have q:Ft w1 (w1.alloc (.cells #[int .u8 d,.string tx,int i64 z] 108)):=(EB _ w1).alloc (EA _) _;have K:=Hd (n7 w1 (.cells #[int .u8 d,.string tx,int i64 z] 108));have D:=Hd (y.o.of_below q);have M:=Hd (aa q C (Ez.1 C).1);obtain⟨_,_,_,_,c0,c1,f0,f1⟩:=y.o.2.cells;have X:=y.o.2.lt.1;have E:w.heap.size<w1.heap.size:=(Ez.1 C).1;have N:=Hd C;clear C q p;have fin:∀(W:World) (b:Bool),au w P L cap ts (eb ts.length k b) b W→∀v0 v1 v2 v3 v4,au w P L cap ts (eb ts.length k b) b (((((W.setCell ⟨w.heap.size,0,none⟩ v0).setCell ⟨w.heap.size,1,none⟩ v1).setCell ⟨w.heap.size,2,none⟩ v2).setCell ⟨w.heap.size,3,none⟩ v3).setCell ⟨w.heap.size,4,none⟩ v4):=fun W b h v0 v1 v2 v3 v4 =>((((h.setCell f B.o (EA _) 0 v0).setCell f B.o (EA _) 1 v1).setCell f B.o (EA _) 2 v2).setCell f B.o (EA _) 3 v3).setCell f B.o (EA _) 4 v4
 have g:=Hd fin;clear fin
 by_cases I:d=tok
 ·have O:((d:Int) != tok)=false:=by simp;omega
  obtain rfl:bad=b:=by rw[←A.o,I];simp
  have Q:=Hd (jB D.o.2);clear I;go_wp2_with fail
  refine EJ Q.o ?_;rintro e Y ⟨rfl,a⟩;have c:=a.box M.o f (EA _);have F:=a.box K.o f (Fa E);have r:=Hd (D.o.trans a);have s:=Hd c;obtain⟨a0,a1,a2,a3,a4⟩:=cells5 c;have z0:=ab c 0;have Z:=ab c 1;have z2:=ab c 2;have z3:=ab c 3;have z4:=ab c 4;obtain⟨b0,b1,b2,_,_,_⟩:=cells3 F;clear a c F;go_wp2_with fail
  exact bs Tryz.results102 rfl (aU s.o _ _ _ _ _) rfl ⟨rfl,g.o _ _ r.o _ _ _ _ _⟩
 ·have O:((d:Int) != tok)=true:=by simp;omega
  obtain rfl:b=true:=by rw[←A.o];simp[I]
  have u:=(y.o.trans (y.o.2.setBad true)).alloc (.cells #[int .u8 d,.string tx,int i64 z] 108);have v:=(y.o.2.setBad true).box N.o f (EA _);have j:=(Fp _ (.cells #[int .u8 d,.string tx,int i64 z] 108) _ (Ez.1 v).1).trans v;have x:=n7 (w1.setCell ⟨P,1,none⟩ (.bool true)) (.cells #[int .u8 d,.string tx,int i64 z] 108);have G:(w1.setCell ⟨P,1,none⟩ (.bool true)).heap.size=w1.heap.size:=by simp[World.setCell]
  rw[G]at x;have Q:=Hd (jB u.2);have R:=Hd u;have S:=Hd j;have T:=Hd x;clear I u v j x G;go_wp2_with fail
  refine EJ Q.o ?_;rintro e Y ⟨rfl,a⟩;have c:=a.box S.o f (EA _);have F:=a.box T.o f (Fa E);have r:=Hd (R.o.trans a);have s:=Hd c;obtain⟨a0,a1,a2,a3,a4⟩:=cells5 c;have z0:=ab c 0;have Z:=ab c 1;have z2:=ab c 2;have z3:=ab c 3;have z4:=ab c 4;obtain⟨b0,b1,b2,_,_,_⟩:=cells3 F;clear a c F;go_wp2_with fail
  exact bs Tryz.results102 rfl (aU s.o _ _ _ _ _) rfl ⟨rfl,g.o _ _ r.o _ _ _ _ _⟩
def iH(w:World) (a:Value) (F:Nat→Prop):Prop:=a=slice none 0 0∨∃(g cap:Nat) (cs:Array Value),F g∧cap≤maxLen∧a=slice (some ⟨g,0,none⟩) 0 cap∧w.heap[g]?=some (.cells cs 76 (0,0))∧cs.size=cap*5
theorem iH.any{w:World}{a:Value}{F:Nat→Prop}(h:iH w a F):∃sp cap,a=.slice sp 0 cap:=by
 rcases h with h|⟨g,cap,_,_,_,h,_⟩
 ·exact⟨none,0,h⟩
 ·exact⟨_,cap,h⟩
theorem iH.keep{w w':World}{a:Value}{F:Nat→Prop}(d:∀b o,F b→w.heap[b]?=some o→w'.heap[b]?=some o)(h:iH w a F):iH w' a F:=by
 rcases h with h|⟨g,cap,cs,c,e,f,j,k⟩
 ·exact Or.inl h
 ·exact Or.inr ⟨g,cap,cs,c,e,f,d g _ c j,k⟩
theorem iH.sub{w:World}{a:Value}{F G:Nat→Prop}(h:iH w a F)(c:∀b,F b→G b):iH w a G:=by
 rcases h with h|⟨g,cap,cs,d,e⟩
 ·exact Or.inl h
 ·exact Or.inr ⟨g,cap,cs,c g d,e⟩
def OwnAt(w:World):Nat→List ac→Value→(Nat→Prop)→Prop
 | 0,a,c,F=>a=[]∧iH w c F
 | d+1,a,c,F=>(a=[]∧iH w c F)∨
   ∃(g cap:Nat) (cs:Array Value) (e:Nat→Nat→Prop),a≠[]∧F g∧a.length≤cap∧cap≤maxLen∧c=slice (some ⟨g,0,none⟩) a.length cap∧w.heap[g]?=some (.cells cs 76 (0,0))∧cs.size=cap*5∧
    (∀i T,a[i]?=some T→Fits T∧∃s,(∀m u,(aw T s)[m]?=some u→cs[i*5+m]?=some u)∧OwnAt w d T.kids s (e i))∧
    (∀i b,e i b→F b∧b≠g)∧∀i j b,i≠j→e i b→¬e j b
theorem OwnAt.keep{w w':World}:∀{d:Nat} {c:List ac} {e:Value} {F:Nat→Prop},(∀b o,F b→w.heap[b]?=some o→w'.heap[b]?=some o)→OwnAt w d c e F→OwnAt w' d c e F:=by
 intro d
 induction d with
 | zero=>intro c e F a h;exact⟨h.1,h.2.keep a⟩
 | succ d k =>
  rintro c e F a (h|⟨g,cap,cs,n,p,f,q,r,t,u,v,x,j,y⟩)
  ·exact Or.inl ⟨h.1,h.2.keep a⟩
  ·refine Or.inr ⟨g,cap,cs,n,p,f,q,r,t,a g _ f u,v,fun i T z=>?_,j,y⟩;obtain⟨A,s,B,C⟩:=x i T z;exact⟨A,s,B,k (fun b o D=>a b o (j i b D).1) C⟩
theorem OwnAt.sub{w:World}{d:Nat}{c:List ac}{e:Value}{F G:Nat→Prop}(h:OwnAt w d c e F)(a:∀b,F b→G b):OwnAt w d c e G:=by
 cases d with
 | zero=>exact⟨h.1,h.2.sub a⟩
 | succ d =>
  rcases h with h|⟨g,cap,cs,k,n,p,q,r,s,t,u,v,f,x⟩
  ·exact Or.inl ⟨h.1,h.2.sub a⟩
  ·exact Or.inr ⟨g,cap,cs,k,n,a g p,q,r,s,t,u,v,fun i b j=>⟨a b (f i b j).1,(f i b j).2⟩,x⟩
theorem OwnAt.below{w w':World}{B d:Nat}{a:List ac}{c:Value}{F:Nat→Prop}(h:OwnAt w d a c F)(hF:∀b,F b→b<B)(e:Below B w w'):OwnAt w' d a c F:=
 h.keep fun b _ f g=>(e.block b (hF b f)).trans g
theorem OwnAt.kids{w:World}{B:Nat}:∀{d:Nat} {a:List ac} {c:Value} {F:Nat→Prop},OwnAt w d a c F→(∀b,F b→b<B)→aD w B d a c:=by
 intro d
 induction d with
 | zero=>intro a c F h _;exact⟨h.1,h.2.any⟩
 | succ d f =>
  rintro a c F (h|⟨g,cap,cs,D,j,k,n,p,q,r,E,t,v,G⟩) hF
  ·exact Or.inl ⟨h.1,h.2.any⟩
  ·refine Or.inr ⟨g,0,cap,j,hF g k,n,p,q,fun i T x=>?_⟩;obtain⟨y,s,z,A⟩:=t i T x;have e:∀m u,(aw T s)[m]?=some u→w.cell? ⟨g,0+i*5+m,none⟩=some u:=fun m u hu=>by
    rw[Fq _ _ _ _ _ _ r,Nat.zero_add];exact z m u hu
   exact⟨y,s,e 0 _ rfl,e 1 _ rfl,e 2 _ rfl,e 3 _ rfl,e 4 _ rfl,f A fun b C=>hF b (v i b C).1⟩
theorem OwnAt.more{w:World}:∀{d:Nat} {a:List ac} {b:Value} {F:Nat→Prop},OwnAt w d a b F→OwnAt w (d+1) a b F:=by
 intro d
 induction d with
 | zero=>rintro a b F h;exact Or.inl h
 | succ d c =>
  rintro a b F (h|⟨g,cap,cs,e,f,j,k,n,p,q,r,t,u,v⟩)
  ·exact Or.inl h
  ·refine Or.inr ⟨g,cap,cs,e,f,j,k,n,p,q,r,fun i T x=>?_,u,v⟩;obtain⟨y,s,z,A⟩:=t i T x;exact⟨y,s,z,c A⟩
theorem OwnAt.shape{w:World}{d:Nat}{a:List ac}{b:Value}{F:Nat→Prop}(h:OwnAt w d a b F):∃p cap,b=.slice p a.length cap:=by
 cases d with
 | zero=>obtain⟨rfl,h⟩:=h;exact h.any
 | succ d =>
  rcases h with ⟨rfl,h⟩|⟨g,cap,cs,e,f,j,k,n,c,_⟩
  ·exact h.any
  ·exact⟨_,cap,c⟩
theorem OwnAt.nil{w:World}{d:Nat}{a:Value}{F:Nat→Prop}(h:OwnAt w d [] a F):iH w a F:=by
 cases d with
 | zero=>exact h.2
 | succ d =>
  rcases h with h|⟨g,cap,cs,c,b,_⟩
  ·exact h.2
  ·exact absurd rfl b
def bL(L B:Nat):Nat→Prop:=fun b=>L≤b∧b<B
def cn(W:World) (L d:Nat) (c:List ac) (k:Nat) (own:Option Nat) (rows:List (List Value)) (a:Nat→Nat→Prop):Prop:=
 rows.length=k∧(∀r∈rows,r.length=5)∧(∀i T,i<k→c[i]?=some T→Fits T∧∃s,rows[i]?=some (aw T s)∧OwnAt W d T.kids s (a i))∧
  (∀i b,a i b→L≤b∧b<W.heap.size∧own≠some b)∧(∀i j b,i≠j→a i b→¬a j b)∧∀i b,a i b→i<k
theorem qT{W:World}{L n d:Nat}{c:List ac}{v:Value}{rows:List (List Value)}{t:Nat→Nat→Prop}(x:c.length=n)(j:W.ownsRow L 76 5 v n rows.flatten)(y:cn W L (d-1) c n v.ownBlock rows t)(z:d=0→c=[]) :
  OwnAt W d c v (bL L W.heap.size):=by
 subst x;obtain⟨K,A,B,C,D,M⟩:=y;rcases j with ⟨N,⟨rfl,E⟩|⟨g,cap,cur,rfl,q,f,a⟩⟩
 ·have h:c=[]:=EX E;subst h
  cases d with
  | zero=>exact⟨rfl,Or.inl rfl⟩
  | succ d=>exact Or.inl ⟨rfl,Or.inl rfl⟩
 ·cases d with
  | zero =>
   have h:=z rfl;subst h;obtain⟨r,c2,k,c4⟩:=a;exact⟨rfl,Or.inr ⟨g,cap,cur,⟨q,(Ez.1 f).1⟩,c2,rfl,f,k⟩⟩
  | succ d =>
   by_cases h:c=[]
   ·subst h;obtain⟨r,c2,k,c4⟩:=a;exact Or.inl ⟨rfl,Or.inr ⟨g,cap,cur,⟨q,(Ez.1 f).1⟩,c2,rfl,f,k⟩⟩
   ·obtain⟨r,c2,k,c4⟩:=a;refine Or.inr ⟨g,cap,cur,t,h,⟨q,(Ez.1 f).1⟩,r,c2,rfl,f,k,fun i T w=>?_,fun i b F=>?_,D⟩
    ·have G:i<c.length:=(EP.1 w).1;obtain⟨a1,s,a2,a3⟩:=B i T G w;refine⟨a1,s,fun m u hu=>?_,a3⟩;have p:=flat5 rows A i m _ u a2 hu;rw[←c4,List.getElem?_take]at p
     split at p
     ·simpa using p
     ·cases p
    ·obtain⟨H,I,J⟩:=C i b F;exact⟨⟨H,I⟩,fun e=>J (by rw[e];rfl)⟩
