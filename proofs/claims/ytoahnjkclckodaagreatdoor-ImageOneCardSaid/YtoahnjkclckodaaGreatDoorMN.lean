/- Parts of one proof, joined; conditions stand in each theorem. -/
import Derived.Test.YtoahnjkclckodaaGreatDoorMM
import Derived.Test.YtoahnjkclckodaaGreatDoorMRI
import Derived.Test.YtoahnjkclckodaaGreatDoorMC
import Derived.Test.YtoahnjkclckodaaGreatDoorMD
import Derived.Test.YtoahnjkclckodaaGreatDoorMT
import Derived.Handy
import Derived.Test.YtoahnjkclckodaaGreatDoorMA
import Derived.Deep.AppendLies
open Go renaming Oper→xV,World→J,Value→tT,Calls→wg
open Bool renaming false→va,true→ur
open Option renaming some→A,none→Y
open Go.Obj renaming cells→r9
open Go.Value renaming slice→O,bool→xv,int→I,string→tS,pointer→vv,agg→xk,tuple→y9
open Go.IntKind renaming u8→tF,i64→U
open Go.Proofs.Tryz renaming prog→vo
open Go.Ending renaming returned→wj
open Or renaming inl→wD,inr→wP
namespace Go.Proofs.YtoahnjkclckodaaGreatDoor
open Go.RowKit
section
variable {P:Program} {l:List xV} {a0:Act} {w0:J} {ty:Nat→J→tT→Prop} {val:Nat→Option Bool} {fr:Nat→Bool} {m:Nat}
def aG(l:List xV):Nat→Nat→Nat→Bool
 | 0,_,_=>va
 | f+1,j,i=>match l[j]? with
  | some o=>o.after.any fun e=>Region.binds .any e&&(decide (e.on=i)||aG l f e.on i)
  | none=>va
def Closed(l:List xV) (listed:Array Bool):Prop:=∀(i:Nat) (o:xV),l[i]?=A o→listed.getD i va=ur→∀e∈o.after,Region.binds .any e=ur→listed.getD e.on va=ur
theorem dD{listed:Array Bool}(k:Closed l listed):∀(f j i:Nat) (o:xV),l[j]?=A o→(∀e∈o.after,Region.binds .any e=ur→listed.getD e.on va=ur)→aG l f j i=ur→listed.getD i va=true:=by
 intro f
 induction f with
 | zero=>intro j i o _ _ h;cases h
 | succ f n =>
  intro j i o p q h;unfold aG at h;rw[p]at h;obtain⟨e,he,c⟩:=Array.any_eq_true'.1 h;simp only[FV,Bool.or_eq_true,oX]at c;have d:=q e he c.1;rcases c.2 with a|a
  ·rw[←a];exact d
  ·cases f with
   | zero=>cases a
   | succ f =>
    cases b:l[e.on]? with
    | none=>unfold aG at a;rw[b]at a;cases a
    | some g=>exact n e.on i g b (k e.on g b d) a
end
section
variable {l:List xV} {m:Nat} {a0:Act} {w0:J} {ty:Nat→J→tT→Prop} {fr:Nat→Bool} {i:Nat} {o:xV}
end
structure PAt (w:J) (P L cap:Nat) (ts:List Tok) (k:Nat) (bad:Bool):Prop where
 p:∃m c,m+k=ts.length∧c+k=cap∧w.heap[P]?=A (r9 #[O (A ⟨L,k*3,Y⟩) m c,xv bad] 189 (0,0))
 l:∃cs:Array tT,w.heap[L]?=A (r9 cs 192 (0,0))∧∀(j:Nat) (u:tT),(bI ts)[j]?=A u→cs[j]?=A u
 k:k<ts.length
 n:ts.length≤16385
 c:ts.length≤cap
 m:cap≤maxLen
theorem PAt.lt{w:J}{P L cap:Nat}{ts:List Tok}{k:Nat}{bad:Bool}(h:PAt w P L cap ts k bad):P<w.heap.size∧L<w.heap.size:=by
 obtain⟨m,c,_,_,a⟩:=h.p;obtain⟨cs,b,_⟩:=h.l;exact⟨(Fx.1 a).1,(Fx.1 b).1⟩
theorem PAt.ne{w:J}{P L cap:Nat}{ts:List Tok}{k:Nat}{bad:Bool}(h:PAt w P L cap ts k bad):P≠L:=by
 obtain⟨m,c,_,_,a⟩:=h.p;obtain⟨cs,b,_⟩:=h.l;exact kA a b (by decide)
theorem PAt.t{w w':J}{P L cap:Nat}{ts:List Tok}{k:Nat}{bad:Bool}(h:PAt w P L cap ts k bad)(a:w'.heap[P]?=w.heap[P]?)(b:w'.heap[L]?=w.heap[L]?):PAt w' P L cap ts k bad:=by
 obtain⟨m,c,d,e,f⟩:=h.p;obtain⟨cs,g,j⟩:=h.l;exact⟨⟨m,c,d,e,a.trans f⟩,⟨cs,b.trans g,j⟩,h.k,h.n,h.c,h.m⟩
theorem PAt.C{w w':J}{P L cap:Nat}{ts:List Tok}{k:Nat}{bad:Bool}(h:PAt w P L cap ts k bad)(a:Gl w w'):PAt w' P L cap ts k bad:=
 h.t (a.block P h.lt.1) (a.block L h.lt.2)
theorem PAt.drew{w:J}{P L cap:Nat}{ts:List Tok}{k:Nat}{bad:Bool}(h:PAt w P L cap ts k bad):PAt w.drew P L cap ts k bad:=h.t Z Z
theorem un:∀(ts:List Tok) (k:Nat) (t:Tok),ts[k]?=A t→∀j u,(fP t)[j]?=A u→(bI ts)[k*3+j]?=A u:=by
 intro ts
 induction ts with
 | nil=>intro k t h;simp at h
 | cons x r a =>
  intro k t h j u hu;have e:bI (x::r)=fP x++bI r:=by unfold bI;rw[List.flatMap_cons]
  have b:(fP x).length=3:=rfl;have c:j<3:=(FU.1 hu).1;rw[e]
  cases k with
  | zero =>
   simp at h;subst h;rw[Gf (by omega),Nat.zero_mul,Nat.zero_add];exact hu
  | succ k =>
   rw[F7 (by omega),b];have:=a k t (by simpa using h) j u hu;rw[show (k+1)*3+j-3=k*3+j by omega];exact this
theorem PAt.tok{w:J}{P L cap:Nat}{ts:List Tok}{k:Nat}{bad:Bool}{t:Tok}(h:PAt w P L cap ts k bad)(a:ts[k]?=A t) :
  w.cell? ⟨L,k*3,Y⟩=A (I tF t.1)∧w.cell? ⟨L,k*3+1,Y⟩=A (tS t.2.1)∧w.cell? ⟨L,k*3+2,Y⟩=A (I U t.2.2):=by
 obtain⟨cs,b,c⟩:=h.l;have e:∀j u,(fP t)[j]?=A u→w.cell? ⟨L,k*3+j,Y⟩=A u:=fun j u hu=>by rw[Gk _ _ _ _ _ _ b];exact c _ _ (un ts k t a j u hu)
 exact⟨e 0 _ Z,e 1 _ Z,e 2 _ Z⟩
theorem PAt.z{w:J}{P L cap:Nat}{ts:List Tok}{k:Nat}{bad:Bool}(h:PAt w P L cap ts k bad) :
  ∃m c,m+k=ts.length∧c+k=cap∧w.cell? ⟨P,0,Y⟩=A (O (A ⟨L,k*3,Y⟩) m c)∧w.cell? ⟨P,1,Y⟩=A (xv bad)∧w.frozen? ⟨P,0,Y⟩=va∧w.frozen? ⟨P,1,Y⟩=false:=by
 obtain⟨m,c,b,d,a⟩:=h.p;exact⟨m,c,b,d,by simp[World.cell?,a],by simp[World.cell?,a],by simp[World.frozen?,a],by simp[World.frozen?,a]⟩
theorem pW{w:J}{P L cap:Nat}{ts:List Tok}{k:Nat}{bad:Bool}{t:Tok}(h:PAt w P L cap ts k bad)(b:ts[k]?=A t) :
  wg vo 92 #[vv (A ⟨P,0,Y⟩)] w fun e w'=>e=wj (xk #[I tF t.1,tS t.2.1,I U t.2.2])∧Gl w w':=by
 obtain⟨m,c,d,f,r,s,_,_⟩:=h.z;obtain⟨t0,t1,t2⟩:=h.tok b;have hm:(0:Int)<m:=by have:=h.k;omega
 have g:0<m:=by omega
 have a:=h.lt;have j:=a.1;have n:=a.2;clear h b a d f;generalize k*3=o at *;generalize t.1=p at *;generalize t.2.1=tx at *;generalize t.2.2=q at *
 go_enter Tryz.func92,Tryz.ntmps92
 go_wp2
 exact bodyPost_ret (v:=xk #[I tF p,tS tx,I U q]) (by simp[results,Tryz.results92,go_sem]) Z ⟨Z,(Fz _ w).alloc (Fy _) _⟩
def ew(n k:Nat) (bad:Bool):Nat:=if bad=va∧k+1<n then k+1 else k
theorem jJ{n k:Nat}{bad:Bool}(h:k<n):ew n k bad<n:=by unfold ew;split<;>omega
theorem qh{n k:Nat}{bad:Bool}:k≤ew n k bad:=by unfold ew;split<;>omega
theorem AN{n k:Nat}:ew n k ur=k:=by unfold ew;rw[oB];rintro ⟨h,_⟩;cases h
theorem Au{n k:Nat}{bad:Bool}(h:¬k+1<n):ew n k bad=k:=by unfold ew;rw[oB];rintro ⟨_,a⟩;exact h a
theorem qo{n k:Nat}(h:k+1<n):ew n k va=k+1:=by unfold ew;rw[oE ⟨Z,h⟩]
def ah(w:J) (P L cap:Nat) (ts:List Tok) (k:Nat) (bad:Bool) (w':J):Prop:=w.grownBy w' (A P)∧PAt w' P L cap ts k bad
theorem PAt.set{w w':J}{P L cap:Nat}{ts:List Tok}{k b:Nat}{bad a:Bool}(h:PAt w P L cap ts k bad)(d:w'.heap[L]?=w.heap[L]?)(e:b<ts.length)
  (f:∃m c,m+b=ts.length∧c+b=cap∧w'.heap[P]?=A (r9 #[O (A ⟨L,b*3,Y⟩) m c,xv a] 189 (0,0))):PAt w' P L cap ts b a:=by
 obtain⟨cs,g,j⟩:=h.l;exact⟨f,⟨cs,d.trans g,j⟩,e,h.n,h.c,h.m⟩
theorem kf{w:J}{P L cap:Nat}{ts:List Tok}{k:Nat}{bad:Bool}(h:PAt w P L cap ts k bad) :
  wg vo 142 #[vv (A ⟨P,0,Y⟩)] w fun e w'=>e=wj (y9 #[])∧ah w P L cap ts (ew ts.length k bad) bad w':=by
 obtain⟨m,c,d,f,B,M,f0,f1⟩:=h.z;have H:=Hd h;have g:c≤maxLen:=by have:=h.m;omega
 have C:m≤c:=by have:=h.c;omega
 unfold maxLen at g;have D:=h.lt.1
 cases bad with
 | true =>
  have b:=Hd (AN (n:=ts.length) (k:=k));clear h d f
  go_enter Tryz.func142,Tryz.ntmps142
  go_wp2
  go_returns
  exact⟨Z,o3 w _,by rw[b.o];exact H.o⟩
 | false =>
  by_cases a:k+1<ts.length
  ·obtain⟨b,j,q,r⟩:=zz4 (qo a) d f a;have s:(1:Int)<m:=by omega
   have t:1<m:=by omega
   have E:(1:Int)≤m:=by omega
   have F:¬(c=1):=by omega
   clear h d f a;obtain⟨o,u⟩:=zzy (k*3);rw[u]at B;have G:=Hd u;clear u
   go_enter Tryz.func142,Tryz.ntmps142
   go_wp2
   go_returns
   refine⟨Z,dO (o3 w _) _ _,?_⟩;rw[b.o];obtain⟨y,z,N,x2,K⟩:=H.o.p;have v:y=m:=by have:=j.o;omega
   have x:z=c:=by have:=q.o;omega
   subst v x;refine H.o.set (FC w _ _ L (fun e=>H.o.ne e.symm)) r.o ⟨y-1,z-1,by omega,by omega,?_⟩;rw[heap_set K 0,show (k+1)*3=o+3 by have:=G.o;omega];rfl
  ·have b:=Hd (Au (bad:=va) a);have s:decide ((1:Int)<m)=false:=by simp;omega
   have t:decide (1<m)=false:=by simp;omega
   clear h d f a
   go_enter Tryz.func142,Tryz.ntmps142
   go_wp2
   go_returns
   exact⟨Z,o3 w _,by rw[b.o];exact H.o⟩
def isT(t:Tok) (texts:List ByteArray):Bool:=(t.1==6||t.1==1)&&texts.any (fun s=>!s.toList.isEmpty&&s.toList==t.2.1.toList)
def kO(w:J) (B off:Nat) (texts:List ByteArray):Prop:=B<w.heap.size∧∀(i:Nat) (s:ByteArray),texts[i]?=A s→w.cell? ⟨B,off+i,Y⟩=A (tS s)
theorem B7{t:Tok}{texts:List ByteArray}{j:Nat}{s:ByteArray}(a:texts[j]?=A s)(h:isT t (texts.take j)=va) :
  isT t (texts.take (j+1))=((t.1==6||t.1==1)&&(!s.toList.isEmpty&&s.toList==t.2.1.toList)):=by
 unfold isT at h ⊢;rw[Gd,a,List.any_append]
 cases b:(t.1==6||t.1==1)
 ·rfl
 ·rw[b]at h;simp only[Bool.true_and]at h ⊢;rw[h];simp
theorem DZ{t:Tok}{texts:List ByteArray}{j:Nat}{s:ByteArray}(a:texts[j]?=A s)(b:(t.1==6||t.1==1)=ur)(h:(!s.toList.isEmpty&&s.toList==t.2.1.toList)=ur):isT t texts=true:=by
 unfold isT;rw[b,Bool.true_and,List.any_eq_true];exact⟨s,FZ a,h⟩
theorem oY{w:J}{P L cap:Nat}{ts:List Tok}{k:Nat}{bad:Bool}{t:Tok}(h:PAt w P L cap ts k bad)(ht:ts[k]?=A t)(B off n c:Nat)(texts:List ByteArray)(hB:kO w B off texts)(hn:texts.length=n)(af:n≤100) :
  wg vo 141 #[vv (A ⟨P,0,Y⟩),O (A ⟨B,off,Y⟩) n c] w fun e w'=>e=wj (xv (!bad&&isT t texts))∧Gl w w':=by
 obtain⟨HC,HB,V,H,z,q⟩:=zz6 (pW h ht) hB hn h (fun (j:Nat) (s:ByteArray)=>@B7 t texts j s) (fun (j:Nat) (s:ByteArray)=>@DZ t texts j s);clear h ht hB hn;obtain⟨f,r⟩:∃f:List ByteArray→Bool,f=isT t:=⟨_,rfl⟩;have H0:Hid (f (texts.take 0)=va):=by show _=_;rw[r];unfold isT;simp
 rw[←r]at z q ⊢;clear r;obtain⟨d,tx,tp⟩:=t
 go_enter Tryz.func141,Tryz.ntmps141
 go_wp2_with fail
 refine FN HC.o ?_;rintro e w1 ⟨rfl,G⟩;go_wp2_with fail
 obtain⟨W0,C⟩:=zzx ((w1.alloc (r9 #[I tF d,tS tx,I U tp] 192)));have K:Gl w W0:=by rw[C];exact G.alloc G.size _
 have x:=oA w1 (r9 #[I tF d,tS tx,I U tp] 192);rw[←C]at x ⊢;obtain⟨HX,u⟩:=zz2 x K;clear C x K
 go_loop [12] (fun i=>∃j:Nat,j≤n∧i=I U j∧f (texts.take j)=va) (fun i=>n-(intOf i).toNat)
 case atStart=>exact⟨0,FR _,Z,H0.o⟩
 case round =>
  obtain⟨j,hj,rfl,M⟩:=hrel;have N:=Hd M;clear M
  by_cases Q:j<n
  ·obtain⟨s,R⟩:∃s,texts[j]?=A s:=⟨texts[j]'(by rw[V.o];exact Q),FD (by rw[V.o];exact Q)⟩;have c0:=(u.o.cell (p:=⟨B,off+j,Y⟩) HB.o.1).trans (HB.o.2 j s R);obtain⟨x0,x1,x2,_,_,_⟩:=cells3 HX.o;obtain⟨_,_,_,_,_,c1,_,_⟩:=(H.o.C u.o).z;obtain⟨HS,g,y⟩:=zz3 R (z.o j s R N.o) (q.o j s R);clear R z q;have no:∀b:Bool,f (texts.take (j+1))=b→b=va→((∃W:Nat,W≤n∧I U ((j:Int)+1)=I U W∧f (texts.take W)=va)∧n-(intOf (I U ((j:Int)+1))).toNat<n-(intOf (I U j)).toNat):=fun b hb X =>⟨⟨j+1,by omega,by go_num,hb.trans X⟩,by simp[intOf];omega⟩
   have D:=Hd no;clear no
   by_cases h1:s.toList=[]
   ·have T:=Hd h1;go_wp2_with fail
    exact D.o _ g.o (by rw[T.o];simp)
   ·by_cases h2:s.toList=tx.toList
    ·have h3:¬tx.toList=[]:=by rw[←h2];exact h1
     have h4:(!tx.toList.isEmpty)=true:=by cases hx:tx.toList with|nil=>exact absurd hx h3|cons _ _=>rfl
     have T:Hid ((!s.toList.isEmpty&&s.toList==tx.toList)=ur):=by show _=_;rw[h2];simp[h3]
     by_cases F:d=6
     ·have ad:((d:Int)==6)=true:=by rw[F];rfl
      have a:=y.o (by show (d==6||d==1)=ur;rw[F];rfl) T.o;have HY:=Hd a;clear F a;go_wp2_with fail
      go_ret;exact⟨by rw[HY.o,Bool.and_true];rfl,u.o⟩
     ·have ad:((d:Int)==6)=false:=by simp;omega
      by_cases v:d=1
      ·have S:((d:Int)==1)=true:=by rw[v];rfl
       have a:=y.o (by show (d==6||d==1)=ur;rw[v];rfl) T.o;have HY:=Hd a;clear F v a;go_wp2_with fail
       go_ret;exact⟨by rw[HY.o,Bool.and_true];rfl,u.o⟩
      ·have S:((d:Int)==1)=false:=by simp;omega
       have E:Hid (((d==6||d==1)&&(!s.toList.isEmpty&&s.toList==tx.toList))=va):=by show _=_;simp[F,v]
       clear F v;go_wp2_with fail
       exact D.o _ g.o E.o
    ·have E:Hid (((d==6||d==1)&&(!s.toList.isEmpty&&s.toList==tx.toList))=va):=by show _=_;simp[h2]
     go_wp2_with fail
     exact D.o _ g.o E.o
  ·obtain rfl:j=n:=by omega
   have e:texts.take j=texts:=by rw[←V.o];exact List.take_length
   have HF:Hid (f texts=va):=by show _=_;rw[←e];exact N.o
   clear e;go_wp2_with fail
   go_ret;exact⟨by rw[HF.o,Bool.and_false];rfl,u.o⟩
theorem ah.h{w w1 b:J}{P L cap:Nat}{ts:List Tok}{k c:Nat}{bad a:Bool}(h:ah w P L cap ts k bad w1)(d:ah w1 P L cap ts c a b):ah w P L cap ts c a b:=
 ⟨o6 h.1 d.1,d.2⟩
theorem ah.t{w w1 a:J}{P L cap:Nat}{ts:List Tok}{k:Nat}{bad:Bool}(h:ah w P L cap ts k bad w1)(b:Gl w1 a):ah w P L cap ts k bad a:=
 ⟨grown_below h.1 b,h.2.C b⟩
theorem ah.u{w w1:J}{P L cap:Nat}{ts:List Tok}{k:Nat}{bad:Bool}(h:ah w.drew P L cap ts k bad w1):ah w P L cap ts k bad w1:=
 ⟨o6 (grown_drewN (o3 w _) 1) h.1,h.2⟩
theorem PAt.h{w w1:J}{P L cap:Nat}{ts:List Tok}{k:Nat}{bad:Bool}(h:PAt w P L cap ts k bad)(a:Gl w w1):ah w P L cap ts k bad w1:=
 ⟨az a _,h.C a⟩
def jU(ts:List Tok) (k:Nat) (bad:Bool) (t:Tok) (texts:List ByteArray):Nat:=if (!bad&&isT t texts)=ur then ew ts.length k bad else k
theorem sY{w:J}{P L cap:Nat}{ts:List Tok}{k:Nat}{bad:Bool}{t:Tok}(h:PAt w P L cap ts k bad)(j:ts[k]?=A t)(B off n c:Nat)(texts:List ByteArray)(hB:kO w B off texts)(p:texts.length=n)(f:n≤100) :
  wg vo 117 #[vv (A ⟨P,0,Y⟩),O (A ⟨B,off,Y⟩) n c] w fun e w'=>e=wj (xv (!bad&&isT t texts))∧ah w P L cap ts (jU ts k bad t texts) bad w':=by
 obtain⟨q,H⟩:=zz2 (oY h j B off n c texts hB p f) h;unfold jU;clear h j hB p;generalize (!bad&&isT t texts)=b at *
 go_enter Tryz.func117,Tryz.ntmps117
 go_wp2_with fail
 refine FN q.o ?_;rintro e w1 ⟨rfl,a⟩
 cases b with
 | false =>
  have g:=Hd a;clear a;go_wp2_with fail
  go_ret;exact⟨Z,H.o.h g.o⟩
 | true =>
  obtain⟨g,r⟩:=zz2 a (kf (H.o.C a));clear a;go_wp2_with fail
  refine FN r.o ?_;rintro e u ⟨rfl,d⟩;have s:=Hd d;clear d;go_wp2_with fail
  go_ret;exact⟨Z,(H.o.h g.o).h s.o⟩
def o0(ts:List Tok) (k:Nat) (bad:Bool) (t:Tok) (x:ByteArray):Nat:=jU ts k bad t [x]
def qV(bad:Bool) (t:Tok) (x:ByteArray):Bool:=!(!bad&&isT t [x])
theorem bK{w:J}(l:List ByteArray):kO (w.alloc (r9 (l.map tS).toArray 9)) w.heap.size 0 l:=
 ⟨by simp,fun i s a=>by
  have b:(w.alloc (r9 (l.map tS).toArray 9)).heap[w.heap.size]?=A (r9 (l.map tS).toArray 9 (0,0)):=oA w _
  rw[Gk _ _ _ _ _ _ b];simp[a]⟩
theorem PAt.q{w:J}{P L cap:Nat}{ts:List Tok}{k:Nat}{bad:Bool}(h:PAt w P L cap ts k bad)(b:Bool):ah w P L cap ts k b (w.setCell ⟨P,1,Y⟩ (xv b)):=by
 refine⟨dO (o3 w _) _ _,?_⟩;obtain⟨m,c,a,d,f⟩:=h.p;refine h.set (FC w _ _ L (fun e=>h.ne e.symm)) h.k ⟨m,c,a,d,?_⟩;rw[heap_set f 1];rfl
theorem zJ{w:J}{P L cap:Nat}{ts:List Tok}{k:Nat}{bad:Bool}{t:Tok}(h:PAt w P L cap ts k bad)(n:ts[k]?=A t)(x:ByteArray) :
  wg vo 121 #[vv (A ⟨P,0,Y⟩),tS x] w fun e w'=>e=wj (y9 #[])∧ah w P L cap ts (o0 ts k bad t x) (qV bad t x) w':=by
 have a:Gl w (w.alloc (r9 #[tS x] 9)):=(Fz _ w).alloc (Fy _) _;obtain⟨p,H⟩:=zz2 (sY (h.C a) n w.heap.size 0 1 1 [x] (bK [x]) Z (by omega)) (h.h a);unfold o0 qV;clear h n a;generalize jU ts k bad t [x]=q at *;obtain⟨b,g⟩:=zzy ((!bad&&isT t [x]));rw[g]at p ⊢;have j:=Hd g;clear g
 go_enter Tryz.func121,Tryz.ntmps121
 go_wp2_with fail
 refine FN p.o ?_;rintro e w1 ⟨rfl,c⟩;have f:=Hd (H.o.h c);clear c
 cases b with
 | true =>
  go_wp2_with fail
  go_returns
  have d:bad=false:=by have:=j.o;cases bad<;>simp at this ⊢
  have e:ah w P L cap ts q va w1:=by rw[←d];exact f.o
  exact⟨Z,e⟩
 | false =>
  obtain⟨_,_,_,_,_,r,f0,f1⟩:=f.o.2.z;go_wp2_with fail
  go_returns
  exact⟨Z,f.o.h (f.o.2.q ur)⟩
theorem bu{w w':J}{P i:Nat}{o:Obj}(b:w.grownBy w' (A P))(h:w.heap[i]?=A o)(a:P≠i):w'.heap[i]?=A o:=an b h (by rintro e;injection e with e;exact a e.symm)
theorem ah.z{w W:J}{P L cap:Nat}{ts:List Tok}{k:Nat}{bad:Bool}(h:ah w P L cap ts k bad W)(c:P<w.heap.size)(d:L<w.heap.size){b:Nat}(a:w.heap.size≤b)(i:Nat)(v:tT):ah w P L cap ts k bad (W.setCell ⟨b,i,Y⟩ v):=
 ⟨bo h.1 a _ _,h.2.t (FC W _ _ P (by show P≠b;omega)) (FC W _ _ L (by show L≠b;omega))⟩
theorem ah.D{w W:J}{P L cap:Nat}{ts:List Tok}{k:Nat}{bad:Bool}(h:ah w P L cap ts k bad W)(o:Obj):ah w P L cap ts k bad (W.alloc o):=h.t ((Fz _ W).alloc (Fy _) _)
theorem ah.q{w W W':J}{P L cap:Nat}{ts:List Tok}{k:Nat}{bad:Bool}(h:ah W P L cap ts k bad W'){b:Nat}{o:Obj}(a:W.heap[b]?=A o)(c:P<w.heap.size)(d:w.heap.size≤b):W'.heap[b]?=A o:=bu h.1 a (by omega)
def bE:Array Value:=#[I tF 0,tS ⟨#[]⟩,I U 0,I U 0,O Y 0 0]
theorem aO{W:J}{b:Nat}{a c c2 d c4:tT}{t:TypeId}(h:W.heap[b]?=A (r9 #[a,c,c2,d,c4] t (0,0)))(v0 v1 v2 v3 v4:tT) :
  (((((W.setCell ⟨b,0,Y⟩ v0).setCell ⟨b,1,Y⟩ v1).setCell ⟨b,2,Y⟩ v2).setCell ⟨b,3,Y⟩ v3).setCell ⟨b,4,Y⟩ v4).heap[b]?=A (r9 #[v0,v1,v2,v3,v4] t (0,0)):=by
 rw[heap_set (heap_set (heap_set (heap_set (heap_set h 0 v0) 1 v1) 2 v2) 3 v3) 4 v4];rfl
theorem bh{fn:Func}{R:Ending→J→Prop}{a:Act}{W:J}{slot T:Nat}{v0 v1 v2 v3 v4:tT}(c:fn.results=#[.cell slot 145])(d:a.tmps.getD slot undef=vv (A ⟨T,0,Y⟩))
  (e:W.heap[T]?=A (r9 #[v0,v1,v2,v3,v4] 145 (0,0))) (f:a.defers=[]) (g:R (wj (xk #[v0,v1,v2,v3,v4])) W):bodyPost vo fn R .ret a W:=by
 obtain⟨h,j,c2,k,c4⟩:=cells5 e;have b:a.tmps[slot]?.getD undef=vv (A ⟨T,0,Y⟩):=by simpa using d
 refine bodyPost_ret (v:=xk #[v0,v1,v2,v3,v4]) ?_ f g;simp[results,c,go_sem,b,h,j,c2,k,c4]
theorem xP{w:J}{P L cap:Nat}{ts:List Tok}{k:Nat}{bad:Bool}{t:Tok}(h:PAt w P L cap ts k bad)(ht:ts[k]?=A t)(tok kind:Nat) :
  wg vo 143 #[vv (A ⟨P,0,Y⟩),I tF tok,I tF kind] w fun e w'=>e=wj (xk #[I tF kind,tS t.2.1,I U 0,I U t.2.2,O Y 0 0])∧
   ah w P L cap ts (ew ts.length k (bad||t.1 != tok)) (bad||t.1 != tok) w':=by
 obtain⟨d,tx,z⟩:=t;obtain⟨b,N⟩:=zzy ((bad||d != tok))
 show wg _ _ _ _ fun e w'=>e=_∧ah w P L cap ts (ew ts.length k (bad||d != tok)) (bad||d != tok) w'
 rw[N];have B:=Hd N;clear N;have n:Gl w (w.alloc (r9 #[I tF 0,tS ⟨#[]⟩,I U 0,I U 0,O Y 0 0] 145)):=(Fz _ w).alloc (Fy _) _;obtain⟨HC,H⟩:=zz2 (pW (h.C n) ht) (h.h n);have f:=h.lt.1;have C:=Hd (h.lt.2);clear h ht n
 go_enter Tryz.func143,Tryz.ntmps143
 go_wp2_with fail
 refine FN HC.o ?_;rintro e w1 ⟨rfl,p⟩;have y:=Hd (H.o.t p);have D:=aa p (oA w (r9 #[I tF 0,tS ⟨#[]⟩,I U 0,I U 0,O Y 0 0] 145)) (by simp);have q:Gl w1 (w1.alloc (r9 #[I tF d,tS tx,I U z] 192)):=(Fz _ w1).alloc (Fy _) _;obtain⟨Q,E,R⟩:=zz3 (oA w1 (r9 #[I tF d,tS tx,I U z] 192)) (y.o.t q) (aa q D (Fx.1 D).1);obtain⟨_,_,_,_,c0,c1,f0,f1⟩:=y.o.2.z;have aq:=y.o.2.lt.1;have F:w.heap.size<w1.heap.size:=(Fx.1 D).1;have S:=Hd D;clear D q p;have fin:∀(W:J) (b:Bool),ah w P L cap ts (ew ts.length k b) b W→∀v0 v1 v2 v3 v4,ah w P L cap ts (ew ts.length k b) b (((((W.setCell ⟨w.heap.size,0,Y⟩ v0).setCell ⟨w.heap.size,1,Y⟩ v1).setCell ⟨w.heap.size,2,Y⟩ v2).setCell ⟨w.heap.size,3,Y⟩ v3).setCell ⟨w.heap.size,4,Y⟩ v4):=fun W b h v0 v1 v2 v3 v4 =>((((h.z f C.o (Fy _) 0 v0).z f C.o (Fy _) 1 v1).z f C.o (Fy _) 2 v2).z f C.o (Fy _) 3 v3).z f C.o (Fy _) 4 v4
 have g:=Hd fin;clear fin
 by_cases M:d=tok
 ·have T:((d:Int) != tok)=false:=by simp;omega
  obtain rfl:bad=b:=by rw[←B.o,M];simp
  have V:=Hd (kf E.o.2);clear M;go_wp2_with fail
  refine FN V.o ?_;rintro e w2 ⟨rfl,a⟩;have c:=a.q R.o f (Fy _);have G:=a.q Q.o f (F8 F);obtain⟨r,s⟩:=zz2 (E.o.h a) c;obtain⟨a0,a1,a2,a3,a4⟩:=cells5 c;have z0:=ab c 0;have z1:=ab c 1;have z2:=ab c 2;have z3:=ab c 3;have z4:=ab c 4;obtain⟨b0,b1,b2,_,_,_⟩:=cells3 G;clear a c G;go_wp2_with fail
  exact bh Tryz.results143 Z (aO s.o _ _ _ _ _) Z ⟨Z,g.o _ _ r.o _ _ _ _ _⟩
 ·have T:((d:Int) != tok)=true:=by simp;omega
  obtain rfl:b=true:=by rw[←B.o];simp[M]
  have u:=(y.o.h (y.o.2.q ur)).D (r9 #[I tF d,tS tx,I U z] 192);have v:=(y.o.2.q ur).q S.o f (Fy _);have j:=(Gj _ (r9 #[I tF d,tS tx,I U z] 192) _ (Fx.1 v).1).trans v;have x:=oA (w1.setCell ⟨P,1,Y⟩ (xv ur)) (r9 #[I tF d,tS tx,I U z] 192);have K:(w1.setCell ⟨P,1,Y⟩ (xv ur)).heap.size=w1.heap.size:=by simp[World.setCell]
  rw[K]at x;obtain⟨V,X,ad,af⟩:=zz4 (kf u.2) u j x;clear M u v j x K;go_wp2_with fail
  refine FN V.o ?_;rintro e w2 ⟨rfl,a⟩;have c:=a.q ad.o f (Fy _);have G:=a.q af.o f (F8 F);obtain⟨r,s⟩:=zz2 (X.o.h a) c;obtain⟨a0,a1,a2,a3,a4⟩:=cells5 c;have z0:=ab c 0;have z1:=ab c 1;have z2:=ab c 2;have z3:=ab c 3;have z4:=ab c 4;obtain⟨b0,b1,b2,_,_,_⟩:=cells3 G;clear a c G;go_wp2_with fail
  exact bh Tryz.results143 Z (aO s.o _ _ _ _ _) Z ⟨Z,g.o _ _ r.o _ _ _ _ _⟩
def jn(w:J) (a:tT) (F:Nat→Prop):Prop:=a=O Y 0 0∨∃(g cap:Nat) (cs:Array tT),F g∧cap≤maxLen∧a=O (A ⟨g,0,Y⟩) 0 cap∧w.heap[g]?=A (r9 cs 145 (0,0))∧cs.size=cap*5
theorem jn.any{w:J}{a:tT}{F:Nat→Prop}(h:jn w a F):∃sp cap,a=O sp 0 cap:=by
 rcases h with h|⟨g,cap,_,_,_,h,_⟩
 ·exact⟨Y,0,h⟩
 ·exact⟨_,cap,h⟩
theorem jn.t{w w':J}{a:tT}{F:Nat→Prop}(d:∀b o,F b→w.heap[b]?=A o→w'.heap[b]?=A o)(h:jn w a F):jn w' a F:=by
 rcases h with h|⟨g,cap,cs,c,e,f,j,k⟩
 ·exact wD h
 ·exact wP ⟨g,cap,cs,c,e,f,d g _ c j,k⟩
theorem jn.D{w:J}{a:tT}{F G:Nat→Prop}(h:jn w a F)(c:∀b,F b→G b):jn w a G:=by
 rcases h with h|⟨g,cap,cs,d,e⟩
 ·exact wD h
 ·exact wP ⟨g,cap,cs,c g d,e⟩
def OwnAt(w:J):Nat→List ac→tT→(Nat→Prop)→Prop
 | 0,ks,a,F=>ks=[]∧jn w a F
 | d+1,ks,a,F=>(ks=[]∧jn w a F)∨
   ∃(g cap:Nat) (cs:Array tT) (c:Nat→Nat→Prop),ks≠[]∧F g∧ks.length≤cap∧cap≤maxLen∧a=O (A ⟨g,0,Y⟩) ks.length cap∧w.heap[g]?=A (r9 cs 145 (0,0))∧cs.size=cap*5∧
    (∀i T,ks[i]?=A T→Fits T∧∃s,(∀m u,(ai T s)[m]?=A u→cs[i*5+m]?=A u)∧OwnAt w d T.z s (c i))∧
    (∀i b,c i b→F b∧b≠g)∧∀i j b,i≠j→c i b→¬c j b
theorem OwnAt.t{w w':J}:∀{d:Nat} {ks:List ac} {c:tT} {F:Nat→Prop},(∀b o,F b→w.heap[b]?=A o→w'.heap[b]?=A o)→OwnAt w d ks c F→OwnAt w' d ks c F:=by
 intro d
 induction d with
 | zero=>intro ks c F a h;exact⟨h.1,h.2.t a⟩
 | succ d j =>
  rintro ks c F a (h|⟨g,cap,cs,k,n,e,p,q,r,t,u,v,f,x⟩)
  ·exact wD ⟨h.1,h.2.t a⟩
  ·refine wP ⟨g,cap,cs,k,n,e,p,q,r,a g _ e t,u,fun i T y=>?_,f,x⟩;obtain⟨z,s,B,C⟩:=v i T y;exact⟨z,s,B,j (fun b o D=>a b o (f i b D).1) C⟩
theorem OwnAt.D{w:J}{d:Nat}{ks:List ac}{c:tT}{F G:Nat→Prop}(h:OwnAt w d ks c F)(a:∀b,F b→G b):OwnAt w d ks c G:=by
 cases d with
 | zero=>exact⟨h.1,h.2.D a⟩
 | succ d =>
  rcases h with h|⟨g,cap,cs,j,k,n,p,q,r,s,t,u,e,v⟩
  ·exact wD ⟨h.1,h.2.D a⟩
  ·exact wP ⟨g,cap,cs,j,k,a g n,p,q,r,s,t,u,fun i b f=>⟨a b (e i b f).1,(e i b f).2⟩,v⟩
theorem OwnAt.C{w w':J}{B d:Nat}{ks:List ac}{a:tT}{F:Nat→Prop}(h:OwnAt w d ks a F)(hF:∀b,F b→b<B)(c:Below B w w'):OwnAt w' d ks a F:=
 h.t fun b _ e f=>(c.block b (hF b e)).trans f
theorem OwnAt.z{w:J}{B:Nat}:∀{d:Nat} {ks:List ac} {a:tT} {F:Nat→Prop},OwnAt w d ks a F→(∀b,F b→b<B)→ap w B d ks a:=by
 intro d
 induction d with
 | zero=>intro ks a F h _;exact⟨h.1,h.2.any⟩
 | succ d c =>
  rintro ks a F (h|⟨g,cap,cs,D,f,j,k,n,p,q,E,r,t,G⟩) hF
  ·exact wD ⟨h.1,h.2.any⟩
  ·refine wP ⟨g,0,cap,f,hF g j,k,n,p,fun i T v=>?_⟩;obtain⟨x,s,y,z⟩:=r i T v;have e:∀m u,(ai T s)[m]?=A u→w.cell? ⟨g,0+i*5+m,Y⟩=A u:=fun m u hu=>by
    rw[Gk _ _ _ _ _ _ q,Nat.zero_add];exact y m u hu
   exact⟨x,s,e 0 _ Z,e 1 _ Z,e 2 _ Z,e 3 _ Z,e 4 _ Z,c z fun b C=>hF b (t i b C).1⟩
theorem OwnAt.more{w:J}:∀{d:Nat} {ks:List ac} {a:tT} {F:Nat→Prop},OwnAt w d ks a F→OwnAt w (d+1) ks a F:=by
 intro d
 induction d with
 | zero=>rintro ks a F h;exact wD h
 | succ d b =>
  rintro ks a F (h|⟨g,cap,cs,c,e,f,j,k,n,p,q,r,t,u⟩)
  ·exact wD h
  ·refine wP ⟨g,cap,cs,c,e,f,j,k,n,p,q,fun i T v=>?_,t,u⟩;obtain⟨x,s,y,z⟩:=r i T v;exact⟨x,s,y,b z⟩
theorem OwnAt.q{w:J}{d:Nat}{ks:List ac}{a:tT}{F:Nat→Prop}(h:OwnAt w d ks a F):∃p cap,a=O p ks.length cap:=by
 cases d with
 | zero=>obtain⟨rfl,h⟩:=h;exact h.any
 | succ d =>
  rcases h with ⟨rfl,h⟩|⟨g,cap,cs,c,e,f,j,k,b,_⟩
  ·exact h.any
  ·exact⟨_,cap,b⟩
theorem OwnAt.nil{w:J}{d:Nat}{a:tT}{F:Nat→Prop}(h:OwnAt w d [] a F):jn w a F:=by
 cases d with
 | zero=>exact h.2
 | succ d =>
  rcases h with h|⟨g,cap,cs,c,b,_⟩
  ·exact h.2
  ·exact absurd Z b
def bC(L B:Nat):Nat→Prop:=fun b=>L≤b∧b<B
def cd(W:J) (L d:Nat) (ks:List ac) (k:Nat) (own:Option Nat) (rows:List (List tT)) (a:Nat→Nat→Prop):Prop:=
 rows.length=k∧(∀r∈rows,r.length=5)∧(∀i T,i<k→ks[i]?=A T→Fits T∧∃s,rows[i]?=A (ai T s)∧OwnAt W d T.z s (a i))∧
  (∀i b,a i b→L≤b∧b<W.heap.size∧own≠A b)∧(∀i j b,i≠j→a i b→¬a j b)∧∀i b,a i b→i<k
theorem sh{W:J}{L n d:Nat}{ks:List ac}{v:tT}{rows:List (List tT)}{r:Nat→Nat→Prop}(w:ks.length=n)(h:W.ownsRow L 145 5 v n rows.flatten)(x:cd W L (d-1) ks n v.ownBlock rows r)(y:d=0→ks=[]) :
  OwnAt W d ks v (bC L W.heap.size):=by
 subst w;obtain⟨M,z,B,C,D,N⟩:=x;rcases h with ⟨Q,⟨rfl,E⟩|⟨g,cap,cur,rfl,p,c,a⟩⟩
 ·have f:ks=[]:=F5 E;subst f
  cases d with
  | zero=>exact⟨Z,wD Z⟩
  | succ d=>exact wD ⟨Z,wD Z⟩
 ·cases d with
  | zero =>
   have f:=y Z;subst f;obtain⟨q,c2,j,c4⟩:=a;exact⟨Z,wP ⟨g,cap,cur,⟨p,(Fx.1 c).1⟩,c2,Z,c,j⟩⟩
  | succ d =>
   by_cases f:ks=[]
   ·subst f;obtain⟨q,c2,j,c4⟩:=a;exact wD ⟨Z,wP ⟨g,cap,cur,⟨p,(Fx.1 c).1⟩,c2,Z,c,j⟩⟩
   ·obtain⟨q,c2,j,c4⟩:=a;refine wP ⟨g,cap,cur,r,f,⟨p,(Fx.1 c).1⟩,q,c2,Z,c,j,fun i T t=>?_,fun i b F=>?_,D⟩
    ·have hi:i<ks.length:=(FU.1 t).1;obtain⟨a1,s,a2,a3⟩:=B i T hi t;refine⟨a1,s,fun m u hu=>?_,a3⟩;have k:=flat5 rows z i m _ u a2 hu;rw[←c4,List.getElem?_take]at k
     split at k
     ·simpa using k
     ·cases k
    ·obtain⟨G,H,K⟩:=C i b F;exact⟨⟨G,H⟩,fun e=>K (by rw[e];rfl)⟩
