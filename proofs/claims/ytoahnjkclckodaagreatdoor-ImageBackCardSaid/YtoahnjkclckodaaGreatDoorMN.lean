/- Parts of one proof, joined; conditions stand in each theorem. -/
import Derived.Test.YtoahnjkclckodaaGreatDoorMM
import Derived.Test.YtoahnjkclckodaaGreatDoorMRI
import Derived.Test.YtoahnjkclckodaaGreatDoorMC
import Derived.Test.YtoahnjkclckodaaGreatDoorMD
import Derived.Test.YtoahnjkclckodaaGreatDoorMT
import Derived.Handy
import Derived.Test.YtoahnjkclckodaaGreatDoorMA
import Derived.Deep.AppendLies
open Go renaming Oper→xV,World→J,Value→tS,Calls→vv
open Bool renaming false→ur,true→tT
open Option renaming some→A,none→Y
open Go.Obj renaming cells→r7
open Go.Value renaming slice→O,bool→xt,int→I,string→r9,pointer→vo,agg→wP,tuple→y9
open Go.IntKind renaming u8→r8,i64→U
open Go.Proofs.Tryz renaming prog→va
open Go.Ending renaming returned→wg
open Or renaming inl→wD,inr→wF
namespace Go.Proofs.YtoahnjkclckodaaGreatDoor
open Go.RowKit
section
variable {P:Program} {l:List xV} {a0:Act} {w0:J} {ty:Nat→J→tS→Prop} {val:Nat→Option Bool} {fr:Nat→Bool} {m:Nat}
def aN(l:List xV):Nat→Nat→Nat→Bool
 | 0,_,_=>ur
 | f+1,j,i=>match l[j]? with
  | some o=>o.after.any fun e=>Region.binds .any e&&(decide (e.on=i)||aN l f e.on i)
  | none=>ur
def Closed(l:List xV) (listed:Array Bool):Prop:=∀(i:Nat) (o:xV),l[i]?=A o→listed.getD i ur=tT→∀e∈o.after,Region.binds .any e=tT→listed.getD e.on ur=tT
theorem dQ{listed:Array Bool}(k:Closed l listed):∀(f j i:Nat) (o:xV),l[j]?=A o→(∀e∈o.after,Region.binds .any e=tT→listed.getD e.on ur=tT)→aN l f j i=tT→listed.getD i ur=true:=by
 intro f
 induction f with
 | zero=>intro j i o _ _ h;cases h
 | succ f n =>
  intro j i o p q h;unfold aN at h;rw[p]at h;obtain⟨e,he,c⟩:=Array.any_eq_true'.1 h;simp only[J4,Bool.or_eq_true,oB]at c;have d:=q e he c.1;rcases c.2 with a|a
  ·rw[←a];exact d
  ·cases f with
   | zero=>cases a
   | succ f =>
    cases b:l[e.on]? with
    | none=>unfold aN at a;rw[b]at a;cases a
    | some g=>exact n e.on i g b (k e.on g b d) a
end
section
variable {l:List xV} {m:Nat} {a0:Act} {w0:J} {ty:Nat→J→tS→Prop} {fr:Nat→Bool} {i:Nat} {o:xV}
end
structure PAt (w:J) (P L cap:Nat) (ts:List Tok) (k:Nat) (bad:Bool):Prop where
 p:∃m c,m+k=ts.length∧c+k=cap∧w.heap[P]?=A (r7 #[O (A ⟨L,k*3,Y⟩) m c,xt bad] 189 (0,0))
 l:∃cs:Array tS,w.heap[L]?=A (r7 cs 192 (0,0))∧∀(j:Nat) (u:tS),(bO ts)[j]?=A u→cs[j]?=A u
 k:k<ts.length
 n:ts.length≤16385
 c:ts.length≤cap
 m:cap≤maxLen
theorem PAt.lt{w:J}{P L cap:Nat}{ts:List Tok}{k:Nat}{bad:Bool}(h:PAt w P L cap ts k bad):P<w.heap.size∧L<w.heap.size:=by
 obtain⟨m,c,_,_,a⟩:=h.p;obtain⟨cs,b,_⟩:=h.l;exact⟨(JL.1 a).1,(JL.1 b).1⟩
theorem PAt.ne{w:J}{P L cap:Nat}{ts:List Tok}{k:Nat}{bad:Bool}(h:PAt w P L cap ts k bad):P≠L:=by
 obtain⟨m,c,_,_,a⟩:=h.p;obtain⟨cs,b,_⟩:=h.l;exact ll a b (by decide)
theorem PAt.K{w w':J}{P L cap:Nat}{ts:List Tok}{k:Nat}{bad:Bool}(h:PAt w P L cap ts k bad)(a:w'.heap[P]?=w.heap[P]?)(b:w'.heap[L]?=w.heap[L]?):PAt w' P L cap ts k bad:=by
 obtain⟨m,c,d,e,f⟩:=h.p;obtain⟨cs,g,j⟩:=h.l;exact⟨⟨m,c,d,e,a.trans f⟩,⟨cs,b.trans g,j⟩,h.k,h.n,h.c,h.m⟩
theorem PAt.C{w w':J}{P L cap:Nat}{ts:List Tok}{k:Nat}{bad:Bool}(h:PAt w P L cap ts k bad)(a:Kr w w'):PAt w' P L cap ts k bad:=
 h.K (a.block P h.lt.1) (a.block L h.lt.2)
theorem PAt.drew{w:J}{P L cap:Nat}{ts:List Tok}{k:Nat}{bad:Bool}(h:PAt w P L cap ts k bad):PAt w.drew P L cap ts k bad:=h.K Z Z
theorem xq:∀(ts:List Tok) (k:Nat) (t:Tok),ts[k]?=A t→∀j u,(gl t)[j]?=A u→(bO ts)[k*3+j]?=A u:=by
 intro ts
 induction ts with
 | nil=>intro k t h;simp at h
 | cons x r a =>
  intro k t h j u hu;have e:bO (x::r)=gl x++bO r:=by unfold bO;rw[List.flatMap_cons]
  have b:(gl x).length=3:=rfl;have c:j<3:=(J3.1 hu).1;rw[e]
  cases k with
  | zero =>
   simp at h;subst h;rw[Kl (by omega),Nat.zero_mul,Nat.zero_add];exact hu
  | succ k =>
   rw[Kd (by omega),b];have:=a k t (by simpa using h) j u hu;rw[show (k+1)*3+j-3=k*3+j by omega];exact this
theorem PAt.tok{w:J}{P L cap:Nat}{ts:List Tok}{k:Nat}{bad:Bool}{t:Tok}(h:PAt w P L cap ts k bad)(a:ts[k]?=A t) :
  w.cell? ⟨L,k*3,Y⟩=A (I r8 t.1)∧w.cell? ⟨L,k*3+1,Y⟩=A (r9 t.2.1)∧w.cell? ⟨L,k*3+2,Y⟩=A (I U t.2.2):=by
 obtain⟨cs,b,c⟩:=h.l;have e:∀j u,(gl t)[j]?=A u→w.cell? ⟨L,k*3+j,Y⟩=A u:=fun j u hu=>by rw[Kq _ _ _ _ _ _ b];exact c _ _ (xq ts k t a j u hu)
 exact⟨e 0 _ Z,e 1 _ Z,e 2 _ Z⟩
theorem PAt.z{w:J}{P L cap:Nat}{ts:List Tok}{k:Nat}{bad:Bool}(h:PAt w P L cap ts k bad) :
  ∃m c,m+k=ts.length∧c+k=cap∧w.cell? ⟨P,0,Y⟩=A (O (A ⟨L,k*3,Y⟩) m c)∧w.cell? ⟨P,1,Y⟩=A (xt bad)∧w.frozen? ⟨P,0,Y⟩=ur∧w.frozen? ⟨P,1,Y⟩=false:=by
 obtain⟨m,c,b,d,a⟩:=h.p;exact⟨m,c,b,d,by simp[World.cell?,a],by simp[World.cell?,a],by simp[World.frozen?,a],by simp[World.frozen?,a]⟩
theorem rL{w:J}{P L cap:Nat}{ts:List Tok}{k:Nat}{bad:Bool}{t:Tok}(h:PAt w P L cap ts k bad)(b:ts[k]?=A t) :
  vv va 92 #[vo (A ⟨P,0,Y⟩)] w fun e w'=>e=wg (wP #[I r8 t.1,r9 t.2.1,I U t.2.2])∧Kr w w':=by
 obtain⟨m,c,d,f,r,s,_,_⟩:=h.z;obtain⟨t0,t1,t2⟩:=h.tok b;have hm:(0:Int)<m:=by have:=h.k;omega
 have g:0<m:=by omega
 have a:=h.lt;have j:=a.1;have n:=a.2;clear h b a d f;generalize k*3=o at *;generalize t.1=p at *;generalize t.2.1=tx at *;generalize t.2.2=q at *
 go_enter Tryz.func92,Tryz.ntmps92
 go_wp2
 exact bodyPost_ret (v:=wP #[I r8 p,r9 tx,I U q]) (by simp[results,Tryz.results92,go_sem]) Z ⟨Z,(JO _ w).alloc (JM _) _⟩
def eO(n k:Nat) (bad:Bool):Nat:=if bad=ur∧k+1<n then k+1 else k
theorem kf{n k:Nat}{bad:Bool}(h:k<n):eO n k bad<n:=by unfold eO;split<;>omega
theorem rW{n k:Nat}{bad:Bool}:k≤eO n k bad:=by unfold eO;split<;>omega
theorem Ea{n k:Nat}:eO n k tT=k:=by unfold eO;rw[oe];rintro ⟨h,_⟩;cases h
theorem DF{n k:Nat}{bad:Bool}(h:¬k+1<n):eO n k bad=k:=by unfold eO;rw[oe];rintro ⟨_,a⟩;exact h a
theorem sk{n k:Nat}(h:k+1<n):eO n k ur=k+1:=by unfold eO;rw[oj ⟨Z,h⟩]
def ah(w:J) (P L cap:Nat) (ts:List Tok) (k:Nat) (bad:Bool) (w':J):Prop:=w.grownBy w' (A P)∧PAt w' P L cap ts k bad
theorem PAt.set{w w':J}{P L cap:Nat}{ts:List Tok}{k b:Nat}{bad a:Bool}(h:PAt w P L cap ts k bad)(d:w'.heap[L]?=w.heap[L]?)(e:b<ts.length)
  (f:∃m c,m+b=ts.length∧c+b=cap∧w'.heap[P]?=A (r7 #[O (A ⟨L,b*3,Y⟩) m c,xt a] 189 (0,0))):PAt w' P L cap ts b a:=by
 obtain⟨cs,g,j⟩:=h.l;exact⟨f,⟨cs,d.trans g,j⟩,e,h.n,h.c,h.m⟩
theorem kR{w:J}{P L cap:Nat}{ts:List Tok}{k:Nat}{bad:Bool}(h:PAt w P L cap ts k bad) :
  vv va 142 #[vo (A ⟨P,0,Y⟩)] w fun e w'=>e=wg (y9 #[])∧ah w P L cap ts (eO ts.length k bad) bad w':=by
 obtain⟨m,c,d,f,B,M,f0,f1⟩:=h.z;have H:=Hd h;have g:c≤maxLen:=by have:=h.m;omega
 have C:m≤c:=by have:=h.c;omega
 unfold maxLen at g;have D:=h.lt.1
 cases bad with
 | true =>
  have b:=Hd (Ea (n:=ts.length) (k:=k));clear h d f
  go_enter Tryz.func142,Tryz.ntmps142
  go_wp2
  go_returns
  exact⟨Z,oT w _,by rw[b.o];exact H.o⟩
 | false =>
  by_cases a:k+1<ts.length
  ·obtain⟨b,j,q,r⟩:=zz4 (sk a) d f a;have s:(1:Int)<m:=by omega
   have t:1<m:=by omega
   have E:(1:Int)≤m:=by omega
   have F:¬(c=1):=by omega
   clear h d f a;obtain⟨o,u⟩:=zzy (k*3);rw[u]at B;have G:=Hd u;clear u
   go_enter Tryz.func142,Tryz.ntmps142
   go_wp2
   go_returns
   refine⟨Z,ec (oT w _) _ _,?_⟩;rw[b.o];obtain⟨y,z,N,x2,K⟩:=H.o.p;have v:y=m:=by have:=j.o;omega
   have x:z=c:=by have:=q.o;omega
   subst v x;refine H.o.set (JQ w _ _ L (fun e=>H.o.ne e.symm)) r.o ⟨y-1,z-1,by omega,by omega,?_⟩;rw[heap_set K 0,show (k+1)*3=o+3 by have:=G.o;omega];rfl
  ·have b:=Hd (DF (bad:=ur) a);have s:decide ((1:Int)<m)=false:=by simp;omega
   have t:decide (1<m)=false:=by simp;omega
   clear h d f a
   go_enter Tryz.func142,Tryz.ntmps142
   go_wp2
   go_returns
   exact⟨Z,oT w _,by rw[b.o];exact H.o⟩
def isT(t:Tok) (texts:List ByteArray):Bool:=(t.1==6||t.1==1)&&texts.any (fun s=>!s.toList.isEmpty&&s.toList==t.2.1.toList)
def lF(w:J) (B off:Nat) (texts:List ByteArray):Prop:=B<w.heap.size∧∀(i:Nat) (s:ByteArray),texts[i]?=A s→w.cell? ⟨B,off+i,Y⟩=A (r9 s)
theorem FM{t:Tok}{texts:List ByteArray}{j:Nat}{s:ByteArray}(a:texts[j]?=A s)(h:isT t (texts.take j)=ur) :
  isT t (texts.take (j+1))=((t.1==6||t.1==1)&&(!s.toList.isEmpty&&s.toList==t.2.1.toList)):=by
 unfold isT at h ⊢;rw[Kj,a,List.any_append]
 cases b:(t.1==6||t.1==1)
 ·rfl
 ·rw[b]at h;simp only[Bool.true_and]at h ⊢;rw[h];simp
theorem Ip{t:Tok}{texts:List ByteArray}{j:Nat}{s:ByteArray}(a:texts[j]?=A s)(b:(t.1==6||t.1==1)=tT)(h:(!s.toList.isEmpty&&s.toList==t.2.1.toList)=tT):isT t texts=true:=by
 unfold isT;rw[b,Bool.true_and,List.any_eq_true];exact⟨s,J8 a,h⟩
theorem qP{w:J}{P L cap:Nat}{ts:List Tok}{k:Nat}{bad:Bool}{t:Tok}(h:PAt w P L cap ts k bad)(ht:ts[k]?=A t)(B off n c:Nat)(texts:List ByteArray)(hB:lF w B off texts)(hn:texts.length=n)(af:n≤100) :
  vv va 141 #[vo (A ⟨P,0,Y⟩),O (A ⟨B,off,Y⟩) n c] w fun e w'=>e=wg (xt (!bad&&isT t texts))∧Kr w w':=by
 obtain⟨HC,HB,V,H,z,q⟩:=zz6 (rL h ht) hB hn h (fun (j:Nat) (s:ByteArray)=>@FM t texts j s) (fun (j:Nat) (s:ByteArray)=>@Ip t texts j s);clear h ht hB hn;obtain⟨f,r⟩:∃f:List ByteArray→Bool,f=isT t:=⟨_,rfl⟩;have H0:Hid (f (texts.take 0)=ur):=by show _=_;rw[r];unfold isT;simp
 rw[←r]at z q ⊢;clear r;obtain⟨d,tx,tp⟩:=t
 go_enter Tryz.func141,Tryz.ntmps141
 go_wp2_with fail
 refine JX HC.o ?_;rintro e w1 ⟨rfl,G⟩;go_wp2_with fail
 obtain⟨W0,C⟩:=zzx ((w1.alloc (r7 #[I r8 d,r9 tx,I U tp] 192)));have K:Kr w W0:=by rw[C];exact G.alloc G.size _
 have x:=oc w1 (r7 #[I r8 d,r9 tx,I U tp] 192);rw[←C]at x ⊢;obtain⟨HX,u⟩:=zz2 x K;clear C x K
 go_loop [12] (fun i=>∃j:Nat,j≤n∧i=I U j∧f (texts.take j)=ur) (fun i=>n-(intOf i).toNat)
 case atStart=>exact⟨0,J0 _,Z,H0.o⟩
 case round =>
  obtain⟨j,hj,rfl,M⟩:=hrel;have N:=Hd M;clear M
  by_cases Q:j<n
  ·obtain⟨s,R⟩:∃s,texts[j]?=A s:=⟨texts[j]'(by rw[V.o];exact Q),JR (by rw[V.o];exact Q)⟩;have c0:=(u.o.cell (p:=⟨B,off+j,Y⟩) HB.o.1).trans (HB.o.2 j s R);obtain⟨x0,x1,x2,_,_,_⟩:=cells3 HX.o;obtain⟨_,_,_,_,_,c1,_,_⟩:=(H.o.C u.o).z;obtain⟨HS,g,y⟩:=zz3 R (z.o j s R N.o) (q.o j s R);clear R z q;have no:∀b:Bool,f (texts.take (j+1))=b→b=ur→((∃W:Nat,W≤n∧I U ((j:Int)+1)=I U W∧f (texts.take W)=ur)∧n-(intOf (I U ((j:Int)+1))).toNat<n-(intOf (I U j)).toNat):=fun b hb X =>⟨⟨j+1,by omega,by go_num,hb.trans X⟩,by simp[intOf];omega⟩
   have D:=Hd no;clear no
   by_cases h1:s.toList=[]
   ·have T:=Hd h1;go_wp2_with fail
    exact D.o _ g.o (by rw[T.o];simp)
   ·by_cases h2:s.toList=tx.toList
    ·have h3:¬tx.toList=[]:=by rw[←h2];exact h1
     have h4:(!tx.toList.isEmpty)=true:=by cases hx:tx.toList with|nil=>exact absurd hx h3|cons _ _=>rfl
     have T:Hid ((!s.toList.isEmpty&&s.toList==tx.toList)=tT):=by show _=_;rw[h2];simp[h3]
     by_cases F:d=6
     ·have ad:((d:Int)==6)=true:=by rw[F];rfl
      have a:=y.o (by show (d==6||d==1)=tT;rw[F];rfl) T.o;have HY:=Hd a;clear F a;go_wp2_with fail
      go_ret;exact⟨by rw[HY.o,Bool.and_true];rfl,u.o⟩
     ·have ad:((d:Int)==6)=false:=by simp;omega
      by_cases v:d=1
      ·have S:((d:Int)==1)=true:=by rw[v];rfl
       have a:=y.o (by show (d==6||d==1)=tT;rw[v];rfl) T.o;have HY:=Hd a;clear F v a;go_wp2_with fail
       go_ret;exact⟨by rw[HY.o,Bool.and_true];rfl,u.o⟩
      ·have S:((d:Int)==1)=false:=by simp;omega
       have E:Hid (((d==6||d==1)&&(!s.toList.isEmpty&&s.toList==tx.toList))=ur):=by show _=_;simp[F,v]
       clear F v;go_wp2_with fail
       exact D.o _ g.o E.o
    ·have E:Hid (((d==6||d==1)&&(!s.toList.isEmpty&&s.toList==tx.toList))=ur):=by show _=_;simp[h2]
     go_wp2_with fail
     exact D.o _ g.o E.o
  ·obtain rfl:j=n:=by omega
   have e:texts.take j=texts:=by rw[←V.o];exact List.take_length
   have HF:Hid (f texts=ur):=by show _=_;rw[←e];exact N.o
   clear e;go_wp2_with fail
   go_ret;exact⟨by rw[HF.o,Bool.and_false];rfl,u.o⟩
theorem ah.h{w w1 b:J}{P L cap:Nat}{ts:List Tok}{k c:Nat}{bad a:Bool}(h:ah w P L cap ts k bad w1)(d:ah w1 P L cap ts c a b):ah w P L cap ts c a b:=
 ⟨o5 h.1 d.1,d.2⟩
theorem ah.u{w w1 a:J}{P L cap:Nat}{ts:List Tok}{k:Nat}{bad:Bool}(h:ah w P L cap ts k bad w1)(b:Kr w1 a):ah w P L cap ts k bad a:=
 ⟨grown_below h.1 b,h.2.C b⟩
theorem ah.z{w w1:J}{P L cap:Nat}{ts:List Tok}{k:Nat}{bad:Bool}(h:ah w.drew P L cap ts k bad w1):ah w P L cap ts k bad w1:=
 ⟨o5 (grown_drewN (oT w _) 1) h.1,h.2⟩
theorem PAt.h{w w1:J}{P L cap:Nat}{ts:List Tok}{k:Nat}{bad:Bool}(h:PAt w P L cap ts k bad)(a:Kr w w1):ah w P L cap ts k bad w1:=
 ⟨aF a _,h.C a⟩
def kx(ts:List Tok) (k:Nat) (bad:Bool) (t:Tok) (texts:List ByteArray):Nat:=if (!bad&&isT t texts)=tT then eO ts.length k bad else k
theorem vy{w:J}{P L cap:Nat}{ts:List Tok}{k:Nat}{bad:Bool}{t:Tok}(h:PAt w P L cap ts k bad)(j:ts[k]?=A t)(B off n c:Nat)(texts:List ByteArray)(hB:lF w B off texts)(p:texts.length=n)(f:n≤100) :
  vv va 117 #[vo (A ⟨P,0,Y⟩),O (A ⟨B,off,Y⟩) n c] w fun e w'=>e=wg (xt (!bad&&isT t texts))∧ah w P L cap ts (kx ts k bad t texts) bad w':=by
 obtain⟨q,H⟩:=zz2 (qP h j B off n c texts hB p f) h;unfold kx;clear h j hB p;generalize (!bad&&isT t texts)=b at *
 go_enter Tryz.func117,Tryz.ntmps117
 go_wp2_with fail
 refine JX q.o ?_;rintro e w1 ⟨rfl,a⟩
 cases b with
 | false =>
  have g:=Hd a;clear a;go_wp2_with fail
  go_ret;exact⟨Z,H.o.h g.o⟩
 | true =>
  obtain⟨g,r⟩:=zz2 a (kR (H.o.C a));clear a;go_wp2_with fail
  refine JX r.o ?_;rintro e u ⟨rfl,d⟩;have s:=Hd d;clear d;go_wp2_with fail
  go_ret;exact⟨Z,(H.o.h g.o).h s.o⟩
def qT(ts:List Tok) (k:Nat) (bad:Bool) (t:Tok) (x:ByteArray):Nat:=kx ts k bad t [x]
def tg(bad:Bool) (t:Tok) (x:ByteArray):Bool:=!(!bad&&isT t [x])
theorem bU{w:J}(l:List ByteArray):lF (w.alloc (r7 (l.map r9).toArray 9)) w.heap.size 0 l:=
 ⟨by simp,fun i s a=>by
  have b:(w.alloc (r7 (l.map r9).toArray 9)).heap[w.heap.size]?=A (r7 (l.map r9).toArray 9 (0,0)):=oc w _
  rw[Kq _ _ _ _ _ _ b];simp[a]⟩
theorem PAt.q{w:J}{P L cap:Nat}{ts:List Tok}{k:Nat}{bad:Bool}(h:PAt w P L cap ts k bad)(b:Bool):ah w P L cap ts k b (w.setCell ⟨P,1,Y⟩ (xt b)):=by
 refine⟨ec (oT w _) _ _,?_⟩;obtain⟨m,c,a,d,f⟩:=h.p;refine h.set (JQ w _ _ L (fun e=>h.ne e.symm)) h.k ⟨m,c,a,d,?_⟩;rw[heap_set f 1];rfl
theorem CO{w:J}{P L cap:Nat}{ts:List Tok}{k:Nat}{bad:Bool}{t:Tok}(h:PAt w P L cap ts k bad)(n:ts[k]?=A t)(x:ByteArray) :
  vv va 121 #[vo (A ⟨P,0,Y⟩),r9 x] w fun e w'=>e=wg (y9 #[])∧ah w P L cap ts (qT ts k bad t x) (tg bad t x) w':=by
 have a:Kr w (w.alloc (r7 #[r9 x] 9)):=(JO _ w).alloc (JM _) _;obtain⟨p,H⟩:=zz2 (vy (h.C a) n w.heap.size 0 1 1 [x] (bU [x]) Z (by omega)) (h.h a);unfold qT tg;clear h n a;generalize kx ts k bad t [x]=q at *;obtain⟨b,g⟩:=zzy ((!bad&&isT t [x]));rw[g]at p ⊢;have j:=Hd g;clear g
 go_enter Tryz.func121,Tryz.ntmps121
 go_wp2_with fail
 refine JX p.o ?_;rintro e w1 ⟨rfl,c⟩;have f:=Hd (H.o.h c);clear c
 cases b with
 | true =>
  go_wp2_with fail
  go_returns
  have d:bad=false:=by have:=j.o;cases bad<;>simp at this ⊢
  have e:ah w P L cap ts q ur w1:=by rw[←d];exact f.o
  exact⟨Z,e⟩
 | false =>
  obtain⟨_,_,_,_,_,r,f0,f1⟩:=f.o.2.z;go_wp2_with fail
  go_returns
  exact⟨Z,f.o.h (f.o.2.q tT)⟩
theorem bE{w w':J}{P i:Nat}{o:Obj}(b:w.grownBy w' (A P))(h:w.heap[i]?=A o)(a:P≠i):w'.heap[i]?=A o:=ap b h (by rintro e;injection e with e;exact a e.symm)
theorem ah.K{w W:J}{P L cap:Nat}{ts:List Tok}{k:Nat}{bad:Bool}(h:ah w P L cap ts k bad W)(c:P<w.heap.size)(d:L<w.heap.size){b:Nat}(a:w.heap.size≤b)(i:Nat)(v:tS):ah w P L cap ts k bad (W.setCell ⟨b,i,Y⟩ v):=
 ⟨bz h.1 a _ _,h.2.K (JQ W _ _ P (by show P≠b;omega)) (JQ W _ _ L (by show L≠b;omega))⟩
theorem ah.N{w W:J}{P L cap:Nat}{ts:List Tok}{k:Nat}{bad:Bool}(h:ah w P L cap ts k bad W)(o:Obj):ah w P L cap ts k bad (W.alloc o):=h.u ((JO _ W).alloc (JM _) _)
theorem ah.q{w W W':J}{P L cap:Nat}{ts:List Tok}{k:Nat}{bad:Bool}(h:ah W P L cap ts k bad W'){b:Nat}{o:Obj}(a:W.heap[b]?=A o)(c:P<w.heap.size)(d:w.heap.size≤b):W'.heap[b]?=A o:=bE h.1 a (by omega)
def bM:Array Value:=#[I r8 0,r9 ⟨#[]⟩,I U 0,I U 0,O Y 0 0]
theorem aX{W:J}{b:Nat}{a c c2 d c4:tS}{t:TypeId}(h:W.heap[b]?=A (r7 #[a,c,c2,d,c4] t (0,0)))(v0 v1 v2 v3 v4:tS) :
  (((((W.setCell ⟨b,0,Y⟩ v0).setCell ⟨b,1,Y⟩ v1).setCell ⟨b,2,Y⟩ v2).setCell ⟨b,3,Y⟩ v3).setCell ⟨b,4,Y⟩ v4).heap[b]?=A (r7 #[v0,v1,v2,v3,v4] t (0,0)):=by
 rw[heap_set (heap_set (heap_set (heap_set (heap_set h 0 v0) 1 v1) 2 v2) 3 v3) 4 v4];rfl
theorem bw{fn:Func}{R:Ending→J→Prop}{a:Act}{W:J}{slot T:Nat}{v0 v1 v2 v3 v4:tS}(c:fn.results=#[.cell slot 145])(d:a.tmps.getD slot undef=vo (A ⟨T,0,Y⟩))
  (e:W.heap[T]?=A (r7 #[v0,v1,v2,v3,v4] 145 (0,0))) (f:a.defers=[]) (g:R (wg (wP #[v0,v1,v2,v3,v4])) W):bodyPost va fn R .ret a W:=by
 obtain⟨h,j,c2,k,c4⟩:=cells5 e;have b:a.tmps[slot]?.getD undef=vo (A ⟨T,0,Y⟩):=by simpa using d
 refine bodyPost_ret (v:=wP #[v0,v1,v2,v3,v4]) ?_ f g;simp[results,c,go_sem,b,h,j,c2,k,c4]
theorem AL{w:J}{P L cap:Nat}{ts:List Tok}{k:Nat}{bad:Bool}{t:Tok}(h:PAt w P L cap ts k bad)(ht:ts[k]?=A t)(tok kind:Nat) :
  vv va 143 #[vo (A ⟨P,0,Y⟩),I r8 tok,I r8 kind] w fun e w'=>e=wg (wP #[I r8 kind,r9 t.2.1,I U 0,I U t.2.2,O Y 0 0])∧
   ah w P L cap ts (eO ts.length k (bad||t.1 != tok)) (bad||t.1 != tok) w':=by
 obtain⟨d,tx,z⟩:=t;obtain⟨b,N⟩:=zzy ((bad||d != tok))
 show vv _ _ _ _ fun e w'=>e=_∧ah w P L cap ts (eO ts.length k (bad||d != tok)) (bad||d != tok) w'
 rw[N];have B:=Hd N;clear N;have n:Kr w (w.alloc (r7 #[I r8 0,r9 ⟨#[]⟩,I U 0,I U 0,O Y 0 0] 145)):=(JO _ w).alloc (JM _) _;obtain⟨HC,H⟩:=zz2 (rL (h.C n) ht) (h.h n);have f:=h.lt.1;have C:=Hd (h.lt.2);clear h ht n
 go_enter Tryz.func143,Tryz.ntmps143
 go_wp2_with fail
 refine JX HC.o ?_;rintro e w1 ⟨rfl,p⟩;have y:=Hd (H.o.u p);have D:=aa p (oc w (r7 #[I r8 0,r9 ⟨#[]⟩,I U 0,I U 0,O Y 0 0] 145)) (by simp);have q:Kr w1 (w1.alloc (r7 #[I r8 d,r9 tx,I U z] 192)):=(JO _ w1).alloc (JM _) _;obtain⟨Q,E,R⟩:=zz3 (oc w1 (r7 #[I r8 d,r9 tx,I U z] 192)) (y.o.u q) (aa q D (JL.1 D).1);obtain⟨_,_,_,_,c0,c1,f0,f1⟩:=y.o.2.z;have aq:=y.o.2.lt.1;have F:w.heap.size<w1.heap.size:=(JL.1 D).1;have S:=Hd D;clear D q p;have fin:∀(W:J) (b:Bool),ah w P L cap ts (eO ts.length k b) b W→∀v0 v1 v2 v3 v4,ah w P L cap ts (eO ts.length k b) b (((((W.setCell ⟨w.heap.size,0,Y⟩ v0).setCell ⟨w.heap.size,1,Y⟩ v1).setCell ⟨w.heap.size,2,Y⟩ v2).setCell ⟨w.heap.size,3,Y⟩ v3).setCell ⟨w.heap.size,4,Y⟩ v4):=fun W b h v0 v1 v2 v3 v4 =>((((h.K f C.o (JM _) 0 v0).K f C.o (JM _) 1 v1).K f C.o (JM _) 2 v2).K f C.o (JM _) 3 v3).K f C.o (JM _) 4 v4
 have g:=Hd fin;clear fin
 by_cases M:d=tok
 ·have T:((d:Int) != tok)=false:=by simp;omega
  obtain rfl:bad=b:=by rw[←B.o,M];simp
  have V:=Hd (kR E.o.2);clear M;go_wp2_with fail
  refine JX V.o ?_;rintro e w2 ⟨rfl,a⟩;have c:=a.q R.o f (JM _);have G:=a.q Q.o f (Ke F);obtain⟨r,s⟩:=zz2 (E.o.h a) c;obtain⟨a0,a1,a2,a3,a4⟩:=cells5 c;have z0:=ab c 0;have z1:=ab c 1;have z2:=ab c 2;have z3:=ab c 3;have z4:=ab c 4;obtain⟨b0,b1,b2,_,_,_⟩:=cells3 G;clear a c G;go_wp2_with fail
  exact bw Tryz.results143 Z (aX s.o _ _ _ _ _) Z ⟨Z,g.o _ _ r.o _ _ _ _ _⟩
 ·have T:((d:Int) != tok)=true:=by simp;omega
  obtain rfl:b=true:=by rw[←B.o];simp[M]
  have u:=(y.o.h (y.o.2.q tT)).N (r7 #[I r8 d,r9 tx,I U z] 192);have v:=(y.o.2.q tT).q S.o f (JM _);have j:=(Kp _ (r7 #[I r8 d,r9 tx,I U z] 192) _ (JL.1 v).1).trans v;have x:=oc (w1.setCell ⟨P,1,Y⟩ (xt tT)) (r7 #[I r8 d,r9 tx,I U z] 192);have K:(w1.setCell ⟨P,1,Y⟩ (xt tT)).heap.size=w1.heap.size:=by simp[World.setCell]
  rw[K]at x;obtain⟨V,X,ad,af⟩:=zz4 (kR u.2) u j x;clear M u v j x K;go_wp2_with fail
  refine JX V.o ?_;rintro e w2 ⟨rfl,a⟩;have c:=a.q ad.o f (JM _);have G:=a.q af.o f (Ke F);obtain⟨r,s⟩:=zz2 (X.o.h a) c;obtain⟨a0,a1,a2,a3,a4⟩:=cells5 c;have z0:=ab c 0;have z1:=ab c 1;have z2:=ab c 2;have z3:=ab c 3;have z4:=ab c 4;obtain⟨b0,b1,b2,_,_,_⟩:=cells3 G;clear a c G;go_wp2_with fail
  exact bw Tryz.results143 Z (aX s.o _ _ _ _ _) Z ⟨Z,g.o _ _ r.o _ _ _ _ _⟩
def jP(w:J) (a:tS) (F:Nat→Prop):Prop:=a=O Y 0 0∨∃(g cap:Nat) (cs:Array tS),F g∧cap≤maxLen∧a=O (A ⟨g,0,Y⟩) 0 cap∧w.heap[g]?=A (r7 cs 145 (0,0))∧cs.size=cap*5
theorem jP.any{w:J}{a:tS}{F:Nat→Prop}(h:jP w a F):∃sp cap,a=O sp 0 cap:=by
 rcases h with h|⟨g,cap,_,_,_,h,_⟩
 ·exact⟨Y,0,h⟩
 ·exact⟨_,cap,h⟩
theorem jP.K{w w':J}{a:tS}{F:Nat→Prop}(d:∀b o,F b→w.heap[b]?=A o→w'.heap[b]?=A o)(h:jP w a F):jP w' a F:=by
 rcases h with h|⟨g,cap,cs,c,e,f,j,k⟩
 ·exact wD h
 ·exact wF ⟨g,cap,cs,c,e,f,d g _ c j,k⟩
theorem jP.N{w:J}{a:tS}{F G:Nat→Prop}(h:jP w a F)(c:∀b,F b→G b):jP w a G:=by
 rcases h with h|⟨g,cap,cs,d,e⟩
 ·exact wD h
 ·exact wF ⟨g,cap,cs,c g d,e⟩
def OwnAt(w:J):Nat→List ac→tS→(Nat→Prop)→Prop
 | 0,ks,a,F=>ks=[]∧jP w a F
 | d+1,ks,a,F=>(ks=[]∧jP w a F)∨
   ∃(g cap:Nat) (cs:Array tS) (c:Nat→Nat→Prop),ks≠[]∧F g∧ks.length≤cap∧cap≤maxLen∧a=O (A ⟨g,0,Y⟩) ks.length cap∧w.heap[g]?=A (r7 cs 145 (0,0))∧cs.size=cap*5∧
    (∀i T,ks[i]?=A T→Fits T∧∃s,(∀m u,(aj T s)[m]?=A u→cs[i*5+m]?=A u)∧OwnAt w d T.z s (c i))∧
    (∀i b,c i b→F b∧b≠g)∧∀i j b,i≠j→c i b→¬c j b
theorem OwnAt.K{w w':J}:∀{d:Nat} {ks:List ac} {c:tS} {F:Nat→Prop},(∀b o,F b→w.heap[b]?=A o→w'.heap[b]?=A o)→OwnAt w d ks c F→OwnAt w' d ks c F:=by
 intro d
 induction d with
 | zero=>intro ks c F a h;exact⟨h.1,h.2.K a⟩
 | succ d j =>
  rintro ks c F a (h|⟨g,cap,cs,k,n,e,p,q,r,t,u,v,f,x⟩)
  ·exact wD ⟨h.1,h.2.K a⟩
  ·refine wF ⟨g,cap,cs,k,n,e,p,q,r,a g _ e t,u,fun i T y=>?_,f,x⟩;obtain⟨z,s,B,C⟩:=v i T y;exact⟨z,s,B,j (fun b o D=>a b o (f i b D).1) C⟩
theorem OwnAt.N{w:J}{d:Nat}{ks:List ac}{c:tS}{F G:Nat→Prop}(h:OwnAt w d ks c F)(a:∀b,F b→G b):OwnAt w d ks c G:=by
 cases d with
 | zero=>exact⟨h.1,h.2.N a⟩
 | succ d =>
  rcases h with h|⟨g,cap,cs,j,k,n,p,q,r,s,t,u,e,v⟩
  ·exact wD ⟨h.1,h.2.N a⟩
  ·exact wF ⟨g,cap,cs,j,k,a g n,p,q,r,s,t,u,fun i b f=>⟨a b (e i b f).1,(e i b f).2⟩,v⟩
theorem OwnAt.C{w w':J}{B d:Nat}{ks:List ac}{a:tS}{F:Nat→Prop}(h:OwnAt w d ks a F)(hF:∀b,F b→b<B)(c:Below B w w'):OwnAt w' d ks a F:=
 h.K fun b _ e f=>(c.block b (hF b e)).trans f
theorem OwnAt.z{w:J}{B:Nat}:∀{d:Nat} {ks:List ac} {a:tS} {F:Nat→Prop},OwnAt w d ks a F→(∀b,F b→b<B)→ax w B d ks a:=by
 intro d
 induction d with
 | zero=>intro ks a F h _;exact⟨h.1,h.2.any⟩
 | succ d c =>
  rintro ks a F (h|⟨g,cap,cs,D,f,j,k,n,p,q,E,r,t,G⟩) hF
  ·exact wD ⟨h.1,h.2.any⟩
  ·refine wF ⟨g,0,cap,f,hF g j,k,n,p,fun i T v=>?_⟩;obtain⟨x,s,y,z⟩:=r i T v;have e:∀m u,(aj T s)[m]?=A u→w.cell? ⟨g,0+i*5+m,Y⟩=A u:=fun m u hu=>by
    rw[Kq _ _ _ _ _ _ q,Nat.zero_add];exact y m u hu
   exact⟨x,s,e 0 _ Z,e 1 _ Z,e 2 _ Z,e 3 _ Z,e 4 _ Z,c z fun b C=>hF b (t i b C).1⟩
theorem OwnAt.more{w:J}:∀{d:Nat} {ks:List ac} {a:tS} {F:Nat→Prop},OwnAt w d ks a F→OwnAt w (d+1) ks a F:=by
 intro d
 induction d with
 | zero=>rintro ks a F h;exact wD h
 | succ d b =>
  rintro ks a F (h|⟨g,cap,cs,c,e,f,j,k,n,p,q,r,t,u⟩)
  ·exact wD h
  ·refine wF ⟨g,cap,cs,c,e,f,j,k,n,p,q,fun i T v=>?_,t,u⟩;obtain⟨x,s,y,z⟩:=r i T v;exact⟨x,s,y,b z⟩
theorem OwnAt.q{w:J}{d:Nat}{ks:List ac}{a:tS}{F:Nat→Prop}(h:OwnAt w d ks a F):∃p cap,a=O p ks.length cap:=by
 cases d with
 | zero=>obtain⟨rfl,h⟩:=h;exact h.any
 | succ d =>
  rcases h with ⟨rfl,h⟩|⟨g,cap,cs,c,e,f,j,k,b,_⟩
  ·exact h.any
  ·exact⟨_,cap,b⟩
theorem OwnAt.nil{w:J}{d:Nat}{a:tS}{F:Nat→Prop}(h:OwnAt w d [] a F):jP w a F:=by
 cases d with
 | zero=>exact h.2
 | succ d =>
  rcases h with h|⟨g,cap,cs,c,b,_⟩
  ·exact h.2
  ·exact absurd Z b
def bI(L B:Nat):Nat→Prop:=fun b=>L≤b∧b<B
def cI(W:J) (L d:Nat) (ks:List ac) (k:Nat) (own:Option Nat) (rows:List (List tS)) (a:Nat→Nat→Prop):Prop:=
 rows.length=k∧(∀r∈rows,r.length=5)∧(∀i T,i<k→ks[i]?=A T→Fits T∧∃s,rows[i]?=A (aj T s)∧OwnAt W d T.z s (a i))∧
  (∀i b,a i b→L≤b∧b<W.heap.size∧own≠A b)∧(∀i j b,i≠j→a i b→¬a j b)∧∀i b,a i b→i<k
theorem uC{W:J}{L n d:Nat}{ks:List ac}{v:tS}{rows:List (List tS)}{r:Nat→Nat→Prop}(w:ks.length=n)(h:W.ownsRow L 145 5 v n rows.flatten)(x:cI W L (d-1) ks n v.ownBlock rows r)(y:d=0→ks=[]) :
  OwnAt W d ks v (bI L W.heap.size):=by
 subst w;obtain⟨M,z,B,C,D,N⟩:=x;rcases h with ⟨Q,⟨rfl,E⟩|⟨g,cap,cur,rfl,p,c,a⟩⟩
 ·have f:ks=[]:=Kb E;subst f
  cases d with
  | zero=>exact⟨Z,wD Z⟩
  | succ d=>exact wD ⟨Z,wD Z⟩
 ·cases d with
  | zero =>
   have f:=y Z;subst f;obtain⟨q,c2,j,c4⟩:=a;exact⟨Z,wF ⟨g,cap,cur,⟨p,(JL.1 c).1⟩,c2,Z,c,j⟩⟩
  | succ d =>
   by_cases f:ks=[]
   ·subst f;obtain⟨q,c2,j,c4⟩:=a;exact wD ⟨Z,wF ⟨g,cap,cur,⟨p,(JL.1 c).1⟩,c2,Z,c,j⟩⟩
   ·obtain⟨q,c2,j,c4⟩:=a;refine wF ⟨g,cap,cur,r,f,⟨p,(JL.1 c).1⟩,q,c2,Z,c,j,fun i T t=>?_,fun i b F=>?_,D⟩
    ·have hi:i<ks.length:=(J3.1 t).1;obtain⟨a1,s,a2,a3⟩:=B i T hi t;refine⟨a1,s,fun m u hu=>?_,a3⟩;have k:=flat5 rows z i m _ u a2 hu;rw[←c4,List.getElem?_take]at k
     split at k
     ·simpa using k
     ·cases k
    ·obtain⟨G,H,K⟩:=C i b F;exact⟨⟨G,H⟩,fun e=>K (by rw[e];rfl)⟩
