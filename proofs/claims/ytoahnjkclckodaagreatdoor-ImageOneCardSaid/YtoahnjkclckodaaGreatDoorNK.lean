/- Parts of one proof, joined; conditions stand in each theorem. -/
import Derived.Test.YtoahnjkclckodaaGreatDoorNJ
open Option renaming none→Y,some→A
open Go renaming World→J,Value→tT,Calls→wg
open Go.Value renaming int→I,agg→xk,string→tS,bool→xv,func→z7,slice→O,pointer→vv
open Go.IntKind renaming i64→U,u8→tF
open Go.Proofs.Tryz renaming prog→vo
open Go.Ending renaming returned→wj
open Or renaming inl→wD,inr→wP
namespace Go.Proofs.YtoahnjkclckodaaGreatDoor
set_option maxHeartbeats 1000000
set_option maxRecDepth 100000
open Go.RowKit
def ej(t:ac):Bool:=!cS t
def hasName(x:ByteArray) (t:ac):Bool:=t.h.data.toList==x.data.toList
def gC(q:ac→Bool):List ac→Nat→Option Nat
 | [],_=>Y
 | K::l,k=>if q K then A k else gC q l (k+1)
theorem qe(q:ac→Bool):∀(l:List ac) (m k:Nat) (K:ac),l[k]?=A K→q K=true→(∀(j:Nat) (z:ac),j<k→l[j]?=A z→q z=false)→gC q l m=A (m+k)
 | [],m,k,K,h,_,_=>by simp at h
 | z::l,m,0,K,h,he,_=>by
  simp only[List.getElem?_cons_zero,o7]at h;subst h;unfold gC;rw[oE he];rfl
 | z::l,m,k+1,K,h,he,a=>by
  rw[Gg]at h;have b:=a 0 z (by omega) Z;unfold gC;rw[b];simp only[F4,o1];rw[qe q l (m+1) k K h he (fun j c f e=>a (j+1) c (by omega) (by rw[Gg];exact e))]
  congr 1;omega
theorem od(q:ac→Bool):∀(l:List ac) (m:Nat),(∀(j:Nat) (z:ac),l[j]?=A z→q z=false)→gC q l m=Y
 | [],m,_=>rfl
 | z::l,m,a=>by
  unfold gC;rw[a 0 z Z];simp only[F4,o1];exact od q l (m+1) (fun j b c=>a (j+1) b (by rw[Gg];exact c))
theorem qH:∀(l:List ac) (m:Nat),(match gC ej l m with|some k=>k=m+f7 l|none=>f7 l=l.length)
 | [],m=>rfl
 | z::l,m=>by
  unfold gC f7;rw[List.takeWhile_cons]
  cases h:cS z with
  | true =>
   have a:ej z=false:=by unfold ej;rw[h];rfl
   simp only[a,F4,o1,o4,F9];have:=qH l (m+1);unfold f7 at this
   cases hi:gC ej l (m+1) with
   | none =>
    rw[hi]at this;have this:(List.takeWhile cS l).length=l.length:=this
    show (List.takeWhile cS l).length+1=l.length+1
    omega
   | some k =>
    rw[hi]at this;have this:k=m+1+(List.takeWhile cS l).length:=this
    show k=m+((List.takeWhile cS l).length+1)
    omega
  | false =>
   have a:ej z=true:=by unfold ej;rw[h];rfl
   simp[a]
theorem s7(x:ByteArray):∀(l:List ac) (m:Nat),(gC (hasName x) l m).isSome=(jD x (l.map ac.h) m).isSome
 | [],m=>rfl
 | z::l,m=>by
  unfold gC hasName;rw[List.map_cons];unfold jD
  cases h:(z.h.data.toList==x.data.toList) with
  | true=>simp
  | false =>
   simp only[F4,o1];exact s7 x l (m+1)
def uI(w:J) (n:Nat) (l:List ac) (q:ac→Bool) (i:tT) (W:J):Prop:=∃k:Nat,k≤n∧i=I U (k:Int)∧Gl w W∧(∀(j:Nat) (z:ac),j<k→l[j]?=A z→q z=false)
theorem zu(T:ac)(s:tT)(w:J) :
  wg vo 153 #[xk #[I tF T.q,tS T.h,I U T.u,I U T.t,s]] w fun e w'=>e=wj (xv (ej T))∧Gl w w':=by
 have f:Gl w (w.alloc (Obj.cells #[I tF T.q,tS T.h,I U T.u,I U T.t,s] 145)):=(Fz _ w).alloc (Fy _) _;have a:=Hd f;obtain⟨k,b⟩:=zzy (T.q);have c:Hid (ej T = !([5,6,7].contains k)):=by show _=_;rw[←b];rfl
 obtain⟨j,q,r,t,u⟩:=cells5 (oA w (Obj.cells #[I tF T.q,tS T.h,I U T.u,I U T.t,s] 145));rw[b]at j ⊢;rw[b]at a;clear f b
 by_cases g:k=5
 ·subst g
  go_enter Tryz.func153,Tryz.ntmps153
  go_wp2
  go_ret;exact⟨by rw[c.o];rfl,a.o⟩
 by_cases h:k=6
 ·subst h
  go_enter Tryz.func153,Tryz.ntmps153
  go_wp2
  go_ret;exact⟨by rw[c.o];rfl,a.o⟩
 by_cases i:k=7
 ·subst i
  go_enter Tryz.func153,Tryz.ntmps153
  go_wp2
  go_ret;exact⟨by rw[c.o];rfl,a.o⟩
 have l:Hid (ej T=true):=by
  show _=_
  rw[c.o];simp[g,h,i]
 have m:¬((k:Int)=5):=by omega
 have n:¬((k:Int)=6):=by omega
 have p:¬((k:Int)=7):=by omega
 go_enter Tryz.func153,Tryz.ntmps153
 go_wp2
 go_ret;exact⟨by rw[l.o];simp[m,n,p],a.o⟩
theorem Dp(Ts:List ac)(v:tT)(T:Nat)(w:J)(a:ap w w.heap.size (T+1) Ts v)(D:Ts.length≤1000000) :
  wg vo 152 #[v,z7 (.func 153) #[] #[]] w (fun e w'=>e=wj (I U (ek (gC ej Ts 0)))∧Gl w w'):=by
 obtain⟨p,c,rfl⟩:=a.h;obtain⟨n,E⟩:=zzy (Ts.length);have R:=Hd (fun W (V:Gl w W)=>a.C V);rw[E]at R D ⊢;have G:=Hd E;clear a E
 go_enter Tryz.func152,Tryz.ntmps152
 go_wp2
 go_loopw [8] (uI w n Ts ej) (fun i _=>n-(intOf i).toNat)
 case atStart=>exact⟨0,FR _,Z,Fz _ _,fun j z X=>by omega⟩
 case round =>
  obtain⟨k,hk,rfl,y,l⟩:=hrel;have ad:(0:Int)≤k:=by omega
  obtain⟨H,g⟩:=zz2 y l;clear l
  by_cases L:k<n
  ·have af:(k:Int)<n:=by omega
   obtain⟨K,B⟩:∃K,Ts[k]?=A K:=⟨_,FD (by rw[G.o];exact L)⟩;have a:=R.o wr y;rcases a with ⟨rfl,_⟩|⟨b,off,cap,h1,h2,h3,h4,he,S⟩
   ·simp at B
   rw[G.o]at he;injection he with e1 _ e3
   subst e1;subst e3;obtain⟨m,s,c0,c1,c2,c3,c4,q⟩:=S k K B;obtain⟨ps,N,rfl⟩:=q.h;obtain⟨P,r⟩:=zzy (K.z.length);rw[r]at c4;have HK:=Hd (zu K (O ps P N) wr);have t:Hid (Ts[k]?=A K):=B;clear m q S h1 h2 h3 h4 r B y;go_wp2_with fail
   refine HK.o.mono ?_;rintro e w1 ⟨rfl,u⟩;have x:=Hd (H.o.trans (u.mono H.o.size));clear u c0 c1 c2 c3 c4
   cases C:ej K with
   | true =>
    have Q:=Hd (qe ej Ts 0 k K t.o C g.o);clear C;go_wp2_with fail
    go_ret;exact⟨by rw[Q.o,Nat.zero_add];rfl,x.o⟩
   | false =>
    have HQ:=Hd C;clear C;go_wp2_with fail
    exact⟨⟨k+1,by omega,by go_num,x.o,fun j z X f=>by
     by_cases h:j=k
     ·subst h;rw[t.o]at f;injection f with f
      rw[←f];exact HQ.o
     ·exact g.o j z (by omega) f⟩,by simp[intOf];omega⟩
  ·have Q:Hid (gC ej Ts 0=Y):=od _ Ts 0 (fun j z f=>g.o j z (by
    have:=(FU.1 f).1;rw[G.o]at this
    omega) f)
   clear y;go_wp2_with fail
   go_ret;exact⟨by rw[Q.o];rfl,H.o⟩
theorem Ad(Ts:List ac)(v:tT)(r:Nat)(w:J)(f:ap w w.heap.size (r+1) Ts v)(h:Ts.length≤1000000) :
  wg vo 128 #[v] w (fun e w'=>e=wj (I U (f7 Ts:Int))∧Gl w w'):=by
 obtain⟨p,c,s⟩:=f.h;obtain⟨a,g⟩:=zz2 (Dp Ts v r w f h) (qH Ts 0);rw[s]at a ⊢;obtain⟨n,j⟩:=zzy (Ts.length);obtain⟨m,hm⟩:=zzy (f7 Ts);rw[hm,j]at g;rw[j]at a ⊢;rw[hm];clear f s j hm h
 cases hi:gC ej Ts 0 with
 | none =>
  rw[hi]at g a;have l:m=n:=g.o;subst l;have a:Hid (wg vo 152 #[O p m c,z7 (.func 153) #[] #[]] w (fun e w'=>e=wj (I U (-1))∧Gl w w')):=a;clear g hi
  go_enter Tryz.func128,Tryz.ntmps128
  go_wp2_with fail
  refine a.o.mono ?_;rintro e w1 ⟨rfl,b⟩;have q:=Hd b;clear b a;go_wp2_with fail
  go_ret;exact⟨Z,q.o⟩
 | some k =>
  rw[hi]at g a;have i:k=0+m:=g.o;rw[Nat.zero_add]at i;subst i;have a:Hid (wg vo 152 #[O p n c,z7 (.func 153) #[] #[]] w (fun e w'=>e=wj (I U (k:Int))∧Gl w w')):=a;have t:¬((k:Int)<0):=by omega
  have u:(0:Int)≤k:=by omega
  clear g hi
  go_enter Tryz.func128,Tryz.ntmps128
  go_wp2_with fail
  refine a.o.mono ?_;rintro e w1 ⟨rfl,b⟩;have q:=Hd b;clear b a;go_wp2_with fail
  go_ret;exact⟨Z,q.o⟩
theorem yo(K:ac)(s:tT)(x:ByteArray)(T:Nat)(w:J)(b:w.cell? ⟨T,1,Y⟩=A (tS x)) :
  wg vo 127 #[xk #[I tF K.q,tS K.h,I U K.u,I U K.t,s],vv (A ⟨T,0,Y⟩)] w fun e w'=>e=wj (xv (hasName x K))∧Gl w w':=by
 have c:=fx b;have a:Gl w (w.alloc (Obj.cells #[I tF K.q,tS K.h,I U K.u,I U K.t,s] 145)):=(Fz _ w).alloc (Fy _) _;have f:=(a.cell (p:=⟨T,1,Y⟩) c).trans b;have g:=Hd a;clear a
 go_enter Tryz.func127,Tryz.ntmps127
 go_wp2
 go_ret;exact⟨by unfold hasName;rw[FS,FS];rfl,g.o⟩
theorem Cd(x:ByteArray)(T:Nat)(Ts:List ac)(v:tT)(dd:Nat)(w:J)(a:ap w w.heap.size (dd+1) Ts v)(E:Ts.length≤1000000)(G:w.cell? ⟨T,1,Y⟩=A (tS x)) :
  wg vo 152 #[v,z7 (.func 127) #[] #[vv (A ⟨T,0,Y⟩)]] w (fun e w'=>e=wj (I U (ek (gC (hasName x) Ts 0)))∧Gl w w'):=by
 obtain⟨p,c,rfl⟩:=a.h;obtain⟨n,H⟩:=zzy (Ts.length);have HV:=Hd (fun W (L:Gl w W)=>a.C L);have N:=Hd (fun W (L:Gl w W)=>(L.cell (p:=⟨T,1,Y⟩) (fx G)).trans G);rw[H]at HV E ⊢;have P:=Hd H;clear a H G
 go_enter Tryz.func152,Tryz.ntmps152
 go_wp2
 go_loopw [8] (uI w n Ts (hasName x)) (fun i _=>n-(intOf i).toNat)
 case atStart=>exact⟨0,FR _,Z,Fz _ _,fun j z hj=>by omega⟩
 case round =>
  obtain⟨k,hk,rfl,l,m⟩:=hrel;have ad:(0:Int)≤k:=by omega
  obtain⟨Q,g⟩:=zz2 l m;clear m
  by_cases R:k<n
  ·have af:(k:Int)<n:=by omega
   obtain⟨K,C⟩:∃K,Ts[k]?=A K:=⟨_,FD (by rw[P.o];exact R)⟩;have a:=HV.o wr l;rcases a with ⟨rfl,_⟩|⟨b,off,cap,h1,h2,h3,h4,he,h6⟩
   ·simp at C
   rw[P.o]at he;injection he with e1 _ e3
   subst e1;subst e3;obtain⟨q,s,c0,c1,c2,c3,c4,r⟩:=h6 k K C;obtain⟨ps,S,rfl⟩:=r.h;obtain⟨V,t⟩:=zzy (K.z.length);rw[t]at c4;have HK:=Hd (yo K (O ps V S) x T wr (N.o wr l));have u:Hid (Ts[k]?=A K):=C;clear q r h6 h1 h2 h3 h4 t C l;go_wp2_with fail
   refine HK.o.mono ?_;rintro e w1 ⟨rfl,y⟩;have B:=Hd (Q.o.trans (y.mono Q.o.size));clear y c0 c1 c2 c3 c4
   cases D:(hasName x) K with
   | true =>
    have X:=Hd (qe (hasName x) Ts 0 k K u.o D g.o);clear D;go_wp2_with fail
    go_ret;exact⟨by rw[X.o,Nat.zero_add];rfl,B.o⟩
   | false =>
    have HQ:=Hd D;clear D;go_wp2_with fail
    exact⟨⟨k+1,by omega,by go_num,B.o,fun j z hj f=>by
     by_cases h:j=k
     ·subst h;rw[u.o]at f;injection f with f
      rw[←f];exact HQ.o
     ·exact g.o j z (by omega) f⟩,by simp[intOf];omega⟩
  ·have X:Hid (gC (hasName x) Ts 0=Y):=od _ Ts 0 (fun j z f=>g.o j z (by
    have:=(FU.1 f).1;rw[P.o]at this
    omega) f)
   clear l;go_wp2_with fail
   go_ret;exact⟨by rw[X.o];rfl,Q.o⟩
theorem Ac(x:ByteArray)(T:Nat)(Ts:List ac)(v:tT)(i:Nat)(w:J)(f:ap w w.heap.size (i+1) Ts v)(g:Ts.length≤1000000)(j:w.cell? ⟨T,1,Y⟩=A (tS x)) :
  wg vo 126 #[v,z7 (.func 127) #[] #[vv (A ⟨T,0,Y⟩)]] w (fun e w'=>e=wj (xv (idxOf x (Ts.map ac.h)).isSome)∧Gl w w'):=by
 have a:=Hd (Cd x T Ts v i w f g j);have l:Hid ((idxOf x (Ts.map ac.h)).isSome=(gC (hasName x) Ts 0).isSome):=(s7 x Ts 0).symm;rw[l.o];obtain⟨p,c,m⟩:=f.h;rw[m]at a ⊢;clear f g j l m
 cases hi:gC (hasName x) Ts 0 with
 | none =>
  rw[hi]at a;have a:Hid (wg vo 152 #[O p Ts.length c,z7 (.func 127) #[] #[vv (A ⟨T,0,Y⟩)]] w (fun e w'=>e=wj (I U (-1))∧Gl w w')):=a;clear hi
  go_enter Tryz.func126,Tryz.ntmps126
  go_wp2_with fail
  refine a.o.mono ?_;rintro e w1 ⟨rfl,b⟩;have h:=Hd b;clear b a;go_wp2_with fail
  go_ret;exact⟨Z,h.o⟩
 | some k =>
  rw[hi]at a;have a:Hid (wg vo 152 #[O p Ts.length c,z7 (.func 127) #[] #[vv (A ⟨T,0,Y⟩)]] w (fun e w'=>e=wj (I U (k:Int))∧Gl w w')):=a;have n:(0:Int)≤k:=by omega
  clear hi
  go_enter Tryz.func126,Tryz.ntmps126
  go_wp2_with fail
  refine a.o.mono ?_;rintro e w1 ⟨rfl,b⟩;have h:=Hd b;clear b a;go_wp2_with fail
  go_ret;exact⟨Z,h.o⟩
structure MkB (F:Nat→Prop) (d M:Nat) (ts:List ay) (rs:List aK) (vT vR:tT) (W:J):Prop where
 f:∀b,F b→b<W.heap.size∧¬aZ M [vT,vR] b
 m:∃x2 x3 x4 x5 x6 x7,W.heap[M]?=A (Obj.cells #[vT,vR,x2,x3,x4,x5,x6,x7] 202 (0,0))
 t:aw W F 118 eD ts vT
 r:aw W F 159 (fh d) rs vR
section
variable {F F':Nat→Prop} {d M:Nat} {ts:List ay} {rs:List aK} {vT vR:tT} {W W':J}
theorem MkB.lt(h:MkB F d M ts rs vT vR W):M<W.heap.size:=by
 obtain⟨x2,x3,x4,x5,x6,x7,hm⟩:=h.m;exact (Fx.1 hm).1
theorem MkB.h(h:MkB F d M ts rs vT vR W){b:Nat}(a:aZ M [vT,vR] b):b<W.heap.size:=by
 rcases a with rfl|⟨v,c,a⟩
 ·exact h.lt
 ·simp only[Ge,Gc,o9]at c;rcases c with rfl|rfl
  ·exact h.t.lt a
  ·exact h.r.lt a
theorem MkB.upd(h:MkB F d M ts rs vT vR W)(c:W.heap.size≤W'.heap.size)(e:∀b,(F b∨aZ M [vT,vR] b)→W'.heap[b]?=W.heap[b]?):MkB F d M ts rs vT vR W':=by
 have i:∀b,F b→∀o,W.heap[b]?=A o→W'.heap[b]?=A o:=fun b a o k=>(e b (wD a)).trans k
 have j:∀v∈[vT,vR],∀g,v.ownBlock=A g→W'.heap[g]?=W.heap[g]?:=fun v l g n=>e g (wP (wP ⟨v,l,n⟩))
 obtain⟨x2,x3,x4,x5,x6,x7,hm⟩:=h.m;exact⟨fun b a=>⟨FG (h.f b a).1 c,(h.f b a).2⟩,⟨x2,x3,x4,x5,x6,x7,(e M (wP (wD Z))).trans hm⟩,h.t.t (j _ (by simp)) i (fun _ h=>h),h.r.t (j _ (by simp)) i (fun _ h=>h)⟩
theorem MkB.C(h:MkB F d M ts rs vT vR W)(e:Gl W W'):MkB F d M ts rs vT vR W':=
 h.upd e.size fun b a=>e.block b (by rcases a with c|c;exact (h.f b c).1;exact h.h c)
theorem MkB.row_t(h:MkB F d M ts rs vT vR W):eD.h W (fun b=>b<W.heap.size) ts vT:=h.t.h (fun b a=>(h.f b a).1) (fun _g c=>h.t.lt c)
theorem MkB.row_r(h:MkB F d M ts rs vT vR W):(fh d).h W (fun b=>b<W.heap.size) rs vR:=h.r.h (fun b a=>(h.f b a).1) (fun _g c=>h.r.lt c)
theorem MkB.z(h:MkB F d M ts rs vT vR W):W.cell? ⟨M,0,Y⟩=A vT∧W.cell? ⟨M,1,Y⟩=A vR:=by
 obtain⟨x2,x3,x4,x5,x6,x7,hm⟩:=h.m;exact⟨by rw[Gk _ _ _ _ _ _ hm];rfl,by rw[Gk _ _ _ _ _ _ hm];rfl⟩
theorem MkB.pushT{j:J}{x:ay}{us vs:List tT}{g cap n:Nat}(h:MkB F d M ts rs vT vR j)(y:ts.length=n)(z:eD.z j F ts us)(B:eD.at_ j F x vs)(c:vT.ownBlock=A g∨j.heap.size≤g)
  (l:Chg (fun b=>vT.ownBlock=A b) j W) (o:W.ownsRow 0 118 eD.n (O (A ⟨g,0,Y⟩) (n+1) cap) (n+1) (us++vs)) :
  MkB F d M (ts++[x]) rs (O (A ⟨g,0,Y⟩) (n+1) cap) vR (W.setCell ⟨M,0,Y⟩ (O (A ⟨g,0,Y⟩) (n+1) cap))∧Chg (aZ M [vT,vR]) j (W.setCell ⟨M,0,Y⟩ (O (A ⟨g,0,Y⟩) (n+1) cap))∧W.heap[M]?=j.heap[M]?:=by
 obtain⟨x2,x3,x4,x5,x6,x7,hm⟩:=h.m;have k:=row_ne hm h.t (by decide);have hw:∀b,b≠M→(W.setCell ⟨M,0,Y⟩ (O (A ⟨g,0,Y⟩) (n+1) cap)).heap[b]?=W.heap[b]?:=fun b a=>FC W ⟨M,0,Y⟩ _ b a
 have u:W.heap[M]?=j.heap[M]?:=l.q M h.lt k;have q:g≠M:=by
  rcases c with c|c
  ·exact fun e=>k (e ▸ c)
  ·have:=h.lt;omega
 have hF:∀b,F b→b<j.heap.size∧vT.ownBlock≠A b∧b≠M:=fun b a=>⟨(h.f b a).1,fun e=>(h.f b a).2 (wP ⟨vT,by simp,e⟩),fun e=>(h.f b a).2 (wD e)⟩
 have s:(W.setCell ⟨M,0,Y⟩ (O (A ⟨g,0,Y⟩) (n+1) cap)).heap.size=W.heap.size:=by simp[World.setCell]
 have C:∀b,F b→b<(W.setCell ⟨M,0,Y⟩ (O (A ⟨g,0,Y⟩) (n+1) cap)).heap.size∧¬aZ M [(O (A ⟨g,0,Y⟩) (n+1) cap),vR] b:=fun b a=>by
  refine⟨by rw[s];exact FG (h.f b a).1 l.u,fun i=>?_⟩;rcases i with i|⟨v,w,i⟩
  ·exact (hF b a).2.2 i
  ·simp only[Ge,Gc,o9]at w;rcases w with rfl|rfl
   ·injection i with i
    have i:g=b:=i;subst i;rcases c with c|c
    ·exact (hF g a).2.1 c
    ·have:=(hF g a).1;omega
   ·exact (h.f b a).2 (wP ⟨v,by simp,i⟩)
 refine⟨⟨C,⟨x2,x3,x4,x5,x6,x7,heap_set (u.trans hm) 0 _⟩,j6 y z B l o hF q hw,cU h.r (row_ne hm h.r (by decide)) l (fun g c=>h.r.K h.t (by decide) c) hF hw⟩,?_,u⟩;exact (Chg.D (G:=aZ M [vT,vR]) l (fun b a=>wP ⟨vT,by simp,a⟩)).z (p:=⟨M,0,Y⟩) (wD (wD Z)) _
theorem MkB.pushR{j:J}{x:aK}{us vs:List tT}{g cap n:Nat}(h:MkB F d M ts rs vT vR j)(y:rs.length=n)(z:(fh d).z j F rs us)(B:(fh d).at_ j F x vs)(c:vR.ownBlock=A g∨j.heap.size≤g)
  (l:Chg (fun b=>vR.ownBlock=A b) j W) (o:W.ownsRow 0 159 (fh d).n (O (A ⟨g,0,Y⟩) (n+1) cap) (n+1) (us++vs)) :
  MkB F d M ts (rs++[x]) vT (O (A ⟨g,0,Y⟩) (n+1) cap) (W.setCell ⟨M,1,Y⟩ (O (A ⟨g,0,Y⟩) (n+1) cap))∧Chg (aZ M [vT,vR]) j (W.setCell ⟨M,1,Y⟩ (O (A ⟨g,0,Y⟩) (n+1) cap))∧W.heap[M]?=j.heap[M]?:=by
 obtain⟨x2,x3,x4,x5,x6,x7,hm⟩:=h.m;have k:=row_ne hm h.r (by decide);have hw:∀b,b≠M→(W.setCell ⟨M,1,Y⟩ (O (A ⟨g,0,Y⟩) (n+1) cap)).heap[b]?=W.heap[b]?:=fun b a=>FC W ⟨M,1,Y⟩ _ b a
 have u:W.heap[M]?=j.heap[M]?:=l.q M h.lt k;have q:g≠M:=by
  rcases c with c|c
  ·exact fun e=>k (e ▸ c)
  ·have:=h.lt;omega
 have hF:∀b,F b→b<j.heap.size∧vR.ownBlock≠A b∧b≠M:=fun b a=>⟨(h.f b a).1,fun e=>(h.f b a).2 (wP ⟨vR,by simp,e⟩),fun e=>(h.f b a).2 (wD e)⟩
 have s:(W.setCell ⟨M,1,Y⟩ (O (A ⟨g,0,Y⟩) (n+1) cap)).heap.size=W.heap.size:=by simp[World.setCell]
 have C:∀b,F b→b<(W.setCell ⟨M,1,Y⟩ (O (A ⟨g,0,Y⟩) (n+1) cap)).heap.size∧¬aZ M [vT,(O (A ⟨g,0,Y⟩) (n+1) cap)] b:=fun b a=>by
  refine⟨by rw[s];exact FG (h.f b a).1 l.u,fun i=>?_⟩;rcases i with i|⟨v,w,i⟩
  ·exact (hF b a).2.2 i
  ·simp only[Ge,Gc,o9]at w;rcases w with rfl|rfl
   ·exact (h.f b a).2 (wP ⟨v,by simp,i⟩)
   ·injection i with i
    have i:g=b:=i;subst i;rcases c with c|c
    ·exact (hF g a).2.1 c
    ·have:=(hF g a).1;omega
 refine⟨⟨C,⟨x2,x3,x4,x5,x6,x7,heap_set (u.trans hm) 1 _⟩,cU h.t (row_ne hm h.t (by decide)) l (fun g c=>h.t.K h.r (by decide) c) hF hw,j6 y z B l o hF q hw⟩,?_,u⟩;exact (Chg.D (G:=aZ M [vT,vR]) l (fun b a=>wP ⟨vR,by simp,a⟩)).z (p:=⟨M,1,Y⟩) (wD (wD Z)) _
end
