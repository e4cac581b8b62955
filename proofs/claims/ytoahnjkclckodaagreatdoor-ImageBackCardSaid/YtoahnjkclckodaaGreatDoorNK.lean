/- Parts of one proof, joined; conditions stand in each theorem. -/
import Derived.Test.YtoahnjkclckodaaGreatDoorNJ
open Option renaming none→Y,some→A
open Bool renaming true→tT,false→ur
open Go renaming World→J,Value→tS,Calls→vv,undef→xk,wpQuiet_nil→xL
open Go.Value renaming int→I,agg→wP,string→r9,bool→xt,func→z6,slice→O,pointer→vo,tuple→y9
open Go.IntKind renaming i64→U,u8→r8
open Go.Proofs.Tryz renaming prog→va
open Go.Ending renaming returned→wg
open Go.Obj renaming cells→r7
open Or renaming inl→wD,inr→wF
open Except renaming error→zs,ok→xn
open Decidable renaming decide→wj
open Go.Act renaming put→xS
namespace Go.Proofs.YtoahnjkclckodaaGreatDoor
set_option maxHeartbeats 8000000
set_option maxRecDepth 100000
open Go.RowKit
def eJ(t:ac):Bool:=!a9 t
def hasName(x:ByteArray) (t:ac):Bool:=t.h.data.toList==x.data.toList
def iq(q:ac→Bool):List ac→Nat→Option Nat
 | [],_=>Y
 | K::l,k=>if q K then A k else iq q l (k+1)
theorem rU(q:ac→Bool):∀(l:List ac) (m k:Nat) (K:ac),l[k]?=A K→q K=tT→(∀(j:Nat) (z:ac),j<k→l[j]?=A z→q z=ur)→iq q l m=A (m+k)
 | [],m,k,K,h,_,_=>by simp at h
 | z::l,m,0,K,h,he,_=>by
  simp only[List.getElem?_cons_zero,o6]at h;subst h;unfold iq;rw[oj he];rfl
 | z::l,m,k+1,K,h,he,a=>by
  rw[Km]at h;have b:=a 0 z (by omega) Z;unfold iq;rw[b];simp only[Ka,oF];rw[rU q l (m+1) k K h he (fun j c f e=>a (j+1) c (by omega) (by rw[Km];exact e))]
  congr 1;omega
theorem pY(q:ac→Bool):∀(l:List ac) (m:Nat),(∀(j:Nat) (z:ac),l[j]?=A z→q z=ur)→iq q l m=Y
 | [],m,_=>rfl
 | z::l,m,a=>by
  unfold iq;rw[a 0 z Z];simp only[Ka,oF];exact pY q l (m+1) (fun j b c=>a (j+1) b (by rw[Km];exact c))
theorem sQ:∀(l:List ac) (m:Nat),(match iq eJ l m with|some k=>k=m+fO l|none=>fO l=l.length)
 | [],m=>rfl
 | z::l,m=>by
  unfold iq fO;rw[List.takeWhile_cons]
  cases h:a9 z with
  | true =>
   have a:eJ z=false:=by unfold eJ;rw[h];rfl
   simp only[a,Ka,oF,oX,Kf];have:=sQ l (m+1);unfold fO at this
   cases hi:iq eJ l (m+1) with
   | none =>
    rw[hi]at this;have this:(List.takeWhile a9 l).length=l.length:=this
    show (List.takeWhile a9 l).length+1=l.length+1
    omega
   | some k =>
    rw[hi]at this;have this:k=m+1+(List.takeWhile a9 l).length:=this
    show k=m+((List.takeWhile a9 l).length+1)
    omega
  | false =>
   have a:eJ z=true:=by unfold eJ;rw[h];rfl
   simp[a]
theorem vD(x:ByteArray):∀(l:List ac) (m:Nat),(iq (hasName x) l m).isSome=(jt x (l.map ac.h) m).isSome
 | [],m=>rfl
 | z::l,m=>by
  unfold iq hasName;rw[List.map_cons];unfold jt
  cases h:(z.h.data.toList==x.data.toList) with
  | true=>simp
  | false =>
   simp only[Ka,oF];exact vD x l (m+1)
def xR(w:J) (n:Nat) (l:List ac) (q:ac→Bool) (i:tS) (W:J):Prop:=∃k:Nat,k≤n∧i=I U (k:Int)∧Kr w W∧(∀(j:Nat) (z:ac),j<k→l[j]?=A z→q z=ur)
theorem Cs(T:ac)(s:tS)(w:J) :
  vv va 153 #[wP #[I r8 T.q,r9 T.h,I U T.u,I U T.C,s]] w fun e w'=>e=wg (xt (eJ T))∧Kr w w':=by
 have f:Kr w (w.alloc (r7 #[I r8 T.q,r9 T.h,I U T.u,I U T.C,s] 145)):=(JO _ w).alloc (JM _) _;have a:=Hd f;obtain⟨k,b⟩:=zzy (T.q);have c:Hid (eJ T = !([5,6,7].contains k)):=by show _=_;rw[←b];rfl
 obtain⟨j,q,r,t,u⟩:=cells5 (oc w (r7 #[I r8 T.q,r9 T.h,I U T.u,I U T.C,s] 145));rw[b]at j ⊢;rw[b]at a;clear f b
 by_cases g:k=5
 ·subst g
  go_enter Tryz.func153,Tryz.ntmps153
  go_wp2
  go_ret;exact⟨by rw[c.o];rfl,a.o⟩
 by_cases h:k=6
 ·subst h
  go_enter Tryz.func153,Tryz.ntmps153
  go_wp2
  go_ret;exact⟨by rw[c.o];rfl,a.o⟩
 by_cases i:k=7
 ·subst i
  go_enter Tryz.func153,Tryz.ntmps153
  go_wp2
  go_ret;exact⟨by rw[c.o];rfl,a.o⟩
 have l:Hid (eJ T=tT):=by
  show _=_
  rw[c.o];simp[g,h,i]
 have m:¬((k:Int)=5):=by omega
 have n:¬((k:Int)=6):=by omega
 have p:¬((k:Int)=7):=by omega
 go_enter Tryz.func153,Tryz.ntmps153
 go_wp2
 go_ret;exact⟨by rw[l.o];simp[m,n,p],a.o⟩
theorem Hg(Ts:List ac)(v:tS)(T:Nat)(w:J)(a:ax w w.heap.size (T+1) Ts v)(D:Ts.length≤1000000) :
  vv va 152 #[v,z6 (.func 153) #[] #[]] w (fun e w'=>e=wg (I U (eK (iq eJ Ts 0)))∧Kr w w'):=by
 obtain⟨p,c,rfl⟩:=a.h;obtain⟨n,E⟩:=zzy (Ts.length);have R:=Hd (fun W (V:Kr w W)=>a.C V);rw[E]at R D ⊢;have G:=Hd E;clear a E
 go_enter Tryz.func152,Tryz.ntmps152
 go_wp2
 go_loopw [8] (xR w n Ts eJ) (fun i _=>n-(intOf i).toNat)
 case atStart=>exact⟨0,J0 _,Z,JO _ _,fun j z X=>by omega⟩
 case round =>
  obtain⟨k,hk,rfl,y,l⟩:=hrel;have ad:(0:Int)≤k:=by omega
  obtain⟨H,g⟩:=zz2 y l;clear l
  by_cases L:k<n
  ·have af:(k:Int)<n:=by omega
   obtain⟨K,B⟩:∃K,Ts[k]?=A K:=⟨_,JR (by rw[G.o];exact L)⟩;have a:=R.o wr y;rcases a with ⟨rfl,_⟩|⟨b,off,cap,h1,h2,h3,h4,he,S⟩
   ·simp at B
   rw[G.o]at he;injection he with e1 _ e3
   subst e1;subst e3;obtain⟨m,s,c0,c1,c2,c3,c4,q⟩:=S k K B;obtain⟨ps,N,rfl⟩:=q.h;obtain⟨P,r⟩:=zzy (K.z.length);rw[r]at c4;have HK:=Hd (Cs K (O ps P N) wr);have t:Hid (Ts[k]?=A K):=B;clear m q S h1 h2 h3 h4 r B y;go_wp2_with fail
   refine HK.o.mono ?_;rintro e w1 ⟨rfl,u⟩;have x:=Hd (H.o.trans (u.mono H.o.size));clear u c0 c1 c2 c3 c4
   cases C:eJ K with
   | true =>
    have Q:=Hd (rU eJ Ts 0 k K t.o C g.o);clear C;go_wp2_with fail
    go_ret;exact⟨by rw[Q.o,Nat.zero_add];rfl,x.o⟩
   | false =>
    have HQ:=Hd C;clear C;go_wp2_with fail
    exact⟨⟨k+1,by omega,by go_num,x.o,fun j z X f=>by
     by_cases h:j=k
     ·subst h;rw[t.o]at f;injection f with f
      rw[←f];exact HQ.o
     ·exact g.o j z (by omega) f⟩,by simp[intOf];omega⟩
  ·have Q:Hid (iq eJ Ts 0=Y):=pY _ Ts 0 (fun j z f=>g.o j z (by
    have:=(J3.1 f).1;rw[G.o]at this
    omega) f)
   clear y;go_wp2_with fail
   go_ret;exact⟨by rw[Q.o];rfl,H.o⟩
theorem Dj(Ts:List ac)(v:tS)(r:Nat)(w:J)(f:ax w w.heap.size (r+1) Ts v)(h:Ts.length≤1000000) :
  vv va 128 #[v] w (fun e w'=>e=wg (I U (fO Ts:Int))∧Kr w w'):=by
 obtain⟨p,c,s⟩:=f.h;obtain⟨a,g⟩:=zz2 (Hg Ts v r w f h) (sQ Ts 0);rw[s]at a ⊢;obtain⟨n,j⟩:=zzy (Ts.length);obtain⟨m,hm⟩:=zzy (fO Ts);rw[hm,j]at g;rw[j]at a ⊢;rw[hm];clear f s j hm h
 cases hi:iq eJ Ts 0 with
 | none =>
  rw[hi]at g a;have l:m=n:=g.o;subst l;have a:Hid (vv va 152 #[O p m c,z6 (.func 153) #[] #[]] w (fun e w'=>e=wg (I U (-1))∧Kr w w')):=a;clear g hi
  go_enter Tryz.func128,Tryz.ntmps128
  go_wp2_with fail
  refine a.o.mono ?_;rintro e w1 ⟨rfl,b⟩;have q:=Hd b;clear b a;go_wp2_with fail
  go_ret;exact⟨Z,q.o⟩
 | some k =>
  rw[hi]at g a;have i:k=0+m:=g.o;rw[Nat.zero_add]at i;subst i;have a:Hid (vv va 152 #[O p n c,z6 (.func 153) #[] #[]] w (fun e w'=>e=wg (I U (k:Int))∧Kr w w')):=a;have t:¬((k:Int)<0):=by omega
  have u:(0:Int)≤k:=by omega
  clear g hi
  go_enter Tryz.func128,Tryz.ntmps128
  go_wp2_with fail
  refine a.o.mono ?_;rintro e w1 ⟨rfl,b⟩;have q:=Hd b;clear b a;go_wp2_with fail
  go_ret;exact⟨Z,q.o⟩
theorem Bi(K:ac)(s:tS)(x:ByteArray)(T:Nat)(w:J)(b:w.cell? ⟨T,1,Y⟩=A (r9 x)) :
  vv va 127 #[wP #[I r8 K.q,r9 K.h,I U K.u,I U K.C,s],vo (A ⟨T,0,Y⟩)] w fun e w'=>e=wg (xt (hasName x K))∧Kr w w':=by
 have c:=fW b;have a:Kr w (w.alloc (r7 #[I r8 K.q,r9 K.h,I U K.u,I U K.C,s] 145)):=(JO _ w).alloc (JM _) _;have f:=(a.cell (p:=⟨T,1,Y⟩) c).trans b;have g:=Hd a;clear a
 go_enter Tryz.func127,Tryz.ntmps127
 go_wp2
 go_ret;exact⟨by unfold hasName;rw[J1,J1];rfl,g.o⟩
theorem FV(x:ByteArray)(T:Nat)(Ts:List ac)(v:tS)(dd:Nat)(w:J)(a:ax w w.heap.size (dd+1) Ts v)(E:Ts.length≤1000000)(G:w.cell? ⟨T,1,Y⟩=A (r9 x)) :
  vv va 152 #[v,z6 (.func 127) #[] #[vo (A ⟨T,0,Y⟩)]] w (fun e w'=>e=wg (I U (eK (iq (hasName x) Ts 0)))∧Kr w w'):=by
 obtain⟨p,c,rfl⟩:=a.h;obtain⟨n,H⟩:=zzy (Ts.length);have HV:=Hd (fun W (L:Kr w W)=>a.C L);have N:=Hd (fun W (L:Kr w W)=>(L.cell (p:=⟨T,1,Y⟩) (fW G)).trans G);rw[H]at HV E ⊢;have P:=Hd H;clear a H G
 go_enter Tryz.func152,Tryz.ntmps152
 go_wp2
 go_loopw [8] (xR w n Ts (hasName x)) (fun i _=>n-(intOf i).toNat)
 case atStart=>exact⟨0,J0 _,Z,JO _ _,fun j z hj=>by omega⟩
 case round =>
  obtain⟨k,hk,rfl,l,m⟩:=hrel;have ad:(0:Int)≤k:=by omega
  obtain⟨Q,g⟩:=zz2 l m;clear m
  by_cases R:k<n
  ·have af:(k:Int)<n:=by omega
   obtain⟨K,C⟩:∃K,Ts[k]?=A K:=⟨_,JR (by rw[P.o];exact R)⟩;have a:=HV.o wr l;rcases a with ⟨rfl,_⟩|⟨b,off,cap,h1,h2,h3,h4,he,h6⟩
   ·simp at C
   rw[P.o]at he;injection he with e1 _ e3
   subst e1;subst e3;obtain⟨q,s,c0,c1,c2,c3,c4,r⟩:=h6 k K C;obtain⟨ps,S,rfl⟩:=r.h;obtain⟨V,t⟩:=zzy (K.z.length);rw[t]at c4;have HK:=Hd (Bi K (O ps V S) x T wr (N.o wr l));have u:Hid (Ts[k]?=A K):=C;clear q r h6 h1 h2 h3 h4 t C l;go_wp2_with fail
   refine HK.o.mono ?_;rintro e w1 ⟨rfl,y⟩;have B:=Hd (Q.o.trans (y.mono Q.o.size));clear y c0 c1 c2 c3 c4
   cases D:(hasName x) K with
   | true =>
    have X:=Hd (rU (hasName x) Ts 0 k K u.o D g.o);clear D;go_wp2_with fail
    go_ret;exact⟨by rw[X.o,Nat.zero_add];rfl,B.o⟩
   | false =>
    have HQ:=Hd D;clear D;go_wp2_with fail
    exact⟨⟨k+1,by omega,by go_num,B.o,fun j z hj f=>by
     by_cases h:j=k
     ·subst h;rw[u.o]at f;injection f with f
      rw[←f];exact HQ.o
     ·exact g.o j z (by omega) f⟩,by simp[intOf];omega⟩
  ·have X:Hid (iq (hasName x) Ts 0=Y):=pY _ Ts 0 (fun j z f=>g.o j z (by
    have:=(J3.1 f).1;rw[P.o]at this
    omega) f)
   clear l;go_wp2_with fail
   go_ret;exact⟨by rw[X.o];rfl,Q.o⟩
theorem Di(x:ByteArray)(T:Nat)(Ts:List ac)(v:tS)(i:Nat)(w:J)(f:ax w w.heap.size (i+1) Ts v)(g:Ts.length≤1000000)(j:w.cell? ⟨T,1,Y⟩=A (r9 x)) :
  vv va 126 #[v,z6 (.func 127) #[] #[vo (A ⟨T,0,Y⟩)]] w (fun e w'=>e=wg (xt (idxOf x (Ts.map ac.h)).isSome)∧Kr w w'):=by
 have a:=Hd (FV x T Ts v i w f g j);have l:Hid ((idxOf x (Ts.map ac.h)).isSome=(iq (hasName x) Ts 0).isSome):=(vD x Ts 0).symm;rw[l.o];obtain⟨p,c,m⟩:=f.h;rw[m]at a ⊢;clear f g j l m
 cases hi:iq (hasName x) Ts 0 with
 | none =>
  rw[hi]at a;have a:Hid (vv va 152 #[O p Ts.length c,z6 (.func 127) #[] #[vo (A ⟨T,0,Y⟩)]] w (fun e w'=>e=wg (I U (-1))∧Kr w w')):=a;clear hi
  go_enter Tryz.func126,Tryz.ntmps126
  go_wp2_with fail
  refine a.o.mono ?_;rintro e w1 ⟨rfl,b⟩;have h:=Hd b;clear b a;go_wp2_with fail
  go_ret;exact⟨Z,h.o⟩
 | some k =>
  rw[hi]at a;have a:Hid (vv va 152 #[O p Ts.length c,z6 (.func 127) #[] #[vo (A ⟨T,0,Y⟩)]] w (fun e w'=>e=wg (I U (k:Int))∧Kr w w')):=a;have n:(0:Int)≤k:=by omega
  clear hi
  go_enter Tryz.func126,Tryz.ntmps126
  go_wp2_with fail
  refine a.o.mono ?_;rintro e w1 ⟨rfl,b⟩;have h:=Hd b;clear b a;go_wp2_with fail
  go_ret;exact⟨Z,h.o⟩
structure MkB (F:Nat→Prop) (d M:Nat) (ts:List am) (rs:List aD) (vT vR:tS) (W:J):Prop where
 f:∀b,F b→b<W.heap.size∧¬bh M [vT,vR] b
 m:∃x2 x3 x4 x5 x6 x7,W.heap[M]?=A (r7 #[vT,vR,x2,x3,x4,x5,x6,x7] 202 (0,0))
 t:aA W F 118 eW ts vT
 r:aA W F 159 (fM d) rs vR
section
variable {F F':Nat→Prop} {d M:Nat} {ts:List am} {rs:List aD} {vT vR:tS} {W W':J}
theorem MkB.lt(h:MkB F d M ts rs vT vR W):M<W.heap.size:=by
 obtain⟨x2,x3,x4,x5,x6,x7,hm⟩:=h.m;exact (JL.1 hm).1
theorem MkB.h(h:MkB F d M ts rs vT vR W){b:Nat}(a:bh M [vT,vR] b):b<W.heap.size:=by
 rcases a with rfl|⟨v,c,a⟩
 ·exact h.lt
 ·simp only[Kk,Ki,o8]at c;rcases c with rfl|rfl
  ·exact h.t.lt a
  ·exact h.r.lt a
theorem MkB.upd(h:MkB F d M ts rs vT vR W)(c:W.heap.size≤W'.heap.size)(e:∀b,(F b∨bh M [vT,vR] b)→W'.heap[b]?=W.heap[b]?):MkB F d M ts rs vT vR W':=by
 have i:∀b,F b→∀o,W.heap[b]?=A o→W'.heap[b]?=A o:=fun b a o k=>(e b (wD a)).trans k
 have j:∀v∈[vT,vR],∀g,v.ownBlock=A g→W'.heap[g]?=W.heap[g]?:=fun v l g n=>e g (wF (wF ⟨v,l,n⟩))
 obtain⟨x2,x3,x4,x5,x6,x7,hm⟩:=h.m;exact⟨fun b a=>⟨JS (h.f b a).1 c,(h.f b a).2⟩,⟨x2,x3,x4,x5,x6,x7,(e M (wF (wD Z))).trans hm⟩,h.t.K (j _ (by simp)) i (fun _ h=>h),h.r.K (j _ (by simp)) i (fun _ h=>h)⟩
theorem MkB.C(h:MkB F d M ts rs vT vR W)(e:Kr W W'):MkB F d M ts rs vT vR W':=
 h.upd e.size fun b a=>e.block b (by rcases a with c|c;exact (h.f b c).1;exact h.h c)
theorem MkB.row_t(h:MkB F d M ts rs vT vR W):eW.h W (fun b=>b<W.heap.size) ts vT:=h.t.h (fun b a=>(h.f b a).1) (fun _g c=>h.t.lt c)
theorem MkB.row_r(h:MkB F d M ts rs vT vR W):(fM d).h W (fun b=>b<W.heap.size) rs vR:=h.r.h (fun b a=>(h.f b a).1) (fun _g c=>h.r.lt c)
theorem MkB.z(h:MkB F d M ts rs vT vR W):W.cell? ⟨M,0,Y⟩=A vT∧W.cell? ⟨M,1,Y⟩=A vR:=by
 obtain⟨x2,x3,x4,x5,x6,x7,hm⟩:=h.m;exact⟨by rw[Kq _ _ _ _ _ _ hm];rfl,by rw[Kq _ _ _ _ _ _ hm];rfl⟩
theorem MkB.pushT{j:J}{x:am}{us vs:List tS}{g cap n:Nat}(h:MkB F d M ts rs vT vR j)(z:ts.length=n)(B:eW.z j F ts us)(C:eW.at_ j F x vs)(c:vT.ownBlock=A g∨j.heap.size≤g)
  (l:Chg (fun b=>vT.ownBlock=A b) j W) (o:W.ownsRow 0 118 eW.n (O (A ⟨g,0,Y⟩) (n+1) cap) (n+1) (us++vs)) :
  MkB F d M (ts++[x]) rs (O (A ⟨g,0,Y⟩) (n+1) cap) vR (W.setCell ⟨M,0,Y⟩ (O (A ⟨g,0,Y⟩) (n+1) cap))∧Chg (bh M [vT,vR]) j (W.setCell ⟨M,0,Y⟩ (O (A ⟨g,0,Y⟩) (n+1) cap))∧W.heap[M]?=j.heap[M]?:=by
 obtain⟨x2,x3,x4,x5,x6,x7,hm⟩:=h.m;have k:=row_ne hm h.t (by decide);have hw:∀b,b≠M→(W.setCell ⟨M,0,Y⟩ (O (A ⟨g,0,Y⟩) (n+1) cap)).heap[b]?=W.heap[b]?:=fun b a=>JQ W ⟨M,0,Y⟩ _ b a
 have u:W.heap[M]?=j.heap[M]?:=l.q M h.lt k;have q:g≠M:=by
  rcases c with c|c
  ·exact fun e=>k (e ▸ c)
  ·have:=h.lt;omega
 have hF:∀b,F b→b<j.heap.size∧vT.ownBlock≠A b∧b≠M:=fun b a=>⟨(h.f b a).1,fun e=>(h.f b a).2 (wF ⟨vT,by simp,e⟩),fun e=>(h.f b a).2 (wD e)⟩
 have s:(W.setCell ⟨M,0,Y⟩ (O (A ⟨g,0,Y⟩) (n+1) cap)).heap.size=W.heap.size:=by simp[World.setCell]
 have D:∀b,F b→b<(W.setCell ⟨M,0,Y⟩ (O (A ⟨g,0,Y⟩) (n+1) cap)).heap.size∧¬bh M [(O (A ⟨g,0,Y⟩) (n+1) cap),vR] b:=fun b a=>by
  refine⟨by rw[s];exact JS (h.f b a).1 l.z,fun i=>?_⟩;rcases i with i|⟨v,y,i⟩
  ·exact (hF b a).2.2 i
  ·simp only[Kk,Ki,o8]at y;rcases y with rfl|rfl
   ·injection i with i
    have i:g=b:=i;subst i;rcases c with c|c
    ·exact (hF g a).2.1 c
    ·have:=(hF g a).1;omega
   ·exact (h.f b a).2 (wF ⟨v,by simp,i⟩)
 refine⟨⟨D,⟨x2,x3,x4,x5,x6,x7,heap_set (u.trans hm) 0 _⟩,kJ z B C l o hF q hw,dm h.r (row_ne hm h.r (by decide)) l (fun g c=>h.r.X h.t (by decide) c) hF hw⟩,?_,u⟩;exact (Chg.N (G:=bh M [vT,vR]) l (fun b a=>wF ⟨vT,by simp,a⟩)).K (p:=⟨M,0,Y⟩) (wD (wD Z)) _
theorem MkB.pushR{j:J}{x:aD}{us vs:List tS}{g cap n:Nat}(h:MkB F d M ts rs vT vR j)(z:rs.length=n)(B:(fM d).z j F rs us)(C:(fM d).at_ j F x vs)(c:vR.ownBlock=A g∨j.heap.size≤g)
  (l:Chg (fun b=>vR.ownBlock=A b) j W) (o:W.ownsRow 0 159 (fM d).n (O (A ⟨g,0,Y⟩) (n+1) cap) (n+1) (us++vs)) :
  MkB F d M ts (rs++[x]) vT (O (A ⟨g,0,Y⟩) (n+1) cap) (W.setCell ⟨M,1,Y⟩ (O (A ⟨g,0,Y⟩) (n+1) cap))∧Chg (bh M [vT,vR]) j (W.setCell ⟨M,1,Y⟩ (O (A ⟨g,0,Y⟩) (n+1) cap))∧W.heap[M]?=j.heap[M]?:=by
 obtain⟨x2,x3,x4,x5,x6,x7,hm⟩:=h.m;have k:=row_ne hm h.r (by decide);have hw:∀b,b≠M→(W.setCell ⟨M,1,Y⟩ (O (A ⟨g,0,Y⟩) (n+1) cap)).heap[b]?=W.heap[b]?:=fun b a=>JQ W ⟨M,1,Y⟩ _ b a
 have u:W.heap[M]?=j.heap[M]?:=l.q M h.lt k;have q:g≠M:=by
  rcases c with c|c
  ·exact fun e=>k (e ▸ c)
  ·have:=h.lt;omega
 have hF:∀b,F b→b<j.heap.size∧vR.ownBlock≠A b∧b≠M:=fun b a=>⟨(h.f b a).1,fun e=>(h.f b a).2 (wF ⟨vR,by simp,e⟩),fun e=>(h.f b a).2 (wD e)⟩
 have s:(W.setCell ⟨M,1,Y⟩ (O (A ⟨g,0,Y⟩) (n+1) cap)).heap.size=W.heap.size:=by simp[World.setCell]
 have D:∀b,F b→b<(W.setCell ⟨M,1,Y⟩ (O (A ⟨g,0,Y⟩) (n+1) cap)).heap.size∧¬bh M [vT,(O (A ⟨g,0,Y⟩) (n+1) cap)] b:=fun b a=>by
  refine⟨by rw[s];exact JS (h.f b a).1 l.z,fun i=>?_⟩;rcases i with i|⟨v,y,i⟩
  ·exact (hF b a).2.2 i
  ·simp only[Kk,Ki,o8]at y;rcases y with rfl|rfl
   ·exact (h.f b a).2 (wF ⟨v,by simp,i⟩)
   ·injection i with i
    have i:g=b:=i;subst i;rcases c with c|c
    ·exact (hF g a).2.1 c
    ·have:=(hF g a).1;omega
 refine⟨⟨D,⟨x2,x3,x4,x5,x6,x7,heap_set (u.trans hm) 1 _⟩,dm h.t (row_ne hm h.t (by decide)) l (fun g c=>h.t.X h.r (by decide) c) hF hw,kJ z B C l o hF q hw⟩,?_,u⟩;exact (Chg.N (G:=bh M [vT,vR]) l (fun b a=>wF ⟨vR,by simp,a⟩)).K (p:=⟨M,1,Y⟩) (wD (wD Z)) _
end
def fP(ts:List am) (T:ac):Except Flt (List am):=
 if (dE T.h ts).isSome then zs (210,T.C)
 else if 32≤ts.length||6<T.z.length then zs (204,T.C)
 else match aV fieldStep [] T.z with
  | .error e=>zs e
  | .ok _=>xn (ts++[⟨T.h,T.z.length⟩])
theorem rl:∀(l:List ac) (s s':List ByteArray),aV fieldStep s l=xn s'→s'=s++l.map ac.h
 | [],s,s',h=>by injection h with h;rw[←h];simp
 | K::l,s,s',h=>by
  unfold aV at h
  cases a:fieldStep s K with
  | error e=>rw[a]at h;cases h
  | ok s1 =>
   rw[a]at h;unfold fieldStep at a
   split at a
   ·cases a
   ·injection a with a
    rw[rl l s1 s' h,←a];simp
theorem yp:Elem 118 104 2 24:=Elem.of (z:=wP #[r9 ByteArray.empty,I U 0]) Tryz.underlying104 (by kernel_rfl) (by kernel_rfl) (by decide) (by decide)
def qF(F:Nat→Prop) (d M:Nat) (rs:List aD) (vT vR:tS) (r:Except Flt (List am)) (w:J) (e:Ending) (w':J):Prop:=
 Chg (bh M [vT,vR]) w w'∧match r with
 | .ok b=>e=wg (y9 #[])∧∃a,MkB F d M b rs a vR w'∧Grew vT a w.heap.size
 | .error er=>e=aR er.1 er.2
theorem ax.taken{w:J}{B d:Nat}{Ts:List ac}{p:Option Addr}{n c k:Nat}(h:ax w B (d+1) Ts (O p n c))(o:k≤Ts.length):ax w B (d+1) (Ts.take k) (O p k c):=by
 rcases h with ⟨rfl,sp,cap,he⟩|⟨b,off,cap,t,q,u,r,he,s⟩
 ·injection he with f l g
  subst f;subst g;have:k=0:=by simpa using o
  subst this;exact wD ⟨Z,_,_,Z⟩
 ·injection he with f l g
  subst f;subst l;subst g
  by_cases m:k=0
  ·subst m;exact wD ⟨Z,_,_,Z⟩
  ·have j:(Ts.take k).length=k:=by rw[List.length_take];omega
   refine wF ⟨b,off,c,fun e=>by rw[e]at j;exact m j.symm,q,by omega,r,by rw[j],fun i T a=>s i T ?_⟩;rw[List.getElem?_take]at a
   split at a
   ·exact a
   ·cases a
theorem AO(b off n c m:Nat)(hm:m≤c)(W:J):(Instr.slice 143 (O (A ⟨b,off,Y⟩) n c) Y (A (I U (m:Int))) Y).run va W=.ok (O (A ⟨b,off,Y⟩) m c) W:=by
 rw[run_slice_h W 143 (A ⟨b,off,Y⟩) n c (by kernel_rfl) U m (by omega) (by omega)];rw[show (sizeOf (Tryz.prog.elem 143)).run va W=.ok 5 W from by kernel_rfl]
 show Result.ok (sliced _ _ _ _ _) W=_
 unfold sliced;rw[Int.toNat_natCast]
 by_cases a:c=0
 ·subst a;obtain rfl:m=0:=by omega
  rfl
 ·rw[oe a];simp[Addr.add]
def yD(w:J) (F:Nat→Prop) (d M:Nat) (ts:List am) (rs:List aD) (vT vR:tS) (T:ac) (a:tS) (n:Nat) (i:tS) (W:J):Prop:=
 ∃(j:Nat) (s:List ByteArray),j≤n∧i=I U (j:Int)∧aV fieldStep [] (T.z.take j)=xn s∧Kr w W∧W.heap[w.heap.size]?=A (r7 #[I r8 2,r9 T.h,I U T.u,I U T.C,a] 145 (0,0))∧MkB F d M ts rs vT vR W
theorem C6(F:Nat→Prop)(d M:Nat)(ts:List am)(rs:List aD)(vT vR:tS)(T:ac)(p:Option Addr)(n c dd:Nat)(w:J)
  (hw:MkB F d M ts rs vT vR w) (hk:T.q=2) (dt:ts.length≤10000) (b9:T.z.length=n) (hn:n≤10000) (bk:ax w w.heap.size (dd+1) T.z (O p n c)) (dv:T.h.size≤maxLen) :
  vv va 97 #[vo (A ⟨M,0,Y⟩),wP #[I r8 T.q,r9 T.h,I U T.u,I U T.C,O p n c]] w (qF F d M rs vT vR (fP ts T) w):=by
 rw[hk];change vv va 97 #[vo (A ⟨M,0,Y⟩),wP #[I r8 2,r9 T.h,I U T.u,I U T.C,O p n c]] w _;obtain⟨D,G,ef⟩:=hw.t.q;subst ef;obtain⟨z,af⟩:=zzy (ts.length);have HN:=Hd af;rw[af]at dt;obtain⟨w1,bl⟩:=zzx (w.alloc (r7 #[I r8 2,r9 T.h,I U T.u,I U T.C,O p n c] 145));have X:Kr w w1:=by rw[bl];exact (JO _ w).alloc (JM _) _
 have bR:w1.heap[w.heap.size]?=A (r7 #[I r8 2,r9 T.h,I U T.u,I U T.C,O p n c] 145 (0,0)):=by rw[bl];exact oc w _
 obtain⟨b0,u,ca,cb,aq,H⟩:=zz6 bR X (hw.C X) (fun g hg=>hw.t.lt (g:=g) hg) bk b9;obtain⟨ix,b1⟩:=zzx (eK (dE T.h ts));have ar:Hid (wj ((0:Int)≤ix)=(dE T.h ts).isSome):=by
  show _=_
  rw[b1]
  cases dE T.h ts with
  | none=>rfl
  | some k=>show wj ((0:Int)≤(k:Int))=tT;simp
 have bm:=Hd (fun (W:J) (h:Kr w1 W)=>xJ ts T.h _ _ M W ((hw.C X).C h).row_t (fun _ h=>h) ((hw.C X).C h).z.1);rw[←b1]at bm;obtain⟨e0,e1,e2,e3,e4⟩:=cells5 bR;have ad:w1.cell? ⟨M,0,Y⟩=A (O D z G):=by rw[(hw.C X).z.1,af]
 have E0:=fun x:Wb w1=>x.h e0
 have E1:=fun x:Wb w1=>x.h e1
 have E2:=fun x:Wb w1=>x.h e2
 have E3:=fun x:Wb w1=>x.h e3
 have E4:=fun x:Wb w1=>x.h e4
 have MT:=fun x:Wb w1=>x.h ad
 clear bR X hw hk bk b9 b1
 go_enter Tryz.func97,Tryz.ntmps97
 go_upto_region 1 with fail
 change Code.wp _ _ _ _ (w.alloc (r7 #[I r8 2,r9 T.h,I U T.u,I U T.C,O p n c] 145));rw[←bl];clear bl
 go_cut [] from 6 to 31 (fun W2=>Kr w W2∧W2.heap[w.heap.size]?=A (r7 #[I r8 2,r9 T.h,I U T.u,I U T.C,O p n c] 145 (0,0))∧MkB F d M ts rs (O D ts.length G) vR W2∧(dE T.h ts).isSome=ur∧(32≤z||6<n)=ur)
 case first =>
  have hA:(dE T.h ts).isSome=tT→fP ts T=zs (210,T.C):=fun h=>by unfold fP;rw[oj h]
  have hB:(dE T.h ts).isSome=ur→(wj (32≤z)||decide (6<n))=tT→fP ts T=zs (204,T.C):=fun h h2=>by
   unfold fP;rw[h,oe (by decide),oj (by rw[HN.o,H.o];exact h2)]
  obtain⟨HA,cc⟩:=zz2 hA hB;clear hA hB af
  by_cases cf:32≤z
  ·have ch:(32:Int)≤z:=by omega
   have a1:Hid (32≤z):=cf;refine RE.z (by kernel_rfl) 25 [6,24] [] (fun _ W=>∃x:Wb w1,W=x.1) (fun W W'=>Kr W W') (fun i q=>if i=6 then I U (ix:Int) else q.getD 0 xk) (fun i W q=>if i=24 then cX w1.heap.size [(wj ((0:Int)≤ix),210),(tT,204)] W (q.getD 0 xk) else True) (by kernel_rfl) (fun _ _ _ _ _ _ h a=>du h a) (fun i W W' q h _ a=>by split at h;(rw[oj (by assumption)];exact h.C a);rw[oe (by assumption)];trivial) ⟨⟨w1.drew,(JO _ _).drew⟩,Z⟩ ?_;simp only[JY,J7,JZ,J6]
   repeat (refine RE.q (fun W=>∃x:Wb w1,W=x.1) (fun _ _ _ h=>h) Z Z Z ⟨⟨w1.drew,(JO _ _).drew⟩,Z⟩ ?_;go_big_quiet_step (fail);refine xL ?_)
   refine RE.h Z Z ?_ (fun ck=>?_)
   ·intro W L _ B;obtain⟨s9,_,x,rfl⟩:=L;refine RE.C 125 _ _ Z (enters_of Tryz.func125 (by kernel_rfl) Z) #[vo (A ⟨M,0,Y⟩),r9 T.h] (by simp[Act.eval]) ((bm.o x.1 x.2).mono ?_);rintro e W' ⟨rfl,a⟩;exact⟨_,Z,[],Z,a,a,trivial⟩
   simp only[xS,JP,JW,JV,Nat.reduceAdd,↓reduceIte]
   repeat (refine RE.q (fun W=>∃x:Wb w1,W=x.1) (fun _ _ _ h=>h) Z Z Z ⟨⟨w1.drew,(JO _ _).drew⟩,Z⟩ ?_;go_big_quiet_step (fail);refine xL ?_)
   refine RE.h Z Z ?_ (fun q=>?_)
   ·intro W L _ B;obtain⟨s9,_,x,rfl⟩:=L;exact i7 _ _ 210 204 _ _ Z Z Z x.2.size (fun v W' a ho=>⟨[v],Z,a,a,ho⟩)
   simp only[xS,JP,JW,JV,Nat.reduceAdd,Nat.reduceEqDiff,↓reduceIte];refine RE.u ?_;intro W hS B;obtain⟨x,rfl⟩:=hS;obtain⟨g,eg,lg,hg⟩:cX w1.heap.size [(wj ((0:Int)≤ix),210),(tT,204)] x.1 (q.getD 0 xk):=B 24 q Z;rw[eg];have a6:=Hd (bZ [(wj ((0:Int)≤ix),210),(tT,204)] 2 T.h T.u T.C (O p n c) g 2 2 x.1 Z (by omega) hg);have N:=Hd x.2;clear B eg lg hg E0 E1 E2 E3 E4 MT;go_wp2_with fail
   refine a6.o.mono ?_;rintro e W2 ⟨r,he⟩;have f:=N.o.trans (r.mono N.o.size);clear r
   cases S:wj ((0:Int)≤ix) with
   | true =>
    rw[S]at he;have he:e=aR 210 T.C:=he;subst he;refine⟨Z,Chg.u (u.o.trans (f.mono u.o.size)),?_⟩;rw[HA.o (ar.o.symm.trans S)];rfl
   | false =>
    rw[S]at he;have he:e=aR 204 T.C:=he;subst he;refine⟨Z,Chg.u (u.o.trans (f.mono u.o.size)),?_⟩;rw[cc.o (ar.o.symm.trans S) (by rw[decide_eq_true a1.o];rfl)];rfl
  ·have ch:¬(32:Int)≤z:=by omega
   have a1:Hid (¬32≤z):=cf;refine RE.z (by kernel_rfl) 25 [6,24] [] (fun _ W=>∃x:Wb w1,W=x.1) (fun W W'=>Kr W W') (fun i q=>if i=6 then I U (ix:Int) else q.getD 0 xk) (fun i W q=>if i=24 then cX w1.heap.size [(wj ((0:Int)≤ix),210),(wj ((6:Int)<n),204)] W (q.getD 0 xk) else True) (by kernel_rfl) (fun _ _ _ _ _ _ h a=>du h a) (fun i W W' q h _ a=>by split at h;(rw[oj (by assumption)];exact h.C a);rw[oe (by assumption)];trivial) ⟨⟨w1.drew,(JO _ _).drew⟩,Z⟩ ?_;simp only[JY,J7,JZ,J6]
   repeat (refine RE.q (fun W=>∃x:Wb w1,W=x.1) (fun _ _ _ h=>h) Z Z Z ⟨⟨w1.drew,(JO _ _).drew⟩,Z⟩ ?_;go_big_quiet_step (fail);refine xL ?_)
   refine RE.h Z Z ?_ (fun ck=>?_)
   ·intro W L _ B;obtain⟨s9,_,x,rfl⟩:=L;refine RE.C 125 _ _ Z (enters_of Tryz.func125 (by kernel_rfl) Z) #[vo (A ⟨M,0,Y⟩),r9 T.h] (by simp[Act.eval]) ((bm.o x.1 x.2).mono ?_);rintro e W' ⟨rfl,a⟩;exact⟨_,Z,[],Z,a,a,trivial⟩
   simp only[xS,JP,JW,JV,Nat.reduceAdd,↓reduceIte]
   repeat (refine RE.q (fun W=>∃x:Wb w1,W=x.1) (fun _ _ _ h=>h) Z Z Z ⟨⟨w1.drew,(JO _ _).drew⟩,Z⟩ ?_;go_big_quiet_step (fail);refine xL ?_)
   refine RE.h Z Z ?_ (fun q=>?_)
   ·intro W L _ B;obtain⟨s9,_,x,rfl⟩:=L;exact i7 _ _ 210 204 _ _ Z Z Z x.2.size (fun v W' a ho=>⟨[v],Z,a,a,ho⟩)
   simp only[xS,JP,JW,JV,Nat.reduceAdd,Nat.reduceEqDiff,↓reduceIte];refine RE.u ?_;intro W hS B;obtain⟨x,rfl⟩:=hS;obtain⟨g,eg,lg,hg⟩:cX w1.heap.size [(wj ((0:Int)≤ix),210),(wj ((6:Int)<n),204)] x.1 (q.getD 0 xk):=B 24 q Z;rw[eg];have a6:=Hd (bZ [(wj ((0:Int)≤ix),210),(wj ((6:Int)<n),204)] 2 T.h T.u T.C (O p n c) g 2 2 x.1 Z (by omega) hg);have N:=Hd x.2;clear B eg lg hg E0 E1 E2 E3 E4 MT;go_wp2_with fail
   refine a6.o.mono ?_;rintro e W2 ⟨r,he⟩;have f:=N.o.trans (r.mono N.o.size);clear r
   cases S:wj ((0:Int)≤ix) with
   | true =>
    rw[S]at he;have he:e=aR 210 T.C:=he;subst he;refine⟨Z,Chg.u (u.o.trans (f.mono u.o.size)),?_⟩;rw[HA.o (ar.o.symm.trans S)];rfl
   | false =>
    rw[S]at he
    cases h2:wj ((6:Int)<n) with
    | true =>
     rw[h2]at he;have he:e=aR 204 T.C:=he;subst he;refine⟨Z,Chg.u (u.o.trans (f.mono u.o.size)),?_⟩;have h3:6<n:=by have:=o1 h2;omega
     rw[cc.o (ar.o.symm.trans S) (by rw[decide_eq_true h3,Bool.or_true])];rfl
    | false =>
     rw[h2]at he;have he:e=wg (y9 #[]):=he;subst he;have h3:¬6<n:=by have:=q5 h2;omega
     have HP:Hid (Kr w W2∧W2.heap[w.heap.size]?=A (r7 #[I r8 2,r9 T.h,I U T.u,I U T.C,O p n c] 145 (0,0))∧MkB F d M ts rs (O D ts.length G) vR W2∧(dE T.h ts).isSome=ur∧(32≤z||6<n)=ur):=
      ⟨u.o.trans (f.mono u.o.size),aa f b0.o (JL.1 b0.o).1,ca.o.C f,ar.o.symm.trans S,by rw[oE a1.o,oE h3];rfl⟩
     clear S h2 he f e0 e1 e2 e3 e4 ad;go_wp2_with fail
     go_meet
     case rel=>exact HP.o
 case rest =>
  obtain⟨cl,b2,cm,cn,bt⟩:=hcut;obtain⟨en,eo,er⟩:=zz3 cl b2 cm;have cp:Hid (fP ts T=match aV fieldStep [] T.z with | .error e=>zs e | .ok _=>xn (ts++[⟨T.h,T.z.length⟩])):=by
   show _=_
   unfold fP;rw[cn,oe (by decide),oe (by rw[HN.o,H.o,bt];decide)]
  clear e0 e1 e2 e3 e4 ad E0 E1 E2 E3 E4 MT bm cl cm cn bt af b0 ca u;obtain⟨e0,e1,e2,e3,e4⟩:=cells5 b2;clear b2;go_wp2_with fail
  go_loopw [35] (yD w F d M ts rs (O D ts.length G) vR T (O p n c) n) (fun i _=>n-(intOf i).toNat)
  case atStart=>exact⟨0,[],J0 _,Z,Z,en.o,eo.o,er.o⟩
  case round =>
   obtain⟨j,s,hj,rfl,ba,cq,cr,ct⟩:=hrel;have fm:(0:Int)≤j:=by omega
   obtain⟨b3,y,V,P⟩:=zz4 ba cq cr ct;clear ba cq cr ct e0 e1 e2 e3 e4
   by_cases et:j<n
   ·have fr:(j:Int)<n:=by omega
    obtain⟨K,hK⟩:∃K,T.z[j]?=A K:=⟨_,JR (by rw[H.o];exact et)⟩;have bk:=aq.o.C y.o;have cu:=ax.taken (k:=j) (aq.o.C y.o) (by rw[H.o];omega);rcases bk with ⟨h0,_⟩|⟨b,off,cap,S,h2,h3,h4,he,h6⟩
    ·rw[h0]at hK;simp at hK
    rw[H.o]at he h3;injection he with e5 _ e6
    subst e5;subst e6;obtain⟨cv,sK,c0,c1,c2,c3,c4,cy⟩:=h6 j K hK;obtain⟨ps,bn,rfl⟩:=cy.h;obtain⟨nk,cA⟩:=zzy (K.z.length);rw[cA]at c4;have bd:s=(T.z.take j).map ac.h:=by rw[rl _ _ _ b3.o];rfl
    obtain⟨bb,b4⟩:=zzx ((idxOf K.h ((T.z.take j).map ac.h)).isSome);have b5:Hid (aV fieldStep [] (T.z.take (j+1))=if bb then zs (210,K.C) else xn (s++[K.h])):=by
     show _=_
     rw[iU hK b3.o,b4,←bd];rfl
    obtain⟨C,bq⟩:=zzx (wr.alloc (r7 #[I r8 K.q,r9 K.h,I U K.u,I U K.C,O ps nk bn] 145));have r:Kr wr C:=by rw[bq];exact (JO _ wr).alloc (JM _) _
    have bg:C.heap[wr.heap.size]?=A (r7 #[I r8 K.q,r9 K.h,I U K.u,I U K.C,O ps nk bn] 145 (0,0)):=by rw[bq];exact oc wr _
    obtain⟨cC,fs⟩:=zz2 r bg;have b6:=aa r V.o (JL.1 V.o).1;have ft:=Hd b6;have fv:∀(fn:Fn) (first cap:Array tS) (w:J),(Instr.makeFunc fn first cap).run va w=.ok (z6 fn first cap) w:=fun _ _ _ _=>rfl
    have fz:∀W,(Instr.slice 143 (O (A ⟨b,off,Y⟩) n c) Y (A (I U (j:Int))) Y).run va W=.ok (O (A ⟨b,off,Y⟩) j c) W:=fun W=>AO b off n c j (by omega) W
    have cR:=Hd (fun (W:J) (hW:Kr C W)=>Di K.h wr.heap.size (T.z.take j) (O (A ⟨b,off,Y⟩) j c) dd W ((cu.C ((r.mono y.o.size).trans (hW.mono (JU y.o.size r.size)))).up (JU y.o.size (JU r.size hW.size))) (by rw[List.length_take];omega) (by rw[Kq _ _ _ _ _ _ (aa hW bg (JL.1 bg).1)];rfl));rw[←b4]at cR;obtain⟨k0,k1,k2,k3,k4⟩:=cells5 bg;obtain⟨n0,n1,n2,n3,n4⟩:=cells5 b6;have K0:=fun x:Wb C=>x.h k0
    have K1:=fun x:Wb C=>x.h k1
    have K2:=fun x:Wb C=>x.h k2
    have K3:=fun x:Wb C=>x.h k3
    have K4:=fun x:Wb C=>x.h k4
    have N4:=fun x:Wb C=>x.h n4
    obtain⟨e0,e1,e2,e3,e4⟩:=cells5 V.o;clear r bg b6 bd b4 cv cy h6 S h2 h3 h4 cA hK cu k0 k1 k2 k3 k4 n0 n1 n2 n3 n4;go_upto_region 5 with fail
    change Code.wp _ _ _ _ (wr.alloc (r7 #[I r8 K.q,r9 K.h,I U K.u,I U K.C,O ps nk bn] 145));rw[←bq];clear bq c0 c1 c2 c3 c4 e0 e1 e2 e3 e4;refine RE.z (by kernel_rfl) 9 [6,8] [] (fun _ W=>∃x:Wb C,W=x.1) (fun W W'=>Kr W W') (fun i q=>if i=6 then xt bb else q.getD 0 xk) (fun i W q=>if i=8 then cX C.heap.size [(bb,210)] W (q.getD 0 xk) else True) (by kernel_rfl) (fun _ _ _ _ _ _ h a=>du h a) (fun i W W' q h _ a=>by split at h;(rw[oj (by assumption)];exact h.C a);rw[oe (by assumption)];trivial) ⟨⟨C.drew,(JO _ _).drew⟩,Z⟩ ?_;simp only[JY,J7,JZ,J6]
    repeat (refine RE.q (fun W=>∃x:Wb C,W=x.1) (fun _ _ _ h=>h) Z Z Z ⟨⟨C.drew,(JO _ _).drew⟩,Z⟩ ?_;go_big_quiet_step (fail);refine xL ?_)
    refine RE.h Z Z ?_ (fun ck=>?_)
    ·intro W L _ B;obtain⟨s9,_,x,rfl⟩:=L;refine RE.C 126 _ _ Z (enters_of Tryz.func126 (by kernel_rfl) Z) #[O (A ⟨b,off,Y⟩) j c,z6 (.func 127) #[] #[vo (A ⟨wr.heap.size,0,Y⟩)]] (by simp[Act.eval]) ((cR.o x.1 x.2).mono ?_);rintro e W' ⟨rfl,a⟩;exact⟨_,Z,[],Z,a,a,trivial⟩
    simp only[xS,JP,JW,JV,Nat.reduceAdd,↓reduceIte]
    repeat (refine RE.q (fun W=>∃x:Wb C,W=x.1) (fun _ _ _ h=>h) Z Z Z ⟨⟨C.drew,(JO _ _).drew⟩,Z⟩ ?_;go_big_quiet_step (fail);refine xL ?_)
    refine RE.h Z Z ?_ (fun q=>?_)
    ·intro W L _ B;obtain⟨s9,_,x,rfl⟩:=L;exact lx bb 210 _ Z Z x.2.size (fun v W' a ho=>⟨[v],Z,a,a,ho⟩)
    simp only[xS,JP,JW,JV,Nat.reduceAdd,Nat.reduceEqDiff,↓reduceIte];refine RE.u ?_;intro W hS B;obtain⟨x,rfl⟩:=hS;obtain⟨g,eg,lg,hg⟩:cX C.heap.size [(bb,210)] x.1 (q.getD 0 xk):=B 8 q Z;rw[eg];obtain⟨a6,N⟩:=zz2 (bZ [(bb,210)] K.q K.h K.u K.C (O ps nk bn) g 1 1 x.1 Z (by omega) hg) x.2;clear B eg lg hg K0 K1 K2 K3 K4 N4;go_wp2_with fail
    refine a6.o.mono ?_;rintro e W2 ⟨cV,he⟩;have Q:=cC.o.trans ((N.o.trans (cV.mono N.o.size)).mono cC.o.size)
    cases bb with
    | true =>
     have he:e=aR 210 K.C:=he;subst he;have e7:=jS b5.o;refine⟨Z,Chg.u (y.o.trans (Q.mono y.o.size)),?_⟩;rw[cp.o,e7];rfl
    | false =>
     have he:e=wg (y9 #[]):=he;subst he;have HR:Hid (yD w F d M ts rs (O D ts.length G) vR T (O (A ⟨b,off,Y⟩) n c) n (I U ((j+1:Nat):Int)) W2):=
      ⟨j+1,s++[K.h],by omega,Z,b5.o,y.o.trans (Q.mono y.o.size),aa Q V.o (JL.1 V.o).1,P.o.C Q⟩
     clear cV Q b5 he;go_wp2_with fail
     refine⟨HR.o,?_⟩;simp[intOf];omega
   ·have cW:Hid (fP ts T=xn (ts++[⟨T.h,(n:Int)⟩])):=by
     show _=_
     rw[cp.o,←J5 (l:=T.z) (i:=j) (by rw[H.o];omega),b3.o,J5 (by rw[H.o];omega),H.o]
    obtain⟨us,R,c5⟩:=P.o.t;rw[HN.o]at R;have R:wr.ownsRow 0 118 2 (O D z G) z us:=R;obtain⟨c6,e8⟩:=zz2 R c5;have ad:wr.cell? ⟨M,0,Y⟩=A (O D z G):=by rw[P.o.z.1,HN.o]
    obtain⟨x2,x3,x4,x5,x6,x7,hm⟩:=P.o.m;have hK:∀b,(b=M∨b=w.heap.size)→b<wr.heap.size∧(O D z G).ownBlock≠A b:=fun b a=>by
     rw[←HN.o];rcases a with rfl|rfl
     ·exact⟨P.o.lt,row_ne hm P.o.t (by decide)⟩
     ·exact⟨(JL.1 V.o).1,fun e=>by have:=cb.o _ e;omega⟩
    have c7:=Hd (jR (E:=118) (sz:=2) (row:=us++[r9 T.h,I U (n:Int)]) (K:=fun b=>b=M∨b=w.heap.size) hK);obtain⟨e0,e1,e2,e3,e4⟩:=cells5 V.o;have E1:=fun x:Ks wr (fun b=>b=M∨b=w.heap.size)=>x.h (wF Z) e1
    have E4:=fun x:Ks wr (fun b=>b=M∨b=w.heap.size)=>x.h (wF Z) e4
    have M0:=fun x:Ks wr (fun b=>b=M∨b=w.heap.size)=>x.h (wD Z) ad
    clear R c5 ad hm hK e0 e1 e2 e3 e4;go_upto_region 7 with fail
    refine RE.z (by kernel_rfl) 15 [13,14] [14] (stA 118 2 wr D z G (us++[r9 T.h,I U (n:Int)])) (ApR wr) (fun _ q=>q.getD 0 xk) (phA 118 2 wr D z G [r9 T.h,I U (n:Int)] (us++[r9 T.h,I U (n:Int)]) 13 14) (by kernel_rfl) (fun _ _ _ _ _ _ h a=>h.C a) (fun _ _ _ _ h _ hR=>h.K hR) stA.zero ?_;simp only[JY,J7,JZ,J6]
    repeat (refine RE.q (fun W=>∃x:Ks wr (fun b=>b=M∨b=w.heap.size),W=x.1) (c7.o _) Z Z Z stA.zero ?_;go_big_quiet_step (fail);refine xL ?_)
    refine RE.h Z Z ?_ (fun e9=>?_)
    ·intro W L hS B;obtain⟨s9,_,h9⟩:=L;exact ek yp (vs:=[r9 T.h,I U (n:Int)]) _ Z Z Z h9.z (fun v W' a ho=>⟨[v],Z,a,ApR.u a,ho⟩)
    simp only[xS,JP,JW,JV,Nat.reduceAdd];refine RE.h Z Z ?_ (fun c8=>?_)
    ·intro W L hS B;obtain⟨x,rfl⟩:∃x:Wb wr,W=x.1:=hS Z;exact i9 yp (p:=D) (n:=z) (c:=G) (w4:=wr) (vs:=[r9 T.h,I U (n:Int)]) (xs:=us) _ _ Z Z (B 13 e9 (by kernel_rfl) Z) Z (by simp[Value.oneCell']) x.2 c6.o (by omega) (fun v' W' S h2 h3=>⟨[v'],Z,S,h2,h3⟩)
    simp only[xS,JP,JW,JV,Nat.reduceAdd];refine RE.u ?_;intro W hS B;have hS:ApS 118 2 wr D z G (us++[r9 T.h,I U (n:Int)]) W:=hS;have hV:ApV 118 2 wr D z G (us++[r9 T.h,I U (n:Int)]) W (c8.getD 0 xk):=B 14 c8 Z;obtain⟨g',cap,eg,hg,L,bB⟩:=jZ hS hV;rw[eg];have c9:Chg (fun b=>(O D ts.length G).ownBlock=A b) wr W:=by rw[HN.o];exact L
    have b7:(O D ts.length G).ownBlock=A g'∨wr.heap.size≤g':=by rw[HN.o];exact hg
    have dg:eW.at_ wr F ⟨T.h,(n:Int)⟩ [r9 T.h,I U (n:Int)]:=qG.2 ⟨Z,dv,by show (-9223372036854775808:Int)≤(n:Int);omega,by show (n:Int)<9223372036854775808;omega⟩;obtain⟨dn,ds,b8⟩:=P.o.pushT HN.o e8.o dg b7 c9 bB;obtain⟨y2,y3,y4,y5,y6,y7,hm⟩:=P.o.m;have fI:W.cell? ⟨M,0,Y⟩=A (O D z G):=by rw[Kq _ _ _ _ _ _ (b8.trans hm),←HN.o];rfl
    have fT:=aB (b8.trans hm) 0;have HP:Hid (qF F d M rs (O D ts.length G) vR (xn (ts++[⟨T.h,(n:Int)⟩])) w (wg (y9 #[])) (W.setCell ⟨M,0,Y⟩ (O (A ⟨g',0,Y⟩) (z+1) cap))):=by
     refine⟨dI (Chg.u y.o) ds (fun x hx=>wD hx),Z,_,dn,fun b a=>?_⟩;injection a with a
     have a:g'=b:=a;subst a;rcases b7 with h|h
     ·exact wD h
     ·have:=y.o.size;exact wF (by omega)
    clear hS hV B eg hg L bB c9 b7 dn ds b8 E1 E4 M0 c7 dg hm;go_wp2_with fail
    go_end0
    rw[cW.o];exact HP.o
structure nh (d:Nat) (K:ac):Prop where
 u:I64 K.u
 z:K.z.length≤10000
 c:K.q=5∨K.q=6→∀k∈K.z,(k.q=12∨k.q=13∨k.q=14∨k.q=15)∧k.h.size≤72007
 a:K.q=7→∃t r,K.z=t::r∧fo d t
 exprs:K.q=8∨K.q=10→∀k∈K.z,fo d k
def fZ(d:Nat) (ts:List am) (vars:List ByteArray) (K:ac):Except Flt (List ByteArray×bj):=
 if K.q==5 then eh tT 1 (cM ts K) vars K.z
 else if K.q==6 then eh ur 2 (cM ts K) vars K.z
 else match K.z with
  | []=>zs (0,0)
  | t::_=>kb vars (aJ vars d t)
def jm(d:Nat) (ts:List am) (vars:List ByteArray) (cs:List bj) (K:ac):Except Flt dr:=
 if K.q==8 then kq (cM ts K) (cF (aJ vars d) K.z)
 else if K.q==9 then iI cs K
 else if K.q==10 then pz (cF (aJ vars d) K.z)
 else xn ⟨4,0,0,[]⟩
theorem uT{d:Nat}{ts:List am}{s:RSt}{K:ac}(h:a9 K=tT)(c:nh d K):cK d ts s K=match fZ d ts s.b K with | .error e=>zs e | .ok x=>xn ⟨x.1,s.a++[x.2],s.d⟩:=by
 have a:K.q=5∨K.q=6∨K.q=7:=by
  unfold a9 at h
  simpa using h
 rcases a with a|a|a
 ·unfold cK fZ eh;simp only[a]
  cases cM ts K with
  | error e=>rfl
  | ok k =>
   dsimp only
   show (match aV (cg tT) (s.b,[]) K.z with | .error e=>_ | .ok r=>_)=_
   cases aV (cg tT) (s.b,[]) K.z<;>rfl
 ·unfold cK fZ eh;simp only[a]
  cases cM ts K with
  | error e=>rfl
  | ok k =>
   dsimp only
   show (match aV (cg ur) (s.b,[]) K.z with | .error e=>_ | .ok r=>_)=_
   cases aV (cg ur) (s.b,[]) K.z<;>rfl
 ·obtain⟨t,r,b,_⟩:=c.a a;unfold cK fZ kb;simp only[a,b]
  show (match aJ s.b d t with | .error e=>_ | .ok x=>_)=_
  cases aJ s.b d t<;>rfl
theorem yH{d:Nat}{ts:List am}{s:RSt}{K:ac}(h:a9 K=ur):cK d ts s K=match jm d ts s.b s.a K with | .error e=>zs e | .ok x=>xn ⟨s.b,s.a,s.d++[x]⟩:=by
 have b:K.q≠5∧K.q≠6∧K.q≠7:=by
  unfold a9 at h
  simpa using h
 have i:(K.q==5)=false:=by simpa using b.1
 have j:(K.q==6)=false:=by simpa using b.2.1
 have l:(K.q==7)=false:=by simpa using b.2.2
 unfold cK jm;rw[i,j,l];simp only[Bool.or_self,Ka,oF]
 by_cases f:K.q=8
 ·simp only[f];unfold kq
  show (match cM ts K with | .error e=>_ | .ok k=>_)=_
  cases cM ts K with
  | error e=>rfl
  | ok k =>
   show (match cF (aJ s.b d) K.z with | .error e=>_ | .ok xs=>_)=_
   cases cF (aJ s.b d) K.z<;>rfl
 ·have m:(K.q==8)=false:=by simpa using f
  rw[m];simp only[Ka,oF]
  by_cases g:K.q=9
  ·simp only[g];unfold iI
   show (if K.u<1||decide ((aK s.a:Int)<K.u) then _ else _)=_
   split<;>rfl
  ·have n:(K.q==9)=false:=by simpa using g
   rw[n];simp only[Ka,oF]
   by_cases a:K.q=10
   ·simp only[a];unfold pz
    show (match cF (aJ s.b d) K.z with | .error e=>_ | .ok xs=>_)=_
    cases cF (aJ s.b d) K.z<;>rfl
   ·have c:(K.q==10)=false:=by simpa using a
    rw[c];rfl
theorem rP{ts:List am}{K:ac}{k:Nat}(a:ts.length≤10000)(h:cM ts K=xn k):k≤10000:=by
 unfold cM at h
 split at h
 ·cases h
 ·rename_i c b
  have:=re b
  split at h
  ·injection h with h;omega
  ·cases h
section
variable {F:Nat→Prop} {d M:Nat} {ts:List am} {rs:List aD} {vars:List ByteArray} {nm:ByteArray} {sal nv:Int} {cs:List bj} {acs:List dr} {vT vR vV vC vA:tS} {w:J}
theorem MkW.row_t(h:MkW F d M ts rs vars nm sal nv cs acs vT vR vV vC vA w):eW.h w (fun b=>b<w.heap.size) ts vT:=h.t.h (fun b a=>(h.f b a).1) (fun _g c=>h.t.lt c)
theorem MkW.typed(h:MkW F d M ts rs vars nm sal nv cs acs vT vR vV vC vA w)(K:ac){s:tS}(a:∃p c,s=O p K.z.length c)(b:K.z.length≤10000):vv va 156 #[vo (A ⟨M,0,Y⟩),wP #[I r8 K.q,r9 K.h,I U K.u,I U K.C,s]] w (qL (cM ts K) nL w):=by
 obtain⟨p,c,rfl⟩:=a;exact DG ts K p c vT _ M w h.row_t (fun _ h=>h) (by rw[Kq _ _ _ _ _ _ h.m];rfl) (by omega)
theorem MkW.exprs(h:MkW F d M ts rs vars nm sal nv cs acs vT vR vV vC vA w){Ks:List ac}{s:tS}(a:ax w w.heap.size (d+1) Ks s)(f:Ks.length≤10000)(b:∀k∈Ks,fo d k):vv va 159 #[vo (A ⟨M,0,Y⟩),s] w (j6 d (cF (aJ vars d) Ks) w):=
 qg d M vars vV (aJ vars d) Ks s w h.vars a (by omega) (fun T c s W e _ a=>yq M vars vV d T s W e (b T c) a)
end
def uw(F:Nat→Prop) (d M:Nat) (ts:List am) (rs:List aD) (vars:List ByteArray) (nm:ByteArray) (sal nv:Int) (cs:List bj) (acs:List dr) (vT vR vV vC vA:tS) (K:ac) (w:J) (e:Ending) (w':J):Prop:=
 if a9 K then lQ F d M ts rs nm sal nv cs acs vT vR vV vC vA (fZ d ts vars K) w e w'
 else e=wg (xt ur)∧Kr w w'∧MkW F d M ts rs vars nm sal nv cs acs vT vR vV vC vA w'
theorem GM(F:Nat→Prop)(d M:Nat)(ts:List am)(rs:List aD)(vars:List ByteArray)(nm:ByteArray)(sal nv:Int)(cs:List bj)(acs:List dr)(vT vR vV vC vA:tS)(K:ac)(s:tS)(u:Nat)(w:J)
  (hw:MkW F d M ts rs vars nm sal nv cs acs vT vR vV vC vA w) (i:cs.length≤10000) (v:vars.length≤16) (x:ts.length≤10000) (j:nh d K) (f:ax w u (d+1) K.z s) (g:u≤w.heap.size) (D:∀b,bh M [vT,vR,vV,vC,vA] b→u≤b) :
  vv va 130 #[vo (A ⟨M,0,Y⟩),wP #[I r8 K.q,r9 K.h,I U K.u,I U K.C,s]] w (uw F d M ts rs vars nm sal nv cs acs vT vR vV vC vA K w):=by
 obtain⟨p,c,y⟩:=f.h;unfold uw
 by_cases n:K.q=5
 ·have l:a9 K=true:=by unfold a9;rw[n];rfl
  rw[l];simp only[oX];have e:fZ d ts vars K=eh tT 1 (cM ts K) vars K.z:=by unfold fZ;rw[n];rfl
  rw[e];subst y
  exact vl 5 1 tT (wD ⟨Z,Z,Z⟩) F d M ts rs vars nm sal nv cs acs vT vR vV vC vA K K.z p K.z.length c u d (cM ts K) w hw (by omega) i v Z j.z (fun k h=>rP x h) f g D (j.c (wD n)) (fun W m=>by
   have:=(hw.C m).typed K ⟨p,c,Z⟩ j.z;rw[n]at this
   exact this)
 by_cases o:K.q=6
 ·have l:a9 K=true:=by unfold a9;rw[o];rfl
  rw[l];simp only[oX];have e:fZ d ts vars K=eh ur 2 (cM ts K) vars K.z:=by unfold fZ;rw[o];rfl
  rw[e];subst y
  exact vl 6 2 ur (wF ⟨Z,Z,Z⟩) F d M ts rs vars nm sal nv cs acs vT vR vV vC vA K K.z p K.z.length c u d (cM ts K) w hw (by omega) i v Z j.z (fun k h=>rP x h) f g D (j.c (wF o)) (fun W m=>by
   have:=(hw.C m).typed K ⟨p,c,Z⟩ j.z;rw[o]at this
   exact this)
 by_cases q:K.q=7
 ·have l:a9 K=true:=by unfold a9;rw[q];rfl
  rw[l];simp only[oX];obtain⟨t,r,a,z⟩:=j.a q;have e:fZ d ts vars K=kb vars (aJ vars d t):=by unfold fZ;rw[q,a];rfl
  rw[e];have E:=f;rcases f with ⟨P,_⟩|⟨b,off,cap,Q,R,S,T,he,B⟩
  ·rw[P]at a;cases a
  subst he;obtain⟨G,st,H,L,c2,N,c4,C⟩:=B 0 t (by rw[a];rfl);simp only[Nat.zero_mul,Nat.add_zero]at H L c2 N c4;exact CL F d M ts rs vars nm sal nv cs acs vT vR vV vC vA K t b off cap st (aJ vars d t) K.z.length w hw q i (by rw[a];simp) H L c2 N c4 (fun W m=>yq M vars vV d t st W (hw.C m).vars z ((C.C (m.mono g)).up (JU g m.size)))
 ·have l:a9 K=false:=by unfold a9;simp[n,o,q]
  rw[l];simp only[Ka,oF];subst y;exact EM F d M ts rs vars nm sal nv cs acs vT vR vV vC vA K p K.z.length c w hw ⟨n,o,q⟩
theorem Ir(F:Nat→Prop)(d M:Nat)(ts:List am)(rs:List aD)(vars:List ByteArray)(nm:ByteArray)(sal nv:Int)(cs:List bj)(acs:List dr)(vT vR vV vC vA:tS)(K:ac)(s:tS)(r:Nat)(w:J)
  (hw:MkW F d M ts rs vars nm sal nv cs acs vT vR vV vC vA w) (n:cs.length≤10000) (b:acs.length≤10000) (o:ts.length≤10000) (l:nh d K) (g:ax w r (d+1) K.z s) (i:r≤w.heap.size) :
  vv va 131 #[vo (A ⟨M,0,Y⟩),wP #[I r8 K.q,r9 K.h,I U K.u,I U K.C,s]] w (i6 F d M ts rs vars nm sal nv cs acs vT vR vV vC vA (jm d ts vars cs K) w):=by
 obtain⟨p,c,u⟩:=g.h;have hex:∀(t:K.q=8∨K.q=10) W,Kr w W→vv va 159 #[vo (A ⟨M,0,Y⟩),s] W (j6 d (cF (aJ vars d) K.z) W):=fun t W j=>(hw.C j).exprs ((g.C (j.mono i)).up (JU i j.size)) l.z (l.exprs t)
 subst u
 by_cases f:K.q=8
 ·have e:jm d ts vars cs K=kq (cM ts K) (cF (aJ vars d) K.z):=by unfold jm;rw[f];rfl
  rw[e]
  exact DK F d M ts rs vars nm sal nv cs acs vT vR vV vC vA K p K.z.length c (cM ts K) _ w hw f b (fun k h=>rP o h) (fun W j=>by
   have:=(hw.C j).typed K ⟨p,c,Z⟩ l.z;rw[f]at this
   exact this) (hex (wD f))
 by_cases m:K.q=9
 ·have e:jm d ts vars cs K=iI cs K:=by unfold jm;rw[m];rfl
  rw[e];exact EZ F d M ts rs vars nm sal nv cs acs vT vR vV vC vA K p K.z.length c w hw m b n l.u
 by_cases a:K.q=10
 ·have e:jm d ts vars cs K=pz (cF (aJ vars d) K.z):=by unfold jm;rw[a];rfl
  rw[e];exact IH F d M ts rs vars nm sal nv cs acs vT vR vV vC vA K p K.z.length c _ w hw a b (hex (wF a))
 ·have e:jm d ts vars cs K=xn ⟨4,0,0,[]⟩:=by
   unfold jm;have v:(K.q==8)=false:=by simpa using f
   have x:(K.q==9)=false:=by simpa using m
   have q:(K.q==10)=false:=by simpa using a
   rw[v,x,q];rfl
  rw[e];exact CM F d M ts rs vars nm sal nv cs acs vT vR vV vC vA K p K.z.length c w hw ⟨f,m,a⟩ b
