/- Parts of one proof, joined; conditions stand in each theorem. -/
import Derived.Test.YtmpekinjoeibbaaGreatDoorNJ
open Option renaming none→V,some→A
open Go renaming World→p7,Value→r3,Calls→r9
open Go.Value renaming int→I,agg→s3,string→p9,bool→ur,func→wP,slice→O,pointer→tv
open Go.IntKind renaming i64→Y,u8→J
open Go.Proofs.Tryz renaming prog→r6
open Go.Ending renaming returned→tF
open Or renaming inl→tE,inr→tS
namespace Go.Proofs.YtmpekinjoeibbaaGreatDoor
set_option maxHeartbeats 1000000
set_option maxRecDepth 100000
open Go.RowKit
def eu(t:ah):Bool:=!de t
def hasName(x:ByteArray) (t:ah):Bool:=t.h.data.toList==x.data.toList
def gI(q:ah→Bool):List ah→Nat→Option Nat
 | [],_=>V
 | K::l,k=>if q K then A k else gI q l (k+1)
theorem pB(q:ah→Bool):∀(l:List ah) (m k:Nat) (K:ah),l[k]?=A K→q K=true→(∀(j:Nat) (z:ah),j<k→l[j]?=A z→q z=false)→gI q l m=A (m+k)
 | [],m,k,K,h,_,_=>by simp at h
 | z::l,m,0,K,h,he,_=>by
  simp only[List.getElem?_cons_zero,oF]at h;subst h;unfold gI;rw[oA he];rfl
 | z::l,m,k+1,K,h,he,a=>by
  rw[FN]at h;have b:=a 0 z (by omega) Z;unfold gI;rw[b];simp only[Fx,oX];rw[pB q l (m+1) k K h he (fun j c f e=>a (j+1) c (by omega) (by rw[FN];exact e))]
  congr 1;omega
theorem mT(q:ah→Bool):∀(l:List ah) (m:Nat),(∀(j:Nat) (z:ah),l[j]?=A z→q z=false)→gI q l m=V
 | [],m,_=>rfl
 | z::l,m,a=>by
  unfold gI;rw[a 0 z Z];simp only[Fx,oX];exact mT q l (m+1) (fun j b c=>a (j+1) b (by rw[FN];exact c))
theorem qf:∀(l:List ah) (m:Nat),(match gI eu l m with|some k=>k=m+f7 l|none=>f7 l=l.length)
 | [],m=>rfl
 | z::l,m=>by
  unfold gI f7;rw[List.takeWhile_cons]
  cases h:de z with
  | true =>
   have a:eu z=false:=by unfold eu;rw[h];rfl
   simp only[a,Fx,oX,o4,FC];have:=qf l (m+1);unfold f7 at this
   cases b:gI eu l (m+1) with
   | none =>
    rw[b]at this;have this:(List.takeWhile de l).length=l.length:=this
    show (List.takeWhile de l).length+1=l.length+1
    omega
   | some k =>
    rw[b]at this;have this:k=m+1+(List.takeWhile de l).length:=this
    show k=m+((List.takeWhile de l).length+1)
    omega
  | false =>
   have a:eu z=true:=by unfold eu;rw[h];rfl
   simp[a]
theorem sn(x:ByteArray):∀(l:List ah) (m:Nat),(gI (hasName x) l m).isSome=(gl x (l.map ah.h) m).isSome
 | [],m=>rfl
 | z::l,m=>by
  unfold gI hasName;rw[List.map_cons];unfold gl
  cases h:(z.h.data.toList==x.data.toList) with
  | true=>simp
  | false =>
   simp only[Fx,oX];exact sn x l (m+1)
def uA(w:p7) (n:Nat) (l:List ah) (q:ah→Bool) (i:r3) (W:p7):Prop:=∃k:Nat,k≤n∧i=I Y (k:Int)∧FS w W∧(∀(j:Nat) (z:ah),j<k→l[j]?=A z→q z=false)
theorem zk(T:ah)(s:r3)(w:p7) :
  r9 r6 106 #[s3 #[I J T.b,p9 T.h,I Y T.q,I Y T.t,s]] w fun e w'=>e=tF (ur (eu T))∧FS w w':=by
 have f:FS w (w.alloc (Obj.cells #[I J T.b,p9 T.h,I Y T.q,I Y T.t,s] 64)):=(EU _ w).alloc (ET _) _;have a:=Hd f;obtain⟨k,b⟩:=zzy (T.b);have c:Hid (eu T = !([5,6,7].contains k)):=by show _=_;rw[←b];rfl
 obtain⟨j,q,r,t,u⟩:=cells5 (ot w (Obj.cells #[I J T.b,p9 T.h,I Y T.q,I Y T.t,s] 64));rw[b]at j ⊢;rw[b]at a;clear f b
 by_cases g:k=5
 ·subst g
  go_enter Tryz.func106,Tryz.ntmps106
  go_wp2
  go_ret;exact⟨by rw[c.o];rfl,a.o⟩
 by_cases h:k=6
 ·subst h
  go_enter Tryz.func106,Tryz.ntmps106
  go_wp2
  go_ret;exact⟨by rw[c.o];rfl,a.o⟩
 by_cases i:k=7
 ·subst i
  go_enter Tryz.func106,Tryz.ntmps106
  go_wp2
  go_ret;exact⟨by rw[c.o];rfl,a.o⟩
 have l:Hid (eu T=true):=by
  show _=_
  rw[c.o];simp[g,h,i]
 have m:¬((k:Int)=5):=by omega
 have n:¬((k:Int)=6):=by omega
 have p:¬((k:Int)=7):=by omega
 go_enter Tryz.func106,Tryz.ntmps106
 go_wp2
 go_ret;exact⟨by rw[l.o];simp[m,n,p],a.o⟩
theorem C5(Ts:List ah)(v:r3)(U:Nat)(w:p7)(a:aF w w.heap.size (U+1) Ts v)(E:Ts.length≤1000000) :
  r9 r6 105 #[v,wP (.func 106) #[] #[]] w (fun e w'=>e=tF (I Y (eh (gI eu Ts 0)))∧FS w w'):=by
 obtain⟨p,c,rfl⟩:=a.t;obtain⟨n,G⟩:=zzy (Ts.length);have S:=Hd (fun W (X:FS w W)=>a.C X);rw[G]at S E ⊢;have H:=Hd G;clear a G
 go_enter Tryz.func105,Tryz.ntmps105
 go_wp2
 go_loopw [8] (uA w n Ts eu) (fun i _=>n-(intOf i).toNat)
 case atStart=>exact⟨0,Fi _,Z,EU _ _,fun j z hj=>by omega⟩
 case round =>
  obtain⟨k,hk,rfl,y,l⟩:=hrel;have ad:(0:Int)≤k:=by omega
  obtain⟨L,g⟩:=zz2 y l;clear l
  by_cases N:k<n
  ·have af:(k:Int)<n:=by omega
   obtain⟨K,B⟩:∃K,Ts[k]?=A K:=⟨_,EX (by rw[H.o];exact N)⟩;have a:=S.o wr y;rcases a with ⟨rfl,_⟩|⟨b,off,cap,h1,h2,h3,h4,he,T⟩
   ·simp at B
   rw[H.o]at he;injection he with e1 _ e3
   subst e1;subst e3;obtain⟨m,s,c0,c1,c2,c3,c4,q⟩:=T k K B;obtain⟨ps,P,rfl⟩:=q.t;obtain⟨Q,r⟩:=zzy (K.u.length);rw[r]at c4;have HK:=Hd (zk K (O ps Q P) wr);have t:Hid (Ts[k]?=A K):=B;clear m q T h1 h2 h3 h4 r B y;go_wp2_with fail
   refine HK.o.mono ?_;rintro e w1 ⟨rfl,u⟩;have x:=Hd (L.o.trans (u.mono L.o.size));clear u c0 c1 c2 c3 c4
   cases C:eu K with
   | true =>
    have R:=Hd (pB eu Ts 0 k K t.o C g.o);clear C;go_wp2_with fail
    go_ret;exact⟨by rw[R.o,Nat.zero_add];rfl,x.o⟩
   | false =>
    have HQ:=Hd C;clear C;go_wp2_with fail
    exact⟨⟨k+1,by omega,by go_num,x.o,fun j z hj f=>by
     by_cases h:j=k
     ·subst h;rw[t.o]at f;injection f with f
      rw[←f];exact HQ.o
     ·exact g.o j z (by omega) f⟩,by simp[intOf];omega⟩
  ·have R:Hid (gI eu Ts 0=V):=mT _ Ts 0 (fun j z f=>g.o j z (by
    have:=(Fo.1 f).1;rw[H.o]at this
    omega) f)
   clear y;go_wp2_with fail
   go_ret;exact⟨by rw[R.o];rfl,L.o⟩
theorem zQ(Ts:List ah)(v:r3)(s:Nat)(w:p7)(f:aF w w.heap.size (s+1) Ts v)(h:Ts.length≤1000000) :
  r9 r6 50 #[v] w (fun e w'=>e=tF (I Y (f7 Ts:Int))∧FS w w'):=by
 obtain⟨p,c,hv⟩:=f.t;obtain⟨a,g⟩:=zz2 (C5 Ts v s w f h) (qf Ts 0);rw[hv]at a ⊢;obtain⟨n,l⟩:=zzy (Ts.length);obtain⟨m,hm⟩:=zzy (f7 Ts);rw[hm,l]at g;rw[l]at a ⊢;rw[hm];clear f hv l hm h
 cases j:gI eu Ts 0 with
 | none =>
  rw[j]at g a;have q:m=n:=g.o;subst q;have a:Hid (r9 r6 105 #[O p m c,wP (.func 106) #[] #[]] w (fun e w'=>e=tF (I Y (-1))∧FS w w')):=a;clear g j
  go_enter Tryz.func50,Tryz.ntmps50
  go_wp2_with fail
  refine a.o.mono ?_;rintro e w1 ⟨rfl,b⟩;have r:=Hd b;clear b a;go_wp2_with fail
  go_ret;exact⟨Z,r.o⟩
 | some k =>
  rw[j]at g a;have i:k=0+m:=g.o;rw[Nat.zero_add]at i;subst i;have a:Hid (r9 r6 105 #[O p n c,wP (.func 106) #[] #[]] w (fun e w'=>e=tF (I Y (k:Int))∧FS w w')):=a;have t:¬((k:Int)<0):=by omega
  have u:(0:Int)≤k:=by omega
  clear g j
  go_enter Tryz.func50,Tryz.ntmps50
  go_wp2_with fail
  refine a.o.mono ?_;rintro e w1 ⟨rfl,b⟩;have r:=Hd b;clear b a;go_wp2_with fail
  go_ret;exact⟨Z,r.o⟩
theorem yn(K:ah)(s:r3)(x:ByteArray)(T:Nat)(w:p7)(b:w.cell? ⟨T,1,V⟩=A (p9 x)) :
  r9 r6 49 #[s3 #[I J K.b,p9 K.h,I Y K.q,I Y K.t,s],tv (A ⟨T,0,V⟩)] w fun e w'=>e=tF (ur (hasName x K))∧FS w w':=by
 have c:=dW b;have a:FS w (w.alloc (Obj.cells #[I J K.b,p9 K.h,I Y K.q,I Y K.t,s] 64)):=(EU _ w).alloc (ET _) _;have f:=(a.cell (p:=⟨T,1,V⟩) c).trans b;have g:=Hd a;clear a
 go_enter Tryz.func49,Tryz.ntmps49
 go_wp2
 go_ret;exact⟨by unfold hasName;rw[Fj,Fj];rfl,g.o⟩
theorem BQ(x:ByteArray)(T:Nat)(Ts:List ah)(v:r3)(dd:Nat)(w:p7)(a:aF w w.heap.size (dd+1) Ts v)(G:Ts.length≤1000000)(H:w.cell? ⟨T,1,V⟩=A (p9 x)) :
  r9 r6 105 #[v,wP (.func 49) #[] #[tv (A ⟨T,0,V⟩)]] w (fun e w'=>e=tF (I Y (eh (gI (hasName x) Ts 0)))∧FS w w'):=by
 obtain⟨p,c,rfl⟩:=a.t;obtain⟨n,L⟩:=zzy (Ts.length);have HV:=Hd (fun W (N:FS w W)=>a.C N);have P:=Hd (fun W (N:FS w W)=>(N.cell (p:=⟨T,1,V⟩) (dW H)).trans H);rw[L]at HV G ⊢;have Q:=Hd L;clear a L H
 go_enter Tryz.func105,Tryz.ntmps105
 go_wp2
 go_loopw [8] (uA w n Ts (hasName x)) (fun i _=>n-(intOf i).toNat)
 case atStart=>exact⟨0,Fi _,Z,EU _ _,fun j z hj=>by omega⟩
 case round =>
  obtain⟨k,hk,rfl,l,m⟩:=hrel;have ad:(0:Int)≤k:=by omega
  obtain⟨R,g⟩:=zz2 l m;clear m
  by_cases S:k<n
  ·have af:(k:Int)<n:=by omega
   obtain⟨K,C⟩:∃K,Ts[k]?=A K:=⟨_,EX (by rw[Q.o];exact S)⟩;have a:=HV.o wr l;rcases a with ⟨rfl,_⟩|⟨b,off,cap,h1,h2,h3,h4,he,h6⟩
   ·simp at C
   rw[Q.o]at he;injection he with e1 _ e3
   subst e1;subst e3;obtain⟨q,s,c0,c1,c2,c3,c4,r⟩:=h6 k K C;obtain⟨ps,U,rfl⟩:=r.t;obtain⟨X,t⟩:=zzy (K.u.length);rw[t]at c4;have HK:=Hd (yn K (O ps X U) x T wr (P.o wr l));have u:Hid (Ts[k]?=A K):=C;clear q r h6 h1 h2 h3 h4 t C l;go_wp2_with fail
   refine HK.o.mono ?_;rintro e w1 ⟨rfl,y⟩;have B:=Hd (R.o.trans (y.mono R.o.size));clear y c0 c1 c2 c3 c4
   cases E:(hasName x) K with
   | true =>
    have HH:=Hd (pB (hasName x) Ts 0 k K u.o E g.o);clear E;go_wp2_with fail
    go_ret;exact⟨by rw[HH.o,Nat.zero_add];rfl,B.o⟩
   | false =>
    have HQ:=Hd E;clear E;go_wp2_with fail
    exact⟨⟨k+1,by omega,by go_num,B.o,fun j z hj f=>by
     by_cases h:j=k
     ·subst h;rw[u.o]at f;injection f with f
      rw[←f];exact HQ.o
     ·exact g.o j z (by omega) f⟩,by simp[intOf];omega⟩
  ·have HH:Hid (gI (hasName x) Ts 0=V):=mT _ Ts 0 (fun j z f=>g.o j z (by
    have:=(Fo.1 f).1;rw[Q.o]at this
    omega) f)
   clear l;go_wp2_with fail
   go_ret;exact⟨by rw[HH.o];rfl,R.o⟩
theorem zP(x:ByteArray)(T:Nat)(Ts:List ah)(v:r3)(j:Nat)(w:p7)(f:aF w w.heap.size (j+1) Ts v)(g:Ts.length≤1000000)(l:w.cell? ⟨T,1,V⟩=A (p9 x)) :
  r9 r6 48 #[v,wP (.func 49) #[] #[tv (A ⟨T,0,V⟩)]] w (fun e w'=>e=tF (ur (idxOf x (Ts.map ah.h)).isSome)∧FS w w'):=by
 have a:=Hd (BQ x T Ts v j w f g l);have m:Hid ((idxOf x (Ts.map ah.h)).isSome=(gI (hasName x) Ts 0).isSome):=(sn x Ts 0).symm;rw[m.o];obtain⟨p,c,hv⟩:=f.t;rw[hv]at a ⊢;clear f g l m hv
 cases h:gI (hasName x) Ts 0 with
 | none =>
  rw[h]at a;have a:Hid (r9 r6 105 #[O p Ts.length c,wP (.func 49) #[] #[tv (A ⟨T,0,V⟩)]] w (fun e w'=>e=tF (I Y (-1))∧FS w w')):=a;clear h
  go_enter Tryz.func48,Tryz.ntmps48
  go_wp2_with fail
  refine a.o.mono ?_;rintro e w1 ⟨rfl,b⟩;have i:=Hd b;clear b a;go_wp2_with fail
  go_ret;exact⟨Z,i.o⟩
 | some k =>
  rw[h]at a;have a:Hid (r9 r6 105 #[O p Ts.length c,wP (.func 49) #[] #[tv (A ⟨T,0,V⟩)]] w (fun e w'=>e=tF (I Y (k:Int))∧FS w w')):=a;have n:(0:Int)≤k:=by omega
  clear h
  go_enter Tryz.func48,Tryz.ntmps48
  go_wp2_with fail
  refine a.o.mono ?_;rintro e w1 ⟨rfl,b⟩;have i:=Hd b;clear b a;go_wp2_with fail
  go_ret;exact⟨Z,i.o⟩
structure eN (F D:Nat→Prop) (d M:Nat) (ts:List ap) (rs:List au) (vT vR:r3) (W:p7):Prop where
 f:∀b,F b→b<W.heap.size∧¬bf M [vT,vR] b
 df:∀b,D b→F b
 m:∃x2 x3 x4 x5 x6 x7,W.heap[M]?=A (Obj.cells #[vT,vR,x2,x3,x4,x5,x6,x7] 98 (0,0))
 t:bF W F 41 cN ts vT
 rl:cO W D 39 (eU d) rs vR
abbrev MkB(F:Nat→Prop):=eN F F
section
variable {F D:Nat→Prop} {d M:Nat} {ts:List ap} {rs:List au} {vT vR:r3} {W W':p7}
theorem eN.r(h:eN F D d M ts rs vT vR W):bF W F 39 (eU d) rs vR:=h.rl.h.N h.df
theorem eN.lt(h:eN F D d M ts rs vT vR W):M<W.heap.size:=by
 obtain⟨x2,x3,x4,x5,x6,x7,hm⟩:=h.m;exact (ES.1 hm).1
theorem eN.b(h:eN F D d M ts rs vT vR W){b:Nat}(a:bf M [vT,vR] b):b<W.heap.size:=by
 rcases a with rfl|⟨v,hv,a⟩
 ·exact h.lt
 ·simp only[FK,FH,o5]at hv;rcases hv with rfl|rfl
  ·exact h.t.lt a
  ·exact h.r.lt a
theorem eN.upd(h:eN F D d M ts rs vT vR W)(c:W.heap.size≤W'.heap.size)(e:∀b,(F b∨bf M [vT,vR] b)→W'.heap[b]?=W.heap[b]?):eN F D d M ts rs vT vR W':=by
 have i:∀b,F b→∀o,W.heap[b]?=A o→W'.heap[b]?=A o:=fun b a o k=>(e b (tE a)).trans k
 have j:∀v∈[vT,vR],∀g,v.ownBlock=A g→W'.heap[g]?=W.heap[g]?:=fun v hv g l=>e g (tS (tS ⟨v,hv,l⟩))
 obtain⟨x2,x3,x4,x5,x6,x7,hm⟩:=h.m;exact⟨fun b a=>⟨EY (h.f b a).1 c,(h.f b a).2⟩,h.df,⟨x2,x3,x4,x5,x6,x7,(e M (tS (tE Z))).trans hm⟩,h.t.t (j _ (by simp)) i (fun _ h=>h),h.rl.t (j _ (by simp)) (fun b a=>i b (h.df b a)) (fun _ h=>h)⟩
theorem eN.C(h:eN F D d M ts rs vT vR W)(e:FS W W'):eN F D d M ts rs vT vR W':=
 h.upd e.size fun b a=>e.block b (by rcases a with c|c;exact (h.f b c).1;exact h.b c)
theorem eN.row_t(h:eN F D d M ts rs vT vR W):cN.y W (fun b=>b<W.heap.size) ts vT:=h.t.y (fun b a=>(h.f b a).1) (fun _g c=>h.t.lt c)
theorem eN.row_r(h:eN F D d M ts rs vT vR W):(dP d).y W (fun b=>b<W.heap.size) rs vR:=kf (nN d) (fun h=>pn h) (h.r.y (fun b a=>(h.f b a).1) (fun _g c=>h.r.lt c))
theorem eN.h(h:eN F D d M ts rs vT vR W):W.cell? ⟨M,0,V⟩=A vT∧W.cell? ⟨M,1,V⟩=A vR:=by
 obtain⟨x2,x3,x4,x5,x6,x7,hm⟩:=h.m;exact⟨by rw[FR _ _ _ _ _ _ hm];rfl,by rw[FR _ _ _ _ _ _ hm];rfl⟩
theorem eN.pushT{i:p7}{x:ap}{us vs:List r3}{g cap n:Nat}(h:eN F D d M ts rs vT vR i)(B:ts.length=n)(C:cN.h i F ts us)(E:cN.at_ i F x vs)(j:vT.ownBlock=A g∨i.heap.size≤g)
  (q:Chg (fun b=>vT.ownBlock=A b) i W) (s:W.ownsRow 0 41 cN.n (O (A ⟨g,0,V⟩) (n+1) cap) (n+1) (us++vs)) :
  eN F D d M (ts++[x]) rs (O (A ⟨g,0,V⟩) (n+1) cap) vR (W.setCell ⟨M,0,V⟩ (O (A ⟨g,0,V⟩) (n+1) cap))∧Chg (bf M [vT,vR]) i (W.setCell ⟨M,0,V⟩ (O (A ⟨g,0,V⟩) (n+1) cap))∧W.heap[M]?=i.heap[M]?:=by
 obtain⟨x2,x3,x4,x5,x6,x7,hm⟩:=h.m;have k:=row_ne hm h.t (by decide);have hw:∀b,b≠M→(W.setCell ⟨M,0,V⟩ (O (A ⟨g,0,V⟩) (n+1) cap)).heap[b]?=W.heap[b]?:=fun b a=>EW W ⟨M,0,V⟩ _ b a
 have y:W.heap[M]?=i.heap[M]?:=q.q M h.lt k;have u:g≠M:=by
  rcases j with j|j
  ·exact fun e=>k (e ▸ j)
  ·have:=h.lt;omega
 have hF:∀b,F b→b<i.heap.size∧vT.ownBlock≠A b∧b≠M:=fun b a=>⟨(h.f b a).1,fun e=>(h.f b a).2 (tS ⟨vT,by simp,e⟩),fun e=>(h.f b a).2 (tE e)⟩
 have w:(W.setCell ⟨M,0,V⟩ (O (A ⟨g,0,V⟩) (n+1) cap)).heap.size=W.heap.size:=by simp[World.setCell]
 have H:∀b,F b→b<(W.setCell ⟨M,0,V⟩ (O (A ⟨g,0,V⟩) (n+1) cap)).heap.size∧¬bf M [(O (A ⟨g,0,V⟩) (n+1) cap),vR] b:=fun b a=>by
  refine⟨by rw[w];exact EY (h.f b a).1 q.u,fun c=>?_⟩;rcases c with c|⟨v,hv,c⟩
  ·exact (hF b a).2.2 c
  ·simp only[FK,FH,o5]at hv;rcases hv with rfl|rfl
   ·injection c with c
    have c:g=b:=c;subst c;rcases j with j|j
    ·exact (hF g a).2.1 j
    ·have:=(hF g a).1;omega
   ·exact (h.f b a).2 (tS ⟨v,by simp,c⟩)
 refine⟨⟨H,h.df,⟨x2,x3,x4,x5,x6,x7,heap_set (y.trans hm) 0 _⟩,rV B C E q s hF u hw,h.rl.t (fun z l=>(hw z (fun e=>row_ne hm h.r (by decide) (e ▸ l))).trans (q.q z (h.r.lt l) (h.r.T h.t (by decide) l))) (fun b a o c=>(hw b (hF b (h.df b a)).2.2).trans ((q.q b (hF b (h.df b a)).1 (hF b (h.df b a)).2.1).trans c)) (fun _ h=>h)⟩,?_,y⟩;exact (Chg.N (G:=bf M [vT,vR]) q (fun b a=>tS ⟨vT,by simp,a⟩)).t (p:=⟨M,0,V⟩) (tE (tE Z)) _
theorem eN.pushR{j:p7}{H:Nat→Prop}{x:au}{us vs:List r3}{g cap n:Nat}(h:eN F D d M ts rs vT vR j)(C:rs.length=n)(E:(eU d).lcells j D rs us)(K:(eU d).at_ j H x vs)(u:∀b,H b→F b∧¬D b)(k:vR.ownBlock=A g∨j.heap.size≤g)
  (q:Chg (fun b=>vR.ownBlock=A b) j W) (s:W.ownsRow 0 39 (eU d).n (O (A ⟨g,0,V⟩) (n+1) cap) (n+1) (us++vs)) :
  MkB F d M ts (rs++[x]) vT (O (A ⟨g,0,V⟩) (n+1) cap) (W.setCell ⟨M,1,V⟩ (O (A ⟨g,0,V⟩) (n+1) cap))∧Chg (bf M [vT,vR]) j (W.setCell ⟨M,1,V⟩ (O (A ⟨g,0,V⟩) (n+1) cap))∧W.heap[M]?=j.heap[M]?:=by
 obtain⟨x2,x3,x4,x5,x6,x7,hm⟩:=h.m;have l:=row_ne hm h.r (by decide);have hw:∀b,b≠M→(W.setCell ⟨M,1,V⟩ (O (A ⟨g,0,V⟩) (n+1) cap)).heap[b]?=W.heap[b]?:=fun b a=>EW W ⟨M,1,V⟩ _ b a
 have z:W.heap[M]?=j.heap[M]?:=q.q M h.lt l;have w:g≠M:=by
  rcases k with k|k
  ·exact fun e=>l (e ▸ k)
  ·have:=h.lt;omega
 have hF:∀b,F b→b<j.heap.size∧vR.ownBlock≠A b∧b≠M:=fun b a=>⟨(h.f b a).1,fun e=>(h.f b a).2 (tS ⟨vR,by simp,e⟩),fun e=>(h.f b a).2 (tE e)⟩
 have y:(W.setCell ⟨M,1,V⟩ (O (A ⟨g,0,V⟩) (n+1) cap)).heap.size=W.heap.size:=by simp[World.setCell]
 have L:∀b,F b→b<(W.setCell ⟨M,1,V⟩ (O (A ⟨g,0,V⟩) (n+1) cap)).heap.size∧¬bf M [vT,(O (A ⟨g,0,V⟩) (n+1) cap)] b:=fun b a=>by
  refine⟨by rw[y];exact EY (h.f b a).1 q.u,fun c=>?_⟩;rcases c with c|⟨v,hv,c⟩
  ·exact (hF b a).2.2 c
  ·simp only[FK,FH,o5]at hv;rcases hv with rfl|rfl
   ·exact (h.f b a).2 (tS ⟨v,by simp,c⟩)
   ·injection c with c
    have c:g=b:=c;subst c;rcases k with k|k
    ·exact (hF g a).2.1 k
    ·have:=(hF g a).1;omega
 have B:∀b,F b→∀o,j.heap[b]?=A o→(W.setCell ⟨M,1,V⟩ (O (A ⟨g,0,V⟩) (n+1) cap)).heap[b]?=A o:=fun b a o c=>(hw b (hF b a).2.2).trans ((q.q b (hF b a).1 (hF b a).2.1).trans c)
 refine⟨⟨L,fun _ h=>h,⟨x2,x3,x4,x5,x6,x7,heap_set (z.trans hm) 1 _⟩,iI h.t (row_ne hm h.t (by decide)) q (fun g k=>h.t.T h.r (by decide) k) hF hw,us++vs,?_,Rd.tf (Rd.sI (fun b a=>B b (h.df b a)) E) ((eU d).t (fun b a=>B b (u b a).1) K) (fun b a e=>(u b e).2 a) h.df (fun b a=>(u b a).1)⟩,?_,z⟩
 ·rw[Fl,C]
  exact bE s (fun N i=>by
   injection i with i
   have i:g=N:=i;subst i
   exact hw g w)
 exact (Chg.N (G:=bf M [vT,vR]) q (fun b a=>tS ⟨vR,by simp,a⟩)).t (p:=⟨M,1,V⟩) (tE (tE Z)) _
end
