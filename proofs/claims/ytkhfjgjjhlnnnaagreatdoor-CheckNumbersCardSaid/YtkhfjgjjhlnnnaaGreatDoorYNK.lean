/- Parts of one proof, joined; conditions stand in each theorem. -/
import Derived.Test.YtkhfjgjjhlnnnaaGreatDoorYNJ
open Option renaming none→U,some→Y
open Go renaming World→wD,Value→wF,Calls→xL
open Go.Value renaming int→I,agg→xS,string→J,bool→AJ,func→CF,slice→A,pointer→xV
open Go.IntKind renaming i64→Z,u8→O
open Go.Proofs.Tryz renaming prog→xD
open Go.Ending renaming returned→z8
open Or renaming inl→z6,inr→z7
namespace Go.Proofs.YtkhfjgjjhlnnnaaGreatDoor
set_option maxHeartbeats 1000000
set_option maxRecDepth 100000
open Go.RowKit
def ez(t:ab):Bool:=!aO t
def hasName(x:ByteArray) (t:ab):Bool:=t.f.data.toList==x.data.toList
def ic(q:ab→Bool):List ab→Nat→Option Nat
 | [],_=>U
 | K::l,k=>if q K then Y k else ic q l (k+1)
theorem pX(q:ab→Bool):∀(l:List ab) (m k:Nat) (K:ab),l[k]?=Y K→q K=true→(∀(j:Nat) (z:ab),j<k→l[j]?=Y z→q z=false)→ic q l m=Y (m+k)
 | [],m,k,K,h,_,_=>by simp at h
 | z::l,m,0,K,h,he,_=>by
  simp only[List.getElem?_cons_zero,ss]at h;subst h;unfold ic;rw[rv he];rfl
 | z::l,m,k+1,K,h,he,a=>by
  rw[FC]at h;have b:=a 0 z (by omega) V;unfold ic;rw[b];simp only[Fo,sm];rw[pX q l (m+1) k K h he (fun j c f e=>a (j+1) c (by omega) (by rw[FC];exact e))]
  congr 1;omega
theorem nG(q:ab→Bool):∀(l:List ab) (m:Nat),(∀(j:Nat) (z:ab),l[j]?=Y z→q z=false)→ic q l m=U
 | [],m,_=>rfl
 | z::l,m,a=>by
  unfold ic;rw[a 0 z V];simp only[Fo,sm];exact nG q l (m+1) (fun j b c=>a (j+1) b (by rw[FC];exact c))
theorem qs:∀(l:List ab) (m:Nat),(match ic ez l m with|some k=>k=m+dn l|none=>dn l=l.length)
 | [],m=>rfl
 | z::l,m=>by
  unfold ic dn;rw[List.takeWhile_cons]
  cases h:aO z with
  | true =>
   have a:ez z=false:=by unfold ez;rw[h];rfl
   simp only[a,Fo,sm,sx,Fv];have:=qs l (m+1);unfold dn at this
   cases b:ic ez l (m+1) with
   | none =>
    rw[b]at this;have this:(List.takeWhile aO l).length=l.length:=this
    show (List.takeWhile aO l).length+1=l.length+1
    omega
   | some k =>
    rw[b]at this;have this:k=m+1+(List.takeWhile aO l).length:=this
    show k=m+((List.takeWhile aO l).length+1)
    omega
  | false =>
   have a:ez z=true:=by unfold ez;rw[h];rfl
   simp[a]
theorem sP(x:ByteArray):∀(l:List ab) (m:Nat),(ic (hasName x) l m).isSome=(gb x (l.map ab.f) m).isSome
 | [],m=>rfl
 | z::l,m=>by
  unfold ic hasName;rw[List.map_cons];unfold gb
  cases h:(z.f.data.toList==x.data.toList) with
  | true=>simp
  | false =>
   simp only[Fo,sm];exact sP x l (m+1)
def ul(w:wD) (n:Nat) (l:List ab) (q:ab→Bool) (i:wF) (W:wD):Prop:=∃k:Nat,k≤n∧i=I Z (k:Int)∧FK w W∧(∀(j:Nat) (z:ab),j<k→l[j]?=Y z→q z=false)
theorem yR(T:ab)(s:wF)(w:wD) :
  xL xD 73 #[xS #[I O T.b,J T.f,I Z T.h,I Z T.y,s]] w fun e w'=>e=z8 (AJ (ez T))∧FK w w':=by
 have f:FK w (w.alloc (Obj.cells #[I O T.b,J T.f,I Z T.h,I Z T.y,s] 25)):=(EP _ w).alloc (EO _) _;have a:=Hd f;obtain⟨k,b⟩:=zzy (T.b);have c:Hid (ez T = !([5,6,7].contains k)):=by show _=_;rw[←b];rfl
 obtain⟨j,q,r,t,u⟩:=cells5 (p9 w (Obj.cells #[I O T.b,J T.f,I Z T.h,I Z T.y,s] 25));rw[b]at j ⊢;rw[b]at a;clear f b
 by_cases g:k=5
 ·subst g
  go_enter Tryz.func73,Tryz.ntmps73
  go_wp2
  go_ret;exact⟨by rw[c.o];rfl,a.o⟩
 by_cases h:k=6
 ·subst h
  go_enter Tryz.func73,Tryz.ntmps73
  go_wp2
  go_ret;exact⟨by rw[c.o];rfl,a.o⟩
 by_cases i:k=7
 ·subst i
  go_enter Tryz.func73,Tryz.ntmps73
  go_wp2
  go_ret;exact⟨by rw[c.o];rfl,a.o⟩
 have l:Hid (ez T=true):=by
  show _=_
  rw[c.o];simp[g,h,i]
 have m:¬((k:Int)=5):=by omega
 have n:¬((k:Int)=6):=by omega
 have p:¬((k:Int)=7):=by omega
 go_enter Tryz.func73,Tryz.ntmps73
 go_wp2
 go_ret;exact⟨by rw[l.o];simp[m,n,p],a.o⟩
theorem CZ(Ts:List ab)(v:wF)(T:Nat)(w:wD)(a:ao w w.heap.size (T+1) Ts v)(D:Ts.length≤1000000) :
  xL xD 72 #[v,CF (.func 73) #[] #[]] w (fun e w'=>e=z8 (I Z (bP (ic ez Ts 0)))∧FK w w'):=by
 obtain⟨p,c,rfl⟩:=a.f;obtain⟨n,E⟩:=zzy (Ts.length);have R:=Hd (fun W (X:FK w W)=>a.z X);rw[E]at R D ⊢;have G:=Hd E;clear a E
 go_enter Tryz.func72,Tryz.ntmps72
 go_wp2
 go_loopw [8] (ul w n Ts ez) (fun i _=>n-(intOf i).toNat)
 case atStart=>exact⟨0,Fa _,V,EP _ _,fun j z hj=>by omega⟩
 case round =>
  obtain⟨k,hk,rfl,y,l⟩:=hrel;have ad:(0:Int)≤k:=by omega
  obtain⟨H,g⟩:=zz2 y l;clear l
  by_cases L:k<n
  ·have af:(k:Int)<n:=by omega
   obtain⟨K,B⟩:∃K,Ts[k]?=Y K:=⟨_,ES (by rw[G.o];exact L)⟩;have a:=R.o wr y;rcases a with ⟨rfl,_⟩|⟨b,off,cap,h1,h2,h3,h4,he,S⟩
   ·simp at B
   rw[G.o]at he;injection he with e1 _ e3
   subst e1;subst e3;obtain⟨m,s,c0,c1,c2,c3,c4,q⟩:=S k K B;obtain⟨ps,N,rfl⟩:=q.f;obtain⟨P,r⟩:=zzy (K.u.length);rw[r]at c4;have HK:=Hd (yR K (A ps P N) wr);have t:Hid (Ts[k]?=Y K):=B;clear m q S h1 h2 h3 h4 r B y;go_wp2_with fail
   refine HK.o.mono ?_;rintro e w1 ⟨rfl,u⟩;have x:=Hd (H.o.trans (u.mono H.o.size));clear u c0 c1 c2 c3 c4
   cases C:ez K with
   | true =>
    have Q:=Hd (pX ez Ts 0 k K t.o C g.o);clear C;go_wp2_with fail
    go_ret;exact⟨by rw[Q.o,Nat.zero_add];rfl,x.o⟩
   | false =>
    have HQ:=Hd C;clear C;go_wp2_with fail
    exact⟨⟨k+1,by omega,by go_num,x.o,fun j z hj f=>by
     by_cases h:j=k
     ·subst h;rw[t.o]at f;injection f with f
      rw[←f];exact HQ.o
     ·exact g.o j z (by omega) f⟩,by simp[intOf];omega⟩
  ·have Q:Hid (ic ez Ts 0=U):=nG _ Ts 0 (fun j z f=>g.o j z (by
    have:=(Fe.1 f).1;rw[G.o]at this
    omega) f)
   clear y;go_wp2_with fail
   go_ret;exact⟨by rw[Q.o];rfl,H.o⟩
theorem zH(Ts:List ab)(v:wF)(s:Nat)(w:wD)(f:ao w w.heap.size (s+1) Ts v)(h:Ts.length≤1000000) :
  xL xD 42 #[v] w (fun e w'=>e=z8 (I Z (dn Ts:Int))∧FK w w'):=by
 obtain⟨p,c,t⟩:=f.f;obtain⟨a,g⟩:=zz2 (CZ Ts v s w f h) (qs Ts 0);rw[t]at a ⊢;obtain⟨n,l⟩:=zzy (Ts.length);obtain⟨m,hm⟩:=zzy (dn Ts);rw[hm,l]at g;rw[l]at a ⊢;rw[hm];clear f t l hm h
 cases j:ic ez Ts 0 with
 | none =>
  rw[j]at g a;have q:m=n:=g.o;subst q;have a:Hid (xL xD 72 #[A p m c,CF (.func 73) #[] #[]] w (fun e w'=>e=z8 (I Z (-1))∧FK w w')):=a;clear g j
  go_enter Tryz.func42,Tryz.ntmps42
  go_wp2_with fail
  refine a.o.mono ?_;rintro e w1 ⟨rfl,b⟩;have r:=Hd b;clear b a;go_wp2_with fail
  go_ret;exact⟨V,r.o⟩
 | some k =>
  rw[j]at g a;have i:k=0+m:=g.o;rw[Nat.zero_add]at i;subst i;have a:Hid (xL xD 72 #[A p n c,CF (.func 73) #[] #[]] w (fun e w'=>e=z8 (I Z (k:Int))∧FK w w')):=a;have u:¬((k:Int)<0):=by omega
  have x:(0:Int)≤k:=by omega
  clear g j
  go_enter Tryz.func42,Tryz.ntmps42
  go_wp2_with fail
  refine a.o.mono ?_;rintro e w1 ⟨rfl,b⟩;have r:=Hd b;clear b a;go_wp2_with fail
  go_ret;exact⟨V,r.o⟩
theorem xO(K:ab)(s:wF)(x:ByteArray)(T:Nat)(w:wD)(b:w.cell? ⟨T,1,U⟩=Y (J x)) :
  xL xD 41 #[xS #[I O K.b,J K.f,I Z K.h,I Z K.y,s],xV (Y ⟨T,0,U⟩)] w fun e w'=>e=z8 (AJ (hasName x K))∧FK w w':=by
 have c:=dW b;have a:FK w (w.alloc (Obj.cells #[I O K.b,J K.f,I Z K.h,I Z K.y,s] 25)):=(EP _ w).alloc (EO _) _;have f:=(a.cell (p:=⟨T,1,U⟩) c).trans b;have g:=Hd a;clear a
 go_enter Tryz.func41,Tryz.ntmps41
 go_wp2
 go_ret;exact⟨by unfold hasName;rw[Fb,Fb];rfl,g.o⟩
theorem BH(x:ByteArray)(T:Nat)(Ts:List ab)(v:wF)(dd:Nat)(w:wD)(a:ao w w.heap.size (dd+1) Ts v)(E:Ts.length≤1000000)(G:w.cell? ⟨T,1,U⟩=Y (J x)) :
  xL xD 72 #[v,CF (.func 41) #[] #[xV (Y ⟨T,0,U⟩)]] w (fun e w'=>e=z8 (I Z (bP (ic (hasName x) Ts 0)))∧FK w w'):=by
 obtain⟨p,c,rfl⟩:=a.f;obtain⟨n,H⟩:=zzy (Ts.length);have HV:=Hd (fun W (L:FK w W)=>a.z L);have N:=Hd (fun W (L:FK w W)=>(L.cell (p:=⟨T,1,U⟩) (dW G)).trans G);rw[H]at HV E ⊢;have P:=Hd H;clear a H G
 go_enter Tryz.func72,Tryz.ntmps72
 go_wp2
 go_loopw [8] (ul w n Ts (hasName x)) (fun i _=>n-(intOf i).toNat)
 case atStart=>exact⟨0,Fa _,V,EP _ _,fun j z hj=>by omega⟩
 case round =>
  obtain⟨k,hk,rfl,l,m⟩:=hrel;have ad:(0:Int)≤k:=by omega
  obtain⟨Q,g⟩:=zz2 l m;clear m
  by_cases R:k<n
  ·have af:(k:Int)<n:=by omega
   obtain⟨K,C⟩:∃K,Ts[k]?=Y K:=⟨_,ES (by rw[P.o];exact R)⟩;have a:=HV.o wr l;rcases a with ⟨rfl,_⟩|⟨b,off,cap,h1,h2,h3,h4,he,h6⟩
   ·simp at C
   rw[P.o]at he;injection he with e1 _ e3
   subst e1;subst e3;obtain⟨q,s,c0,c1,c2,c3,c4,r⟩:=h6 k K C;obtain⟨ps,S,rfl⟩:=r.f;obtain⟨X,t⟩:=zzy (K.u.length);rw[t]at c4;have HK:=Hd (xO K (A ps X S) x T wr (N.o wr l));have u:Hid (Ts[k]?=Y K):=C;clear q r h6 h1 h2 h3 h4 t C l;go_wp2_with fail
   refine HK.o.mono ?_;rintro e w1 ⟨rfl,y⟩;have B:=Hd (Q.o.trans (y.mono Q.o.size));clear y c0 c1 c2 c3 c4
   cases D:(hasName x) K with
   | true =>
    have HH:=Hd (pX (hasName x) Ts 0 k K u.o D g.o);clear D;go_wp2_with fail
    go_ret;exact⟨by rw[HH.o,Nat.zero_add];rfl,B.o⟩
   | false =>
    have HQ:=Hd D;clear D;go_wp2_with fail
    exact⟨⟨k+1,by omega,by go_num,B.o,fun j z hj f=>by
     by_cases h:j=k
     ·subst h;rw[u.o]at f;injection f with f
      rw[←f];exact HQ.o
     ·exact g.o j z (by omega) f⟩,by simp[intOf];omega⟩
  ·have HH:Hid (ic (hasName x) Ts 0=U):=nG _ Ts 0 (fun j z f=>g.o j z (by
    have:=(Fe.1 f).1;rw[P.o]at this
    omega) f)
   clear l;go_wp2_with fail
   go_ret;exact⟨by rw[HH.o];rfl,Q.o⟩
theorem zG(x:ByteArray)(T:Nat)(Ts:List ab)(v:wF)(j:Nat)(w:wD)(f:ao w w.heap.size (j+1) Ts v)(g:Ts.length≤1000000)(l:w.cell? ⟨T,1,U⟩=Y (J x)) :
  xL xD 40 #[v,CF (.func 41) #[] #[xV (Y ⟨T,0,U⟩)]] w (fun e w'=>e=z8 (AJ (idxOf x (Ts.map ab.f)).isSome)∧FK w w'):=by
 have a:=Hd (BH x T Ts v j w f g l);have m:Hid ((idxOf x (Ts.map ab.f)).isSome=(ic (hasName x) Ts 0).isSome):=(sP x Ts 0).symm;rw[m.o];obtain⟨p,c,n⟩:=f.f;rw[n]at a ⊢;clear f g l m n
 cases h:ic (hasName x) Ts 0 with
 | none =>
  rw[h]at a;have a:Hid (xL xD 72 #[A p Ts.length c,CF (.func 41) #[] #[xV (Y ⟨T,0,U⟩)]] w (fun e w'=>e=z8 (I Z (-1))∧FK w w')):=a;clear h
  go_enter Tryz.func40,Tryz.ntmps40
  go_wp2_with fail
  refine a.o.mono ?_;rintro e w1 ⟨rfl,b⟩;have i:=Hd b;clear b a;go_wp2_with fail
  go_ret;exact⟨V,i.o⟩
 | some k =>
  rw[h]at a;have a:Hid (xL xD 72 #[A p Ts.length c,CF (.func 41) #[] #[xV (Y ⟨T,0,U⟩)]] w (fun e w'=>e=z8 (I Z (k:Int))∧FK w w')):=a;have q:(0:Int)≤k:=by omega
  clear h
  go_enter Tryz.func40,Tryz.ntmps40
  go_wp2_with fail
  refine a.o.mono ?_;rintro e w1 ⟨rfl,b⟩;have i:=Hd b;clear b a;go_wp2_with fail
  go_ret;exact⟨V,i.o⟩
structure MkB (F:Nat→Prop) (d M:Nat) (ts:List ae) (rs:List an) (vT vR:wF) (W:wD):Prop where
 f:∀b,F b→b<W.heap.size∧¬bj M [vT,vR] b
 m:∃x2 x3 x4 x5 x6 x7,W.heap[M]?=Y (Obj.cells #[vT,vR,x2,x3,x4,x5,x6,x7] 79 (0,0))
 t:aH W F 52 bV ts vT
 r:aH W F 50 (bX d) rs vR
section
variable {F F':Nat→Prop} {d M:Nat} {ts:List ae} {rs:List an} {vT vR:wF} {W W':wD}
theorem MkB.lt(h:MkB F d M ts rs vT vR W):M<W.heap.size:=by
 obtain⟨x2,x3,x4,x5,x6,x7,hm⟩:=h.m;exact (EN.1 hm).1
theorem MkB.b(h:MkB F d M ts rs vT vR W){b:Nat}(a:bj M [vT,vR] b):b<W.heap.size:=by
 rcases a with rfl|⟨v,c,a⟩
 ·exact h.lt
 ·simp only[FA,Fy,sI]at c;rcases c with rfl|rfl
  ·exact h.t.lt a
  ·exact h.r.lt a
theorem MkB.upd(h:MkB F d M ts rs vT vR W)(c:W.heap.size≤W'.heap.size)(e:∀b,(F b∨bj M [vT,vR] b)→W'.heap[b]?=W.heap[b]?):MkB F d M ts rs vT vR W':=by
 have i:∀b,F b→∀o,W.heap[b]?=Y o→W'.heap[b]?=Y o:=fun b a o k=>(e b (z6 a)).trans k
 have j:∀v∈[vT,vR],∀g,v.ownBlock=Y g→W'.heap[g]?=W.heap[g]?:=fun v l g n=>e g (z7 (z7 ⟨v,l,n⟩))
 obtain⟨x2,x3,x4,x5,x6,x7,hm⟩:=h.m;exact⟨fun b a=>⟨ET (h.f b a).1 c,(h.f b a).2⟩,⟨x2,x3,x4,x5,x6,x7,(e M (z7 (z6 V))).trans hm⟩,h.t.C (j _ (by simp)) i (fun _ h=>h),h.r.C (j _ (by simp)) i (fun _ h=>h)⟩
theorem MkB.z(h:MkB F d M ts rs vT vR W)(e:FK W W'):MkB F d M ts rs vT vR W':=
 h.upd e.size fun b a=>e.block b (by rcases a with c|c;exact (h.f b c).1;exact h.b c)
theorem MkB.row_t(h:MkB F d M ts rs vT vR W):bV.K W (fun b=>b<W.heap.size) ts vT:=h.t.K (fun b a=>(h.f b a).1) (fun _g c=>h.t.lt c)
theorem MkB.row_r(h:MkB F d M ts rs vT vR W):(bX d).K W (fun b=>b<W.heap.size) rs vR:=h.r.K (fun b a=>(h.f b a).1) (fun _g c=>h.r.lt c)
theorem MkB.u(h:MkB F d M ts rs vT vR W):W.cell? ⟨M,0,U⟩=Y vT∧W.cell? ⟨M,1,U⟩=Y vR:=by
 obtain⟨x2,x3,x4,x5,x6,x7,hm⟩:=h.m;exact⟨by rw[FI _ _ _ _ _ _ hm];rfl,by rw[FI _ _ _ _ _ _ hm];rfl⟩
theorem MkB.pushT{j:wD}{x:ae}{us vs:List wF}{g cap n:Nat}(h:MkB F d M ts rs vT vR j)(y:ts.length=n)(z:bV.u j F ts us)(B:bV.at_ j F x vs)(c:vT.ownBlock=Y g∨j.heap.size≤g)
  (l:Chg (fun b=>vT.ownBlock=Y b) j W) (o:W.ownsRow 0 52 bV.n (A (Y ⟨g,0,U⟩) (n+1) cap) (n+1) (us++vs)) :
  MkB F d M (ts++[x]) rs (A (Y ⟨g,0,U⟩) (n+1) cap) vR (W.setCell ⟨M,0,U⟩ (A (Y ⟨g,0,U⟩) (n+1) cap))∧Chg (bj M [vT,vR]) j (W.setCell ⟨M,0,U⟩ (A (Y ⟨g,0,U⟩) (n+1) cap))∧W.heap[M]?=j.heap[M]?:=by
 obtain⟨x2,x3,x4,x5,x6,x7,hm⟩:=h.m;have k:=row_ne hm h.t (by decide);have hw:∀b,b≠M→(W.setCell ⟨M,0,U⟩ (A (Y ⟨g,0,U⟩) (n+1) cap)).heap[b]?=W.heap[b]?:=fun b a=>ER W ⟨M,0,U⟩ _ b a
 have u:W.heap[M]?=j.heap[M]?:=l.u M h.lt k;have q:g≠M:=by
  rcases c with c|c
  ·exact fun e=>k (e ▸ c)
  ·have:=h.lt;omega
 have hF:∀b,F b→b<j.heap.size∧vT.ownBlock≠Y b∧b≠M:=fun b a=>⟨(h.f b a).1,fun e=>(h.f b a).2 (z7 ⟨vT,by simp,e⟩),fun e=>(h.f b a).2 (z6 e)⟩
 have s:(W.setCell ⟨M,0,U⟩ (A (Y ⟨g,0,U⟩) (n+1) cap)).heap.size=W.heap.size:=by simp[World.setCell]
 have C:∀b,F b→b<(W.setCell ⟨M,0,U⟩ (A (Y ⟨g,0,U⟩) (n+1) cap)).heap.size∧¬bj M [(A (Y ⟨g,0,U⟩) (n+1) cap),vR] b:=fun b a=>by
  refine⟨by rw[s];exact ET (h.f b a).1 l.h,fun i=>?_⟩;rcases i with i|⟨v,w,i⟩
  ·exact (hF b a).2.2 i
  ·simp only[FA,Fy,sI]at w;rcases w with rfl|rfl
   ·injection i with i
    have i:g=b:=i;subst i;rcases c with c|c
    ·exact (hF g a).2.1 c
    ·have:=(hF g a).1;omega
   ·exact (h.f b a).2 (z7 ⟨v,by simp,i⟩)
 refine⟨⟨C,⟨x2,x3,x4,x5,x6,x7,heap_set (u.trans hm) 0 _⟩,ka y z B l o hF q hw,cX h.r (row_ne hm h.r (by decide)) l (fun g c=>h.r.u h.t (by decide) c) hF hw⟩,?_,u⟩;exact (Chg.N (G:=bj M [vT,vR]) l (fun b a=>z7 ⟨vT,by simp,a⟩)).y (p:=⟨M,0,U⟩) (z6 (z6 V)) _
theorem MkB.pushR{j:wD}{x:an}{us vs:List wF}{g cap n:Nat}(h:MkB F d M ts rs vT vR j)(y:rs.length=n)(z:(bX d).u j F rs us)(B:(bX d).at_ j F x vs)(c:vR.ownBlock=Y g∨j.heap.size≤g)
  (l:Chg (fun b=>vR.ownBlock=Y b) j W) (o:W.ownsRow 0 50 (bX d).n (A (Y ⟨g,0,U⟩) (n+1) cap) (n+1) (us++vs)) :
  MkB F d M ts (rs++[x]) vT (A (Y ⟨g,0,U⟩) (n+1) cap) (W.setCell ⟨M,1,U⟩ (A (Y ⟨g,0,U⟩) (n+1) cap))∧Chg (bj M [vT,vR]) j (W.setCell ⟨M,1,U⟩ (A (Y ⟨g,0,U⟩) (n+1) cap))∧W.heap[M]?=j.heap[M]?:=by
 obtain⟨x2,x3,x4,x5,x6,x7,hm⟩:=h.m;have k:=row_ne hm h.r (by decide);have hw:∀b,b≠M→(W.setCell ⟨M,1,U⟩ (A (Y ⟨g,0,U⟩) (n+1) cap)).heap[b]?=W.heap[b]?:=fun b a=>ER W ⟨M,1,U⟩ _ b a
 have u:W.heap[M]?=j.heap[M]?:=l.u M h.lt k;have q:g≠M:=by
  rcases c with c|c
  ·exact fun e=>k (e ▸ c)
  ·have:=h.lt;omega
 have hF:∀b,F b→b<j.heap.size∧vR.ownBlock≠Y b∧b≠M:=fun b a=>⟨(h.f b a).1,fun e=>(h.f b a).2 (z7 ⟨vR,by simp,e⟩),fun e=>(h.f b a).2 (z6 e)⟩
 have s:(W.setCell ⟨M,1,U⟩ (A (Y ⟨g,0,U⟩) (n+1) cap)).heap.size=W.heap.size:=by simp[World.setCell]
 have C:∀b,F b→b<(W.setCell ⟨M,1,U⟩ (A (Y ⟨g,0,U⟩) (n+1) cap)).heap.size∧¬bj M [vT,(A (Y ⟨g,0,U⟩) (n+1) cap)] b:=fun b a=>by
  refine⟨by rw[s];exact ET (h.f b a).1 l.h,fun i=>?_⟩;rcases i with i|⟨v,w,i⟩
  ·exact (hF b a).2.2 i
  ·simp only[FA,Fy,sI]at w;rcases w with rfl|rfl
   ·exact (h.f b a).2 (z7 ⟨v,by simp,i⟩)
   ·injection i with i
    have i:g=b:=i;subst i;rcases c with c|c
    ·exact (hF g a).2.1 c
    ·have:=(hF g a).1;omega
 refine⟨⟨C,⟨x2,x3,x4,x5,x6,x7,heap_set (u.trans hm) 1 _⟩,cX h.t (row_ne hm h.t (by decide)) l (fun g c=>h.t.u h.r (by decide) c) hF hw,ka y z B l o hF q hw⟩,?_,u⟩;exact (Chg.N (G:=bj M [vT,vR]) l (fun b a=>z7 ⟨vR,by simp,a⟩)).y (p:=⟨M,1,U⟩) (z6 (z6 V)) _
end
