/- Parts of one proof, joined; conditions stand in each theorem. -/
import Derived.Test.YtoonjedifockoaaGreatDoorNJ
namespace Go.Proofs.YtoonjedifockoaaGreatDoor
open Go.IntKind(i64)
open Go.Value(int string slice)
set_option maxHeartbeats 1000000
set_option maxRecDepth 100000
open Go.RowKit
def dW(t:ac):Bool:=!cK t
def hasName(x:ByteArray) (t:ac):Bool:=t.text.data.toList==x.data.toList
def ge(q:ac→Bool):List ac→Nat→Option Nat
 | [],_=>none
 | K::l,k=>if q K then some k else ge q l (k+1)
theorem oW(q:ac→Bool):∀(l:List ac) (m k:Nat) (K:ac),l[k]?=some K→q K=true→(∀(j:Nat) (z:ac),j<k→l[j]?=some z→q z=false)→ge q l m=some (m+k)
 | [],m,k,K,h,_,_=>by simp at h
 | z::l,m,0,K,h,he,_=>by
  simp only[List.getElem?_cons_zero,ox]at h;subst h;unfold ge;rw[n9 he];rfl
 | z::l,m,k+1,K,h,he,a=>by
  rw[Fj]at h;have b:=a 0 z (by omega) rfl;unfold ge;rw[b];simp only[EW,oi];rw[oW q l (m+1) k K h he (fun j c f e=>a (j+1) c (by omega) (by rw[Fj];exact e))]
  congr 1;omega
theorem mM(q:ac→Bool):∀(l:List ac) (m:Nat),(∀(j:Nat) (z:ac),l[j]?=some z→q z=false)→ge q l m=none
 | [],m,_=>rfl
 | z::l,m,a=>by
  unfold ge;rw[a 0 z rfl];simp only[EW,oi];exact mM q l (m+1) (fun j b c=>a (j+1) b (by rw[Fj];exact c))
theorem pz:∀(l:List ac) (m:Nat),(match ge dW l m with|some k=>k=m+fB l|none=>fB l=l.length)
 | [],m=>rfl
 | z::l,m=>by
  unfold ge fB;rw[List.takeWhile_cons]
  cases h:cK z with
  | true =>
   have a:dW z=false:=by unfold dW;rw[h];rfl
   simp only[a,EW,oi,oA,Fb];have:=pz l (m+1);unfold fB at this
   cases b:ge dW l (m+1) with
   | none =>
    rw[b]at this;have this:(List.takeWhile cK l).length=l.length:=this
    show (List.takeWhile cK l).length+1=l.length+1
    omega
   | some k =>
    rw[b]at this;have this:k=m+1+(List.takeWhile cK l).length:=this
    show k=m+((List.takeWhile cK l).length+1)
    omega
  | false =>
   have a:dW z=true:=by unfold dW;rw[h];rfl
   simp[a]
theorem rM(x:ByteArray):∀(l:List ac) (m:Nat),(ge (hasName x) l m).isSome=(fi x (l.map ac.text) m).isSome
 | [],m=>rfl
 | z::l,m=>by
  unfold ge hasName;rw[List.map_cons];unfold fi
  cases h:(z.text.data.toList==x.data.toList) with
  | true=>simp
  | false =>
   simp only[EW,oi];exact rM x l (m+1)
def tM(w:World) (n:Nat) (l:List ac) (q:ac→Bool) (i:Value) (W:World):Prop:=∃k:Nat,k≤n∧i=int i64 (k:Int)∧Ft w W∧(∀(j:Nat) (z:ac),j<k→l[j]?=some z→q z=false)
theorem yO(T:ac)(s:Value)(w:World) :
  Calls Tryz.prog 110 #[.agg #[int .u8 T.kind,.string T.text,int i64 T.num,int i64 T.place,s]] w fun e w'=>e=.returned (.bool (dW T))∧Ft w w':=by
 have f:Ft w (w.alloc (.cells #[int .u8 T.kind,.string T.text,int i64 T.num,int i64 T.place,s] 76)):=(EB _ w).alloc (EA _) _;have a:=Hd f;obtain⟨k,b⟩:=zzy (T.kind);have c:Hid (dW T = !([5,6,7].contains k)):=by show _=_;rw[←b];rfl
 obtain⟨j,q,r,t,u⟩:=cells5 (n7 w (.cells #[int .u8 T.kind,.string T.text,int i64 T.num,int i64 T.place,s] 76));rw[b]at j ⊢;rw[b]at a;clear f b
 by_cases g:k=5
 ·subst g
  go_enter Tryz.func110,Tryz.ntmps110
  go_wp2
  go_ret;exact⟨by rw[c.o];rfl,a.o⟩
 by_cases h:k=6
 ·subst h
  go_enter Tryz.func110,Tryz.ntmps110
  go_wp2
  go_ret;exact⟨by rw[c.o];rfl,a.o⟩
 by_cases i:k=7
 ·subst i
  go_enter Tryz.func110,Tryz.ntmps110
  go_wp2
  go_ret;exact⟨by rw[c.o];rfl,a.o⟩
 have l:Hid (dW T=true):=by
  show _=_
  rw[c.o];simp[g,h,i]
 have m:¬((k:Int)=5):=by omega
 have n:¬((k:Int)=6):=by omega
 have p:¬((k:Int)=7):=by omega
 go_enter Tryz.func110,Tryz.ntmps110
 go_wp2
 go_ret;exact⟨by rw[l.o];simp[m,n,p],a.o⟩
theorem Cw(Ts:List ac)(v:Value)(P:Nat)(w:World)(a:aD w w.heap.size (P+1) Ts v)(C:Ts.length≤1000000) :
  Calls Tryz.prog 109 #[v,.func (.func 110) #[] #[]] w (fun e w'=>e=.returned (int i64 (dR (ge dW Ts 0)))∧Ft w w'):=by
 obtain⟨p,c,rfl⟩:=a.slice;obtain⟨n,D⟩:=zzy (Ts.length);have N:=Hd (fun W (Q:Ft w W)=>a.below Q);rw[D]at N C ⊢;have E:=Hd D;clear a D
 go_enter Tryz.func109,Tryz.ntmps109
 go_wp2
 go_loopw [8] (tM w n Ts dW) (fun i _=>n-(intOf i).toNat)
 case atStart=>exact⟨0,EM _,rfl,EB _ _,fun j z R=>by omega⟩
 case round =>
  obtain⟨k,hk,rfl,y,l⟩:=hrel;have S:(0:Int)≤k:=by omega
  have G:=Hd y;have g:=Hd l;clear l
  by_cases H:k<n
  ·have T:(k:Int)<n:=by omega
   obtain⟨K,A⟩:∃K,Ts[k]?=some K:=⟨_,EE (by rw[E.o];exact H)⟩;have a:=N.o wr y;rcases a with ⟨rfl,_⟩|⟨b,off,cap,U,V,X,Y,he,O⟩
   ·simp at A
   rw[E.o]at he;injection he with Z _ e3
   subst Z;subst e3;obtain⟨m,s,c0,c1,c2,c3,c4,q⟩:=O k K A;obtain⟨ps,I,rfl⟩:=q.slice;obtain⟨J,r⟩:=zzy (K.kids.length);rw[r]at c4;have HK:=Hd (yO K (.slice ps J I) wr);have t:Hid (Ts[k]?=some K):=A;clear m q O U V X Y r A y;go_wp2_with fail
   refine HK.o.mono ?_;rintro e w1 ⟨rfl,u⟩;have x:=Hd (G.o.trans (u.mono G.o.size));clear u c0 c1 c2 c3 c4
   cases B:dW K with
   | true =>
    have L:=Hd (oW dW Ts 0 k K t.o B g.o);clear B;go_wp2_with fail
    go_ret;exact⟨by rw[L.o,Nat.zero_add];rfl,x.o⟩
   | false =>
    have HQ:=Hd B;clear B;go_wp2_with fail
    exact⟨⟨k+1,by omega,by go_num,x.o,fun j z R f=>by
     by_cases h:j=k
     ·subst h;rw[t.o]at f;injection f with f
      rw[←f];exact HQ.o
     ·exact g.o j z (by omega) f⟩,by simp[intOf];omega⟩
  ·have L:Hid (ge dW Ts 0=none):=mM _ Ts 0 (fun j z f=>g.o j z (by
    have:=(EP.1 f).1;rw[E.o]at this
    omega) f)
   clear y;go_wp2_with fail
   go_ret;exact⟨by rw[L.o];rfl,G.o⟩
theorem zA(Ts:List ac)(v:Value)(s:Nat)(w:World)(f:aD w w.heap.size (s+1) Ts v)(h:Ts.length≤1000000) :
  Calls Tryz.prog 81 #[v] w (fun e w'=>e=.returned (int i64 (fB Ts:Int))∧Ft w w'):=by
 obtain⟨p,c,t⟩:=f.slice;have a:=Hd (Cw Ts v s w f h);have g:=Hd (pz Ts 0);rw[t]at a ⊢;obtain⟨n,l⟩:=zzy (Ts.length);obtain⟨m,hm⟩:=zzy (fB Ts);rw[hm,l]at g;rw[l]at a ⊢;rw[hm];clear f t l hm h
 cases j:ge dW Ts 0 with
 | none =>
  rw[j]at g a;have q:m=n:=g.o;subst q;have a:Hid (Calls Tryz.prog 109 #[.slice p m c,.func (.func 110) #[] #[]] w (fun e w'=>e=.returned (int i64 (-1))∧Ft w w')):=a;clear g j
  go_enter Tryz.func81,Tryz.ntmps81
  go_wp2_with fail
  refine a.o.mono ?_;rintro e w1 ⟨rfl,b⟩;have r:=Hd b;clear b a;go_wp2_with fail
  go_ret;exact⟨rfl,r.o⟩
 | some k =>
  rw[j]at g a;have i:k=0+m:=g.o;rw[Nat.zero_add]at i;subst i;have a:Hid (Calls Tryz.prog 109 #[.slice p n c,.func (.func 110) #[] #[]] w (fun e w'=>e=.returned (int i64 (k:Int))∧Ft w w')):=a;have u:¬((k:Int)<0):=by omega
  have x:(0:Int)≤k:=by omega
  clear g j
  go_enter Tryz.func81,Tryz.ntmps81
  go_wp2_with fail
  refine a.o.mono ?_;rintro e w1 ⟨rfl,b⟩;have r:=Hd b;clear b a;go_wp2_with fail
  go_ret;exact⟨rfl,r.o⟩
theorem xH(K:ac)(s:Value)(x:ByteArray)(T:Nat)(w:World)(b:w.cell? ⟨T,1,none⟩=some (.string x)) :
  Calls Tryz.prog 80 #[.agg #[int .u8 K.kind,.string K.text,int i64 K.num,int i64 K.place,s],.pointer (some ⟨T,0,none⟩)] w fun e w'=>e=.returned (.bool (hasName x K))∧Ft w w':=by
 have c:=dG b;have a:Ft w (w.alloc (.cells #[int .u8 K.kind,.string K.text,int i64 K.num,int i64 K.place,s] 76)):=(EB _ w).alloc (EA _) _;have f:=(a.cell (p:=⟨T,1,none⟩) c).trans b;have g:=Hd a;clear a
 go_enter Tryz.func80,Tryz.ntmps80
 go_wp2
 go_ret;exact⟨by unfold hasName;rw[EN,EN];rfl,g.o⟩
theorem By(x:ByteArray)(T:Nat)(Ts:List ac)(v:Value)(U:Nat)(w:World)(a:aD w w.heap.size (U+1) Ts v)(D:Ts.length≤1000000)(E:w.cell? ⟨T,1,none⟩=some (.string x)) :
  Calls Tryz.prog 109 #[v,.func (.func 80) #[] #[.pointer (some ⟨T,0,none⟩)]] w (fun e w'=>e=.returned (int i64 (dR (ge (hasName x) Ts 0)))∧Ft w w'):=by
 obtain⟨p,c,rfl⟩:=a.slice;obtain⟨n,G⟩:=zzy (Ts.length);have R:=Hd (fun W (H:Ft w W)=>a.below H);have I:=Hd (fun W (H:Ft w W)=>(H.cell (p:=⟨T,1,none⟩) (dG E)).trans E);rw[G]at R D ⊢;have J:=Hd G;clear a G E
 go_enter Tryz.func109,Tryz.ntmps109
 go_wp2
 go_loopw [8] (tM w n Ts (hasName x)) (fun i _=>n-(intOf i).toNat)
 case atStart=>exact⟨0,EM _,rfl,EB _ _,fun j z V=>by omega⟩
 case round =>
  obtain⟨k,hk,rfl,l,m⟩:=hrel;have X:(0:Int)≤k:=by omega
  have L:=Hd l;have g:=Hd m;clear m
  by_cases N:k<n
  ·have Y:(k:Int)<n:=by omega
   obtain⟨K,B⟩:∃K,Ts[k]?=some K:=⟨_,EE (by rw[J.o];exact N)⟩;have a:=R.o wr l;rcases a with ⟨rfl,_⟩|⟨b,off,cap,Z,h2,h3,h4,he,S⟩
   ·simp at B
   rw[J.o]at he;injection he with e1 _ e3
   subst e1;subst e3;obtain⟨q,s,c0,c1,c2,c3,c4,r⟩:=S k K B;obtain⟨ps,O,rfl⟩:=r.slice;obtain⟨P,t⟩:=zzy (K.kids.length);rw[t]at c4;have HK:=Hd (xH K (.slice ps P O) x T wr (I.o wr l));have u:Hid (Ts[k]?=some K):=B;clear q r S Z h2 h3 h4 t B l;go_wp2_with fail
   refine HK.o.mono ?_;rintro e w1 ⟨rfl,y⟩;have A:=Hd (L.o.trans (y.mono L.o.size));clear y c0 c1 c2 c3 c4
   cases C:(hasName x) K with
   | true =>
    have Q:=Hd (oW (hasName x) Ts 0 k K u.o C g.o);clear C;go_wp2_with fail
    go_ret;exact⟨by rw[Q.o,Nat.zero_add];rfl,A.o⟩
   | false =>
    have HQ:=Hd C;clear C;go_wp2_with fail
    exact⟨⟨k+1,by omega,by go_num,A.o,fun j z V f=>by
     by_cases h:j=k
     ·subst h;rw[u.o]at f;injection f with f
      rw[←f];exact HQ.o
     ·exact g.o j z (by omega) f⟩,by simp[intOf];omega⟩
  ·have Q:Hid (ge (hasName x) Ts 0=none):=mM _ Ts 0 (fun j z f=>g.o j z (by
    have:=(EP.1 f).1;rw[J.o]at this
    omega) f)
   clear l;go_wp2_with fail
   go_ret;exact⟨by rw[Q.o];rfl,L.o⟩
theorem zy(x:ByteArray)(T:Nat)(Ts:List ac)(v:Value)(j:Nat)(w:World)(f:aD w w.heap.size (j+1) Ts v)(g:Ts.length≤1000000)(l:w.cell? ⟨T,1,none⟩=some (.string x)) :
  Calls Tryz.prog 79 #[v,.func (.func 80) #[] #[.pointer (some ⟨T,0,none⟩)]] w (fun e w'=>e=.returned (.bool (idxOf x (Ts.map ac.text)).isSome)∧Ft w w'):=by
 have a:=Hd (By x T Ts v j w f g l);have m:Hid ((idxOf x (Ts.map ac.text)).isSome=(ge (hasName x) Ts 0).isSome):=(rM x Ts 0).symm;rw[m.o];obtain⟨p,c,n⟩:=f.slice;rw[n]at a ⊢;clear f g l m n
 cases h:ge (hasName x) Ts 0 with
 | none =>
  rw[h]at a;have a:Hid (Calls Tryz.prog 109 #[.slice p Ts.length c,.func (.func 80) #[] #[.pointer (some ⟨T,0,none⟩)]] w (fun e w'=>e=.returned (int i64 (-1))∧Ft w w')):=a;clear h
  go_enter Tryz.func79,Tryz.ntmps79
  go_wp2_with fail
  refine a.o.mono ?_;rintro e w1 ⟨rfl,b⟩;have i:=Hd b;clear b a;go_wp2_with fail
  go_ret;exact⟨rfl,i.o⟩
 | some k =>
  rw[h]at a;have a:Hid (Calls Tryz.prog 109 #[.slice p Ts.length c,.func (.func 80) #[] #[.pointer (some ⟨T,0,none⟩)]] w (fun e w'=>e=.returned (int i64 (k:Int))∧Ft w w')):=a;have q:(0:Int)≤k:=by omega
  clear h
  go_enter Tryz.func79,Tryz.ntmps79
  go_wp2_with fail
  refine a.o.mono ?_;rintro e w1 ⟨rfl,b⟩;have i:=Hd b;clear b a;go_wp2_with fail
  go_ret;exact⟨rfl,i.o⟩
structure MkB (F:Nat→Prop) (d M:Nat) (ts:List ai) (rs:List aj) (vT vR:Value) (W:World):Prop where
 f:∀b,F b→b<W.heap.size∧¬aL M [vT,vR] b
 m:∃x2 x3 x4 x5 x6 x7,W.heap[M]?=some (.cells #[vT,vR,x2,x3,x4,x5,x6,x7] 116 (0,0))
 t:aX W F 40 bo ts vT
 r:aX W F 38 (bh d) rs vR
section
variable {F F':Nat→Prop} {d M:Nat} {ts:List ai} {rs:List aj} {vT vR:Value} {W W':World}
theorem MkB.lt(h:MkB F d M ts rs vT vR W):M<W.heap.size:=by
 obtain⟨x2,x3,x4,x5,x6,x7,hm⟩:=h.m;exact (Ez.1 hm).1
theorem MkB.own_lt(h:MkB F d M ts rs vT vR W){b:Nat}(a:aL M [vT,vR] b):b<W.heap.size:=by
 rcases a with rfl|⟨v,c,a⟩
 ·exact h.lt
 ·simp only[Fh,Ff,oB]at c;rcases c with rfl|rfl
  ·exact h.t.lt a
  ·exact h.r.lt a
theorem MkB.upd(h:MkB F d M ts rs vT vR W)(c:W.heap.size≤W'.heap.size)(e:∀b,(F b∨aL M [vT,vR] b)→W'.heap[b]?=W.heap[b]?):MkB F d M ts rs vT vR W':=by
 have i:∀b,F b→∀o,W.heap[b]?=some o→W'.heap[b]?=some o:=fun b a o k=>(e b (Or.inl a)).trans k
 have j:∀v∈[vT,vR],∀g,v.ownBlock=some g→W'.heap[g]?=W.heap[g]?:=fun v l g n=>e g (Or.inr (Or.inr ⟨v,l,n⟩))
 obtain⟨x2,x3,x4,x5,x6,x7,hm⟩:=h.m;exact⟨fun b a=>⟨EF (h.f b a).1 c,(h.f b a).2⟩,⟨x2,x3,x4,x5,x6,x7,(e M (Or.inr (Or.inl rfl))).trans hm⟩,h.t.keep (j _ (by simp)) i (fun _ h=>h),h.r.keep (j _ (by simp)) i (fun _ h=>h)⟩
theorem MkB.below(h:MkB F d M ts rs vT vR W)(e:Ft W W'):MkB F d M ts rs vT vR W':=
 h.upd e.size fun b a=>e.block b (by rcases a with c|c;exact (h.f b c).1;exact h.own_lt c)
theorem MkB.row_t(h:MkB F d M ts rs vT vR W):bo.row W (fun b=>b<W.heap.size) ts vT:=h.t.row (fun b a=>(h.f b a).1) (fun _g c=>h.t.lt c)
theorem MkB.row_r(h:MkB F d M ts rs vT vR W):(bh d).row W (fun b=>b<W.heap.size) rs vR:=h.r.row (fun b a=>(h.f b a).1) (fun _g c=>h.r.lt c)
theorem MkB.cells(h:MkB F d M ts rs vT vR W):W.cell? ⟨M,0,none⟩=some vT∧W.cell? ⟨M,1,none⟩=some vR:=by
 obtain⟨x2,x3,x4,x5,x6,x7,hm⟩:=h.m;exact⟨by rw[Fq _ _ _ _ _ _ hm];rfl,by rw[Fq _ _ _ _ _ _ hm];rfl⟩
theorem MkB.pushT{j:World}{x:ai}{us vs:List Value}{g cap n:Nat}(h:MkB F d M ts rs vT vR j)(y:ts.length=n)(z:bo.cells j F ts us)(A:bo.at_ j F x vs)(c:vT.ownBlock=some g∨j.heap.size≤g)
  (l:Chg (fun b=>vT.ownBlock=some b) j W) (o:W.ownsRow 0 40 bo.n (slice (some ⟨g,0,none⟩) (n+1) cap) (n+1) (us++vs)) :
  MkB F d M (ts++[x]) rs (slice (some ⟨g,0,none⟩) (n+1) cap) vR (W.setCell ⟨M,0,none⟩ (slice (some ⟨g,0,none⟩) (n+1) cap))∧Chg (aL M [vT,vR]) j (W.setCell ⟨M,0,none⟩ (slice (some ⟨g,0,none⟩) (n+1) cap))∧W.heap[M]?=j.heap[M]?:=by
 obtain⟨x2,x3,x4,x5,x6,x7,hm⟩:=h.m;have k:=row_ne hm h.t (by decide);have hw:∀b,b≠M→(W.setCell ⟨M,0,none⟩ (slice (some ⟨g,0,none⟩) (n+1) cap)).heap[b]?=W.heap[b]?:=fun b a=>ED W ⟨M,0,none⟩ _ b a
 have u:W.heap[M]?=j.heap[M]?:=l.block M h.lt k;have q:g≠M:=by
  rcases c with c|c
  ·exact fun e=>k (e ▸ c)
  ·have:=h.lt;omega
 have hF:∀b,F b→b<j.heap.size∧vT.ownBlock≠some b∧b≠M:=fun b a=>⟨(h.f b a).1,fun e=>(h.f b a).2 (Or.inr ⟨vT,by simp,e⟩),fun e=>(h.f b a).2 (Or.inl e)⟩
 have s:(W.setCell ⟨M,0,none⟩ (slice (some ⟨g,0,none⟩) (n+1) cap)).heap.size=W.heap.size:=by simp[World.setCell]
 have B:∀b,F b→b<(W.setCell ⟨M,0,none⟩ (slice (some ⟨g,0,none⟩) (n+1) cap)).heap.size∧¬aL M [(slice (some ⟨g,0,none⟩) (n+1) cap),vR] b:=fun b a=>by
  refine⟨by rw[s];exact EF (h.f b a).1 l.size,fun i=>?_⟩;rcases i with i|⟨v,w,i⟩
  ·exact (hF b a).2.2 i
  ·simp only[Fh,Ff,oB]at w;rcases w with rfl|rfl
   ·injection i with i
    have i:g=b:=i;subst i;rcases c with c|c
    ·exact (hF g a).2.1 c
    ·have:=(hF g a).1;omega
   ·exact (h.f b a).2 (Or.inr ⟨v,by simp,i⟩)
 refine⟨⟨B,⟨x2,x3,x4,x5,x6,x7,heap_set (u.trans hm) 0 _⟩,jx y z A l o hF q hw,cL h.r (row_ne hm h.r (by decide)) l (fun g c=>h.r.apart h.t (by decide) c) hF hw⟩,?_,u⟩;exact (Chg.sub (G:=aL M [vT,vR]) l (fun b a=>Or.inr ⟨vT,by simp,a⟩)).setCell (p:=⟨M,0,none⟩) (Or.inl (Or.inl rfl)) _
theorem MkB.pushR{j:World}{x:aj}{us vs:List Value}{g cap n:Nat}(h:MkB F d M ts rs vT vR j)(y:rs.length=n)(z:(bh d).cells j F rs us)(A:(bh d).at_ j F x vs)(c:vR.ownBlock=some g∨j.heap.size≤g)
  (l:Chg (fun b=>vR.ownBlock=some b) j W) (o:W.ownsRow 0 38 (bh d).n (slice (some ⟨g,0,none⟩) (n+1) cap) (n+1) (us++vs)) :
  MkB F d M ts (rs++[x]) vT (slice (some ⟨g,0,none⟩) (n+1) cap) (W.setCell ⟨M,1,none⟩ (slice (some ⟨g,0,none⟩) (n+1) cap))∧Chg (aL M [vT,vR]) j (W.setCell ⟨M,1,none⟩ (slice (some ⟨g,0,none⟩) (n+1) cap))∧W.heap[M]?=j.heap[M]?:=by
 obtain⟨x2,x3,x4,x5,x6,x7,hm⟩:=h.m;have k:=row_ne hm h.r (by decide);have hw:∀b,b≠M→(W.setCell ⟨M,1,none⟩ (slice (some ⟨g,0,none⟩) (n+1) cap)).heap[b]?=W.heap[b]?:=fun b a=>ED W ⟨M,1,none⟩ _ b a
 have u:W.heap[M]?=j.heap[M]?:=l.block M h.lt k;have q:g≠M:=by
  rcases c with c|c
  ·exact fun e=>k (e ▸ c)
  ·have:=h.lt;omega
 have hF:∀b,F b→b<j.heap.size∧vR.ownBlock≠some b∧b≠M:=fun b a=>⟨(h.f b a).1,fun e=>(h.f b a).2 (Or.inr ⟨vR,by simp,e⟩),fun e=>(h.f b a).2 (Or.inl e)⟩
 have s:(W.setCell ⟨M,1,none⟩ (slice (some ⟨g,0,none⟩) (n+1) cap)).heap.size=W.heap.size:=by simp[World.setCell]
 have B:∀b,F b→b<(W.setCell ⟨M,1,none⟩ (slice (some ⟨g,0,none⟩) (n+1) cap)).heap.size∧¬aL M [vT,(slice (some ⟨g,0,none⟩) (n+1) cap)] b:=fun b a=>by
  refine⟨by rw[s];exact EF (h.f b a).1 l.size,fun i=>?_⟩;rcases i with i|⟨v,w,i⟩
  ·exact (hF b a).2.2 i
  ·simp only[Fh,Ff,oB]at w;rcases w with rfl|rfl
   ·exact (h.f b a).2 (Or.inr ⟨v,by simp,i⟩)
   ·injection i with i
    have i:g=b:=i;subst i;rcases c with c|c
    ·exact (hF g a).2.1 c
    ·have:=(hF g a).1;omega
 refine⟨⟨B,⟨x2,x3,x4,x5,x6,x7,heap_set (u.trans hm) 1 _⟩,cL h.t (row_ne hm h.t (by decide)) l (fun g c=>h.t.apart h.r (by decide) c) hF hw,jx y z A l o hF q hw⟩,?_,u⟩;exact (Chg.sub (G:=aL M [vT,vR]) l (fun b a=>Or.inr ⟨vR,by simp,a⟩)).setCell (p:=⟨M,1,none⟩) (Or.inl (Or.inl rfl)) _
end
