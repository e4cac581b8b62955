/- Parts of one proof, joined; conditions stand in each theorem. -/
import Derived.Test.YtkhfjgjjhlnnnaaGreatDoorYMD
import Derived.Test.YtkhfjgjjhlnnnaaGreatDoorYNJ
open Go renaming Value→wF,World→wD,Calls→xL
open Go.Proofs.Tryz renaming prog→xD
open Go.Value renaming agg→xS,string→J,int→I,slice→A
open Option renaming some→Y,none→U
open Go.IntKind renaming i64→Z,u8→O
open Go.Obj renaming cells→wq
namespace Go.Proofs.YtkhfjgjjhlnnnaaGreatDoor
set_option maxHeartbeats 2000000
set_option maxRecDepth 100000
open Go.RowKit
def kT{α:Type} (r:Rd α) (f:Nat):Prop:=∀(x:α) (vs a:List wF) (w:wD),r.at_ w (fun b=>b<w.heap.size) x vs→r.at_ w (fun b=>b<w.heap.size) x a→xL xD f #[xS vs.toArray,xS a.toArray] w (cz w)
theorem te(l:List ae)(u v:wF)(w:wD)(hu:bV.K w (fun b=>b<w.heap.size) l u)(E:bV.K w (fun b=>b<w.heap.size) l v):xL xD 27 #[u,v] w (cz w):=by
 obtain⟨p,c,F⟩:=Rd.b hu;obtain⟨q,c',G⟩:=Rd.b E;have r:=Rd.tT hu;subst F;subst G;obtain⟨n,H⟩:=zzy (l.length);have X:=Hd (fun W (K:FK w W)=>Rd.X hu (fun _ h=>h) K);have HV:=Hd (fun W (K:FK w W)=>Rd.X E (fun _ h=>h) K);rw[H]at X HV r ⊢;have L:=Hd H;have af:(n:Int)≤9223372036854775807:=by unfold maxLen at r;omega
 clear hu E H r
 go_enter Tryz.func27,Tryz.ntmps27
 go_wp2
 go_loopw [5] (oG w n) (fun i _=>n-(intOf i).toNat)
 case atStart=>exact⟨_,0,V,Fa _,V,EP _ _⟩
 case round =>
  obtain⟨e,k,rfl,hk,rfl,s⟩:=hrel
  by_cases M:k<n
  ·obtain⟨x,N⟩:∃x,l[k]?=Y x:=⟨_,ES (by rw[L.o];exact M)⟩;have y:=Rd.tS (X.o e s) N;rw[L.o]at y;obtain⟨b,off,cap,vs,P,_,_,_,_,B,d⟩:=y;injection P with Q _ e3
   subst Q;subst e3;have d:∀m z,vs[m]?=Y z→e.cell? ⟨b,off+k*2+m,U⟩=Y z:=d;have g:=Rd.tS (HV.o e s) N;rw[L.o]at g;obtain⟨b',f,ad,R,C,_,_,_,_,j,a⟩:=g;injection C with S _ T
   subst S;subst T;have a:∀m z,R[m]?=Y z→e.cell? ⟨b',f+k*2+m,U⟩=Y z:=a;obtain⟨rfl,_,_⟩:=gp.1 B;obtain⟨rfl,_,_⟩:=gp.1 j;have d0:e.cell? ⟨b,off+k*2,U⟩=Y (J x.a):=d 0 _ V;have d1:e.cell? ⟨b,off+k*2+1,U⟩=Y (I Z x.b):=d 1 _ V;have e0:e.cell? ⟨b',f+k*2,U⟩=Y (J x.a):=a 0 _ V;have Q:e.cell? ⟨b',f+k*2+1,U⟩=Y (I Z x.b):=a 1 _ V;have D:FK e e.drew:=(EP _ e).drew;have t:=Hd (s.trans (D.mono s.size));have ak:(0:Int)≤k:=by omega
   have al:(k:Int)<n:=by omega
   clear B j d a N D s
   go_wp2
   go_still_tail 8,(by kernel_rfl)
   change wpList _ _ _ _ _ e.drew;generalize e.drew=W2 at *;clear d0 d1 e0 Q;go_wp2_with fail
   exact⟨⟨_,k+1,V,by omega,by go_num,t.o⟩,by simp[intOf];omega⟩
  ·obtain rfl:k=n:=by omega
   have t:=Hd s;clear s
   go_wp2
   go_ret;exact⟨V,t.o⟩
theorem tY(l:List dw)(u v:wF)(w:wD)(hu:gn.K w (fun b=>b<w.heap.size) l u)(E:gn.K w (fun b=>b<w.heap.size) l v):xL xD 222 #[u,v] w (cz w):=by
 obtain⟨p,c,F⟩:=Rd.b hu;obtain⟨q,c',G⟩:=Rd.b E;have r:=Rd.tT hu;subst F;subst G;obtain⟨n,H⟩:=zzy (l.length);have HU:=Hd (fun W (K:FK w W)=>Rd.X hu (fun _ h=>h) K);have HV:=Hd (fun W (K:FK w W)=>Rd.X E (fun _ h=>h) K);rw[H]at HU HV r ⊢;have L:=Hd H;have af:(n:Int)≤9223372036854775807:=by unfold maxLen at r;omega
 clear hu E H r
 go_enter Tryz.func222,Tryz.ntmps222
 go_wp2
 go_loopw [5] (oG w n) (fun i _=>n-(intOf i).toNat)
 case atStart=>exact⟨_,0,V,Fa _,V,EP _ _⟩
 case round =>
  obtain⟨f,k,rfl,hk,rfl,s⟩:=hrel
  by_cases M:k<n
  ·obtain⟨x,N⟩:∃x,l[k]?=Y x:=⟨_,ES (by rw[L.o];exact M)⟩;have y:=Rd.tS (HU.o f s) N;rw[L.o]at y;obtain⟨b,off,cap,vs,P,_,_,_,_,B,d⟩:=y;injection P with Q _ R
   subst Q;subst R;have d:∀m z,vs[m]?=Y z→f.cell? ⟨b,off+k*5+m,U⟩=Y z:=d;have g:=Rd.tS (HV.o f s) N;rw[L.o]at g;obtain⟨b',e,ad,S,C,_,_,_,_,j,a⟩:=g;injection C with T _ X
   subst T;subst X;have a:∀m z,S[m]?=Y z→f.cell? ⟨b',e+k*5+m,U⟩=Y z:=a;obtain⟨rfl,_⟩:=kl.1 B;obtain⟨rfl,_⟩:=kl.1 j;have d0:f.cell? ⟨b,off+k*5,U⟩=Y (I O x.b):=d 0 _ V;have d1:f.cell? ⟨b,off+k*5+1,U⟩=Y (I Z x.h):=d 1 _ V;have d2:f.cell? ⟨b,off+k*5+2,U⟩=Y (I O x.f.b):=d 2 _ V;have d3:f.cell? ⟨b,off+k*5+3,U⟩=Y (I Z x.f.h):=d 3 _ V;have d4:f.cell? ⟨b,off+k*5+4,U⟩=Y (J x.f.f):=d 4 _ V;have e0:f.cell? ⟨b',e+k*5,U⟩=Y (I O x.b):=a 0 _ V;have Q:f.cell? ⟨b',e+k*5+1,U⟩=Y (I Z x.h):=a 1 _ V;have e2:f.cell? ⟨b',e+k*5+2,U⟩=Y (I O x.f.b):=a 2 _ V;have R:f.cell? ⟨b',e+k*5+3,U⟩=Y (I Z x.f.h):=a 3 _ V;have e4:f.cell? ⟨b',e+k*5+4,U⟩=Y (J x.f.f):=a 4 _ V;have D:FK f f.drew:=(EP _ f).drew;have t:=Hd (s.trans (D.mono s.size));have ak:(0:Int)≤k:=by omega
   have al:(k:Int)<n:=by omega
   clear B j d a N D s
   go_wp2
   go_still_tail 8,(by kernel_rfl)
   change wpList _ _ _ _ _ f.drew;generalize f.drew=W2 at *;clear d0 d1 d2 d3 d4 e0 Q e2 R e4;go_wp2_with fail
   exact⟨⟨_,k+1,V,by omega,by go_num,t.o⟩,by simp[intOf];omega⟩
  ·obtain rfl:k=n:=by omega
   have t:=Hd s;clear s
   go_wp2
   go_ret;exact⟨V,t.o⟩
theorem ku(d:Nat)(l:List aw)(hf:l=[]∨kT (aL d) 175)(u v:wF)(w:wD)(hu:(aL d).K w (fun b=>b<w.heap.size) l u)(hv:(aL d).K w (fun b=>b<w.heap.size) l v):xL xD 223 #[u,v] w (cz w):=by
 obtain⟨p,c,aq⟩:=Rd.b hu;obtain⟨q,c',ar⟩:=Rd.b hv;have N:=Rd.tT hu;subst aq;subst ar;obtain⟨n,hn⟩:=zzy (l.length);have HU:=Hd (fun W (hW:FK w W)=>Rd.X hu (fun _ h=>h) hW);have HV:=Hd (fun W (hW:FK w W)=>Rd.X hv (fun _ h=>h) hW);have HF:=Hd hf;rw[hn]at HU HV N ⊢;have HN:=Hd hn;have bk:(n:Int)≤9223372036854775807:=by unfold maxLen at N;omega
 clear hu hv hn N hf
 go_enter Tryz.func223,Tryz.ntmps223
 go_wp2
 go_loopw [5] (oG w n) (fun i _=>n-(intOf i).toNat)
 case atStart=>exact⟨_,0,V,Fa _,V,EP _ _⟩
 case round =>
  obtain⟨g,k,rfl,hk,rfl,B⟩:=hrel
  by_cases av:k<n
  ·obtain⟨x,T⟩:∃x,l[k]?=Y x:=⟨_,ES (by rw[HN.o];exact av)⟩;have X:=Rd.tS (HU.o g B) T;rw[HN.o]at X;obtain⟨b,off,cap,vs,a1,_,_,_,_,P,f⟩:=X;injection a1 with e1 _ e3
   subst e1;subst e3;have f:∀m z,vs[m]?=Y z→g.cell? ⟨b,off+k*7+m,U⟩=Y z:=by simpa only [eU]using f
   have F:=Rd.tS (HV.o g B) T;rw[HN.o]at F;obtain⟨b',j,bd,a6,ad,_,_,_,_,r,a⟩:=F;injection ad with ba _ bb
   subst ba;subst bb;have a:∀m z,a6[m]?=Y z→g.cell? ⟨b',j+k*7+m,U⟩=Y z:=by simpa only [eU]using a
   have G:=P;have s:=r;obtain⟨_,s0,rfl,af⟩:=ey.1 P;obtain⟨ak,al,H⟩:=bg af;obtain⟨_,bl,rfl,K⟩:=ey.1 r;obtain⟨L,M,t⟩:=bg K;obtain⟨C,y⟩:=zzy (x.u.length);rw[y]at H;subst H;rw[y]at t;subst t;have d0:g.cell? ⟨b,off+k*7,U⟩=Y (I O x.b):=f 0 _ V;have d1:g.cell? ⟨b,off+k*7+1,U⟩=Y (I O x.f.b):=f 1 _ V;have d2:g.cell? ⟨b,off+k*7+2,U⟩=Y (I Z x.f.h):=f 2 _ V;have d3:g.cell? ⟨b,off+k*7+3,U⟩=Y (J x.f.f):=f 3 _ V;have d4:g.cell? ⟨b,off+k*7+4,U⟩=Y (I Z x.h):=f 4 _ V;have d5:g.cell? ⟨b,off+k*7+5,U⟩=Y (I O x.op):=f 5 _ V;have d6:g.cell? ⟨b,off+k*7+6,U⟩=Y (A ak C al):=f 6 _ V;have e0:g.cell? ⟨b',j+k*7,U⟩=Y (I O x.b):=a 0 _ V;have e1:g.cell? ⟨b',j+k*7+1,U⟩=Y (I O x.f.b):=a 1 _ V;have e2:g.cell? ⟨b',j+k*7+2,U⟩=Y (I Z x.f.h):=a 2 _ V;have e3:g.cell? ⟨b',j+k*7+3,U⟩=Y (J x.f.f):=a 3 _ V;have e4:g.cell? ⟨b',j+k*7+4,U⟩=Y (I Z x.h):=a 4 _ V;have e5:g.cell? ⟨b',j+k*7+5,U⟩=Y (I O x.op):=a 5 _ V;have e6:g.cell? ⟨b',j+k*7+6,U⟩=Y (A L C M):=a 6 _ V;have D:FK g g.drew:=(EP _ g).drew;have Q:∀b,(b<w.heap.size)→b<g.drew.heap.size:=fun b h=>ET h (EU B.size D.size)
   have R:∀b,b<w.heap.size→∀o,g.heap[b]?=Y o→g.drew.heap[b]?=Y o:=fun b h o ho=>(D.block b (ET h B.size)).trans ho
   have S:Hid (xL xD 175 #[xS #[I O x.b,I O x.f.b,I Z x.f.h,J x.f.f,I Z x.h,I O x.op,A ak C al],xS #[I O x.b,I O x.f.b,I Z x.f.h,J x.f.f,I Z x.h,I O x.op,A L C M]] g.drew (cz g.drew)):=(HF.o.resolve_left (fun h=>by rw[h]at T;simp at T)) x _ _ g.drew ((aL d).N Q ((aL d).C R G)) ((aL d).N Q ((aL d).C R s));have E:=Hd (B.trans (D.mono B.size));have bn:(0:Int)≤k:=by omega
   have bq:(k:Int)<n:=by omega
   clear P r f a T D B af K y G s Q R
   go_wp2
   go_still_tail 8,(by kernel_rfl)
   change wpList _ _ _ _ _ g.drew;generalize g.drew=W2 at *;clear d0 d1 d2 d3 d4 d5 d6 e0 e1 e2 e3 e4 e5 e6;go_wp2_with fail
   refine S.o.mono ?_;rintro e W3 ⟨rfl,bc⟩;go_wp2_with fail
   exact⟨⟨_,k+1,V,by omega,by go_num,E.o.trans (bc.mono E.o.size)⟩,by simp[intOf];omega⟩
  ·obtain rfl:k=n:=by omega
   have E:=Hd B;clear B
   go_wp2
   go_ret;exact⟨V,E.o⟩
theorem oW(d:Nat)(H:∀(l:List aw)(u v:wF)(w:wD),cZ w (fun b=>b<w.heap.size) d l u→cZ w (fun b=>b<w.heap.size) d l v→xL xD 223 #[u,v] w (cz w)):kT (aL d) 175:=by
 intro x vs K w q i;obtain⟨_,z,rfl,k⟩:=ey.1 q;obtain⟨_,g,rfl,a⟩:=ey.1 i;have B:FK w ((w.alloc (wq #[I O x.b,I O x.f.b,I Z x.f.h,J x.f.f,I Z x.h,I O x.op,z] 62)).alloc (wq #[I O x.b,I O x.f.b,I Z x.f.h,J x.f.f,I Z x.h,I O x.op,g] 62)):=((EP _ w).alloc (EO _) _).alloc (by simp) _;have n:∀b,(b<w.heap.size)→b<((w.alloc (wq #[I O x.b,I O x.f.b,I Z x.f.h,J x.f.f,I Z x.h,I O x.op,z] 62)).alloc (wq #[I O x.b,I O x.f.b,I Z x.f.h,J x.f.f,I Z x.h,I O x.op,g] 62)).heap.size:=fun b h=>ET h B.size
 have p:∀b,b<w.heap.size→∀o,w.heap[b]?=Y o→((w.alloc (wq #[I O x.b,I O x.f.b,I Z x.f.h,J x.f.f,I Z x.h,I O x.op,z] 62)).alloc (wq #[I O x.b,I O x.f.b,I Z x.f.h,J x.f.f,I Z x.h,I O x.op,g] 62)).heap[b]?=Y o:=fun b h o L=>(B.block b h).trans L
 obtain⟨F,G⟩:=zz2 (H x.u z g _ (fo n (fc p k)) (fo n (fc p a))) B;obtain⟨C,D,j⟩:=bg k;obtain⟨r,s,c⟩:=bg a;obtain⟨t,f⟩:=zzy (x.u.length);rw[f]at j;subst j;rw[f]at c;subst c;clear B n p q i k a f
 show xL xD 175 #[xS #[I O x.b,I O x.f.b,I Z x.f.h,J x.f.f,I Z x.h,I O x.op,A C t D],xS #[I O x.b,I O x.f.b,I Z x.f.h,J x.f.f,I Z x.h,I O x.op,A r t s]] w (cz w)
 go_enter Tryz.func175,Tryz.ntmps175
 go_wp2_with fail
 refine F.o.mono ?_;rintro e W ⟨rfl,y⟩;have E:=Hd (G.o.trans (y.mono G.o.size));clear y F;go_wp2_with fail
 go_ret;exact⟨V,E.o⟩
theorem nQ:∀(d:Nat) (l:List aw) (u v:wF) (w:wD),cZ w (fun b=>b<w.heap.size) d l u→cZ w (fun b=>b<w.heap.size) d l v→xL xD 223 #[u,v] w (cz w)
 | 0,l,u,v,w,hu,a=>by
  obtain⟨rfl,p,c,rfl⟩:=hu;obtain⟨_,q,e,rfl⟩:=a;exact ku 0 [] (Or.inl V) _ _ w Rd.vn Rd.vn
 | d+1,l,u,v,w,hu,a=>ku d l (Or.inr (oW d (nQ d))) u v w hu a
theorem ov(d:Nat):kT (aL d) 175:=oW d (nQ d)
theorem tj(d:Nat)(l:List aw)(u v:wF)(w:wD)(hu:(aL d).K w (fun b=>b<w.heap.size) l u)(a:(aL d).K w (fun b=>b<w.heap.size) l v):xL xD 223 #[u,v] w (cz w):=ku d l (Or.inr (ov d)) u v w hu a
theorem wN(d:Nat):kT (bf d) 153:=by
 intro x vs ak w N F;obtain⟨_,_,G,P,s1,rfl,L,M⟩:=fw.1 N;obtain⟨_,_,ad,t,u,rfl,v,y⟩:=fw.1 F;have X:FK w ((w.alloc (wq #[I O x.b,I Z x.f,P,I O x.a.b,I O x.a.f.b,I Z x.a.f.h,J x.a.f.f,I Z x.a.h,I O x.a.op,s1] 64)).alloc (wq #[I O x.b,I Z x.f,t,I O x.a.b,I O x.a.f.b,I Z x.a.f.h,J x.a.f.f,I Z x.a.h,I O x.a.op,u] 64)):=((EP _ w).alloc (EO _) _).alloc (by simp) _;have s:∀b,(b<w.heap.size)→b<((w.alloc (wq #[I O x.b,I Z x.f,P,I O x.a.b,I O x.a.f.b,I Z x.a.f.h,J x.a.f.f,I Z x.a.h,I O x.a.op,s1] 64)).alloc (wq #[I O x.b,I Z x.f,t,I O x.a.b,I O x.a.f.b,I Z x.a.f.h,J x.a.f.f,I Z x.a.h,I O x.a.op,u] 64)).heap.size:=fun b h=>ET h X.size
 have z:∀b,b<w.heap.size→∀o,w.heap[b]?=Y o→((w.alloc (wq #[I O x.b,I Z x.f,P,I O x.a.b,I O x.a.f.b,I Z x.a.f.h,J x.a.f.f,I Z x.a.h,I O x.a.op,s1] 64)).alloc (wq #[I O x.b,I Z x.f,t,I O x.a.b,I O x.a.f.b,I Z x.a.f.h,J x.a.f.f,I Z x.a.h,I O x.a.op,u] 64)).heap[b]?=Y o:=fun b h o Q=>(X.block b h).trans Q
 have HC:=Hd (tY x.N P t _ (Rd.y s (Rd.f z L)) (Rd.y s (Rd.f z v)));have R:=Hd (fun W (hW:Below _ ((w.alloc (wq #[I O x.b,I Z x.f,P,I O x.a.b,I O x.a.f.b,I Z x.a.f.h,J x.a.f.f,I Z x.a.h,I O x.a.op,s1] 64)).alloc (wq #[I O x.b,I Z x.f,t,I O x.a.b,I O x.a.f.b,I Z x.a.f.h,J x.a.f.f,I Z x.a.h,I O x.a.op,u] 64)) W)=>ov d x.a _ _ W (ey.2 ⟨G,s1,V,fo (fun b h=>ET (s b h) hW.size) (fc (fun b h o Q=>(hW.block b (s b h)).trans (z b h o Q)) M)⟩) (ey.2 ⟨G,u,V,fo (fun b h=>ET (s b h) hW.size) (fc (fun b h o Q=>(hW.block b (s b h)).trans (z b h o Q)) y)⟩));have HB:=Hd X;obtain⟨l,n,H⟩:=Rd.b L;obtain⟨f,g,B⟩:=Rd.b v;obtain⟨a,C⟩:=zzy (x.N.length);rw[C]at H;subst H;rw[C]at B;subst B;obtain⟨q,r,K⟩:=bg M;obtain⟨i,j,D⟩:=bg y;obtain⟨c,E⟩:=zzy (x.a.u.length);rw[E]at K;subst K;rw[E]at D;subst D;clear X s z N F L v M y C E
 show xL xD 153 #[xS #[I O x.b,I Z x.f,A l a n,I O x.a.b,I O x.a.f.b,I Z x.a.f.h,J x.a.f.f,I Z x.a.h,I O x.a.op,A q c r],xS #[I O x.b,I Z x.f,A f a g,I O x.a.b,I O x.a.f.b,I Z x.a.f.h,J x.a.f.f,I Z x.a.h,I O x.a.op,A i c j]] w (cz w)
 go_enter Tryz.func153,Tryz.ntmps153
 go_wp2_with fail
 refine HC.o.mono ?_;rintro e W ⟨rfl,k⟩;obtain⟨S,HD⟩:=zz2 (HB.o.trans (k.mono HB.o.size)) (R.o W k);have k0:W.cell? ⟨w.heap.size,0,U⟩=Y (I O x.b):=(k.cell (p:=⟨w.heap.size,0,U⟩) (by simp<;>omega)).trans (FI _ _ 0 _ _ _ (ap w (wq #[I O x.b,I Z x.f,A l a n,I O x.a.b,I O x.a.f.b,I Z x.a.f.h,J x.a.f.f,I Z x.a.h,I O x.a.op,A q c r] 64) (wq #[I O x.b,I Z x.f,A f a g,I O x.a.b,I O x.a.f.b,I Z x.a.f.h,J x.a.f.f,I Z x.a.h,I O x.a.op,A i c j] 64)).1)
 have k1:W.cell? ⟨w.heap.size,1,U⟩=Y (I Z x.f):=(k.cell (p:=⟨w.heap.size,1,U⟩) (by simp<;>omega)).trans (FI _ _ 1 _ _ _ (ap w (wq #[I O x.b,I Z x.f,A l a n,I O x.a.b,I O x.a.f.b,I Z x.a.f.h,J x.a.f.f,I Z x.a.h,I O x.a.op,A q c r] 64) (wq #[I O x.b,I Z x.f,A f a g,I O x.a.b,I O x.a.f.b,I Z x.a.f.h,J x.a.f.f,I Z x.a.h,I O x.a.op,A i c j] 64)).1)
 have k2:W.cell? ⟨w.heap.size,2,U⟩=Y (A l a n):=(k.cell (p:=⟨w.heap.size,2,U⟩) (by simp<;>omega)).trans (FI _ _ 2 _ _ _ (ap w (wq #[I O x.b,I Z x.f,A l a n,I O x.a.b,I O x.a.f.b,I Z x.a.f.h,J x.a.f.f,I Z x.a.h,I O x.a.op,A q c r] 64) (wq #[I O x.b,I Z x.f,A f a g,I O x.a.b,I O x.a.f.b,I Z x.a.f.h,J x.a.f.f,I Z x.a.h,I O x.a.op,A i c j] 64)).1)
 have k3:W.cell? ⟨w.heap.size,3,U⟩=Y (I O x.a.b):=(k.cell (p:=⟨w.heap.size,3,U⟩) (by simp<;>omega)).trans (FI _ _ 3 _ _ _ (ap w (wq #[I O x.b,I Z x.f,A l a n,I O x.a.b,I O x.a.f.b,I Z x.a.f.h,J x.a.f.f,I Z x.a.h,I O x.a.op,A q c r] 64) (wq #[I O x.b,I Z x.f,A f a g,I O x.a.b,I O x.a.f.b,I Z x.a.f.h,J x.a.f.f,I Z x.a.h,I O x.a.op,A i c j] 64)).1)
 have k4:W.cell? ⟨w.heap.size,4,U⟩=Y (I O x.a.f.b):=(k.cell (p:=⟨w.heap.size,4,U⟩) (by simp<;>omega)).trans (FI _ _ 4 _ _ _ (ap w (wq #[I O x.b,I Z x.f,A l a n,I O x.a.b,I O x.a.f.b,I Z x.a.f.h,J x.a.f.f,I Z x.a.h,I O x.a.op,A q c r] 64) (wq #[I O x.b,I Z x.f,A f a g,I O x.a.b,I O x.a.f.b,I Z x.a.f.h,J x.a.f.f,I Z x.a.h,I O x.a.op,A i c j] 64)).1)
 have k5:W.cell? ⟨w.heap.size,5,U⟩=Y (I Z x.a.f.h):=(k.cell (p:=⟨w.heap.size,5,U⟩) (by simp<;>omega)).trans (FI _ _ 5 _ _ _ (ap w (wq #[I O x.b,I Z x.f,A l a n,I O x.a.b,I O x.a.f.b,I Z x.a.f.h,J x.a.f.f,I Z x.a.h,I O x.a.op,A q c r] 64) (wq #[I O x.b,I Z x.f,A f a g,I O x.a.b,I O x.a.f.b,I Z x.a.f.h,J x.a.f.f,I Z x.a.h,I O x.a.op,A i c j] 64)).1)
 have k6:W.cell? ⟨w.heap.size,6,U⟩=Y (J x.a.f.f):=(k.cell (p:=⟨w.heap.size,6,U⟩) (by simp<;>omega)).trans (FI _ _ 6 _ _ _ (ap w (wq #[I O x.b,I Z x.f,A l a n,I O x.a.b,I O x.a.f.b,I Z x.a.f.h,J x.a.f.f,I Z x.a.h,I O x.a.op,A q c r] 64) (wq #[I O x.b,I Z x.f,A f a g,I O x.a.b,I O x.a.f.b,I Z x.a.f.h,J x.a.f.f,I Z x.a.h,I O x.a.op,A i c j] 64)).1)
 have k7:W.cell? ⟨w.heap.size,7,U⟩=Y (I Z x.a.h):=(k.cell (p:=⟨w.heap.size,7,U⟩) (by simp<;>omega)).trans (FI _ _ 7 _ _ _ (ap w (wq #[I O x.b,I Z x.f,A l a n,I O x.a.b,I O x.a.f.b,I Z x.a.f.h,J x.a.f.f,I Z x.a.h,I O x.a.op,A q c r] 64) (wq #[I O x.b,I Z x.f,A f a g,I O x.a.b,I O x.a.f.b,I Z x.a.f.h,J x.a.f.f,I Z x.a.h,I O x.a.op,A i c j] 64)).1)
 have k8:W.cell? ⟨w.heap.size,8,U⟩=Y (I O x.a.op):=(k.cell (p:=⟨w.heap.size,8,U⟩) (by simp<;>omega)).trans (FI _ _ 8 _ _ _ (ap w (wq #[I O x.b,I Z x.f,A l a n,I O x.a.b,I O x.a.f.b,I Z x.a.f.h,J x.a.f.f,I Z x.a.h,I O x.a.op,A q c r] 64) (wq #[I O x.b,I Z x.f,A f a g,I O x.a.b,I O x.a.f.b,I Z x.a.f.h,J x.a.f.f,I Z x.a.h,I O x.a.op,A i c j] 64)).1)
 have k9:W.cell? ⟨w.heap.size,9,U⟩=Y (A q c r):=(k.cell (p:=⟨w.heap.size,9,U⟩) (by simp<;>omega)).trans (FI _ _ 9 _ _ _ (ap w (wq #[I O x.b,I Z x.f,A l a n,I O x.a.b,I O x.a.f.b,I Z x.a.f.h,J x.a.f.f,I Z x.a.h,I O x.a.op,A q c r] 64) (wq #[I O x.b,I Z x.f,A f a g,I O x.a.b,I O x.a.f.b,I Z x.a.f.h,J x.a.f.f,I Z x.a.h,I O x.a.op,A i c j] 64)).1)
 have al:W.cell? ⟨w.heap.size+1,0,U⟩=Y (I O x.b):=(k.cell (p:=⟨w.heap.size+1,0,U⟩) (by simp<;>omega)).trans (FI _ _ 0 _ _ _ (ap w (wq #[I O x.b,I Z x.f,A l a n,I O x.a.b,I O x.a.f.b,I Z x.a.f.h,J x.a.f.f,I Z x.a.h,I O x.a.op,A q c r] 64) (wq #[I O x.b,I Z x.f,A f a g,I O x.a.b,I O x.a.f.b,I Z x.a.f.h,J x.a.f.f,I Z x.a.h,I O x.a.op,A i c j] 64)).2.1)
 have aq:W.cell? ⟨w.heap.size+1,1,U⟩=Y (I Z x.f):=(k.cell (p:=⟨w.heap.size+1,1,U⟩) (by simp<;>omega)).trans (FI _ _ 1 _ _ _ (ap w (wq #[I O x.b,I Z x.f,A l a n,I O x.a.b,I O x.a.f.b,I Z x.a.f.h,J x.a.f.f,I Z x.a.h,I O x.a.op,A q c r] 64) (wq #[I O x.b,I Z x.f,A f a g,I O x.a.b,I O x.a.f.b,I Z x.a.f.h,J x.a.f.f,I Z x.a.h,I O x.a.op,A i c j] 64)).2.1)
 have ar:W.cell? ⟨w.heap.size+1,2,U⟩=Y (A f a g):=(k.cell (p:=⟨w.heap.size+1,2,U⟩) (by simp<;>omega)).trans (FI _ _ 2 _ _ _ (ap w (wq #[I O x.b,I Z x.f,A l a n,I O x.a.b,I O x.a.f.b,I Z x.a.f.h,J x.a.f.f,I Z x.a.h,I O x.a.op,A q c r] 64) (wq #[I O x.b,I Z x.f,A f a g,I O x.a.b,I O x.a.f.b,I Z x.a.f.h,J x.a.f.f,I Z x.a.h,I O x.a.op,A i c j] 64)).2.1)
 have av:W.cell? ⟨w.heap.size+1,3,U⟩=Y (I O x.a.b):=(k.cell (p:=⟨w.heap.size+1,3,U⟩) (by simp<;>omega)).trans (FI _ _ 3 _ _ _ (ap w (wq #[I O x.b,I Z x.f,A l a n,I O x.a.b,I O x.a.f.b,I Z x.a.f.h,J x.a.f.f,I Z x.a.h,I O x.a.op,A q c r] 64) (wq #[I O x.b,I Z x.f,A f a g,I O x.a.b,I O x.a.f.b,I Z x.a.f.h,J x.a.f.f,I Z x.a.h,I O x.a.op,A i c j] 64)).2.1)
 have a1:W.cell? ⟨w.heap.size+1,4,U⟩=Y (I O x.a.f.b):=(k.cell (p:=⟨w.heap.size+1,4,U⟩) (by simp<;>omega)).trans (FI _ _ 4 _ _ _ (ap w (wq #[I O x.b,I Z x.f,A l a n,I O x.a.b,I O x.a.f.b,I Z x.a.f.h,J x.a.f.f,I Z x.a.h,I O x.a.op,A q c r] 64) (wq #[I O x.b,I Z x.f,A f a g,I O x.a.b,I O x.a.f.b,I Z x.a.f.h,J x.a.f.f,I Z x.a.h,I O x.a.op,A i c j] 64)).2.1)
 have a6:W.cell? ⟨w.heap.size+1,5,U⟩=Y (I Z x.a.f.h):=(k.cell (p:=⟨w.heap.size+1,5,U⟩) (by simp<;>omega)).trans (FI _ _ 5 _ _ _ (ap w (wq #[I O x.b,I Z x.f,A l a n,I O x.a.b,I O x.a.f.b,I Z x.a.f.h,J x.a.f.f,I Z x.a.h,I O x.a.op,A q c r] 64) (wq #[I O x.b,I Z x.f,A f a g,I O x.a.b,I O x.a.f.b,I Z x.a.f.h,J x.a.f.f,I Z x.a.h,I O x.a.op,A i c j] 64)).2.1)
 have ba:W.cell? ⟨w.heap.size+1,6,U⟩=Y (J x.a.f.f):=(k.cell (p:=⟨w.heap.size+1,6,U⟩) (by simp<;>omega)).trans (FI _ _ 6 _ _ _ (ap w (wq #[I O x.b,I Z x.f,A l a n,I O x.a.b,I O x.a.f.b,I Z x.a.f.h,J x.a.f.f,I Z x.a.h,I O x.a.op,A q c r] 64) (wq #[I O x.b,I Z x.f,A f a g,I O x.a.b,I O x.a.f.b,I Z x.a.f.h,J x.a.f.f,I Z x.a.h,I O x.a.op,A i c j] 64)).2.1)
 have bb:W.cell? ⟨w.heap.size+1,7,U⟩=Y (I Z x.a.h):=(k.cell (p:=⟨w.heap.size+1,7,U⟩) (by simp<;>omega)).trans (FI _ _ 7 _ _ _ (ap w (wq #[I O x.b,I Z x.f,A l a n,I O x.a.b,I O x.a.f.b,I Z x.a.f.h,J x.a.f.f,I Z x.a.h,I O x.a.op,A q c r] 64) (wq #[I O x.b,I Z x.f,A f a g,I O x.a.b,I O x.a.f.b,I Z x.a.f.h,J x.a.f.f,I Z x.a.h,I O x.a.op,A i c j] 64)).2.1)
 have bc:W.cell? ⟨w.heap.size+1,8,U⟩=Y (I O x.a.op):=(k.cell (p:=⟨w.heap.size+1,8,U⟩) (by simp<;>omega)).trans (FI _ _ 8 _ _ _ (ap w (wq #[I O x.b,I Z x.f,A l a n,I O x.a.b,I O x.a.f.b,I Z x.a.f.h,J x.a.f.f,I Z x.a.h,I O x.a.op,A q c r] 64) (wq #[I O x.b,I Z x.f,A f a g,I O x.a.b,I O x.a.f.b,I Z x.a.f.h,J x.a.f.f,I Z x.a.h,I O x.a.op,A i c j] 64)).2.1)
 have bd:W.cell? ⟨w.heap.size+1,9,U⟩=Y (A i c j):=(k.cell (p:=⟨w.heap.size+1,9,U⟩) (by simp<;>omega)).trans (FI _ _ 9 _ _ _ (ap w (wq #[I O x.b,I Z x.f,A l a n,I O x.a.b,I O x.a.f.b,I Z x.a.f.h,J x.a.f.f,I Z x.a.h,I O x.a.op,A q c r] 64) (wq #[I O x.b,I Z x.f,A f a g,I O x.a.b,I O x.a.f.b,I Z x.a.f.h,J x.a.f.f,I Z x.a.h,I O x.a.op,A i c j] 64)).2.1)
 clear k HC R;go_wp2_with fail
 refine HD.o.mono ?_;rintro e W2 ⟨rfl,T⟩;have af:=Hd (S.o.trans (T.mono S.o.size));clear T HD;go_wp2_with fail
 go_ret;exact⟨V,af.o⟩
theorem yy(d:Nat):kT (bA d) 154:=by
 intro x vs E w p i;obtain⟨_,_,_,u,rfl,k⟩:=fP.1 p;obtain⟨_,_,_,g,rfl,a⟩:=fP.1 i;have v:FK w ((w.alloc (wq #[I O x.b,I Z x.f,I Z x.a,u] 70)).alloc (wq #[I O x.b,I Z x.f,I Z x.a,g] 70)):=((EP _ w).alloc (EO _) _).alloc (by simp) _;have l:∀b,(b<w.heap.size)→b<((w.alloc (wq #[I O x.b,I Z x.f,I Z x.a,u] 70)).alloc (wq #[I O x.b,I Z x.f,I Z x.a,g] 70)).heap.size:=fun b h=>ET h v.size
 have n:∀b,b<w.heap.size→∀o,w.heap[b]?=Y o→((w.alloc (wq #[I O x.b,I Z x.f,I Z x.a,u] 70)).alloc (wq #[I O x.b,I Z x.f,I Z x.a,g] 70)).heap[b]?=Y o:=fun b h o F=>(v.block b h).trans F
 obtain⟨C,D⟩:=zz2 (tj d x.y u g _ (Rd.y l (Rd.f n k)) (Rd.y l (Rd.f n a))) v;obtain⟨y,z,j⟩:=Rd.b k;obtain⟨q,r,c⟩:=Rd.b a;obtain⟨s,f⟩:=zzy (x.y.length);rw[f]at j;subst j;rw[f]at c;subst c;clear v l n p i k a f
 show xL xD 154 #[xS #[I O x.b,I Z x.f,I Z x.a,A y s z],xS #[I O x.b,I Z x.f,I Z x.a,A q s r]] w (cz w)
 go_enter Tryz.func154,Tryz.ntmps154
 go_wp2_with fail
 refine C.o.mono ?_;rintro e W ⟨rfl,t⟩;have B:=Hd (D.o.trans (t.mono D.o.size));clear t C;go_wp2_with fail
 go_ret;exact⟨V,B.o⟩
theorem ti(d:Nat)(l:List aW)(u v:wF)(w:wD)(hu:(bf d).K w (fun b=>b<w.heap.size) l u)(hv:(bf d).K w (fun b=>b<w.heap.size) l v):xL xD 84 #[u,v] w (cz w):=by
 obtain⟨p,c,bk⟩:=Rd.b hu;obtain⟨q,c',bl⟩:=Rd.b hv;have ad:=Rd.tT hu;subst bk;subst bl;obtain⟨n,hn⟩:=zzy (l.length);have HU:=Hd (fun W (hW:FK w W)=>Rd.X hu (fun _ h=>h) hW);have HV:=Hd (fun W (hW:FK w W)=>Rd.X hv (fun _ h=>h) hW);have HF:=Hd (wN d);rw[hn]at HU HV ad ⊢;have HN:=Hd hn;have b1:(n:Int)≤9223372036854775807:=by unfold maxLen at ad;omega
 clear hu hv hn ad
 go_enter Tryz.func84,Tryz.ntmps84
 go_wp2
 go_loopw [5] (oG w n) (fun i _=>n-(intOf i).toNat)
 case atStart=>exact⟨_,0,V,Fa _,V,EP _ _⟩
 case round =>
  obtain⟨g,k,rfl,hk,rfl,D⟩:=hrel
  by_cases bn:k<n
  ·obtain⟨x,hx⟩:∃x,l[k]?=Y x:=⟨_,ES (by rw[HN.o];exact bn)⟩;have ar:=Rd.tS (HU.o g D) hx;rw[HN.o]at ar;obtain⟨b,off,cap,vs,bq,_,_,_,_,af,f⟩:=ar;injection bq with e1 _ e3
   subst e1;subst e3;have f:∀m z,vs[m]?=Y z→g.cell? ⟨b,off+k*10+m,U⟩=Y z:=by simpa only [dP]using f
   have K:=Rd.tS (HV.o g D) hx;rw[HN.o]at K;obtain⟨b',j,b0,br,av,_,_,_,_,r,a⟩:=K;injection av with bt _ bB
   subst bt;subst bB;have a:∀m z,br[m]?=Y z→g.cell? ⟨b',j+k*10+m,U⟩=Y z:=by simpa only [dP]using a
   have L:=af;have s:=r;obtain⟨_,_,_,s0,s1,rfl,a1,a6⟩:=fw.1 af;obtain⟨ba,bb,M⟩:=Rd.b a1;obtain⟨bc,bd,N⟩:=bg a6;obtain⟨_,_,_,b2,b3,rfl,P,Q⟩:=fw.1 r;obtain⟨R,S,t⟩:=Rd.b P;obtain⟨T,X,y⟩:=bg Q;obtain⟨E,B⟩:=zzy (x.N.length);rw[B]at M;subst M;rw[B]at t;subst t;obtain⟨F,C⟩:=zzy (x.a.u.length);rw[C]at N;subst N;rw[C]at y;subst y;have d0:g.cell? ⟨b,off+k*10,U⟩=Y (I O x.b):=f 0 _ V;have d1:g.cell? ⟨b,off+k*10+1,U⟩=Y (I Z x.f):=f 1 _ V;have d2:g.cell? ⟨b,off+k*10+2,U⟩=Y (A ba E bb):=f 2 _ V;have d3:g.cell? ⟨b,off+k*10+3,U⟩=Y (I O x.a.b):=f 3 _ V;have d4:g.cell? ⟨b,off+k*10+4,U⟩=Y (I O x.a.f.b):=f 4 _ V;have d5:g.cell? ⟨b,off+k*10+5,U⟩=Y (I Z x.a.f.h):=f 5 _ V;have d6:g.cell? ⟨b,off+k*10+6,U⟩=Y (J x.a.f.f):=f 6 _ V;have d7:g.cell? ⟨b,off+k*10+7,U⟩=Y (I Z x.a.h):=f 7 _ V;have d8:g.cell? ⟨b,off+k*10+8,U⟩=Y (I O x.a.op):=f 8 _ V;have d9:g.cell? ⟨b,off+k*10+9,U⟩=Y (A bc F bd):=f 9 _ V;have e0:g.cell? ⟨b',j+k*10,U⟩=Y (I O x.b):=a 0 _ V;have e1:g.cell? ⟨b',j+k*10+1,U⟩=Y (I Z x.f):=a 1 _ V;have e2:g.cell? ⟨b',j+k*10+2,U⟩=Y (A R E S):=a 2 _ V;have e3:g.cell? ⟨b',j+k*10+3,U⟩=Y (I O x.a.b):=a 3 _ V;have e4:g.cell? ⟨b',j+k*10+4,U⟩=Y (I O x.a.f.b):=a 4 _ V;have e5:g.cell? ⟨b',j+k*10+5,U⟩=Y (I Z x.a.f.h):=a 5 _ V;have e6:g.cell? ⟨b',j+k*10+6,U⟩=Y (J x.a.f.f):=a 6 _ V;have e7:g.cell? ⟨b',j+k*10+7,U⟩=Y (I Z x.a.h):=a 7 _ V;have e8:g.cell? ⟨b',j+k*10+8,U⟩=Y (I O x.a.op):=a 8 _ V;have e9:g.cell? ⟨b',j+k*10+9,U⟩=Y (A T F X):=a 9 _ V;have G:FK g g.drew:=(EP _ g).drew;have ak:∀b,(b<w.heap.size)→b<g.drew.heap.size:=fun b h=>ET h (EU D.size G.size)
   have al:∀b,b<w.heap.size→∀o,g.heap[b]?=Y o→g.drew.heap[b]?=Y o:=fun b h o ho=>(G.block b (ET h D.size)).trans ho
   have aq:Hid (xL xD 153 #[xS #[I O x.b,I Z x.f,A ba E bb,I O x.a.b,I O x.a.f.b,I Z x.a.f.h,J x.a.f.f,I Z x.a.h,I O x.a.op,A bc F bd],xS #[I O x.b,I Z x.f,A R E S,I O x.a.b,I O x.a.f.b,I Z x.a.f.h,J x.a.f.f,I Z x.a.h,I O x.a.op,A T F X]] g.drew (cz g.drew)):=HF.o x _ _ g.drew ((bf d).N ak ((bf d).C al L)) ((bf d).N ak ((bf d).C al s));have H:=Hd (D.trans (G.mono D.size));have b4:(0:Int)≤k:=by omega
   have b5:(k:Int)<n:=by omega
   clear af r f a hx G D a1 P a6 Q B C L s ak al
   go_wp2
   go_still_tail 8,(by kernel_rfl)
   change wpList _ _ _ _ _ g.drew;generalize g.drew=W2 at *;clear d0 d1 d2 d3 d4 d5 d6 d7 d8 d9 e0 e1 e2 e3 e4 e5 e6 e7 e8 e9;go_wp2_with fail
   refine aq.o.mono ?_;rintro e W3 ⟨rfl,bR⟩;go_wp2_with fail
   exact⟨⟨_,k+1,V,by omega,by go_num,H.o.trans (bR.mono H.o.size)⟩,by simp[intOf];omega⟩
  ·obtain rfl:k=n:=by omega
   have H:=Hd D;clear D
   go_wp2
   go_ret;exact⟨V,H.o⟩
theorem uI(d:Nat)(l:List bW)(u v:wF)(w:wD)(hu:(bA d).K w (fun b=>b<w.heap.size) l u)(hv:(bA d).K w (fun b=>b<w.heap.size) l v):xL xD 85 #[u,v] w (cz w):=by
 obtain⟨p,c,al⟩:=Rd.b hu;obtain⟨q,c',aq⟩:=Rd.b hv;have N:=Rd.tT hu;subst al;subst aq;obtain⟨n,hn⟩:=zzy (l.length);have HU:=Hd (fun W (hW:FK w W)=>Rd.X hu (fun _ h=>h) hW);have HV:=Hd (fun W (hW:FK w W)=>Rd.X hv (fun _ h=>h) hW);have HF:=Hd (yy d);rw[hn]at HU HV N ⊢;have HN:=Hd hn;have bd:(n:Int)≤9223372036854775807:=by unfold maxLen at N;omega
 clear hu hv hn N
 go_enter Tryz.func85,Tryz.ntmps85
 go_wp2
 go_loopw [5] (oG w n) (fun i _=>n-(intOf i).toNat)
 case atStart=>exact⟨_,0,V,Fa _,V,EP _ _⟩
 case round =>
  obtain⟨g,k,rfl,hk,rfl,B⟩:=hrel
  by_cases ar:k<n
  ·obtain⟨x,hx⟩:∃x,l[k]?=Y x:=⟨_,ES (by rw[HN.o];exact ar)⟩;have T:=Rd.tS (HU.o g B) hx;rw[HN.o]at T;obtain⟨b,off,cap,vs,av,_,_,_,_,P,f⟩:=T;injection av with e1 _ e3
   subst e1;subst e3;have f:∀m z,vs[m]?=Y z→g.cell? ⟨b,off+k*4+m,U⟩=Y z:=f;have F:=Rd.tS (HV.o g B) hx;rw[HN.o]at F;obtain⟨b',j,bc,a1,X,_,_,_,_,r,a⟩:=F;injection X with a6 _ ba
   subst a6;subst ba;have a:∀m z,a1[m]?=Y z→g.cell? ⟨b',j+k*4+m,U⟩=Y z:=a;have G:=P;have s:=r;obtain⟨_,_,_,s0,rfl,ad⟩:=fP.1 P;obtain⟨af,ak,H⟩:=Rd.b ad;obtain⟨_,_,_,bk,rfl,K⟩:=fP.1 r;obtain⟨L,M,t⟩:=Rd.b K;obtain⟨C,y⟩:=zzy (x.y.length);rw[y]at H;subst H;rw[y]at t;subst t;have d0:g.cell? ⟨b,off+k*4,U⟩=Y (I O x.b):=f 0 _ V;have d1:g.cell? ⟨b,off+k*4+1,U⟩=Y (I Z x.f):=f 1 _ V;have d2:g.cell? ⟨b,off+k*4+2,U⟩=Y (I Z x.a):=f 2 _ V;have d3:g.cell? ⟨b,off+k*4+3,U⟩=Y (A af C ak):=f 3 _ V;have e0:g.cell? ⟨b',j+k*4,U⟩=Y (I O x.b):=a 0 _ V;have e1:g.cell? ⟨b',j+k*4+1,U⟩=Y (I Z x.f):=a 1 _ V;have e2:g.cell? ⟨b',j+k*4+2,U⟩=Y (I Z x.a):=a 2 _ V;have e3:g.cell? ⟨b',j+k*4+3,U⟩=Y (A L C M):=a 3 _ V;have D:FK g g.drew:=(EP _ g).drew;have Q:∀b,(b<w.heap.size)→b<g.drew.heap.size:=fun b h=>ET h (EU B.size D.size)
   have R:∀b,b<w.heap.size→∀o,g.heap[b]?=Y o→g.drew.heap[b]?=Y o:=fun b h o ho=>(D.block b (ET h B.size)).trans ho
   have S:Hid (xL xD 154 #[xS #[I O x.b,I Z x.f,I Z x.a,A af C ak],xS #[I O x.b,I Z x.f,I Z x.a,A L C M]] g.drew (cz g.drew)):=HF.o x _ _ g.drew ((bA d).N Q ((bA d).C R G)) ((bA d).N Q ((bA d).C R s));have E:=Hd (B.trans (D.mono B.size));have bl:(0:Int)≤k:=by omega
   have bn:(k:Int)<n:=by omega
   clear P r f a hx D B ad K y G s Q R
   go_wp2
   go_still_tail 8,(by kernel_rfl)
   change wpList _ _ _ _ _ g.drew;generalize g.drew=W2 at *;clear d0 d1 d2 d3 e0 e1 e2 e3;go_wp2_with fail
   refine S.o.mono ?_;rintro e W3 ⟨rfl,bb⟩;go_wp2_with fail
   exact⟨⟨_,k+1,V,by omega,by go_num,E.o.trans (bb.mono E.o.size)⟩,by simp[intOf];omega⟩
  ·obtain rfl:k=n:=by omega
   have E:=Hd B;clear B
   go_wp2
   go_ret;exact⟨V,E.o⟩
theorem vD(d:Nat):kT (bX d) 52:=by
 intro x vs af w M F;obtain⟨_,_,_,N,s1,rfl,K,L⟩:=gY.1 M;obtain⟨_,_,_,t,u,rfl,v,y⟩:=gY.1 F;have T:FK w ((w.alloc (wq #[J x.a,I Z x.e,I Z x.b,N,s1] 50)).alloc (wq #[J x.a,I Z x.e,I Z x.b,t,u] 50)):=((EP _ w).alloc (EO _) _).alloc (by simp) _;have s:∀b,(b<w.heap.size)→b<((w.alloc (wq #[J x.a,I Z x.e,I Z x.b,N,s1] 50)).alloc (wq #[J x.a,I Z x.e,I Z x.b,t,u] 50)).heap.size:=fun b h=>ET h T.size
 have z:∀b,b<w.heap.size→∀o,w.heap[b]?=Y o→((w.alloc (wq #[J x.a,I Z x.e,I Z x.b,N,s1] 50)).alloc (wq #[J x.a,I Z x.e,I Z x.b,t,u] 50)).heap[b]?=Y o:=fun b h o P=>(T.block b h).trans P
 have HC:=Hd (ti d x.c N t _ (Rd.y s (Rd.f z K)) (Rd.y s (Rd.f z v)));have Q:=Hd (fun W (X:Below _ ((w.alloc (wq #[J x.a,I Z x.e,I Z x.b,N,s1] 50)).alloc (wq #[J x.a,I Z x.e,I Z x.b,t,u] 50)) W)=>uI d x.d s1 u W (Rd.y (fun b h=>ET (s b h) X.size) (Rd.f (fun b h o P=>(X.block b (s b h)).trans (z b h o P)) L)) (Rd.y (fun b h=>ET (s b h) X.size) (Rd.f (fun b h o P=>(X.block b (s b h)).trans (z b h o P)) y)));have HB:=Hd T;obtain⟨l,n,G⟩:=Rd.b K;obtain⟨f,g,B⟩:=Rd.b v;obtain⟨a,C⟩:=zzy (x.c.length);rw[C]at G;subst G;rw[C]at B;subst B;obtain⟨q,r,H⟩:=Rd.b L;obtain⟨i,j,D⟩:=Rd.b y;obtain⟨c,E⟩:=zzy (x.d.length);rw[E]at H;subst H;rw[E]at D;subst D;clear T s z M F K v L y C E
 show xL xD 52 #[xS #[J x.a,I Z x.e,I Z x.b,A l a n,A q c r],xS #[J x.a,I Z x.e,I Z x.b,A f a g,A i c j]] w (cz w)
 go_enter Tryz.func52,Tryz.ntmps52
 go_wp2_with fail
 refine HC.o.mono ?_;rintro e W ⟨rfl,k⟩;obtain⟨R,HD⟩:=zz2 (HB.o.trans (k.mono HB.o.size)) (Q.o W k);have k0:W.cell? ⟨w.heap.size,0,U⟩=Y (J x.a):=(k.cell (p:=⟨w.heap.size,0,U⟩) (by simp<;>omega)).trans (FI _ _ 0 _ _ _ (ap w (wq #[J x.a,I Z x.e,I Z x.b,A l a n,A q c r] 50) (wq #[J x.a,I Z x.e,I Z x.b,A f a g,A i c j] 50)).1)
 have k1:W.cell? ⟨w.heap.size,1,U⟩=Y (I Z x.e):=(k.cell (p:=⟨w.heap.size,1,U⟩) (by simp<;>omega)).trans (FI _ _ 1 _ _ _ (ap w (wq #[J x.a,I Z x.e,I Z x.b,A l a n,A q c r] 50) (wq #[J x.a,I Z x.e,I Z x.b,A f a g,A i c j] 50)).1)
 have k2:W.cell? ⟨w.heap.size,2,U⟩=Y (I Z x.b):=(k.cell (p:=⟨w.heap.size,2,U⟩) (by simp<;>omega)).trans (FI _ _ 2 _ _ _ (ap w (wq #[J x.a,I Z x.e,I Z x.b,A l a n,A q c r] 50) (wq #[J x.a,I Z x.e,I Z x.b,A f a g,A i c j] 50)).1)
 have k3:W.cell? ⟨w.heap.size,3,U⟩=Y (A l a n):=(k.cell (p:=⟨w.heap.size,3,U⟩) (by simp<;>omega)).trans (FI _ _ 3 _ _ _ (ap w (wq #[J x.a,I Z x.e,I Z x.b,A l a n,A q c r] 50) (wq #[J x.a,I Z x.e,I Z x.b,A f a g,A i c j] 50)).1)
 have k4:W.cell? ⟨w.heap.size,4,U⟩=Y (A q c r):=(k.cell (p:=⟨w.heap.size,4,U⟩) (by simp<;>omega)).trans (FI _ _ 4 _ _ _ (ap w (wq #[J x.a,I Z x.e,I Z x.b,A l a n,A q c r] 50) (wq #[J x.a,I Z x.e,I Z x.b,A f a g,A i c j] 50)).1)
 have ak:W.cell? ⟨w.heap.size+1,0,U⟩=Y (J x.a):=(k.cell (p:=⟨w.heap.size+1,0,U⟩) (by simp<;>omega)).trans (FI _ _ 0 _ _ _ (ap w (wq #[J x.a,I Z x.e,I Z x.b,A l a n,A q c r] 50) (wq #[J x.a,I Z x.e,I Z x.b,A f a g,A i c j] 50)).2.1)
 have al:W.cell? ⟨w.heap.size+1,1,U⟩=Y (I Z x.e):=(k.cell (p:=⟨w.heap.size+1,1,U⟩) (by simp<;>omega)).trans (FI _ _ 1 _ _ _ (ap w (wq #[J x.a,I Z x.e,I Z x.b,A l a n,A q c r] 50) (wq #[J x.a,I Z x.e,I Z x.b,A f a g,A i c j] 50)).2.1)
 have aq:W.cell? ⟨w.heap.size+1,2,U⟩=Y (I Z x.b):=(k.cell (p:=⟨w.heap.size+1,2,U⟩) (by simp<;>omega)).trans (FI _ _ 2 _ _ _ (ap w (wq #[J x.a,I Z x.e,I Z x.b,A l a n,A q c r] 50) (wq #[J x.a,I Z x.e,I Z x.b,A f a g,A i c j] 50)).2.1)
 have ar:W.cell? ⟨w.heap.size+1,3,U⟩=Y (A f a g):=(k.cell (p:=⟨w.heap.size+1,3,U⟩) (by simp<;>omega)).trans (FI _ _ 3 _ _ _ (ap w (wq #[J x.a,I Z x.e,I Z x.b,A l a n,A q c r] 50) (wq #[J x.a,I Z x.e,I Z x.b,A f a g,A i c j] 50)).2.1)
 have av:W.cell? ⟨w.heap.size+1,4,U⟩=Y (A i c j):=(k.cell (p:=⟨w.heap.size+1,4,U⟩) (by simp<;>omega)).trans (FI _ _ 4 _ _ _ (ap w (wq #[J x.a,I Z x.e,I Z x.b,A l a n,A q c r] 50) (wq #[J x.a,I Z x.e,I Z x.b,A f a g,A i c j] 50)).2.1)
 clear k HC Q;go_wp2_with fail
 refine HD.o.mono ?_;rintro e W2 ⟨rfl,S⟩;have ad:=Hd (R.o.trans (S.mono R.o.size));clear S HD;go_wp2_with fail
 go_ret;exact⟨V,ad.o⟩
theorem qX(d:Nat)(l:List an)(u v:wF)(w:wD)(hu:(bX d).K w (fun b=>b<w.heap.size) l u)(hv:(bX d).K w (fun b=>b<w.heap.size) l v):xL xD 28 #[u,v] w (cz w):=by
 obtain⟨p,c,bk⟩:=Rd.b hu;obtain⟨q,c',bl⟩:=Rd.b hv;have ad:=Rd.tT hu;subst bk;subst bl;obtain⟨n,hn⟩:=zzy (l.length);have HU:=Hd (fun W (hW:FK w W)=>Rd.X hu (fun _ h=>h) hW);have HV:=Hd (fun W (hW:FK w W)=>Rd.X hv (fun _ h=>h) hW);have HF:=Hd (vD d);rw[hn]at HU HV ad ⊢;have HN:=Hd hn;have b1:(n:Int)≤9223372036854775807:=by unfold maxLen at ad;omega
 clear hu hv hn ad
 go_enter Tryz.func28,Tryz.ntmps28
 go_wp2
 go_loopw [5] (oG w n) (fun i _=>n-(intOf i).toNat)
 case atStart=>exact⟨_,0,V,Fa _,V,EP _ _⟩
 case round =>
  obtain⟨g,k,rfl,hk,rfl,D⟩:=hrel
  by_cases bn:k<n
  ·obtain⟨x,hx⟩:∃x,l[k]?=Y x:=⟨_,ES (by rw[HN.o];exact bn)⟩;have ar:=Rd.tS (HU.o g D) hx;rw[HN.o]at ar;obtain⟨b,off,cap,vs,bq,_,_,_,_,af,f⟩:=ar;injection bq with e1 _ e3
   subst e1;subst e3;have f:∀m z,vs[m]?=Y z→g.cell? ⟨b,off+k*5+m,U⟩=Y z:=f;have K:=Rd.tS (HV.o g D) hx;rw[HN.o]at K;obtain⟨b',j,b0,br,av,_,_,_,_,r,a⟩:=K;injection av with bt _ bB
   subst bt;subst bB;have a:∀m z,br[m]?=Y z→g.cell? ⟨b',j+k*5+m,U⟩=Y z:=a;have L:=af;have s:=r;obtain⟨_,_,_,s0,s1,rfl,a1,a6⟩:=gY.1 af;obtain⟨ba,bb,M⟩:=Rd.b a1;obtain⟨bc,bd,N⟩:=Rd.b a6;obtain⟨_,_,_,b2,b3,rfl,P,Q⟩:=gY.1 r;obtain⟨R,S,t⟩:=Rd.b P;obtain⟨T,X,y⟩:=Rd.b Q;obtain⟨E,B⟩:=zzy (x.c.length);rw[B]at M;subst M;rw[B]at t;subst t;obtain⟨F,C⟩:=zzy (x.d.length);rw[C]at N;subst N;rw[C]at y;subst y;have d0:g.cell? ⟨b,off+k*5,U⟩=Y (J x.a):=f 0 _ V;have d1:g.cell? ⟨b,off+k*5+1,U⟩=Y (I Z x.e):=f 1 _ V;have d2:g.cell? ⟨b,off+k*5+2,U⟩=Y (I Z x.b):=f 2 _ V;have d3:g.cell? ⟨b,off+k*5+3,U⟩=Y (A ba E bb):=f 3 _ V;have d4:g.cell? ⟨b,off+k*5+4,U⟩=Y (A bc F bd):=f 4 _ V;have e0:g.cell? ⟨b',j+k*5,U⟩=Y (J x.a):=a 0 _ V;have e1:g.cell? ⟨b',j+k*5+1,U⟩=Y (I Z x.e):=a 1 _ V;have e2:g.cell? ⟨b',j+k*5+2,U⟩=Y (I Z x.b):=a 2 _ V;have e3:g.cell? ⟨b',j+k*5+3,U⟩=Y (A R E S):=a 3 _ V;have e4:g.cell? ⟨b',j+k*5+4,U⟩=Y (A T F X):=a 4 _ V;have G:FK g g.drew:=(EP _ g).drew;have ak:∀b,(b<w.heap.size)→b<g.drew.heap.size:=fun b h=>ET h (EU D.size G.size)
   have al:∀b,b<w.heap.size→∀o,g.heap[b]?=Y o→g.drew.heap[b]?=Y o:=fun b h o ho=>(G.block b (ET h D.size)).trans ho
   have aq:Hid (xL xD 52 #[xS #[J x.a,I Z x.e,I Z x.b,A ba E bb,A bc F bd],xS #[J x.a,I Z x.e,I Z x.b,A R E S,A T F X]] g.drew (cz g.drew)):=HF.o x _ _ g.drew ((bX d).N ak ((bX d).C al L)) ((bX d).N ak ((bX d).C al s));have H:=Hd (D.trans (G.mono D.size));have b4:(0:Int)≤k:=by omega
   have b5:(k:Int)<n:=by omega
   clear af r f a hx G D a1 P a6 Q B C L s ak al
   go_wp2
   go_still_tail 8,(by kernel_rfl)
   change wpList _ _ _ _ _ g.drew;generalize g.drew=W2 at *;clear d0 d1 d2 d3 d4 e0 e1 e2 e3 e4;go_wp2_with fail
   refine aq.o.mono ?_;rintro e W3 ⟨rfl,bR⟩;go_wp2_with fail
   exact⟨⟨_,k+1,V,by omega,by go_num,H.o.trans (bR.mono H.o.size)⟩,by simp[intOf];omega⟩
  ·obtain rfl:k=n:=by omega
   have H:=Hd D;clear D
   go_wp2
   go_ret;exact⟨V,H.o⟩
theorem uC(d:Nat):kT (wY d) 11:=by
 intro x vs af w M F;obtain⟨N,s1,rfl,K,L⟩:=mx.1 M;obtain⟨t,u,rfl,v,y⟩:=mx.1 F;have T:FK w ((w.alloc (wq #[N,s1] 32)).alloc (wq #[t,u] 32)):=((EP _ w).alloc (EO _) _).alloc (by simp) _;have k:∀b,(b<w.heap.size)→b<((w.alloc (wq #[N,s1] 32)).alloc (wq #[t,u] 32)).heap.size:=fun b h=>ET h T.size
 have z:∀b,b<w.heap.size→∀o,w.heap[b]?=Y o→((w.alloc (wq #[N,s1] 32)).alloc (wq #[t,u] 32)).heap[b]?=Y o:=fun b h o P=>(T.block b h).trans P
 have HC:=Hd (te x.a N t _ (Rd.y k (Rd.f z K)) (Rd.y k (Rd.f z v)));have Q:=Hd (fun W (X:Below _ ((w.alloc (wq #[N,s1] 32)).alloc (wq #[t,u] 32)) W)=>qX d x.b s1 u W (Rd.y (fun b h=>ET (k b h) X.size) (Rd.f (fun b h o P=>(X.block b (k b h)).trans (z b h o P)) L)) (Rd.y (fun b h=>ET (k b h) X.size) (Rd.f (fun b h o P=>(X.block b (k b h)).trans (z b h o P)) y)));have HB:=Hd T;obtain⟨n,q,G⟩:=Rd.b K;obtain⟨f,g,B⟩:=Rd.b v;obtain⟨a,C⟩:=zzy (x.a.length);rw[C]at G;subst G;rw[C]at B;subst B;obtain⟨r,s,H⟩:=Rd.b L;obtain⟨i,j,D⟩:=Rd.b y;obtain⟨c,E⟩:=zzy (x.b.length);rw[E]at H;subst H;rw[E]at D;subst D;clear T k z M F K v L y C E
 show xL xD 11 #[xS #[A n a q,A r c s],xS #[A f a g,A i c j]] w (cz w)
 go_enter Tryz.func11,Tryz.ntmps11
 go_wp2_with fail
 refine HC.o.mono ?_;rintro e W ⟨rfl,l⟩;obtain⟨R,HD⟩:=zz2 (HB.o.trans (l.mono HB.o.size)) (Q.o W l);have k0:W.cell? ⟨w.heap.size,0,U⟩=Y (A n a q):=(l.cell (p:=⟨w.heap.size,0,U⟩) (by simp<;>omega)).trans (FI _ _ 0 _ _ _ (ap w (wq #[A n a q,A r c s] 32) (wq #[A f a g,A i c j] 32)).1)
 have k1:W.cell? ⟨w.heap.size,1,U⟩=Y (A r c s):=(l.cell (p:=⟨w.heap.size,1,U⟩) (by simp<;>omega)).trans (FI _ _ 1 _ _ _ (ap w (wq #[A n a q,A r c s] 32) (wq #[A f a g,A i c j] 32)).1)
 have ak:W.cell? ⟨w.heap.size+1,0,U⟩=Y (A f a g):=(l.cell (p:=⟨w.heap.size+1,0,U⟩) (by simp<;>omega)).trans (FI _ _ 0 _ _ _ (ap w (wq #[A n a q,A r c s] 32) (wq #[A f a g,A i c j] 32)).2.1)
 have al:W.cell? ⟨w.heap.size+1,1,U⟩=Y (A i c j):=(l.cell (p:=⟨w.heap.size+1,1,U⟩) (by simp<;>omega)).trans (FI _ _ 1 _ _ _ (ap w (wq #[A n a q,A r c s] 32) (wq #[A f a g,A i c j] 32)).2.1)
 clear l HC Q;go_wp2_with fail
 refine HD.o.mono ?_;rintro e W2 ⟨rfl,S⟩;have ad:=Hd (R.o.trans (S.mono R.o.size));clear S HD;go_wp2_with fail
 go_ret;exact⟨V,ad.o⟩
