/- Parts of one proof, joined; conditions stand in each theorem. -/
import Derived.Test.YtmpekinjoeibbaaGreatDoorMD
import Derived.Test.YtmpekinjoeibbaaGreatDoorNJ
open Go renaming Value→r3,World→p7,Calls→r9
open Go.Proofs.Tryz renaming prog→r6
open Go.Value renaming agg→s3,string→p9,int→I,slice→O
open Option renaming some→A,none→V
open Go.IntKind renaming i64→Y,u8→J
open Go.Obj renaming cells→p8
namespace Go.Proofs.YtmpekinjoeibbaaGreatDoor
set_option maxHeartbeats 2000000
set_option maxRecDepth 100000
open Go.RowKit
def kz{α:Type} (r:Rd α) (f:Nat):Prop:=∀(x:α) (vs a:List r3) (w:p7),r.at_ w (fun b=>b<w.heap.size) x vs→r.at_ w (fun b=>b<w.heap.size) x a→r9 r6 f #[s3 vs.toArray,s3 a.toArray] w (cn w)
theorem sU(l:List ap)(u v:r3)(w:p7)(hu:cN.y w (fun b=>b<w.heap.size) l u)(hv:cN.y w (fun b=>b<w.heap.size) l v):r9 r6 11 #[u,v] w (cn w):=by
 obtain⟨p,c,E⟩:=Rd.b hu;obtain⟨q,c',F⟩:=Rd.b hv;have r:=Rd.ss hu;subst E;subst F;obtain⟨n,G⟩:=zzy (l.length);have T:=Hd (fun W (H:FS w W)=>Rd.u hu (fun _ h=>h) H);have U:=Hd (fun W (H:FS w W)=>Rd.u hv (fun _ h=>h) H);rw[G]at T U r ⊢;have K:=Hd G;have ad:(n:Int)≤9223372036854775807:=by unfold maxLen at r;omega
 clear hu hv G r
 go_enter Tryz.func11,Tryz.ntmps11
 go_wp2
 go_loopw [5] (nP w n) (fun i _=>n-(intOf i).toNat)
 case atStart=>exact⟨_,0,Z,Fi _,Z,EU _ _⟩
 case round =>
  obtain⟨e,k,rfl,hk,rfl,s⟩:=hrel
  by_cases L:k<n
  ·obtain⟨x,M⟩:∃x,l[k]?=A x:=⟨_,EX (by rw[K.o];exact L)⟩;have y:=Rd.T (T.o e s) M;rw[K.o]at y;obtain⟨b,off,cap,vs,N,_,_,_,_,B,d⟩:=y;injection N with P _ e3
   subst P;subst e3;have d:∀m z,vs[m]?=A z→e.cell? ⟨b,off+k*2+m,V⟩=A z:=d;have g:=Rd.T (U.o e s) M;rw[K.o]at g;obtain⟨b',f,X,Q,C,_,_,_,_,j,a⟩:=g;injection C with R _ S
   subst R;subst S;have a:∀m z,Q[m]?=A z→e.cell? ⟨b',f+k*2+m,V⟩=A z:=a;obtain⟨rfl,_,_⟩:=fW.1 B;obtain⟨rfl,_,_⟩:=fW.1 j;have d0:e.cell? ⟨b,off+k*2,V⟩=A (p9 x.a):=d 0 _ Z;have d1:e.cell? ⟨b,off+k*2+1,V⟩=A (I Y x.b):=d 1 _ Z;have e0:e.cell? ⟨b',f+k*2,V⟩=A (p9 x.a):=a 0 _ Z;have P:e.cell? ⟨b',f+k*2+1,V⟩=A (I Y x.b):=a 1 _ Z;have D:FS e e.drew:=(EU _ e).drew;have t:=Hd (s.trans (D.mono s.size));have af:(0:Int)≤k:=by omega
   have ak:(k:Int)<n:=by omega
   clear B j d a M D s
   go_wp2
   go_still_tail 8,(by kernel_rfl)
   change wpList _ _ _ _ _ e.drew;generalize e.drew=W2 at *;clear d0 d1 e0 P;go_wp2_with fail
   exact⟨⟨_,k+1,Z,by omega,by go_num,t.o⟩,by simp[intOf];omega⟩
  ·obtain rfl:k=n:=by omega
   have t:=Hd s;clear s
   go_wp2
   go_ret;exact⟨Z,t.o⟩
theorem ue(l:List dF)(u v:r3)(w:p7)(hu:gQ.y w (fun b=>b<w.heap.size) l u)(hv:gQ.y w (fun b=>b<w.heap.size) l v):r9 r6 187 #[u,v] w (cn w):=by
 obtain⟨p,c,E⟩:=Rd.b hu;obtain⟨q,c',F⟩:=Rd.b hv;have r:=Rd.ss hu;subst E;subst F;obtain⟨n,G⟩:=zzy (l.length);have U:=Hd (fun W (H:FS w W)=>Rd.u hu (fun _ h=>h) H);have X:=Hd (fun W (H:FS w W)=>Rd.u hv (fun _ h=>h) H);rw[G]at U X r ⊢;have K:=Hd G;have af:(n:Int)≤9223372036854775807:=by unfold maxLen at r;omega
 clear hu hv G r
 go_enter Tryz.func187,Tryz.ntmps187
 go_wp2
 go_loopw [5] (nP w n) (fun i _=>n-(intOf i).toNat)
 case atStart=>exact⟨_,0,Z,Fi _,Z,EU _ _⟩
 case round =>
  obtain⟨f,k,rfl,hk,rfl,s⟩:=hrel
  by_cases L:k<n
  ·obtain⟨x,M⟩:∃x,l[k]?=A x:=⟨_,EX (by rw[K.o];exact L)⟩;have y:=Rd.T (U.o f s) M;rw[K.o]at y;obtain⟨b,off,cap,vs,N,_,_,_,_,B,d⟩:=y;injection N with P _ Q
   subst P;subst Q;have d:∀m z,vs[m]?=A z→f.cell? ⟨b,off+k*5+m,V⟩=A z:=d;have g:=Rd.T (X.o f s) M;rw[K.o]at g;obtain⟨b',e,ad,R,C,_,_,_,_,j,a⟩:=g;injection C with S _ T
   subst S;subst T;have a:∀m z,R[m]?=A z→f.cell? ⟨b',e+k*5+m,V⟩=A z:=a;obtain⟨rfl,_⟩:=jx.1 B;obtain⟨rfl,_⟩:=jx.1 j;have d0:f.cell? ⟨b,off+k*5,V⟩=A (I J x.b):=d 0 _ Z;have d1:f.cell? ⟨b,off+k*5+1,V⟩=A (I Y x.q):=d 1 _ Z;have d2:f.cell? ⟨b,off+k*5+2,V⟩=A (I J x.h.b):=d 2 _ Z;have d3:f.cell? ⟨b,off+k*5+3,V⟩=A (I Y x.h.q):=d 3 _ Z;have d4:f.cell? ⟨b,off+k*5+4,V⟩=A (p9 x.h.h):=d 4 _ Z;have e0:f.cell? ⟨b',e+k*5,V⟩=A (I J x.b):=a 0 _ Z;have P:f.cell? ⟨b',e+k*5+1,V⟩=A (I Y x.q):=a 1 _ Z;have e2:f.cell? ⟨b',e+k*5+2,V⟩=A (I J x.h.b):=a 2 _ Z;have Q:f.cell? ⟨b',e+k*5+3,V⟩=A (I Y x.h.q):=a 3 _ Z;have e4:f.cell? ⟨b',e+k*5+4,V⟩=A (p9 x.h.h):=a 4 _ Z;have D:FS f f.drew:=(EU _ f).drew;have t:=Hd (s.trans (D.mono s.size));have ak:(0:Int)≤k:=by omega
   have aq:(k:Int)<n:=by omega
   clear B j d a M D s
   go_wp2
   go_still_tail 8,(by kernel_rfl)
   change wpList _ _ _ _ _ f.drew;generalize f.drew=W2 at *;clear d0 d1 d2 d3 d4 e0 P e2 Q e4;go_wp2_with fail
   exact⟨⟨_,k+1,Z,by omega,by go_num,t.o⟩,by simp[intOf];omega⟩
  ·obtain rfl:k=n:=by omega
   have t:=Hd s;clear s
   go_wp2
   go_ret;exact⟨Z,t.o⟩
theorem j5(d:Nat)(l:List aw)(hf:l=[]∨kz (cI d) 126)(u v:r3)(w:p7)(hu:(cI d).y w (fun b=>b<w.heap.size) l u)(hv:(cI d).y w (fun b=>b<w.heap.size) l v):r9 r6 188 #[u,v] w (cn w):=by
 obtain⟨p,c,aq⟩:=Rd.b hu;obtain⟨q,c',ar⟩:=Rd.b hv;have N:=Rd.ss hu;subst aq;subst ar;obtain⟨n,hn⟩:=zzy (l.length);have HU:=Hd (fun W (hW:FS w W)=>Rd.u hu (fun _ h=>h) hW);have HV:=Hd (fun W (hW:FS w W)=>Rd.u hv (fun _ h=>h) hW);have HF:=Hd hf;rw[hn]at HU HV N ⊢;have HN:=Hd hn;have bc:(n:Int)≤9223372036854775807:=by unfold maxLen at N;omega
 clear hu hv hn N hf
 go_enter Tryz.func188,Tryz.ntmps188
 go_wp2
 go_loopw [5] (nP w n) (fun i _=>n-(intOf i).toNat)
 case atStart=>exact⟨_,0,Z,Fi _,Z,EU _ _⟩
 case round =>
  obtain⟨g,k,rfl,hk,rfl,B⟩:=hrel
  by_cases av:k<n
  ·obtain⟨x,T⟩:∃x,l[k]?=A x:=⟨_,EX (by rw[HN.o];exact av)⟩;have U:=Rd.T (HU.o g B) T;rw[HN.o]at U;obtain⟨b,off,cap,vs,a1,_,_,_,_,P,f⟩:=U;injection a1 with e1 _ e3
   subst e1;subst e3;have f:∀m z,vs[m]?=A z→g.cell? ⟨b,off+k*7+m,V⟩=A z:=by simpa only [jI]using f
   have F:=Rd.T (HV.o g B) T;rw[HN.o]at F;obtain⟨b',j,bb,a6,X,_,_,_,_,r,a⟩:=F;injection X with a7 _ a8
   subst a7;subst a8;have a:∀m z,a6[m]?=A z→g.cell? ⟨b',j+k*7+m,V⟩=A z:=by simpa only [jI]using a
   have G:=P;have s:=r;obtain⟨_,s0,rfl,ad⟩:=fb.1 P;obtain⟨af,ak,H⟩:=bY ad;obtain⟨_,bd,rfl,K⟩:=fb.1 r;obtain⟨L,M,t⟩:=bY K;obtain⟨C,y⟩:=zzy (x.u.length);rw[y]at H;subst H;rw[y]at t;subst t;have d0:g.cell? ⟨b,off+k*7,V⟩=A (I J x.b):=f 0 _ Z;have d1:g.cell? ⟨b,off+k*7+1,V⟩=A (I J x.h.b):=f 1 _ Z;have d2:g.cell? ⟨b,off+k*7+2,V⟩=A (I Y x.h.q):=f 2 _ Z;have d3:g.cell? ⟨b,off+k*7+3,V⟩=A (p9 x.h.h):=f 3 _ Z;have d4:g.cell? ⟨b,off+k*7+4,V⟩=A (I Y x.q):=f 4 _ Z;have d5:g.cell? ⟨b,off+k*7+5,V⟩=A (I J x.op):=f 5 _ Z;have d6:g.cell? ⟨b,off+k*7+6,V⟩=A (O af C ak):=f 6 _ Z;have e0:g.cell? ⟨b',j+k*7,V⟩=A (I J x.b):=a 0 _ Z;have e1:g.cell? ⟨b',j+k*7+1,V⟩=A (I J x.h.b):=a 1 _ Z;have e2:g.cell? ⟨b',j+k*7+2,V⟩=A (I Y x.h.q):=a 2 _ Z;have e3:g.cell? ⟨b',j+k*7+3,V⟩=A (p9 x.h.h):=a 3 _ Z;have e4:g.cell? ⟨b',j+k*7+4,V⟩=A (I Y x.q):=a 4 _ Z;have e5:g.cell? ⟨b',j+k*7+5,V⟩=A (I J x.op):=a 5 _ Z;have e6:g.cell? ⟨b',j+k*7+6,V⟩=A (O L C M):=a 6 _ Z;have D:FS g g.drew:=(EU _ g).drew;have Q:∀b,(b<w.heap.size)→b<g.drew.heap.size:=fun b h=>EY h (EZ B.size D.size)
   have R:∀b,b<w.heap.size→∀o,g.heap[b]?=A o→g.drew.heap[b]?=A o:=fun b h o ho=>(D.block b (EY h B.size)).trans ho
   have S:Hid (r9 r6 126 #[s3 #[I J x.b,I J x.h.b,I Y x.h.q,p9 x.h.h,I Y x.q,I J x.op,O af C ak],s3 #[I J x.b,I J x.h.b,I Y x.h.q,p9 x.h.h,I Y x.q,I J x.op,O L C M]] g.drew (cn g.drew)):=(HF.o.resolve_left (fun h=>by rw[h]at T;simp at T)) x _ _ g.drew ((cI d).N Q ((cI d).t R G)) ((cI d).N Q ((cI d).t R s));have E:=Hd (B.trans (D.mono B.size));have bk:(0:Int)≤k:=by omega
   have bl:(k:Int)<n:=by omega
   clear P r f a T D B ad K y G s Q R
   go_wp2
   go_still_tail 8,(by kernel_rfl)
   change wpList _ _ _ _ _ g.drew;generalize g.drew=W2 at *;clear d0 d1 d2 d3 d4 d5 d6 e0 e1 e2 e3 e4 e5 e6;go_wp2_with fail
   refine S.o.mono ?_;rintro e W3 ⟨rfl,ba⟩;go_wp2_with fail
   exact⟨⟨_,k+1,Z,by omega,by go_num,E.o.trans (ba.mono E.o.size)⟩,by simp[intOf];omega⟩
  ·obtain rfl:k=n:=by omega
   have E:=Hd B;clear B
   go_wp2
   go_ret;exact⟨Z,E.o⟩
theorem oy(d:Nat)(H:∀(l:List aw)(u v:r3)(w:p7),ey w (fun b=>b<w.heap.size) d l u→ey w (fun b=>b<w.heap.size) d l v→r9 r6 188 #[u,v] w (cn w)):kz (cI d) 126:=by
 intro x vs K w q i;obtain⟨_,z,rfl,k⟩:=fb.1 q;obtain⟨_,g,rfl,a⟩:=fb.1 i;have B:FS w ((w.alloc (p8 #[I J x.b,I J x.h.b,I Y x.h.q,p9 x.h.h,I Y x.q,I J x.op,z] 51)).alloc (p8 #[I J x.b,I J x.h.b,I Y x.h.q,p9 x.h.h,I Y x.q,I J x.op,g] 51)):=((EU _ w).alloc (ET _) _).alloc (by simp) _;have n:∀b,(b<w.heap.size)→b<((w.alloc (p8 #[I J x.b,I J x.h.b,I Y x.h.q,p9 x.h.h,I Y x.q,I J x.op,z] 51)).alloc (p8 #[I J x.b,I J x.h.b,I Y x.h.q,p9 x.h.h,I Y x.q,I J x.op,g] 51)).heap.size:=fun b h=>EY h B.size
 have p:∀b,b<w.heap.size→∀o,w.heap[b]?=A o→((w.alloc (p8 #[I J x.b,I J x.h.b,I Y x.h.q,p9 x.h.h,I Y x.q,I J x.op,z] 51)).alloc (p8 #[I J x.b,I J x.h.b,I Y x.h.q,p9 x.h.h,I Y x.q,I J x.op,g] 51)).heap[b]?=A o:=fun b h o L=>(B.block b h).trans L
 obtain⟨F,G⟩:=zz2 (H x.u z g _ (gY n (iy p k)) (gY n (iy p a))) B;obtain⟨C,D,j⟩:=bY k;obtain⟨r,s,c⟩:=bY a;obtain⟨t,f⟩:=zzy (x.u.length);rw[f]at j;subst j;rw[f]at c;subst c;clear B n p q i k a f
 show r9 r6 126 #[s3 #[I J x.b,I J x.h.b,I Y x.h.q,p9 x.h.h,I Y x.q,I J x.op,O C t D],s3 #[I J x.b,I J x.h.b,I Y x.h.q,p9 x.h.h,I Y x.q,I J x.op,O r t s]] w (cn w)
 go_enter Tryz.func126,Tryz.ntmps126
 go_wp2_with fail
 refine F.o.mono ?_;rintro e W ⟨rfl,y⟩;have E:=Hd (G.o.trans (y.mono G.o.size));clear y F;go_wp2_with fail
 go_ret;exact⟨Z,E.o⟩
theorem ns:∀(d:Nat) (l:List aw) (u v:r3) (w:p7),ey w (fun b=>b<w.heap.size) d l u→ey w (fun b=>b<w.heap.size) d l v→r9 r6 188 #[u,v] w (cn w)
 | 0,l,u,v,w,hu,hv=>by
  obtain⟨rfl,p,c,rfl⟩:=hu;obtain⟨_,q,a,rfl⟩:=hv;exact j5 0 [] (Or.inl Z) _ _ w Rd.sv Rd.sv
 | d+1,l,u,v,w,hu,hv=>j5 d l (Or.inr (oy d (ns d))) u v w hu hv
theorem kK(d:Nat):kz (cI d) 126:=oy d (ns d)
theorem sZ(d:Nat)(l:List aw)(u v:r3)(w:p7)(hu:(cI d).y w (fun b=>b<w.heap.size) l u)(hv:(cI d).y w (fun b=>b<w.heap.size) l v):r9 r6 188 #[u,v] w (cn w):=j5 d l (Or.inr (kK d)) u v w hu hv
theorem oO(d:Nat):kz (ec d) 112:=by
 intro x vs ak w N F;obtain⟨_,_,G,P,s1,rfl,L,M⟩:=gh.1 N;obtain⟨_,_,ad,t,u,rfl,v,y⟩:=gh.1 F;have U:FS w ((w.alloc (p8 #[I J x.b,I Y x.h,P,I J x.a.b,I J x.a.h.b,I Y x.a.h.q,p9 x.a.h.h,I Y x.a.q,I J x.a.op,s1] 53)).alloc (p8 #[I J x.b,I Y x.h,t,I J x.a.b,I J x.a.h.b,I Y x.a.h.q,p9 x.a.h.h,I Y x.a.q,I J x.a.op,u] 53)):=((EU _ w).alloc (ET _) _).alloc (by simp) _;have s:∀b,(b<w.heap.size)→b<((w.alloc (p8 #[I J x.b,I Y x.h,P,I J x.a.b,I J x.a.h.b,I Y x.a.h.q,p9 x.a.h.h,I Y x.a.q,I J x.a.op,s1] 53)).alloc (p8 #[I J x.b,I Y x.h,t,I J x.a.b,I J x.a.h.b,I Y x.a.h.q,p9 x.a.h.h,I Y x.a.q,I J x.a.op,u] 53)).heap.size:=fun b h=>EY h U.size
 have z:∀b,b<w.heap.size→∀o,w.heap[b]?=A o→((w.alloc (p8 #[I J x.b,I Y x.h,P,I J x.a.b,I J x.a.h.b,I Y x.a.h.q,p9 x.a.h.h,I Y x.a.q,I J x.a.op,s1] 53)).alloc (p8 #[I J x.b,I Y x.h,t,I J x.a.b,I J x.a.h.b,I Y x.a.h.q,p9 x.a.h.h,I Y x.a.q,I J x.a.op,u] 53)).heap[b]?=A o:=fun b h o Q=>(U.block b h).trans Q
 have HC:=Hd (ue x.c P t _ (Rd.sb s (Rd.qv z L)) (Rd.sb s (Rd.qv z v)));have R:=Hd (fun W (X:Below _ ((w.alloc (p8 #[I J x.b,I Y x.h,P,I J x.a.b,I J x.a.h.b,I Y x.a.h.q,p9 x.a.h.h,I Y x.a.q,I J x.a.op,s1] 53)).alloc (p8 #[I J x.b,I Y x.h,t,I J x.a.b,I J x.a.h.b,I Y x.a.h.q,p9 x.a.h.h,I Y x.a.q,I J x.a.op,u] 53)) W)=>kK d x.a _ _ W (fb.2 ⟨G,s1,Z,gY (fun b h=>EY (s b h) X.size) (iy (fun b h o Q=>(X.block b (s b h)).trans (z b h o Q)) M)⟩) (fb.2 ⟨G,u,Z,gY (fun b h=>EY (s b h) X.size) (iy (fun b h o Q=>(X.block b (s b h)).trans (z b h o Q)) y)⟩));have HB:=Hd U;obtain⟨l,n,H⟩:=Rd.b L;obtain⟨f,g,B⟩:=Rd.b v;obtain⟨a,C⟩:=zzy (x.c.length);rw[C]at H;subst H;rw[C]at B;subst B;obtain⟨q,r,K⟩:=bY M;obtain⟨i,j,D⟩:=bY y;obtain⟨c,E⟩:=zzy (x.a.u.length);rw[E]at K;subst K;rw[E]at D;subst D;clear U s z N F L v M y C E
 show r9 r6 112 #[s3 #[I J x.b,I Y x.h,O l a n,I J x.a.b,I J x.a.h.b,I Y x.a.h.q,p9 x.a.h.h,I Y x.a.q,I J x.a.op,O q c r],s3 #[I J x.b,I Y x.h,O f a g,I J x.a.b,I J x.a.h.b,I Y x.a.h.q,p9 x.a.h.h,I Y x.a.q,I J x.a.op,O i c j]] w (cn w)
 go_enter Tryz.func112,Tryz.ntmps112
 go_wp2_with fail
 refine HC.o.mono ?_;rintro e W ⟨rfl,k⟩;obtain⟨S,HD⟩:=zz2 (HB.o.trans (k.mono HB.o.size)) (R.o W k);have k0:W.cell? ⟨w.heap.size,0,V⟩=A (I J x.b):=(k.cell (p:=⟨w.heap.size,0,V⟩) (by simp<;>omega)).trans (FR _ _ 0 _ _ _ (ay w (p8 #[I J x.b,I Y x.h,O l a n,I J x.a.b,I J x.a.h.b,I Y x.a.h.q,p9 x.a.h.h,I Y x.a.q,I J x.a.op,O q c r] 53) (p8 #[I J x.b,I Y x.h,O f a g,I J x.a.b,I J x.a.h.b,I Y x.a.h.q,p9 x.a.h.h,I Y x.a.q,I J x.a.op,O i c j] 53)).1)
 have k1:W.cell? ⟨w.heap.size,1,V⟩=A (I Y x.h):=(k.cell (p:=⟨w.heap.size,1,V⟩) (by simp<;>omega)).trans (FR _ _ 1 _ _ _ (ay w (p8 #[I J x.b,I Y x.h,O l a n,I J x.a.b,I J x.a.h.b,I Y x.a.h.q,p9 x.a.h.h,I Y x.a.q,I J x.a.op,O q c r] 53) (p8 #[I J x.b,I Y x.h,O f a g,I J x.a.b,I J x.a.h.b,I Y x.a.h.q,p9 x.a.h.h,I Y x.a.q,I J x.a.op,O i c j] 53)).1)
 have k2:W.cell? ⟨w.heap.size,2,V⟩=A (O l a n):=(k.cell (p:=⟨w.heap.size,2,V⟩) (by simp<;>omega)).trans (FR _ _ 2 _ _ _ (ay w (p8 #[I J x.b,I Y x.h,O l a n,I J x.a.b,I J x.a.h.b,I Y x.a.h.q,p9 x.a.h.h,I Y x.a.q,I J x.a.op,O q c r] 53) (p8 #[I J x.b,I Y x.h,O f a g,I J x.a.b,I J x.a.h.b,I Y x.a.h.q,p9 x.a.h.h,I Y x.a.q,I J x.a.op,O i c j] 53)).1)
 have k3:W.cell? ⟨w.heap.size,3,V⟩=A (I J x.a.b):=(k.cell (p:=⟨w.heap.size,3,V⟩) (by simp<;>omega)).trans (FR _ _ 3 _ _ _ (ay w (p8 #[I J x.b,I Y x.h,O l a n,I J x.a.b,I J x.a.h.b,I Y x.a.h.q,p9 x.a.h.h,I Y x.a.q,I J x.a.op,O q c r] 53) (p8 #[I J x.b,I Y x.h,O f a g,I J x.a.b,I J x.a.h.b,I Y x.a.h.q,p9 x.a.h.h,I Y x.a.q,I J x.a.op,O i c j] 53)).1)
 have k4:W.cell? ⟨w.heap.size,4,V⟩=A (I J x.a.h.b):=(k.cell (p:=⟨w.heap.size,4,V⟩) (by simp<;>omega)).trans (FR _ _ 4 _ _ _ (ay w (p8 #[I J x.b,I Y x.h,O l a n,I J x.a.b,I J x.a.h.b,I Y x.a.h.q,p9 x.a.h.h,I Y x.a.q,I J x.a.op,O q c r] 53) (p8 #[I J x.b,I Y x.h,O f a g,I J x.a.b,I J x.a.h.b,I Y x.a.h.q,p9 x.a.h.h,I Y x.a.q,I J x.a.op,O i c j] 53)).1)
 have k5:W.cell? ⟨w.heap.size,5,V⟩=A (I Y x.a.h.q):=(k.cell (p:=⟨w.heap.size,5,V⟩) (by simp<;>omega)).trans (FR _ _ 5 _ _ _ (ay w (p8 #[I J x.b,I Y x.h,O l a n,I J x.a.b,I J x.a.h.b,I Y x.a.h.q,p9 x.a.h.h,I Y x.a.q,I J x.a.op,O q c r] 53) (p8 #[I J x.b,I Y x.h,O f a g,I J x.a.b,I J x.a.h.b,I Y x.a.h.q,p9 x.a.h.h,I Y x.a.q,I J x.a.op,O i c j] 53)).1)
 have k6:W.cell? ⟨w.heap.size,6,V⟩=A (p9 x.a.h.h):=(k.cell (p:=⟨w.heap.size,6,V⟩) (by simp<;>omega)).trans (FR _ _ 6 _ _ _ (ay w (p8 #[I J x.b,I Y x.h,O l a n,I J x.a.b,I J x.a.h.b,I Y x.a.h.q,p9 x.a.h.h,I Y x.a.q,I J x.a.op,O q c r] 53) (p8 #[I J x.b,I Y x.h,O f a g,I J x.a.b,I J x.a.h.b,I Y x.a.h.q,p9 x.a.h.h,I Y x.a.q,I J x.a.op,O i c j] 53)).1)
 have k7:W.cell? ⟨w.heap.size,7,V⟩=A (I Y x.a.q):=(k.cell (p:=⟨w.heap.size,7,V⟩) (by simp<;>omega)).trans (FR _ _ 7 _ _ _ (ay w (p8 #[I J x.b,I Y x.h,O l a n,I J x.a.b,I J x.a.h.b,I Y x.a.h.q,p9 x.a.h.h,I Y x.a.q,I J x.a.op,O q c r] 53) (p8 #[I J x.b,I Y x.h,O f a g,I J x.a.b,I J x.a.h.b,I Y x.a.h.q,p9 x.a.h.h,I Y x.a.q,I J x.a.op,O i c j] 53)).1)
 have k8:W.cell? ⟨w.heap.size,8,V⟩=A (I J x.a.op):=(k.cell (p:=⟨w.heap.size,8,V⟩) (by simp<;>omega)).trans (FR _ _ 8 _ _ _ (ay w (p8 #[I J x.b,I Y x.h,O l a n,I J x.a.b,I J x.a.h.b,I Y x.a.h.q,p9 x.a.h.h,I Y x.a.q,I J x.a.op,O q c r] 53) (p8 #[I J x.b,I Y x.h,O f a g,I J x.a.b,I J x.a.h.b,I Y x.a.h.q,p9 x.a.h.h,I Y x.a.q,I J x.a.op,O i c j] 53)).1)
 have k9:W.cell? ⟨w.heap.size,9,V⟩=A (O q c r):=(k.cell (p:=⟨w.heap.size,9,V⟩) (by simp<;>omega)).trans (FR _ _ 9 _ _ _ (ay w (p8 #[I J x.b,I Y x.h,O l a n,I J x.a.b,I J x.a.h.b,I Y x.a.h.q,p9 x.a.h.h,I Y x.a.q,I J x.a.op,O q c r] 53) (p8 #[I J x.b,I Y x.h,O f a g,I J x.a.b,I J x.a.h.b,I Y x.a.h.q,p9 x.a.h.h,I Y x.a.q,I J x.a.op,O i c j] 53)).1)
 have aq:W.cell? ⟨w.heap.size+1,0,V⟩=A (I J x.b):=(k.cell (p:=⟨w.heap.size+1,0,V⟩) (by simp<;>omega)).trans (FR _ _ 0 _ _ _ (ay w (p8 #[I J x.b,I Y x.h,O l a n,I J x.a.b,I J x.a.h.b,I Y x.a.h.q,p9 x.a.h.h,I Y x.a.q,I J x.a.op,O q c r] 53) (p8 #[I J x.b,I Y x.h,O f a g,I J x.a.b,I J x.a.h.b,I Y x.a.h.q,p9 x.a.h.h,I Y x.a.q,I J x.a.op,O i c j] 53)).2.1)
 have ar:W.cell? ⟨w.heap.size+1,1,V⟩=A (I Y x.h):=(k.cell (p:=⟨w.heap.size+1,1,V⟩) (by simp<;>omega)).trans (FR _ _ 1 _ _ _ (ay w (p8 #[I J x.b,I Y x.h,O l a n,I J x.a.b,I J x.a.h.b,I Y x.a.h.q,p9 x.a.h.h,I Y x.a.q,I J x.a.op,O q c r] 53) (p8 #[I J x.b,I Y x.h,O f a g,I J x.a.b,I J x.a.h.b,I Y x.a.h.q,p9 x.a.h.h,I Y x.a.q,I J x.a.op,O i c j] 53)).2.1)
 have av:W.cell? ⟨w.heap.size+1,2,V⟩=A (O f a g):=(k.cell (p:=⟨w.heap.size+1,2,V⟩) (by simp<;>omega)).trans (FR _ _ 2 _ _ _ (ay w (p8 #[I J x.b,I Y x.h,O l a n,I J x.a.b,I J x.a.h.b,I Y x.a.h.q,p9 x.a.h.h,I Y x.a.q,I J x.a.op,O q c r] 53) (p8 #[I J x.b,I Y x.h,O f a g,I J x.a.b,I J x.a.h.b,I Y x.a.h.q,p9 x.a.h.h,I Y x.a.q,I J x.a.op,O i c j] 53)).2.1)
 have a1:W.cell? ⟨w.heap.size+1,3,V⟩=A (I J x.a.b):=(k.cell (p:=⟨w.heap.size+1,3,V⟩) (by simp<;>omega)).trans (FR _ _ 3 _ _ _ (ay w (p8 #[I J x.b,I Y x.h,O l a n,I J x.a.b,I J x.a.h.b,I Y x.a.h.q,p9 x.a.h.h,I Y x.a.q,I J x.a.op,O q c r] 53) (p8 #[I J x.b,I Y x.h,O f a g,I J x.a.b,I J x.a.h.b,I Y x.a.h.q,p9 x.a.h.h,I Y x.a.q,I J x.a.op,O i c j] 53)).2.1)
 have a6:W.cell? ⟨w.heap.size+1,4,V⟩=A (I J x.a.h.b):=(k.cell (p:=⟨w.heap.size+1,4,V⟩) (by simp<;>omega)).trans (FR _ _ 4 _ _ _ (ay w (p8 #[I J x.b,I Y x.h,O l a n,I J x.a.b,I J x.a.h.b,I Y x.a.h.q,p9 x.a.h.h,I Y x.a.q,I J x.a.op,O q c r] 53) (p8 #[I J x.b,I Y x.h,O f a g,I J x.a.b,I J x.a.h.b,I Y x.a.h.q,p9 x.a.h.h,I Y x.a.q,I J x.a.op,O i c j] 53)).2.1)
 have a7:W.cell? ⟨w.heap.size+1,5,V⟩=A (I Y x.a.h.q):=(k.cell (p:=⟨w.heap.size+1,5,V⟩) (by simp<;>omega)).trans (FR _ _ 5 _ _ _ (ay w (p8 #[I J x.b,I Y x.h,O l a n,I J x.a.b,I J x.a.h.b,I Y x.a.h.q,p9 x.a.h.h,I Y x.a.q,I J x.a.op,O q c r] 53) (p8 #[I J x.b,I Y x.h,O f a g,I J x.a.b,I J x.a.h.b,I Y x.a.h.q,p9 x.a.h.h,I Y x.a.q,I J x.a.op,O i c j] 53)).2.1)
 have a8:W.cell? ⟨w.heap.size+1,6,V⟩=A (p9 x.a.h.h):=(k.cell (p:=⟨w.heap.size+1,6,V⟩) (by simp<;>omega)).trans (FR _ _ 6 _ _ _ (ay w (p8 #[I J x.b,I Y x.h,O l a n,I J x.a.b,I J x.a.h.b,I Y x.a.h.q,p9 x.a.h.h,I Y x.a.q,I J x.a.op,O q c r] 53) (p8 #[I J x.b,I Y x.h,O f a g,I J x.a.b,I J x.a.h.b,I Y x.a.h.q,p9 x.a.h.h,I Y x.a.q,I J x.a.op,O i c j] 53)).2.1)
 have ba:W.cell? ⟨w.heap.size+1,7,V⟩=A (I Y x.a.q):=(k.cell (p:=⟨w.heap.size+1,7,V⟩) (by simp<;>omega)).trans (FR _ _ 7 _ _ _ (ay w (p8 #[I J x.b,I Y x.h,O l a n,I J x.a.b,I J x.a.h.b,I Y x.a.h.q,p9 x.a.h.h,I Y x.a.q,I J x.a.op,O q c r] 53) (p8 #[I J x.b,I Y x.h,O f a g,I J x.a.b,I J x.a.h.b,I Y x.a.h.q,p9 x.a.h.h,I Y x.a.q,I J x.a.op,O i c j] 53)).2.1)
 have bb:W.cell? ⟨w.heap.size+1,8,V⟩=A (I J x.a.op):=(k.cell (p:=⟨w.heap.size+1,8,V⟩) (by simp<;>omega)).trans (FR _ _ 8 _ _ _ (ay w (p8 #[I J x.b,I Y x.h,O l a n,I J x.a.b,I J x.a.h.b,I Y x.a.h.q,p9 x.a.h.h,I Y x.a.q,I J x.a.op,O q c r] 53) (p8 #[I J x.b,I Y x.h,O f a g,I J x.a.b,I J x.a.h.b,I Y x.a.h.q,p9 x.a.h.h,I Y x.a.q,I J x.a.op,O i c j] 53)).2.1)
 have bc:W.cell? ⟨w.heap.size+1,9,V⟩=A (O i c j):=(k.cell (p:=⟨w.heap.size+1,9,V⟩) (by simp<;>omega)).trans (FR _ _ 9 _ _ _ (ay w (p8 #[I J x.b,I Y x.h,O l a n,I J x.a.b,I J x.a.h.b,I Y x.a.h.q,p9 x.a.h.h,I Y x.a.q,I J x.a.op,O q c r] 53) (p8 #[I J x.b,I Y x.h,O f a g,I J x.a.b,I J x.a.h.b,I Y x.a.h.q,p9 x.a.h.h,I Y x.a.q,I J x.a.op,O i c j] 53)).2.1)
 clear k HC R;go_wp2_with fail
 refine HD.o.mono ?_;rintro e W2 ⟨rfl,T⟩;have af:=Hd (S.o.trans (T.mono S.o.size));clear T HD;go_wp2_with fail
 go_ret;exact⟨Z,af.o⟩
theorem qC(d:Nat):kz (fG d) 113:=by
 intro x vs E w p i;obtain⟨_,_,_,u,rfl,k⟩:=jn.1 p;obtain⟨_,_,_,g,rfl,a⟩:=jn.1 i;have v:FS w ((w.alloc (p8 #[I J x.b,I Y x.h,I Y x.a,u] 59)).alloc (p8 #[I J x.b,I Y x.h,I Y x.a,g] 59)):=((EU _ w).alloc (ET _) _).alloc (by simp) _;have l:∀b,(b<w.heap.size)→b<((w.alloc (p8 #[I J x.b,I Y x.h,I Y x.a,u] 59)).alloc (p8 #[I J x.b,I Y x.h,I Y x.a,g] 59)).heap.size:=fun b h=>EY h v.size
 have n:∀b,b<w.heap.size→∀o,w.heap[b]?=A o→((w.alloc (p8 #[I J x.b,I Y x.h,I Y x.a,u] 59)).alloc (p8 #[I J x.b,I Y x.h,I Y x.a,g] 59)).heap[b]?=A o:=fun b h o F=>(v.block b h).trans F
 obtain⟨C,D⟩:=zz2 (sZ d x.y u g _ (Rd.sb l (Rd.qv n k)) (Rd.sb l (Rd.qv n a))) v;obtain⟨y,z,j⟩:=Rd.b k;obtain⟨q,r,c⟩:=Rd.b a;obtain⟨s,f⟩:=zzy (x.y.length);rw[f]at j;subst j;rw[f]at c;subst c;clear v l n p i k a f
 show r9 r6 113 #[s3 #[I J x.b,I Y x.h,I Y x.a,O y s z],s3 #[I J x.b,I Y x.h,I Y x.a,O q s r]] w (cn w)
 go_enter Tryz.func113,Tryz.ntmps113
 go_wp2_with fail
 refine C.o.mono ?_;rintro e W ⟨rfl,t⟩;have B:=Hd (D.o.trans (t.mono D.o.size));clear t C;go_wp2_with fail
 go_ret;exact⟨Z,B.o⟩
theorem sX(d:Nat)(l:List aK)(u v:r3)(w:p7)(hu:(ec d).y w (fun b=>b<w.heap.size) l u)(hv:(ec d).y w (fun b=>b<w.heap.size) l v):r9 r6 53 #[u,v] w (cn w):=by
 obtain⟨p,c,bc⟩:=Rd.b hu;obtain⟨q,c',bd⟩:=Rd.b hv;have X:=Rd.ss hu;subst bc;subst bd;obtain⟨n,hn⟩:=zzy (l.length);have HU:=Hd (fun W (hW:FS w W)=>Rd.u hu (fun _ h=>h) hW);have HV:=Hd (fun W (hW:FS w W)=>Rd.u hv (fun _ h=>h) hW);have HF:=Hd (oO d);rw[hn]at HU HV X ⊢;have HN:=Hd hn;have bR:(n:Int)≤9223372036854775807:=by unfold maxLen at X;omega
 clear hu hv hn X
 go_enter Tryz.func53,Tryz.ntmps53
 go_wp2
 go_loopw [5] (nP w n) (fun i _=>n-(intOf i).toNat)
 case atStart=>exact⟨_,0,Z,Fi _,Z,EU _ _⟩
 case round =>
  obtain⟨g,k,rfl,hk,rfl,D⟩:=hrel
  by_cases bk:k<n
  ·obtain⟨x,hx⟩:∃x,l[k]?=A x:=⟨_,EX (by rw[HN.o];exact bk)⟩;have ar:=Rd.T (HU.o g D) hx;rw[HN.o]at ar;obtain⟨b,off,cap,vs,bl,_,_,_,_,ad,f⟩:=ar;injection bl with e1 _ e3
   subst e1;subst e3;have f:∀m z,vs[m]?=A z→g.cell? ⟨b,off+k*10+m,V⟩=A z:=by simpa only [gr]using f
   have K:=Rd.T (HV.o g D) hx;rw[HN.o]at K;obtain⟨b',j,bB,bn,av,_,_,_,_,r,a⟩:=K;injection av with bq _ br
   subst bq;subst br;have a:∀m z,bn[m]?=A z→g.cell? ⟨b',j+k*10+m,V⟩=A z:=by simpa only [gr]using a
   have L:=ad;have s:=r;obtain⟨_,_,_,s0,s1,rfl,a1,a6⟩:=gh.1 ad;obtain⟨a7,a8,M⟩:=Rd.b a1;obtain⟨ba,bb,N⟩:=bY a6;obtain⟨_,_,_,b1,b2,rfl,P,Q⟩:=gh.1 r;obtain⟨R,S,t⟩:=Rd.b P;obtain⟨T,U,y⟩:=bY Q;obtain⟨E,B⟩:=zzy (x.c.length);rw[B]at M;subst M;rw[B]at t;subst t;obtain⟨F,C⟩:=zzy (x.a.u.length);rw[C]at N;subst N;rw[C]at y;subst y;have d0:g.cell? ⟨b,off+k*10,V⟩=A (I J x.b):=f 0 _ Z;have d1:g.cell? ⟨b,off+k*10+1,V⟩=A (I Y x.h):=f 1 _ Z;have d2:g.cell? ⟨b,off+k*10+2,V⟩=A (O a7 E a8):=f 2 _ Z;have d3:g.cell? ⟨b,off+k*10+3,V⟩=A (I J x.a.b):=f 3 _ Z;have d4:g.cell? ⟨b,off+k*10+4,V⟩=A (I J x.a.h.b):=f 4 _ Z;have d5:g.cell? ⟨b,off+k*10+5,V⟩=A (I Y x.a.h.q):=f 5 _ Z;have d6:g.cell? ⟨b,off+k*10+6,V⟩=A (p9 x.a.h.h):=f 6 _ Z;have d7:g.cell? ⟨b,off+k*10+7,V⟩=A (I Y x.a.q):=f 7 _ Z;have d8:g.cell? ⟨b,off+k*10+8,V⟩=A (I J x.a.op):=f 8 _ Z;have d9:g.cell? ⟨b,off+k*10+9,V⟩=A (O ba F bb):=f 9 _ Z;have e0:g.cell? ⟨b',j+k*10,V⟩=A (I J x.b):=a 0 _ Z;have e1:g.cell? ⟨b',j+k*10+1,V⟩=A (I Y x.h):=a 1 _ Z;have e2:g.cell? ⟨b',j+k*10+2,V⟩=A (O R E S):=a 2 _ Z;have e3:g.cell? ⟨b',j+k*10+3,V⟩=A (I J x.a.b):=a 3 _ Z;have e4:g.cell? ⟨b',j+k*10+4,V⟩=A (I J x.a.h.b):=a 4 _ Z;have e5:g.cell? ⟨b',j+k*10+5,V⟩=A (I Y x.a.h.q):=a 5 _ Z;have e6:g.cell? ⟨b',j+k*10+6,V⟩=A (p9 x.a.h.h):=a 6 _ Z;have e7:g.cell? ⟨b',j+k*10+7,V⟩=A (I Y x.a.q):=a 7 _ Z;have e8:g.cell? ⟨b',j+k*10+8,V⟩=A (I J x.a.op):=a 8 _ Z;have e9:g.cell? ⟨b',j+k*10+9,V⟩=A (O T F U):=a 9 _ Z;have G:FS g g.drew:=(EU _ g).drew;have af:∀b,(b<w.heap.size)→b<g.drew.heap.size:=fun b h=>EY h (EZ D.size G.size)
   have ak:∀b,b<w.heap.size→∀o,g.heap[b]?=A o→g.drew.heap[b]?=A o:=fun b h o ho=>(G.block b (EY h D.size)).trans ho
   have aq:Hid (r9 r6 112 #[s3 #[I J x.b,I Y x.h,O a7 E a8,I J x.a.b,I J x.a.h.b,I Y x.a.h.q,p9 x.a.h.h,I Y x.a.q,I J x.a.op,O ba F bb],s3 #[I J x.b,I Y x.h,O R E S,I J x.a.b,I J x.a.h.b,I Y x.a.h.q,p9 x.a.h.h,I Y x.a.q,I J x.a.op,O T F U]] g.drew (cn g.drew)):=HF.o x _ _ g.drew ((ec d).N af ((ec d).t ak L)) ((ec d).N af ((ec d).t ak s));have H:=Hd (D.trans (G.mono D.size));have b3:(0:Int)≤k:=by omega
   have b4:(k:Int)<n:=by omega
   clear ad r f a hx G D a1 P a6 Q B C L s af ak
   go_wp2
   go_still_tail 8,(by kernel_rfl)
   change wpList _ _ _ _ _ g.drew;generalize g.drew=W2 at *;clear d0 d1 d2 d3 d4 d5 d6 d7 d8 d9 e0 e1 e2 e3 e4 e5 e6 e7 e8 e9;go_wp2_with fail
   refine aq.o.mono ?_;rintro e W3 ⟨rfl,bt⟩;go_wp2_with fail
   exact⟨⟨_,k+1,Z,by omega,by go_num,H.o.trans (bt.mono H.o.size)⟩,by simp[intOf];omega⟩
  ·obtain rfl:k=n:=by omega
   have H:=Hd D;clear D
   go_wp2
   go_ret;exact⟨Z,H.o⟩
theorem uW(d:Nat)(l:List bm)(u v:r3)(w:p7)(hu:(fG d).y w (fun b=>b<w.heap.size) l u)(hv:(fG d).y w (fun b=>b<w.heap.size) l v):r9 r6 54 #[u,v] w (cn w):=by
 obtain⟨p,c,ak⟩:=Rd.b hu;obtain⟨q,c',aq⟩:=Rd.b hv;have N:=Rd.ss hu;subst ak;subst aq;obtain⟨n,hn⟩:=zzy (l.length);have HU:=Hd (fun W (hW:FS w W)=>Rd.u hu (fun _ h=>h) hW);have HV:=Hd (fun W (hW:FS w W)=>Rd.u hv (fun _ h=>h) hW);have HF:=Hd (qC d);rw[hn]at HU HV N ⊢;have HN:=Hd hn;have bb:(n:Int)≤9223372036854775807:=by unfold maxLen at N;omega
 clear hu hv hn N
 go_enter Tryz.func54,Tryz.ntmps54
 go_wp2
 go_loopw [5] (nP w n) (fun i _=>n-(intOf i).toNat)
 case atStart=>exact⟨_,0,Z,Fi _,Z,EU _ _⟩
 case round =>
  obtain⟨g,k,rfl,hk,rfl,B⟩:=hrel
  by_cases ar:k<n
  ·obtain⟨x,hx⟩:∃x,l[k]?=A x:=⟨_,EX (by rw[HN.o];exact ar)⟩;have T:=Rd.T (HU.o g B) hx;rw[HN.o]at T;obtain⟨b,off,cap,vs,av,_,_,_,_,P,f⟩:=T;injection av with e1 _ e3
   subst e1;subst e3;have f:∀m z,vs[m]?=A z→g.cell? ⟨b,off+k*4+m,V⟩=A z:=f;have F:=Rd.T (HV.o g B) hx;rw[HN.o]at F;obtain⟨b',j,ba,a1,U,_,_,_,_,r,a⟩:=F;injection U with a6 _ a7
   subst a6;subst a7;have a:∀m z,a1[m]?=A z→g.cell? ⟨b',j+k*4+m,V⟩=A z:=a;have G:=P;have s:=r;obtain⟨_,_,_,s0,rfl,X⟩:=jn.1 P;obtain⟨ad,af,H⟩:=Rd.b X;obtain⟨_,_,_,bc,rfl,K⟩:=jn.1 r;obtain⟨L,M,t⟩:=Rd.b K;obtain⟨C,y⟩:=zzy (x.y.length);rw[y]at H;subst H;rw[y]at t;subst t;have d0:g.cell? ⟨b,off+k*4,V⟩=A (I J x.b):=f 0 _ Z;have d1:g.cell? ⟨b,off+k*4+1,V⟩=A (I Y x.h):=f 1 _ Z;have d2:g.cell? ⟨b,off+k*4+2,V⟩=A (I Y x.a):=f 2 _ Z;have d3:g.cell? ⟨b,off+k*4+3,V⟩=A (O ad C af):=f 3 _ Z;have e0:g.cell? ⟨b',j+k*4,V⟩=A (I J x.b):=a 0 _ Z;have e1:g.cell? ⟨b',j+k*4+1,V⟩=A (I Y x.h):=a 1 _ Z;have e2:g.cell? ⟨b',j+k*4+2,V⟩=A (I Y x.a):=a 2 _ Z;have e3:g.cell? ⟨b',j+k*4+3,V⟩=A (O L C M):=a 3 _ Z;have D:FS g g.drew:=(EU _ g).drew;have Q:∀b,(b<w.heap.size)→b<g.drew.heap.size:=fun b h=>EY h (EZ B.size D.size)
   have R:∀b,b<w.heap.size→∀o,g.heap[b]?=A o→g.drew.heap[b]?=A o:=fun b h o ho=>(D.block b (EY h B.size)).trans ho
   have S:Hid (r9 r6 113 #[s3 #[I J x.b,I Y x.h,I Y x.a,O ad C af],s3 #[I J x.b,I Y x.h,I Y x.a,O L C M]] g.drew (cn g.drew)):=HF.o x _ _ g.drew ((fG d).N Q ((fG d).t R G)) ((fG d).N Q ((fG d).t R s));have E:=Hd (B.trans (D.mono B.size));have bd:(0:Int)≤k:=by omega
   have bk:(k:Int)<n:=by omega
   clear P r f a hx D B X K y G s Q R
   go_wp2
   go_still_tail 8,(by kernel_rfl)
   change wpList _ _ _ _ _ g.drew;generalize g.drew=W2 at *;clear d0 d1 d2 d3 e0 e1 e2 e3;go_wp2_with fail
   refine S.o.mono ?_;rintro e W3 ⟨rfl,a8⟩;go_wp2_with fail
   exact⟨⟨_,k+1,Z,by omega,by go_num,E.o.trans (a8.mono E.o.size)⟩,by simp[intOf];omega⟩
  ·obtain rfl:k=n:=by omega
   have E:=Hd B;clear B
   go_wp2
   go_ret;exact⟨Z,E.o⟩
theorem oq(d:Nat):kz (dP d) 26:=by
 intro x vs ad w M F;obtain⟨_,_,_,N,s1,rfl,K,L⟩:=gA.1 M;obtain⟨_,_,_,t,u,rfl,v,y⟩:=gA.1 F;have T:FS w ((w.alloc (p8 #[p9 x.a,I Y x.c,I Y x.b,N,s1] 39)).alloc (p8 #[p9 x.a,I Y x.c,I Y x.b,t,u] 39)):=((EU _ w).alloc (ET _) _).alloc (by simp) _;have s:∀b,(b<w.heap.size)→b<((w.alloc (p8 #[p9 x.a,I Y x.c,I Y x.b,N,s1] 39)).alloc (p8 #[p9 x.a,I Y x.c,I Y x.b,t,u] 39)).heap.size:=fun b h=>EY h T.size
 have z:∀b,b<w.heap.size→∀o,w.heap[b]?=A o→((w.alloc (p8 #[p9 x.a,I Y x.c,I Y x.b,N,s1] 39)).alloc (p8 #[p9 x.a,I Y x.c,I Y x.b,t,u] 39)).heap[b]?=A o:=fun b h o P=>(T.block b h).trans P
 have HC:=Hd (sX d x.d N t _ (Rd.sb s (Rd.qv z K)) (Rd.sb s (Rd.qv z v)));have Q:=Hd (fun W (U:Below _ ((w.alloc (p8 #[p9 x.a,I Y x.c,I Y x.b,N,s1] 39)).alloc (p8 #[p9 x.a,I Y x.c,I Y x.b,t,u] 39)) W)=>uW d x.e s1 u W (Rd.sb (fun b h=>EY (s b h) U.size) (Rd.qv (fun b h o P=>(U.block b (s b h)).trans (z b h o P)) L)) (Rd.sb (fun b h=>EY (s b h) U.size) (Rd.qv (fun b h o P=>(U.block b (s b h)).trans (z b h o P)) y)));have HB:=Hd T;obtain⟨l,n,G⟩:=Rd.b K;obtain⟨f,g,B⟩:=Rd.b v;obtain⟨a,C⟩:=zzy (x.d.length);rw[C]at G;subst G;rw[C]at B;subst B;obtain⟨q,r,H⟩:=Rd.b L;obtain⟨i,j,D⟩:=Rd.b y;obtain⟨c,E⟩:=zzy (x.e.length);rw[E]at H;subst H;rw[E]at D;subst D;clear T s z M F K v L y C E
 show r9 r6 26 #[s3 #[p9 x.a,I Y x.c,I Y x.b,O l a n,O q c r],s3 #[p9 x.a,I Y x.c,I Y x.b,O f a g,O i c j]] w (cn w)
 go_enter Tryz.func26,Tryz.ntmps26
 go_wp2_with fail
 refine HC.o.mono ?_;rintro e W ⟨rfl,k⟩;obtain⟨R,HD⟩:=zz2 (HB.o.trans (k.mono HB.o.size)) (Q.o W k);have k0:W.cell? ⟨w.heap.size,0,V⟩=A (p9 x.a):=(k.cell (p:=⟨w.heap.size,0,V⟩) (by simp<;>omega)).trans (FR _ _ 0 _ _ _ (ay w (p8 #[p9 x.a,I Y x.c,I Y x.b,O l a n,O q c r] 39) (p8 #[p9 x.a,I Y x.c,I Y x.b,O f a g,O i c j] 39)).1)
 have k1:W.cell? ⟨w.heap.size,1,V⟩=A (I Y x.c):=(k.cell (p:=⟨w.heap.size,1,V⟩) (by simp<;>omega)).trans (FR _ _ 1 _ _ _ (ay w (p8 #[p9 x.a,I Y x.c,I Y x.b,O l a n,O q c r] 39) (p8 #[p9 x.a,I Y x.c,I Y x.b,O f a g,O i c j] 39)).1)
 have k2:W.cell? ⟨w.heap.size,2,V⟩=A (I Y x.b):=(k.cell (p:=⟨w.heap.size,2,V⟩) (by simp<;>omega)).trans (FR _ _ 2 _ _ _ (ay w (p8 #[p9 x.a,I Y x.c,I Y x.b,O l a n,O q c r] 39) (p8 #[p9 x.a,I Y x.c,I Y x.b,O f a g,O i c j] 39)).1)
 have k3:W.cell? ⟨w.heap.size,3,V⟩=A (O l a n):=(k.cell (p:=⟨w.heap.size,3,V⟩) (by simp<;>omega)).trans (FR _ _ 3 _ _ _ (ay w (p8 #[p9 x.a,I Y x.c,I Y x.b,O l a n,O q c r] 39) (p8 #[p9 x.a,I Y x.c,I Y x.b,O f a g,O i c j] 39)).1)
 have k4:W.cell? ⟨w.heap.size,4,V⟩=A (O q c r):=(k.cell (p:=⟨w.heap.size,4,V⟩) (by simp<;>omega)).trans (FR _ _ 4 _ _ _ (ay w (p8 #[p9 x.a,I Y x.c,I Y x.b,O l a n,O q c r] 39) (p8 #[p9 x.a,I Y x.c,I Y x.b,O f a g,O i c j] 39)).1)
 have af:W.cell? ⟨w.heap.size+1,0,V⟩=A (p9 x.a):=(k.cell (p:=⟨w.heap.size+1,0,V⟩) (by simp<;>omega)).trans (FR _ _ 0 _ _ _ (ay w (p8 #[p9 x.a,I Y x.c,I Y x.b,O l a n,O q c r] 39) (p8 #[p9 x.a,I Y x.c,I Y x.b,O f a g,O i c j] 39)).2.1)
 have ak:W.cell? ⟨w.heap.size+1,1,V⟩=A (I Y x.c):=(k.cell (p:=⟨w.heap.size+1,1,V⟩) (by simp<;>omega)).trans (FR _ _ 1 _ _ _ (ay w (p8 #[p9 x.a,I Y x.c,I Y x.b,O l a n,O q c r] 39) (p8 #[p9 x.a,I Y x.c,I Y x.b,O f a g,O i c j] 39)).2.1)
 have aq:W.cell? ⟨w.heap.size+1,2,V⟩=A (I Y x.b):=(k.cell (p:=⟨w.heap.size+1,2,V⟩) (by simp<;>omega)).trans (FR _ _ 2 _ _ _ (ay w (p8 #[p9 x.a,I Y x.c,I Y x.b,O l a n,O q c r] 39) (p8 #[p9 x.a,I Y x.c,I Y x.b,O f a g,O i c j] 39)).2.1)
 have ar:W.cell? ⟨w.heap.size+1,3,V⟩=A (O f a g):=(k.cell (p:=⟨w.heap.size+1,3,V⟩) (by simp<;>omega)).trans (FR _ _ 3 _ _ _ (ay w (p8 #[p9 x.a,I Y x.c,I Y x.b,O l a n,O q c r] 39) (p8 #[p9 x.a,I Y x.c,I Y x.b,O f a g,O i c j] 39)).2.1)
 have av:W.cell? ⟨w.heap.size+1,4,V⟩=A (O i c j):=(k.cell (p:=⟨w.heap.size+1,4,V⟩) (by simp<;>omega)).trans (FR _ _ 4 _ _ _ (ay w (p8 #[p9 x.a,I Y x.c,I Y x.b,O l a n,O q c r] 39) (p8 #[p9 x.a,I Y x.c,I Y x.b,O f a g,O i c j] 39)).2.1)
 clear k HC Q;go_wp2_with fail
 refine HD.o.mono ?_;rintro e W2 ⟨rfl,S⟩;have X:=Hd (R.o.trans (S.mono R.o.size));clear S HD;go_wp2_with fail
 go_ret;exact⟨Z,X.o⟩
theorem qH(d:Nat)(l:List au)(u v:r3)(w:p7)(hu:(dP d).y w (fun b=>b<w.heap.size) l u)(hv:(dP d).y w (fun b=>b<w.heap.size) l v):r9 r6 12 #[u,v] w (cn w):=by
 obtain⟨p,c,bc⟩:=Rd.b hu;obtain⟨q,c',bd⟩:=Rd.b hv;have X:=Rd.ss hu;subst bc;subst bd;obtain⟨n,hn⟩:=zzy (l.length);have HU:=Hd (fun W (hW:FS w W)=>Rd.u hu (fun _ h=>h) hW);have HV:=Hd (fun W (hW:FS w W)=>Rd.u hv (fun _ h=>h) hW);have HF:=Hd (oq d);rw[hn]at HU HV X ⊢;have HN:=Hd hn;have bR:(n:Int)≤9223372036854775807:=by unfold maxLen at X;omega
 clear hu hv hn X
 go_enter Tryz.func12,Tryz.ntmps12
 go_wp2
 go_loopw [5] (nP w n) (fun i _=>n-(intOf i).toNat)
 case atStart=>exact⟨_,0,Z,Fi _,Z,EU _ _⟩
 case round =>
  obtain⟨g,k,rfl,hk,rfl,D⟩:=hrel
  by_cases bk:k<n
  ·obtain⟨x,hx⟩:∃x,l[k]?=A x:=⟨_,EX (by rw[HN.o];exact bk)⟩;have ar:=Rd.T (HU.o g D) hx;rw[HN.o]at ar;obtain⟨b,off,cap,vs,bl,_,_,_,_,ad,f⟩:=ar;injection bl with e1 _ e3
   subst e1;subst e3;have f:∀m z,vs[m]?=A z→g.cell? ⟨b,off+k*5+m,V⟩=A z:=f;have K:=Rd.T (HV.o g D) hx;rw[HN.o]at K;obtain⟨b',j,bB,bn,av,_,_,_,_,r,a⟩:=K;injection av with bq _ br
   subst bq;subst br;have a:∀m z,bn[m]?=A z→g.cell? ⟨b',j+k*5+m,V⟩=A z:=a;have L:=ad;have s:=r;obtain⟨_,_,_,s0,s1,rfl,a1,a6⟩:=gA.1 ad;obtain⟨a7,a8,M⟩:=Rd.b a1;obtain⟨ba,bb,N⟩:=Rd.b a6;obtain⟨_,_,_,b1,b2,rfl,P,Q⟩:=gA.1 r;obtain⟨R,S,t⟩:=Rd.b P;obtain⟨T,U,y⟩:=Rd.b Q;obtain⟨E,B⟩:=zzy (x.d.length);rw[B]at M;subst M;rw[B]at t;subst t;obtain⟨F,C⟩:=zzy (x.e.length);rw[C]at N;subst N;rw[C]at y;subst y;have d0:g.cell? ⟨b,off+k*5,V⟩=A (p9 x.a):=f 0 _ Z;have d1:g.cell? ⟨b,off+k*5+1,V⟩=A (I Y x.c):=f 1 _ Z;have d2:g.cell? ⟨b,off+k*5+2,V⟩=A (I Y x.b):=f 2 _ Z;have d3:g.cell? ⟨b,off+k*5+3,V⟩=A (O a7 E a8):=f 3 _ Z;have d4:g.cell? ⟨b,off+k*5+4,V⟩=A (O ba F bb):=f 4 _ Z;have e0:g.cell? ⟨b',j+k*5,V⟩=A (p9 x.a):=a 0 _ Z;have e1:g.cell? ⟨b',j+k*5+1,V⟩=A (I Y x.c):=a 1 _ Z;have e2:g.cell? ⟨b',j+k*5+2,V⟩=A (I Y x.b):=a 2 _ Z;have e3:g.cell? ⟨b',j+k*5+3,V⟩=A (O R E S):=a 3 _ Z;have e4:g.cell? ⟨b',j+k*5+4,V⟩=A (O T F U):=a 4 _ Z;have G:FS g g.drew:=(EU _ g).drew;have af:∀b,(b<w.heap.size)→b<g.drew.heap.size:=fun b h=>EY h (EZ D.size G.size)
   have ak:∀b,b<w.heap.size→∀o,g.heap[b]?=A o→g.drew.heap[b]?=A o:=fun b h o ho=>(G.block b (EY h D.size)).trans ho
   have aq:Hid (r9 r6 26 #[s3 #[p9 x.a,I Y x.c,I Y x.b,O a7 E a8,O ba F bb],s3 #[p9 x.a,I Y x.c,I Y x.b,O R E S,O T F U]] g.drew (cn g.drew)):=HF.o x _ _ g.drew ((dP d).N af ((dP d).t ak L)) ((dP d).N af ((dP d).t ak s));have H:=Hd (D.trans (G.mono D.size));have b3:(0:Int)≤k:=by omega
   have b4:(k:Int)<n:=by omega
   clear ad r f a hx G D a1 P a6 Q B C L s af ak
   go_wp2
   go_still_tail 8,(by kernel_rfl)
   change wpList _ _ _ _ _ g.drew;generalize g.drew=W2 at *;clear d0 d1 d2 d3 d4 e0 e1 e2 e3 e4;go_wp2_with fail
   refine aq.o.mono ?_;rintro e W3 ⟨rfl,bt⟩;go_wp2_with fail
   exact⟨⟨_,k+1,Z,by omega,by go_num,H.o.trans (bt.mono H.o.size)⟩,by simp[intOf];omega⟩
  ·obtain rfl:k=n:=by omega
   have H:=Hd D;clear D
   go_wp2
   go_ret;exact⟨Z,H.o⟩
theorem mZ(d:Nat):kz (ko d) 6:=by
 intro x vs ad w M F;obtain⟨N,s1,rfl,K,L⟩:=md.1 M;obtain⟨t,u,rfl,v,y⟩:=md.1 F;have T:FS w ((w.alloc (p8 #[N,s1] 26)).alloc (p8 #[t,u] 26)):=((EU _ w).alloc (ET _) _).alloc (by simp) _;have k:∀b,(b<w.heap.size)→b<((w.alloc (p8 #[N,s1] 26)).alloc (p8 #[t,u] 26)).heap.size:=fun b h=>EY h T.size
 have z:∀b,b<w.heap.size→∀o,w.heap[b]?=A o→((w.alloc (p8 #[N,s1] 26)).alloc (p8 #[t,u] 26)).heap[b]?=A o:=fun b h o P=>(T.block b h).trans P
 have HC:=Hd (sU x.a N t _ (Rd.sb k (Rd.qv z K)) (Rd.sb k (Rd.qv z v)));have Q:=Hd (fun W (U:Below _ ((w.alloc (p8 #[N,s1] 26)).alloc (p8 #[t,u] 26)) W)=>qH d x.b s1 u W (Rd.sb (fun b h=>EY (k b h) U.size) (Rd.qv (fun b h o P=>(U.block b (k b h)).trans (z b h o P)) L)) (Rd.sb (fun b h=>EY (k b h) U.size) (Rd.qv (fun b h o P=>(U.block b (k b h)).trans (z b h o P)) y)));have HB:=Hd T;obtain⟨n,q,G⟩:=Rd.b K;obtain⟨f,g,B⟩:=Rd.b v;obtain⟨a,C⟩:=zzy (x.a.length);rw[C]at G;subst G;rw[C]at B;subst B;obtain⟨r,s,H⟩:=Rd.b L;obtain⟨i,j,D⟩:=Rd.b y;obtain⟨c,E⟩:=zzy (x.b.length);rw[E]at H;subst H;rw[E]at D;subst D;clear T k z M F K v L y C E
 show r9 r6 6 #[s3 #[O n a q,O r c s],s3 #[O f a g,O i c j]] w (cn w)
 go_enter Tryz.func6,Tryz.ntmps6
 go_wp2_with fail
 refine HC.o.mono ?_;rintro e W ⟨rfl,l⟩;obtain⟨R,HD⟩:=zz2 (HB.o.trans (l.mono HB.o.size)) (Q.o W l);have k0:W.cell? ⟨w.heap.size,0,V⟩=A (O n a q):=(l.cell (p:=⟨w.heap.size,0,V⟩) (by simp<;>omega)).trans (FR _ _ 0 _ _ _ (ay w (p8 #[O n a q,O r c s] 26) (p8 #[O f a g,O i c j] 26)).1)
 have k1:W.cell? ⟨w.heap.size,1,V⟩=A (O r c s):=(l.cell (p:=⟨w.heap.size,1,V⟩) (by simp<;>omega)).trans (FR _ _ 1 _ _ _ (ay w (p8 #[O n a q,O r c s] 26) (p8 #[O f a g,O i c j] 26)).1)
 have af:W.cell? ⟨w.heap.size+1,0,V⟩=A (O f a g):=(l.cell (p:=⟨w.heap.size+1,0,V⟩) (by simp<;>omega)).trans (FR _ _ 0 _ _ _ (ay w (p8 #[O n a q,O r c s] 26) (p8 #[O f a g,O i c j] 26)).2.1)
 have ak:W.cell? ⟨w.heap.size+1,1,V⟩=A (O i c j):=(l.cell (p:=⟨w.heap.size+1,1,V⟩) (by simp<;>omega)).trans (FR _ _ 1 _ _ _ (ay w (p8 #[O n a q,O r c s] 26) (p8 #[O f a g,O i c j] 26)).2.1)
 clear l HC Q;go_wp2_with fail
 refine HD.o.mono ?_;rintro e W2 ⟨rfl,S⟩;have X:=Hd (R.o.trans (S.mono R.o.size));clear S HD;go_wp2_with fail
 go_ret;exact⟨Z,X.o⟩
