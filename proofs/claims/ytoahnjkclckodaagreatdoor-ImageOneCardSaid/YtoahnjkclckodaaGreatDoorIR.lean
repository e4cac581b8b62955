/- Parts of one proof, joined; conditions stand in each theorem. -/
import Derived.Test.YtoahnjkclckodaaGreatDoorMD
import Derived.Test.YtoahnjkclckodaaGreatDoorNJ
import Derived.Test.YtoahnjkclckodaaGreatDoorIL
import Derived.Test.YtoahnjkclckodaaGreatDoorIN
open Go renaming Value→tT,World→J,Calls→wg
open Go.Proofs.Tryz renaming prog→vo
open Go.Value renaming agg→xk,int→I,string→tS,slice→O
open Option renaming some→A,none→Y
open Go.IntKind renaming u8→tF,i64→U
open Go.Obj renaming cells→r9
namespace Go.Proofs.YtoahnjkclckodaaGreatDoor
set_option maxHeartbeats 2000000
set_option maxRecDepth 100000
open Go.RowKit
def j3{α:Type} (r:Rd α) (f:Nat):Prop:=∀(x:α) (vs a:List tT) (w:J),r.at_ w (fun b=>b<w.heap.size) x vs→r.at_ w (fun b=>b<w.heap.size) x a→wg vo f #[xk vs.toArray,xk a.toArray] w (du w)
theorem yt(v:bj):kz v v=true:=by simp[kz]
theorem l6(l:List bj)(u v:tT)(w:J)(hu:bL.h w (fun b=>b<w.heap.size) l u)(E:bL.h w (fun b=>b<w.heap.size) l v):wg vo 112 #[u,v] w (du w):=by
 obtain⟨p,c,F⟩:=Rd.q hu;obtain⟨q,c',G⟩:=Rd.q E;have r:=Rd.N hu;subst F;subst G;obtain⟨n,H⟩:=zzy (l.length);have X:=Hd (fun W (K:Gl w W)=>Rd.sm hu (fun _ h=>h) K);have HV:=Hd (fun W (K:Gl w W)=>Rd.sm E (fun _ h=>h) K);rw[H]at X HV r ⊢;have L:=Hd H;have af:(n:Int)≤9223372036854775807:=by unfold maxLen at r;omega
 clear hu E H r
 go_enter Tryz.func112,Tryz.ntmps112
 go_wp2
 go_loopw [5] (qG w n) (fun i _=>n-(intOf i).toNat)
 case atStart=>exact⟨_,0,Z,FR _,Z,Fz _ _⟩
 case round =>
  obtain⟨e,k,rfl,hk,rfl,s⟩:=hrel
  by_cases M:k<n
  ·obtain⟨x,N⟩:∃x,l[k]?=A x:=⟨_,FD (by rw[L.o];exact M)⟩;have y:=Rd.K (X.o e s) N;rw[L.o]at y;obtain⟨b,off,cap,vs,P,_,_,_,_,B,d⟩:=y;injection P with Q _ e3
   subst Q;subst e3;have d:∀m z,vs[m]?=A z→e.cell? ⟨b,off+k*3+m,Y⟩=A z:=d;have g:=Rd.K (HV.o e s) N;rw[L.o]at g;obtain⟨b',f,ad,R,C,_,_,_,_,j,a⟩:=g;injection C with S _ T
   subst S;subst T;have a:∀m z,R[m]?=A z→e.cell? ⟨b',f+k*3+m,Y⟩=A z:=a;obtain⟨rfl,_⟩:=eh.1 B;obtain⟨rfl,_⟩:=eh.1 j;have d0:e.cell? ⟨b,off+k*3,Y⟩=A (I tF x.q):=d 0 _ Z;have d1:e.cell? ⟨b,off+k*3+1,Y⟩=A (I U x.u):=d 1 _ Z;have d2:e.cell? ⟨b,off+k*3+2,Y⟩=A (tS x.h):=d 2 _ Z;have e0:e.cell? ⟨b',f+k*3,Y⟩=A (I tF x.q):=a 0 _ Z;have Q:e.cell? ⟨b',f+k*3+1,Y⟩=A (I U x.u):=a 1 _ Z;have e2:e.cell? ⟨b',f+k*3+2,Y⟩=A (tS x.h):=a 2 _ Z;have D:Gl e e.drew:=(Fz _ e).drew;have t:=Hd (s.trans (D.mono s.size));have aq:(0:Int)≤k:=by omega
   have ar:(k:Int)<n:=by omega
   have V:=xK x x;rw[yt]at V;clear B j d a N D s
   go_wp2
   go_still_tail 8,(by kernel_rfl)
   change wpList _ _ _ _ _ e.drew;generalize e.drew=W2 at *;clear d0 d1 d2 e0 Q e2;go_wp2_with fail
   exact⟨⟨_,k+1,Z,by omega,by go_num,t.o⟩,by simp[intOf];omega⟩
  ·obtain rfl:k=n:=by omega
   have t:=Hd s;clear s
   go_wp2
   go_ret;exact⟨Z,t.o⟩
theorem uY(l:List Int)(u v:tT)(w:J)(hu:Rd.int.h w (fun b=>b<w.heap.size) l u)(E:Rd.int.h w (fun b=>b<w.heap.size) l v):wg vo 113 #[u,v] w (du w):=by
 obtain⟨p,c,F⟩:=Rd.q hu;obtain⟨q,c',G⟩:=Rd.q E;have r:=Rd.N hu;subst F;subst G;obtain⟨n,H⟩:=zzy (l.length);have T:=Hd (fun W (K:Gl w W)=>Rd.sm hu (fun _ h=>h) K);have V:=Hd (fun W (K:Gl w W)=>Rd.sm E (fun _ h=>h) K);rw[H]at T V r ⊢;have L:=Hd H;have ad:(n:Int)≤9223372036854775807:=by unfold maxLen at r;omega
 clear hu E H r
 go_enter Tryz.func113,Tryz.ntmps113
 go_wp2
 go_loopw [5] (qG w n) (fun i _=>n-(intOf i).toNat)
 case atStart=>exact⟨_,0,Z,FR _,Z,Fz _ _⟩
 case round =>
  obtain⟨e,k,rfl,hk,rfl,s⟩:=hrel
  by_cases M:k<n
  ·obtain⟨x,N⟩:∃x,l[k]?=A x:=⟨_,FD (by rw[L.o];exact M)⟩;have y:=Rd.K (T.o e s) N;rw[L.o]at y;obtain⟨b,off,cap,vs,P,_,_,_,_,B,d⟩:=y;injection P with e1 _ e3
   subst e1;subst e3;have d:∀m z,vs[m]?=A z→e.cell? ⟨b,off+k*1+m,Y⟩=A z:=d;have f:=Rd.K (V.o e s) N;rw[L.o]at f;obtain⟨b',g,X,Q,C,_,_,_,_,j,a⟩:=f;injection C with R _ S
   subst R;subst S;have a:∀m z,Q[m]?=A z→e.cell? ⟨b',g+k*1+m,Y⟩=A z:=a;obtain⟨rfl,_⟩:=id B;obtain⟨rfl,_⟩:=id j;have d0:e.cell? ⟨b,off+k,Y⟩=A (I U x):=by
    have:=d 0 _ Z
    simpa using this
   have e0:e.cell? ⟨b',g+k,Y⟩=A (I U x):=by
    have:=a 0 _ Z
    simpa using this
   have D:Gl e e.drew:=(Fz _ e).drew;have t:=Hd (s.trans (D.mono s.size));have af:(0:Int)≤k:=by omega
   have aq:(k:Int)<n:=by omega
   clear B j d a N D s
   go_wp2
   go_still_tail 8,(by kernel_rfl)
   change wpList _ _ _ _ _ e.drew;generalize e.drew=W2 at *;clear d0 e0;go_wp2_with fail
   exact⟨⟨_,k+1,Z,by omega,by go_num,t.o⟩,by simp[intOf];omega⟩
  ·obtain rfl:k=n:=by omega
   have t:=Hd s;clear s
   go_wp2
   go_ret;exact⟨Z,t.o⟩
theorem nH:j3 aC 84:=by
 intro x vs K w z q;obtain⟨_,_,Q,rfl,B⟩:=bY.1 z;obtain⟨_,_,L,rfl,p⟩:=bY.1 q;obtain⟨g,h,k⟩:=Rd.q B;obtain⟨b,c,d⟩:=Rd.q p;obtain⟨a,f⟩:=zzy (x.a.length);rw[f]at k;subst k;rw[f]at d;subst d;obtain⟨l,i⟩:=zzx ((w.alloc (r9 #[I U x.id,I U x.u,O g a h] 47)).alloc (r9 #[I U x.id,I U x.u,O b a c] 47));obtain⟨r,s,_⟩:=aW w (r9 #[I U x.id,I U x.u,O g a h] 47) (r9 #[I U x.id,I U x.u,O b a c] 47);rw[←i]at r s;have t:Gl w l:=by rw[i];exact ((Fz _ w).alloc (Fy _) _).alloc (by simp) _
 have M:=Hd (fun W (n:Gl l W)=>t.trans (n.mono t.size));have N:=Hd (fun W (n:Gl l W)=>aa n r (Fx.1 r).1);have P:=Hd (fun W (n:Gl l W)=>aa n s (Fx.1 s).1);have u:=Hd (fun W (n:Gl l W)=>l6 x.a _ _ W (ak (ak B t) n) (ak (ak p t) n));have v:=Hd i;obtain⟨D,E,x2,_⟩:=aE r;obtain⟨F,G,H,_⟩:=aE s;clear r s t i B p f
 show wg vo 84 #[xk #[I U x.id,I U x.u,O g a h],xk #[I U x.id,I U x.u,O b a c]] w (du w)
 go_enter Tryz.func84,Tryz.ntmps84
 go_upto_region 1 with fail
 change Code.wp _ _ _ _ ((w.alloc (r9 #[I U x.id,I U x.u,O g a h] 47)).alloc (r9 #[I U x.id,I U x.u,O b a c] 47));rw[←v.o];clear v;go_wp2_with fail
 refine (u.o l (Fz _ _)).mono ?_;rintro e W2 ⟨rfl,y⟩;have j:=y;have C:=Hd j;clear D E x2 F G H;obtain⟨D,E,x2,_⟩:=aE (N.o W2 j);obtain⟨F,G,H,_⟩:=aE (P.o W2 j);clear y j u;go_wp2_with fail
 go_ret;exact⟨Z,M.o _ C.o⟩
theorem tG:j3 dA 85:=by
 intro x vs H w z q;obtain⟨_,P,rfl,B⟩:=hH.1 z;obtain⟨_,K,rfl,p⟩:=hH.1 q;obtain⟨g,h,k⟩:=Rd.q B;obtain⟨b,c,d⟩:=Rd.q p;obtain⟨a,f⟩:=zzy (x.b.length);rw[f]at k;subst k;rw[f]at d;subst d;obtain⟨l,i⟩:=zzx ((w.alloc (r9 #[I U x.a,O g a h] 50)).alloc (r9 #[I U x.a,O b a c] 50));obtain⟨r,s,_⟩:=aW w (r9 #[I U x.a,O g a h] 50) (r9 #[I U x.a,O b a c] 50);rw[←i]at r s;have t:Gl w l:=by rw[i];exact ((Fz _ w).alloc (Fy _) _).alloc (by simp) _
 have L:=Hd (fun W (n:Gl l W)=>t.trans (n.mono t.size));have M:=Hd (fun W (n:Gl l W)=>aa n r (Fx.1 r).1);have N:=Hd (fun W (n:Gl l W)=>aa n s (Fx.1 s).1);have u:=Hd (fun W (n:Gl l W)=>uY x.b _ _ W (ak (ak B t) n) (ak (ak p t) n));have v:=Hd i;obtain⟨D,E,_⟩:=bP r;obtain⟨F,G,_⟩:=bP s;clear r s t i B p f
 show wg vo 85 #[xk #[I U x.a,O g a h],xk #[I U x.a,O b a c]] w (du w)
 go_enter Tryz.func85,Tryz.ntmps85
 go_upto_region 1 with fail
 change Code.wp _ _ _ _ ((w.alloc (r9 #[I U x.a,O g a h] 50)).alloc (r9 #[I U x.a,O b a c] 50));rw[←v.o];clear v;go_wp2_with fail
 refine (u.o l (Fz _ _)).mono ?_;rintro e W2 ⟨rfl,y⟩;have j:=y;have C:=Hd j;clear D E F G;obtain⟨D,E,_⟩:=bP (M.o W2 j);obtain⟨F,G,_⟩:=bP (N.o W2 j);clear y j u;go_wp2_with fail
 go_ret;exact⟨Z,L.o _ C.o⟩
theorem m8(hf:j3 aC 84)(l:List am)(u v:tT)(w:J)(hu:aC.h w (fun b=>b<w.heap.size) l u)(hv:aC.h w (fun b=>b<w.heap.size) l v):wg vo 63 #[u,v] w (du w):=by
 obtain⟨p,c,ad⟩:=Rd.q hu;obtain⟨q,c',af⟩:=Rd.q hv;have L:=Rd.N hu;subst ad;subst af;obtain⟨n,hn⟩:=zzy (l.length);have HU:=Hd (fun W (hW:Gl w W)=>Rd.sm hu (fun _ h=>h) hW);have HV:=Hd (fun W (hW:Gl w W)=>Rd.sm hv (fun _ h=>h) hW);have HF:=Hd hf;rw[hn]at HU HV L ⊢;have HN:=Hd hn;have bk:(n:Int)≤9223372036854775807:=by unfold maxLen at L;omega
 clear hu hv hn L hf
 go_enter Tryz.func63,Tryz.ntmps63
 go_wp2
 go_loopw [5] (qG w n) (fun i _=>n-(intOf i).toNat)
 case atStart=>exact⟨_,0,Z,FR _,Z,Fz _ _⟩
 case round =>
  obtain⟨f,k,rfl,hk,rfl,y⟩:=hrel
  by_cases aq:k<n
  ·obtain⟨x,hx⟩:∃x,l[k]?=A x:=⟨_,FD (by rw[HN.o];exact aq)⟩;have R:=Rd.K (HU.o f y) hx;rw[HN.o]at R;obtain⟨b,off,cap,vs,ar,_,_,_,_,M,d⟩:=R;injection ar with e1 _ e3
   subst e1;subst e3;have d:∀m z,vs[m]?=A z→f.cell? ⟨b,off+k*3+m,Y⟩=A z:=d;have E:=Rd.K (HV.o f y) hx;rw[HN.o]at E;obtain⟨b',g,bd,a1,S,_,_,_,_,j,a⟩:=E;injection S with a6 _ ba
   subst a6;subst ba;have a:∀m z,a1[m]?=A z→f.cell? ⟨b',g+k*3+m,Y⟩=A z:=a;have F:=M;have r:=j;obtain⟨_,_,s0,rfl,hs⟩:=bY.1 M;obtain⟨T,V,G⟩:=Rd.q hs;obtain⟨_,_,bl,rfl,X⟩:=bY.1 j;obtain⟨H,K,s⟩:=Rd.q X;obtain⟨B,t⟩:=zzy (x.a.length);rw[t]at G;subst G;rw[t]at s;subst s;have d0:f.cell? ⟨b,off+k*3,Y⟩=A (I U x.id):=d 0 _ Z;have d1:f.cell? ⟨b,off+k*3+1,Y⟩=A (I U x.u):=d 1 _ Z;have d2:f.cell? ⟨b,off+k*3+2,Y⟩=A (O T B V):=d 2 _ Z;have e0:f.cell? ⟨b',g+k*3,Y⟩=A (I U x.id):=a 0 _ Z;have e1:f.cell? ⟨b',g+k*3+1,Y⟩=A (I U x.u):=a 1 _ Z;have e2:f.cell? ⟨b',g+k*3+2,Y⟩=A (O H B K):=a 2 _ Z;have C:Gl f f.drew:=(Fz _ f).drew;have N:∀b,(b<w.heap.size)→b<f.drew.heap.size:=fun b h=>FG h (FH y.size C.size)
   have P:∀b,b<w.heap.size→∀o,f.heap[b]?=A o→f.drew.heap[b]?=A o:=fun b h o ho=>(C.block b (FG h y.size)).trans ho
   have Q:Hid (wg vo 84 #[xk #[I U x.id,I U x.u,O T B V],xk #[I U x.id,I U x.u,O H B K]] f.drew (du f.drew)):=HF.o x _ _ f.drew (aC.D N (aC.t P F)) (aC.D N (aC.t P r));have D:=Hd (y.trans (C.mono y.size));have bm:(0:Int)≤k:=by omega
   have bn:(k:Int)<n:=by omega
   clear M j d a hx C y hs X t F r N P
   go_wp2
   go_still_tail 8,(by kernel_rfl)
   change wpList _ _ _ _ _ f.drew;generalize f.drew=W2 at *;clear d0 d1 d2 e0 e1 e2;go_wp2_with fail
   refine Q.o.mono ?_;rintro e W3 ⟨rfl,bb⟩;go_wp2_with fail
   exact⟨⟨_,k+1,Z,by omega,by go_num,D.o.trans (bb.mono D.o.size)⟩,by simp[intOf];omega⟩
  ·obtain rfl:k=n:=by omega
   have D:=Hd y;clear y
   go_wp2
   go_ret;exact⟨Z,D.o⟩
theorem rZ(hf:j3 dA 85)(l:List jz)(u v:tT)(w:J)(hu:dA.h w (fun b=>b<w.heap.size) l u)(hv:dA.h w (fun b=>b<w.heap.size) l v):wg vo 64 #[u,v] w (du w):=by
 obtain⟨p,c,ad⟩:=Rd.q hu;obtain⟨q,c',af⟩:=Rd.q hv;have L:=Rd.N hu;subst ad;subst af;obtain⟨n,hn⟩:=zzy (l.length);have HU:=Hd (fun W (hW:Gl w W)=>Rd.sm hu (fun _ h=>h) hW);have HV:=Hd (fun W (hW:Gl w W)=>Rd.sm hv (fun _ h=>h) hW);have HF:=Hd hf;rw[hn]at HU HV L ⊢;have HN:=Hd hn;have bk:(n:Int)≤9223372036854775807:=by unfold maxLen at L;omega
 clear hu hv hn L hf
 go_enter Tryz.func64,Tryz.ntmps64
 go_wp2
 go_loopw [5] (qG w n) (fun i _=>n-(intOf i).toNat)
 case atStart=>exact⟨_,0,Z,FR _,Z,Fz _ _⟩
 case round =>
  obtain⟨f,k,rfl,hk,rfl,y⟩:=hrel
  by_cases aq:k<n
  ·obtain⟨x,hx⟩:∃x,l[k]?=A x:=⟨_,FD (by rw[HN.o];exact aq)⟩;have R:=Rd.K (HU.o f y) hx;rw[HN.o]at R;obtain⟨b,off,cap,vs,ar,_,_,_,_,M,d⟩:=R;injection ar with e1 _ e3
   subst e1;subst e3;have d:∀m z,vs[m]?=A z→f.cell? ⟨b,off+k*2+m,Y⟩=A z:=d;have E:=Rd.K (HV.o f y) hx;rw[HN.o]at E;obtain⟨b',g,bd,a1,S,_,_,_,_,j,a⟩:=E;injection S with a6 _ ba
   subst a6;subst ba;have a:∀m z,a1[m]?=A z→f.cell? ⟨b',g+k*2+m,Y⟩=A z:=a;have F:=M;have r:=j;obtain⟨_,s0,rfl,hs⟩:=hH.1 M;obtain⟨T,V,G⟩:=Rd.q hs;obtain⟨_,bl,rfl,X⟩:=hH.1 j;obtain⟨H,K,s⟩:=Rd.q X;obtain⟨B,t⟩:=zzy (x.b.length);rw[t]at G;subst G;rw[t]at s;subst s;have d0:f.cell? ⟨b,off+k*2,Y⟩=A (I U x.a):=d 0 _ Z;have d1:f.cell? ⟨b,off+k*2+1,Y⟩=A (O T B V):=d 1 _ Z;have e0:f.cell? ⟨b',g+k*2,Y⟩=A (I U x.a):=a 0 _ Z;have e1:f.cell? ⟨b',g+k*2+1,Y⟩=A (O H B K):=a 1 _ Z;have C:Gl f f.drew:=(Fz _ f).drew;have N:∀b,(b<w.heap.size)→b<f.drew.heap.size:=fun b h=>FG h (FH y.size C.size)
   have P:∀b,b<w.heap.size→∀o,f.heap[b]?=A o→f.drew.heap[b]?=A o:=fun b h o ho=>(C.block b (FG h y.size)).trans ho
   have Q:Hid (wg vo 85 #[xk #[I U x.a,O T B V],xk #[I U x.a,O H B K]] f.drew (du f.drew)):=HF.o x _ _ f.drew (dA.D N (dA.t P F)) (dA.D N (dA.t P r));have D:=Hd (y.trans (C.mono y.size));have bm:(0:Int)≤k:=by omega
   have bn:(k:Int)<n:=by omega
   clear M j d a hx C y hs X t F r N P
   go_wp2
   go_still_tail 8,(by kernel_rfl)
   change wpList _ _ _ _ _ f.drew;generalize f.drew=W2 at *;clear d0 d1 e0 e1;go_wp2_with fail
   refine Q.o.mono ?_;rintro e W3 ⟨rfl,bb⟩;go_wp2_with fail
   exact⟨⟨_,k+1,Z,by omega,by go_num,D.o.trans (bb.mono D.o.size)⟩,by simp[intOf];omega⟩
  ·obtain rfl:k=n:=by omega
   have D:=Hd y;clear y
   go_wp2
   go_ret;exact⟨Z,D.o⟩
theorem tU:j3 bH 86:=by
 intro x vs aq w ad F;obtain⟨_,_,s0,s1,rfl,hs,ht⟩:=db.1 ad;obtain⟨_,_,ar,a1,rfl,B,C⟩:=db.1 F;obtain⟨n,p,y⟩:=Rd.q hs;obtain⟨c,d,h⟩:=Rd.q B;obtain⟨a,i⟩:=zzy (x.a.length);rw[i]at y;subst y;rw[i]at h;subst h;obtain⟨q,r,z⟩:=Rd.q ht;obtain⟨f,g,j⟩:=Rd.q C;obtain⟨b,k⟩:=zzy (x.b.length);rw[k]at z;subst z;rw[k]at j;subst j;obtain⟨s,t⟩:=zzx ((w.alloc (r9 #[I U x.h,I U x.u,O n a p,O q b r] 52)).alloc (r9 #[I U x.h,I U x.u,O c a d,O f b g] 52));obtain⟨G,H,_⟩:=aW w (r9 #[I U x.h,I U x.u,O n a p,O q b r] 52) (r9 #[I U x.h,I U x.u,O c a d,O f b g] 52);rw[←t]at G H;have D:Gl w s:=by rw[t];exact ((Fz _ w).alloc (Fy _) _).alloc (by simp) _
 have HB:=Hd (fun W (l:Gl s W)=>D.trans (l.mono D.size));have HX:=Hd (fun W (l:Gl s W)=>aa l G (Fx.1 G).1);have HY:=Hd (fun W (l:Gl s W)=>aa l H (Fx.1 H).1);have K:=Hd (fun W (l:Gl s W)=>m8 nH x.a _ _ W (ak (ak hs D) l) (ak (ak B D) l));have L:=Hd (fun W (l:Gl s W)=>l6 x.b _ _ W (ak (ak ht D) l) (ak (ak C D) l));have M:=Hd t;obtain⟨Q,R,x2,x3,_⟩:=bA G;obtain⟨S,T,V,X,_⟩:=bA H;clear G H D t hs B ht C i k
 show wg vo 86 #[xk #[I U x.h,I U x.u,O n a p,O q b r],xk #[I U x.h,I U x.u,O c a d,O f b g]] w (du w)
 go_enter Tryz.func86,Tryz.ntmps86
 go_upto_region 1 with fail
 change Code.wp _ _ _ _ ((w.alloc (r9 #[I U x.h,I U x.u,O n a p,O q b r] 52)).alloc (r9 #[I U x.h,I U x.u,O c a d,O f b g] 52));rw[←M.o];clear M;go_wp2_with fail
 refine (K.o s (Fz _ _)).mono ?_;rintro e W2 ⟨rfl,N⟩;have u:=N;have E:=Hd u;clear Q R x2 x3 S T V X;obtain⟨Q,R,x2,x3,_⟩:=bA (HX.o W2 u);obtain⟨S,T,V,X,_⟩:=bA (HY.o W2 u);clear N u K;go_wp2_with fail
 refine (L.o W2 E.o).mono ?_;rintro e W3 ⟨rfl,P⟩;have v:=E.o.trans (P.mono E.o.size);have af:=Hd v;clear Q R x2 x3 S T V X;obtain⟨Q,R,x2,x3,_⟩:=bA (HX.o W3 v);obtain⟨S,T,V,X,_⟩:=bA (HY.o W3 v);clear P v L;go_wp2_with fail
 go_ret;exact⟨Z,HB.o _ af.o⟩
theorem qN:j3 dX 65:=by
 intro x vs ad w S F;obtain⟨_,_,rs,rfl,G⟩:=iv.1 S;have H:=G;obtain⟨_,_,s0,s1,rfl,X,ht⟩:=db.1 G;obtain⟨_,_,af,rfl,z⟩:=iv.1 F;have E:=z;obtain⟨_,_,aq,ar,rfl,K,L⟩:=db.1 z;obtain⟨r,s,B⟩:=Rd.q X;obtain⟨d,f,j⟩:=Rd.q K;obtain⟨a,k⟩:=zzy (x.a.a.length);rw[k]at B;subst B;rw[k]at j;subst j;obtain⟨t,u,C⟩:=Rd.q ht;obtain⟨g,i,l⟩:=Rd.q L;obtain⟨c,n⟩:=zzy (x.a.b.length);rw[n]at C;subst C;rw[n]at l;subst l;obtain⟨D,v⟩:=zzx ((w.alloc (r9 #[I U x.id,I U x.b,I U x.a.h,I U x.a.u,O r a s,O t c u] 54)).alloc (r9 #[I U x.id,I U x.b,I U x.a.h,I U x.a.u,O d a f,O g c i] 54));obtain⟨M,N,_⟩:=aW w (r9 #[I U x.id,I U x.b,I U x.a.h,I U x.a.u,O r a s,O t c u] 54) (r9 #[I U x.id,I U x.b,I U x.a.h,I U x.a.u,O d a f,O g c i] 54);rw[←v]at M N;have p:Gl w D:=by rw[v];exact ((Fz _ w).alloc (Fy _) _).alloc (by simp) _
 have HB:=Hd (fun W (q:Gl D W)=>p.trans (q.mono p.size));have HX:=Hd (fun W (q:Gl D W)=>aa q M (Fx.1 M).1);have HY:=Hd (fun W (q:Gl D W)=>aa q N (Fx.1 N).1);have P:=Hd (fun W (q:Gl D W)=>tU x.a _ _ W (bH.D (fun b (h:b<w.heap.size)=>FG h (p.trans (q.mono p.size)).size) (bH.t (fun b (h:b<w.heap.size) o T=>((p.trans (q.mono p.size)).block b h).trans T) H)) (bH.D (fun b (h:b<w.heap.size)=>FG h (p.trans (q.mono p.size)).size) (bH.t (fun b (h:b<w.heap.size) o T=>((p.trans (q.mono p.size)).block b h).trans T) E)));have Q:=Hd v;obtain⟨⟨x0,x1,x2,x3,x4,x5⟩,_⟩:=aH M;obtain⟨⟨y0,y1,y2,y3,y4,y5⟩,_⟩:=aH N;clear M N p v X K ht L k n
 show wg vo 65 #[xk #[I U x.id,I U x.b,I U x.a.h,I U x.a.u,O r a s,O t c u],xk #[I U x.id,I U x.b,I U x.a.h,I U x.a.u,O d a f,O g c i]] w (du w)
 go_enter Tryz.func65,Tryz.ntmps65
 go_upto_region 1 with fail
 change Code.wp _ _ _ _ ((w.alloc (r9 #[I U x.id,I U x.b,I U x.a.h,I U x.a.u,O r a s,O t c u] 54)).alloc (r9 #[I U x.id,I U x.b,I U x.a.h,I U x.a.u,O d a f,O g c i] 54));rw[←Q.o];clear Q;go_wp2_with fail
 refine (P.o D (Fz _ _)).mono ?_;rintro e W2 ⟨rfl,R⟩;have y:=R;have V:=Hd y;clear x0 x1 x2 x3 x4 x5 y0 y1 y2 y3 y4 y5;obtain⟨⟨x0,x1,x2,x3,x4,x5⟩,_⟩:=aH (HX.o W2 y);obtain⟨⟨y0,y1,y2,y3,y4,y5⟩,_⟩:=aH (HY.o W2 y);clear R y P;go_wp2_with fail
 go_ret;exact⟨Z,HB.o _ V.o⟩
theorem qn(hf:j3 dX 65)(l:List fo)(u v:tT)(w:J)(hu:dX.h w (fun b=>b<w.heap.size) l u)(hv:dX.h w (fun b=>b<w.heap.size) l v):wg vo 39 #[u,v] w (du w):=by
 obtain⟨p,c,bl⟩:=Rd.q hu;obtain⟨q,c',bm⟩:=Rd.q hv;have S:=Rd.N hu;subst bl;subst bm;obtain⟨n,hn⟩:=zzy (l.length);have HU:=Hd (fun W (hW:Gl w W)=>Rd.sm hu (fun _ h=>h) hW);have HV:=Hd (fun W (hW:Gl w W)=>Rd.sm hv (fun _ h=>h) hW);have HF:=Hd hf;rw[hn]at HU HV S ⊢;have HN:=Hd hn;have b3:(n:Int)≤9223372036854775807:=by unfold maxLen at S;omega
 clear hu hv hn S hf
 go_enter Tryz.func39,Tryz.ntmps39
 go_wp2
 go_loopw [5] (qG w n) (fun i _=>n-(intOf i).toNat)
 case atStart=>exact⟨_,0,Z,FR _,Z,Fz _ _⟩
 case round =>
  obtain⟨f,k,rfl,hk,rfl,C⟩:=hrel
  by_cases bn:k<n
  ·obtain⟨x,hx⟩:∃x,l[k]?=A x:=⟨_,FD (by rw[HN.o];exact bn)⟩;have af:=Rd.K (HU.o f C) hx;rw[HN.o]at af;obtain⟨b,off,cap,vs,bq,_,_,_,_,T,d⟩:=af;injection bq with e1 _ e3
   subst e1;subst e3;have d:∀m z,vs[m]?=A z→f.cell? ⟨b,off+k*6+m,Y⟩=A z:=d;have H:=Rd.K (HV.o f C) hx;rw[HN.o]at H;obtain⟨b',g,b2,bt,aq,_,_,_,_,j,a⟩:=H;injection aq with bB _ bR
   subst bB;subst bR;have a:∀m z,bt[m]?=A z→f.cell? ⟨b',g+k*6+m,Y⟩=A z:=a;have K:=T;have r:=j;obtain⟨_,_,rs,rfl,b0⟩:=iv.1 T;obtain⟨_,_,s0,s1,rfl,hs,ht⟩:=db.1 b0;obtain⟨ar,a1,L⟩:=Rd.q hs;obtain⟨a6,ba,M⟩:=Rd.q ht;obtain⟨_,_,b4,rfl,bb⟩:=iv.1 j;obtain⟨_,_,b5,b6,rfl,bd,bk⟩:=db.1 bb;obtain⟨N,P,s⟩:=Rd.q bd;obtain⟨Q,R,t⟩:=Rd.q bk;obtain⟨D,y⟩:=zzy (x.a.a.length);rw[y]at L;subst L;rw[y]at s;subst s;obtain⟨E,B⟩:=zzy (x.a.b.length);rw[B]at M;subst M;rw[B]at t;subst t;have d0:f.cell? ⟨b,off+k*6,Y⟩=A (I U x.id):=d 0 _ Z;have d1:f.cell? ⟨b,off+k*6+1,Y⟩=A (I U x.b):=d 1 _ Z;have d2:f.cell? ⟨b,off+k*6+2,Y⟩=A (I U x.a.h):=d 2 _ Z;have d3:f.cell? ⟨b,off+k*6+3,Y⟩=A (I U x.a.u):=d 3 _ Z;have d4:f.cell? ⟨b,off+k*6+4,Y⟩=A (O ar D a1):=d 4 _ Z;have d5:f.cell? ⟨b,off+k*6+5,Y⟩=A (O a6 E ba):=d 5 _ Z;have e0:f.cell? ⟨b',g+k*6,Y⟩=A (I U x.id):=a 0 _ Z;have e1:f.cell? ⟨b',g+k*6+1,Y⟩=A (I U x.b):=a 1 _ Z;have e2:f.cell? ⟨b',g+k*6+2,Y⟩=A (I U x.a.h):=a 2 _ Z;have e3:f.cell? ⟨b',g+k*6+3,Y⟩=A (I U x.a.u):=a 3 _ Z;have e4:f.cell? ⟨b',g+k*6+4,Y⟩=A (O N D P):=a 4 _ Z;have e5:f.cell? ⟨b',g+k*6+5,Y⟩=A (O Q E R):=a 5 _ Z;have F:Gl f f.drew:=(Fz _ f).drew;have V:∀b,(b<w.heap.size)→b<f.drew.heap.size:=fun b h=>FG h (FH C.size F.size)
   have X:∀b,b<w.heap.size→∀o,f.heap[b]?=A o→f.drew.heap[b]?=A o:=fun b h o ho=>(F.block b (FG h C.size)).trans ho
   have ad:Hid (wg vo 65 #[xk #[I U x.id,I U x.b,I U x.a.h,I U x.a.u,O ar D a1,O a6 E ba],xk #[I U x.id,I U x.b,I U x.a.h,I U x.a.u,O N D P,O Q E R]] f.drew (du f.drew)):=HF.o x _ _ f.drew (dX.D V (dX.t X K)) (dX.D V (dX.t X r));have G:=Hd (C.trans (F.mono C.size));have b7:(0:Int)≤k:=by omega
   have b8:(k:Int)<n:=by omega
   clear T j d a hx F C hs bd ht bk y B K r V X
   go_wp2
   go_still_tail 8,(by kernel_rfl)
   change wpList _ _ _ _ _ f.drew;generalize f.drew=W2 at *;clear d0 d1 d2 d3 d4 d5 e0 e1 e2 e3 e4 e5;go_wp2_with fail
   refine ad.o.mono ?_;rintro e W3 ⟨rfl,b1⟩;go_wp2_with fail
   exact⟨⟨_,k+1,Z,by omega,by go_num,G.o.trans (b1.mono G.o.size)⟩,by simp[intOf];omega⟩
  ·obtain rfl:k=n:=by omega
   have G:=Hd C;clear C
   go_wp2
   go_ret;exact⟨Z,G.o⟩
theorem tP{x:aQ}{s0 G s1 H:tT}{w:J}(hs:aC.h w (fun b=>b<w.heap.size) x.a s0)(C:aC.h w (fun b=>b<w.heap.size) x.a G)(ht:dA.h w (fun b=>b<w.heap.size) x.e s1)(D:dA.h w (fun b=>b<w.heap.size) x.e H):wg vo 38 #[xk #[tS x.c,I U x.d,s0,s1],xk #[tS x.c,I U x.d,G,H]] w (du w):=by
 obtain⟨p,q,z⟩:=Rd.q hs;obtain⟨d,f,i⟩:=Rd.q C;obtain⟨a,j⟩:=zzy (x.a.length);rw[j]at z;subst z;rw[j]at i;subst i;obtain⟨r,s,B⟩:=Rd.q ht;obtain⟨g,h,k⟩:=Rd.q D;obtain⟨c,l⟩:=zzy (x.e.length);rw[l]at B;subst B;rw[l]at k;subst k;obtain⟨t,u⟩:=zzx ((w.alloc (r9 #[tS x.c,I U x.d,O p a q,O r c s] 25)).alloc (r9 #[tS x.c,I U x.d,O d a f,O g c h] 25));obtain⟨K,L,_⟩:=aW w (r9 #[tS x.c,I U x.d,O p a q,O r c s] 25) (r9 #[tS x.c,I U x.d,O d a f,O g c h] 25);rw[←u]at K L;have E:Gl w t:=by rw[u];exact ((Fz _ w).alloc (Fy _) _).alloc (by simp) _
 have HB:=Hd (fun W (n:Gl t W)=>E.trans (n.mono E.size));have HX:=Hd (fun W (n:Gl t W)=>aa n K (Fx.1 K).1);have HY:=Hd (fun W (n:Gl t W)=>aa n L (Fx.1 L).1);have M:=Hd (fun W (n:Gl t W)=>m8 nH x.a _ _ W (ak (ak hs E) n) (ak (ak C E) n));have N:=Hd (fun W (n:Gl t W)=>rZ tG x.e _ _ W (ak (ak ht E) n) (ak (ak D E) n));have P:=Hd u;obtain⟨S,T,x2,x3,_⟩:=bA K;obtain⟨V,X,y2,y3,_⟩:=bA L;clear K L E u hs C ht D j l
 show wg vo 38 #[xk #[tS x.c,I U x.d,O p a q,O r c s],xk #[tS x.c,I U x.d,O d a f,O g c h]] w (du w)
 go_enter Tryz.func38,Tryz.ntmps38
 go_upto_region 1 with fail
 change Code.wp _ _ _ _ ((w.alloc (r9 #[tS x.c,I U x.d,O p a q,O r c s] 25)).alloc (r9 #[tS x.c,I U x.d,O d a f,O g c h] 25));rw[←P.o];clear P;go_wp2_with fail
 refine (M.o t (Fz _ _)).mono ?_;rintro e W2 ⟨rfl,Q⟩;have v:=Q;have F:=Hd v;clear S T x2 x3 V X y2 y3;obtain⟨S,T,x2,x3,_⟩:=bA (HX.o W2 v);obtain⟨V,X,y2,y3,_⟩:=bA (HY.o W2 v);clear Q v M;go_wp2_with fail
 refine (N.o W2 F.o).mono ?_;rintro e W3 ⟨rfl,R⟩;have y:=F.o.trans (R.mono F.o.size);have ad:=Hd y;clear S T x2 x3 V X y2 y3;obtain⟨S,T,x2,x3,_⟩:=bA (HX.o W3 y);obtain⟨V,X,y2,y3,_⟩:=bA (HY.o W3 y);clear R y N;go_wp2_with fail
 go_ret;exact⟨Z,HB.o _ ad.o⟩
theorem ln:j3 bG 10:=by
 intro x vs a6 w ar R;obtain⟨_,_,_,s0,s1,s2,rfl,hs,ht,hq⟩:=eY.1 ar;obtain⟨_,_,_,ba,bb,bd,rfl,M,N,P⟩:=eY.1 R;obtain⟨t,u,H⟩:=Rd.q hs;obtain⟨d,f,l⟩:=Rd.q M;obtain⟨a,n⟩:=zzy (x.a.length);rw[n]at H;subst H;rw[n]at l;subst l;obtain⟨v,y,K⟩:=Rd.q ht;obtain⟨g,h,p⟩:=Rd.q N;obtain⟨b,q⟩:=zzy (x.e.length);rw[q]at K;subst K;rw[q]at p;subst p;obtain⟨z,B,L⟩:=Rd.q hq;obtain⟨i,j,r⟩:=Rd.q P;obtain⟨c,s⟩:=zzy (x.g.length);rw[s]at L;subst L;rw[s]at r;subst r;obtain⟨C,D⟩:=zzx ((w.alloc (r9 #[tS x.c,I U x.d,O t a u,O v b y,O z c B,I U x.f] 28)).alloc (r9 #[tS x.c,I U x.d,O d a f,O g b h,O i c j,I U x.f] 28));obtain⟨S,T,_⟩:=aW w (r9 #[tS x.c,I U x.d,O t a u,O v b y,O z c B,I U x.f] 28) (r9 #[tS x.c,I U x.d,O d a f,O g b h,O i c j,I U x.f] 28);rw[←D]at S T;have E:Gl w C:=by rw[D];exact ((Fz _ w).alloc (Fy _) _).alloc (by simp) _
 have HB:=Hd (fun W (k:Gl C W)=>E.trans (k.mono E.size));have HX:=Hd (fun W (k:Gl C W)=>aa k S (Fx.1 S).1);have HY:=Hd (fun W (k:Gl C W)=>aa k T (Fx.1 T).1);have V:=Hd (fun W (k:Gl C W)=>tP (x:=x) (w:=W) (ak (ak hs E) k) (ak (ak M E) k) (ak (ak ht E) k) (ak (ak N E) k));have X:=Hd (fun W (k:Gl C W)=>qn qN x.g _ _ W (ak (ak hq E) k) (ak (ak P E) k));have ad:=Hd D;obtain⟨⟨x0,x1,x2,x3,x4,x5⟩,_⟩:=aH S;obtain⟨⟨y0,y1,y2,y3,y4,y5⟩,_⟩:=aH T;clear S T E D hs M ht N hq P n q s
 show wg vo 10 #[xk #[tS x.c,I U x.d,O t a u,O v b y,O z c B,I U x.f],xk #[tS x.c,I U x.d,O d a f,O g b h,O i c j,I U x.f]] w (du w)
 go_enter Tryz.func10,Tryz.ntmps10
 go_upto_region 1 with fail
 change Code.wp _ _ _ _ ((w.alloc (r9 #[tS x.c,I U x.d,O t a u,O v b y,O z c B,I U x.f] 28)).alloc (r9 #[tS x.c,I U x.d,O d a f,O g b h,O i c j,I U x.f] 28));rw[←ad.o];clear ad;go_wp2_with fail
 refine (V.o C (Fz _ _)).mono ?_;rintro e W2 ⟨rfl,af⟩;have F:=af;have Q:=Hd F;clear x0 x1 x2 x3 x4 x5 y0 y1 y2 y3 y4 y5;obtain⟨⟨x0,x1,x2,x3,x4,x5⟩,_⟩:=aH (HX.o W2 F);obtain⟨⟨y0,y1,y2,y3,y4,y5⟩,_⟩:=aH (HY.o W2 F);clear af F V;go_wp2_with fail
 refine (X.o W2 Q.o).mono ?_;rintro e W3 ⟨rfl,aq⟩;have G:=Q.o.trans (aq.mono Q.o.size);have a1:=Hd G;clear x0 x1 x2 x3 x4 x5 y0 y1 y2 y3 y4 y5;obtain⟨⟨x0,x1,x2,x3,x4,x5⟩,_⟩:=aH (HX.o W3 G);obtain⟨⟨y0,y1,y2,y3,y4,y5⟩,_⟩:=aH (HY.o W3 G);clear aq G X;go_wp2_with fail
 go_ret;exact⟨Z,HB.o _ a1.o⟩
