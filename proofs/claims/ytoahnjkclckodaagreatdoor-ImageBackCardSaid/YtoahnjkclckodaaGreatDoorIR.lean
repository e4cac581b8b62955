/- Parts of one proof, joined; conditions stand in each theorem. -/
import Derived.Test.YtoahnjkclckodaaGreatDoorMD
import Derived.Test.YtoahnjkclckodaaGreatDoorNJ
import Derived.Test.YtoahnjkclckodaaGreatDoorIL
import Derived.Test.YtoahnjkclckodaaGreatDoorIN
open Go renaming Value→tS,World→J,Calls→vv
open Go.Proofs.Tryz renaming prog→va
open Go.Value renaming agg→wP,int→I,string→r9,slice→O
open Option renaming some→A,none→Y
open Go.IntKind renaming u8→r8,i64→U
open Go.Obj renaming cells→r7
namespace Go.Proofs.YtoahnjkclckodaaGreatDoor
set_option maxHeartbeats 2000000
set_option maxRecDepth 100000
open Go.RowKit
def kE{α:Type} (r:Rd α) (f:Nat):Prop:=∀(x:α) (vs a:List tS) (w:J),r.at_ w (fun b=>b<w.heap.size) x vs→r.at_ w (fun b=>b<w.heap.size) x a→vv va f #[wP vs.toArray,wP a.toArray] w (dH w)
theorem Bo(v:aE):lk v v=true:=by simp[lk]
theorem mZ(l:List aE)(u v:tS)(w:J)(hu:bK.h w (fun b=>b<w.heap.size) l u)(E:bK.h w (fun b=>b<w.heap.size) l v):vv va 112 #[u,v] w (dH w):=by
 obtain⟨p,c,F⟩:=Rd.q hu;obtain⟨q,c',G⟩:=Rd.q E;have r:=Rd.sb hu;subst F;subst G;obtain⟨n,H⟩:=zzy (l.length);have X:=Hd (fun W (K:Kr w W)=>Rd.sm hu (fun _ h=>h) K);have HV:=Hd (fun W (K:Kr w W)=>Rd.sm E (fun _ h=>h) K);rw[H]at X HV r ⊢;have L:=Hd H;have af:(n:Int)≤9223372036854775807:=by unfold maxLen at r;omega
 clear hu E H r
 go_enter Tryz.func112,Tryz.ntmps112
 go_wp2
 go_loopw [5] (sP w n) (fun i _=>n-(intOf i).toNat)
 case atStart=>exact⟨_,0,Z,J0 _,Z,JO _ _⟩
 case round =>
  obtain⟨e,k,rfl,hk,rfl,s⟩:=hrel
  by_cases M:k<n
  ·obtain⟨x,N⟩:∃x,l[k]?=A x:=⟨_,JR (by rw[L.o];exact M)⟩;have y:=Rd.X (X.o e s) N;rw[L.o]at y;obtain⟨b,off,cap,vs,P,_,_,_,_,B,d⟩:=y;injection P with Q _ e3
   subst Q;subst e3;have d:∀m z,vs[m]?=A z→e.cell? ⟨b,off+k*3+m,Y⟩=A z:=d;have g:=Rd.X (HV.o e s) N;rw[L.o]at g;obtain⟨b',f,ad,R,C,_,_,_,_,j,a⟩:=g;injection C with S _ T
   subst S;subst T;have a:∀m z,R[m]?=A z→e.cell? ⟨b',f+k*3+m,Y⟩=A z:=a;obtain⟨rfl,_⟩:=dX.1 B;obtain⟨rfl,_⟩:=dX.1 j;have d0:e.cell? ⟨b,off+k*3,Y⟩=A (I r8 x.q):=d 0 _ Z;have d1:e.cell? ⟨b,off+k*3+1,Y⟩=A (I U x.u):=d 1 _ Z;have d2:e.cell? ⟨b,off+k*3+2,Y⟩=A (r9 x.h):=d 2 _ Z;have e0:e.cell? ⟨b',f+k*3,Y⟩=A (I r8 x.q):=a 0 _ Z;have Q:e.cell? ⟨b',f+k*3+1,Y⟩=A (I U x.u):=a 1 _ Z;have e2:e.cell? ⟨b',f+k*3+2,Y⟩=A (r9 x.h):=a 2 _ Z;have D:Kr e e.drew:=(JO _ e).drew;have t:=Hd (s.trans (D.mono s.size));have aq:(0:Int)≤k:=by omega
   have ar:(k:Int)<n:=by omega
   have V:=AA x x;rw[Bo]at V;clear B j d a N D s
   go_wp2
   go_still_tail 8,(by kernel_rfl)
   change wpList _ _ _ _ _ e.drew;generalize e.drew=W2 at *;clear d0 d1 d2 e0 Q e2;go_wp2_with fail
   exact⟨⟨_,k+1,Z,by omega,by go_num,t.o⟩,by simp[intOf];omega⟩
  ·obtain rfl:k=n:=by omega
   have t:=Hd s;clear s
   go_wp2
   go_ret;exact⟨Z,t.o⟩
theorem yo(l:List Int)(u v:tS)(w:J)(hu:Rd.int.h w (fun b=>b<w.heap.size) l u)(E:Rd.int.h w (fun b=>b<w.heap.size) l v):vv va 113 #[u,v] w (dH w):=by
 obtain⟨p,c,F⟩:=Rd.q hu;obtain⟨q,c',G⟩:=Rd.q E;have r:=Rd.sb hu;subst F;subst G;obtain⟨n,H⟩:=zzy (l.length);have T:=Hd (fun W (K:Kr w W)=>Rd.sm hu (fun _ h=>h) K);have V:=Hd (fun W (K:Kr w W)=>Rd.sm E (fun _ h=>h) K);rw[H]at T V r ⊢;have L:=Hd H;have ad:(n:Int)≤9223372036854775807:=by unfold maxLen at r;omega
 clear hu E H r
 go_enter Tryz.func113,Tryz.ntmps113
 go_wp2
 go_loopw [5] (sP w n) (fun i _=>n-(intOf i).toNat)
 case atStart=>exact⟨_,0,Z,J0 _,Z,JO _ _⟩
 case round =>
  obtain⟨e,k,rfl,hk,rfl,s⟩:=hrel
  by_cases M:k<n
  ·obtain⟨x,N⟩:∃x,l[k]?=A x:=⟨_,JR (by rw[L.o];exact M)⟩;have y:=Rd.X (T.o e s) N;rw[L.o]at y;obtain⟨b,off,cap,vs,P,_,_,_,_,B,d⟩:=y;injection P with e1 _ e3
   subst e1;subst e3;have d:∀m z,vs[m]?=A z→e.cell? ⟨b,off+k*1+m,Y⟩=A z:=d;have f:=Rd.X (V.o e s) N;rw[L.o]at f;obtain⟨b',g,X,Q,C,_,_,_,_,j,a⟩:=f;injection C with R _ S
   subst R;subst S;have a:∀m z,Q[m]?=A z→e.cell? ⟨b',g+k*1+m,Y⟩=A z:=a;obtain⟨rfl,_⟩:=id B;obtain⟨rfl,_⟩:=id j;have d0:e.cell? ⟨b,off+k,Y⟩=A (I U x):=by
    have:=d 0 _ Z
    simpa using this
   have e0:e.cell? ⟨b',g+k,Y⟩=A (I U x):=by
    have:=a 0 _ Z
    simpa using this
   have D:Kr e e.drew:=(JO _ e).drew;have t:=Hd (s.trans (D.mono s.size));have af:(0:Int)≤k:=by omega
   have aq:(k:Int)<n:=by omega
   clear B j d a N D s
   go_wp2
   go_still_tail 8,(by kernel_rfl)
   change wpList _ _ _ _ _ e.drew;generalize e.drew=W2 at *;clear d0 e0;go_wp2_with fail
   exact⟨⟨_,k+1,Z,by omega,by go_num,t.o⟩,by simp[intOf];omega⟩
  ·obtain rfl:k=n:=by omega
   have t:=Hd s;clear s
   go_wp2
   go_ret;exact⟨Z,t.o⟩
theorem pB:kE aG 84:=by
 intro x vs K w z q;obtain⟨_,_,Q,rfl,B⟩:=bW.1 z;obtain⟨_,_,L,rfl,p⟩:=bW.1 q;obtain⟨g,h,k⟩:=Rd.q B;obtain⟨b,c,d⟩:=Rd.q p;obtain⟨a,f⟩:=zzy (x.c.length);rw[f]at k;subst k;rw[f]at d;subst d;obtain⟨l,i⟩:=zzx ((w.alloc (r7 #[I U x.id,I U x.u,O g a h] 47)).alloc (r7 #[I U x.id,I U x.u,O b a c] 47));obtain⟨r,s,_⟩:=bc w (r7 #[I U x.id,I U x.u,O g a h] 47) (r7 #[I U x.id,I U x.u,O b a c] 47);rw[←i]at r s;have t:Kr w l:=by rw[i];exact ((JO _ w).alloc (JM _) _).alloc (by simp) _
 have M:=Hd (fun W (n:Kr l W)=>t.trans (n.mono t.size));have N:=Hd (fun W (n:Kr l W)=>aa n r (JL.1 r).1);have P:=Hd (fun W (n:Kr l W)=>aa n s (JL.1 s).1);have u:=Hd (fun W (n:Kr l W)=>mZ x.c _ _ W (al (al B t) n) (al (al p t) n));have v:=Hd i;obtain⟨D,E,x2,_⟩:=aL r;obtain⟨F,G,H,_⟩:=aL s;clear r s t i B p f
 show vv va 84 #[wP #[I U x.id,I U x.u,O g a h],wP #[I U x.id,I U x.u,O b a c]] w (dH w)
 go_enter Tryz.func84,Tryz.ntmps84
 go_upto_region 1 with fail
 change Code.wp _ _ _ _ ((w.alloc (r7 #[I U x.id,I U x.u,O g a h] 47)).alloc (r7 #[I U x.id,I U x.u,O b a c] 47));rw[←v.o];clear v;go_wp2_with fail
 refine (u.o l (JO _ _)).mono ?_;rintro e W2 ⟨rfl,y⟩;have j:=y;have C:=Hd j;clear D E x2 F G H;obtain⟨D,E,x2,_⟩:=aL (N.o W2 j);obtain⟨F,G,H,_⟩:=aL (P.o W2 j);clear y j u;go_wp2_with fail
 go_ret;exact⟨Z,M.o _ C.o⟩
theorem wl:kE dx 85:=by
 intro x vs H w z q;obtain⟨_,P,rfl,B⟩:=gz.1 z;obtain⟨_,K,rfl,p⟩:=gz.1 q;obtain⟨g,h,k⟩:=Rd.q B;obtain⟨b,c,d⟩:=Rd.q p;obtain⟨a,f⟩:=zzy (x.b.length);rw[f]at k;subst k;rw[f]at d;subst d;obtain⟨l,i⟩:=zzx ((w.alloc (r7 #[I U x.a,O g a h] 50)).alloc (r7 #[I U x.a,O b a c] 50));obtain⟨r,s,_⟩:=bc w (r7 #[I U x.a,O g a h] 50) (r7 #[I U x.a,O b a c] 50);rw[←i]at r s;have t:Kr w l:=by rw[i];exact ((JO _ w).alloc (JM _) _).alloc (by simp) _
 have L:=Hd (fun W (n:Kr l W)=>t.trans (n.mono t.size));have M:=Hd (fun W (n:Kr l W)=>aa n r (JL.1 r).1);have N:=Hd (fun W (n:Kr l W)=>aa n s (JL.1 s).1);have u:=Hd (fun W (n:Kr l W)=>yo x.b _ _ W (al (al B t) n) (al (al p t) n));have v:=Hd i;obtain⟨D,E,_⟩:=cj r;obtain⟨F,G,_⟩:=cj s;clear r s t i B p f
 show vv va 85 #[wP #[I U x.a,O g a h],wP #[I U x.a,O b a c]] w (dH w)
 go_enter Tryz.func85,Tryz.ntmps85
 go_upto_region 1 with fail
 change Code.wp _ _ _ _ ((w.alloc (r7 #[I U x.a,O g a h] 50)).alloc (r7 #[I U x.a,O b a c] 50));rw[←v.o];clear v;go_wp2_with fail
 refine (u.o l (JO _ _)).mono ?_;rintro e W2 ⟨rfl,y⟩;have j:=y;have C:=Hd j;clear D E F G;obtain⟨D,E,_⟩:=cj (M.o W2 j);obtain⟨F,G,_⟩:=cj (N.o W2 j);clear y j u;go_wp2_with fail
 go_ret;exact⟨Z,L.o _ C.o⟩
theorem oW(hf:kE aG 84)(l:List ai)(u v:tS)(w:J)(hu:aG.h w (fun b=>b<w.heap.size) l u)(hv:aG.h w (fun b=>b<w.heap.size) l v):vv va 63 #[u,v] w (dH w):=by
 obtain⟨p,c,ad⟩:=Rd.q hu;obtain⟨q,c',af⟩:=Rd.q hv;have L:=Rd.sb hu;subst ad;subst af;obtain⟨n,hn⟩:=zzy (l.length);have HU:=Hd (fun W (hW:Kr w W)=>Rd.sm hu (fun _ h=>h) hW);have HV:=Hd (fun W (hW:Kr w W)=>Rd.sm hv (fun _ h=>h) hW);have HF:=Hd hf;rw[hn]at HU HV L ⊢;have HN:=Hd hn;have bg:(n:Int)≤9223372036854775807:=by unfold maxLen at L;omega
 clear hu hv hn L hf
 go_enter Tryz.func63,Tryz.ntmps63
 go_wp2
 go_loopw [5] (sP w n) (fun i _=>n-(intOf i).toNat)
 case atStart=>exact⟨_,0,Z,J0 _,Z,JO _ _⟩
 case round =>
  obtain⟨f,k,rfl,hk,rfl,y⟩:=hrel
  by_cases aq:k<n
  ·obtain⟨x,hx⟩:∃x,l[k]?=A x:=⟨_,JR (by rw[HN.o];exact aq)⟩;have R:=Rd.X (HU.o f y) hx;rw[HN.o]at R;obtain⟨b,off,cap,vs,ar,_,_,_,_,M,d⟩:=R;injection ar with e1 _ e3
   subst e1;subst e3;have d:∀m z,vs[m]?=A z→f.cell? ⟨b,off+k*3+m,Y⟩=A z:=d;have E:=Rd.X (HV.o f y) hx;rw[HN.o]at E;obtain⟨b',g,bd,a1,S,_,_,_,_,j,a⟩:=E;injection S with a6 _ ba
   subst a6;subst ba;have a:∀m z,a1[m]?=A z→f.cell? ⟨b',g+k*3+m,Y⟩=A z:=a;have F:=M;have r:=j;obtain⟨_,_,s0,rfl,hs⟩:=bW.1 M;obtain⟨T,V,G⟩:=Rd.q hs;obtain⟨_,_,bk,rfl,X⟩:=bW.1 j;obtain⟨H,K,s⟩:=Rd.q X;obtain⟨B,t⟩:=zzy (x.c.length);rw[t]at G;subst G;rw[t]at s;subst s;have d0:f.cell? ⟨b,off+k*3,Y⟩=A (I U x.id):=d 0 _ Z;have d1:f.cell? ⟨b,off+k*3+1,Y⟩=A (I U x.u):=d 1 _ Z;have d2:f.cell? ⟨b,off+k*3+2,Y⟩=A (O T B V):=d 2 _ Z;have e0:f.cell? ⟨b',g+k*3,Y⟩=A (I U x.id):=a 0 _ Z;have e1:f.cell? ⟨b',g+k*3+1,Y⟩=A (I U x.u):=a 1 _ Z;have e2:f.cell? ⟨b',g+k*3+2,Y⟩=A (O H B K):=a 2 _ Z;have C:Kr f f.drew:=(JO _ f).drew;have N:∀b,(b<w.heap.size)→b<f.drew.heap.size:=fun b h=>JS h (JU y.size C.size)
   have P:∀b,b<w.heap.size→∀o,f.heap[b]?=A o→f.drew.heap[b]?=A o:=fun b h o ho=>(C.block b (JS h y.size)).trans ho
   have Q:Hid (vv va 84 #[wP #[I U x.id,I U x.u,O T B V],wP #[I U x.id,I U x.u,O H B K]] f.drew (dH f.drew)):=HF.o x _ _ f.drew (aG.N N (aG.K P F)) (aG.N N (aG.K P r));have D:=Hd (y.trans (C.mono y.size));have bl:(0:Int)≤k:=by omega
   have bm:(k:Int)<n:=by omega
   clear M j d a hx C y hs X t F r N P
   go_wp2
   go_still_tail 8,(by kernel_rfl)
   change wpList _ _ _ _ _ f.drew;generalize f.drew=W2 at *;clear d0 d1 d2 e0 e1 e2;go_wp2_with fail
   refine Q.o.mono ?_;rintro e W3 ⟨rfl,bb⟩;go_wp2_with fail
   exact⟨⟨_,k+1,Z,by omega,by go_num,D.o.trans (bb.mono D.o.size)⟩,by simp[intOf];omega⟩
  ·obtain rfl:k=n:=by omega
   have D:=Hd y;clear y
   go_wp2
   go_ret;exact⟨Z,D.o⟩
theorem uA(hf:kE dx 85)(l:List io)(u v:tS)(w:J)(hu:dx.h w (fun b=>b<w.heap.size) l u)(hv:dx.h w (fun b=>b<w.heap.size) l v):vv va 64 #[u,v] w (dH w):=by
 obtain⟨p,c,ad⟩:=Rd.q hu;obtain⟨q,c',af⟩:=Rd.q hv;have L:=Rd.sb hu;subst ad;subst af;obtain⟨n,hn⟩:=zzy (l.length);have HU:=Hd (fun W (hW:Kr w W)=>Rd.sm hu (fun _ h=>h) hW);have HV:=Hd (fun W (hW:Kr w W)=>Rd.sm hv (fun _ h=>h) hW);have HF:=Hd hf;rw[hn]at HU HV L ⊢;have HN:=Hd hn;have bg:(n:Int)≤9223372036854775807:=by unfold maxLen at L;omega
 clear hu hv hn L hf
 go_enter Tryz.func64,Tryz.ntmps64
 go_wp2
 go_loopw [5] (sP w n) (fun i _=>n-(intOf i).toNat)
 case atStart=>exact⟨_,0,Z,J0 _,Z,JO _ _⟩
 case round =>
  obtain⟨f,k,rfl,hk,rfl,y⟩:=hrel
  by_cases aq:k<n
  ·obtain⟨x,hx⟩:∃x,l[k]?=A x:=⟨_,JR (by rw[HN.o];exact aq)⟩;have R:=Rd.X (HU.o f y) hx;rw[HN.o]at R;obtain⟨b,off,cap,vs,ar,_,_,_,_,M,d⟩:=R;injection ar with e1 _ e3
   subst e1;subst e3;have d:∀m z,vs[m]?=A z→f.cell? ⟨b,off+k*2+m,Y⟩=A z:=d;have E:=Rd.X (HV.o f y) hx;rw[HN.o]at E;obtain⟨b',g,bd,a1,S,_,_,_,_,j,a⟩:=E;injection S with a6 _ ba
   subst a6;subst ba;have a:∀m z,a1[m]?=A z→f.cell? ⟨b',g+k*2+m,Y⟩=A z:=a;have F:=M;have r:=j;obtain⟨_,s0,rfl,hs⟩:=gz.1 M;obtain⟨T,V,G⟩:=Rd.q hs;obtain⟨_,bk,rfl,X⟩:=gz.1 j;obtain⟨H,K,s⟩:=Rd.q X;obtain⟨B,t⟩:=zzy (x.b.length);rw[t]at G;subst G;rw[t]at s;subst s;have d0:f.cell? ⟨b,off+k*2,Y⟩=A (I U x.a):=d 0 _ Z;have d1:f.cell? ⟨b,off+k*2+1,Y⟩=A (O T B V):=d 1 _ Z;have e0:f.cell? ⟨b',g+k*2,Y⟩=A (I U x.a):=a 0 _ Z;have e1:f.cell? ⟨b',g+k*2+1,Y⟩=A (O H B K):=a 1 _ Z;have C:Kr f f.drew:=(JO _ f).drew;have N:∀b,(b<w.heap.size)→b<f.drew.heap.size:=fun b h=>JS h (JU y.size C.size)
   have P:∀b,b<w.heap.size→∀o,f.heap[b]?=A o→f.drew.heap[b]?=A o:=fun b h o ho=>(C.block b (JS h y.size)).trans ho
   have Q:Hid (vv va 85 #[wP #[I U x.a,O T B V],wP #[I U x.a,O H B K]] f.drew (dH f.drew)):=HF.o x _ _ f.drew (dx.N N (dx.K P F)) (dx.N N (dx.K P r));have D:=Hd (y.trans (C.mono y.size));have bl:(0:Int)≤k:=by omega
   have bm:(k:Int)<n:=by omega
   clear M j d a hx C y hs X t F r N P
   go_wp2
   go_still_tail 8,(by kernel_rfl)
   change wpList _ _ _ _ _ f.drew;generalize f.drew=W2 at *;clear d0 d1 e0 e1;go_wp2_with fail
   refine Q.o.mono ?_;rintro e W3 ⟨rfl,bb⟩;go_wp2_with fail
   exact⟨⟨_,k+1,Z,by omega,by go_num,D.o.trans (bb.mono D.o.size)⟩,by simp[intOf];omega⟩
  ·obtain rfl:k=n:=by omega
   have D:=Hd y;clear y
   go_wp2
   go_ret;exact⟨Z,D.o⟩
theorem wI:kE bJ 86:=by
 intro x vs aq w ad F;obtain⟨_,_,s0,s1,rfl,hs,ht⟩:=cY.1 ad;obtain⟨_,_,ar,a1,rfl,B,C⟩:=cY.1 F;obtain⟨n,p,y⟩:=Rd.q hs;obtain⟨c,d,h⟩:=Rd.q B;obtain⟨a,i⟩:=zzy (x.a.length);rw[i]at y;subst y;rw[i]at h;subst h;obtain⟨q,r,z⟩:=Rd.q ht;obtain⟨f,g,j⟩:=Rd.q C;obtain⟨b,k⟩:=zzy (x.b.length);rw[k]at z;subst z;rw[k]at j;subst j;obtain⟨s,t⟩:=zzx ((w.alloc (r7 #[I U x.h,I U x.u,O n a p,O q b r] 52)).alloc (r7 #[I U x.h,I U x.u,O c a d,O f b g] 52));obtain⟨G,H,_⟩:=bc w (r7 #[I U x.h,I U x.u,O n a p,O q b r] 52) (r7 #[I U x.h,I U x.u,O c a d,O f b g] 52);rw[←t]at G H;have D:Kr w s:=by rw[t];exact ((JO _ w).alloc (JM _) _).alloc (by simp) _
 have HB:=Hd (fun W (l:Kr s W)=>D.trans (l.mono D.size));have HX:=Hd (fun W (l:Kr s W)=>aa l G (JL.1 G).1);have HY:=Hd (fun W (l:Kr s W)=>aa l H (JL.1 H).1);have K:=Hd (fun W (l:Kr s W)=>oW pB x.a _ _ W (al (al hs D) l) (al (al B D) l));have L:=Hd (fun W (l:Kr s W)=>mZ x.b _ _ W (al (al ht D) l) (al (al C D) l));have M:=Hd t;obtain⟨Q,R,x2,x3,_⟩:=bC G;obtain⟨S,T,V,X,_⟩:=bC H;clear G H D t hs B ht C i k
 show vv va 86 #[wP #[I U x.h,I U x.u,O n a p,O q b r],wP #[I U x.h,I U x.u,O c a d,O f b g]] w (dH w)
 go_enter Tryz.func86,Tryz.ntmps86
 go_upto_region 1 with fail
 change Code.wp _ _ _ _ ((w.alloc (r7 #[I U x.h,I U x.u,O n a p,O q b r] 52)).alloc (r7 #[I U x.h,I U x.u,O c a d,O f b g] 52));rw[←M.o];clear M;go_wp2_with fail
 refine (K.o s (JO _ _)).mono ?_;rintro e W2 ⟨rfl,N⟩;have u:=N;have E:=Hd u;clear Q R x2 x3 S T V X;obtain⟨Q,R,x2,x3,_⟩:=bC (HX.o W2 u);obtain⟨S,T,V,X,_⟩:=bC (HY.o W2 u);clear N u K;go_wp2_with fail
 refine (L.o W2 E.o).mono ?_;rintro e W3 ⟨rfl,P⟩;have v:=E.o.trans (P.mono E.o.size);have af:=Hd v;clear Q R x2 x3 S T V X;obtain⟨Q,R,x2,x3,_⟩:=bC (HX.o W3 v);obtain⟨S,T,V,X,_⟩:=bC (HY.o W3 v);clear P v L;go_wp2_with fail
 go_ret;exact⟨Z,HB.o _ af.o⟩
theorem sX:kE ea 65:=by
 intro x vs ad w S F;obtain⟨_,_,rs,rfl,G⟩:=gx.1 S;have H:=G;obtain⟨_,_,s0,s1,rfl,X,ht⟩:=cY.1 G;obtain⟨_,_,af,rfl,z⟩:=gx.1 F;have E:=z;obtain⟨_,_,aq,ar,rfl,K,L⟩:=cY.1 z;obtain⟨r,s,B⟩:=Rd.q X;obtain⟨d,f,j⟩:=Rd.q K;obtain⟨a,k⟩:=zzy (x.a.a.length);rw[k]at B;subst B;rw[k]at j;subst j;obtain⟨t,u,C⟩:=Rd.q ht;obtain⟨g,i,l⟩:=Rd.q L;obtain⟨c,n⟩:=zzy (x.a.b.length);rw[n]at C;subst C;rw[n]at l;subst l;obtain⟨D,v⟩:=zzx ((w.alloc (r7 #[I U x.id,I U x.b,I U x.a.h,I U x.a.u,O r a s,O t c u] 54)).alloc (r7 #[I U x.id,I U x.b,I U x.a.h,I U x.a.u,O d a f,O g c i] 54));obtain⟨M,N,_⟩:=bc w (r7 #[I U x.id,I U x.b,I U x.a.h,I U x.a.u,O r a s,O t c u] 54) (r7 #[I U x.id,I U x.b,I U x.a.h,I U x.a.u,O d a f,O g c i] 54);rw[←v]at M N;have p:Kr w D:=by rw[v];exact ((JO _ w).alloc (JM _) _).alloc (by simp) _
 have HB:=Hd (fun W (q:Kr D W)=>p.trans (q.mono p.size));have HX:=Hd (fun W (q:Kr D W)=>aa q M (JL.1 M).1);have HY:=Hd (fun W (q:Kr D W)=>aa q N (JL.1 N).1);have P:=Hd (fun W (q:Kr D W)=>wI x.a _ _ W (bJ.N (fun b (h:b<w.heap.size)=>JS h (p.trans (q.mono p.size)).size) (bJ.K (fun b (h:b<w.heap.size) o T=>((p.trans (q.mono p.size)).block b h).trans T) H)) (bJ.N (fun b (h:b<w.heap.size)=>JS h (p.trans (q.mono p.size)).size) (bJ.K (fun b (h:b<w.heap.size) o T=>((p.trans (q.mono p.size)).block b h).trans T) E)));have Q:=Hd v;obtain⟨⟨x0,x1,x2,x3,x4,x5⟩,_⟩:=aC M;obtain⟨⟨y0,y1,y2,y3,y4,y5⟩,_⟩:=aC N;clear M N p v X K ht L k n
 show vv va 65 #[wP #[I U x.id,I U x.b,I U x.a.h,I U x.a.u,O r a s,O t c u],wP #[I U x.id,I U x.b,I U x.a.h,I U x.a.u,O d a f,O g c i]] w (dH w)
 go_enter Tryz.func65,Tryz.ntmps65
 go_upto_region 1 with fail
 change Code.wp _ _ _ _ ((w.alloc (r7 #[I U x.id,I U x.b,I U x.a.h,I U x.a.u,O r a s,O t c u] 54)).alloc (r7 #[I U x.id,I U x.b,I U x.a.h,I U x.a.u,O d a f,O g c i] 54));rw[←Q.o];clear Q;go_wp2_with fail
 refine (P.o D (JO _ _)).mono ?_;rintro e W2 ⟨rfl,R⟩;have y:=R;have V:=Hd y;clear x0 x1 x2 x3 x4 x5 y0 y1 y2 y3 y4 y5;obtain⟨⟨x0,x1,x2,x3,x4,x5⟩,_⟩:=aC (HX.o W2 y);obtain⟨⟨y0,y1,y2,y3,y4,y5⟩,_⟩:=aC (HY.o W2 y);clear R y P;go_wp2_with fail
 go_ret;exact⟨Z,HB.o _ V.o⟩
theorem sj(hf:kE ea 65)(l:List dM)(u v:tS)(w:J)(hu:ea.h w (fun b=>b<w.heap.size) l u)(hv:ea.h w (fun b=>b<w.heap.size) l v):vv va 39 #[u,v] w (dH w):=by
 obtain⟨p,c,bk⟩:=Rd.q hu;obtain⟨q,c',bl⟩:=Rd.q hv;have S:=Rd.sb hu;subst bk;subst bl;obtain⟨n,hn⟩:=zzy (l.length);have HU:=Hd (fun W (hW:Kr w W)=>Rd.sm hu (fun _ h=>h) hW);have HV:=Hd (fun W (hW:Kr w W)=>Rd.sm hv (fun _ h=>h) hW);have HF:=Hd hf;rw[hn]at HU HV S ⊢;have HN:=Hd hn;have b2:(n:Int)≤9223372036854775807:=by unfold maxLen at S;omega
 clear hu hv hn S hf
 go_enter Tryz.func39,Tryz.ntmps39
 go_wp2
 go_loopw [5] (sP w n) (fun i _=>n-(intOf i).toNat)
 case atStart=>exact⟨_,0,Z,J0 _,Z,JO _ _⟩
 case round =>
  obtain⟨f,k,rfl,hk,rfl,C⟩:=hrel
  by_cases bm:k<n
  ·obtain⟨x,hx⟩:∃x,l[k]?=A x:=⟨_,JR (by rw[HN.o];exact bm)⟩;have af:=Rd.X (HU.o f C) hx;rw[HN.o]at af;obtain⟨b,off,cap,vs,bn,_,_,_,_,T,d⟩:=af;injection bn with e1 _ e3
   subst e1;subst e3;have d:∀m z,vs[m]?=A z→f.cell? ⟨b,off+k*6+m,Y⟩=A z:=d;have H:=Rd.X (HV.o f C) hx;rw[HN.o]at H;obtain⟨b',g,b1,bq,aq,_,_,_,_,j,a⟩:=H;injection aq with bt _ bB
   subst bt;subst bB;have a:∀m z,bq[m]?=A z→f.cell? ⟨b',g+k*6+m,Y⟩=A z:=a;have K:=T;have r:=j;obtain⟨_,_,rs,rfl,bR⟩:=gx.1 T;obtain⟨_,_,s0,s1,rfl,hs,ht⟩:=cY.1 bR;obtain⟨ar,a1,L⟩:=Rd.q hs;obtain⟨a6,ba,M⟩:=Rd.q ht;obtain⟨_,_,b3,rfl,bb⟩:=gx.1 j;obtain⟨_,_,b4,b5,rfl,bd,bg⟩:=cY.1 bb;obtain⟨N,P,s⟩:=Rd.q bd;obtain⟨Q,R,t⟩:=Rd.q bg;obtain⟨D,y⟩:=zzy (x.a.a.length);rw[y]at L;subst L;rw[y]at s;subst s;obtain⟨E,B⟩:=zzy (x.a.b.length);rw[B]at M;subst M;rw[B]at t;subst t;have d0:f.cell? ⟨b,off+k*6,Y⟩=A (I U x.id):=d 0 _ Z;have d1:f.cell? ⟨b,off+k*6+1,Y⟩=A (I U x.b):=d 1 _ Z;have d2:f.cell? ⟨b,off+k*6+2,Y⟩=A (I U x.a.h):=d 2 _ Z;have d3:f.cell? ⟨b,off+k*6+3,Y⟩=A (I U x.a.u):=d 3 _ Z;have d4:f.cell? ⟨b,off+k*6+4,Y⟩=A (O ar D a1):=d 4 _ Z;have d5:f.cell? ⟨b,off+k*6+5,Y⟩=A (O a6 E ba):=d 5 _ Z;have e0:f.cell? ⟨b',g+k*6,Y⟩=A (I U x.id):=a 0 _ Z;have e1:f.cell? ⟨b',g+k*6+1,Y⟩=A (I U x.b):=a 1 _ Z;have e2:f.cell? ⟨b',g+k*6+2,Y⟩=A (I U x.a.h):=a 2 _ Z;have e3:f.cell? ⟨b',g+k*6+3,Y⟩=A (I U x.a.u):=a 3 _ Z;have e4:f.cell? ⟨b',g+k*6+4,Y⟩=A (O N D P):=a 4 _ Z;have e5:f.cell? ⟨b',g+k*6+5,Y⟩=A (O Q E R):=a 5 _ Z;have F:Kr f f.drew:=(JO _ f).drew;have V:∀b,(b<w.heap.size)→b<f.drew.heap.size:=fun b h=>JS h (JU C.size F.size)
   have X:∀b,b<w.heap.size→∀o,f.heap[b]?=A o→f.drew.heap[b]?=A o:=fun b h o ho=>(F.block b (JS h C.size)).trans ho
   have ad:Hid (vv va 65 #[wP #[I U x.id,I U x.b,I U x.a.h,I U x.a.u,O ar D a1,O a6 E ba],wP #[I U x.id,I U x.b,I U x.a.h,I U x.a.u,O N D P,O Q E R]] f.drew (dH f.drew)):=HF.o x _ _ f.drew (ea.N V (ea.K X K)) (ea.N V (ea.K X r));have G:=Hd (C.trans (F.mono C.size));have b6:(0:Int)≤k:=by omega
   have b7:(k:Int)<n:=by omega
   clear T j d a hx F C hs bd ht bg y B K r V X
   go_wp2
   go_still_tail 8,(by kernel_rfl)
   change wpList _ _ _ _ _ f.drew;generalize f.drew=W2 at *;clear d0 d1 d2 d3 d4 d5 e0 e1 e2 e3 e4 e5;go_wp2_with fail
   refine ad.o.mono ?_;rintro e W3 ⟨rfl,b0⟩;go_wp2_with fail
   exact⟨⟨_,k+1,Z,by omega,by go_num,G.o.trans (b0.mono G.o.size)⟩,by simp[intOf];omega⟩
  ·obtain rfl:k=n:=by omega
   have G:=Hd C;clear C
   go_wp2
   go_ret;exact⟨Z,G.o⟩
theorem wE{x:au}{s0 G s1 H:tS}{w:J}(hs:aG.h w (fun b=>b<w.heap.size) x.a s0)(C:aG.h w (fun b=>b<w.heap.size) x.a G)(ht:dx.h w (fun b=>b<w.heap.size) x.d s1)(D:dx.h w (fun b=>b<w.heap.size) x.d H):vv va 38 #[wP #[r9 x.c,I U x.g,s0,s1],wP #[r9 x.c,I U x.g,G,H]] w (dH w):=by
 obtain⟨p,q,z⟩:=Rd.q hs;obtain⟨d,f,i⟩:=Rd.q C;obtain⟨a,j⟩:=zzy (x.a.length);rw[j]at z;subst z;rw[j]at i;subst i;obtain⟨r,s,B⟩:=Rd.q ht;obtain⟨g,h,k⟩:=Rd.q D;obtain⟨c,l⟩:=zzy (x.d.length);rw[l]at B;subst B;rw[l]at k;subst k;obtain⟨t,u⟩:=zzx ((w.alloc (r7 #[r9 x.c,I U x.g,O p a q,O r c s] 25)).alloc (r7 #[r9 x.c,I U x.g,O d a f,O g c h] 25));obtain⟨K,L,_⟩:=bc w (r7 #[r9 x.c,I U x.g,O p a q,O r c s] 25) (r7 #[r9 x.c,I U x.g,O d a f,O g c h] 25);rw[←u]at K L;have E:Kr w t:=by rw[u];exact ((JO _ w).alloc (JM _) _).alloc (by simp) _
 have HB:=Hd (fun W (n:Kr t W)=>E.trans (n.mono E.size));have HX:=Hd (fun W (n:Kr t W)=>aa n K (JL.1 K).1);have HY:=Hd (fun W (n:Kr t W)=>aa n L (JL.1 L).1);have M:=Hd (fun W (n:Kr t W)=>oW pB x.a _ _ W (al (al hs E) n) (al (al C E) n));have N:=Hd (fun W (n:Kr t W)=>uA wl x.d _ _ W (al (al ht E) n) (al (al D E) n));have P:=Hd u;obtain⟨S,T,x2,x3,_⟩:=bC K;obtain⟨V,X,y2,y3,_⟩:=bC L;clear K L E u hs C ht D j l
 show vv va 38 #[wP #[r9 x.c,I U x.g,O p a q,O r c s],wP #[r9 x.c,I U x.g,O d a f,O g c h]] w (dH w)
 go_enter Tryz.func38,Tryz.ntmps38
 go_upto_region 1 with fail
 change Code.wp _ _ _ _ ((w.alloc (r7 #[r9 x.c,I U x.g,O p a q,O r c s] 25)).alloc (r7 #[r9 x.c,I U x.g,O d a f,O g c h] 25));rw[←P.o];clear P;go_wp2_with fail
 refine (M.o t (JO _ _)).mono ?_;rintro e W2 ⟨rfl,Q⟩;have v:=Q;have F:=Hd v;clear S T x2 x3 V X y2 y3;obtain⟨S,T,x2,x3,_⟩:=bC (HX.o W2 v);obtain⟨V,X,y2,y3,_⟩:=bC (HY.o W2 v);clear Q v M;go_wp2_with fail
 refine (N.o W2 F.o).mono ?_;rintro e W3 ⟨rfl,R⟩;have y:=F.o.trans (R.mono F.o.size);have ad:=Hd y;clear S T x2 x3 V X y2 y3;obtain⟨S,T,x2,x3,_⟩:=bC (HX.o W3 y);obtain⟨V,X,y2,y3,_⟩:=bC (HY.o W3 y);clear R y N;go_wp2_with fail
 go_ret;exact⟨Z,HB.o _ ad.o⟩
theorem md:kE bG 10:=by
 intro x vs a6 w ar R;obtain⟨_,_,_,s0,s1,s2,rfl,hs,ht,hq⟩:=fC.1 ar;obtain⟨_,_,_,ba,bb,bd,rfl,M,N,P⟩:=fC.1 R;obtain⟨t,u,H⟩:=Rd.q hs;obtain⟨d,f,l⟩:=Rd.q M;obtain⟨a,n⟩:=zzy (x.a.length);rw[n]at H;subst H;rw[n]at l;subst l;obtain⟨v,y,K⟩:=Rd.q ht;obtain⟨g,h,p⟩:=Rd.q N;obtain⟨b,q⟩:=zzy (x.d.length);rw[q]at K;subst K;rw[q]at p;subst p;obtain⟨z,B,L⟩:=Rd.q hq;obtain⟨i,j,r⟩:=Rd.q P;obtain⟨c,s⟩:=zzy (x.e.length);rw[s]at L;subst L;rw[s]at r;subst r;obtain⟨C,D⟩:=zzx ((w.alloc (r7 #[r9 x.c,I U x.g,O t a u,O v b y,O z c B,I U x.h] 28)).alloc (r7 #[r9 x.c,I U x.g,O d a f,O g b h,O i c j,I U x.h] 28));obtain⟨S,T,_⟩:=bc w (r7 #[r9 x.c,I U x.g,O t a u,O v b y,O z c B,I U x.h] 28) (r7 #[r9 x.c,I U x.g,O d a f,O g b h,O i c j,I U x.h] 28);rw[←D]at S T;have E:Kr w C:=by rw[D];exact ((JO _ w).alloc (JM _) _).alloc (by simp) _
 have HB:=Hd (fun W (k:Kr C W)=>E.trans (k.mono E.size));have HX:=Hd (fun W (k:Kr C W)=>aa k S (JL.1 S).1);have HY:=Hd (fun W (k:Kr C W)=>aa k T (JL.1 T).1);have V:=Hd (fun W (k:Kr C W)=>wE (x:=x) (w:=W) (al (al hs E) k) (al (al M E) k) (al (al ht E) k) (al (al N E) k));have X:=Hd (fun W (k:Kr C W)=>sj sX x.e _ _ W (al (al hq E) k) (al (al P E) k));have ad:=Hd D;obtain⟨⟨x0,x1,x2,x3,x4,x5⟩,_⟩:=aC S;obtain⟨⟨y0,y1,y2,y3,y4,y5⟩,_⟩:=aC T;clear S T E D hs M ht N hq P n q s
 show vv va 10 #[wP #[r9 x.c,I U x.g,O t a u,O v b y,O z c B,I U x.h],wP #[r9 x.c,I U x.g,O d a f,O g b h,O i c j,I U x.h]] w (dH w)
 go_enter Tryz.func10,Tryz.ntmps10
 go_upto_region 1 with fail
 change Code.wp _ _ _ _ ((w.alloc (r7 #[r9 x.c,I U x.g,O t a u,O v b y,O z c B,I U x.h] 28)).alloc (r7 #[r9 x.c,I U x.g,O d a f,O g b h,O i c j,I U x.h] 28));rw[←ad.o];clear ad;go_wp2_with fail
 refine (V.o C (JO _ _)).mono ?_;rintro e W2 ⟨rfl,af⟩;have F:=af;have Q:=Hd F;clear x0 x1 x2 x3 x4 x5 y0 y1 y2 y3 y4 y5;obtain⟨⟨x0,x1,x2,x3,x4,x5⟩,_⟩:=aC (HX.o W2 F);obtain⟨⟨y0,y1,y2,y3,y4,y5⟩,_⟩:=aC (HY.o W2 F);clear af F V;go_wp2_with fail
 refine (X.o W2 Q.o).mono ?_;rintro e W3 ⟨rfl,aq⟩;have G:=Q.o.trans (aq.mono Q.o.size);have a1:=Hd G;clear x0 x1 x2 x3 x4 x5 y0 y1 y2 y3 y4 y5;obtain⟨⟨x0,x1,x2,x3,x4,x5⟩,_⟩:=aC (HX.o W3 G);obtain⟨⟨y0,y1,y2,y3,y4,y5⟩,_⟩:=aC (HY.o W3 G);clear aq G X;go_wp2_with fail
 go_ret;exact⟨Z,HB.o _ a1.o⟩
