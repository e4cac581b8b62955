/- Parts of one proof, joined; conditions stand in each theorem. -/
import Derived.Test.YtmpekinjoeibbaaGreatDoorGP
open Option renaming some→A,none→V
open Go.Value renaming slice→O,pointer→tv,agg→s3
open Go.Obj renaming cells→p8
open Go renaming Addr→vv,World→p7,Value→r3,Calls→r9
open Go.Proofs.Tryz renaming prog→r6
namespace Go.Proofs.YtmpekinjoeibbaaGreatDoor
set_option maxHeartbeats 4000000
set_option maxRecDepth 100000
open Go.RowKit
theorem uy:(Tryz.prog.info? 43).map (fun i=>(i.zero,i.size,i.bytes))=A (A (O V 0 0),1,24):=by kernel_rfl
theorem yY{α:Type}{r:Rd α}{xs:List α}{Kp:Nat→Prop}(G:r.n=tyZ 11)(H:Kp 11):jL 242 r 11 (fun _=>1) Kp xs:=by
 intro v F Bg B L w g hF e;have k:Kd 11:=by unfold Kd;omega
 have hB:=e.B;obtain⟨q,m,K,ys,hm,y9,M,l⟩:=hZ k e.bag e.B;obtain⟨p,s,rfl⟩:=Rd.b g.h;obtain⟨n,i⟩:=zzy (xs.length);obtain⟨N,t,y,z,C⟩:=info_parts uy;have b:∀j u,[O p n s][j]?=A u→(w.alloc (p8 #[O p n s] 43)).cell? ((⟨w.heap.size,0,V⟩:vv).add j)=A u:=dp w _ _;have P:n≤20000:=by rw[←i];exact e.len (fun _=>ET _)
 have Q:m≤60000:=by rw[hm];exact e.y _
 rw[i]at g ⊢;obtain⟨R,D,S,T,U,X⟩:=zz6 g b G H i k;clear g hF e b i hm G H k
 go_enter Tryz.func242,Tryz.ntmps242
 go_wp2_with (at_builtin;go_must (refine aA _ Z (.tmp 8) (.tmp 10) 113 Z B 43 N _ 1 24 Tryz.underlying113 t y z C Z (by decide) (O q m K) m ys Z (M.o.alloc _) ⟨w.heap.size,0,V⟩ 1 1 [O p n s] Z Z D.o (by simp[Value.oneCell']) (by unfold maxLen;omega) (by omega) (by simp;omega) (by decide) ?_);intro v9 W2 d a;obtain⟨q9,ad,rfl,z9,af,E⟩:=l.o _ _ _ n d a;clear d a)
 go_returns
 exact aX.one U.o X.o T.o S.o R.o ⟨P,fun h=>absurd h (by decide)⟩ E.o
theorem tq:(Tryz.prog.info? 23).map (fun i=>(i.zero,i.size,i.bytes))=A (A (O V 0 0),1,24):=by kernel_rfl
theorem vQ{α:Type}{r:Rd α}{xs:List α}{Kp:Nat→Prop}(G:r.n=tyZ 14)(H:Kp 14):jL 114 r 14 (fun _=>1) Kp xs:=by
 intro v F Bg B L w g hF e;have k:Kd 14:=by unfold Kd;omega
 have hB:=e.B;obtain⟨q,m,K,ys,hm,y9,M,l⟩:=hZ k e.bag e.B;obtain⟨p,s,rfl⟩:=Rd.b g.h;obtain⟨n,i⟩:=zzy (xs.length);obtain⟨N,t,y,z,C⟩:=info_parts tq;have b:∀j u,[O p n s][j]?=A u→(w.alloc (p8 #[O p n s] 23)).cell? ((⟨w.heap.size,0,V⟩:vv).add j)=A u:=dp w _ _;have P:n≤20000:=by rw[←i];exact e.len (fun _=>ET _)
 have Q:m≤60000:=by rw[hm];exact e.y _
 rw[i]at g ⊢;obtain⟨R,D,S,T,U,X⟩:=zz6 g b G H i k;clear g hF e b i hm G H k
 go_enter Tryz.func114,Tryz.ntmps114
 go_wp2_with (at_builtin;go_must (refine aA _ Z (.tmp 8) (.tmp 10) 116 Z B 23 N _ 1 24 Tryz.underlying116 t y z C Z (by decide) (O q m K) m ys Z (M.o.alloc _) ⟨w.heap.size,0,V⟩ 1 1 [O p n s] Z Z D.o (by simp[Value.oneCell']) (by unfold maxLen;omega) (by omega) (by simp;omega) (by decide) ?_);intro v9 W2 d a;obtain⟨q9,ad,rfl,z9,af,E⟩:=l.o _ _ _ n d a;clear d a)
 go_returns
 exact aX.one U.o X.o T.o S.o R.o ⟨P,fun h=>absurd h (by decide)⟩ E.o
theorem s5:(Tryz.prog.info? 49).map (fun i=>(i.zero,i.size,i.bytes))=A (A (O V 0 0),1,24):=by kernel_rfl
theorem ow{α:Type}{r:Rd α}{c:α→Nat}{xs:List α}{Kp:Nat→Prop}(E:r.n=tyZ 10)(hc:∀x,1≤c x)(hK:Kp 10)(H:∀(k:Nat)(x:α),xs[k]?=A x→jy 243 r c Kp x):jL 244 r 10 c Kp xs:=by
 intro v F Bg B L w T hF t;obtain⟨G,U⟩:=ju T;have X:Kd 10:=by unfold Kd;omega
 have hB:=t.B;obtain⟨q,m,cq,ys,hm,y9,HY,ad⟩:=hZ X t.bag t.B;obtain⟨p,Q,rfl⟩:=Rd.b T.h;obtain⟨n,R⟩:=zzy (xs.length);obtain⟨ti,af,ak,aq,ar⟩:=info_parts s5;have l:∀j u,[O p n Q][j]?=A u→(w.alloc (p8 #[O p n Q] 49)).cell? ((⟨w.heap.size,0,V⟩:vv).add j)=A u:=dp w _ _;have hl:n≤20000:=by rw[←R];exact t.len hc
 have a6:m≤60000:=by rw[hm];exact t.y _
 rw[R]at U ⊢;obtain⟨K,HF,HP,HH,av,HZ,HK⟩:=zz7 U hF t H l E hK;obtain⟨y,HJ⟩:=zz2 R X;clear U T hF t H l R hm E hK X hc
 go_enter Tryz.func244,Tryz.ntmps244
 go_wp2_with (at_builtin;go_must (refine aA _ Z (.tmp 9) (.tmp 11) 112 Z B 49 ti _ 1 24 Tryz.underlying112 af ak aq ar Z (by decide) (O q m cq) m ys Z (HY.o.alloc _) ⟨w.heap.size,0,V⟩ 1 1 [O p n Q] Z Z av.o (by simp[Value.oneCell']) (by unfold maxLen;omega) (by omega) (by simp;omega) (by decide) ?_);intro v9 W2 s d;obtain⟨q9,a7,rfl,z9,a8,N⟩:=ad.o _ _ _ n s d;clear s d)
 go_loopw [4] (j6 c w Bg B L xs (O p n Q) G Kp) (fun i _=>n-(intOf i).toNat)
 case atStart=>exact⟨_,0,_,Z,Fi _,Z,BSt.start y.o HJ.o HK.o HZ.o K.o ⟨hl,fun h=>absurd h (by decide)⟩ N.o⟩
 case round =>
  obtain⟨W1,k,M,rfl,hk,rfl,hb⟩:=hrel;rw[y.o]at hk;have ba:(0:Int)≤k:=by omega
  have bb:(n:Int)≤20000:=by omega
  have S:=Hd hb;clear hb N
  by_cases z:k<n
  ·obtain⟨x,P⟩:∃x,xs[k]?=A x:=⟨_,EX (by rw[y.o];exact z)⟩;obtain⟨g,cap,vs,hv,C,he⟩:=K.o.b HF.o S.o.low P;have hlen:vs.length=7:=(r.len C).trans HZ.o;simp only[Value.slice.injEq,y.o,pk]at hv;obtain⟨rfl,rfl⟩:=hv;have E:r.n=7:=HZ.o;rw[E]at he;clear E;obtain⟨u0,u1,u2,u3,u4,u5,u6,rfl⟩:=EH hlen;have m0:=he 0 _ Z;have m1:=he 1 _ Z;have m2:=he 2 _ Z;have m3:=he 3 _ Z;have m4:=he 4 _ Z;have m5:=he 5 _ Z;have m6:=he 6 _ Z;rw[Nat.add_zero]at m0;have bc:(k:Int)<n:=by omega
   obtain⟨HC,HX⟩:=zz2 (HH.o k x P _ (G k) Bg B (ej L M) W1 C (fun b a1=>HF.o b (K.o.N k b a1)) (S.o.pin HP.o P)) P;clear P C he hlen;go_wp2_with fail
   refine HC.o.mono ?_;intro e W4 a;obtain rfl:=a.ret;have D:=Hd (j6.h y.o z S.o K.o HX.o a);clear a m0 m1 m2 m3 m4 m5 m6;go_wp2_with fail
   exact⟨D.o,by simp[intOf];omega⟩
  ·obtain rfl:n=k:=by omega
   clear z;go_wp2_with fail
   go_returns
   have HD:=S.o;rw[←y.o]at HD;exact HD.done (by rw[y.o];exact K.o)
theorem nw{w:p7}{Bg B c:Nat}{L:bA}{K F:Nat→Prop}(c0 c1 c2 i c4 j h:r3)(l:PIn w Bg B c L)(H:∀a,FS w a→PIn a Bg B c L→r9 r6 244 #[tv (A ⟨Bg,0,V⟩),h] a (aX a Bg B c L K F)) :
  r9 r6 243 #[tv (A ⟨Bg,0,V⟩),s3 #[c0,c1,c2,i,c4,j,h]] w (aX w Bg B c L K F):=by
 obtain⟨a,d⟩:=zzx (w.alloc (p8 #[c0,c1,c2,i,c4,j,h] 51));have k:FS w a:=by rw[d];exact (EU _ w).alloc (ET _) _
 have g:a.heap[w.heap.size]?=A (p8 #[c0,c1,c2,i,c4,j,h] 51 (0,0)):=by rw[d];exact ot w _
 have a0:a.cell? ⟨w.heap.size,0,V⟩=A c0:=by rw[FR _ _ _ _ _ _ g];rfl
 have a1:a.cell? ⟨w.heap.size,1,V⟩=A c1:=by rw[FR _ _ _ _ _ _ g];rfl
 have a2:a.cell? ⟨w.heap.size,2,V⟩=A c2:=by rw[FR _ _ _ _ _ _ g];rfl
 have a3:a.cell? ⟨w.heap.size,3,V⟩=A i:=by rw[FR _ _ _ _ _ _ g];rfl
 have a4:a.cell? ⟨w.heap.size,4,V⟩=A c4:=by rw[FR _ _ _ _ _ _ g];rfl
 have a5:a.cell? ⟨w.heap.size,5,V⟩=A j:=by rw[FR _ _ _ _ _ _ g];rfl
 have s:a.cell? ⟨w.heap.size,6,V⟩=A h:=by rw[FR _ _ _ _ _ _ g];rfl
 obtain⟨m,n,p⟩:=zz3 (H a k (l.C k)) k l.B;clear H k g l
 go_enter Tryz.func243,Tryz.ntmps243
 go_wp2_with fail
 rw[←d];clear d;refine m.o.mono ?_;intro e W2 b;obtain rfl:=b.ret;have q:=Hd (b.ahead n.o p.o);clear b;go_wp2_with fail
 go_returns
 exact q.o
theorem tN:(Tryz.prog.info? 37).map (fun i=>(i.zero,i.size,i.bytes))=A (A (O V 0 0),1,24):=by kernel_rfl
theorem yd{α:Type}{r:Rd α}{c:α→Nat}{xs:List α}{Kp:Nat→Prop}(E:r.n=tyZ 13)(hc:∀x,1≤c x)(hK:Kp 13)(H:∀(k:Nat)(x:α),xs[k]?=A x→jy 233 r c Kp x):jL 219 r 13 c Kp xs:=by
 intro v F Bg B L w T hF t;obtain⟨G,U⟩:=ju T;have X:Kd 13:=by unfold Kd;omega
 have hB:=t.B;obtain⟨q,m,cq,ys,hm,y9,HY,ad⟩:=hZ X t.bag t.B;obtain⟨p,Q,rfl⟩:=Rd.b T.h;obtain⟨n,R⟩:=zzy (xs.length);obtain⟨ti,af,ak,aq,ar⟩:=info_parts tN;have l:∀j u,[O p n Q][j]?=A u→(w.alloc (p8 #[O p n Q] 37)).cell? ((⟨w.heap.size,0,V⟩:vv).add j)=A u:=dp w _ _;have hl:n≤20000:=by rw[←R];exact t.len hc
 have a6:m≤60000:=by rw[hm];exact t.y _
 rw[R]at U ⊢;obtain⟨K,HF,HP,HH,av,HZ,HK⟩:=zz7 U hF t H l E hK;obtain⟨y,HJ⟩:=zz2 R X;clear U T hF t H l R hm E hK X hc
 go_enter Tryz.func219,Tryz.ntmps219
 go_wp2_with (at_builtin;go_must (refine aA _ Z (.tmp 9) (.tmp 11) 115 Z B 37 ti _ 1 24 Tryz.underlying115 af ak aq ar Z (by decide) (O q m cq) m ys Z (HY.o.alloc _) ⟨w.heap.size,0,V⟩ 1 1 [O p n Q] Z Z av.o (by simp[Value.oneCell']) (by unfold maxLen;omega) (by omega) (by simp;omega) (by decide) ?_);intro v9 W2 s d;obtain⟨q9,a7,rfl,z9,a8,N⟩:=ad.o _ _ _ n s d;clear s d)
 go_loopw [4] (j6 c w Bg B L xs (O p n Q) G Kp) (fun i _=>n-(intOf i).toNat)
 case atStart=>exact⟨_,0,_,Z,Fi _,Z,BSt.start y.o HJ.o HK.o HZ.o K.o ⟨hl,fun h=>absurd h (by decide)⟩ N.o⟩
 case round =>
  obtain⟨W1,k,M,rfl,hk,rfl,hb⟩:=hrel;rw[y.o]at hk;have ba:(0:Int)≤k:=by omega
  have bb:(n:Int)≤20000:=by omega
  have S:=Hd hb;clear hb N
  by_cases z:k<n
  ·obtain⟨x,P⟩:∃x,xs[k]?=A x:=⟨_,EX (by rw[y.o];exact z)⟩;obtain⟨g,cap,vs,hv,C,he⟩:=K.o.b HF.o S.o.low P;have hlen:vs.length=4:=(r.len C).trans HZ.o;simp only[Value.slice.injEq,y.o,pk]at hv;obtain⟨rfl,rfl⟩:=hv;have E:r.n=4:=HZ.o;rw[E]at he;clear E;obtain⟨u0,u1,u2,u3,rfl⟩:=list4 hlen;have m0:=he 0 _ Z;have m1:=he 1 _ Z;have m2:=he 2 _ Z;have m3:=he 3 _ Z;rw[Nat.add_zero]at m0;have bc:(k:Int)<n:=by omega
   obtain⟨HC,HX⟩:=zz2 (HH.o k x P _ (G k) Bg B (ej L M) W1 C (fun b a1=>HF.o b (K.o.N k b a1)) (S.o.pin HP.o P)) P;clear P C he hlen;go_wp2_with fail
   refine HC.o.mono ?_;intro e W4 a;obtain rfl:=a.ret;have D:=Hd (j6.h y.o z S.o K.o HX.o a);clear a m0 m1 m2 m3;go_wp2_with fail
   exact⟨D.o,by simp[intOf];omega⟩
  ·obtain rfl:n=k:=by omega
   clear z;go_wp2_with fail
   go_returns
   have HD:=S.o;rw[←y.o]at HD;exact HD.done (by rw[y.o];exact K.o)
theorem wY{w:p7}{Bg B c:Nat}{L:bA}{K F:Nat→Prop}(c0 c1 c2 g:r3)(j:PIn w Bg B c L)(H:∀b,FS w b→PIn b Bg B c L→r9 r6 244 #[tv (A ⟨Bg,0,V⟩),g] b (aX b Bg B c L K F)) :
  r9 r6 233 #[tv (A ⟨Bg,0,V⟩),s3 #[c0,c1,c2,g]] w (aX w Bg B c L K F):=by
 obtain⟨b,d⟩:=zzx (w.alloc (p8 #[c0,c1,c2,g] 59));have i:FS w b:=by rw[d];exact (EU _ w).alloc (ET _) _
 have h:b.heap[w.heap.size]?=A (p8 #[c0,c1,c2,g] 59 (0,0)):=by rw[d];exact ot w _
 have a0:b.cell? ⟨w.heap.size,0,V⟩=A c0:=by rw[FR _ _ _ _ _ _ h];rfl
 have a1:b.cell? ⟨w.heap.size,1,V⟩=A c1:=by rw[FR _ _ _ _ _ _ h];rfl
 have a2:b.cell? ⟨w.heap.size,2,V⟩=A c2:=by rw[FR _ _ _ _ _ _ h];rfl
 have a3:b.cell? ⟨w.heap.size,3,V⟩=A g:=by rw[FR _ _ _ _ _ _ h];rfl
 obtain⟨k,l,m⟩:=zz3 (H b i (j.C i)) i j.B;clear H i h j
 go_enter Tryz.func233,Tryz.ntmps233
 go_wp2_with fail
 rw[←d];clear d;refine k.o.mono ?_;intro e W2 a;obtain rfl:=a.ret;have n:=Hd (a.ahead l.o m.o);clear a;go_wp2_with fail
 go_returns
 exact n.o
theorem sM:(Tryz.prog.info? 36).map (fun i=>(i.zero,i.size,i.bytes))=A (A (O V 0 0),1,24):=by kernel_rfl
theorem xd{α:Type}{r:Rd α}{c:α→Nat}{xs:List α}{Kp:Nat→Prop}(E:r.n=tyZ 12)(hc:∀x,1≤c x)(hK:Kp 12)(H:∀(k:Nat)(x:α),xs[k]?=A x→jy 232 r c Kp x):jL 218 r 12 c Kp xs:=by
 intro v F Bg B L w T hF t;obtain⟨G,U⟩:=ju T;have X:Kd 12:=by unfold Kd;omega
 have hB:=t.B;obtain⟨q,m,cq,ys,hm,y9,HY,ad⟩:=hZ X t.bag t.B;obtain⟨p,Q,rfl⟩:=Rd.b T.h;obtain⟨n,R⟩:=zzy (xs.length);obtain⟨ti,af,ak,aq,ar⟩:=info_parts sM;have l:∀j u,[O p n Q][j]?=A u→(w.alloc (p8 #[O p n Q] 36)).cell? ((⟨w.heap.size,0,V⟩:vv).add j)=A u:=dp w _ _;have hl:n≤20000:=by rw[←R];exact t.len hc
 have a6:m≤60000:=by rw[hm];exact t.y _
 rw[R]at U ⊢;obtain⟨K,HF,HP,HH,av,HZ,HK⟩:=zz7 U hF t H l E hK;obtain⟨y,HJ⟩:=zz2 R X;clear U T hF t H l R hm E hK X hc
 go_enter Tryz.func218,Tryz.ntmps218
 go_wp2_with (at_builtin;go_must (refine aA _ Z (.tmp 9) (.tmp 11) 114 Z B 36 ti _ 1 24 Tryz.underlying114 af ak aq ar Z (by decide) (O q m cq) m ys Z (HY.o.alloc _) ⟨w.heap.size,0,V⟩ 1 1 [O p n Q] Z Z av.o (by simp[Value.oneCell']) (by unfold maxLen;omega) (by omega) (by simp;omega) (by decide) ?_);intro v9 W2 s d;obtain⟨q9,a7,rfl,z9,a8,N⟩:=ad.o _ _ _ n s d;clear s d)
 go_loopw [4] (j6 c w Bg B L xs (O p n Q) G Kp) (fun i _=>n-(intOf i).toNat)
 case atStart=>exact⟨_,0,_,Z,Fi _,Z,BSt.start y.o HJ.o HK.o HZ.o K.o ⟨hl,fun h=>absurd h (by decide)⟩ N.o⟩
 case round =>
  obtain⟨W1,k,M,rfl,hk,rfl,hb⟩:=hrel;rw[y.o]at hk;have ba:(0:Int)≤k:=by omega
  have bb:(n:Int)≤20000:=by omega
  have S:=Hd hb;clear hb N
  by_cases z:k<n
  ·obtain⟨x,P⟩:∃x,xs[k]?=A x:=⟨_,EX (by rw[y.o];exact z)⟩;obtain⟨g,cap,vs,hv,C,he⟩:=K.o.b HF.o S.o.low P;have hlen:vs.length=10:=(r.len C).trans HZ.o;simp only[Value.slice.injEq,y.o,pk]at hv;obtain⟨rfl,rfl⟩:=hv;have E:r.n=10:=HZ.o;rw[E]at he;clear E;obtain⟨u0,u1,u2,u3,u4,u5,u6,u7,u8,u9,rfl⟩:=Et hlen;have m0:=he 0 _ Z;have m1:=he 1 _ Z;have m2:=he 2 _ Z;have m3:=he 3 _ Z;have m4:=he 4 _ Z;have m5:=he 5 _ Z;have m6:=he 6 _ Z;have m7:=he 7 _ Z;have m8:=he 8 _ Z;have m9:=he 9 _ Z;rw[Nat.add_zero]at m0;have bc:(k:Int)<n:=by omega
   obtain⟨HC,HX⟩:=zz2 (HH.o k x P _ (G k) Bg B (ej L M) W1 C (fun b a1=>HF.o b (K.o.N k b a1)) (S.o.pin HP.o P)) P;clear P C he hlen;go_wp2_with fail
   refine HC.o.mono ?_;intro e W4 a;obtain rfl:=a.ret;have D:=Hd (j6.h y.o z S.o K.o HX.o a);clear a m0 m1 m2 m3 m4 m5 m6 m7 m8 m9;go_wp2_with fail
   exact⟨D.o,by simp[intOf];omega⟩
  ·obtain rfl:n=k:=by omega
   clear z;go_wp2_with fail
   go_returns
   have HD:=S.o;rw[←y.o]at HD;exact HD.done (by rw[y.o];exact K.o)
theorem uP{w:p7}{Bg B c1 c2:Nat}{L:bA}{K1 K2 F1 F2 F:Nat→Prop}(y z x2 x3 x4 x5 x6 x7 u v:r3)(G:PIn w Bg B (c1+c2) L)
  (H1:∀a,FS w a→PIn a Bg B c1 L→r9 r6 242 #[tv (A ⟨Bg,0,V⟩),x2] a (aX a Bg B c1 L K1 F1))
  (R:∀a M,Below B w a→PIn a Bg B c2 M→r9 r6 243 #[tv (A ⟨Bg,0,V⟩),s3 #[x3,x4,x5,x6,x7,u,v]] a (aX a Bg B c2 M K2 F2))
  (C:∀b,F1 b→F b) (D:∀b,F2 b→F b) (S:(∀j,K1 j→¬K2 j)∨∀b,F1 b→¬F2 b) :
  r9 r6 232 #[tv (A ⟨Bg,0,V⟩),s3 #[y,z,x2,x3,x4,x5,x6,x7,u,v]] w (aX w Bg B (c1+c2) L (fun j=>K1 j∨K2 j) F):=by
 obtain⟨a,l⟩:=zzx (w.alloc (p8 #[y,z,x2,x3,x4,x5,x6,x7,u,v] 53));have E:FS w a:=by rw[l];exact (EU _ w).alloc (ET _) _
 have h:a.heap[w.heap.size]?=A (p8 #[y,z,x2,x3,x4,x5,x6,x7,u,v] 53 (0,0)):=by rw[l];exact ot w _
 have a0:a.cell? ⟨w.heap.size,0,V⟩=A y:=by rw[FR _ _ _ _ _ _ h];rfl
 have a1:a.cell? ⟨w.heap.size,1,V⟩=A z:=by rw[FR _ _ _ _ _ _ h];rfl
 have a2:a.cell? ⟨w.heap.size,2,V⟩=A x2:=by rw[FR _ _ _ _ _ _ h];rfl
 have a3:a.cell? ⟨w.heap.size,3,V⟩=A x3:=by rw[FR _ _ _ _ _ _ h];rfl
 have a4:a.cell? ⟨w.heap.size,4,V⟩=A x4:=by rw[FR _ _ _ _ _ _ h];rfl
 have a5:a.cell? ⟨w.heap.size,5,V⟩=A x5:=by rw[FR _ _ _ _ _ _ h];rfl
 have U:a.cell? ⟨w.heap.size,6,V⟩=A x6:=by rw[FR _ _ _ _ _ _ h];rfl
 have X:a.cell? ⟨w.heap.size,7,V⟩=A x7:=by rw[FR _ _ _ _ _ _ h];rfl
 have a8:a.cell? ⟨w.heap.size,8,V⟩=A u:=by rw[FR _ _ _ _ _ _ h];rfl
 have a9:a.cell? ⟨w.heap.size,9,V⟩=A v:=by rw[FR _ _ _ _ _ _ h];rfl
 obtain⟨HC,H,t,HX,K,N,P⟩:=zz7 (H1 a E ((G.C E).less (Nat.le_add_right _ _))) E G h R C D;have HD:=Hd S;clear H1 R E h G C D S
 go_enter Tryz.func232,Tryz.ntmps232
 go_upto_region 2 with (go_at_call 242;rw[←l];clear l;refine HC.o.mono ?_;intro e W2 d;obtain⟨M,rfl,T⟩:=d.h (t.o.C H.o))
 clear a0 a1 a2 a3 a4 a5 U X a8 a9;obtain⟨i,k,m,n,p,q,s⟩:=T.o;have g:=k 12 (by unfold Kd;omega) _ _ HX.o;have b0:W2.cell? ⟨w.heap.size,0,V⟩=A y:=by rw[FR _ _ _ _ _ _ g];rfl
 have b1:W2.cell? ⟨w.heap.size,1,V⟩=A z:=by rw[FR _ _ _ _ _ _ g];rfl
 have b2:W2.cell? ⟨w.heap.size,2,V⟩=A x2:=by rw[FR _ _ _ _ _ _ g];rfl
 have b3:W2.cell? ⟨w.heap.size,3,V⟩=A x3:=by rw[FR _ _ _ _ _ _ g];rfl
 have b4:W2.cell? ⟨w.heap.size,4,V⟩=A x4:=by rw[FR _ _ _ _ _ _ g];rfl
 have b5:W2.cell? ⟨w.heap.size,5,V⟩=A x5:=by rw[FR _ _ _ _ _ _ g];rfl
 have b6:W2.cell? ⟨w.heap.size,6,V⟩=A x6:=by rw[FR _ _ _ _ _ _ g];rfl
 have b7:W2.cell? ⟨w.heap.size,7,V⟩=A x7:=by rw[FR _ _ _ _ _ _ g];rfl
 have b8:W2.cell? ⟨w.heap.size,8,V⟩=A u:=by rw[FR _ _ _ _ _ _ g];rfl
 have b9:W2.cell? ⟨w.heap.size,9,V⟩=A v:=by rw[FR _ _ _ _ _ _ g];rfl
 have Q:=Hd (K.o W2 _ ((H.o.mono t.o.B).trans i) s);clear i k m n p q s g;go_wp2_with fail
 refine Q.o.mono ?_;intro e W3 d;obtain rfl:=d.ret;obtain⟨i,k,m,n,p,q,s⟩:=T.o;have HP:=Hd ((aX.both i k m n p q d N.o P.o HD.o).ahead H.o t.o.B);clear d i k m n p q s;go_wp2_with fail
 go_returns
 exact HP.o
theorem qD:(Tryz.prog.info? 24).map (fun i=>(i.zero,i.size,i.bytes))=A (A (O V 0 0),1,24):=by kernel_rfl
theorem tc{α:Type}{r:Rd α}{c:α→Nat}{xs:List α}{Kp:Nat→Prop}(E:r.n=tyZ 15)(hc:∀x,1≤c x)(hK:Kp 15)(H:∀(k:Nat)(x:α),xs[k]?=A x→jy 189 r c Kp x):jL 115 r 15 c Kp xs:=by
 intro v F Bg B L w T hF t;obtain⟨G,U⟩:=ju T;have X:Kd 15:=by unfold Kd;omega
 have hB:=t.B;obtain⟨q,m,cq,ys,hm,y9,HY,ad⟩:=hZ X t.bag t.B;obtain⟨p,Q,rfl⟩:=Rd.b T.h;obtain⟨n,R⟩:=zzy (xs.length);obtain⟨ti,af,ak,aq,ar⟩:=info_parts qD;have l:∀j u,[O p n Q][j]?=A u→(w.alloc (p8 #[O p n Q] 24)).cell? ((⟨w.heap.size,0,V⟩:vv).add j)=A u:=dp w _ _;have hl:n≤20000:=by rw[←R];exact t.len hc
 have a6:m≤60000:=by rw[hm];exact t.y _
 rw[R]at U ⊢;obtain⟨K,HF,HP,HH,av,HZ,HK⟩:=zz7 U hF t H l E hK;obtain⟨y,HJ⟩:=zz2 R X;clear U T hF t H l R hm E hK X hc
 go_enter Tryz.func115,Tryz.ntmps115
 go_wp2_with (at_builtin;go_must (refine aA _ Z (.tmp 9) (.tmp 11) 117 Z B 24 ti _ 1 24 Tryz.underlying117 af ak aq ar Z (by decide) (O q m cq) m ys Z (HY.o.alloc _) ⟨w.heap.size,0,V⟩ 1 1 [O p n Q] Z Z av.o (by simp[Value.oneCell']) (by unfold maxLen;omega) (by omega) (by simp;omega) (by decide) ?_);intro v9 W2 s d;obtain⟨q9,a7,rfl,z9,a8,N⟩:=ad.o _ _ _ n s d;clear s d)
 go_loopw [4] (j6 c w Bg B L xs (O p n Q) G Kp) (fun i _=>n-(intOf i).toNat)
 case atStart=>exact⟨_,0,_,Z,Fi _,Z,BSt.start y.o HJ.o HK.o HZ.o K.o ⟨hl,fun h=>absurd h (by decide)⟩ N.o⟩
 case round =>
  obtain⟨W1,k,M,rfl,hk,rfl,hb⟩:=hrel;rw[y.o]at hk;have ba:(0:Int)≤k:=by omega
  have bb:(n:Int)≤20000:=by omega
  have S:=Hd hb;clear hb N
  by_cases z:k<n
  ·obtain⟨x,P⟩:∃x,xs[k]?=A x:=⟨_,EX (by rw[y.o];exact z)⟩;obtain⟨g,cap,vs,hv,C,he⟩:=K.o.b HF.o S.o.low P;have hlen:vs.length=5:=(r.len C).trans HZ.o;simp only[Value.slice.injEq,y.o,pk]at hv;obtain⟨rfl,rfl⟩:=hv;have E:r.n=5:=HZ.o;rw[E]at he;clear E;obtain⟨u0,u1,u2,u3,u4,rfl⟩:=EO hlen;have m0:=he 0 _ Z;have m1:=he 1 _ Z;have m2:=he 2 _ Z;have m3:=he 3 _ Z;have m4:=he 4 _ Z;rw[Nat.add_zero]at m0;have bc:(k:Int)<n:=by omega
   obtain⟨HC,HX⟩:=zz2 (HH.o k x P _ (G k) Bg B (ej L M) W1 C (fun b a1=>HF.o b (K.o.N k b a1)) (S.o.pin HP.o P)) P;clear P C he hlen;go_wp2_with fail
   refine HC.o.mono ?_;intro e W4 a;obtain rfl:=a.ret;have D:=Hd (j6.h y.o z S.o K.o HX.o a);clear a m0 m1 m2 m3 m4;go_wp2_with fail
   exact⟨D.o,by simp[intOf];omega⟩
  ·obtain rfl:n=k:=by omega
   clear z;go_wp2_with fail
   go_returns
   have HD:=S.o;rw[←y.o]at HD;exact HD.done (by rw[y.o];exact K.o)
theorem uT{w:p7}{Bg B c1 c2:Nat}{L:bA}{K1 K2 F1 F2 F:Nat→Prop}(u v x2 x3 x4:r3)(D:PIn w Bg B (c1+c2) L)
  (H1:∀d,FS w d→PIn d Bg B c1 L→r9 r6 218 #[tv (A ⟨Bg,0,V⟩),x3] d (aX d Bg B c1 L K1 F1))
  (P:∀d M,Below B w d→PIn d Bg B c2 M→r9 r6 219 #[tv (A ⟨Bg,0,V⟩),x4] d (aX d Bg B c2 M K2 F2))
  (y:∀b,F1 b→F b) (z:∀b,F2 b→F b) (Q:(∀j,K1 j→¬K2 j)∨∀b,F1 b→¬F2 b) :
  r9 r6 189 #[tv (A ⟨Bg,0,V⟩),s3 #[u,v,x2,x3,x4]] w (aX w Bg B (c1+c2) L (fun j=>K1 j∨K2 j) F):=by
 obtain⟨d,k⟩:=zzx (w.alloc (p8 #[u,v,x2,x3,x4] 39));have C:FS w d:=by rw[k];exact (EU _ w).alloc (ET _) _
 have s:d.heap[w.heap.size]?=A (p8 #[u,v,x2,x3,x4] 39 (0,0)):=by rw[k];exact ot w _
 have a0:d.cell? ⟨w.heap.size,0,V⟩=A u:=by rw[FR _ _ _ _ _ _ s];rfl
 have a1:d.cell? ⟨w.heap.size,1,V⟩=A v:=by rw[FR _ _ _ _ _ _ s];rfl
 have a2:d.cell? ⟨w.heap.size,2,V⟩=A x2:=by rw[FR _ _ _ _ _ _ s];rfl
 have a3:d.cell? ⟨w.heap.size,3,V⟩=A x3:=by rw[FR _ _ _ _ _ _ s];rfl
 have a4:d.cell? ⟨w.heap.size,4,V⟩=A x4:=by rw[FR _ _ _ _ _ _ s];rfl
 obtain⟨S,E,t,T,G,H,K⟩:=zz7 (H1 d C ((D.C C).less (Nat.le_add_right _ _))) C D s P y z;have U:=Hd Q;clear H1 P C s D y z Q
 go_enter Tryz.func189,Tryz.ntmps189
 go_upto_region 2 with (go_at_call 218;rw[←k];clear k;refine S.o.mono ?_;intro e W2 a;obtain⟨M,rfl,R⟩:=a.h (t.o.C E.o))
 clear a0 a1 a2 a3 a4;obtain⟨h,i,l,m,n,p,q⟩:=R.o;have g:=i 15 (by unfold Kd;omega) _ _ T.o;have b0:W2.cell? ⟨w.heap.size,0,V⟩=A u:=by rw[FR _ _ _ _ _ _ g];rfl
 have b1:W2.cell? ⟨w.heap.size,1,V⟩=A v:=by rw[FR _ _ _ _ _ _ g];rfl
 have b2:W2.cell? ⟨w.heap.size,2,V⟩=A x2:=by rw[FR _ _ _ _ _ _ g];rfl
 have b3:W2.cell? ⟨w.heap.size,3,V⟩=A x3:=by rw[FR _ _ _ _ _ _ g];rfl
 have b4:W2.cell? ⟨w.heap.size,4,V⟩=A x4:=by rw[FR _ _ _ _ _ _ g];rfl
 have N:=Hd (G.o W2 _ ((E.o.mono t.o.B).trans h) q);clear h i l m n p q g;go_wp2_with fail
 refine N.o.mono ?_;intro e W3 a;obtain rfl:=a.ret;obtain⟨h,i,l,m,n,p,q⟩:=R.o;have X:=Hd ((aX.both h i l m n p a H.o K.o U.o).ahead E.o t.o.B);clear a h i l m n p q;go_wp2_with fail
 go_returns
 exact X.o
theorem oW:(Tryz.prog.info? 34).map (fun i=>(i.zero,i.size,i.bytes))=A (A (O V 0 0),1,24):=by kernel_rfl
theorem qR{α:Type}{r:Rd α}{c:α→Nat}{xs:List α}{Kp:Nat→Prop}(D:r.n=tyZ 16)(hc:∀x,1≤c x)(hK:Kp 16)(H:∀(k:Nat)(x:α),xs[k]?=A x→jy 55 r c Kp x)(E:xs.length=1):jL 27 r 16 c Kp xs:=by
 intro v F Bg B L w T hF t;obtain⟨G,U⟩:=ju T;have X:Kd 16:=by unfold Kd;omega
 have hB:=t.B;obtain⟨q,m,cq,ys,hm,y9,HY,ad⟩:=hZ X t.bag t.B;obtain⟨p,Q,rfl⟩:=Rd.b T.h;obtain⟨n,R⟩:=zzy (xs.length);obtain⟨ti,af,ak,aq,ar⟩:=info_parts oW;have h:∀j u,[O p n Q][j]?=A u→(w.alloc (p8 #[O p n Q] 34)).cell? ((⟨w.heap.size,0,V⟩:vv).add j)=A u:=dp w _ _;have hl:n≤20000:=by rw[←R];exact t.len hc
 have a7:m≤60000:=by rw[hm];exact t.y _
 rw[R]at U ⊢;obtain⟨K,HF,HP,HH,av,HZ,HK⟩:=zz7 U hF t H h D hK;obtain⟨s,HJ,a1⟩:=zz3 R X E;clear E;clear U T hF t H h R hm D hK X hc
 go_enter Tryz.func27,Tryz.ntmps27
 go_wp2_with (at_builtin;go_must (refine aA _ Z (.tmp 9) (.tmp 11) 70 Z B 34 ti _ 1 24 Tryz.underlying70 af ak aq ar Z (by decide) (O q m cq) m ys Z (HY.o.alloc _) ⟨w.heap.size,0,V⟩ 1 1 [O p n Q] Z Z av.o (by simp[Value.oneCell']) (by unfold maxLen;omega) (by omega) (by simp;omega) (by decide) ?_);intro v9 W2 l d;obtain⟨q9,a8,rfl,z9,ba,N⟩:=ad.o _ _ _ n l d;clear l d)
 go_loopw [4] (j6 c w Bg B L xs (O p n Q) G Kp) (fun i _=>n-(intOf i).toNat)
 case atStart=>exact⟨_,0,_,Z,Fi _,Z,BSt.start s.o HJ.o HK.o HZ.o K.o ⟨hl,fun _=>s.o.symm.trans a1.o⟩ N.o⟩
 case round =>
  obtain⟨W1,k,M,rfl,hk,rfl,hb⟩:=hrel;rw[s.o]at hk;have bb:(0:Int)≤k:=by omega
  have bc:(n:Int)≤20000:=by omega
  have S:=Hd hb;clear hb N
  by_cases y:k<n
  ·obtain⟨x,P⟩:∃x,xs[k]?=A x:=⟨_,EX (by rw[s.o];exact y)⟩;obtain⟨g,cap,vs,hv,z,he⟩:=K.o.b HF.o S.o.low P;have hlen:vs.length=2:=(r.len z).trans HZ.o;simp only[Value.slice.injEq,s.o,pk]at hv;obtain⟨rfl,rfl⟩:=hv;have D:r.n=2:=HZ.o;rw[D]at he;clear D;obtain⟨u0,u1,rfl⟩:=EF hlen;have m0:=he 0 _ Z;have m1:=he 1 _ Z;rw[Nat.add_zero]at m0;have bd:(k:Int)<n:=by omega
   obtain⟨HC,HX⟩:=zz2 (HH.o k x P _ (G k) Bg B (ej L M) W1 z (fun b a6=>HF.o b (K.o.N k b a6)) (S.o.pin HP.o P)) P;clear P z he hlen;go_wp2_with fail
   refine HC.o.mono ?_;intro e W4 a;obtain rfl:=a.ret;have C:=Hd (j6.h s.o y S.o K.o HX.o a);clear a m0 m1;go_wp2_with fail
   exact⟨C.o,by simp[intOf];omega⟩
  ·obtain rfl:n=k:=by omega
   clear y;go_wp2_with fail
   go_returns
   have HD:=S.o;rw[←s.o]at HD;exact HD.done (by rw[s.o];exact K.o)
theorem s4{w:p7}{Bg B c1 c2:Nat}{L:bA}{K1 K2 F1 F2 F:Nat→Prop}(t u:r3)(D:PIn w Bg B (c1+c2) L)
  (H1:∀d,FS w d→PIn d Bg B c1 L→r9 r6 114 #[tv (A ⟨Bg,0,V⟩),t] d (aX d Bg B c1 L K1 F1))
  (P:∀d M,Below B w d→PIn d Bg B c2 M→r9 r6 115 #[tv (A ⟨Bg,0,V⟩),u] d (aX d Bg B c2 M K2 F2))
  (v:∀b,F1 b→F b) (y:∀b,F2 b→F b) (Q:(∀j,K1 j→¬K2 j)∨∀b,F1 b→¬F2 b) :
  r9 r6 55 #[tv (A ⟨Bg,0,V⟩),s3 #[t,u]] w (aX w Bg B (c1+c2) L (fun j=>K1 j∨K2 j) F):=by
 obtain⟨d,i⟩:=zzx (w.alloc (p8 #[t,u] 26));have z:FS w d:=by rw[i];exact (EU _ w).alloc (ET _) _
 have C:d.heap[w.heap.size]?=A (p8 #[t,u] 26 (0,0)):=by rw[i];exact ot w _
 have a0:d.cell? ⟨w.heap.size,0,V⟩=A t:=by rw[FR _ _ _ _ _ _ C];rfl
 have a1:d.cell? ⟨w.heap.size,1,V⟩=A u:=by rw[FR _ _ _ _ _ _ C];rfl
 obtain⟨S,E,q,T,G,H,K⟩:=zz7 (H1 d z ((D.C z).less (Nat.le_add_right _ _))) z D C P v y;have U:=Hd Q;clear H1 P z C D v y Q
 go_enter Tryz.func55,Tryz.ntmps55
 go_upto_region 2 with (go_at_call 114;rw[←i];clear i;refine S.o.mono ?_;intro e W2 a;obtain⟨M,rfl,R⟩:=a.h (q.o.C E.o))
 clear a0 a1;obtain⟨g,h,k,l,m,n,p⟩:=R.o;have s:=h 16 (by unfold Kd;omega) _ _ T.o;have b0:W2.cell? ⟨w.heap.size,0,V⟩=A t:=by rw[FR _ _ _ _ _ _ s];rfl
 have b1:W2.cell? ⟨w.heap.size,1,V⟩=A u:=by rw[FR _ _ _ _ _ _ s];rfl
 have N:=Hd (G.o W2 _ ((E.o.mono q.o.B).trans g) p);clear g h k l m n p s;go_wp2_with fail
 refine N.o.mono ?_;intro e W3 a;obtain rfl:=a.ret;obtain⟨g,h,k,l,m,n,p⟩:=R.o;have X:=Hd ((aX.both g h k l m n a H.o K.o U.o).ahead E.o q.o.B);clear a g h k l m n p;go_wp2_with fail
 go_returns
 exact X.o
def cE:Nat→aw→Nat
 | 0,_=>1
 | d+1,e=>cL (cE d) e.u
def cC(d:Nat) (c:aK):Nat:=cL (fun _:dF=>1) c.c+cE d c.a
def cA(d:Nat) (a:bm):Nat:=cL (cE d) a.y
def cR(d:Nat) (r:au):Nat:=cL (cC d) r.d+cL (cA d) r.e
def cP(d:Nat) (R:bO):Nat:=cL (fun _:ap=>1) R.a+cL (cR d) R.b
theorem mx{α:Type}(c:α→Nat)(xs:List α):1≤cL c xs:=Nat.le_add_right _ _
theorem By(d:Nat)(e:aw):1≤cE d e:=by
 cases d with
 | zero=>exact ET _
 | succ d=>exact mx _ _
def eT(d:Nat):Rd bO:=((cN.llist 41).X ((eU d).llist 39)).as fun R=>(R.a,R.b)
section
variable {α:Type} {f:Nat} {r:Rd α} {c:α→Nat} {x:α} {w W:p7} {F:Nat→Prop} {B:Nat}
theorem jy.y{K a:Nat→Prop}(h:jy f r c K x)(b:∀j,K j→a j):jy f r c a x:=fun vs F Bg B L w d e g=>(h vs F Bg B L w d e g).mono fun _ _ i=>i.y (ET _) b fun _ h=>h
theorem kept(hF:∀b,F b→b<B)(a:Below B w W):∀b,F b→∀o,w.heap[b]?=A o→W.heap[b]?=A o:=fun b h _ d=>(a.block b (hF b h)).trans d
end
theorem oG{d:Nat}(a:∀e,jy 243 (bP d) (cE d) (· = 10) e)(xs:List aw):jL 244 (bP d) 10 (cE d) (· = 10) xs:=ow (ge d) (By d) Z fun _ x _=>a x
theorem lj:∀(d:Nat) (e:aw),jy 243 (bP d) (cE d) (· = 10) e
 | 0,e=>by
  intro vs F Bg B L w a hF i;obtain⟨n,s,rfl,j⟩:=fS.1 a;refine nw _ _ _ _ _ _ s i fun l m b=>?_
  obtain⟨_,o,p⟩:=jR (kept hF (m.mono i.B)) j;exact ow (r:=bP 0) (c:=cE 0) (xs:=[]) (Kp:=(· = 10)) (ge 0) (By 0) Z (fun k x q=>by simp at q) s F Bg B L l ⟨[],fun _=>False,by rw[ge];exact o,Rd.lcells_nil,fun _ h=>h.elim,fun g t=>⟨p g t,id⟩⟩ hF b
 | d+1,e=>by
  intro vs F Bg B L w a hF i;obtain⟨n,s,rfl,j⟩:=fS.1 a;exact nw _ _ _ _ _ _ s i fun l m b=>oG (lj d) e.u s F Bg B L l (jR (d:=d+1) (kept hF (m.mono i.B)) j) hF b
theorem tQ(d:Nat)(xs:List aw):jL 244 (bP d) 10 (cE d) (· = 10) xs:=oG (lj d) xs
theorem yJ(d:Nat)(a:bm):jy 233 (f6 d) (cA d) (· = 10) a:=by
 intro vs F Bg B L w b hF g;obtain⟨_,_,_,s,rfl,h⟩:=kp.1 b;exact wY _ _ _ s g fun i j e=>tQ d a.y s F Bg B L i (Rd.sm (kept hF (j.mono g.B)) h) hF e
theorem wW(d:Nat)(c:aK):jy 232 (ft d) (cC d) (fun j=>j=11∨j=10) c:=by
 intro vs F Bg B L w b hF i;obtain⟨_,_,l,k,s,rfl,m,n⟩:=lS.1 b;exact uP (c1:=cL (fun _:dF=>1) c.c) (c2:=cE d c.a) (K1:=(· = 11)) (K2:=(· = 10)) (F1:=F) (F2:=F) _ _ k _ _ _ _ _ _ s i
  (fun e g a=>yY (r:=gQ) (Kp:=(· = 11)) Z Z k F Bg B L e (Rd.sm (kept hF (g.mono i.B)) m) hF a)
  (fun e M g a=>lj d c.a (bU c.a s) F Bg B M e (fS.2 ⟨l,s,Z,jR (kept hF g) n⟩) hF a)
  (fun _ h=>h) (fun _ h=>h) (Or.inl fun j h o=>by omega)
theorem vM(d:Nat)(xs:List aK):jL 218 (ft d) 12 (cC d) (·≠14) xs:=xd ((jG d).trans (by cases d<;>rfl)) (fun c=>EZ (mx _ _) (Nat.le_add_right _ _)) (by decide) fun _ x _=>(wW d x).y fun j h=>by omega
theorem wU(d:Nat)(xs:List bm):jL 219 (f6 d) 13 (cA d) (·≠14) xs:=yd ((Bv d).trans (by cases d<;>rfl)) (fun a=>mx _ _) (by decide) fun _ x _=>(yJ d x).y fun j h=>by omega
theorem wt(d:Nat)(r:au):jy 189 (eU d) (cR d) (·≠14) r:=by
 intro vs F Bg B L w g hF e;obtain⟨_,_,_,o,p,F1,F2,rfl,q,s,i,k,l⟩:=pE.1 g
 refine Ff (uT (c1:=cL (cC d) r.d) (c2:=cL (cA d) r.e) (K1:=(·≠14)) (K2:=(·≠14)) (F1:=F1) (F2:=F2) (F:=F) _ _ _ o p e
  (fun m n a=>vM d r.d o F1 Bg B L m (Rd.sm (kept (fun b h=>hF b (i b h)) (n.mono e.B)) q) (fun b h=>hF b (i b h)) a)
  (fun m M n a=>wU d r.e p F2 Bg B M m (Rd.sm (kept (fun b h=>hF b (k b h)) n) s) (fun b h=>hF b (k b h)) a)
  i k (Or.inr l)) fun _ _ e=>e.y (ET _) (fun j h=>h.elim id id) fun _ h=>h
theorem rj(d:Nat)(xs:List au):jL 115 (eU d) 15 (cR d) (·≠14) xs:=tc ((nN d).trans (by cases d<;>rfl)) (fun r=>EZ (mx _ _) (Nat.le_add_right _ _)) (by decide) fun _ x _=>wt d x
theorem t9(d:Nat)(R:bO):jy 55 (eT d) (cP d) (fun _=>True) R:=by
 rintro vs F Bg B L w ⟨us,ws,rfl,⟨st,rfl,k⟩,⟨i,rfl,l⟩⟩ hF b
 refine Ff (s4 (c1:=cL (fun _:ap=>1) R.a) (c2:=cL (cR d) R.b) (K1:=(· = 14)) (K2:=(·≠14)) (F1:=F) (F2:=F) (F:=F) st i b
  (fun e g a=>vQ (r:=cN) (Kp:=(· = 14)) Z Z st F Bg B L e (Rd.sm (kept hF (g.mono b.B)) k) hF a)
  (fun e M g a=>rj d R.b i F Bg B M e (Rd.sm (kept hF g) l) hF a)
  (fun _ h=>h) (fun _ h=>h) (Or.inl fun j h m=>m h)) fun _ _ b=>b.y (ET _) (fun _ _=>trivial) fun _ h=>h
theorem kV(d:Nat)(xs:List bO)(a:xs.length=1):jL 27 (eT d) 16 (cP d) (fun _=>True) xs:=qR (by rfl) (fun r=>EZ (mx _ _) (Nat.le_add_right _ _)) trivial (fun _ x _=>t9 d x) a
