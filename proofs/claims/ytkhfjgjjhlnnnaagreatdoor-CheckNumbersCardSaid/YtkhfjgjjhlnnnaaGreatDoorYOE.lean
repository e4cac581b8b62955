/- Parts of one proof, joined; conditions stand in each theorem. -/
import Derived.Test.YtkhfjgjjhlnnnaaGreatDoorYOD
import Derived.Test.YtkhfjgjjhlnnnaaGreatDoorYNH
open Go renaming Value→wF,World→wD,Calls→xL,wpQuiet_nil→Bk
open Go.Value renaming slice→A,pointer→xV,agg→xS,string→J,int→I
open Go.Proofs.Tryz renaming prog→xD
open Option renaming some→Y,none→U
open Go.IntKind renaming i64→Z,u8→O
open Go.Obj renaming cells→wq
open Go.Code renaming wp→AR
open Or renaming inl→z6,inr→z7
open Go.Ending renaming returned→z8
open Decidable renaming decide→xv
namespace Go.Proofs.YtkhfjgjjhlnnnaaGreatDoor
set_option maxHeartbeats 8000000
set_option maxRecDepth 100000
open Go.RowKit
theorem vz(d M L B:Nat)(DT:Nat→Prop)(ts:List ae)(s:RSt)(k:Int)(fl:Flt)(vT vR vV vC vA:wF)(D:Nat→Prop)(nm:ByteArray)(sal vv:Int)(T:ab)(p:Option Addr)(n c:Nat)(w:wD)
  (h:St2 64 70 (bf d) (bA d) M L DT ts s.b k fl vT vR vV s.c vC s.d vA D w) (hn:T.u.length=n) (gL:n≤20000) (ds:s.c.length≤20000) (_han:s.d.length≤20000) (b8:s.b.length≤17∧(fl.1=0→s.b.length≤16)) (b9:k=bE s.c) (hk:T.b=7) (K:ab) (rest:List ab) (v:T.u=K::rest) (dv:B≤M) (ba:ao w B (d+1) T.u (A p n c)) (ca:dh d K) (cb:okF d K=true) (cc:iT K) :
  xL xD 51 #[xV (Y ⟨M,0,U⟩),xS #[J nm,I Z sal,I Z vv,vC,vA],xS #[I O T.b,J T.f,I Z T.h,I Z T.y,A p n c]] w (dO d M L DT ts nm sal vv s.c.length s.d.length vT vR fl (aC d ts s T) w):=by
 obtain⟨pC,cC,ch⟩:=h.x.b;obtain⟨C,F,cl⟩:=h.y.b;obtain⟨i,bb⟩:=zzy (s.c.length);obtain⟨r,bc⟩:=zzy (s.d.length);rw[bb]at ch ds ⊢;rw[bc]at cl _han ⊢;subst ch;subst cl;obtain⟨w1,bd⟩:=zzx (((w.alloc (wq #[J nm,I Z sal,I Z vv,A pC i cC,A C r F] 50)).alloc (wq #[I O 7,J T.f,I Z T.h,I Z T.y,A p n c] 25)).alloc (wq #[J ⟨#[]⟩,I Z 0,I Z 0,A U 0 0,A U 0 0] 50));obtain⟨G,f⟩:=fA.new w (wq #[J nm,I Z sal,I Z vv,A pC i cC,A C r F] 50 (0,0)) (wq #[I O 7,J T.f,I Z T.h,I Z T.y,A p n c] 25 (0,0)) (wq #[J ⟨#[]⟩,I Z 0,I Z 0,A U 0 0,A U 0 0] 50 (0,0));rw[←bd]at G f;have gM:=h.lt;have hle:=h.le;have bl:=Hd (fun g (e:(A pC i cC).ownBlock=Y g)=>h.x.lt e);have bn:=Hd (fun g (e:(A C r F).ownBlock=Y g)=>h.y.lt e);obtain⟨cq,gN,HD,bq,cr,ak,ct⟩:=zz7 h.xl h.yl h.d (h.z f) f G bd;obtain⟨br,ea,HV,eb,HK,HN⟩:=zz6 bb bc b8 b9 hk hn;obtain⟨a0,a1,a2,a3,a4⟩:=cells5 G.1;obtain⟨b0,b1,b2,b3,b4⟩:=cells5 G.2.1;obtain⟨l,off,ck,sk,eg,cu,c0,c1,c2,c3,c4,t⟩:∃l off ck sk,(A p n c)=A (Y ⟨l,off,U⟩) n ck∧Fits K∧w.cell? ⟨l,off,U⟩=Y (I O K.b)∧w.cell? ⟨l,off+1,U⟩=Y (J K.f)∧w.cell? ⟨l,off+2,U⟩=Y (I Z K.h)∧w.cell? ⟨l,off+3,U⟩=Y (I Z K.y)∧w.cell? ⟨l,off+4,U⟩=Y sk∧ao w B d K.u sk:=by
  rw[v]at ba;rcases ba with ⟨h0,_⟩|⟨l,off,cap,h1,h2,h3,h4,he,h6⟩
  ·cases h0
  ·obtain⟨hf,s,c0,c1,c2,c3,c4,t⟩:=h6 0 K V;rw[Nat.zero_mul,Nat.add_zero]at c0 c1 c2 c3 c4;have hl:(K::rest).length=n:=by rw[←v];exact hn
   rw[hl]at he;exact⟨l,off,cap,s,he,hf,c0,c1,c2,c3,c4,t⟩
 injection eg with ep _ ec
 subst ep;subst ec;have gO:0<n:=by rw[←hn,v];exact Nat.succ_pos _
 have gE:(0:Int)<n:=by omega
 obtain⟨pk,cv,rfl⟩:=t.f;obtain⟨gS,ek,cx⟩:=zz3 t v (qI ts s.b k vT vR vV dv d K (A pk K.u.length cv) fl w1 bq.o.rm (t.z (f.mono (by omega))) ca cb cc);have k0:w1.cell? ⟨l,off,U⟩=Y (I O K.b):=Wb.b (⟨w1,f⟩:Wb w) c0;have k1:w1.cell? ⟨l,off+1,U⟩=Y (J K.f):=Wb.b (⟨w1,f⟩:Wb w) c1;have k2:w1.cell? ⟨l,off+2,U⟩=Y (I Z K.h):=Wb.b (⟨w1,f⟩:Wb w) c2;have k3:w1.cell? ⟨l,off+3,U⟩=Y (I Z K.y):=Wb.b (⟨w1,f⟩:Wb w) c3;have k4:w1.cell? ⟨l,off+4,U⟩=Y (A pk K.u.length cv):=Wb.b (⟨w1,f⟩:Wb w) c4;clear ba t ca cb cc v c0 c1 c2 c3 c4 cu;rw[hk];clear h bd G f bb bc b8 b9 hk hn
 go_enter Tryz.func51,Tryz.ntmps51
 go_upto_region 1 with fail
 change AR _ _ _ _ (((w.alloc (wq #[J nm,I Z sal,I Z vv,A pC i cC,A C r F] 50)).alloc (wq #[I O 7,J T.f,I Z T.h,I Z T.y,A (Y ⟨l,off,U⟩) n c] 25)).alloc (wq #[J ⟨#[]⟩,I Z 0,I Z 0,A U 0 0,A U 0 0] 50));rw[←ct.o];clear ct;go_wp2_with fail
 refine cx.o.mono ?_;rintro e u ⟨el,E,sE,rfl,j,cR,bt,al⟩;obtain⟨pe,ce,en⟩:=bg bt;subst en;have gT:=cr.o.size;have ha:=ak.o.lt;have eo:=j.1.h
 have er:=Hd ((bq.o.call j).wide (D':=fun b=>D b∨ai w1 u b) (fun b a=>z6 a) (fun b a=>by
  rcases a with a|a
  ·have hd:=bq.o.d b a;exact⟨hd.1,ET hd.2.1 eo,hd.2.2⟩
  ·exact⟨by have:=a.1;omega,a.2,fun e=>by have:=bl.o _ e;have:=a.1;omega,fun e=>by have:=bn.o _ e;have:=a.1;omega⟩))
 obtain⟨cT,et,cV,ev⟩:=zz4 (ak.o.chg j.1 (fun b a=>by omega)) j al cR;obtain⟨H,X⟩:=zzx (u.alloc (wq #[I O E.b,I O E.f.b,I Z E.f.h,J E.f.f,I Z E.h,I O E.op,A pe E.u.length ce] 62));have N:FK u H:=by rw[X];exact (EP _ u).alloc (EO _) _
 have bB:=p9 u (wq #[I O E.b,I O E.f.b,I Z E.f.h,J E.f.f,I Z E.h,I O E.op,A pe E.u.length ce] 62);rw[←X]at bB;obtain⟨e7,ad,P,e8,e9,cW⟩:=zz6 bB (er.o.z N) (cT.o.z N) N (fc (w':=H) (fun b (a:ai w1 u b) o ho=>(N.block b a.2).trans ho) bt) X;clear k0 k1 k2 k3 k4 a0 a1 a2 a3 a4 b0 b1 b2 b3 b4 j al N bB X cR bt cx;go_upto_region 14 with fail
 change AR _ _ _ _ (u.alloc (wq #[I O E.b,I O E.f.b,I Z E.f.h,J E.f.f,I Z E.h,I O E.op,A pe E.u.length ce] 62));rw[←cW.o];clear cW;have fe:Hid ((bf d).at_ H (fun b=>D b∨ai w1 u b) ⟨3,0,[],E⟩ [I O 3,I Z 0,A U 0 0,I O E.b,I O E.f.b,I Z E.f.h,J E.f.f,I Z E.h,I O E.op,A pe E.u.length ce]):=fw.2 ⟨om 3 (by decide) (by decide),je,ev.o,_,_,V,Rd.vn,fo (fun b a=>z7 a) e9.o⟩;have c5:Hid (Chg (fun b=>b=M∨L≤b) w H):=((eu hle cr.o).b (j0 et.o.1)).b (eu (by omega) e8.o);have fm:Hid (∀q,(fun b=>D b∨ai w1 u b) q→q<w.heap.size∨w.heap.size+3≤q):=fun q e=>by
  rcases e with e|e
  ·exact z6 (HD.o q e).2.1
  ·have:=e.1;exact z7 (by omega)
 obtain⟨us,Q,c6⟩:=ad.o.x;rw[br.o,dP]at Q;have m:FK H (H.alloc (wq #[I O 3,I Z 0,A U 0 0,I O E.b,I O E.f.b,I Z E.f.h,J E.f.f,I Z E.h,I O E.op,A pe E.u.length ce] 64)):=(EP _ H).alloc (EO _) _;obtain⟨fp,c7,c8,c9,fv,da⟩:=zz6 (cY Q m) m (Rd.vk (fun b a o ho=>(m.block b (ad.o.d b a).2.1).trans ho) c6) (Rd.C _ (fun b a o ho=>(m.block b (ad.o.d b a).2.1).trans ho) fe.o) (ad.o.z m) (P.o.z m);obtain⟨a0,a1,a2,a3,a4⟩:=cells5 P.o.1;obtain⟨e0,e1,e2,e3,e4,e5,e6⟩:=dF e7.o;clear Q c6 m;go_upto_region 25 with (at_builtin;go_must (refine dU i8 V (.tmp 68) (.tmp 71) V (p:=pC) (n:=i) (c:=cC) (z:=[I O 3,I Z 0,A U 0 0,I O E.b,I O E.f.b,I Z E.f.h,J E.f.f,I Z E.h,I O E.op,A pe E.u.length ce]) V V fp.o (p9 H _) V (by simp[Value.oneCell']) (by omega) ?_);intro g cap W7 hg hC R;have S:=da.o.chg hC (fun b a=>by have:=bl.o _ a;omega);have fz:=aE S.1;obtain⟨q0,q1,q2,q3,q4⟩:=cells5 S.1)
 change AR _ _ _ _ (W7.setCell ⟨w.heap.size,3,U⟩ (A (Y ⟨g,0,U⟩) (i+1) cap));have dc:=fv.o.push (by decide) br.o c8.o c9.o hg hC (by rw[dP];exact R);have gF:=S.lt;have hc:=c7.o.size;have hh:=hC.h;have hi:=c5.o.h;have fI:L≤g∧(g<w.heap.size∨H.heap.size≤g):=by
  rcases hg with e|e
  ·exact⟨cq.o g e,z6 (bl.o g e)⟩
  ·exact⟨by omega,z7 (by omega)⟩
 have gH:=P.o.lt;have bR:∀q,w.heap.size≤q→q≤w.heap.size+2→¬(fun b=>D b∨ai w1 u b) q:=fun q h1 h2 e=>by have:=fm.o q e;omega
 obtain⟨W8,af⟩:=zzx (W7.setCell ⟨w.heap.size,3,U⟩ (A (Y ⟨g,0,U⟩) (i+1) cap));have b5:=(dc).set w.heap.size 3 (A (Y ⟨g,0,U⟩) (i+1) cap) (by omega) (bR _ (EO _) (by omega)) (fun e=>by injection e with e;have e:g=_:=e;omega) (fun e=>by have:=bn.o _ e;omega)
 have b6:=S.set0 3 (A (Y ⟨g,0,U⟩) (i+1) cap);rw[←af]at b5 b6;have dd:Chg (fun b=>b=M∨L≤b) w W8:=by
  rw[af];exact Chg.y (p:=⟨w.heap.size,3,U⟩) ((c5.o.b (eu (by omega) c7.o)).b (jJ hC (fun b a=>by have:=cq.o b a;omega))) (z6 (z7 (by show L≤w.heap.size;omega))) _
 obtain⟨fM,W,fT,dg,gf,gg⟩:=zz6 b5 b6 dd af bR fI;clear hg hC R dc S b5 b6 dd af bR a0 a1 a2 a3 a4 e0 e1 e2 e3 e4 e5 e6;rw[←dg.o];clear dg fz q0 q1 q2 q3 q4;have aq:=fX W.o.2.2 (J nm) (I Z sal) (I Z vv) (A (Y ⟨g,0,U⟩) (i+1) cap) (A C r F);have ar:St2 64 70 (bf d) (bA d) M L DT ts (s.b) (k) (el) vT vR (vV) (s.c++[⟨3,0,[],E⟩]) (A (Y ⟨g,0,U⟩) (i+1) cap) s.d (A C r F) (fun b=>D b∨ai w1 u b) W8:=fM.o;have hK:∀b,b=w.heap.size+2→L≤b∧¬(fun b=>D b∨ai w1 u b) b∧(A (Y ⟨g,0,U⟩) (i+1) cap).ownBlock≠Y b∧(A C r F).ownBlock≠Y b:=fun b a=>by
  subst a;have:=gg.o;refine⟨by omega,gf.o _ (by omega) (EO _),?_,?_⟩
  ·intro e;injection e with e;have e:g=_:=e;omega
  ·intro e;have:=bn.o _ e;omega
 have av:=ar.C (W':=st5 W8 (w.heap.size+2) (J nm) (I Z sal) (I Z vv) (A (Y ⟨g,0,U⟩) (i+1) cap) (A C r F)) (fun b=>b=w.heap.size+2) (by rw[gJ];exact EO _) (fun b _ gD=>eh _ _ _ _ _ b gD) hK;have a6:Chg (fun b=>b=M∨L≤b) w (st5 W8 (w.heap.size+2) (J nm) (I Z sal) (I Z vv) (A (Y ⟨g,0,U⟩) (i+1) cap) (A C r F)):=fT.o.b (fK _ _ (z7 (by omega)) _ _ _ _ _);have HP:Hid (dO d M L DT ts nm sal vv i r vT vR fl (aC d ts s T) w (z8 (xS #[J nm,I Z sal,I Z vv,A (Y ⟨g,0,U⟩) (i+1) cap,A C r F])) (st5 W8 (w.heap.size+2) (J nm) (I Z sal) (I Z vv) (A (Y ⟨g,0,U⟩) (i+1) cap) (A C r F))):=
  ⟨_,⟨s.b,s.c++[⟨3,0,[],E⟩],s.d⟩,k,_,_,_,_,V,a6,av,by rw[eb.o];exact qV _ _ (by show ¬((3:Int)==1)=true;decide),HV.o.1,fun h0=>HV.o.2 (iD cV.o h0),by show (s.c++[_]).length≤_;rw[Fc,br.o];exact EO _,by show s.d.length≤_;rw[ea.o];omega,zg HK.o ek.o cV.o⟩
 have dp:=Hd aq;obtain⟨a0,a1,a2,a3,a4⟩:=cells5 W.o.1;have b7:W8.heap[w.heap.size+1+1]?=Y (wq #[J ⟨#[]⟩,I Z 0,I Z 0,A U 0 0,A U 0 0] 50 (0,0)):=W.o.2.2;have fz:=aE b7;obtain⟨r0,r1,r2,r3,r4⟩:=cells5 b7;clear aq ar hK av a6 b7;go_wp2_with fail
 exact i9 Tryz.results51 _ _ (w.heap.size+1+1) _ _ _ _ _ dp.o _ V HP.o
theorem tq(d M L B:Nat)(DT:Nat→Prop)(ts:List ae)(s:RSt)(k:Int)(fl:Flt)(vT vR vV vC vA:wF)(D:Nat→Prop)(nm:ByteArray)(sal vv:Int)(T:ab)(p:Option Addr)(n c:Nat)(w:wD)
  (h:St2 64 70 (bf d) (bA d) M L DT ts s.b k fl vT vR vV s.c vC s.d vA D w) (hn:T.u.length=n) (fv:n≤20000) (_hcn:s.c.length≤20000) (fI:s.d.length≤20000) (c1:s.b.length≤17∧(fl.1=0→s.b.length≤16)) (c3:k=bE s.c) (hk:T.b=8) (fM:B≤M) (c5:ao w B (d+1) T.u (A p n c)) (c6:∀t∈T.u,dh d t) (c7:∀t∈T.u,okF d t=true) (c8:∀t∈T.u,iT t) :
  xL xD 51 #[xV (Y ⟨M,0,U⟩),xS #[J nm,I Z sal,I Z vv,vC,vA],xS #[I O T.b,J T.f,I Z T.h,I Z T.y,A p n c]] w (dO d M L DT ts nm sal vv s.c.length s.d.length vT vR fl (aC d ts s T) w):=by
 obtain⟨K,N,c9⟩:=h.x.b;obtain⟨pA,cA,da⟩:=h.y.b;obtain⟨F,b9⟩:=zzy (s.c.length);obtain⟨l,ca⟩:=zzy (s.d.length);rw[b9]at c9 _hcn ⊢;rw[ca]at da fI ⊢;subst c9;subst da;obtain⟨w1,cb⟩:=zzx (((w.alloc (wq #[J nm,I Z sal,I Z vv,A K F N,A pA l cA] 50)).alloc (wq #[I O 8,J T.f,I Z T.h,I Z T.y,A p n c] 25)).alloc (wq #[J ⟨#[]⟩,I Z 0,I Z 0,A U 0 0,A U 0 0] 50));obtain⟨P,a6⟩:=fA.new w (wq #[J nm,I Z sal,I Z vv,A K F N,A pA l cA] 50 (0,0)) (wq #[I O 8,J T.f,I Z T.h,I Z T.y,A p n c] 25 (0,0)) (wq #[J ⟨#[]⟩,I Z 0,I Z 0,A U 0 0,A U 0 0] 50 (0,0));rw[←cb]at P a6;have hv:=h.lt;have hle:=h.le;have ba:=Hd (fun g (e:(A K F N).ownBlock=Y g)=>h.x.lt e);have bb:=Hd (fun g (e:(A pA l cA).ownBlock=Y g)=>h.y.lt e);obtain⟨hx,dc,HD,dd,cc,bn,dg⟩:=zz7 h.xl h.yl h.d (h.z a6) a6 P cb;obtain⟨fT,ch,HV,gf,HK,HN⟩:=zz6 b9 ca c1 c3 hk hn;obtain⟨a0,a1,a2,a3,a4⟩:=cells5 P.1;obtain⟨b0,b1,b2,b3,b4⟩:=cells5 P.2.1;have dp:Hid (xL xD 80 #[xV (Y ⟨M,0,U⟩),xS #[I O 8,J T.f,I Z T.h,I Z T.y,A p n c]] w1 (fun e w'=>∃fl' j,e=z8 (I Z j)∧I64 j∧aD M ts s.b k vT vR vV w1 fl' w'∧Goes fl (bI ts T) fl' (fun i=>j=(i:Int)))):=by
  have:=lH dd.o.rm T p c (by rw[HN.o];omega);rw[HK.o,HN.o]at this;exact this
 obtain⟨gg,HM,gD,gE,gF⟩:=zz5 c5 fM c6 c7 c8;clear c5 c6 c7 c8;rw[hk];clear h cb P a6 b9 ca c1 c3 hk hn
 go_enter Tryz.func51,Tryz.ntmps51
 go_upto_region 1 with fail
 change AR _ _ _ _ (((w.alloc (wq #[J nm,I Z sal,I Z vv,A K F N,A pA l cA] 50)).alloc (wq #[I O 8,J T.f,I Z T.h,I Z T.y,A p n c] 25)).alloc (wq #[J ⟨#[]⟩,I Z 0,I Z 0,A U 0 0,A U 0 0] 50));rw[←dg.o];clear dg;go_wp2_with fail
 refine dp.o.mono ?_;rintro e r ⟨ds,j,rfl,hj,u,bq⟩;obtain⟨dv,Q,ea,eb,HJ⟩:=zz5 (dd.o.call u) (bn.o.chg u.1 (fun b a=>by omega)) u bq hj;obtain⟨C,R⟩:=zzx (r.alloc (wq #[I O 1,I Z j,I Z 0,A U 0 0] 70));have bc:FK r C:=by rw[R];exact (EP _ r).alloc (EO _) _
 have ck:=p9 r (wq #[I O 1,I Z j,I Z 0,A U 0 0] 70);rw[←R]at ck;have H:C.heap.size=r.heap.size+1:=by rw[R,r9]
 have hy:=u.1.h;have hz:=cc.o.size;have hA:=bn.o.lt;obtain⟨ec,cl,br,eg,bt,ek⟩:=zz6 ck (dv.o.z bc) (Q.o.z bc) bc H R;clear a0 a1 a2 a3 a4 b0 b1 b2 b3 b4 u bq hj bc ck H R dp;obtain⟨a0,a1,a2,a3,a4⟩:=cells5 Q.o.1;obtain⟨b0,b1,b2,b3,b4⟩:=cells5 Q.o.2.1;go_upto_region 17 with fail
 change AR _ _ _ _ (r.alloc (wq #[I O 1,I Z j,I Z 0,A U 0 0] 70));rw[←ek.o];clear ek a0 a1 a2 a3 a4 b0 b1 b2 b3 b4;obtain⟨b0,b1,b2,b3,b4⟩:=cells5 br.o.2.1;have H:=bt.o;have HA:Hid (xL xD 83 #[xV (Y ⟨M,0,U⟩),A p n c] C (j4 M ts s.b k vT vR vV d n ds (bz (aB s.b d) T.u) C)):=by
  have:=o0 ts s.b k vT vR vV HM.o d T.u (A p n c) ds C cl.o.rm (gg.o.z (by
   have h1:Below B w w1:=cc.o.mono (by omega);have h2:=eI ea.o.1 HM.o (by omega);exact (h1.trans h2).trans (eg.o.mono (by omega))
   )) (by rw[HN.o];exact fv) gD.o gE.o gF.o
  rw[HN.o]at this;exact this
 go_wp2_with fail
 refine HA.o.mono ?_;rintro e w4 ⟨gH,es,v,rfl,f,el,m,bB,bR⟩;obtain⟨S,W,en⟩:=m.b;rw[el]at en;subst en;have gL:=f.1.h
 have gM:=Hd ((cl.o.call f).wide (D':=fun b=>D b∨ai C w4 b) (fun b a=>z6 a) (fun b a=>by
  rcases a with a|a
  ·have hd:=cl.o.d b a;exact⟨hd.1,ET hd.2.1 gL,hd.2.2⟩
  ·exact⟨by have:=a.1;omega,a.2,fun e=>by have:=ba.o _ e;have:=a.1;omega,fun e=>by have:=bb.o _ e;have:=a.1;omega⟩))
 obtain⟨gN,eo,ep,er,cq⟩:=zz5 f.1 bR (m.K (G:=fun b=>D b∨ai C w4 b) (fun b a=>z7 a.1) (fun g hg=>z7 ⟨bB g hg,m.lt hg⟩)) (br.o.chg f.1 (fun b a=>by omega)) (bu f.1 ec.o (EN.1 ec.o).1 (fun e=>by omega));have H:=bt.o;obtain⟨X,bd⟩:=zzx (w4.setCell ⟨r.heap.size,3,U⟩ (A S n W));have cr:¬(D r.heap.size∨ai C w4 r.heap.size):=fun e=>by
  rcases e with e|e
  ·have:=(dv.o.d _ e).2.1;omega
  ·have:=e.1;omega
 have ad:=heap_set cq.o 3 (A S n W);have ct:=gM.o.set r.heap.size 3 (A S n W) (by omega) cr (fun e=>by have:=ba.o _ e;omega) (fun e=>by have:=bb.o _ e;omega);have cu:=er.o.set r.heap.size 3 (A S n W) (by omega);have cx:Chg (fun b=>b=M∨L≤b) w4 (w4.setCell ⟨r.heap.size,3,U⟩ (A S n W)):=Chg.y (p:=⟨r.heap.size,3,U⟩) (Chg.refl _ _) (z6 (z7 (by show L≤r.heap.size;omega))) _;rw[←bd]at ad ct cu cx
 have af:(aL d).K X (fun b=>D b∨ai C w4 b) es (A S n W):=Rd.f (fun b a o ho=>by
  rw[bd]
  exact (ER w4 ⟨r.heap.size,3,U⟩ _ b (fun e=>cr (by have e:b=r.heap.size:=e;rw[←e];exact a))).trans ho) ep.o
 have ad:X.heap[r.heap.size]?=Y (wq #[I O 1,I Z j,I Z 0,A S n W] 70 (0,0)):=ad;obtain⟨gO,bk,ak,gS,cR,et⟩:=zz6 ad ct cu cx af bd;have fz:=aE cq.o;obtain⟨y0,y1,y2,y3⟩:=gu cq.o;clear f bR m bB ad ct cu cx af bd cr b0 b1 b2 b3 b4 HA el;go_upto_region 18 with fail
 change AR _ _ _ _ (w4.setCell ⟨r.heap.size,3,U⟩ (A S n W));rw[←et.o];clear et fz y0 y1 y2 y3;have gT:Hid ((bA d).at_ X (fun b=>D b∨ai C w4 b) ⟨1,j,0,es⟩ [I O 1,I Z j,I Z 0,A S n W]):=fP.2 ⟨om 1 (by decide) (by decide),HJ.o,je,_,V,cR.o⟩;have ev:Hid (Chg (fun b=>b=M∨L≤b) w X):=(((eu hle cc.o).b (j0 ea.o.1)).b (eu (by omega) eg.o)).b ((j0 gN.o).b gS.o);have ha:Hid (∀q,(fun b=>D b∨ai C w4 b) q→q<w.heap.size∨w.heap.size+3≤q):=fun q e=>by
  rcases e with e|e
  ·exact z6 (HD.o q e).2.1
  ·have:=e.1;exact z7 (by omega)
 obtain⟨us,al,e4⟩:=bk.o.swap.x;rw[ch.o,iO]at al;have E:FK X (X.alloc (wq #[I O 1,I Z j,I Z 0,A S n W] 70)):=(EP _ X).alloc (EO _) _;obtain⟨hc,e5,e6,e7,hf,e8⟩:=zz6 (cY al E) E (Rd.vk (fun b a o ho=>(E.block b (bk.o.d b a).2.1).trans ho) e4) (Rd.C _ (fun b a o ho=>(E.block b (bk.o.d b a).2.1).trans ho) gT.o) (bk.o.swap.z E) (ak.o.z E);obtain⟨a0,a1,a2,a3,a4⟩:=cells5 ak.o.1;obtain⟨e0,e1,e2,e3⟩:=gu gO.o;clear al e4 E;go_upto_region 25 with (at_builtin;go_must (refine dU fH V (.tmp 86) (.tmp 88) V (p:=pA) (n:=l) (c:=cA) (z:=[I O 1,I Z j,I Z 0,A S n W]) V V hc.o (p9 X _) V (by simp[Value.oneCell']) (by omega) ?_);intro g cap W7 hg hC aq;have ar:=e8.o.chg hC (fun b a=>by have:=bb.o _ a;omega);have fz:=aE ar.1;obtain⟨q0,q1,q2,q3,q4⟩:=cells5 ar.1)
 change AR _ _ _ _ (W7.setCell ⟨w.heap.size,4,U⟩ (A (Y ⟨g,0,U⟩) (l+1) cap));have e9:=hf.o.push (by decide) ch.o e6.o e7.o hg hC (by rw[iO];exact aq);have hs:=ar.lt;have hD:=e5.o.size;have hE:=hC.h;have hG:=ev.o.h;have hh:L≤g∧(g<w.heap.size∨X.heap.size≤g):=by
  rcases hg with e|e
  ·exact⟨dc.o g e,z6 (bb.o g e)⟩
  ·exact⟨by omega,z7 (by omega)⟩
 have ht:=ak.o.lt;have cT:∀q,w.heap.size≤q→q≤w.heap.size+2→¬(fun b=>D b∨ai C w4 b) q:=fun q h1 h2 e=>by have:=ha.o q e;omega
 obtain⟨W8,bl⟩:=zzx (W7.setCell ⟨w.heap.size,4,U⟩ (A (Y ⟨g,0,U⟩) (l+1) cap));have cV:=(e9.swap).set w.heap.size 4 (A (Y ⟨g,0,U⟩) (l+1) cap) (by omega) (cT _ (EO _) (by omega)) (fun e=>by have:=ba.o _ e;omega) (fun e=>by injection e with e;have e:g=_:=e;omega)
 have cW:=ar.set0 4 (A (Y ⟨g,0,U⟩) (l+1) cap);rw[←bl]at cV cW;have fe:Chg (fun b=>b=M∨L≤b) w W8:=by
  rw[bl];exact Chg.y (p:=⟨w.heap.size,4,U⟩) ((ev.o.b (eu (by omega) e5.o)).b (jJ hC (fun b a=>by have:=dc.o b a;omega))) (z6 (z7 (by show L≤w.heap.size;omega))) _
 obtain⟨hi,av,hl,fm,hp,hq⟩:=zz6 cV cW fe bl cT hh;clear hg hC aq e9 ar cV cW fe bl cT a0 a1 a2 a3 a4 e0 e1 e2 e3;rw[←fm.o];clear fm fz q0 q1 q2 q3 q4;have b5:=fX av.o.2.2 (J nm) (I Z sal) (I Z vv) (A K F N) (A (Y ⟨g,0,U⟩) (l+1) cap);have b6:St2 64 70 (bf d) (bA d) M L DT ts (s.b) (k) (gH) vT vR (vV) s.c (A K F N) (s.d++[⟨1,j,0,es⟩]) (A (Y ⟨g,0,U⟩) (l+1) cap) (fun b=>D b∨ai C w4 b) W8:=hi.o;have hK:∀b,b=w.heap.size+2→L≤b∧¬(fun b=>D b∨ai C w4 b) b∧(A K F N).ownBlock≠Y b∧(A (Y ⟨g,0,U⟩) (l+1) cap).ownBlock≠Y b:=fun b a=>by
  subst a;have:=hq.o;refine⟨by omega,hp.o _ (by omega) (EO _),?_,?_⟩
  ·intro e;have:=ba.o _ e;omega
  ·intro e;injection e with e;have e:g=_:=e;omega
 have b7:=b6.C (W':=st5 W8 (w.heap.size+2) (J nm) (I Z sal) (I Z vv) (A K F N) (A (Y ⟨g,0,U⟩) (l+1) cap)) (fun b=>b=w.heap.size+2) (by rw[gJ];exact EO _) (fun b _ hr=>eh _ _ _ _ _ b hr) hK;have b8:Chg (fun b=>b=M∨L≤b) w (st5 W8 (w.heap.size+2) (J nm) (I Z sal) (I Z vv) (A K F N) (A (Y ⟨g,0,U⟩) (l+1) cap)):=hl.o.b (fK _ _ (z7 (by omega)) _ _ _ _ _);have HP:Hid (dO d M L DT ts nm sal vv F l vT vR fl (aC d ts s T) w (z8 (xS #[J nm,I Z sal,I Z vv,A K F N,A (Y ⟨g,0,U⟩) (l+1) cap])) (st5 W8 (w.heap.size+2) (J nm) (I Z sal) (I Z vv) (A K F N) (A (Y ⟨g,0,U⟩) (l+1) cap))):=
  ⟨_,⟨s.b,s.c,s.d++[⟨1,j,0,es⟩]⟩,k,_,_,_,_,V,b8,b7,gf.o,HV.o.1,fun h0=>HV.o.2 (iD eb.o (iD eo.o h0)),by show s.c.length≤_;rw[fT.o];omega,by show (s.d++[_]).length≤_;rw[Fc,ch.o];exact EO _,vG HK.o eb.o eo.o⟩
 have fp:=Hd b5;obtain⟨a0,a1,a2,a3,a4⟩:=cells5 av.o.1;have c0:W8.heap[w.heap.size+1+1]?=Y (wq #[J ⟨#[]⟩,I Z 0,I Z 0,A U 0 0,A U 0 0] 50 (0,0)):=av.o.2.2;have fz:=aE c0;obtain⟨r0,r1,r2,r3,r4⟩:=cells5 c0;clear b5 b6 hK b7 b8 c0;go_wp2_with fail
 exact i9 Tryz.results51 _ _ (w.heap.size+1+1) _ _ _ _ _ fp.o _ V HP.o
theorem yB(d M L B:Nat)(DT:Nat→Prop)(ts:List ae)(s:RSt)(k:Int)(fl:Flt)(vT vR vV vC vA:wF)(D:Nat→Prop)(nm:ByteArray)(sal vv:Int)(T:ab)(p:Option Addr)(n c:Nat)(w:wD)
  (h:St2 64 70 (bf d) (bA d) M L DT ts s.b k fl vT vR vV s.c vC s.d vA D w) (hn:T.u.length=n) (c0:n≤20000) (_hcn:s.c.length≤20000) (c1:s.d.length≤20000) (br:s.b.length≤17∧(fl.1=0→s.b.length≤16)) (bt:k=bE s.c) (hk:T.b=10) (c3:B≤M) (bB:ao w B (d+1) T.u (A p n c)) (bR:∀t∈T.u,dh d t) (b5:∀t∈T.u,okF d t=true) (b6:∀t∈T.u,iT t) :
  xL xD 51 #[xV (Y ⟨M,0,U⟩),xS #[J nm,I Z sal,I Z vv,vC,vA],xS #[I O T.b,J T.f,I Z T.h,I Z T.y,A p n c]] w (dO d M L DT ts nm sal vv s.c.length s.d.length vT vR fl (aC d ts s T) w):=by
 obtain⟨r,u,b7⟩:=h.x.b;obtain⟨pA,cA,b8⟩:=h.y.b;obtain⟨m,aq⟩:=zzy (s.c.length);obtain⟨f,ar⟩:=zzy (s.d.length);rw[aq]at b7 _hcn ⊢;rw[ar]at b8 c1 ⊢;subst b7;subst b8;obtain⟨w1,av⟩:=zzx (((w.alloc (wq #[J nm,I Z sal,I Z vv,A r m u,A pA f cA] 50)).alloc (wq #[I O 10,J T.f,I Z T.h,I Z T.y,A p n c] 25)).alloc (wq #[J ⟨#[]⟩,I Z 0,I Z 0,A U 0 0,A U 0 0] 50));obtain⟨C,P⟩:=fA.new w (wq #[J nm,I Z sal,I Z vv,A r m u,A pA f cA] 50 (0,0)) (wq #[I O 10,J T.f,I Z T.h,I Z T.y,A p n c] 25 (0,0)) (wq #[J ⟨#[]⟩,I Z 0,I Z 0,A U 0 0,A U 0 0] 50 (0,0));rw[←av]at C P;have et:=h.lt;have hle:=h.le;have a6:=Hd (fun g (e:(A r m u).ownBlock=Y g)=>h.x.lt e);have ba:=Hd (fun g (e:(A pA f cA).ownBlock=Y g)=>h.y.lt e);obtain⟨ev,b9,HD,bb,bc,S,ca⟩:=zz7 h.xl h.yl h.d (h.z P) P C av;obtain⟨c5,bd,HV,c6,HK,HN⟩:=zz6 aq ar br bt hk hn;obtain⟨a0,a1,a2,a3,a4⟩:=cells5 C.1;obtain⟨b0,b1,b2,b3,b4⟩:=cells5 C.2.1;obtain⟨c7,HM,c8,c9,da⟩:=zz5 bB c3 bR b5 b6;clear bB bR b5 b6;rw[hk];clear h av C P aq ar br bt hk hn
 go_enter Tryz.func51,Tryz.ntmps51
 go_upto_region 1 with fail
 change AR _ _ _ _ (((w.alloc (wq #[J nm,I Z sal,I Z vv,A r m u,A pA f cA] 50)).alloc (wq #[I O 10,J T.f,I Z T.h,I Z T.y,A p n c] 25)).alloc (wq #[J ⟨#[]⟩,I Z 0,I Z 0,A U 0 0,A U 0 0] 50));rw[←ca.o];clear ca;have e0:=bc.o.size;have e1:=S.o.lt;have HA:Hid (xL xD 83 #[xV (Y ⟨M,0,U⟩),A p n c] w1 (j4 M ts s.b k vT vR vV d n fl (bz (aB s.b d) T.u) w1)):=by
  have:=o0 ts s.b k vT vR vV HM.o d T.u (A p n c) fl w1 bb.o.rm (c7.o.z (by
   exact bc.o.mono (by omega)
   )) (by rw[HN.o];exact c0) c8.o c9.o da.o
  rw[HN.o]at this;exact this
 go_wp2_with fail
 refine HA.o.mono ?_;rintro e w4 ⟨dc,es,v,rfl,j,cb,i,W,X⟩;obtain⟨pv,cv,cc⟩:=i.b;rw[cb]at cc;subst cc;have dd:=j.1.h
 have dg:=Hd ((bb.o.call j).wide (D':=fun b=>D b∨ai w1 w4 b) (fun b a=>z6 a) (fun b a=>by
  rcases a with a|a
  ·have hd:=bb.o.d b a;exact⟨hd.1,ET hd.2.1 dd,hd.2.2⟩
  ·exact⟨by have:=a.1;omega,a.2,fun e=>by have:=a6.o _ e;have:=a.1;omega,fun e=>by have:=ba.o _ e;have:=a.1;omega⟩))
 obtain⟨dp,ch,ck,Q,E⟩:=zz5 j.1 X (i.K (G:=fun b=>D b∨ai w1 w4 b) (fun b a=>z7 a.1) (fun g hg=>z7 ⟨W g hg,i.lt hg⟩)) dg.o (S.o.chg j.1 (fun b a=>by omega));clear j X i W a0 a1 a2 a3 a4 b0 b1 b2 b3 b4 HA cb;go_upto_region 24 with fail
 have ds:Hid ((bA d).at_ w4 (fun b=>D b∨ai w1 w4 b) ⟨3,0,0,es⟩ [I O 3,I Z 0,I Z 0,A pv n cv]):=fP.2 ⟨om 3 (by decide) (by decide),je,je,_,V,ck.o⟩;have cl:Hid (Chg (fun b=>b=M∨L≤b) w w4):=(eu hle bc.o).b (j0 dp.o);have dv:Hid (∀q,(fun b=>D b∨ai w1 w4 b) q→q<w.heap.size∨w.heap.size+3≤q):=fun q e=>by
  rcases e with e|e
  ·exact z6 (HD.o q e).2.1
  ·have:=e.1;exact z7 (by omega)
 obtain⟨us,F,cq⟩:=Q.o.swap.x;rw[bd.o,iO]at F;have l:FK w4 (w4.alloc (wq #[I O 3,I Z 0,I Z 0,A pv n cv] 70)):=(EP _ w4).alloc (EO _) _;obtain⟨ea,cr,ct,cu,eb,cx⟩:=zz6 (cY F l) l (Rd.vk (fun b a o ho=>(l.block b (Q.o.d b a).2.1).trans ho) cq) (Rd.C _ (fun b a o ho=>(l.block b (Q.o.d b a).2.1).trans ho) ds.o) (Q.o.swap.z l) (E.o.z l);obtain⟨a0,a1,a2,a3,a4⟩:=cells5 E.o.1;clear F cq l;go_upto_region 25 with (at_builtin;go_must (refine dU fH V (.tmp 124) (.tmp 127) V (p:=pA) (n:=f) (c:=cA) (z:=[I O 3,I Z 0,I Z 0,A pv n cv]) V V ea.o (p9 w4 _) V (by simp[Value.oneCell']) (by omega) ?_);intro g cap W7 hg hC H;have K:=cx.o.chg hC (fun b a=>by have:=ba.o _ a;omega);have fz:=aE K.1;obtain⟨q0,q1,q2,q3,q4⟩:=cells5 K.1)
 change AR _ _ _ _ (W7.setCell ⟨w.heap.size,4,U⟩ (A (Y ⟨g,0,U⟩) (f+1) cap));have cR:=eb.o.push (by decide) bd.o ct.o cu.o hg hC (by rw[iO];exact H);have ep:=K.lt;have e2:=cr.o.size;have e3:=hC.h;have e4:=cl.o.h;have ec:L≤g∧(g<w.heap.size∨w4.heap.size≤g):=by
  rcases hg with e|e
  ·exact⟨b9.o g e,z6 (ba.o g e)⟩
  ·exact⟨by omega,z7 (by omega)⟩
 have er:=E.o.lt;have bk:∀q,w.heap.size≤q→q≤w.heap.size+2→¬(fun b=>D b∨ai w1 w4 b) q:=fun q h1 h2 e=>by have:=dv.o q e;omega
 obtain⟨W8,R⟩:=zzx (W7.setCell ⟨w.heap.size,4,U⟩ (A (Y ⟨g,0,U⟩) (f+1) cap));have bl:=(cR.swap).set w.heap.size 4 (A (Y ⟨g,0,U⟩) (f+1) cap) (by omega) (bk _ (EO _) (by omega)) (fun e=>by have:=a6.o _ e;omega) (fun e=>by injection e with e;have e:g=_:=e;omega)
 have bn:=K.set0 4 (A (Y ⟨g,0,U⟩) (f+1) cap);rw[←R]at bl bn;have cT:Chg (fun b=>b=M∨L≤b) w W8:=by
  rw[R];exact Chg.y (p:=⟨w.heap.size,4,U⟩) ((cl.o.b (eu (by omega) cr.o)).b (jJ hC (fun b a=>by have:=b9.o b a;omega))) (z6 (z7 (by show L≤w.heap.size;omega))) _
 obtain⟨eg,N,ek,cV,el,en⟩:=zz6 bl bn cT R bk ec;clear hg hC H cR K bl bn cT R bk a0 a1 a2 a3 a4;rw[←cV.o];clear cV fz q0 q1 q2 q3 q4;have ad:=fX N.o.2.2 (J nm) (I Z sal) (I Z vv) (A r m u) (A (Y ⟨g,0,U⟩) (f+1) cap);have af:St2 64 70 (bf d) (bA d) M L DT ts (s.b) (k) (dc) vT vR (vV) s.c (A r m u) (s.d++[⟨3,0,0,es⟩]) (A (Y ⟨g,0,U⟩) (f+1) cap) (fun b=>D b∨ai w1 w4 b) W8:=eg.o;have hK:∀b,b=w.heap.size+2→L≤b∧¬(fun b=>D b∨ai w1 w4 b) b∧(A r m u).ownBlock≠Y b∧(A (Y ⟨g,0,U⟩) (f+1) cap).ownBlock≠Y b:=fun b a=>by
  subst a;have:=en.o;refine⟨by omega,el.o _ (by omega) (EO _),?_,?_⟩
  ·intro e;have:=a6.o _ e;omega
  ·intro e;injection e with e;have e:g=_:=e;omega
 have ak:=af.C (W':=st5 W8 (w.heap.size+2) (J nm) (I Z sal) (I Z vv) (A r m u) (A (Y ⟨g,0,U⟩) (f+1) cap)) (fun b=>b=w.heap.size+2) (by rw[gJ];exact EO _) (fun b _ eo=>eh _ _ _ _ _ b eo) hK;have al:Chg (fun b=>b=M∨L≤b) w (st5 W8 (w.heap.size+2) (J nm) (I Z sal) (I Z vv) (A r m u) (A (Y ⟨g,0,U⟩) (f+1) cap)):=ek.o.b (fK _ _ (z7 (by omega)) _ _ _ _ _);have HP:Hid (dO d M L DT ts nm sal vv m f vT vR fl (aC d ts s T) w (z8 (xS #[J nm,I Z sal,I Z vv,A r m u,A (Y ⟨g,0,U⟩) (f+1) cap])) (st5 W8 (w.heap.size+2) (J nm) (I Z sal) (I Z vv) (A r m u) (A (Y ⟨g,0,U⟩) (f+1) cap))):=
  ⟨_,⟨s.b,s.c,s.d++[⟨3,0,0,es⟩]⟩,k,_,_,_,_,V,al,ak,c6.o,HV.o.1,fun h0=>HV.o.2 (iD ch.o h0),by show s.c.length≤_;rw[c5.o];omega,by show (s.d++[_]).length≤_;rw[Fc,bd.o];exact EO _,BN HK.o ch.o⟩
 have cW:=Hd ad;obtain⟨a0,a1,a2,a3,a4⟩:=cells5 N.o.1;have bq:W8.heap[w.heap.size+1+1]?=Y (wq #[J ⟨#[]⟩,I Z 0,I Z 0,A U 0 0,A U 0 0] 50 (0,0)):=N.o.2.2;have fz:=aE bq;obtain⟨r0,r1,r2,r3,r4⟩:=cells5 bq;clear ad af hK ak al bq;go_wp2_with fail
 exact i9 Tryz.results51 _ _ (w.heap.size+1+1) _ _ _ _ _ cW.o _ V HP.o
theorem ww(d M L _B:Nat)(DT:Nat→Prop)(ts:List ae)(s:RSt)(k:Int)(fl:Flt)(vT vR vV vC vA:wF)(D:Nat→Prop)(nm:ByteArray)(sal vv:Int)(T:ab)(p:Option Addr)(n c:Nat)(w:wD)
  (h:St2 64 70 (bf d) (bA d) M L DT ts s.b k fl vT vR vV s.c vC s.d vA D w) (hn:T.u.length=n) (_hn2:n≤20000) (_hcn:s.c.length≤20000) (b9:s.d.length≤20000) (ar:s.b.length≤17∧(fl.1=0→s.b.length≤16)) (av:k=bE s.c) (hk:T.b=11) :
  xL xD 51 #[xV (Y ⟨M,0,U⟩),xS #[J nm,I Z sal,I Z vv,vC,vA],xS #[I O T.b,J T.f,I Z T.h,I Z T.y,A p n c]] w (dO d M L DT ts nm sal vv s.c.length s.d.length vT vR fl (aC d ts s T) w):=by
 obtain⟨j,l,a6⟩:=h.x.b;obtain⟨pA,cA,ba⟩:=h.y.b;obtain⟨i,S⟩:=zzy (s.c.length);obtain⟨a,W⟩:=zzy (s.d.length);rw[S]at a6 _hcn ⊢;rw[W]at ba b9 ⊢;subst a6;subst ba;obtain⟨w1,X⟩:=zzx (((w.alloc (wq #[J nm,I Z sal,I Z vv,A j i l,A pA a cA] 50)).alloc (wq #[I O 11,J T.f,I Z T.h,I Z T.y,A p n c] 25)).alloc (wq #[J ⟨#[]⟩,I Z 0,I Z 0,A U 0 0,A U 0 0] 50));obtain⟨m,C⟩:=fA.new w (wq #[J nm,I Z sal,I Z vv,A j i l,A pA a cA] 50 (0,0)) (wq #[I O 11,J T.f,I Z T.h,I Z T.y,A p n c] 25 (0,0)) (wq #[J ⟨#[]⟩,I Z 0,I Z 0,A U 0 0,A U 0 0] 50 (0,0));rw[←X]at m C;have cW:=h.lt;have hle:=h.le;have bb:=Hd (fun g (e:(A j i l).ownBlock=Y g)=>h.x.lt e);have bc:=Hd (fun g (e:(A pA a cA).ownBlock=Y g)=>h.y.lt e);obtain⟨c0,bd,HD,ca,bk,H,bl⟩:=zz7 h.xl h.yl h.d (h.z C) C m X;obtain⟨cb,ad,HV,cc,HK,HN⟩:=zz6 S W ar av hk hn;obtain⟨a0,a1,a2,a3,a4⟩:=cells5 m.1;obtain⟨b0,b1,b2,b3,b4⟩:=cells5 m.2.1;rw[hk];clear h X m C S W ar av hk hn
 go_enter Tryz.func51,Tryz.ntmps51
 go_upto_region 1 with fail
 change AR _ _ _ _ (((w.alloc (wq #[J nm,I Z sal,I Z vv,A j i l,A pA a cA] 50)).alloc (wq #[I O 11,J T.f,I Z T.h,I Z T.y,A p n c] 25)).alloc (wq #[J ⟨#[]⟩,I Z 0,I Z 0,A U 0 0,A U 0 0] 50));rw[←bl.o];clear bl;have c1:=bk.o.size;have c3:=H.o.lt;obtain⟨E,r⟩:=zz2 ca.o H.o;go_upto_region 2 with fail
 clear a0 a1 a2 a3 a4 b0 b1 b2 b3 b4;have ch:Hid ((bA d).at_ w1 D ⟨4,0,0,[]⟩ [I O 4,I Z 0,I Z 0,A U 0 0]):=fP.2 ⟨om 4 (by decide) (by decide),je,je,_,V,Rd.vn⟩;have bn:Hid (Chg (fun b=>b=M∨L≤b) w w1):=eu hle bk.o;have ck:Hid (∀q,D q→q<w.heap.size∨w.heap.size+3≤q):=fun q e=>by exact z6 (HD.o q e).2.1
 obtain⟨us,t,bq⟩:=E.o.swap.x;rw[ad.o,iO]at t;have f:FK w1 (w1.alloc (wq #[I O 4,I Z 0,I Z 0,A U 0 0] 70)):=(EP _ w1).alloc (EO _) _;obtain⟨cl,br,bt,bB,cq,bR⟩:=zz6 (cY t f) f (Rd.vk (fun b F o ho=>(f.block b (E.o.d b F).2.1).trans ho) bq) (Rd.C _ (fun b F o ho=>(f.block b (E.o.d b F).2.1).trans ho) ch.o) (E.o.swap.z f) (r.o.z f);obtain⟨a0,a1,a2,a3,a4⟩:=cells5 r.o.1;clear t bq f;go_upto_region 25 with (at_builtin;go_must (refine dU fH V (.tmp 15) (.tmp 17) V (p:=pA) (n:=a) (c:=cA) (z:=[I O 4,I Z 0,I Z 0,A U 0 0]) V V cl.o (p9 w1 _) V (by simp[Value.oneCell']) (by omega) ?_);intro g cap W7 hg hC u;have v:=bR.o.chg hC (fun b F=>by have:=bc.o _ F;omega);have fz:=aE v.1;obtain⟨q0,q1,q2,q3,q4⟩:=cells5 v.1)
 change AR _ _ _ _ (W7.setCell ⟨w.heap.size,4,U⟩ (A (Y ⟨g,0,U⟩) (a+1) cap));have b5:=cq.o.push (by decide) ad.o bt.o bB.o hg hC (by rw[iO];exact u);have cT:=v.lt;have c5:=br.o.size;have c6:=hC.h;have c7:=bn.o.h;have cr:L≤g∧(g<w.heap.size∨w1.heap.size≤g):=by
  rcases hg with e|e
  ·exact⟨bd.o g e,z6 (bc.o g e)⟩
  ·exact⟨by omega,z7 (by omega)⟩
 have cV:=r.o.lt;have af:∀q,w.heap.size≤q→q≤w.heap.size+2→¬D q:=fun q h1 h2 e=>by have:=ck.o q e;omega
 obtain⟨K,G⟩:=zzx (W7.setCell ⟨w.heap.size,4,U⟩ (A (Y ⟨g,0,U⟩) (a+1) cap));have ak:=(b5.swap).set w.heap.size 4 (A (Y ⟨g,0,U⟩) (a+1) cap) (by omega) (af _ (EO _) (by omega)) (fun e=>by have:=bb.o _ e;omega) (fun e=>by injection e with e;have e:g=_:=e;omega)
 have al:=v.set0 4 (A (Y ⟨g,0,U⟩) (a+1) cap);rw[←G]at ak al;have b6:Chg (fun b=>b=M∨L≤b) w K:=by
  rw[G];exact Chg.y (p:=⟨w.heap.size,4,U⟩) ((bn.o.b (eu (by omega) br.o)).b (jJ hC (fun b F=>by have:=bd.o b F;omega))) (z6 (z7 (by show L≤w.heap.size;omega))) _
 obtain⟨ct,B,cu,b7,cv,cx⟩:=zz6 ak al b6 G af cr;clear hg hC u b5 v ak al b6 G af a0 a1 a2 a3 a4;rw[←b7.o];clear b7 fz q0 q1 q2 q3 q4;have N:=fX B.o.2.2 (J nm) (I Z sal) (I Z vv) (A j i l) (A (Y ⟨g,0,U⟩) (a+1) cap);have P:St2 64 70 (bf d) (bA d) M L DT ts (s.b) (k) (fl) vT vR (vV) s.c (A j i l) (s.d++[⟨4,0,0,[]⟩]) (A (Y ⟨g,0,U⟩) (a+1) cap) D K:=ct.o;have hK:∀b,b=w.heap.size+2→L≤b∧¬D b∧(A j i l).ownBlock≠Y b∧(A (Y ⟨g,0,U⟩) (a+1) cap).ownBlock≠Y b:=fun b F=>by
  subst F;have:=cx.o;refine⟨by omega,cv.o _ (by omega) (EO _),?_,?_⟩
  ·intro e;have:=bb.o _ e;omega
  ·intro e;injection e with e;have e:g=_:=e;omega
 have Q:=P.C (W':=st5 K (w.heap.size+2) (J nm) (I Z sal) (I Z vv) (A j i l) (A (Y ⟨g,0,U⟩) (a+1) cap)) (fun b=>b=w.heap.size+2) (by rw[gJ];exact EO _) (fun b _ cR=>eh _ _ _ _ _ b cR) hK;have R:Chg (fun b=>b=M∨L≤b) w (st5 K (w.heap.size+2) (J nm) (I Z sal) (I Z vv) (A j i l) (A (Y ⟨g,0,U⟩) (a+1) cap)):=cu.o.b (fK _ _ (z7 (by omega)) _ _ _ _ _);have HP:Hid (dO d M L DT ts nm sal vv i a vT vR fl (aC d ts s T) w (z8 (xS #[J nm,I Z sal,I Z vv,A j i l,A (Y ⟨g,0,U⟩) (a+1) cap])) (st5 K (w.heap.size+2) (J nm) (I Z sal) (I Z vv) (A j i l) (A (Y ⟨g,0,U⟩) (a+1) cap))):=
  ⟨_,⟨s.b,s.c,s.d++[⟨4,0,0,[]⟩]⟩,k,_,_,_,_,V,R,Q,cc.o,HV.o.1,HV.o.2,by show s.c.length≤_;rw[cb.o];omega,by show (s.d++[_]).length≤_;rw[Fc,ad.o];exact EO _,zc HK.o⟩
 have b8:=Hd N;obtain⟨a0,a1,a2,a3,a4⟩:=cells5 B.o.1;have aq:K.heap[w.heap.size+1+1]?=Y (wq #[J ⟨#[]⟩,I Z 0,I Z 0,A U 0 0,A U 0 0] 50 (0,0)):=B.o.2.2;have fz:=aE aq;obtain⟨r0,r1,r2,r3,r4⟩:=cells5 aq;clear N P hK Q R aq;go_wp2_with fail
 exact i9 Tryz.results51 _ _ (w.heap.size+1+1) _ _ _ _ _ b8.o _ V HP.o
theorem rL(d M L _B:Nat)(DT:Nat→Prop)(ts:List ae)(s:RSt)(k:Int)(fl:Flt)(vT vR vV vC vA:wF)(D:Nat→Prop)(nm:ByteArray)(sal vv:Int)(T:ab)(p:Option Addr)(n c:Nat)(w:wD)
  (h:St2 64 70 (bf d) (bA d) M L DT ts s.b k fl vT vR vV s.c vC s.d vA D w) (hn:T.u.length=n) (_hn2:n≤20000) (_hcn:s.c.length≤20000) (cW:s.d.length≤20000) (bB:s.b.length≤17∧(fl.1=0→s.b.length≤16)) (bR:k=bE s.c) (hk:T.b=9) (af:-1000000≤T.h∧T.h≤1000000000000000000) :
  xL xD 51 #[xV (Y ⟨M,0,U⟩),xS #[J nm,I Z sal,I Z vv,vC,vA],xS #[I O T.b,J T.f,I Z T.h,I Z T.y,A p n c]] w (dO d M L DT ts nm sal vv s.c.length s.d.length vT vR fl (aC d ts s T) w):=by
 obtain⟨B,C,b5⟩:=h.x.b;obtain⟨pA,cA,b6⟩:=h.y.b;obtain⟨t,bb⟩:=zzy (s.c.length);obtain⟨f,bc⟩:=zzy (s.d.length);rw[bb]at b5 _hcn ⊢;rw[bc]at b6 cW ⊢;subst b5;subst b6;obtain⟨w1,bd⟩:=zzx (((w.alloc (wq #[J nm,I Z sal,I Z vv,A B t C,A pA f cA] 50)).alloc (wq #[I O 9,J T.f,I Z T.h,I Z T.y,A p n c] 25)).alloc (wq #[J ⟨#[]⟩,I Z 0,I Z 0,A U 0 0,A U 0 0] 50));obtain⟨E,i⟩:=fA.new w (wq #[J nm,I Z sal,I Z vv,A B t C,A pA f cA] 50 (0,0)) (wq #[I O 9,J T.f,I Z T.h,I Z T.y,A p n c] 25 (0,0)) (wq #[J ⟨#[]⟩,I Z 0,I Z 0,A U 0 0,A U 0 0] 50 (0,0));rw[←bd]at E i;have ea:=h.lt;have hle:=h.le;have b7:=Hd (fun g (e:(A B t C).ownBlock=Y g)=>h.x.lt e);have b8:=Hd (fun g (e:(A pA f cA).ownBlock=Y g)=>h.y.lt e);obtain⟨eb,b9,HD,v,ca,ak,cb⟩:=zz7 h.xl h.yl h.d (h.z i) i E bd;obtain⟨c0,bk,HV,cc,HK,HN⟩:=zz6 bb bc bB bR hk hn;obtain⟨a0,a1,a2,a3,a4⟩:=cells5 E.1;obtain⟨b0,b1,b2,b3,b4⟩:=cells5 E.2.1;have ec:=Hd af;obtain⟨dg,dp⟩:=af;have HF:Hid (∀W,FK w1 W→∀S,xL xD 48 #[xV (Y ⟨M,0,U⟩),Value.bool S,I Z 214,xS #[I O 9,J T.f,I Z T.h,I Z T.y,A p n c]] W (fun e w'=>e=z8 (Value.tuple #[])∧aD M ts s.b k vT vR vV W (az fl S 214 T.y) w')):=fun W hW S=>by
  have:=dI (v.o.z hW).rm S 214 T.b T.f T.h T.y p n c;rw[HK.o]at this;exact this
 obtain⟨m0,m1,m2,m3,m4,m5⟩:=cQ v.o.m;rw[hk];clear h bd E i bb bc bB bR hk hn
 go_enter Tryz.func51,Tryz.ntmps51
 go_upto_region 1 with fail
 change AR _ _ _ _ (((w.alloc (wq #[J nm,I Z sal,I Z vv,A B t C,A pA f cA] 50)).alloc (wq #[I O 9,J T.f,I Z T.h,I Z T.y,A p n c] 25)).alloc (wq #[J ⟨#[]⟩,I Z 0,I Z 0,A U 0 0,A U 0 0] 50));rw[←cb.o];clear cb;have eg:=ca.o.size;have ek:=ak.o.lt;go_upto_region 20 with fail
 go_cut [] from 93 to 107 (fun W=>aD M ts s.b k vT vR vV w1 (az fl (xv (T.h<1)||decide (k<T.h)) 214 T.y) W)
 case first =>
  have E0:=fun x:Wb w1=>x.b b0
  have E1:=fun x:Wb w1=>x.b b1
  have E2:=fun x:Wb w1=>x.b b2
  have E3:=fun x:Wb w1=>x.b b3
  have E4:=fun x:Wb w1=>x.b b4
  have M3:=fun x:Wb w1=>x.b m3
  clear m0 m1 m2 m3 m4 m5 a0 a1 a2 a3 a4 b0 b1 b2 b3 b4
  by_cases al:T.h<1
  ·have i:xv (T.h<1)=true:=decide_eq_true al;refine RE.u (by kernel_rfl) 14 [] [] (fun _ W=>∃x:Wb w1,W=x.1) (fun W W'=>FK W W') (fun _ _=>undef) (fun _ _ _=>True) (by kernel_rfl) (fun _ _ _ _ _ _ h l=>bC h l) (fun _ _ _ _ _ _ _=>trivial) ⟨⟨w1.drew,(EP _ _).drew⟩,V⟩ ?_;simp only[EY,Fi,EZ,Fh]
   repeat (refine RE.b (fun W=>∃x:Wb w1,W=x.1) (fun _ _ _ h=>h) V V V ⟨⟨w1.drew,(EP _ _).drew⟩,V⟩ ?_;go_big_quiet_step (fail);refine Bk ?_)
   refine RE.h ?_;intro W hS hE;obtain⟨x,rfl⟩:=hS;obtain⟨j,F⟩:=zz2 (HF.o x.1 x.2 true) (aD.f v.o.rm x.2);clear hE E0 E1 E2 E3 E4 M3;go_wp2_with fail
   refine j.o.mono ?_;rintro e G ⟨rfl,a⟩;have HP:Hid (aD M ts s.b k vT vR vV w1 (az fl (xv (T.h<1)||decide (k<T.h)) 214 T.y) G):=by
    show aD _ _ _ _ _ _ _ _ _ _
    rw[i];exact F.o.b a
   clear a j;go_wp2_with fail
   go_meet
   case rel=>exact HP.o
  ·have i:xv (T.h<1)=false:=r6 al
   by_cases aq:k<T.h
   ·have bl:xv (k<T.h)=true:=decide_eq_true aq;refine RE.u (by kernel_rfl) 14 [] [] (fun _ W=>∃x:Wb w1,W=x.1) (fun W W'=>FK W W') (fun _ _=>undef) (fun _ _ _=>True) (by kernel_rfl) (fun _ _ _ _ _ _ h l=>bC h l) (fun _ _ _ _ _ _ _=>trivial) ⟨⟨w1.drew,(EP _ _).drew⟩,V⟩ ?_;simp only[EY,Fi,EZ,Fh]
    repeat (refine RE.b (fun W=>∃x:Wb w1,W=x.1) (fun _ _ _ h=>h) V V V ⟨⟨w1.drew,(EP _ _).drew⟩,V⟩ ?_;go_big_quiet_step (fail);refine Bk ?_)
    refine RE.h ?_;intro W hS hE;obtain⟨x,rfl⟩:=hS;obtain⟨j,F⟩:=zz2 (HF.o x.1 x.2 true) (aD.f v.o.rm x.2);clear hE E0 E1 E2 E3 E4 M3;go_wp2_with fail
    refine j.o.mono ?_;rintro e G ⟨rfl,a⟩;have HP:Hid (aD M ts s.b k vT vR vV w1 (az fl (xv (T.h<1)||decide (k<T.h)) 214 T.y) G):=by
     show aD _ _ _ _ _ _ _ _ _ _
     rw[i,bl];exact F.o.b a
    clear a j;go_wp2_with fail
    go_meet
    case rel=>exact HP.o
   ·have bl:xv (k<T.h)=false:=r6 aq;refine RE.u (by kernel_rfl) 14 [] [] (fun _ W=>∃x:Wb w1,W=x.1) (fun W W'=>FK W W') (fun _ _=>undef) (fun _ _ _=>True) (by kernel_rfl) (fun _ _ _ _ _ _ h l=>bC h l) (fun _ _ _ _ _ _ _=>trivial) ⟨⟨w1.drew,(EP _ _).drew⟩,V⟩ ?_;simp only[EY,Fi,EZ,Fh]
    repeat (refine RE.b (fun W=>∃x:Wb w1,W=x.1) (fun _ _ _ h=>h) V V V ⟨⟨w1.drew,(EP _ _).drew⟩,V⟩ ?_;go_big_quiet_step (fail);refine Bk ?_)
    refine RE.h ?_;intro W hS hE;obtain⟨x,rfl⟩:=hS;obtain⟨j,F⟩:=zz2 (HF.o x.1 x.2 false) (aD.f v.o.rm x.2);clear hE E0 E1 E2 E3 E4 M3;go_wp2_with fail
    refine j.o.mono ?_;rintro e G ⟨rfl,a⟩;have HP:Hid (aD M ts s.b k vT vR vV w1 (az fl (xv (T.h<1)||decide (k<T.h)) 214 T.y) G):=by
     show aD _ _ _ _ _ _ _ _ _ _
     rw[i,bl];exact F.o.b a
    clear a j;go_wp2_with fail
    go_meet
    case rel=>exact HP.o
 case rest =>
 obtain⟨H,u,ch⟩:=zz3 (v.o.call hcut) (ak.o.chg hcut.1 (fun b l=>by omega)) hcut.1;clear hcut m0 m1 m2 m3 m4 m5 a0 a1 a2 a3 a4 b0 b1 b2 b3 b4;obtain⟨b0,b1,b2,b3,b4⟩:=cells5 u.o.2.1;have el:=ch.o.h;have c1:Hid ((bA d).at_ wc D ⟨2,0,T.h-1,[]⟩ [I O 2,I Z 0,I Z (T.h-1),A U 0 0]):=fP.2 ⟨om 2 (by decide) (by decide),je,⟨by show (_:Int)≤T.h-1;omega,by show T.h-1<(_:Int);omega⟩,_,V,Rd.vn⟩;have ck:Hid (Chg (fun b=>b=M∨L≤b) w wc):=(eu hle ca.o).b (j0 ch.o);obtain⟨X,K⟩:=zzy (az fl (xv (T.h<1)||decide (k<T.h)) 214 T.y);have cl:Hid (Goes fl (aC d ts s T) X (fun s'=>(⟨s.b,s.c,s.d++[⟨2,0,T.h-1,[]⟩]⟩:RSt)=s')):=by rw[←K];exact vm HK.o cc.o
 rw[K]at H;clear K;have c3:Hid (∀q,D q→q<w.heap.size∨w.heap.size+3≤q):=fun q e=>by exact z6 (HD.o q e).2.1
 obtain⟨us,N,cq⟩:=H.o.swap.x;rw[bk.o,iO]at N;have r:FK wc (wc.alloc (wq #[I O 2,I Z 0,I Z (T.h-1),A U 0 0] 70)):=(EP _ wc).alloc (EO _) _;obtain⟨c5,cr,ct,cu,c6,cv⟩:=zz6 (cY N r) r (Rd.vk (fun b l o ho=>(r.block b (H.o.d b l).2.1).trans ho) cq) (Rd.C _ (fun b l o ho=>(r.block b (H.o.d b l).2.1).trans ho) c1.o) (H.o.swap.z r) (u.o.z r);obtain⟨a0,a1,a2,a3,a4⟩:=cells5 u.o.1;clear N cq r;go_upto_region 25 with (at_builtin;go_must (refine dU fH V (.tmp 109) (.tmp 114) V (p:=pA) (n:=f) (c:=cA) (z:=[I O 2,I Z 0,I Z (T.h-1),A U 0 0]) V V c5.o (p9 wc _) V (by simp[Value.oneCell']) (by omega) ?_);intro g cap W7 hg hC P;have Q:=cv.o.chg hC (fun b l=>by have:=b8.o _ l;omega);have fz:=aE Q.1;obtain⟨q0,q1,q2,q3,q4⟩:=cells5 Q.1)
 change AR _ _ _ _ (W7.setCell ⟨w.heap.size,4,U⟩ (A (Y ⟨g,0,U⟩) (f+1) cap));have cx:=c6.o.push (by decide) bk.o ct.o cu.o hg hC (by rw[iO];exact P);have ds:=Q.lt;have en:=cr.o.size;have eo:=hC.h;have ep:=ck.o.h;have c7:L≤g∧(g<w.heap.size∨wc.heap.size≤g):=by
  rcases hg with e|e
  ·exact⟨b9.o g e,z6 (b8.o g e)⟩
  ·exact⟨by omega,z7 (by omega)⟩
 have dv:=u.o.lt;have bn:∀q,w.heap.size≤q→q≤w.heap.size+2→¬D q:=fun q h1 h2 e=>by have:=c3.o q e;omega
 obtain⟨W8,ad⟩:=zzx (W7.setCell ⟨w.heap.size,4,U⟩ (A (Y ⟨g,0,U⟩) (f+1) cap));have bq:=(cx.swap).set w.heap.size 4 (A (Y ⟨g,0,U⟩) (f+1) cap) (by omega) (bn _ (EO _) (by omega)) (fun e=>by have:=b7.o _ e;omega) (fun e=>by injection e with e;have e:g=_:=e;omega)
 have br:=Q.set0 4 (A (Y ⟨g,0,U⟩) (f+1) cap);rw[←ad]at bq br;have cR:Chg (fun b=>b=M∨L≤b) w W8:=by
  rw[ad];exact Chg.y (p:=⟨w.heap.size,4,U⟩) ((ck.o.b (eu (by omega) cr.o)).b (jJ hC (fun b l=>by have:=b9.o b l;omega))) (z6 (z7 (by show L≤w.heap.size;omega))) _
 obtain⟨c8,R,c9,cT,da,dc⟩:=zz6 bq br cR ad bn c7;clear hg hC P cx Q bq br cR ad bn a0 a1 a2 a3 a4;rw[←cT.o];clear cT fz q0 q1 q2 q3 q4;have ar:=fX R.o.2.2 (J nm) (I Z sal) (I Z vv) (A B t C) (A (Y ⟨g,0,U⟩) (f+1) cap);have av:St2 64 70 (bf d) (bA d) M L DT ts (s.b) (k) (X) vT vR (vV) s.c (A B t C) (s.d++[⟨2,0,T.h-1,[]⟩]) (A (Y ⟨g,0,U⟩) (f+1) cap) D W8:=c8.o;have hK:∀b,b=w.heap.size+2→L≤b∧¬D b∧(A B t C).ownBlock≠Y b∧(A (Y ⟨g,0,U⟩) (f+1) cap).ownBlock≠Y b:=fun b l=>by
  subst l;have:=dc.o;refine⟨by omega,da.o _ (by omega) (EO _),?_,?_⟩
  ·intro e;have:=b7.o _ e;omega
  ·intro e;injection e with e;have e:g=_:=e;omega
 have a6:=av.C (W':=st5 W8 (w.heap.size+2) (J nm) (I Z sal) (I Z vv) (A B t C) (A (Y ⟨g,0,U⟩) (f+1) cap)) (fun b=>b=w.heap.size+2) (by rw[gJ];exact EO _) (fun b _ dd=>eh _ _ _ _ _ b dd) hK;have ba:Chg (fun b=>b=M∨L≤b) w (st5 W8 (w.heap.size+2) (J nm) (I Z sal) (I Z vv) (A B t C) (A (Y ⟨g,0,U⟩) (f+1) cap)):=c9.o.b (fK _ _ (z7 (by omega)) _ _ _ _ _);have HP:Hid (dO d M L DT ts nm sal vv t f vT vR fl (aC d ts s T) w (z8 (xS #[J nm,I Z sal,I Z vv,A B t C,A (Y ⟨g,0,U⟩) (f+1) cap])) (st5 W8 (w.heap.size+2) (J nm) (I Z sal) (I Z vv) (A B t C) (A (Y ⟨g,0,U⟩) (f+1) cap))):=
  ⟨_,⟨s.b,s.c,s.d++[⟨2,0,T.h-1,[]⟩]⟩,k,_,_,_,_,V,ba,a6,cc.o,HV.o.1,fun h0=>HV.o.2 (iD cl.o h0),by show s.c.length≤_;rw[c0.o];omega,by show (s.d++[_]).length≤_;rw[Fc,bk.o];exact EO _,cl.o⟩
 have cV:=Hd ar;obtain⟨a0,a1,a2,a3,a4⟩:=cells5 R.o.1;have bt:W8.heap[w.heap.size+1+1]?=Y (wq #[J ⟨#[]⟩,I Z 0,I Z 0,A U 0 0,A U 0 0] 50 (0,0)):=R.o.2.2;have fz:=aE bt;obtain⟨r0,r1,r2,r3,r4⟩:=cells5 bt;clear ar av hK a6 ba bt;go_wp2_with fail
 exact i9 Tryz.results51 _ _ (w.heap.size+1+1) _ _ _ _ _ cV.o _ V HP.o
theorem jb{d:Nat}{T:ab}(h:okF d T=true):aI T=true:=by
 cases d with
 | zero=>exact h
 | succ d =>
  unfold okF at h;simp only[Ff]at h;exact h.1
theorem kL{d:Nat}{T:ab}(h:okF (d+1) T=true):∀t∈T.u,okF d t=true:=by
 unfold okF at h;simp only[Ff,Fx]at h;exact h.2
theorem kG{T:ab}(h:aI T=true):bv T.b T.u=true:=by
 unfold aI at h;simp only[Ff]at h;exact h.2
theorem uU{d:Nat}{T:ab}(g:T.b=5∨T.b=6)(a:okF (d+1) T=true)(b:dh (d+1) T):∀K∈T.u,(K.b=12∨K.b=13∨K.b=14∨K.b=15)∧K.f.size≤72007∧aI K=true:=by
 intro K c;have h:=kG (jb a);have f:bG [12,13,14,15] T.u=true:=by
  unfold bv at h;rcases g with e|e<;>(rw[e]at h;exact h)
 unfold bG at f;have i:=Fx.1 f K c;exact⟨by simpa using i,(b.2.2 K c).f,jb (kL a K c)⟩
theorem De{T:ab}(b:T.b=8∨T.b=10)(a:aI T=true):∀K∈T.u,iT K:=by
 have h:=kG a;unfold bv at h;rcases b with e|e<;>rw[e]at h
 ·exact j3 h
 ·have h:(xv (0<T.u.length)&&cI T.u)=true:=h;simp only[Ff]at h;exact j3 h.2
theorem Dl{T:ab}(c:T.b=7)(a:aI T=true):∃K,T.u=[K]∧iT K:=by
 have h:=kG a;unfold bv at h;rw[c]at h;have h:(T.u.length==1&&cI T.u)=true:=h;simp only[Ff,tk]at h;obtain⟨K,b⟩:=List.length_eq_one_iff.1 h.1;exact⟨K,b,j3 h.2 K (by rw[b];exact List.mem_singleton.2 V)⟩
theorem Ew{T:ab}(b:T.b=9)(a:aI T=true):-1000000≤T.h∧T.h≤1000000000000000000:=by
 unfold aI at a;simp only[Ff]at a;have h:=a.1.1.2;unfold bL at h;rw[b]at h;have h:(xv (0≤T.h)&&xv (T.h≤2147483647))=true:=h;simp only[Ff,r7]at h;omega
theorem yK(d M L B:Nat)(DT:Nat→Prop)(ts:List ae)(s:RSt)(k:Int)(fl:Flt)(vT vR vV vC vA:wF)(D:Nat→Prop)(nm:ByteArray)(sal vv:Int)(T:ab)(o:wF)(w:wD)
  (h:St2 64 70 (bf d) (bA d) M L DT ts s.b k fl vT vR vV s.c vC s.d vA D w) (f:s.c.length≤20000) (g:s.d.length≤20000) (i:s.b.length≤17∧(fl.1=0→s.b.length≤16)) (j:k=bE s.c) (r:5≤T.b∧T.b≤11)
  (m:B≤M) (l:ao w B (d+1) T.u o) (a:dh (d+1) T) (b:okF (d+1) T=true) :
  xL xD 51 #[xV (Y ⟨M,0,U⟩),xS #[J nm,I Z sal,I Z vv,vC,vA],xS #[I O T.b,J T.f,I Z T.h,I Z T.y,o]] w (dO d M L DT ts nm sal vv s.c.length s.d.length vT vR fl (aC d ts s T) w):=by
 obtain⟨p,c,rfl⟩:=l.f;have n:T.b=5∨T.b=6∨T.b=7∨T.b=8∨T.b=9∨T.b=10∨T.b=11:=by omega
 rcases n with e|e|e|e|e|e|e
 ·exact wL d M L B DT ts s k fl vT vR vV vC vA D nm sal vv T p _ c w h V a.2.1 f g i j e m l (uU (z6 e) b a)
 ·exact xR d M L B DT ts s k fl vT vR vV vC vA D nm sal vv T p _ c w h V a.2.1 f g i j e m l (uU (z7 e) b a)
 ·obtain⟨K,q,hex⟩:=Dl e (jb b);have hm:K∈T.u:=by rw[q];exact List.mem_singleton.2 V
  exact vz d M L B DT ts s k fl vT vR vV vC vA D nm sal vv T p _ c w h V a.2.1 f g i j e K [] q m l (a.2.2 K hm) (kL b K hm) hex
 ·exact tq d M L B DT ts s k fl vT vR vV vC vA D nm sal vv T p _ c w h V a.2.1 f g i j e m l a.2.2 (kL b) (De (z6 e) (jb b))
 ·exact rL d M L B DT ts s k fl vT vR vV vC vA D nm sal vv T p _ c w h V a.2.1 f g i j e (Ew e (jb b))
 ·exact yB d M L B DT ts s k fl vT vR vV vC vA D nm sal vv T p _ c w h V a.2.1 f g i j e m l a.2.2 (kL b) (De (z7 e) (jb b))
 ·exact ww d M L B DT ts s k fl vT vR vV vC vA D nm sal vv T p _ c w h V a.2.1 f g i j e
