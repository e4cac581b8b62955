/- Parts of one proof, joined; conditions stand in each theorem. -/
import Derived.Test.YtkhfjgjjhlnnnaaGreatDoorOD
import Derived.Test.YtkhfjgjjhlnnnaaGreatDoorNH
open Go renaming Value→vn,World→vk,Calls→wB,wpQuiet_nil→z7
open Go.Value renaming slice→A,pointer→wF,agg→wD,string→J,int→I
open Go.Proofs.Tryz renaming prog→wq
open Option renaming some→Y,none→U
open Go.IntKind renaming i64→Z,u8→O
open Go.Obj renaming cells→ur
open Go.Code renaming wp→xV
open Or renaming inl→wP,inr→xj
open Go.Ending renaming returned→xv
open Decidable renaming decide→wo
namespace Go.Proofs.YtkhfjgjjhlnnnaaGreatDoor
set_option maxHeartbeats 8000000
set_option maxRecDepth 100000
open Go.RowKit
theorem vE(d M L B:Nat)(DT:Nat→Prop)(ts:List ae)(s:RSt)(k:Int)(fl:Flt)(vT vR vV vC vA:vn)(D:Nat→Prop)(nm:ByteArray)(sal vv:Int)(T:ab)(p:Option Addr)(n c:Nat)(w:vk)
  (h:St2 64 70 (bg d) (bD d) M L DT ts s.b k fl vT vR vV s.c vC s.d vA D w) (hn:T.q.length=n) (gL:n≤20000) (ds:s.c.length≤20000) (_han:s.d.length≤20000) (b8:s.b.length≤17∧(fl.1=0→s.b.length≤16)) (b9:k=bG s.c) (hk:T.b=7) (K:ab) (rest:List ab) (v:T.q=K::rest) (dv:B≤M) (ba:aj w B (d+1) T.q (A p n c)) (ca:dj d K) (cb:okF d K=true) (cc:iQ K) :
  wB wq 51 #[wF (Y ⟨M,0,U⟩),wD #[J nm,I Z sal,I Z vv,vC,vA],wD #[I O T.b,J T.f,I Z T.h,I Z T.t,A p n c]] w (dN d M L DT ts nm sal vv s.c.length s.d.length vT vR fl (aC d ts s T) w):=by
 obtain⟨pC,cC,ch⟩:=h.x.b;obtain⟨C,F,cl⟩:=h.y.b;obtain⟨i,bb⟩:=zzy (s.c.length);obtain⟨r,bc⟩:=zzy (s.d.length);rw[bb]at ch ds ⊢;rw[bc]at cl _han ⊢;subst ch;subst cl;obtain⟨w1,bd⟩:=zzx (((w.alloc (ur #[J nm,I Z sal,I Z vv,A pC i cC,A C r F] 50)).alloc (ur #[I O 7,J T.f,I Z T.h,I Z T.t,A p n c] 25)).alloc (ur #[J ⟨#[]⟩,I Z 0,I Z 0,A U 0 0,A U 0 0] 50));obtain⟨G,f⟩:=fx.new w (ur #[J nm,I Z sal,I Z vv,A pC i cC,A C r F] 50 (0,0)) (ur #[I O 7,J T.f,I Z T.h,I Z T.t,A p n c] 25 (0,0)) (ur #[J ⟨#[]⟩,I Z 0,I Z 0,A U 0 0,A U 0 0] 50 (0,0));rw[←bd]at G f;have gM:=h.lt;have hle:=h.le;have bl:=Hd (fun g (e:(A pC i cC).ownBlock=Y g)=>h.x.lt e);have bn:=Hd (fun g (e:(A C r F).ownBlock=Y g)=>h.y.lt e);obtain⟨cq,gN,HD,bq,cr,ak,ct⟩:=zz7 h.xl h.yl h.d (h.u f) f G bd;obtain⟨br,ea,HV,eb,HK,HN⟩:=zz6 bb bc b8 b9 hk hn;obtain⟨a0,a1,a2,a3,a4⟩:=cells5 G.1;obtain⟨b0,b1,b2,b3,b4⟩:=cells5 G.2.1;obtain⟨l,off,ck,sk,eg,cu,c0,c1,c2,c3,c4,t⟩:∃l off ck sk,(A p n c)=A (Y ⟨l,off,U⟩) n ck∧Fits K∧w.cell? ⟨l,off,U⟩=Y (I O K.b)∧w.cell? ⟨l,off+1,U⟩=Y (J K.f)∧w.cell? ⟨l,off+2,U⟩=Y (I Z K.h)∧w.cell? ⟨l,off+3,U⟩=Y (I Z K.t)∧w.cell? ⟨l,off+4,U⟩=Y sk∧aj w B d K.q sk:=by
  rw[v]at ba;rcases ba with ⟨h0,_⟩|⟨l,off,cap,h1,h2,h3,h4,he,h6⟩
  ·cases h0
  ·obtain⟨hf,s,c0,c1,c2,c3,c4,t⟩:=h6 0 K V;rw[Nat.zero_mul,Nat.add_zero]at c0 c1 c2 c3 c4;have hl:(K::rest).length=n:=by rw[←v];exact hn
   rw[hl]at he;exact⟨l,off,cap,s,he,hf,c0,c1,c2,c3,c4,t⟩
 injection eg with ep _ ec
 subst ep;subst ec;have gO:0<n:=by rw[←hn,v];exact Nat.succ_pos _
 have gE:(0:Int)<n:=by omega
 obtain⟨pk,cv,rfl⟩:=t.f;obtain⟨gS,ek,cx⟩:=zz3 t v (qD ts s.b k vT vR vV dv d K (A pk K.q.length cv) fl w1 bq.o.rm (t.u (f.mono (by omega))) ca cb cc);have k0:w1.cell? ⟨l,off,U⟩=Y (I O K.b):=Wb.b (⟨w1,f⟩:Wb w) c0;have k1:w1.cell? ⟨l,off+1,U⟩=Y (J K.f):=Wb.b (⟨w1,f⟩:Wb w) c1;have k2:w1.cell? ⟨l,off+2,U⟩=Y (I Z K.h):=Wb.b (⟨w1,f⟩:Wb w) c2;have k3:w1.cell? ⟨l,off+3,U⟩=Y (I Z K.t):=Wb.b (⟨w1,f⟩:Wb w) c3;have k4:w1.cell? ⟨l,off+4,U⟩=Y (A pk K.q.length cv):=Wb.b (⟨w1,f⟩:Wb w) c4;clear ba t ca cb cc v c0 c1 c2 c3 c4 cu;rw[hk];clear h bd G f bb bc b8 b9 hk hn
 go_enter Tryz.func51,Tryz.ntmps51
 go_upto_region 1 with fail
 change xV _ _ _ _ (((w.alloc (ur #[J nm,I Z sal,I Z vv,A pC i cC,A C r F] 50)).alloc (ur #[I O 7,J T.f,I Z T.h,I Z T.t,A (Y ⟨l,off,U⟩) n c] 25)).alloc (ur #[J ⟨#[]⟩,I Z 0,I Z 0,A U 0 0,A U 0 0] 50));rw[←ct.o];clear ct;go_wp2_with fail
 refine cx.o.mono ?_;rintro e u ⟨el,E,sE,rfl,j,cR,bt,al⟩;obtain⟨pe,ce,en⟩:=bh bt;subst en;have gT:=cr.o.size;have ha:=ak.o.lt;have eo:=j.1.h
 have er:=Hd ((bq.o.call j).wide (D':=fun b=>D b∨am w1 u b) (fun b a=>wP a) (fun b a=>by
  rcases a with a|a
  ·have hd:=bq.o.d b a;exact⟨hd.1,Ft hd.2.1 eo,hd.2.2⟩
  ·exact⟨by have:=a.1;omega,a.2,fun e=>by have:=bl.o _ e;have:=a.1;omega,fun e=>by have:=bn.o _ e;have:=a.1;omega⟩))
 obtain⟨cT,et,cV,ev⟩:=zz4 (ak.o.chg j.1 (fun b a=>by omega)) j al cR;obtain⟨H,X⟩:=zzx (u.alloc (ur #[I O E.b,I O E.f.b,I Z E.f.h,J E.f.f,I Z E.h,I O E.op,A pe E.q.length ce] 62));have N:Gc u H:=by rw[X];exact (Fl _ u).alloc (Fj _) _
 have bB:=qv u (ur #[I O E.b,I O E.f.b,I Z E.f.h,J E.f.f,I Z E.h,I O E.op,A pe E.q.length ce] 62);rw[←X]at bB;obtain⟨e7,ad,P,e8,e9,cW⟩:=zz6 bB (er.o.u N) (cT.o.u N) N (fb (w':=H) (fun b (a:am w1 u b) o ho=>(N.block b a.2).trans ho) bt) X;clear k0 k1 k2 k3 k4 a0 a1 a2 a3 a4 b0 b1 b2 b3 b4 j al N bB X cR bt cx;go_upto_region 14 with fail
 change xV _ _ _ _ (u.alloc (ur #[I O E.b,I O E.f.b,I Z E.f.h,J E.f.f,I Z E.h,I O E.op,A pe E.q.length ce] 62));rw[←cW.o];clear cW;have fe:Hid ((bg d).at_ H (fun b=>D b∨am w1 u b) ⟨3,0,[],E⟩ [I O 3,I Z 0,A U 0 0,I O E.b,I O E.f.b,I Z E.f.h,J E.f.f,I Z E.h,I O E.op,A pe E.q.length ce]):=ft.2 ⟨od 3 (by decide) (by decide),jb,ev.o,_,_,V,Rd.sm,fi (fun b a=>xj a) e9.o⟩;have c5:Hid (Chg (fun b=>b=M∨L≤b) w H):=((eu hle cr.o).b (jW et.o.1)).b (eu (by omega) e8.o);have fm:Hid (∀q,(fun b=>D b∨am w1 u b) q→q<w.heap.size∨w.heap.size+3≤q):=fun q e=>by
  rcases e with e|e
  ·exact wP (HD.o q e).2.1
  ·have:=e.1;exact xj (by omega)
 obtain⟨us,Q,c6⟩:=ad.o.x;rw[br.o,dP]at Q;have m:Gc H (H.alloc (ur #[I O 3,I Z 0,A U 0 0,I O E.b,I O E.f.b,I Z E.f.h,J E.f.f,I Z E.h,I O E.op,A pe E.q.length ce] 64)):=(Fl _ H).alloc (Fj _) _;obtain⟨fp,c7,c8,c9,fv,da⟩:=zz6 (db Q m) m (Rd.qv (fun b a o ho=>(m.block b (ad.o.d b a).2.1).trans ho) c6) (Rd.z _ (fun b a o ho=>(m.block b (ad.o.d b a).2.1).trans ho) fe.o) (ad.o.u m) (P.o.u m);obtain⟨a0,a1,a2,a3,a4⟩:=cells5 P.o.1;obtain⟨e0,e1,e2,e3,e4,e5,e6⟩:=dF e7.o;clear Q c6 m;go_upto_region 25 with (at_builtin;go_must (refine fk i5 V (.tmp 68) (.tmp 71) V (p:=pC) (n:=i) (c:=cC) (z:=[I O 3,I Z 0,A U 0 0,I O E.b,I O E.f.b,I Z E.f.h,J E.f.f,I Z E.h,I O E.op,A pe E.q.length ce]) V V fp.o (qv H _) V (by simp[Value.oneCell']) (by omega) ?_);intro g cap W7 hg hC R;have S:=da.o.chg hC (fun b a=>by have:=bl.o _ a;omega);have fz:=aE S.1;obtain⟨q0,q1,q2,q3,q4⟩:=cells5 S.1)
 change xV _ _ _ _ (W7.setCell ⟨w.heap.size,3,U⟩ (A (Y ⟨g,0,U⟩) (i+1) cap));have dc:=fv.o.push (by decide) br.o c8.o c9.o hg hC (by rw[dP];exact R);have gF:=S.lt;have hc:=c7.o.size;have hh:=hC.h;have hi:=c5.o.h;have fI:L≤g∧(g<w.heap.size∨H.heap.size≤g):=by
  rcases hg with e|e
  ·exact⟨cq.o g e,wP (bl.o g e)⟩
  ·exact⟨by omega,xj (by omega)⟩
 have gH:=P.o.lt;have bR:∀q,w.heap.size≤q→q≤w.heap.size+2→¬(fun b=>D b∨am w1 u b) q:=fun q h1 h2 e=>by have:=fm.o q e;omega
 obtain⟨W8,af⟩:=zzx (W7.setCell ⟨w.heap.size,3,U⟩ (A (Y ⟨g,0,U⟩) (i+1) cap));have b5:=(dc).set w.heap.size 3 (A (Y ⟨g,0,U⟩) (i+1) cap) (by omega) (bR _ (Fj _) (by omega)) (fun e=>by injection e with e;have e:g=_:=e;omega) (fun e=>by have:=bn.o _ e;omega)
 have b6:=S.set0 3 (A (Y ⟨g,0,U⟩) (i+1) cap);rw[←af]at b5 b6;have dd:Chg (fun b=>b=M∨L≤b) w W8:=by
  rw[af];exact Chg.t (p:=⟨w.heap.size,3,U⟩) ((c5.o.b (eu (by omega) c7.o)).b (jG hC (fun b a=>by have:=cq.o b a;omega))) (wP (xj (by show L≤w.heap.size;omega))) _
 obtain⟨fM,W,fT,dg,gf,gg⟩:=zz6 b5 b6 dd af bR fI;clear hg hC R dc S b5 b6 dd af bR a0 a1 a2 a3 a4 e0 e1 e2 e3 e4 e5 e6;rw[←dg.o];clear dg fz q0 q1 q2 q3 q4;have aq:=fU W.o.2.2 (J nm) (I Z sal) (I Z vv) (A (Y ⟨g,0,U⟩) (i+1) cap) (A C r F);have ar:St2 64 70 (bg d) (bD d) M L DT ts (s.b) (k) (el) vT vR (vV) (s.c++[⟨3,0,[],E⟩]) (A (Y ⟨g,0,U⟩) (i+1) cap) s.d (A C r F) (fun b=>D b∨am w1 u b) W8:=fM.o;have hK:∀b,b=w.heap.size+2→L≤b∧¬(fun b=>D b∨am w1 u b) b∧(A (Y ⟨g,0,U⟩) (i+1) cap).ownBlock≠Y b∧(A C r F).ownBlock≠Y b:=fun b a=>by
  subst a;have:=gg.o;refine⟨by omega,gf.o _ (by omega) (Fj _),?_,?_⟩
  ·intro e;injection e with e;have e:g=_:=e;omega
  ·intro e;have:=bn.o _ e;omega
 have av:=ar.z (W':=st5 W8 (w.heap.size+2) (J nm) (I Z sal) (I Z vv) (A (Y ⟨g,0,U⟩) (i+1) cap) (A C r F)) (fun b=>b=w.heap.size+2) (by rw[gI];exact Fj _) (fun b _ gD=>ei _ _ _ _ _ b gD) hK;have a6:Chg (fun b=>b=M∨L≤b) w (st5 W8 (w.heap.size+2) (J nm) (I Z sal) (I Z vv) (A (Y ⟨g,0,U⟩) (i+1) cap) (A C r F)):=fT.o.b (fH _ _ (xj (by omega)) _ _ _ _ _);have HP:Hid (dN d M L DT ts nm sal vv i r vT vR fl (aC d ts s T) w (xv (wD #[J nm,I Z sal,I Z vv,A (Y ⟨g,0,U⟩) (i+1) cap,A C r F])) (st5 W8 (w.heap.size+2) (J nm) (I Z sal) (I Z vv) (A (Y ⟨g,0,U⟩) (i+1) cap) (A C r F))):=
  ⟨_,⟨s.b,s.c++[⟨3,0,[],E⟩],s.d⟩,k,_,_,_,_,V,a6,av,by rw[eb.o];exact qQ _ _ (by show ¬((3:Int)==1)=true;decide),HV.o.1,fun h0=>HV.o.2 (iy cV.o h0),by show (s.c++[_]).length≤_;rw[FC,br.o];exact Fj _,by show s.d.length≤_;rw[ea.o];omega,zo HK.o ek.o cV.o⟩
 have dp:=Hd aq;obtain⟨a0,a1,a2,a3,a4⟩:=cells5 W.o.1;have b7:W8.heap[w.heap.size+1+1]?=Y (ur #[J ⟨#[]⟩,I Z 0,I Z 0,A U 0 0,A U 0 0] 50 (0,0)):=W.o.2.2;have fz:=aE b7;obtain⟨r0,r1,r2,r3,r4⟩:=cells5 b7;clear aq ar hK av a6 b7;go_wp2_with fail
 exact i6 Tryz.results51 _ _ (w.heap.size+1+1) _ _ _ _ _ dp.o _ V HP.o
theorem tz(d M L B:Nat)(DT:Nat→Prop)(ts:List ae)(s:RSt)(k:Int)(fl:Flt)(vT vR vV vC vA:vn)(D:Nat→Prop)(nm:ByteArray)(sal vv:Int)(T:ab)(p:Option Addr)(n c:Nat)(w:vk)
  (h:St2 64 70 (bg d) (bD d) M L DT ts s.b k fl vT vR vV s.c vC s.d vA D w) (hn:T.q.length=n) (fv:n≤20000) (_hcn:s.c.length≤20000) (fI:s.d.length≤20000) (c1:s.b.length≤17∧(fl.1=0→s.b.length≤16)) (c3:k=bG s.c) (hk:T.b=8) (fM:B≤M) (c5:aj w B (d+1) T.q (A p n c)) (c6:∀t∈T.q,dj d t) (c7:∀t∈T.q,okF d t=true) (c8:∀t∈T.q,iQ t) :
  wB wq 51 #[wF (Y ⟨M,0,U⟩),wD #[J nm,I Z sal,I Z vv,vC,vA],wD #[I O T.b,J T.f,I Z T.h,I Z T.t,A p n c]] w (dN d M L DT ts nm sal vv s.c.length s.d.length vT vR fl (aC d ts s T) w):=by
 obtain⟨K,N,c9⟩:=h.x.b;obtain⟨pA,cA,da⟩:=h.y.b;obtain⟨F,b9⟩:=zzy (s.c.length);obtain⟨l,ca⟩:=zzy (s.d.length);rw[b9]at c9 _hcn ⊢;rw[ca]at da fI ⊢;subst c9;subst da;obtain⟨w1,cb⟩:=zzx (((w.alloc (ur #[J nm,I Z sal,I Z vv,A K F N,A pA l cA] 50)).alloc (ur #[I O 8,J T.f,I Z T.h,I Z T.t,A p n c] 25)).alloc (ur #[J ⟨#[]⟩,I Z 0,I Z 0,A U 0 0,A U 0 0] 50));obtain⟨P,a6⟩:=fx.new w (ur #[J nm,I Z sal,I Z vv,A K F N,A pA l cA] 50 (0,0)) (ur #[I O 8,J T.f,I Z T.h,I Z T.t,A p n c] 25 (0,0)) (ur #[J ⟨#[]⟩,I Z 0,I Z 0,A U 0 0,A U 0 0] 50 (0,0));rw[←cb]at P a6;have hv:=h.lt;have hle:=h.le;have ba:=Hd (fun g (e:(A K F N).ownBlock=Y g)=>h.x.lt e);have bb:=Hd (fun g (e:(A pA l cA).ownBlock=Y g)=>h.y.lt e);obtain⟨hx,dc,HD,dd,cc,bn,dg⟩:=zz7 h.xl h.yl h.d (h.u a6) a6 P cb;obtain⟨fT,ch,HV,gf,HK,HN⟩:=zz6 b9 ca c1 c3 hk hn;obtain⟨a0,a1,a2,a3,a4⟩:=cells5 P.1;obtain⟨b0,b1,b2,b3,b4⟩:=cells5 P.2.1;have dp:Hid (wB wq 80 #[wF (Y ⟨M,0,U⟩),wD #[I O 8,J T.f,I Z T.h,I Z T.t,A p n c]] w1 (fun e w'=>∃fl' j,e=xv (I Z j)∧I64 j∧aD M ts s.b k vT vR vV w1 fl' w'∧Goes fl (bK ts T) fl' (fun i=>j=(i:Int)))):=by
  have:=lB dd.o.rm T p c (by rw[HN.o];omega);rw[HK.o,HN.o]at this;exact this
 obtain⟨gg,HM,gD,gE,gF⟩:=zz5 c5 fM c6 c7 c8;clear c5 c6 c7 c8;rw[hk];clear h cb P a6 b9 ca c1 c3 hk hn
 go_enter Tryz.func51,Tryz.ntmps51
 go_upto_region 1 with fail
 change xV _ _ _ _ (((w.alloc (ur #[J nm,I Z sal,I Z vv,A K F N,A pA l cA] 50)).alloc (ur #[I O 8,J T.f,I Z T.h,I Z T.t,A p n c] 25)).alloc (ur #[J ⟨#[]⟩,I Z 0,I Z 0,A U 0 0,A U 0 0] 50));rw[←dg.o];clear dg;go_wp2_with fail
 refine dp.o.mono ?_;rintro e r ⟨ds,j,rfl,hj,u,bq⟩;obtain⟨dv,Q,ea,eb,HJ⟩:=zz5 (dd.o.call u) (bn.o.chg u.1 (fun b a=>by omega)) u bq hj;obtain⟨C,R⟩:=zzx (r.alloc (ur #[I O 1,I Z j,I Z 0,A U 0 0] 70));have bc:Gc r C:=by rw[R];exact (Fl _ r).alloc (Fj _) _
 have ck:=qv r (ur #[I O 1,I Z j,I Z 0,A U 0 0] 70);rw[←R]at ck;have H:C.heap.size=r.heap.size+1:=by rw[R,r9]
 have hy:=u.1.h;have hz:=cc.o.size;have hA:=bn.o.lt;obtain⟨ec,cl,br,eg,bt,ek⟩:=zz6 ck (dv.o.u bc) (Q.o.u bc) bc H R;clear a0 a1 a2 a3 a4 b0 b1 b2 b3 b4 u bq hj bc ck H R dp;obtain⟨a0,a1,a2,a3,a4⟩:=cells5 Q.o.1;obtain⟨b0,b1,b2,b3,b4⟩:=cells5 Q.o.2.1;go_upto_region 17 with fail
 change xV _ _ _ _ (r.alloc (ur #[I O 1,I Z j,I Z 0,A U 0 0] 70));rw[←ek.o];clear ek a0 a1 a2 a3 a4 b0 b1 b2 b3 b4;obtain⟨b0,b1,b2,b3,b4⟩:=cells5 br.o.2.1;have H:=bt.o;have HA:Hid (wB wq 83 #[wF (Y ⟨M,0,U⟩),A p n c] C (jZ M ts s.b k vT vR vV d n ds (bC (aB s.b d) T.q) C)):=by
  have:=oW ts s.b k vT vR vV HM.o d T.q (A p n c) ds C cl.o.rm (gg.o.u (by
   have h1:Below B w w1:=cc.o.mono (by omega);have h2:=eI ea.o.1 HM.o (by omega);exact (h1.trans h2).trans (eg.o.mono (by omega))
   )) (by rw[HN.o];exact fv) gD.o gE.o gF.o
  rw[HN.o]at this;exact this
 go_wp2_with fail
 refine HA.o.mono ?_;rintro e w4 ⟨gH,es,v,rfl,f,el,m,bB,bR⟩;obtain⟨S,W,en⟩:=m.b;rw[el]at en;subst en;have gL:=f.1.h
 have gM:=Hd ((cl.o.call f).wide (D':=fun b=>D b∨am C w4 b) (fun b a=>wP a) (fun b a=>by
  rcases a with a|a
  ·have hd:=cl.o.d b a;exact⟨hd.1,Ft hd.2.1 gL,hd.2.2⟩
  ·exact⟨by have:=a.1;omega,a.2,fun e=>by have:=ba.o _ e;have:=a.1;omega,fun e=>by have:=bb.o _ e;have:=a.1;omega⟩))
 obtain⟨gN,eo,ep,er,cq⟩:=zz5 f.1 bR (m.C (G:=fun b=>D b∨am C w4 b) (fun b a=>xj a.1) (fun g hg=>xj ⟨bB g hg,m.lt hg⟩)) (br.o.chg f.1 (fun b a=>by omega)) (bv f.1 ec.o (Fi.1 ec.o).1 (fun e=>by omega));have H:=bt.o;obtain⟨X,bd⟩:=zzx (w4.setCell ⟨r.heap.size,3,U⟩ (A S n W));have cr:¬(D r.heap.size∨am C w4 r.heap.size):=fun e=>by
  rcases e with e|e
  ·have:=(dv.o.d _ e).2.1;omega
  ·have:=e.1;omega
 have ad:=heap_set cq.o 3 (A S n W);have ct:=gM.o.set r.heap.size 3 (A S n W) (by omega) cr (fun e=>by have:=ba.o _ e;omega) (fun e=>by have:=bb.o _ e;omega);have cu:=er.o.set r.heap.size 3 (A S n W) (by omega);have cx:Chg (fun b=>b=M∨L≤b) w4 (w4.setCell ⟨r.heap.size,3,U⟩ (A S n W)):=Chg.t (p:=⟨r.heap.size,3,U⟩) (Chg.refl _ _) (wP (xj (by show L≤r.heap.size;omega))) _;rw[←bd]at ad ct cu cx
 have af:(aM d).C X (fun b=>D b∨am C w4 b) es (A S n W):=Rd.f (fun b a o ho=>by
  rw[bd]
  exact (Fp w4 ⟨r.heap.size,3,U⟩ _ b (fun e=>cr (by have e:b=r.heap.size:=e;rw[←e];exact a))).trans ho) ep.o
 have ad:X.heap[r.heap.size]?=Y (ur #[I O 1,I Z j,I Z 0,A S n W] 70 (0,0)):=ad;obtain⟨gO,bk,ak,gS,cR,et⟩:=zz6 ad ct cu cx af bd;have fz:=aE cq.o;obtain⟨y0,y1,y2,y3⟩:=gp cq.o;clear f bR m bB ad ct cu cx af bd cr b0 b1 b2 b3 b4 HA el;go_upto_region 18 with fail
 change xV _ _ _ _ (w4.setCell ⟨r.heap.size,3,U⟩ (A S n W));rw[←et.o];clear et fz y0 y1 y2 y3;have gT:Hid ((bD d).at_ X (fun b=>D b∨am C w4 b) ⟨1,j,0,es⟩ [I O 1,I Z j,I Z 0,A S n W]):=fN.2 ⟨od 1 (by decide) (by decide),HJ.o,jb,_,V,cR.o⟩;have ev:Hid (Chg (fun b=>b=M∨L≤b) w X):=(((eu hle cc.o).b (jW ea.o.1)).b (eu (by omega) eg.o)).b ((jW gN.o).b gS.o);have ha:Hid (∀q,(fun b=>D b∨am C w4 b) q→q<w.heap.size∨w.heap.size+3≤q):=fun q e=>by
  rcases e with e|e
  ·exact wP (HD.o q e).2.1
  ·have:=e.1;exact xj (by omega)
 obtain⟨us,al,e4⟩:=bk.o.swap.x;rw[ch.o,iL]at al;have E:Gc X (X.alloc (ur #[I O 1,I Z j,I Z 0,A S n W] 70)):=(Fl _ X).alloc (Fj _) _;obtain⟨hc,e5,e6,e7,hf,e8⟩:=zz6 (db al E) E (Rd.qv (fun b a o ho=>(E.block b (bk.o.d b a).2.1).trans ho) e4) (Rd.z _ (fun b a o ho=>(E.block b (bk.o.d b a).2.1).trans ho) gT.o) (bk.o.swap.u E) (ak.o.u E);obtain⟨a0,a1,a2,a3,a4⟩:=cells5 ak.o.1;obtain⟨e0,e1,e2,e3⟩:=gp gO.o;clear al e4 E;go_upto_region 25 with (at_builtin;go_must (refine fk fF V (.tmp 86) (.tmp 88) V (p:=pA) (n:=l) (c:=cA) (z:=[I O 1,I Z j,I Z 0,A S n W]) V V hc.o (qv X _) V (by simp[Value.oneCell']) (by omega) ?_);intro g cap W7 hg hC aq;have ar:=e8.o.chg hC (fun b a=>by have:=bb.o _ a;omega);have fz:=aE ar.1;obtain⟨q0,q1,q2,q3,q4⟩:=cells5 ar.1)
 change xV _ _ _ _ (W7.setCell ⟨w.heap.size,4,U⟩ (A (Y ⟨g,0,U⟩) (l+1) cap));have e9:=hf.o.push (by decide) ch.o e6.o e7.o hg hC (by rw[iL];exact aq);have hs:=ar.lt;have hD:=e5.o.size;have hE:=hC.h;have hG:=ev.o.h;have hh:L≤g∧(g<w.heap.size∨X.heap.size≤g):=by
  rcases hg with e|e
  ·exact⟨dc.o g e,wP (bb.o g e)⟩
  ·exact⟨by omega,xj (by omega)⟩
 have ht:=ak.o.lt;have cT:∀q,w.heap.size≤q→q≤w.heap.size+2→¬(fun b=>D b∨am C w4 b) q:=fun q h1 h2 e=>by have:=ha.o q e;omega
 obtain⟨W8,bl⟩:=zzx (W7.setCell ⟨w.heap.size,4,U⟩ (A (Y ⟨g,0,U⟩) (l+1) cap));have cV:=(e9.swap).set w.heap.size 4 (A (Y ⟨g,0,U⟩) (l+1) cap) (by omega) (cT _ (Fj _) (by omega)) (fun e=>by have:=ba.o _ e;omega) (fun e=>by injection e with e;have e:g=_:=e;omega)
 have cW:=ar.set0 4 (A (Y ⟨g,0,U⟩) (l+1) cap);rw[←bl]at cV cW;have fe:Chg (fun b=>b=M∨L≤b) w W8:=by
  rw[bl];exact Chg.t (p:=⟨w.heap.size,4,U⟩) ((ev.o.b (eu (by omega) e5.o)).b (jG hC (fun b a=>by have:=dc.o b a;omega))) (wP (xj (by show L≤w.heap.size;omega))) _
 obtain⟨hi,av,hl,fm,hp,hq⟩:=zz6 cV cW fe bl cT hh;clear hg hC aq e9 ar cV cW fe bl cT a0 a1 a2 a3 a4 e0 e1 e2 e3;rw[←fm.o];clear fm fz q0 q1 q2 q3 q4;have b5:=fU av.o.2.2 (J nm) (I Z sal) (I Z vv) (A K F N) (A (Y ⟨g,0,U⟩) (l+1) cap);have b6:St2 64 70 (bg d) (bD d) M L DT ts (s.b) (k) (gH) vT vR (vV) s.c (A K F N) (s.d++[⟨1,j,0,es⟩]) (A (Y ⟨g,0,U⟩) (l+1) cap) (fun b=>D b∨am C w4 b) W8:=hi.o;have hK:∀b,b=w.heap.size+2→L≤b∧¬(fun b=>D b∨am C w4 b) b∧(A K F N).ownBlock≠Y b∧(A (Y ⟨g,0,U⟩) (l+1) cap).ownBlock≠Y b:=fun b a=>by
  subst a;have:=hq.o;refine⟨by omega,hp.o _ (by omega) (Fj _),?_,?_⟩
  ·intro e;have:=ba.o _ e;omega
  ·intro e;injection e with e;have e:g=_:=e;omega
 have b7:=b6.z (W':=st5 W8 (w.heap.size+2) (J nm) (I Z sal) (I Z vv) (A K F N) (A (Y ⟨g,0,U⟩) (l+1) cap)) (fun b=>b=w.heap.size+2) (by rw[gI];exact Fj _) (fun b _ hr=>ei _ _ _ _ _ b hr) hK;have b8:Chg (fun b=>b=M∨L≤b) w (st5 W8 (w.heap.size+2) (J nm) (I Z sal) (I Z vv) (A K F N) (A (Y ⟨g,0,U⟩) (l+1) cap)):=hl.o.b (fH _ _ (xj (by omega)) _ _ _ _ _);have HP:Hid (dN d M L DT ts nm sal vv F l vT vR fl (aC d ts s T) w (xv (wD #[J nm,I Z sal,I Z vv,A K F N,A (Y ⟨g,0,U⟩) (l+1) cap])) (st5 W8 (w.heap.size+2) (J nm) (I Z sal) (I Z vv) (A K F N) (A (Y ⟨g,0,U⟩) (l+1) cap))):=
  ⟨_,⟨s.b,s.c,s.d++[⟨1,j,0,es⟩]⟩,k,_,_,_,_,V,b8,b7,gf.o,HV.o.1,fun h0=>HV.o.2 (iy eb.o (iy eo.o h0)),by show s.c.length≤_;rw[fT.o];omega,by show (s.d++[_]).length≤_;rw[FC,ch.o];exact Fj _,vJ HK.o eb.o eo.o⟩
 have fp:=Hd b5;obtain⟨a0,a1,a2,a3,a4⟩:=cells5 av.o.1;have c0:W8.heap[w.heap.size+1+1]?=Y (ur #[J ⟨#[]⟩,I Z 0,I Z 0,A U 0 0,A U 0 0] 50 (0,0)):=av.o.2.2;have fz:=aE c0;obtain⟨r0,r1,r2,r3,r4⟩:=cells5 c0;clear b5 b6 hK b7 b8 c0;go_wp2_with fail
 exact i6 Tryz.results51 _ _ (w.heap.size+1+1) _ _ _ _ _ fp.o _ V HP.o
theorem yF(d M L B:Nat)(DT:Nat→Prop)(ts:List ae)(s:RSt)(k:Int)(fl:Flt)(vT vR vV vC vA:vn)(D:Nat→Prop)(nm:ByteArray)(sal vv:Int)(T:ab)(p:Option Addr)(n c:Nat)(w:vk)
  (h:St2 64 70 (bg d) (bD d) M L DT ts s.b k fl vT vR vV s.c vC s.d vA D w) (hn:T.q.length=n) (c0:n≤20000) (_hcn:s.c.length≤20000) (c1:s.d.length≤20000) (br:s.b.length≤17∧(fl.1=0→s.b.length≤16)) (bt:k=bG s.c) (hk:T.b=10) (c3:B≤M) (bB:aj w B (d+1) T.q (A p n c)) (bR:∀t∈T.q,dj d t) (b5:∀t∈T.q,okF d t=true) (b6:∀t∈T.q,iQ t) :
  wB wq 51 #[wF (Y ⟨M,0,U⟩),wD #[J nm,I Z sal,I Z vv,vC,vA],wD #[I O T.b,J T.f,I Z T.h,I Z T.t,A p n c]] w (dN d M L DT ts nm sal vv s.c.length s.d.length vT vR fl (aC d ts s T) w):=by
 obtain⟨r,u,b7⟩:=h.x.b;obtain⟨pA,cA,b8⟩:=h.y.b;obtain⟨m,aq⟩:=zzy (s.c.length);obtain⟨f,ar⟩:=zzy (s.d.length);rw[aq]at b7 _hcn ⊢;rw[ar]at b8 c1 ⊢;subst b7;subst b8;obtain⟨w1,av⟩:=zzx (((w.alloc (ur #[J nm,I Z sal,I Z vv,A r m u,A pA f cA] 50)).alloc (ur #[I O 10,J T.f,I Z T.h,I Z T.t,A p n c] 25)).alloc (ur #[J ⟨#[]⟩,I Z 0,I Z 0,A U 0 0,A U 0 0] 50));obtain⟨C,P⟩:=fx.new w (ur #[J nm,I Z sal,I Z vv,A r m u,A pA f cA] 50 (0,0)) (ur #[I O 10,J T.f,I Z T.h,I Z T.t,A p n c] 25 (0,0)) (ur #[J ⟨#[]⟩,I Z 0,I Z 0,A U 0 0,A U 0 0] 50 (0,0));rw[←av]at C P;have et:=h.lt;have hle:=h.le;have a6:=Hd (fun g (e:(A r m u).ownBlock=Y g)=>h.x.lt e);have ba:=Hd (fun g (e:(A pA f cA).ownBlock=Y g)=>h.y.lt e);obtain⟨ev,b9,HD,bb,bc,S,ca⟩:=zz7 h.xl h.yl h.d (h.u P) P C av;obtain⟨c5,bd,HV,c6,HK,HN⟩:=zz6 aq ar br bt hk hn;obtain⟨a0,a1,a2,a3,a4⟩:=cells5 C.1;obtain⟨b0,b1,b2,b3,b4⟩:=cells5 C.2.1;obtain⟨c7,HM,c8,c9,da⟩:=zz5 bB c3 bR b5 b6;clear bB bR b5 b6;rw[hk];clear h av C P aq ar br bt hk hn
 go_enter Tryz.func51,Tryz.ntmps51
 go_upto_region 1 with fail
 change xV _ _ _ _ (((w.alloc (ur #[J nm,I Z sal,I Z vv,A r m u,A pA f cA] 50)).alloc (ur #[I O 10,J T.f,I Z T.h,I Z T.t,A p n c] 25)).alloc (ur #[J ⟨#[]⟩,I Z 0,I Z 0,A U 0 0,A U 0 0] 50));rw[←ca.o];clear ca;have e0:=bc.o.size;have e1:=S.o.lt;have HA:Hid (wB wq 83 #[wF (Y ⟨M,0,U⟩),A p n c] w1 (jZ M ts s.b k vT vR vV d n fl (bC (aB s.b d) T.q) w1)):=by
  have:=oW ts s.b k vT vR vV HM.o d T.q (A p n c) fl w1 bb.o.rm (c7.o.u (by
   exact bc.o.mono (by omega)
   )) (by rw[HN.o];exact c0) c8.o c9.o da.o
  rw[HN.o]at this;exact this
 go_wp2_with fail
 refine HA.o.mono ?_;rintro e w4 ⟨dc,es,v,rfl,j,cb,i,W,X⟩;obtain⟨pv,cv,cc⟩:=i.b;rw[cb]at cc;subst cc;have dd:=j.1.h
 have dg:=Hd ((bb.o.call j).wide (D':=fun b=>D b∨am w1 w4 b) (fun b a=>wP a) (fun b a=>by
  rcases a with a|a
  ·have hd:=bb.o.d b a;exact⟨hd.1,Ft hd.2.1 dd,hd.2.2⟩
  ·exact⟨by have:=a.1;omega,a.2,fun e=>by have:=a6.o _ e;have:=a.1;omega,fun e=>by have:=ba.o _ e;have:=a.1;omega⟩))
 obtain⟨dp,ch,ck,Q,E⟩:=zz5 j.1 X (i.C (G:=fun b=>D b∨am w1 w4 b) (fun b a=>xj a.1) (fun g hg=>xj ⟨W g hg,i.lt hg⟩)) dg.o (S.o.chg j.1 (fun b a=>by omega));clear j X i W a0 a1 a2 a3 a4 b0 b1 b2 b3 b4 HA cb;go_upto_region 24 with fail
 have ds:Hid ((bD d).at_ w4 (fun b=>D b∨am w1 w4 b) ⟨3,0,0,es⟩ [I O 3,I Z 0,I Z 0,A pv n cv]):=fN.2 ⟨od 3 (by decide) (by decide),jb,jb,_,V,ck.o⟩;have cl:Hid (Chg (fun b=>b=M∨L≤b) w w4):=(eu hle bc.o).b (jW dp.o);have dv:Hid (∀q,(fun b=>D b∨am w1 w4 b) q→q<w.heap.size∨w.heap.size+3≤q):=fun q e=>by
  rcases e with e|e
  ·exact wP (HD.o q e).2.1
  ·have:=e.1;exact xj (by omega)
 obtain⟨us,F,cq⟩:=Q.o.swap.x;rw[bd.o,iL]at F;have l:Gc w4 (w4.alloc (ur #[I O 3,I Z 0,I Z 0,A pv n cv] 70)):=(Fl _ w4).alloc (Fj _) _;obtain⟨ea,cr,ct,cu,eb,cx⟩:=zz6 (db F l) l (Rd.qv (fun b a o ho=>(l.block b (Q.o.d b a).2.1).trans ho) cq) (Rd.z _ (fun b a o ho=>(l.block b (Q.o.d b a).2.1).trans ho) ds.o) (Q.o.swap.u l) (E.o.u l);obtain⟨a0,a1,a2,a3,a4⟩:=cells5 E.o.1;clear F cq l;go_upto_region 25 with (at_builtin;go_must (refine fk fF V (.tmp 124) (.tmp 127) V (p:=pA) (n:=f) (c:=cA) (z:=[I O 3,I Z 0,I Z 0,A pv n cv]) V V ea.o (qv w4 _) V (by simp[Value.oneCell']) (by omega) ?_);intro g cap W7 hg hC H;have K:=cx.o.chg hC (fun b a=>by have:=ba.o _ a;omega);have fz:=aE K.1;obtain⟨q0,q1,q2,q3,q4⟩:=cells5 K.1)
 change xV _ _ _ _ (W7.setCell ⟨w.heap.size,4,U⟩ (A (Y ⟨g,0,U⟩) (f+1) cap));have cR:=eb.o.push (by decide) bd.o ct.o cu.o hg hC (by rw[iL];exact H);have ep:=K.lt;have e2:=cr.o.size;have e3:=hC.h;have e4:=cl.o.h;have ec:L≤g∧(g<w.heap.size∨w4.heap.size≤g):=by
  rcases hg with e|e
  ·exact⟨b9.o g e,wP (ba.o g e)⟩
  ·exact⟨by omega,xj (by omega)⟩
 have er:=E.o.lt;have bk:∀q,w.heap.size≤q→q≤w.heap.size+2→¬(fun b=>D b∨am w1 w4 b) q:=fun q h1 h2 e=>by have:=dv.o q e;omega
 obtain⟨W8,R⟩:=zzx (W7.setCell ⟨w.heap.size,4,U⟩ (A (Y ⟨g,0,U⟩) (f+1) cap));have bl:=(cR.swap).set w.heap.size 4 (A (Y ⟨g,0,U⟩) (f+1) cap) (by omega) (bk _ (Fj _) (by omega)) (fun e=>by have:=a6.o _ e;omega) (fun e=>by injection e with e;have e:g=_:=e;omega)
 have bn:=K.set0 4 (A (Y ⟨g,0,U⟩) (f+1) cap);rw[←R]at bl bn;have cT:Chg (fun b=>b=M∨L≤b) w W8:=by
  rw[R];exact Chg.t (p:=⟨w.heap.size,4,U⟩) ((cl.o.b (eu (by omega) cr.o)).b (jG hC (fun b a=>by have:=b9.o b a;omega))) (wP (xj (by show L≤w.heap.size;omega))) _
 obtain⟨eg,N,ek,cV,el,en⟩:=zz6 bl bn cT R bk ec;clear hg hC H cR K bl bn cT R bk a0 a1 a2 a3 a4;rw[←cV.o];clear cV fz q0 q1 q2 q3 q4;have ad:=fU N.o.2.2 (J nm) (I Z sal) (I Z vv) (A r m u) (A (Y ⟨g,0,U⟩) (f+1) cap);have af:St2 64 70 (bg d) (bD d) M L DT ts (s.b) (k) (dc) vT vR (vV) s.c (A r m u) (s.d++[⟨3,0,0,es⟩]) (A (Y ⟨g,0,U⟩) (f+1) cap) (fun b=>D b∨am w1 w4 b) W8:=eg.o;have hK:∀b,b=w.heap.size+2→L≤b∧¬(fun b=>D b∨am w1 w4 b) b∧(A r m u).ownBlock≠Y b∧(A (Y ⟨g,0,U⟩) (f+1) cap).ownBlock≠Y b:=fun b a=>by
  subst a;have:=en.o;refine⟨by omega,el.o _ (by omega) (Fj _),?_,?_⟩
  ·intro e;have:=a6.o _ e;omega
  ·intro e;injection e with e;have e:g=_:=e;omega
 have ak:=af.z (W':=st5 W8 (w.heap.size+2) (J nm) (I Z sal) (I Z vv) (A r m u) (A (Y ⟨g,0,U⟩) (f+1) cap)) (fun b=>b=w.heap.size+2) (by rw[gI];exact Fj _) (fun b _ eo=>ei _ _ _ _ _ b eo) hK;have al:Chg (fun b=>b=M∨L≤b) w (st5 W8 (w.heap.size+2) (J nm) (I Z sal) (I Z vv) (A r m u) (A (Y ⟨g,0,U⟩) (f+1) cap)):=ek.o.b (fH _ _ (xj (by omega)) _ _ _ _ _);have HP:Hid (dN d M L DT ts nm sal vv m f vT vR fl (aC d ts s T) w (xv (wD #[J nm,I Z sal,I Z vv,A r m u,A (Y ⟨g,0,U⟩) (f+1) cap])) (st5 W8 (w.heap.size+2) (J nm) (I Z sal) (I Z vv) (A r m u) (A (Y ⟨g,0,U⟩) (f+1) cap))):=
  ⟨_,⟨s.b,s.c,s.d++[⟨3,0,0,es⟩]⟩,k,_,_,_,_,V,al,ak,c6.o,HV.o.1,fun h0=>HV.o.2 (iy ch.o h0),by show s.c.length≤_;rw[c5.o];omega,by show (s.d++[_]).length≤_;rw[FC,bd.o];exact Fj _,B6 HK.o ch.o⟩
 have cW:=Hd ad;obtain⟨a0,a1,a2,a3,a4⟩:=cells5 N.o.1;have bq:W8.heap[w.heap.size+1+1]?=Y (ur #[J ⟨#[]⟩,I Z 0,I Z 0,A U 0 0,A U 0 0] 50 (0,0)):=N.o.2.2;have fz:=aE bq;obtain⟨r0,r1,r2,r3,r4⟩:=cells5 bq;clear ad af hK ak al bq;go_wp2_with fail
 exact i6 Tryz.results51 _ _ (w.heap.size+1+1) _ _ _ _ _ cW.o _ V HP.o
theorem wG(d M L _B:Nat)(DT:Nat→Prop)(ts:List ae)(s:RSt)(k:Int)(fl:Flt)(vT vR vV vC vA:vn)(D:Nat→Prop)(nm:ByteArray)(sal vv:Int)(T:ab)(p:Option Addr)(n c:Nat)(w:vk)
  (h:St2 64 70 (bg d) (bD d) M L DT ts s.b k fl vT vR vV s.c vC s.d vA D w) (hn:T.q.length=n) (_hn2:n≤20000) (_hcn:s.c.length≤20000) (b9:s.d.length≤20000) (ar:s.b.length≤17∧(fl.1=0→s.b.length≤16)) (av:k=bG s.c) (hk:T.b=11) :
  wB wq 51 #[wF (Y ⟨M,0,U⟩),wD #[J nm,I Z sal,I Z vv,vC,vA],wD #[I O T.b,J T.f,I Z T.h,I Z T.t,A p n c]] w (dN d M L DT ts nm sal vv s.c.length s.d.length vT vR fl (aC d ts s T) w):=by
 obtain⟨j,l,a6⟩:=h.x.b;obtain⟨pA,cA,ba⟩:=h.y.b;obtain⟨i,S⟩:=zzy (s.c.length);obtain⟨a,W⟩:=zzy (s.d.length);rw[S]at a6 _hcn ⊢;rw[W]at ba b9 ⊢;subst a6;subst ba;obtain⟨w1,X⟩:=zzx (((w.alloc (ur #[J nm,I Z sal,I Z vv,A j i l,A pA a cA] 50)).alloc (ur #[I O 11,J T.f,I Z T.h,I Z T.t,A p n c] 25)).alloc (ur #[J ⟨#[]⟩,I Z 0,I Z 0,A U 0 0,A U 0 0] 50));obtain⟨m,C⟩:=fx.new w (ur #[J nm,I Z sal,I Z vv,A j i l,A pA a cA] 50 (0,0)) (ur #[I O 11,J T.f,I Z T.h,I Z T.t,A p n c] 25 (0,0)) (ur #[J ⟨#[]⟩,I Z 0,I Z 0,A U 0 0,A U 0 0] 50 (0,0));rw[←X]at m C;have cW:=h.lt;have hle:=h.le;have bb:=Hd (fun g (e:(A j i l).ownBlock=Y g)=>h.x.lt e);have bc:=Hd (fun g (e:(A pA a cA).ownBlock=Y g)=>h.y.lt e);obtain⟨c0,bd,HD,ca,bk,H,bl⟩:=zz7 h.xl h.yl h.d (h.u C) C m X;obtain⟨cb,ad,HV,cc,HK,HN⟩:=zz6 S W ar av hk hn;obtain⟨a0,a1,a2,a3,a4⟩:=cells5 m.1;obtain⟨b0,b1,b2,b3,b4⟩:=cells5 m.2.1;rw[hk];clear h X m C S W ar av hk hn
 go_enter Tryz.func51,Tryz.ntmps51
 go_upto_region 1 with fail
 change xV _ _ _ _ (((w.alloc (ur #[J nm,I Z sal,I Z vv,A j i l,A pA a cA] 50)).alloc (ur #[I O 11,J T.f,I Z T.h,I Z T.t,A p n c] 25)).alloc (ur #[J ⟨#[]⟩,I Z 0,I Z 0,A U 0 0,A U 0 0] 50));rw[←bl.o];clear bl;have c1:=bk.o.size;have c3:=H.o.lt;obtain⟨E,r⟩:=zz2 ca.o H.o;go_upto_region 2 with fail
 clear a0 a1 a2 a3 a4 b0 b1 b2 b3 b4;have ch:Hid ((bD d).at_ w1 D ⟨4,0,0,[]⟩ [I O 4,I Z 0,I Z 0,A U 0 0]):=fN.2 ⟨od 4 (by decide) (by decide),jb,jb,_,V,Rd.sm⟩;have bn:Hid (Chg (fun b=>b=M∨L≤b) w w1):=eu hle bk.o;have ck:Hid (∀q,D q→q<w.heap.size∨w.heap.size+3≤q):=fun q e=>by exact wP (HD.o q e).2.1
 obtain⟨us,t,bq⟩:=E.o.swap.x;rw[ad.o,iL]at t;have f:Gc w1 (w1.alloc (ur #[I O 4,I Z 0,I Z 0,A U 0 0] 70)):=(Fl _ w1).alloc (Fj _) _;obtain⟨cl,br,bt,bB,cq,bR⟩:=zz6 (db t f) f (Rd.qv (fun b F o ho=>(f.block b (E.o.d b F).2.1).trans ho) bq) (Rd.z _ (fun b F o ho=>(f.block b (E.o.d b F).2.1).trans ho) ch.o) (E.o.swap.u f) (r.o.u f);obtain⟨a0,a1,a2,a3,a4⟩:=cells5 r.o.1;clear t bq f;go_upto_region 25 with (at_builtin;go_must (refine fk fF V (.tmp 15) (.tmp 17) V (p:=pA) (n:=a) (c:=cA) (z:=[I O 4,I Z 0,I Z 0,A U 0 0]) V V cl.o (qv w1 _) V (by simp[Value.oneCell']) (by omega) ?_);intro g cap W7 hg hC u;have v:=bR.o.chg hC (fun b F=>by have:=bc.o _ F;omega);have fz:=aE v.1;obtain⟨q0,q1,q2,q3,q4⟩:=cells5 v.1)
 change xV _ _ _ _ (W7.setCell ⟨w.heap.size,4,U⟩ (A (Y ⟨g,0,U⟩) (a+1) cap));have b5:=cq.o.push (by decide) ad.o bt.o bB.o hg hC (by rw[iL];exact u);have cT:=v.lt;have c5:=br.o.size;have c6:=hC.h;have c7:=bn.o.h;have cr:L≤g∧(g<w.heap.size∨w1.heap.size≤g):=by
  rcases hg with e|e
  ·exact⟨bd.o g e,wP (bc.o g e)⟩
  ·exact⟨by omega,xj (by omega)⟩
 have cV:=r.o.lt;have af:∀q,w.heap.size≤q→q≤w.heap.size+2→¬D q:=fun q h1 h2 e=>by have:=ck.o q e;omega
 obtain⟨K,G⟩:=zzx (W7.setCell ⟨w.heap.size,4,U⟩ (A (Y ⟨g,0,U⟩) (a+1) cap));have ak:=(b5.swap).set w.heap.size 4 (A (Y ⟨g,0,U⟩) (a+1) cap) (by omega) (af _ (Fj _) (by omega)) (fun e=>by have:=bb.o _ e;omega) (fun e=>by injection e with e;have e:g=_:=e;omega)
 have al:=v.set0 4 (A (Y ⟨g,0,U⟩) (a+1) cap);rw[←G]at ak al;have b6:Chg (fun b=>b=M∨L≤b) w K:=by
  rw[G];exact Chg.t (p:=⟨w.heap.size,4,U⟩) ((bn.o.b (eu (by omega) br.o)).b (jG hC (fun b F=>by have:=bd.o b F;omega))) (wP (xj (by show L≤w.heap.size;omega))) _
 obtain⟨ct,B,cu,b7,cv,cx⟩:=zz6 ak al b6 G af cr;clear hg hC u b5 v ak al b6 G af a0 a1 a2 a3 a4;rw[←b7.o];clear b7 fz q0 q1 q2 q3 q4;have N:=fU B.o.2.2 (J nm) (I Z sal) (I Z vv) (A j i l) (A (Y ⟨g,0,U⟩) (a+1) cap);have P:St2 64 70 (bg d) (bD d) M L DT ts (s.b) (k) (fl) vT vR (vV) s.c (A j i l) (s.d++[⟨4,0,0,[]⟩]) (A (Y ⟨g,0,U⟩) (a+1) cap) D K:=ct.o;have hK:∀b,b=w.heap.size+2→L≤b∧¬D b∧(A j i l).ownBlock≠Y b∧(A (Y ⟨g,0,U⟩) (a+1) cap).ownBlock≠Y b:=fun b F=>by
  subst F;have:=cx.o;refine⟨by omega,cv.o _ (by omega) (Fj _),?_,?_⟩
  ·intro e;have:=bb.o _ e;omega
  ·intro e;injection e with e;have e:g=_:=e;omega
 have Q:=P.z (W':=st5 K (w.heap.size+2) (J nm) (I Z sal) (I Z vv) (A j i l) (A (Y ⟨g,0,U⟩) (a+1) cap)) (fun b=>b=w.heap.size+2) (by rw[gI];exact Fj _) (fun b _ cR=>ei _ _ _ _ _ b cR) hK;have R:Chg (fun b=>b=M∨L≤b) w (st5 K (w.heap.size+2) (J nm) (I Z sal) (I Z vv) (A j i l) (A (Y ⟨g,0,U⟩) (a+1) cap)):=cu.o.b (fH _ _ (xj (by omega)) _ _ _ _ _);have HP:Hid (dN d M L DT ts nm sal vv i a vT vR fl (aC d ts s T) w (xv (wD #[J nm,I Z sal,I Z vv,A j i l,A (Y ⟨g,0,U⟩) (a+1) cap])) (st5 K (w.heap.size+2) (J nm) (I Z sal) (I Z vv) (A j i l) (A (Y ⟨g,0,U⟩) (a+1) cap))):=
  ⟨_,⟨s.b,s.c,s.d++[⟨4,0,0,[]⟩]⟩,k,_,_,_,_,V,R,Q,cc.o,HV.o.1,HV.o.2,by show s.c.length≤_;rw[cb.o];omega,by show (s.d++[_]).length≤_;rw[FC,ad.o];exact Fj _,zk HK.o⟩
 have b8:=Hd N;obtain⟨a0,a1,a2,a3,a4⟩:=cells5 B.o.1;have aq:K.heap[w.heap.size+1+1]?=Y (ur #[J ⟨#[]⟩,I Z 0,I Z 0,A U 0 0,A U 0 0] 50 (0,0)):=B.o.2.2;have fz:=aE aq;obtain⟨r0,r1,r2,r3,r4⟩:=cells5 aq;clear N P hK Q R aq;go_wp2_with fail
 exact i6 Tryz.results51 _ _ (w.heap.size+1+1) _ _ _ _ _ b8.o _ V HP.o
theorem rI(d M L _B:Nat)(DT:Nat→Prop)(ts:List ae)(s:RSt)(k:Int)(fl:Flt)(vT vR vV vC vA:vn)(D:Nat→Prop)(nm:ByteArray)(sal vv:Int)(T:ab)(p:Option Addr)(n c:Nat)(w:vk)
  (h:St2 64 70 (bg d) (bD d) M L DT ts s.b k fl vT vR vV s.c vC s.d vA D w) (hn:T.q.length=n) (_hn2:n≤20000) (_hcn:s.c.length≤20000) (cW:s.d.length≤20000) (bB:s.b.length≤17∧(fl.1=0→s.b.length≤16)) (bR:k=bG s.c) (hk:T.b=9) (af:-1000000≤T.h∧T.h≤1000000000000000000) :
  wB wq 51 #[wF (Y ⟨M,0,U⟩),wD #[J nm,I Z sal,I Z vv,vC,vA],wD #[I O T.b,J T.f,I Z T.h,I Z T.t,A p n c]] w (dN d M L DT ts nm sal vv s.c.length s.d.length vT vR fl (aC d ts s T) w):=by
 obtain⟨B,C,b5⟩:=h.x.b;obtain⟨pA,cA,b6⟩:=h.y.b;obtain⟨t,bb⟩:=zzy (s.c.length);obtain⟨f,bc⟩:=zzy (s.d.length);rw[bb]at b5 _hcn ⊢;rw[bc]at b6 cW ⊢;subst b5;subst b6;obtain⟨w1,bd⟩:=zzx (((w.alloc (ur #[J nm,I Z sal,I Z vv,A B t C,A pA f cA] 50)).alloc (ur #[I O 9,J T.f,I Z T.h,I Z T.t,A p n c] 25)).alloc (ur #[J ⟨#[]⟩,I Z 0,I Z 0,A U 0 0,A U 0 0] 50));obtain⟨E,i⟩:=fx.new w (ur #[J nm,I Z sal,I Z vv,A B t C,A pA f cA] 50 (0,0)) (ur #[I O 9,J T.f,I Z T.h,I Z T.t,A p n c] 25 (0,0)) (ur #[J ⟨#[]⟩,I Z 0,I Z 0,A U 0 0,A U 0 0] 50 (0,0));rw[←bd]at E i;have ea:=h.lt;have hle:=h.le;have b7:=Hd (fun g (e:(A B t C).ownBlock=Y g)=>h.x.lt e);have b8:=Hd (fun g (e:(A pA f cA).ownBlock=Y g)=>h.y.lt e);obtain⟨eb,b9,HD,v,ca,ak,cb⟩:=zz7 h.xl h.yl h.d (h.u i) i E bd;obtain⟨c0,bk,HV,cc,HK,HN⟩:=zz6 bb bc bB bR hk hn;obtain⟨a0,a1,a2,a3,a4⟩:=cells5 E.1;obtain⟨b0,b1,b2,b3,b4⟩:=cells5 E.2.1;have ec:=Hd af;obtain⟨dg,dp⟩:=af;have HF:Hid (∀W,Gc w1 W→∀S,wB wq 48 #[wF (Y ⟨M,0,U⟩),Value.bool S,I Z 214,wD #[I O 9,J T.f,I Z T.h,I Z T.t,A p n c]] W (fun e w'=>e=xv (Value.tuple #[])∧aD M ts s.b k vT vR vV W (az fl S 214 T.t) w')):=fun W hW S=>by
  have:=dH (v.o.u hW).rm S 214 T.b T.f T.h T.t p n c;rw[HK.o]at this;exact this
 obtain⟨m0,m1,m2,m3,m4,m5⟩:=cU v.o.m;rw[hk];clear h bd E i bb bc bB bR hk hn
 go_enter Tryz.func51,Tryz.ntmps51
 go_upto_region 1 with fail
 change xV _ _ _ _ (((w.alloc (ur #[J nm,I Z sal,I Z vv,A B t C,A pA f cA] 50)).alloc (ur #[I O 9,J T.f,I Z T.h,I Z T.t,A p n c] 25)).alloc (ur #[J ⟨#[]⟩,I Z 0,I Z 0,A U 0 0,A U 0 0] 50));rw[←cb.o];clear cb;have eg:=ca.o.size;have ek:=ak.o.lt;go_upto_region 20 with fail
 go_cut [] from 93 to 107 (fun W=>aD M ts s.b k vT vR vV w1 (az fl (wo (T.h<1)||decide (k<T.h)) 214 T.t) W)
 case first =>
  have E0:=fun x:Wb w1=>x.b b0
  have E1:=fun x:Wb w1=>x.b b1
  have E2:=fun x:Wb w1=>x.b b2
  have E3:=fun x:Wb w1=>x.b b3
  have E4:=fun x:Wb w1=>x.b b4
  have M3:=fun x:Wb w1=>x.b m3
  clear m0 m1 m2 m3 m4 m5 a0 a1 a2 a3 a4 b0 b1 b2 b3 b4
  by_cases al:T.h<1
  ·have i:wo (T.h<1)=true:=decide_eq_true al;refine RE.q (by kernel_rfl) 14 [] [] (fun _ W=>∃x:Wb w1,W=x.1) (fun W W'=>Gc W W') (fun _ _=>undef) (fun _ _ _=>True) (by kernel_rfl) (fun _ _ _ _ _ _ h l=>bE h l) (fun _ _ _ _ _ _ _=>trivial) ⟨⟨w1.drew,(Fl _ _).drew⟩,V⟩ ?_;simp only[Fy,FK,Fz,FI]
   repeat (refine RE.b (fun W=>∃x:Wb w1,W=x.1) (fun _ _ _ h=>h) V V V ⟨⟨w1.drew,(Fl _ _).drew⟩,V⟩ ?_;go_big_quiet_step (fail);refine z7 ?_)
   refine RE.h ?_;intro W hS hE;obtain⟨x,rfl⟩:=hS;obtain⟨j,F⟩:=zz2 (HF.o x.1 x.2 true) (aD.f v.o.rm x.2);clear hE E0 E1 E2 E3 E4 M3;go_wp2_with fail
   refine j.o.mono ?_;rintro e G ⟨rfl,a⟩;have HP:Hid (aD M ts s.b k vT vR vV w1 (az fl (wo (T.h<1)||decide (k<T.h)) 214 T.t) G):=by
    show aD _ _ _ _ _ _ _ _ _ _
    rw[i];exact F.o.b a
   clear a j;go_wp2_with fail
   go_meet
   case rel=>exact HP.o
  ·have i:wo (T.h<1)=false:=r7 al
   by_cases aq:k<T.h
   ·have bl:wo (k<T.h)=true:=decide_eq_true aq;refine RE.q (by kernel_rfl) 14 [] [] (fun _ W=>∃x:Wb w1,W=x.1) (fun W W'=>Gc W W') (fun _ _=>undef) (fun _ _ _=>True) (by kernel_rfl) (fun _ _ _ _ _ _ h l=>bE h l) (fun _ _ _ _ _ _ _=>trivial) ⟨⟨w1.drew,(Fl _ _).drew⟩,V⟩ ?_;simp only[Fy,FK,Fz,FI]
    repeat (refine RE.b (fun W=>∃x:Wb w1,W=x.1) (fun _ _ _ h=>h) V V V ⟨⟨w1.drew,(Fl _ _).drew⟩,V⟩ ?_;go_big_quiet_step (fail);refine z7 ?_)
    refine RE.h ?_;intro W hS hE;obtain⟨x,rfl⟩:=hS;obtain⟨j,F⟩:=zz2 (HF.o x.1 x.2 true) (aD.f v.o.rm x.2);clear hE E0 E1 E2 E3 E4 M3;go_wp2_with fail
    refine j.o.mono ?_;rintro e G ⟨rfl,a⟩;have HP:Hid (aD M ts s.b k vT vR vV w1 (az fl (wo (T.h<1)||decide (k<T.h)) 214 T.t) G):=by
     show aD _ _ _ _ _ _ _ _ _ _
     rw[i,bl];exact F.o.b a
    clear a j;go_wp2_with fail
    go_meet
    case rel=>exact HP.o
   ·have bl:wo (k<T.h)=false:=r7 aq;refine RE.q (by kernel_rfl) 14 [] [] (fun _ W=>∃x:Wb w1,W=x.1) (fun W W'=>Gc W W') (fun _ _=>undef) (fun _ _ _=>True) (by kernel_rfl) (fun _ _ _ _ _ _ h l=>bE h l) (fun _ _ _ _ _ _ _=>trivial) ⟨⟨w1.drew,(Fl _ _).drew⟩,V⟩ ?_;simp only[Fy,FK,Fz,FI]
    repeat (refine RE.b (fun W=>∃x:Wb w1,W=x.1) (fun _ _ _ h=>h) V V V ⟨⟨w1.drew,(Fl _ _).drew⟩,V⟩ ?_;go_big_quiet_step (fail);refine z7 ?_)
    refine RE.h ?_;intro W hS hE;obtain⟨x,rfl⟩:=hS;obtain⟨j,F⟩:=zz2 (HF.o x.1 x.2 false) (aD.f v.o.rm x.2);clear hE E0 E1 E2 E3 E4 M3;go_wp2_with fail
    refine j.o.mono ?_;rintro e G ⟨rfl,a⟩;have HP:Hid (aD M ts s.b k vT vR vV w1 (az fl (wo (T.h<1)||decide (k<T.h)) 214 T.t) G):=by
     show aD _ _ _ _ _ _ _ _ _ _
     rw[i,bl];exact F.o.b a
    clear a j;go_wp2_with fail
    go_meet
    case rel=>exact HP.o
 case rest =>
 obtain⟨H,u,ch⟩:=zz3 (v.o.call hcut) (ak.o.chg hcut.1 (fun b l=>by omega)) hcut.1;clear hcut m0 m1 m2 m3 m4 m5 a0 a1 a2 a3 a4 b0 b1 b2 b3 b4;obtain⟨b0,b1,b2,b3,b4⟩:=cells5 u.o.2.1;have el:=ch.o.h;have c1:Hid ((bD d).at_ wc D ⟨2,0,T.h-1,[]⟩ [I O 2,I Z 0,I Z (T.h-1),A U 0 0]):=fN.2 ⟨od 2 (by decide) (by decide),jb,⟨by show (_:Int)≤T.h-1;omega,by show T.h-1<(_:Int);omega⟩,_,V,Rd.sm⟩;have ck:Hid (Chg (fun b=>b=M∨L≤b) w wc):=(eu hle ca.o).b (jW ch.o);obtain⟨X,K⟩:=zzy (az fl (wo (T.h<1)||decide (k<T.h)) 214 T.t);have cl:Hid (Goes fl (aC d ts s T) X (fun s'=>(⟨s.b,s.c,s.d++[⟨2,0,T.h-1,[]⟩]⟩:RSt)=s')):=by rw[←K];exact vu HK.o cc.o
 rw[K]at H;clear K;have c3:Hid (∀q,D q→q<w.heap.size∨w.heap.size+3≤q):=fun q e=>by exact wP (HD.o q e).2.1
 obtain⟨us,N,cq⟩:=H.o.swap.x;rw[bk.o,iL]at N;have r:Gc wc (wc.alloc (ur #[I O 2,I Z 0,I Z (T.h-1),A U 0 0] 70)):=(Fl _ wc).alloc (Fj _) _;obtain⟨c5,cr,ct,cu,c6,cv⟩:=zz6 (db N r) r (Rd.qv (fun b l o ho=>(r.block b (H.o.d b l).2.1).trans ho) cq) (Rd.z _ (fun b l o ho=>(r.block b (H.o.d b l).2.1).trans ho) c1.o) (H.o.swap.u r) (u.o.u r);obtain⟨a0,a1,a2,a3,a4⟩:=cells5 u.o.1;clear N cq r;go_upto_region 25 with (at_builtin;go_must (refine fk fF V (.tmp 109) (.tmp 114) V (p:=pA) (n:=f) (c:=cA) (z:=[I O 2,I Z 0,I Z (T.h-1),A U 0 0]) V V c5.o (qv wc _) V (by simp[Value.oneCell']) (by omega) ?_);intro g cap W7 hg hC P;have Q:=cv.o.chg hC (fun b l=>by have:=b8.o _ l;omega);have fz:=aE Q.1;obtain⟨q0,q1,q2,q3,q4⟩:=cells5 Q.1)
 change xV _ _ _ _ (W7.setCell ⟨w.heap.size,4,U⟩ (A (Y ⟨g,0,U⟩) (f+1) cap));have cx:=c6.o.push (by decide) bk.o ct.o cu.o hg hC (by rw[iL];exact P);have ds:=Q.lt;have en:=cr.o.size;have eo:=hC.h;have ep:=ck.o.h;have c7:L≤g∧(g<w.heap.size∨wc.heap.size≤g):=by
  rcases hg with e|e
  ·exact⟨b9.o g e,wP (b8.o g e)⟩
  ·exact⟨by omega,xj (by omega)⟩
 have dv:=u.o.lt;have bn:∀q,w.heap.size≤q→q≤w.heap.size+2→¬D q:=fun q h1 h2 e=>by have:=c3.o q e;omega
 obtain⟨W8,ad⟩:=zzx (W7.setCell ⟨w.heap.size,4,U⟩ (A (Y ⟨g,0,U⟩) (f+1) cap));have bq:=(cx.swap).set w.heap.size 4 (A (Y ⟨g,0,U⟩) (f+1) cap) (by omega) (bn _ (Fj _) (by omega)) (fun e=>by have:=b7.o _ e;omega) (fun e=>by injection e with e;have e:g=_:=e;omega)
 have br:=Q.set0 4 (A (Y ⟨g,0,U⟩) (f+1) cap);rw[←ad]at bq br;have cR:Chg (fun b=>b=M∨L≤b) w W8:=by
  rw[ad];exact Chg.t (p:=⟨w.heap.size,4,U⟩) ((ck.o.b (eu (by omega) cr.o)).b (jG hC (fun b l=>by have:=b9.o b l;omega))) (wP (xj (by show L≤w.heap.size;omega))) _
 obtain⟨c8,R,c9,cT,da,dc⟩:=zz6 bq br cR ad bn c7;clear hg hC P cx Q bq br cR ad bn a0 a1 a2 a3 a4;rw[←cT.o];clear cT fz q0 q1 q2 q3 q4;have ar:=fU R.o.2.2 (J nm) (I Z sal) (I Z vv) (A B t C) (A (Y ⟨g,0,U⟩) (f+1) cap);have av:St2 64 70 (bg d) (bD d) M L DT ts (s.b) (k) (X) vT vR (vV) s.c (A B t C) (s.d++[⟨2,0,T.h-1,[]⟩]) (A (Y ⟨g,0,U⟩) (f+1) cap) D W8:=c8.o;have hK:∀b,b=w.heap.size+2→L≤b∧¬D b∧(A B t C).ownBlock≠Y b∧(A (Y ⟨g,0,U⟩) (f+1) cap).ownBlock≠Y b:=fun b l=>by
  subst l;have:=dc.o;refine⟨by omega,da.o _ (by omega) (Fj _),?_,?_⟩
  ·intro e;have:=b7.o _ e;omega
  ·intro e;injection e with e;have e:g=_:=e;omega
 have a6:=av.z (W':=st5 W8 (w.heap.size+2) (J nm) (I Z sal) (I Z vv) (A B t C) (A (Y ⟨g,0,U⟩) (f+1) cap)) (fun b=>b=w.heap.size+2) (by rw[gI];exact Fj _) (fun b _ dd=>ei _ _ _ _ _ b dd) hK;have ba:Chg (fun b=>b=M∨L≤b) w (st5 W8 (w.heap.size+2) (J nm) (I Z sal) (I Z vv) (A B t C) (A (Y ⟨g,0,U⟩) (f+1) cap)):=c9.o.b (fH _ _ (xj (by omega)) _ _ _ _ _);have HP:Hid (dN d M L DT ts nm sal vv t f vT vR fl (aC d ts s T) w (xv (wD #[J nm,I Z sal,I Z vv,A B t C,A (Y ⟨g,0,U⟩) (f+1) cap])) (st5 W8 (w.heap.size+2) (J nm) (I Z sal) (I Z vv) (A B t C) (A (Y ⟨g,0,U⟩) (f+1) cap))):=
  ⟨_,⟨s.b,s.c,s.d++[⟨2,0,T.h-1,[]⟩]⟩,k,_,_,_,_,V,ba,a6,cc.o,HV.o.1,fun h0=>HV.o.2 (iy cl.o h0),by show s.c.length≤_;rw[c0.o];omega,by show (s.d++[_]).length≤_;rw[FC,bk.o];exact Fj _,cl.o⟩
 have cV:=Hd ar;obtain⟨a0,a1,a2,a3,a4⟩:=cells5 R.o.1;have bt:W8.heap[w.heap.size+1+1]?=Y (ur #[J ⟨#[]⟩,I Z 0,I Z 0,A U 0 0,A U 0 0] 50 (0,0)):=R.o.2.2;have fz:=aE bt;obtain⟨r0,r1,r2,r3,r4⟩:=cells5 bt;clear ar av hK a6 ba bt;go_wp2_with fail
 exact i6 Tryz.results51 _ _ (w.heap.size+1+1) _ _ _ _ _ cV.o _ V HP.o
theorem i8{d:Nat}{T:ab}(h:okF d T=true):aK T=true:=by
 cases d with
 | zero=>exact h
 | succ d =>
  unfold okF at h;simp only[FG]at h;exact h.1
theorem kG{d:Nat}{T:ab}(h:okF (d+1) T=true):∀t∈T.q,okF d t=true:=by
 unfold okF at h;simp only[FG,FW]at h;exact h.2
theorem kB{T:ab}(h:aK T=true):bw T.b T.q=true:=by
 unfold aK at h;simp only[FG]at h;exact h.2
theorem uX{d:Nat}{T:ab}(g:T.b=5∨T.b=6)(a:okF (d+1) T=true)(b:dj (d+1) T):∀K∈T.q,(K.b=12∨K.b=13∨K.b=14∨K.b=15)∧K.f.size≤72007∧aK K=true:=by
 intro K c;have h:=kB (i8 a);have f:bI [12,13,14,15] T.q=true:=by
  unfold bw at h;rcases g with e|e<;>(rw[e]at h;exact h)
 unfold bI at f;have i:=FW.1 f K c;exact⟨by simpa using i,(b.2.2 K c).f,i8 (kG a K c)⟩
theorem Du{T:ab}(b:T.b=8∨T.b=10)(a:aK T=true):∀K∈T.q,iQ K:=by
 have h:=kB a;unfold bw at h;rcases b with e|e<;>rw[e]at h
 ·exact jY h
 ·have h:(wo (0<T.q.length)&&cK T.q)=true:=h;simp only[FG]at h;exact jY h.2
theorem DC{T:ab}(c:T.b=7)(a:aK T=true):∃K,T.q=[K]∧iQ K:=by
 have h:=kB a;unfold bw at h;rw[c]at h;have h:(T.q.length==1&&cK T.q)=true:=h;simp only[FG,tF]at h;obtain⟨K,b⟩:=List.length_eq_one_iff.1 h.1;exact⟨K,b,jY h.2 K (by rw[b];exact List.mem_singleton.2 V)⟩
theorem EQ{T:ab}(b:T.b=9)(a:aK T=true):-1000000≤T.h∧T.h≤1000000000000000000:=by
 unfold aK at a;simp only[FG]at a;have h:=a.1.1.2;unfold bN at h;rw[b]at h;have h:(wo (0≤T.h)&&wo (T.h≤2147483647))=true:=h;simp only[FG,r8]at h;omega
theorem yQ(d M L B:Nat)(DT:Nat→Prop)(ts:List ae)(s:RSt)(k:Int)(fl:Flt)(vT vR vV vC vA:vn)(D:Nat→Prop)(nm:ByteArray)(sal vv:Int)(T:ab)(o:vn)(w:vk)
  (h:St2 64 70 (bg d) (bD d) M L DT ts s.b k fl vT vR vV s.c vC s.d vA D w) (f:s.c.length≤20000) (g:s.d.length≤20000) (i:s.b.length≤17∧(fl.1=0→s.b.length≤16)) (j:k=bG s.c) (r:5≤T.b∧T.b≤11)
  (m:B≤M) (l:aj w B (d+1) T.q o) (a:dj (d+1) T) (b:okF (d+1) T=true) :
  wB wq 51 #[wF (Y ⟨M,0,U⟩),wD #[J nm,I Z sal,I Z vv,vC,vA],wD #[I O T.b,J T.f,I Z T.h,I Z T.t,o]] w (dN d M L DT ts nm sal vv s.c.length s.d.length vT vR fl (aC d ts s T) w):=by
 obtain⟨p,c,rfl⟩:=l.f;have n:T.b=5∨T.b=6∨T.b=7∨T.b=8∨T.b=9∨T.b=10∨T.b=11:=by omega
 rcases n with e|e|e|e|e|e|e
 ·exact wO d M L B DT ts s k fl vT vR vV vC vA D nm sal vv T p _ c w h V a.2.1 f g i j e m l (uX (wP e) b a)
 ·exact xU d M L B DT ts s k fl vT vR vV vC vA D nm sal vv T p _ c w h V a.2.1 f g i j e m l (uX (xj e) b a)
 ·obtain⟨K,q,hex⟩:=DC e (i8 b);have hm:K∈T.q:=by rw[q];exact List.mem_singleton.2 V
  exact vE d M L B DT ts s k fl vT vR vV vC vA D nm sal vv T p _ c w h V a.2.1 f g i j e K [] q m l (a.2.2 K hm) (kG b K hm) hex
 ·exact tz d M L B DT ts s k fl vT vR vV vC vA D nm sal vv T p _ c w h V a.2.1 f g i j e m l a.2.2 (kG b) (Du (wP e) (i8 b))
 ·exact rI d M L B DT ts s k fl vT vR vV vC vA D nm sal vv T p _ c w h V a.2.1 f g i j e (EQ e (i8 b))
 ·exact yF d M L B DT ts s k fl vT vR vV vC vA D nm sal vv T p _ c w h V a.2.1 f g i j e m l a.2.2 (kG b) (Du (xj e) (i8 b))
 ·exact wG d M L B DT ts s k fl vT vR vV vC vA D nm sal vv T p _ c w h V a.2.1 f g i j e
