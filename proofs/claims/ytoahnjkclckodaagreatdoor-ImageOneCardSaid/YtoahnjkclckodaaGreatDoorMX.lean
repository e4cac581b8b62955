/- Parts of one proof, joined; conditions stand in each theorem. -/
import Derived.Test.YtoahnjkclckodaaGreatDoorMW
open Bool renaming true→ur
open Go.Obj renaming cells→r9
open Go.Value renaming int→I,string→tS,slice→O,agg→xk,pointer→vv
open Go.IntKind renaming u8→tF,i64→U
open Option renaming none→Y,some→A
open Go.Code renaming wp→xD
open Go.World renaming setCell→AJ
open Go renaming World→J,undef→wF,wpQuiet_nil→xL,Value→tT
namespace Go.Proofs.YtoahnjkclckodaaGreatDoor
set_option maxHeartbeats 2000000
set_option maxRecDepth 100000
open Go.RowKit
def fw:ByteArray:=⟨#[97,115,115,101,114,116]⟩
def eK:ByteArray:=⟨#[114,101,116,114,97,99,116]⟩
def kj:ByteArray:=⟨#[115,97,121]⟩
def kw:ByteArray:=⟨#[104,97,108,116]⟩
def eJ(ts:List Tok) (σ:PS):ac×PS:=
 if isM ts σ [fw]=ur then (.mk 8 (ofM ts (ae ts σ) 2 8).1.h 0 (atM ts σ) (bV ts (ey ts) (ofM ts (ae ts σ) 2 8).2).1,aI ts (bV ts (ey ts) (ofM ts (ae ts σ) 2 8).2).2 bU)
 else if isM ts σ [eK]=ur then (.mk 9 ⟨#[]⟩ (fU ts (ae ts σ)).1 (atM ts σ) [],aI ts (fU ts (ae ts σ)).2 bU)
 else if isM ts σ [kj]=ur then (.mk 10 ⟨#[]⟩ 0 (atM ts σ) (i4 ts (ey ts) (ae ts σ)).1,aI ts (i4 ts (ey ts) (ae ts σ)).2 bU)
 else (.mk 11 ⟨#[]⟩ 0 (atM ts σ) [],aI ts (aI ts σ kw) bU)
theorem rH(ts:List Tok)(σ:PS):σ.1≤(eJ ts σ).2.1:=by
 unfold eJ;have a:=(eH ts σ).1
 (repeat' split)
 ·exact FH a (FH (d6 ts _ 2 8) (FH (gZ (fO ts) _) (bz ts _ _)))
 ·exact FH a (FH (oP ts _) (bz ts _ _))
 ·exact FH a (FH (rD (fO ts) _) (bz ts _ _))
 ·exact FH (bz ts _ _) (bz ts _ _)
theorem rl{ts:List Tok}(a:cg ts):jm ts 176 (ey ts):=fun _σ _w _P _L _cap h=>tj a h
theorem Dq{kind:Nat}{n:Nat}{pl:Int}{ks:List ac}(a:kind<256)(b:n≤2147483647)(c:0≤pl)(d:pl≤16384):Fits (.mk kind ⟨#[]⟩ n pl ks):=
 ⟨a,by show (0:Nat)≤maxLen;exact FR _,by show (-9223372036854775808:Int)≤n;omega,by show (n:Int)<9223372036854775808;omega,by show (-9223372036854775808:Int)≤pl;omega,by show pl<9223372036854775808;omega⟩
theorem BW{ts:List Tok}(bb:cg ts):jm ts 147 (eJ ts):=by
 intro σ w P L cap h;have b7:Gl w (w.alloc (r9 bE 145)):=(Fz _ w).alloc (Fy _) _;obtain⟨HC,H0⟩:=zz2 (fQ (h.C b7)) (h.h b7);have j:=h.lt.1;obtain⟨HL,HX,b1,b8,cm⟩:=zz5 h.lt.2 (oA w (r9 bE 145)) bb (fun σ w P L cap h=>nO bb (enters_of Tryz.func176 (by kernel_rfl) Z) (rl bb) (fO ts) σ w P L cap h) (fun σ w P L cap h=>uO bb (enters_of Tryz.func176 (by kernel_rfl) Z) (rl bb) (fO ts) σ w P L cap h);obtain⟨R,b9⟩:=zzy (eJ ts σ);rw[b9];have v:=b9;unfold eJ at v;obtain⟨at_,ca⟩:=zzy (atM ts σ);rw[ca]at HC v;have cn:=Hd v;have Q:Hid (0≤at_∧at_≤16384):=by
  show _∧_
  obtain⟨_,_,g3⟩:=cM b1.o σ.1;rw[←ca];unfold atM;omega
 clear h b7 bb b9 v ca;generalize kdM ts σ=kd at HC;generalize txM ts σ=tx at HC
 go_enter Tryz.func147,Tryz.ntmps147
 go_wp2_with fail
 refine FN HC.o ?_;rintro e w1 ⟨rfl,cb⟩;have cT:=j4 kd tx at_ w1;obtain⟨cV,cp⟩:=zz2 (H0.o.t cb) (aa cb HX.o (by simp));have x:w.heap.size<w1.heap.size:=(Fx.1 cp.o).1;clear cb;obtain⟨wA,bd⟩:=zzx (w1.alloc (r9 #[I tF 0,tS ⟨#[]⟩,I U 0,I U at_,O Y 0 0] 145));have cW:w1.heap.size<wA.heap.size:=by rw[bd];simp
 have c0:Hid (ah w P L cap ts σ.1 σ.2 wA):=by rw[bd];exact cV.o.D _
 have c1:Hid (wA.heap[w1.heap.size]?=A (r9 #[I tF 0,tS ⟨#[]⟩,I U 0,I U at_,O Y 0 0] 145 (0,0))):=by rw[bd];exact oA w1 _
 have c3:Hid (wA.heap[w.heap.size]?=A (r9 bE 145 (0,0))):=by rw[bd];exact (Gj w1 _ _ x).trans cp.o
 go_upto_region 4 with fail
 change xD _ _ _ _ (w1.alloc (r9 #[I tF 0,tS ⟨#[]⟩,I U 0,I U at_,O Y 0 0] 145));rw[←bd];clear cT bd;obtain⟨D,S,T⟩:=zz3 (c0.o.D (r9 #[tS fw] 9)) ((Gj wA (r9 #[tS fw] 9) w1.heap.size cW).trans c1.o) ((Gj wA (r9 #[tS fw] 9) w.heap.size (by omega)).trans c3.o);have V:=Hd (dy D.o.2 wA.heap.size 0 1 1 [fw] (bK [fw]) Z (by omega));go_wp2_with fail
 refine FN V.o ?_;rintro e w2 ⟨rfl,ht⟩;obtain⟨b2,cq,bB⟩:=zz3 (D.o.h ht) (ht.q T.o j (Fy _)) (ht.q S.o j (F8 x));have c5:w1.heap.size<w2.heap.size:=(Fx.1 bB.o).1;clear ht D S T V
 by_cases hm:isM ts σ [fw]=ur
 ·have v:=cn.o;rw[oE hm]at v;have k:aF ts σ [fw]=ae ts σ:=by unfold aF;rw[oE hm]
  rw[k]at b2;have m:isM ts σ [fw]=true:=by simpa using hm
  rw[m];have b3:=Hd v;clear v k hm m;obtain⟨w3,bk⟩:=zzx ((w2.setCell ⟨w1.heap.size,0,Y⟩ (I tF 8)));have eo:w3.heap.size=w2.heap.size:=by rw[bk];simp[AJ]
  have cr:w1.heap.size<w3.heap.size:=by omega
  have W:Hid (ah w P L cap ts (ae ts σ).1 (ae ts σ).2 w3):=by rw[bk];exact (b2.o.z j HL.o (by omega) 0 _)
  have b4:Hid (w3.heap[w.heap.size]?=A (r9 bE 145 (0,0))):=by rw[bk];exact ((FC _ _ _ _ (show w.heap.size≠w1.heap.size by omega)).trans cq.o)
  have bl:Hid (w3.heap[w1.heap.size]?=A (r9 #[I tF 8,tS ⟨#[]⟩,I U 0,I U at_,O Y 0 0] 145 (0,0))):=by rw[bk];exact (heap_set bB.o 0 _)
  have f0:=ab bB.o 0;obtain⟨X,n1,n2,n3,n4⟩:=cells5 bB.o;have H3:=Hd bk;clear bk;go_upto_region 6 with fail
  change xD _ _ _ _ (w2.setCell ⟨w1.heap.size,0,Y⟩ (I tF 8));rw[←H3.o];clear X n1 n2 n3 n4 f0;have c6:=Hd (i6 b1.o W.o.2 8 (by omega));have b6:(ofM ts (ae ts σ) 2 8).1.h.size≤16384:=(cM b1.o _).2.1;generalize ofM ts (ae ts σ) 2 8=nm at *;have ct:=Hd b6;obtain⟨X,n1,n2,n3,n4⟩:=cells5 bl.o;clear b6;go_wp2_with fail
  refine FN c6.o ?_;rintro e w4 ⟨d,s,rfl,E,ho,hf⟩;obtain⟨K,bm,q⟩:=zz3 (W.o.h E) (E.q b4.o j (Fy _)) (E.q bl.o j (F8 x));have cu:w1.heap.size<w4.heap.size:=(Fx.1 q.o).1;have c7:w3.heap.size≤w4.heap.size:=E.1.size;obtain⟨p,c,rfl⟩:=ho.q;have c8:=ik nm.1.q nm.1.h nm.1.u nm.1.t nm.1.z.length p c w4;clear E ho hf X n1 n2 n3 n4;obtain⟨f,g⟩:=zzx ((w4.setCell ⟨w1.heap.size,1,Y⟩ (tS nm.1.h)));have cv:f.heap.size=w4.heap.size:=by rw[g];simp[AJ]
  have cc:w1.heap.size<f.heap.size:=by omega
  have H:Hid (ah w P L cap ts nm.2.1 nm.2.2 f):=by rw[g];exact (K.o.z j HL.o (by omega) 1 _)
  have ad:Hid (f.heap[w.heap.size]?=A (r9 bE 145 (0,0))):=by rw[g];exact ((FC _ _ _ _ (show w.heap.size≠w1.heap.size by omega)).trans bm.o)
  have F:Hid (f.heap[w1.heap.size]?=A (r9 #[I tF 8,tS nm.1.h,I U 0,I U at_,O Y 0 0] 145 (0,0))):=by rw[g];exact (heap_set q.o 1 _)
  have f1:=ab q.o 1;obtain⟨X,n1,n2,n3,n4⟩:=cells5 q.o;have H5:=Hd g;clear g;go_upto_region 7 with fail
  change xD _ _ _ _ (w4.setCell ⟨w1.heap.size,1,Y⟩ (tS nm.1.h));rw[←H5.o];clear X n1 n2 n3 n4 f1;clear c8;have cf:=Hd (b8.o nm.2 f P L cap H.o.2);generalize bV ts (ey ts) nm.2=l at *;go_wp2_with fail
  refine FN cf.o ?_;rintro e u ⟨d2,s2,rfl,i,af⟩;obtain⟨M,y,z⟩:=zz3 (H.o.h i) (i.q ad.o j (Fy _)) (i.q F.o j (F8 x));have ch:w1.heap.size<u.heap.size:=(Fx.1 z.o).1;have cy:f.heap.size≤u.heap.size:=i.1.size;obtain⟨p2,c2,rfl⟩:=af.q;have aq:=Hd af;clear i af;obtain⟨N,bn⟩:=zzx ((u.setCell ⟨w1.heap.size,4,Y⟩ (O p2 l.1.length c2)));have c9:N.heap.size=u.heap.size:=by rw[bn];simp[AJ]
  have cA:w1.heap.size<N.heap.size:=by omega
  have bq:Hid (ah w P L cap ts l.2.1 l.2.2 N):=by rw[bn];exact (M.o.z j HL.o (by omega) 4 _)
  have n:Hid (N.heap[w.heap.size]?=A (r9 bE 145 (0,0))):=by rw[bn];exact ((FC _ _ _ _ (show w.heap.size≠w1.heap.size by omega)).trans y.o)
  have ar:Hid (N.heap[w1.heap.size]?=A (r9 #[I tF 8,tS nm.1.h,I U 0,I U at_,O p2 l.1.length c2] 145 (0,0))):=by rw[bn];exact (heap_set z.o 4 _)
  have f4:=ab z.o 4;obtain⟨X,n1,n2,n3,n4⟩:=cells5 z.o;have H7:=Hd bn;clear bn;go_upto_region 12 with fail
  change xD _ _ _ _ (u.setCell ⟨w1.heap.size,4,Y⟩ (O p2 l.1.length c2));rw[←H7.o];clear X n1 n2 n3 n4 f4;have bR:Hid (OwnAt N d2 l.1 (O p2 l.1.length c2) (bC f.heap.size N.heap.size)):=by rw[c9,H7.o];exact aq.o.t fun b o C hx=>(FC _ _ _ _ (show b≠w1.heap.size by have:=C.1;omega)).trans hx
  have HW:=Hd (cN bq.o.2 bU);go_wp2_with fail
  refine FN HW.o ?_;rintro e w8 ⟨rfl,a6⟩;obtain⟨dd,ba,cC⟩:=zz3 (bq.o.h a6) (a6.q n.o j (Fy _)) (a6.q ar.o j (F8 x));have er:w1.heap.size<w8.heap.size:=(Fx.1 cC.o).1;have et:N.heap.size≤w8.heap.size:=a6.1.size;have dg:=Hd ((bR.o.t fun b o C hx=>bu a6.1 hx (by have:=C.1;omega)).D (G:=bC f.heap.size w8.heap.size) fun b C=>⟨C.1,FG C.2 a6.1.size⟩);obtain⟨X,n1,n2,n3,n4⟩:=cells5 cC.o;obtain⟨a0,a1,a2,a3,a4⟩:=cells5 ba.o;have z0:=ab ba.o 0;have z1:=ab ba.o 1;have z2:=ab ba.o 2;have z3:=ab ba.o 3;have z4:=ab ba.o 4;clear a6;go_wp2_with fail
  refine bh Tryz.results147 Z (aO ba.o _ _ _ _ _) Z ?_;rw[←b3.o];exact aR.z (r:=(.mk 8 nm.1.h 0 at_ l.1,aI ts l.2 bU)) (B:=f.heap.size) j HL.o dd.o dg.o (fc (by omega) ct.o Q.o.1 Q.o.2) (Fy _) (by omega) _ _ _ _ _
 ·have v:=cn.o;rw[oB hm]at v;have k:aF ts σ [fw]=σ:=by unfold aF;rw[oB hm]
  rw[k]at b2;have m:isM ts σ [fw]=false:=by simpa using hm
  rw[m];have b3:=Hd v;clear v k hm m;obtain⟨D,S,T⟩:=zz3 (b2.o.D (r9 #[tS eK] 9)) ((Gj w2 (r9 #[tS eK] 9) w1.heap.size c5).trans bB.o) ((Gj w2 (r9 #[tS eK] 9) w.heap.size (by omega)).trans cq.o);have V:=Hd (dy D.o.2 w2.heap.size 0 1 1 [eK] (bK [eK]) Z (by omega));go_wp2_with fail
  refine FN V.o ?_;rintro e w3 ⟨rfl,ht⟩;obtain⟨W,b4,bl⟩:=zz3 (D.o.h ht) (ht.q T.o j (Fy _)) (ht.q S.o j (F8 x));have cr:w1.heap.size<w3.heap.size:=(Fx.1 bl.o).1;clear ht D S T V
  by_cases hm:isM ts σ [eK]=ur
  ·have v:=b3.o;rw[oE hm]at v;have k:aF ts σ [eK]=ae ts σ:=by unfold aF;rw[oE hm]
   rw[k]at W;have m:isM ts σ [eK]=true:=by simpa using hm
   rw[m];have b5:=Hd v;clear v k hm m;have dn:=Hd (lO b1.o W.o.2);have cR:=jl ts (ae ts σ);generalize fU ts (ae ts σ)=nu at *;have ds:=Hd cR;clear cR;go_wp2_with fail
   refine FN dn.o ?_;rintro e w4 ⟨rfl,E⟩;obtain⟨K,bm,q⟩:=zz3 (W.o.h E) (E.q b4.o j (Fy _)) (E.q bl.o j (F8 x));have cu:w1.heap.size<w4.heap.size:=(Fx.1 q.o).1;have c7:w3.heap.size≤w4.heap.size:=E.1.size;clear E;obtain⟨f,g⟩:=zzx (((w4.setCell ⟨w1.heap.size,0,Y⟩ (I tF 9)).setCell ⟨w1.heap.size,2,Y⟩ (I U nu.1)));have cv:f.heap.size=w4.heap.size:=by rw[g];simp[AJ]
   have cc:w1.heap.size<f.heap.size:=by omega
   have H:Hid (ah w P L cap ts nu.2.1 nu.2.2 f):=by rw[g];exact ((K.o.z j HL.o (by omega) 0 _).z j HL.o (by omega) 2 _)
   have ad:Hid (f.heap[w.heap.size]?=A (r9 bE 145 (0,0))):=by rw[g];exact ((FC _ _ _ _ (show w.heap.size≠w1.heap.size by omega)).trans ((FC _ _ _ _ (show w.heap.size≠w1.heap.size by omega)).trans bm.o))
   have F:Hid (f.heap[w1.heap.size]?=A (r9 #[I tF 9,tS ⟨#[]⟩,I U nu.1,I U at_,O Y 0 0] 145 (0,0))):=by rw[g];exact (heap_set (heap_set q.o 0 _) 2 _)
   have f0:=ab q.o 0;have f2:=ab q.o 2;obtain⟨X,n1,n2,n3,n4⟩:=cells5 q.o;have H5:=Hd g;clear g;go_upto_region 12 with fail
   change xD _ _ _ _ ((w4.setCell ⟨w1.heap.size,0,Y⟩ (I tF 9)).setCell ⟨w1.heap.size,2,Y⟩ (I U nu.1));rw[←H5.o];clear X n1 n2 n3 n4 f0 f2;have ck:Hid (OwnAt f 0 [] (O Y 0 0) (bC f.heap.size f.heap.size)):=jO _ _;have HW:=Hd (cN H.o.2 bU);go_wp2_with fail
   refine FN HW.o ?_;rintro e u ⟨rfl,i⟩;obtain⟨M,y,z⟩:=zz3 (H.o.h i) (i.q ad.o j (Fy _)) (i.q F.o j (F8 x));have ch:w1.heap.size<u.heap.size:=(Fx.1 z.o).1;have cy:f.heap.size≤u.heap.size:=i.1.size;have aq:=Hd ((ck.o.t fun b o C hx=>bu i.1 hx (by have:=C.1;omega)).D (G:=bC f.heap.size u.heap.size) fun b C=>⟨C.1,FG C.2 i.1.size⟩);obtain⟨X,n1,n2,n3,n4⟩:=cells5 z.o;obtain⟨a0,a1,a2,a3,a4⟩:=cells5 y.o;have z0:=ab y.o 0;have z1:=ab y.o 1;have z2:=ab y.o 2;have z3:=ab y.o 3;have z4:=ab y.o 4;clear i;go_wp2_with fail
   refine bh Tryz.results147 Z (aO y.o _ _ _ _ _) Z ?_;rw[←b5.o];exact aR.z (r:=(.mk 9 ⟨#[]⟩ nu.1 at_ [],aI ts nu.2 bU)) (B:=f.heap.size) j HL.o M.o aq.o (Dq (by omega) ds.o Q.o.1 Q.o.2) (Fy _) (by omega) _ _ _ _ _
  ·have v:=b3.o;rw[oB hm]at v;have k:aF ts σ [eK]=σ:=by unfold aF;rw[oB hm]
   rw[k]at W;have m:isM ts σ [eK]=false:=by simpa using hm
   rw[m];have b5:=Hd v;clear v k hm m;obtain⟨D,S,T⟩:=zz3 (W.o.D (r9 #[tS kj] 9)) ((Gj w3 (r9 #[tS kj] 9) w1.heap.size cr).trans bl.o) ((Gj w3 (r9 #[tS kj] 9) w.heap.size (by omega)).trans b4.o);have V:=Hd (dy D.o.2 w3.heap.size 0 1 1 [kj] (bK [kj]) Z (by omega));go_wp2_with fail
   refine FN V.o ?_;rintro e w4 ⟨rfl,ht⟩;obtain⟨K,bm,q⟩:=zz3 (D.o.h ht) (ht.q T.o j (Fy _)) (ht.q S.o j (F8 x));have cu:w1.heap.size<w4.heap.size:=(Fx.1 q.o).1;clear ht D S T V
   by_cases hm:isM ts σ [kj]=ur
   ·have v:=b5.o;rw[oE hm]at v;have k:aF ts σ [kj]=ae ts σ:=by unfold aF;rw[oE hm]
    rw[k]at K;have m:isM ts σ [kj]=true:=by simpa using hm
    rw[m];have cl:=Hd v;clear v k hm m;have cf:=Hd (cm.o (ae ts σ) w4 P L cap K.o.2);generalize i4 ts (ey ts) (ae ts σ)=l at *;go_wp2_with fail
    refine FN cf.o ?_;rintro e f ⟨d2,s2,rfl,b0,af⟩;obtain⟨H,ad,F⟩:=zz3 (K.o.h b0) (b0.q bm.o j (Fy _)) (b0.q q.o j (F8 x));have cc:w1.heap.size<f.heap.size:=(Fx.1 F.o).1;have e0:w4.heap.size≤f.heap.size:=b0.1.size;obtain⟨p2,c2,rfl⟩:=af.q;have ck:=Hd af;clear b0 af;obtain⟨u,bt⟩:=zzx (((f.setCell ⟨w1.heap.size,0,Y⟩ (I tF 10)).setCell ⟨w1.heap.size,4,Y⟩ (O p2 l.1.length c2)));have dt:u.heap.size=f.heap.size:=by rw[bt];simp[AJ]
    have ch:w1.heap.size<u.heap.size:=by omega
    have M:Hid (ah w P L cap ts l.2.1 l.2.2 u):=by rw[bt];exact ((H.o.z j HL.o (by omega) 0 _).z j HL.o (by omega) 4 _)
    have y:Hid (u.heap[w.heap.size]?=A (r9 bE 145 (0,0))):=by rw[bt];exact ((FC _ _ _ _ (show w.heap.size≠w1.heap.size by omega)).trans ((FC _ _ _ _ (show w.heap.size≠w1.heap.size by omega)).trans ad.o))
    have z:Hid (u.heap[w1.heap.size]?=A (r9 #[I tF 10,tS ⟨#[]⟩,I U 0,I U at_,O p2 l.1.length c2] 145 (0,0))):=by rw[bt];exact (heap_set (heap_set F.o 0 _) 4 _)
    have f0:=ab F.o 0;have f4:=ab F.o 4;obtain⟨X,n1,n2,n3,n4⟩:=cells5 F.o;have H6:=Hd bt;clear bt;go_upto_region 12 with fail
    change xD _ _ _ _ ((f.setCell ⟨w1.heap.size,0,Y⟩ (I tF 10)).setCell ⟨w1.heap.size,4,Y⟩ (O p2 l.1.length c2));rw[←H6.o];clear X n1 n2 n3 n4 f0 f4;have aq:Hid (OwnAt u d2 l.1 (O p2 l.1.length c2) (bC w4.heap.size u.heap.size)):=by rw[dt,H6.o];exact ck.o.t fun b o C hx=>(FC _ _ _ _ (show b≠w1.heap.size by have:=C.1;omega)).trans ((FC _ _ _ _ (show b≠w1.heap.size by have:=C.1;omega)).trans hx)
    have HW:=Hd (cN M.o.2 bU);go_wp2_with fail
    refine FN HW.o ?_;rintro e N ⟨rfl,t⟩;obtain⟨bq,n,ar⟩:=zz3 (M.o.h t) (t.q y.o j (Fy _)) (t.q z.o j (F8 x));have cA:w1.heap.size<N.heap.size:=(Fx.1 ar.o).1;have dv:u.heap.size≤N.heap.size:=t.1.size;have bR:=Hd ((aq.o.t fun b o C hx=>bu t.1 hx (by have:=C.1;omega)).D (G:=bC w4.heap.size N.heap.size) fun b C=>⟨C.1,FG C.2 t.1.size⟩);obtain⟨X,n1,n2,n3,n4⟩:=cells5 ar.o;obtain⟨a0,a1,a2,a3,a4⟩:=cells5 n.o;have z0:=ab n.o 0;have z1:=ab n.o 1;have z2:=ab n.o 2;have z3:=ab n.o 3;have z4:=ab n.o 4;clear t;go_wp2_with fail
    refine bh Tryz.results147 Z (aO n.o _ _ _ _ _) Z ?_;rw[←cl.o];exact aR.z (r:=(.mk 10 ⟨#[]⟩ 0 at_ l.1,aI ts l.2 bU)) (B:=w4.heap.size) j HL.o bq.o bR.o (fc (by omega) (by show (0:Nat)≤16384;omega) Q.o.1 Q.o.2) (Fy _) (by omega) _ _ _ _ _
   ·have v:=b5.o;rw[oB hm]at v;have k:aF ts σ [kj]=σ:=by unfold aF;rw[oB hm]
    rw[k]at K;have m:isM ts σ [kj]=false:=by simpa using hm
    rw[m];have cl:=Hd v;clear v k hm m;obtain⟨f,g⟩:=zzx ((w4.setCell ⟨w1.heap.size,0,Y⟩ (I tF 11)));have cv:f.heap.size=w4.heap.size:=by rw[g];simp[AJ]
    have cc:w1.heap.size<f.heap.size:=by omega
    have H:Hid (ah w P L cap ts σ.1 σ.2 f):=by rw[g];exact (K.o.z j HL.o (by omega) 0 _)
    have ad:Hid (f.heap[w.heap.size]?=A (r9 bE 145 (0,0))):=by rw[g];exact ((FC _ _ _ _ (show w.heap.size≠w1.heap.size by omega)).trans bm.o)
    have F:Hid (f.heap[w1.heap.size]?=A (r9 #[I tF 11,tS ⟨#[]⟩,I U 0,I U at_,O Y 0 0] 145 (0,0))):=by rw[g];exact (heap_set q.o 0 _)
    have f0:=ab q.o 0;obtain⟨X,n1,n2,n3,n4⟩:=cells5 q.o;have H5:=Hd g;clear g;go_upto_region 3 with fail
    change xD _ _ _ _ (w4.setCell ⟨w1.heap.size,0,Y⟩ (I tF 11));rw[←H5.o];clear X n1 n2 n3 n4 f0;have eg:=Hd (cN H.o.2 kw);generalize aI ts σ kw=en at *;go_wp2_with fail
    refine FN eg.o ?_;rintro e u ⟨rfl,i⟩;obtain⟨M,y,z⟩:=zz3 (H.o.h i) (i.q ad.o j (Fy _)) (i.q F.o j (F8 x));have ch:w1.heap.size<u.heap.size:=(Fx.1 z.o).1;have cy:f.heap.size≤u.heap.size:=i.1.size;clear i;have aq:Hid (OwnAt u 0 [] (O Y 0 0) (bC u.heap.size u.heap.size)):=jO _ _;have HW:=Hd (cN M.o.2 bU);go_wp2_with fail
    refine FN HW.o ?_;rintro e N ⟨rfl,t⟩;obtain⟨bq,n,ar⟩:=zz3 (M.o.h t) (t.q y.o j (Fy _)) (t.q z.o j (F8 x));have cA:w1.heap.size<N.heap.size:=(Fx.1 ar.o).1;have dv:u.heap.size≤N.heap.size:=t.1.size;have bR:=Hd ((aq.o.t fun b o C hx=>bu t.1 hx (by have:=C.1;omega)).D (G:=bC u.heap.size N.heap.size) fun b C=>⟨C.1,FG C.2 t.1.size⟩);obtain⟨X,n1,n2,n3,n4⟩:=cells5 ar.o;obtain⟨a0,a1,a2,a3,a4⟩:=cells5 n.o;have z0:=ab n.o 0;have z1:=ab n.o 1;have z2:=ab n.o 2;have z3:=ab n.o 3;have z4:=ab n.o 4;clear t;go_wp2_with fail
    refine bh Tryz.results147 Z (aO n.o _ _ _ _ _) Z ?_;rw[←cl.o];exact aR.z (r:=(.mk 11 ⟨#[]⟩ 0 at_ [],aI ts en bU)) (B:=u.heap.size) j HL.o bq.o bR.o (fc (by omega) (by show (0:Nat)≤16384;omega) Q.o.1 Q.o.2) (Fy _) (by omega) _ _ _ _ _
def kS:ByteArray:=⟨#[95]⟩
def ec(ts:List Tok) (σ:PS):ac×PS:=
 if isM ts σ [kS]=ur then (.mk 12 ⟨#[]⟩ 0 (atM ts σ) [],ae ts σ)
 else if isM ts σ [a7]=ur then (.mk 14 (a7++txM ts (ae ts σ)) 0 (atM ts σ) [],(ofM ts (ae ts σ) 4 14).2)
 else if kdM ts σ=5 then ofM ts σ 5 15
 else if kdM ts σ=3 then ofM ts σ 3 13
 else ofM ts σ 4 14
theorem jd(ts:List Tok)(σ:PS):σ.1≤(ec ts σ).2.1:=by
 unfold ec;have a:=(eH ts σ).1
 (repeat' split)
 ·exact a
 ·exact FH a (d6 ts _ 4 14)
 ·exact d6 _ _ _ _
 ·exact d6 _ _ _ _
 ·exact d6 _ _ _ _
theorem AC{kind:Nat}{tx:ByteArray}{pl:Int}{ks:List ac}(a:kind<256)(b:tx.size≤16385)(c:0≤pl)(d:pl≤16384):Fits (.mk kind tx 0 pl ks):=
 ⟨a,by show tx.size≤maxLen;unfold maxLen;omega,by show (-9223372036854775808:Int)≤0;omega,by show (0:Int)<9223372036854775808;omega,by show (-9223372036854775808:Int)≤pl;omega,by show pl<9223372036854775808;omega⟩
theorem CS{ts:List Tok}(cn:cg ts):jm ts 177 (ec ts):=by
 intro σ w P L cap h;have b4:Gl w (w.alloc (r9 bE 145)):=(Fz _ w).alloc (Fy _) _;obtain⟨HC,H0⟩:=zz2 (fQ (h.C b4)) (h.h b4);have C:=h.lt.1;obtain⟨HL,HX,D⟩:=zz3 h.lt.2 (oA w (r9 bE 145)) cn;obtain⟨R,b5⟩:=zzy (ec ts σ);rw[b5];have j:=b5.symm;unfold ec at j;obtain⟨kd,cp⟩:=zzy (kdM ts σ);obtain⟨at_,b6⟩:=zzy (atM ts σ);rw[cp,b6]at HC j;have cq:=Hd j;have bq:Hid (0≤at_∧at_≤16384):=by
  show _∧_
  obtain⟨_,_,g3⟩:=cM D.o σ.1;rw[←b6];unfold atM;omega
 clear h b4 cn b5 j b6 cp;generalize txM ts σ=tx at HC
 go_enter Tryz.func177,Tryz.ntmps177
 go_wp2_with fail
 refine FN HC.o ?_;rintro e w1 ⟨rfl,b7⟩;obtain⟨c3,cr⟩:=zz2 (H0.o.t b7) (aa b7 HX.o (by simp));have N:w.heap.size<w1.heap.size:=(Fx.1 cr.o).1;clear b7;obtain⟨wA,Q⟩:=zzx (w1.alloc (r9 #[I tF kd,tS tx,I U at_] 192));have c5:w1.heap.size<wA.heap.size:=by rw[Q];simp
 have c6:Hid (ah w P L cap ts σ.1 σ.2 wA):=by rw[Q];exact c3.o.D _
 have c7:Hid (wA.heap[w1.heap.size]?=A (r9 #[I tF kd,tS tx,I U at_] 192 (0,0))):=by rw[Q];exact oA w1 _
 have c8:Hid (wA.heap[w.heap.size]?=A (r9 bE 145 (0,0))):=by rw[Q];exact (Gj w1 _ _ N).trans cr.o
 go_upto_region 2 with fail
 change xD _ _ _ _ (w1.alloc (r9 #[I tF kd,tS tx,I U at_] 192));rw[←Q];clear Q;obtain⟨E,ad,af⟩:=zz3 (c6.o.D (r9 #[tS kS] 9)) ((Gj wA (r9 #[tS kS] 9) w1.heap.size c5).trans c7.o) ((Gj wA (r9 #[tS kS] 9) w.heap.size (by omega)).trans c8.o);have aq:=Hd (dy E.o.2 wA.heap.size 0 1 1 [kS] (bK [kS]) Z (by omega));go_wp2_with fail
 refine FN aq.o ?_;rintro e w2 ⟨rfl,ht⟩;obtain⟨bt,z,b8⟩:=zz3 (E.o.h ht) (ht.q af.o C (Fy _)) (ht.q ad.o C (F8 N));have c9:w1.heap.size<w2.heap.size:=(Fx.1 b8.o).1;clear ht E ad af aq
 by_cases hm:isM ts σ [kS]=ur
 ·have j:=cq.o;rw[oE hm]at j;have q:aF ts σ [kS]=ae ts σ:=by unfold aF;rw[oE hm]
  rw[q]at bt;have t:isM ts σ [kS]=true:=by simpa using hm
  rw[t];have ar:=Hd j;clear j q hm t;have e6:=ar;obtain⟨m0,m1,m2,_,_,_⟩:=cells3 b8.o;obtain⟨a0,a1,a2,a3,a4⟩:=cells5 z.o;have z0:=ab z.o 0;have z1:=ab z.o 1;have z2:=ab z.o 2;have z3:=ab z.o 3;have z4:=ab z.o 4;go_wp2_with fail
  refine bh Tryz.results177 Z (aO z.o _ _ _ _ _) Z ?_;rw[ar.o];exact aR.z (r:=(.mk 12 ⟨#[]⟩ 0 at_ [],ae ts σ)) (B:=w1.heap.size) C HL.o bt.o (jO _ _) (fc (by omega) (by show (0:Nat)≤16384;omega) bq.o.1 bq.o.2) (Fy _) N _ _ _ _ _
 ·have j:=cq.o;rw[oB hm]at j;have q:aF ts σ [kS]=σ:=by unfold aF;rw[oB hm]
  rw[q]at bt;have t:isM ts σ [kS]=false:=by simpa using hm
  rw[t];have ar:=Hd j;clear j q hm t;obtain⟨E,ad,af⟩:=zz3 (bt.o.D (r9 #[tS a7] 9)) ((Gj w2 (r9 #[tS a7] 9) w1.heap.size c9).trans b8.o) ((Gj w2 (r9 #[tS a7] 9) w.heap.size (by omega)).trans z.o);have aq:=Hd (dy E.o.2 w2.heap.size 0 1 1 [a7] (bK [a7]) Z (by omega));go_wp2_with fail
  refine FN aq.o ?_;rintro e g ⟨rfl,ht⟩;obtain⟨u,F,bB⟩:=zz3 (E.o.h ht) (ht.q af.o C (Fy _)) (ht.q ad.o C (F8 N));have e9:w1.heap.size<g.heap.size:=(Fx.1 bB.o).1;clear ht E ad af aq
  by_cases hm:isM ts σ [a7]=ur
  ·have j:=ar.o;rw[oE hm]at j;have q:aF ts σ [a7]=ae ts σ:=by unfold aF;rw[oE hm]
   rw[q]at u;have t:isM ts σ [a7]=true:=by simpa using hm
   rw[t];have bR:=Hd j;clear j q hm t;have HO:=Hd (xP u.o.2 (f9 u.o.2.k) 4 14);have dd:=cM D.o (ae ts σ).1;have ct:R=(.mk 14 (a7++(cP ts (ae ts σ).1).2.1) 0 at_ [],(ew ts.length (ae ts σ).1 ((ae ts σ).2||(cP ts (ae ts σ).1).1 != 4),((ae ts σ).2||(cP ts (ae ts σ).1).1 != 4))):=bR.o;generalize ew ts.length (ae ts σ).1 ((ae ts σ).2||(cP ts (ae ts σ).1).1 != 4)=kn at *;generalize ((ae ts σ).2||(cP ts (ae ts σ).1).1 != 4)=bn at *;obtain⟨_,cu,dg⟩:=dd;generalize (cP ts (ae ts σ).1).2.1=m at *;generalize (cP ts (ae ts σ).1).2.2=b0 at *;obtain⟨b9,dn⟩:=zz2 cu ct;clear bR cu dg ct;go_wp2_with fail
   refine FN HO.o ?_;rintro e w4 ⟨rfl,f⟩;have ca:=Hd (u.o.h f);have cv:=f.q F.o C (Fy _);have cb:=f.q bB.o C (F8 N);have fm:w1.heap.size<w4.heap.size:=(Fx.1 cb).1;obtain⟨y,b1⟩:=zzx (w4.alloc (r9 #[I tF 14,tS m,I U 0,I U b0,O Y 0 0] 145));have b2:Gl w4 y:=by rw[b1];exact (Fz _ w4).alloc (Fy _) _
   obtain⟨S,ds,cy⟩:=zz3 (ca.o.t b2) (aa b2 cv (by omega)) (aa b2 cb (by omega));have b3:Hid (y.heap[w4.heap.size]?=A (r9 #[I tF 14,tS m,I U 0,I U b0,O Y 0 0] 145 (0,0))):=by show _=_;rw[b1];exact oA w4 _
   have fr:w4.heap.size<y.heap.size:=(Fx.1 b3.o).1;clear f cv cb b2;go_upto_region 6 with fail
   change xD _ _ _ _ (w4.alloc (r9 #[I tF 14,tS m,I U 0,I U b0,O Y 0 0] 145));rw[←b1];clear b1;obtain⟨m0,m1,m2,_,_,_⟩:=cells3 cy.o;obtain⟨e0,e1,e2,e3,e4⟩:=cells5 b3.o;have cA:=ab b3.o 1;have dt:w1.heap.size≠w4.heap.size:=by omega
   obtain⟨X,T⟩:=zzx (y.drew.setCell ⟨w4.heap.size,1,Y⟩ (tS (a7++m)));have cC:X.cell? ⟨w1.heap.size,2,Y⟩=A (I U at_):=by
    rw[T];exact Gk _ _ _ _ _ _ ((FC _ _ _ _ dt).trans cy.o)
   have M2:=fun x:RE.Two y.drew X=>RE.Two.h (show y.drew.cell? _=_ from m2) cC x
   have E1:=fun x:RE.Two y.drew y.drew=>RE.Two.h (show y.drew.cell? _=_ from e1) (show y.drew.cell? _=_ from e1) x
   have cR:X.heap[w4.heap.size]?=A (r9 #[I tF 14,tS (a7++m),I U 0,I U b0,O Y 0 0] 145 (0,0)):=by
    rw[T];exact heap_set (show y.drew.heap[w4.heap.size]?=_ from b3.o) 1 _
   have cT:X.heap[w.heap.size]?=A (r9 bE 145 (0,0)):=by
    rw[T];exact (FC _ _ _ _ (show w.heap.size≠w4.heap.size by omega)).trans ds.o
   have cV:ah w P L cap ts kn bn X:=by
    rw[T];exact ah.z ⟨o6 S.o.1 (grown_drewN (o3 y _) 1),S.o.2.drew⟩ C HL.o (by omega) 1 _
   obtain⟨cW,G,dv,H6⟩:=zz4 cR cT cV T;have H:y.drew.cell? ⟨w4.heap.size,1,Y⟩=A (tS m):=e1;have eg:y.drew.frozen? ⟨w4.heap.size,1,Y⟩=false:=cA;have c1:∀W:J,(Op.stringOp .add ⟨#[45]⟩ m).run Tryz.prog W=.ok (tS (a7++m)) W:=fun W=>run_string_add W _ _ (by show ((1:Nat):Int)≤8388608;omega) (by have:=b9.o;omega)
   have en:(m.size:Int)≤8388608:=by have:=b9.o;omega
   have eo:((⟨#[45]⟩:ByteArray).size:Int)≤8388608:=by show ((1:Nat):Int)≤8388608;omega
   clear m0 m1 m2 e0 e1 e2 e3 e4 cA cC cR cT cV T;refine RE.u (by kernel_rfl) 7 [6] [6] (fun s W=>if s=0 then W=y.drew else W=X) (fun _ _=>True) (fun _ _=>wF) (fun _ _ _=>True) (by kernel_rfl) (fun i h1 h2=>by rw[h1]at h2;cases h2) (fun _ _ _ _ _ _ _=>trivial) Z ?_;simp only[FO,FY,FQ,FX,F9,List.length_nil,Nat.reduceAdd]
   repeat (first
    | (refine RE.q (fun W=>∃x:RE.Two y.drew X,W=x.1) RE.two_class Z Z Z Z ?_;go_big_quiet_step (fail);refine xL ?_)
    | (refine RE.q (fun W=>∃x:RE.Two y.drew y.drew,W=x.1) (RE.one_class (by kernel_rfl)) Z Z Z Z ?_;go_big_quiet_step (fail);refine xL ?_))
   refine RE.h Z Z ?_ (fun xs=>?_)
   ·intro W hC V _;obtain rfl:W=y.drew:=V Z;refine RE.Upon.told (v:=wF) (w':=y.drew.setCell ⟨w4.heap.size,1,Y⟩ (tS (a7++m))) ?_ ⟨[],Z,H6.o.symm,trivial,trivial⟩;unfold RE.Upon
    go_simp
    try exact⟨rfl,rfl⟩
   simp only[Act.put];refine RE.t ?_;intro W V _;obtain rfl:X=W:=(show W=X from V).symm;clear M2 E1 H eg H6 c1 en eo;obtain⟨e0,e1,e2,e3,e4⟩:=cells5 cW.o;have fs:=ab cW.o 3;obtain⟨a0,a1,a2,a3,a4⟩:=cells5 G.o;have z0:=ab G.o 0;have z1:=ab G.o 1;have z2:=ab G.o 2;have z3:=ab G.o 3;have z4:=ab G.o 4;have er:=Hd ((FC X ⟨w4.heap.size,3,Y⟩ (I U at_) _ (show w.heap.size≠w4.heap.size by omega)).trans G.o);have et:=Hd (dv.o.z C HL.o (b:=w4.heap.size) (by omega) 3 (I U at_));have cc:Hid ((a7++m).size≤16385):=by
    show _≤_
    rw[ByteArray.size_append,show a7.size=1 from rfl];have:=b9.o;omega
   generalize a7++m=tl at *;go_wp2_with fail
   refine bh Tryz.results177 Z (aO er.o _ _ _ _ _) Z ?_;rw[dn.o];exact aR.z (r:=(.mk 14 tl 0 at_ [],(kn,bn))) (B:=w1.heap.size) C HL.o et.o (jO _ _) (AC (by omega) cc.o bq.o.1 bq.o.2) (Fy _) N _ _ _ _ _
  ·have j:=ar.o;rw[oB hm]at j;have q:aF ts σ [a7]=σ:=by unfold aF;rw[oB hm]
   rw[q]at u;have t:isM ts σ [a7]=false:=by simpa using hm
   rw[t];have bR:=Hd j;clear j q hm t;have j:=bR.o;have cf:=bB;clear bB
   by_cases ch:kd=5
   ·subst ch;rw[oE Z]at j;subst j;have f:=u.o;have a6:=Hd (jQ D.o (w:=g.drew) f.2.drew 5 15 (by omega));obtain⟨c0,_,_,_,_,_⟩:=cells3 cf.o;have ba:w1.heap.size≠P:=by omega
    have C0:=fun x:RE.Gr g P=>x.h c0 ba
    have ck:P<g.heap.size:=f.2.lt.1;have H:∀(n s:Nat) (W:J),s≤n→(if s=0 then W=g.drew else ah g P L cap ts (ofM ts σ 5 15).2.1 (ofM ts σ 5 15).2.2 W)→∃x:RE.Gr g P,W=x.1:=fun n s W _ h=>by
     split at h
     ·exact⟨⟨W,by rw[h];exact grown_drewN (o3 g _) 1⟩,Z⟩
     ·exact⟨⟨W,h.1⟩,Z⟩
    have cl:=Hd H;have bb:=Hd (kT D.o σ 5 15 (by omega));have bd:(ofM ts σ 5 15).1.z=[]:=rfl;have e5:=Hd bd;generalize ofM ts σ 5 15=r at *;clear H f bd;go_wp2_with fail
    clear c0;refine RE.u (by kernel_rfl) 6 [5] [5] (fun s W=>if s=0 then W=g.drew else ah g P L cap ts r.2.1 r.2.2 W) (fun W W'=>W.grownBy W' (A P))
     (fun i xs=>xk #[I tF r.1.q,tS r.1.h,I U r.1.u,I U r.1.t,xs.getD 0 wF])
     (fun i W xs=>fN g.heap.size r.1 W xs) (by kernel_rfl) (fun i h1 h2=>by rw[h1]at h2;cases h2) (fun k W W' xs h _ hg=>h.u ck hg) Z ?_
    simp only[FO,FY,FQ,FX,F9,List.length_nil,Nat.reduceAdd]
    repeat (refine RE.q (fun W=>∃x:RE.Gr g P,W=x.1) (cl.o _) Z Z Z Z ?_;go_big_quiet_step (fail);refine xL ?_)
    refine RE.h Z Z ?_ (fun bk=>?_)
    ·intro W _ V _;obtain rfl:W=g.drew:=V Z;refine RE.z 143 _ _ Z (enters_of Tryz.func143 (by kernel_rfl) Z) #[vv (A ⟨P,0,Y⟩),I tF 5,I tF 15] (by simp[Act.eval]) (a6.o.mono ?_);rintro e W' ⟨d,s,rfl,hT,K,hf⟩;exact⟨_,Z,[s],Z,hT.u,hT.1,⟨d,s,Z,K,hf⟩⟩
    simp only[Act.put,FA,FM,FK];refine RE.t ?_;intro W4 V hE;have M:ah g P L cap ts r.2.1 r.2.2 W4:=V;obtain⟨d,s,rfl,K,hf⟩:=(show fN g.heap.size r.1 W4 bk from hE 5 bk Z);obtain⟨p,c,rfl⟩:=K.q;obtain⟨HO,S⟩:=zz2 K (u.o.h M);have l:=M.q F.o C (Fy _);have bl:=Hd l;obtain⟨a0,a1,a2,a3,a4⟩:=cells5 l;have z0:=ab l 0;have z1:=ab l 1;have z2:=ab l 2;have z3:=ab l 3;have z4:=ab l 4;have bm:w.heap.size<g.heap.size:=(Fx.1 F.o).1;clear C0 hE V K M l hf;go_wp2_with fail
    refine bh Tryz.results177 Z (aO bl.o _ _ _ _ _) Z ?_;exact aR.z C HL.o S.o HO.o bb.o (Fy _) bm _ _ _ _ _
   rw[oB ch]at j;have e7:((kd:Int)==5)=false:=by simp;omega
   by_cases cm:kd=3
   ·subst cm;rw[oE Z]at j;subst j;have f:=u.o;have a6:=Hd (jQ D.o (w:=g.drew) f.2.drew 3 13 (by omega));obtain⟨c0,_,_,_,_,_⟩:=cells3 cf.o;have ba:w1.heap.size≠P:=by omega
    have C0:=fun x:RE.Gr g P=>x.h c0 ba
    have ck:P<g.heap.size:=f.2.lt.1;have H:∀(n s:Nat) (W:J),s≤n→(if s=0 then W=g.drew else ah g P L cap ts (ofM ts σ 3 13).2.1 (ofM ts σ 3 13).2.2 W)→∃x:RE.Gr g P,W=x.1:=fun n s W _ h=>by
     split at h
     ·exact⟨⟨W,by rw[h];exact grown_drewN (o3 g _) 1⟩,Z⟩
     ·exact⟨⟨W,h.1⟩,Z⟩
    have cl:=Hd H;have bb:=Hd (kT D.o σ 3 13 (by omega));have bd:(ofM ts σ 3 13).1.z=[]:=rfl;have e5:=Hd bd;generalize ofM ts σ 3 13=r at *;clear H f bd;go_wp2_with fail
    clear c0;refine RE.u (by kernel_rfl) 6 [5] [5] (fun s W=>if s=0 then W=g.drew else ah g P L cap ts r.2.1 r.2.2 W) (fun W W'=>W.grownBy W' (A P))
     (fun i xs=>xk #[I tF r.1.q,tS r.1.h,I U r.1.u,I U r.1.t,xs.getD 0 wF])
     (fun i W xs=>fN g.heap.size r.1 W xs) (by kernel_rfl) (fun i h1 h2=>by rw[h1]at h2;cases h2) (fun k W W' xs h _ hg=>h.u ck hg) Z ?_
    simp only[FO,FY,FQ,FX,F9,List.length_nil,Nat.reduceAdd]
    repeat (refine RE.q (fun W=>∃x:RE.Gr g P,W=x.1) (cl.o _) Z Z Z Z ?_;go_big_quiet_step (fail);refine xL ?_)
    refine RE.h Z Z ?_ (fun bk=>?_)
    ·intro W _ V _;obtain rfl:W=g.drew:=V Z;refine RE.z 143 _ _ Z (enters_of Tryz.func143 (by kernel_rfl) Z) #[vv (A ⟨P,0,Y⟩),I tF 3,I tF 13] (by simp[Act.eval]) (a6.o.mono ?_);rintro e W' ⟨d,s,rfl,hT,K,hf⟩;exact⟨_,Z,[s],Z,hT.u,hT.1,⟨d,s,Z,K,hf⟩⟩
    simp only[Act.put,FA,FM,FK];refine RE.t ?_;intro W4 V hE;have M:ah g P L cap ts r.2.1 r.2.2 W4:=V;obtain⟨d,s,rfl,K,hf⟩:=(show fN g.heap.size r.1 W4 bk from hE 5 bk Z);obtain⟨p,c,rfl⟩:=K.q;obtain⟨HO,S⟩:=zz2 K (u.o.h M);have l:=M.q F.o C (Fy _);have bl:=Hd l;obtain⟨a0,a1,a2,a3,a4⟩:=cells5 l;have z0:=ab l 0;have z1:=ab l 1;have z2:=ab l 2;have z3:=ab l 3;have z4:=ab l 4;have bm:w.heap.size<g.heap.size:=(Fx.1 F.o).1;clear C0 hE V K M l hf;go_wp2_with fail
    refine bh Tryz.results177 Z (aO bl.o _ _ _ _ _) Z ?_;exact aR.z C HL.o S.o HO.o bb.o (Fy _) bm _ _ _ _ _
   rw[oB cm]at j;have e8:((kd:Int)==3)=false:=by simp;omega
   subst j;have a6:=Hd (jQ D.o u.o.2 4 14 (by omega));obtain⟨c0,_,_,_,_,_⟩:=cells3 cf.o;generalize ofM ts σ 4 14=r at *;clear ch cm;go_wp2_with fail
   refine FN a6.o ?_;rintro e w4 ⟨d,s,rfl,f,K,hf⟩;obtain⟨p,c,rfl⟩:=K.q;have ca:=Hd (u.o.h f);have l:=f.q F.o C (Fy _);have bl:=Hd l;obtain⟨a0,a1,a2,a3,a4⟩:=cells5 l;have z0:=ab l 0;have z1:=ab l 1;have z2:=ab l 2;have z3:=ab l 3;have z4:=ab l 4;obtain⟨HO,HF⟩:=zz2 K hf;have bm:w.heap.size<g.heap.size:=(Fx.1 F.o).1;clear f l K hf c0;go_wp2_with fail
   refine bh Tryz.results177 Z (aO bl.o _ _ _ _ _) Z ?_;exact aR.z C HL.o ca.o HO.o HF.o (Fy _) bm _ _ _ _ _
def iS:ByteArray:=⟨#[102,97,99,116]⟩
def oU:ByteArray:=⟨#[114,117,108,101]⟩
def ed(ts:List Tok) (a:Int→PS→ac×PS) (σ:PS):ac×PS:=
 if isM ts σ [iS]=ur then (.mk 2 (ofM ts (ae ts σ) 2 2).1.h 0 (atM ts σ) (bV ts (fun σ=>ofM ts σ 2 3) (ofM ts (ae ts σ) 2 2).2).1,aI ts (bV ts (fun σ=>ofM ts σ 2 3) (ofM ts (ae ts σ) 2 2).2).2 bU)
 else a (atM ts σ) (aI ts σ oU)
theorem uu{ts:List Tok}{b:Int→PS→ac×PS}(h:∀a σ,σ.1≤(b a σ).2.1)(σ:PS):σ.1≤(ed ts b σ).2.1:=by
 unfold ed;have c:=(eH ts σ).1
 split
 ·exact FH c (FH (d6 ts _ 2 2) (FH (gZ (fun σ=>d6 ts σ 2 3) _) (bz ts _ _)))
 ·exact FH (bz ts σ oU) (h _ _)
def An(ts:List Tok) (b:Int→PS→ac×PS):Prop:=∀(a:Int) (σ:PS) (w:J) (P L cap:Nat),0≤a→a≤16384→PAt w P L cap ts σ.1 σ.2→
 Calls Tryz.prog 122 #[vv (A ⟨P,0,Y⟩),xk #[I tF 0,tS ⟨#[]⟩,I U 0,I U a,O Y 0 0]] w (aR w P L cap ts (b a σ))
theorem Ap{ts:List Tok}(H:cg ts){ru:Int→PS→ac×PS}(bl:An ts ru):jm ts 93 (ed ts ru):=by
 intro σ w P L cap h;have V:Gl w (w.alloc (r9 bE 145)):=(Fz _ w).alloc (Fy _) _;obtain⟨HC,H0⟩:=zz2 (fQ (h.C V)) (h.h V);have j:=h.lt.1;obtain⟨HL,HX,W,X,b3⟩:=zz5 h.lt.2 (oA w (r9 bE 145)) H (fun σ w P L cap h=>nO H (enters_of Tryz.func120 (by kernel_rfl) Z) (yJ H) (fun σ=>d6 ts σ 2 3) σ w P L cap h) bl;obtain⟨R,ad⟩:=zzy (ed ts ru σ);rw[ad];have y:=ad;unfold ed at y;obtain⟨at_,af⟩:=zzy (atM ts σ);rw[af]at HC y;have bm:=Hd y;have K:Hid (0≤at_∧at_≤16384):=by
  show _∧_
  obtain⟨_,_,g3⟩:=cM W.o σ.1;rw[←af];unfold atM;omega
 clear h V H bl ad y af;generalize kdM ts σ=kd at HC;generalize txM ts σ=tx at HC
 go_enter Tryz.func93,Tryz.ntmps93
 go_wp2_with fail
 refine FN HC.o ?_;rintro e w1 ⟨rfl,aq⟩;have b4:=j4 kd tx at_ w1;obtain⟨b5,bn⟩:=zz2 (H0.o.t aq) (aa aq HX.o (by simp));have n:w.heap.size<w1.heap.size:=(Fx.1 bn.o).1;clear aq;obtain⟨M,q⟩:=zzx (w1.alloc (r9 #[I tF 0,tS ⟨#[]⟩,I U 0,I U at_,O Y 0 0] 145));have b6:w1.heap.size<M.heap.size:=by rw[q];simp
 have b7:Hid (ah w P L cap ts σ.1 σ.2 M):=by rw[q];exact b5.o.D _
 have b8:Hid (M.heap[w1.heap.size]?=A (r9 #[I tF 0,tS ⟨#[]⟩,I U 0,I U at_,O Y 0 0] 145 (0,0))):=by rw[q];exact oA w1 _
 have b9:Hid (M.heap[w.heap.size]?=A (r9 bE 145 (0,0))):=by rw[q];exact (Gj w1 _ _ n).trans bn.o
 go_upto_region 2 with fail
 change xD _ _ _ _ (w1.alloc (r9 #[I tF 0,tS ⟨#[]⟩,I U 0,I U at_,O Y 0 0] 145));rw[←q];clear b4 q;obtain⟨ar,bq,bt⟩:=zz3 (b7.o.D (r9 #[tS iS] 9)) ((Gj M (r9 #[tS iS] 9) w1.heap.size b6).trans b8.o) ((Gj M (r9 #[tS iS] 9) w.heap.size (by omega)).trans b9.o);have bB:=Hd (dy ar.o.2 M.heap.size 0 1 1 [iS] (bK [iS]) Z (by omega));go_wp2_with fail
 refine FN bB.o ?_;rintro e w2 ⟨rfl,ht⟩;obtain⟨t,bR,a6⟩:=zz3 (ar.o.h ht) (ht.q bt.o j (Fy _)) (ht.q bq.o j (F8 n));have cC:w1.heap.size<w2.heap.size:=(Fx.1 a6.o).1;clear ht ar bq bt bB
 by_cases hm:isM ts σ [iS]=ur
 ·have y:=bm.o;rw[oE hm]at y;have z:aF ts σ [iS]=ae ts σ:=by unfold aF;rw[oE hm]
  rw[z]at t;have C:isM ts σ [iS]=true:=by simpa using hm
  rw[C];have ba:=Hd y;clear y z hm C;have ca:=Hd (i6 W.o t.o.2 2 (by omega));have T:(ofM ts (ae ts σ) 2 2).1.h.size≤16384:=(cM W.o _).2.1;generalize ofM ts (ae ts σ) 2 2=nm at *;have b0:=Hd T;clear T;go_wp2_with fail
  refine FN ca.o ?_;rintro e w4 ⟨d,s,rfl,f,ho,hf⟩;obtain⟨N,bb,i⟩:=zz3 (t.o.h f) (f.q bR.o j (Fy _)) (f.q a6.o j (F8 n));have cb:w1.heap.size<w4.heap.size:=(Fx.1 i.o).1;have cc:w2.heap.size≤w4.heap.size:=f.1.size;obtain⟨p,c,rfl⟩:=ho.q;have cf:=ik nm.1.q nm.1.h nm.1.u nm.1.t nm.1.z.length p c w4;clear f ho hf;obtain⟨u,v⟩:=zzx (((w4.setCell ⟨w1.heap.size,0,Y⟩ (I tF 2)).setCell ⟨w1.heap.size,1,Y⟩ (tS nm.1.h)));have cR:u.heap.size=w4.heap.size:=by rw[v];simp[AJ]
  have cT:w1.heap.size<u.heap.size:=by omega
  have Q:Hid (ah w P L cap ts nm.2.1 nm.2.2 u):=by rw[v];exact ((N.o.z j HL.o (by omega) 0 _).z j HL.o (by omega) 1 _)
  have g:Hid (u.heap[w.heap.size]?=A (r9 bE 145 (0,0))):=by rw[v];exact ((FC _ _ _ _ (show w.heap.size≠w1.heap.size by omega)).trans ((FC _ _ _ _ (show w.heap.size≠w1.heap.size by omega)).trans bb.o))
  have ch:Hid (u.heap[w1.heap.size]?=A (r9 #[I tF 2,tS nm.1.h,I U 0,I U at_,O Y 0 0] 145 (0,0))):=by rw[v];exact (heap_set (heap_set i.o 0 _) 1 _)
  have f0:=ab i.o 0;have f1:=ab i.o 1;obtain⟨n0,n1,n2,n3,n4⟩:=cells5 i.o;have H5:=Hd v;clear v;go_upto_region 4 with fail
  change xD _ _ _ _ ((w4.setCell ⟨w1.heap.size,0,Y⟩ (I tF 2)).setCell ⟨w1.heap.size,1,Y⟩ (tS nm.1.h));rw[←H5.o];clear n0 n1 n2 n3 n4 f0 f1;clear cf;have ck:=Hd (X.o nm.2 u P L cap Q.o.2);generalize bV ts (fun σ=>ofM ts σ 2 3) nm.2=l at *;go_wp2_with fail
  refine FN ck.o ?_;rintro e w6 ⟨d2,s2,rfl,D,bd⟩;obtain⟨cl,cm,S⟩:=zz3 (Q.o.h D) (D.q g.o j (Fy _)) (D.q ch.o j (F8 n));have cV:w1.heap.size<w6.heap.size:=(Fx.1 S.o).1;have cW:u.heap.size≤w6.heap.size:=D.1.size;obtain⟨p2,c2,rfl⟩:=bd.q;have cn:=Hd bd;clear D bd;obtain⟨F,x⟩:=zzx ((w6.setCell ⟨w1.heap.size,4,Y⟩ (O p2 l.1.length c2)));have cp:F.heap.size=w6.heap.size:=by rw[x];simp[AJ]
  have c0:w1.heap.size<F.heap.size:=by omega
  have b1:Hid (ah w P L cap ts l.2.1 l.2.2 F):=by rw[x];exact (cl.o.z j HL.o (by omega) 4 _)
  have cq:Hid (F.heap[w.heap.size]?=A (r9 bE 145 (0,0))):=by rw[x];exact ((FC _ _ _ _ (show w.heap.size≠w1.heap.size by omega)).trans cm.o)
  have cr:Hid (F.heap[w1.heap.size]?=A (r9 #[I tF 2,tS nm.1.h,I U 0,I U at_,O p2 l.1.length c2] 145 (0,0))):=by rw[x];exact (heap_set S.o 4 _)
  have f4:=ab S.o 4;obtain⟨n0,n1,n2,n3,n4⟩:=cells5 S.o;have H7:=Hd x;clear x;go_upto_region 5 with fail
  change xD _ _ _ _ (w6.setCell ⟨w1.heap.size,4,Y⟩ (O p2 l.1.length c2));rw[←H7.o];clear n0 n1 n2 n3 n4 f4;have ct:Hid (OwnAt F d2 l.1 (O p2 l.1.length c2) (bC u.heap.size F.heap.size)):=by rw[cp,H7.o];exact cn.o.t fun b o hb hx=>(FC _ _ _ _ (show b≠w1.heap.size by have:=hb.1;omega)).trans hx
  have HW:=Hd (cN b1.o.2 bU);go_wp2_with fail
  refine FN HW.o ?_;rintro e w8 ⟨rfl,k⟩;obtain⟨cu,m,b2⟩:=zz3 (b1.o.h k) (k.q cq.o j (Fy _)) (k.q cr.o j (F8 n));have c1:w1.heap.size<w8.heap.size:=(Fx.1 b2.o).1;have c3:F.heap.size≤w8.heap.size:=k.1.size;have cv:=Hd ((ct.o.t fun b o hb hx=>bu k.1 hx (by have:=hb.1;omega)).D (G:=bC u.heap.size w8.heap.size) fun b hb=>⟨hb.1,FG hb.2 k.1.size⟩);obtain⟨n0,n1,n2,n3,n4⟩:=cells5 b2.o;obtain⟨a0,a1,a2,a3,a4⟩:=cells5 m.o;have z0:=ab m.o 0;have z1:=ab m.o 1;have z2:=ab m.o 2;have z3:=ab m.o 3;have z4:=ab m.o 4;clear k;go_wp2_with fail
  refine bh Tryz.results93 Z (aO m.o _ _ _ _ _) Z ?_;rw[←ba.o];exact aR.z (r:=(.mk 2 nm.1.h 0 at_ l.1,aI ts l.2 bU)) (B:=u.heap.size) j HL.o cu.o cv.o (fc (by omega) b0.o K.o.1 K.o.2) (Fy _) (by omega) _ _ _ _ _
 ·have y:=bm.o;rw[oB hm]at y;have z:aF ts σ [iS]=σ:=by unfold aF;rw[oB hm]
  rw[z]at t;have C:isM ts σ [iS]=false:=by simpa using hm
  rw[C];have ba:=Hd y;clear y z hm C;have cy:=Hd (cN t.o.2 oU);generalize aI ts σ oU=cA at *;go_wp2_with fail
  refine FN cy.o ?_;rintro e w4 ⟨rfl,f⟩;obtain⟨N,bb,i⟩:=zz3 (t.o.h f) (f.q bR.o j (Fy _)) (f.q a6.o j (F8 n));have cb:w1.heap.size<w4.heap.size:=(Fx.1 i.o).1;have cc:w2.heap.size≤w4.heap.size:=f.1.size;clear f;have E:=Hd (b3.o at_ cA w4 P L cap K.o.1 K.o.2 N.o.2);rw[ba.o]at E;obtain⟨n0,n1,n2,n3,n4⟩:=cells5 i.o;go_wp2_with fail
  refine FN E.o ?_;rintro e u ⟨d,s,rfl,bk,ho,hf⟩;obtain⟨p,c,rfl⟩:=ho.q;obtain⟨Q,g⟩:=zz2 (N.o.h bk) (bk.q bb.o j (Fy _));obtain⟨a0,a1,a2,a3,a4⟩:=cells5 g.o;have z0:=ab g.o 0;have z1:=ab g.o 1;have z2:=ab g.o 2;have z3:=ab g.o 3;have z4:=ab g.o 4;obtain⟨HO,HF⟩:=zz2 ho hf;clear bk ho hf n0 n1 n2 n3 n4;go_wp2_with fail
  refine bh Tryz.results93 Z (aO g.o _ _ _ _ _) Z ?_;exact aR.z j HL.o Q.o HO.o HF.o (Fy _) (by omega) _ _ _ _ _
section
variable {ts:List Tok} {σ:PS}
theorem me(h:σ.2=ur)(texts:List ByteArray):isM ts σ texts=false:=by unfold isM;rw[h];rfl
theorem eb(h:σ.2=ur)(x:ByteArray):(aI ts σ x).2=true:=by
 show qV σ.2 _ _=ur
 unfold qV;rw[h];rfl
theorem oZ(h:σ.2=ur)(tok kind:Nat):(ofM ts σ tok kind).2.2=true:=by
 show (σ.2||_)=ur
 rw[h];rfl
end
theorem pM{ts:List Tok}{σ:PS}(h:σ.2=ur):(ec ts σ).2.2=true:=by
 unfold ec;rw[oB (by rw[me h];decide),oB (by rw[me h];decide)]
 split
 ·exact oZ h _ _
 ·split
  ·exact oZ h _ _
  ·exact oZ h _ _
theorem ww{ts:List Tok}{one:PS→ac×PS}{σ:PS}(h:σ.2=ur):∀(g:Nat) (ks:List ac),eG ts one g ks σ=(ks,σ):=by
 intro g ks
 cases g with
 | zero=>rfl
 | succ g=>unfold eG;rw[oB (by rw[me h];decide)]
theorem BX{ts:List Tok}{one:PS→ac×PS}(a:∀σ:PS,σ.2=ur→(one σ).2.2=ur){σ:PS}(h:σ.2=ur):(i4 ts one σ).2.2=true:=by
 unfold i4;rw[ww (a σ h)];exact a σ h
theorem A7{ts:List Tok}{one:PS→ac×PS}(a:∀σ:PS,σ.2=ur→(one σ).2.2=ur){σ:PS}(h:σ.2=ur):(bV ts one σ).2.2=true:=by
 unfold bV;rw[oB (by rw[me (eb h _)];decide)];exact eb (BX a (eb h _)) _
theorem EC{ts:List Tok}(c:cg ts){σ:PS}(d:σ.1<ts.length){tok:Nat}(h:tok≠7)(kind:Nat):(ofM ts σ tok kind).2.2=ur∨σ.1<(ofM ts σ tok kind).2.1:=by
 cases e:(ofM ts σ tok kind).2.2 with
 | true=>exact Or.inl Z
 | false =>
  right
  have b:(σ.2||(cP ts σ.1).1 != tok)=false:=e
  show σ.1<ew ts.length σ.1 (σ.2||(cP ts σ.1).1 != tok)
  rw[b];have f:(cP ts σ.1).1=tok:=by
   cases g:σ.2<;>simp[g]at b
   exact b
  have a:σ.1+1<ts.length:=by
   by_cases a:σ.1+1<ts.length
   ·exact a
   ·exfalso
    have:=c.last σ.1 _ (f9 d) a;omega
  rw[qo a];omega
theorem qp{ts:List Tok}(a:cg ts){b:PS→ac×PS}(c:∀σ,σ.1≤(b σ).2.1)(d:∀σ:PS,σ.2=ur→(b σ).2.2=ur){σ:PS}(f:σ.1<ts.length):(dz ts b σ).2.2=ur∨σ.1<(dz ts b σ).2.1:=by
 unfold dz
 by_cases g:isM ts σ [iP]=ur
 ·rw[oE g];obtain⟨i,_,_⟩:=eZ a f g
  right
  have e:=fO ts (ae ts σ);have j:=bz ts (ey ts (ae ts σ)).2 bU;dsimp only;omega
 ·rw[oB g]
  by_cases e:isM ts σ [eS]=ur
  ·rw[oE e];obtain⟨i,_,_⟩:=eZ a f e
   right
   have j:=d6 ts (ae ts σ) 2 6;have k:=gZ (ts:=ts) c (ofM ts (ae ts σ) 2 6).2;have l:=bz ts (bV ts b (ofM ts (ae ts σ) 2 6).2).2 bU;dsimp only;omega
  ·rw[oB e];rcases EC a f (show 2≠7 by omega) 5 with h|h
   ·left
    exact eb (A7 d h) _
   ·right
    have k:=gZ (ts:=ts) c (ofM ts σ 2 5).2;have l:=bz ts (bV ts b (ofM ts σ 2 5).2).2 bU;dsimp only;omega
theorem rE{ts:List Tok}(a:cg ts){σ:PS}(d:σ.1<ts.length):(eJ ts σ).2.2=ur∨σ.1<(eJ ts σ).2.1:=by
 unfold eJ
 by_cases f:isM ts σ [fw]=ur
 ·rw[oE f];obtain⟨e,_,_⟩:=eZ a d f
  right
  have b:=d6 ts (ae ts σ) 2 8;have c:=gZ (ts:=ts) (fO ts) (ofM ts (ae ts σ) 2 8).2;have g:=bz ts (bV ts (ey ts) (ofM ts (ae ts σ) 2 8).2).2 bU;dsimp only;omega
 ·rw[oB f]
  by_cases h:isM ts σ [eK]=ur
  ·rw[oE h];obtain⟨e,_,_⟩:=eZ a d h
   right
   have b:=oP ts (ae ts σ);have g:=bz ts (fU ts (ae ts σ)).2 bU;dsimp only;omega
  ·rw[oB h]
   by_cases b:isM ts σ [kj]=ur
   ·rw[oE b];obtain⟨e,_,_⟩:=eZ a d b
    right
    have c:=rD (ts:=ts) (fO ts) (ae ts σ);have g:=bz ts (i4 ts (ey ts) (ae ts σ)).2 bU;dsimp only;omega
   ·rw[oB b];dsimp only
    by_cases c:isM ts σ [kw]=ur
    ·obtain⟨e,_,_⟩:=eZ a d c
     right
     have g:=bz ts (aI ts σ kw) bU;have i:(aI ts σ kw).1=σ.1+1:=by
      rw[←e,←o8 Prod.fst (show aF ts σ [kw]=ae ts σ by unfold aF;rw[oE c])];exact (jT ts σ [kw]).1.symm
     omega
    ·left
     refine eb ?_ _
     show (!isM ts σ [kw])=ur
     rw[Bool.eq_false_iff.2 c];rfl
def upTo(ts:List Tok) (one:PS→ac×PS) (stop:ByteArray):Nat→List ac→PS→List ac×PS
 | 0,ks,σ=>(ks,σ)
 | g+1,ks,σ=>if σ.2=ur then (ks,σ) else if isM ts σ [stop]=ur then (ks,σ) else upTo ts one stop g (ks++[(one σ).1]) (one σ).2
theorem xr{ts:List Tok}{one:PS→ac×PS}(a:∀σ,σ.1≤(one σ).2.1)(stop:ByteArray):∀(g:Nat) (ks:List ac) (σ:PS),σ.1≤(upTo ts one stop g ks σ).2.1:=by
 intro g
 induction g with
 | zero=>intro ks σ;exact Fy _
 | succ g b =>
  intro ks σ;unfold upTo
  split
  ·exact Fy _
  ·split
   ·exact Fy _
   ·exact FH (a σ) (b _ _)
def kZ:ByteArray:=⟨#[115,97,108,105,101,110,99,101]⟩
def tTo:ByteArray:=⟨#[61,62]⟩
def kB:ByteArray:=⟨#[123]⟩
def dc:ByteArray:=⟨#[125]⟩
def gV(ts:List Tok) (σ:PS):Int×PS:=
 if isM ts σ [kZ]=ur then
  if isM ts (ae ts σ) [a7]=ur then (-((fU ts (ae ts (ae ts σ))).1:Int),(fU ts (ae ts (ae ts σ))).2)
  else ((fU ts (ae ts σ)).1,(fU ts (ae ts σ)).2)
 else (0,σ)
theorem Et(ts:List Tok)(σ:PS):σ.1≤(gV ts σ).2.1:=by
 unfold gV;have a:=(eH ts σ).1
 split
 ·split
  ·exact FH a (FH (eH ts _).1 (oP ts _))
  ·exact FH a (oP ts _)
 ·exact Fy _
def dG(ts:List Tok) (a:Int) (σ:PS):ac×PS:=
 let nm:=ofM ts σ 2 4
 let b:=gV ts nm.2
 let cs:=upTo ts (dz ts (ec ts)) tTo (ts.length+1) [] (aI ts b.2 kB)
 let c:=upTo ts (eJ ts) dc (ts.length+1) cs.1 (aI ts cs.2 tTo)
 (.mk 4 nm.1.h b.1 a c.1,aI ts c.2 dc)
theorem qg(ts:List Tok)(a:Int)(σ:PS):σ.1≤(dG ts a σ).2.1:=by
 unfold dG;dsimp only;have c:=d6 ts σ 2 4;have d:=Et ts (ofM ts σ 2 4).2;have e:=bz ts (gV ts (ofM ts σ 2 4).2).2 kB;have f:=xr (ts:=ts) (pQ (ts:=ts) (jd ts)) tTo (ts.length+1) [] (aI ts (gV ts (ofM ts σ 2 4).2).2 kB);generalize upTo ts (dz ts (ec ts)) tTo (ts.length+1) [] (aI ts (gV ts (ofM ts σ 2 4).2).2 kB)=cs at *;have g:=bz ts cs.2 tTo;have h:=xr (ts:=ts) (rH ts) dc (ts.length+1) cs.1 (aI ts cs.2 tTo);generalize upTo ts (eJ ts) dc (ts.length+1) cs.1 (aI ts cs.2 tTo)=b at *;have i:=bz ts b.2 dc;omega
def dpM:Nat→ac→Option Int
 | 0,T=>A T.t
 | n+1,T=>T.z.findSome? (dpM n)
def EU(x:Option Int) (w:J) (e:Ending) (w':J):Prop:=e=Ending.returned (Value.tuple #[I U (x.getD 0),Value.bool x.isSome])∧Gl w w'
def Fo(b:J) (n m:Nat) (ks:List ac) (i:tT) (W:J):Prop:=∃(a:J) (k:Nat),a=W∧k≤m∧i=I U k∧Gl b a∧(ks.take k).findSome? (dpM n)=Y
theorem zN:∀(n:Nat) (a d:Nat) (T:ac) (u:tT) (B:Nat) (w:J),a+n=30→fi w B d T u→B≤w.heap.size→t8 d T.z→Calls Tryz.prog 94 #[u,I U a] w (EU (dpM n T) w):=by
 intro n
 induction n with
 | zero =>
  intro a d T u B w ha hu hB hs;obtain⟨_,s,rfl,C⟩:=hu;obtain⟨p,l,c,rfl⟩:=C.q;obtain rfl:a=30:=by omega
  have N:=EA w T (O p l c);have HB:=Hd ((Fz _ w).alloc (Fy _) (r9 #[I tF T.q,tS T.h,I U T.u,I U T.t,O p l c] 145));obtain⟨x0,x1,x2,x3,x4⟩:=cells5 (oA w (r9 #[I tF T.q,tS T.h,I U T.u,I U T.t,O p l c] 145));clear N
  go_enter Tryz.func94,Tryz.ntmps94
  go_wp2_with fail
  go_ret2
  exact⟨Z,HB.o⟩
 | succ n ih =>
  intro a d T u B w ha hu hB hs;obtain⟨_,s,rfl,C⟩:=hu;have a1:T.z.length≤20000:=by
   cases d with
   | zero=>rw[C.1];exact FR _
   | succ d=>exact hs.1
  have g:∀t∈T.z,t8 (d-1) t.z:=by
   cases d with
   | zero=>intro t hT;rw[C.1]at hT;cases hT
   | succ d=>intro t hT;exact (hs.2 t hT).z
  obtain⟨p,c,rfl,_,D⟩:=C.rows;have v:Hid (dpM (n+1) T=T.z.findSome? (dpM n)):=rfl;obtain⟨x,hx⟩:=zzy (dpM (n+1) T);rw[hx]at v ⊢;obtain⟨m,hm⟩:=zzy (T.z.length);rw[hm]at a1;obtain⟨P,E,Q,a6⟩:=zz4 hm D g ih;have bm:(a:Int)<30:=by omega
  have HA:Hid ((a+1)+n=30):=by show _=_;omega
  obtain⟨W0,z⟩:=zzx (w.alloc (r9 #[I tF T.q,tS T.h,I U T.u,I U T.t,O p T.z.length c] 145));have HX:Hid (W0.heap[w.heap.size]?=A (r9 #[I tF T.q,tS T.h,I U T.u,I U T.t,O p T.z.length c] 145 (0,0))):=by rw[z];exact oA w _
  have R:Hid (Gl w W0):=by rw[z];exact (Fz _ w).alloc (Fy _) _
  obtain⟨x0,x1,x2,x3,x4⟩:=cells5 (oA w (r9 #[I tF T.q,tS T.h,I U T.u,I U T.t,O p T.z.length c] 145));clear C hs g D ih hm hx ha;obtain⟨ks,H⟩:=zzy (T.z);rw[H]at v P E Q;have ba:=Hd H;clear H
  go_enter Tryz.func94,Tryz.ntmps94
  go_upto_region 3 with fail
  change xD _ _ _ _ (w.alloc (r9 #[I tF T.q,tS T.h,I U T.u,I U T.t,O p T.z.length c] 145));rw[←z];clear x0 x1 x2 x3 x4 z;obtain⟨y0,y1,y2,y3,y4⟩:=cells5 HX.o;rw[show T.z.length=m by rw[ba.o];exact P.o]at y4;go_wp2_with fail
  clear y0 y1 y2 y3 y4
  go_loopw [17] (Fo W0 n m ks) (fun i _=>m-(intOf i).toNat)
  case atStart=>exact⟨_,0,Z,FR _,Z,Fz _ _,Z⟩
  case round =>
   obtain⟨W1,k,rfl,C,rfl,hb,S⟩:=hrel;have bb:(0:Int)≤k:=by omega
   have f:=R.o.trans (hb.mono R.o.size);obtain⟨K,V,W⟩:=zz3 f S hb;clear S hb
   by_cases L:k<m
   ·obtain⟨t,ht⟩:∃t,ks[k]?=A t:=⟨ks[k]'(by rw[P.o];exact L),FD (by rw[P.o];exact L)⟩;have F:t∈ks:=FZ ht;obtain⟨hd,b,off,rfl,bd,G⟩:=E.o k t ht;obtain⟨p',l',c',d0,d1,d2,d3,d4,h⟩:=G.node (f.mono hB) bd;have bn:(k:Int)<m:=by omega
    have j:=Hd (a6.o (a+1) _ t _ B _ HA.o (h.D (FH hB f.size) (r9 #[I tF t.q,tS t.h,I U t.u,I U t.t,O p' l' c'] 145)) (by have:=f.size;rw[o5];omega) (Q.o t F));rw[Int.natCast_succ]at j;have X:=Hd ((Fz _ W1).alloc (Fy _) (r9 #[I tF t.q,tS t.h,I U t.u,I U t.t,O p' l' c'] 145))
    have r:=Hd (show (ks.take (k+1)).findSome? (dpM n)=(dpM n t) by
     rw[Gd,ht,List.findSome?_append,V.o]
     simp)
    have M:Hid (ks.findSome? (dpM n)=((ks.take (k+1)).findSome? (dpM n)).or ((ks.drop (k+1)).findSome? (dpM n))):=by
     show _=_
     conv=>lhs;rw[←List.take_append_drop (k+1) ks]
     rw[List.findSome?_append]
    generalize hy:dpM n t=y at *;clear h G F ht hd f hy;go_wp2_with fail
    refine j.o.mono ?_;rintro e W2 ⟨rfl,ad⟩;have af:=Hd (X.o.trans (ad.mono X.o.size));clear ad d0 d1 d2 d3 d4
    cases y with
    | none =>
     go_wp2_with fail
     exact⟨⟨_,k+1,Z,by omega,by go_num,W.o.trans (af.o.mono W.o.size),r.o⟩,by simp[intOf];omega⟩
    | some q =>
     have aq:x=A q:=by rw[v.o,M.o,r.o];rfl
     have bk:=Hd aq;clear aq;go_wp2_with fail
     go_ret2
     rw[bk.o];exact⟨Z,K.o.trans (af.o.mono K.o.size)⟩
   ·obtain rfl:k=m:=by omega
    have ar:x=none:=by rw[v.o,←V.o,←P.o,List.take_length]
    have bl:=Hd ar;clear C L bb ar f;go_wp2_with fail
    go_ret2
    rw[bl.o];exact⟨Z,K.o⟩
theorem sd{w X p c:J}{P L cap k k3:Nat}{bad q:Bool}{ts:List Tok}{f l d g7 a:Nat}{ks:List ac}{rows:List (List tT)}{Fs:Nat→Nat→Prop}{o S T c2 V:tT}{t:ac}{W N d2:Nat}{s2:tT}
  (hP:P<w.heap.size) (hL:L<w.heap.size) (ad:w.heap.size≤f) (u:f<l) (hX:l≤X.heap.size) (hT:ah w P L cap ts k bad X)
  (af:X.heap[f]?=A (r9 #[S,T,c2,V,o] 145 (0,0))) (G:X.ownsRow l 145 5 o ks.length rows.flatten) (v:cd X l d ks ks.length o.ownBlock rows Fs)
  (m:ah X P L cap ts k3 q p) (aq:p.heap[W]?=A (r9 (ai t s2).toArray 145 (0,0))) (ho:OwnAt p d2 t.z s2 (bC X.heap.size N)) (hf:Fits t) (ar:X.heap.size≤N) (bd:N≤W)
  (r:c.ownsRow l 145 5 (O (A ⟨g7,0,Y⟩) (ks.length+1) a) (ks.length+1) (rows.flatten++ai t s2)) (i:p.grownBy c o.ownBlock) (y:o.ownBlock=A g7∨g7=p.heap.size) :
  ∃d' j z,ah w P L cap ts k3 q (c.setCell ⟨f,4,Y⟩ (O (A ⟨g7,0,Y⟩) (ks.length+1) a))∧
   (∀b,b<l→b≠P→b≠f→(c.setCell ⟨f,4,Y⟩ (O (A ⟨g7,0,Y⟩) (ks.length+1) a)).heap[b]?=X.heap[b]?)∧
   (c.setCell ⟨f,4,Y⟩ (O (A ⟨g7,0,Y⟩) (ks.length+1) a)).heap[f]?=A (r9 #[S,T,c2,V,O (A ⟨g7,0,Y⟩) (ks.length+1) a] 145 (0,0))∧
   (c.setCell ⟨f,4,Y⟩ (O (A ⟨g7,0,Y⟩) (ks.length+1) a)).ownsRow l 145 5 (O (A ⟨g7,0,Y⟩) (ks.length+1) a) (ks++[t]).length j.flatten∧
   cd (c.setCell ⟨f,4,Y⟩ (O (A ⟨g7,0,Y⟩) (ks.length+1) a)) l d' (ks++[t]) (ks++[t]).length (A g7) j z∧c.heap[f]?=A (r9 #[S,T,c2,V,o] 145 (0,0)):=by
 have n:=aL G;have bk:=hT.1.size;have bl:=m.1.size;have bm:W<p.heap.size:=(Fx.1 aq).1;have bn:=i.size;have H:∀g,o.ownBlock=A g→w.heap.size≤g:=fun g hg=>by have:=(n g hg).1;omega
 have a1:=(hT.h m).grownO hP hL i H;have B:∀b,b<p.heap.size→o.ownBlock≠A b→c.heap[b]?=p.heap[b]?:=fun b E C=>i.block b E (fun e=>C e.symm)
 have a6:∀b,b<l→o.ownBlock≠A b:=fun b hb e=>by have:=(n b e).1;omega
 have e2:=ho.mores d;rw[Nat.add_comm d2 d]at e2;have K:∀b,b<l→b≠P→c.heap[b]?=X.heap[b]?:=fun b E C=>(B b (by omega) (a6 b E)).trans (m.1.block b (by omega) (fun e=>by injection e with e;exact C e))
 obtain⟨z,D⟩:=cd.nextT (W':=c) (N:=N) (own':=A g7) (t:=t) ((v.deeper d2).longer Z [t]) (by simp) hf
  (e2.t fun x o' F ba=>(B x (by have:=F.2;omega) (fun e=>by have:=(n x e).2;have:=F.1;omega)).trans ba) ar (by omega) (by omega) (by omega)
  (fun x E C M=>(B x (by omega) M).trans (m.1.block x C (fun e=>by injection e with e;omega))) (fun x F=>by
   injection F with F
   subst F;rcases y with h|h
   ·exact Or.inl ⟨h,by have:=(n _ h).2;omega⟩
   ·right;omega)
 obtain⟨Q,bb⟩:=zzx (O (A ⟨g7,0,Y⟩) (ks.length+1) a);rw[←bb]at r ⊢;have s:c.grownBy (c.setCell ⟨f,4,Y⟩ Q) (A f):=dO (o3 c _) _ _;have R:c.heap[f]?=A (r9 #[S,T,c2,V,o] 145 (0,0)):=(K f u (by omega)).trans af;refine⟨d+d2,rows++[ai t s2],z,a1.z hP hL ad 4 Q,?_,?_,?_,?_,R⟩
 ·exact fun b E C h3=>(FC _ _ _ b h3).trans (K b E C)
 ·rw[heap_set R 4 Q];rfl
 ·have:=dj r s u;rw[FT,Gi,List.flatten_append]
  simpa using this
 ·rw[FT,Gi];exact D.turn s u
