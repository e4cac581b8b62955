/- Parts of one proof, joined; conditions stand in each theorem. -/
import Derived.Test.YtmpekinjoeibbaaGreatDoorMW
open Bool renaming true→r5
open Go.Obj renaming cells→p8
open Go.Value renaming int→I,string→p9,slice→O,agg→s3,pointer→tv
open Go.IntKind renaming u8→J,i64→Y
open Option renaming none→V,some→A
open Go.Code renaming wp→wB
open Go.World renaming setCell→xD
open Go renaming World→p7,undef→tT,wpQuiet_nil→vk,Value→r3
namespace Go.Proofs.YtmpekinjoeibbaaGreatDoor
set_option maxHeartbeats 2000000
set_option maxRecDepth 100000
open Go.RowKit
def fu:ByteArray:=⟨#[97,115,115,101,114,116]⟩
def eP:ByteArray:=⟨#[114,101,116,114,97,99,116]⟩
def j4:ByteArray:=⟨#[115,97,121]⟩
def ke:ByteArray:=⟨#[104,97,108,116]⟩
def eO(ts:List Tok) (σ:PS):ah×PS:=
 if isM ts σ [fu]=r5 then (.mk 8 (ofM ts (al ts σ) 2 8).1.h 0 (atM ts σ) (cf ts (eD ts) (ofM ts (al ts σ) 2 8).2).1,aP ts (cf ts (eD ts) (ofM ts (al ts σ) 2 8).2).2 bX)
 else if isM ts σ [eP]=r5 then (.mk 9 ⟨#[]⟩ (fU ts (al ts σ)).1 (atM ts σ) [],aP ts (fU ts (al ts σ)).2 bX)
 else if isM ts σ [j4]=r5 then (.mk 10 ⟨#[]⟩ 0 (atM ts σ) (i6 ts (eD ts) (al ts σ)).1,aP ts (i6 ts (eD ts) (al ts σ)).2 bX)
 else (.mk 11 ⟨#[]⟩ 0 (atM ts σ) [],aP ts (aP ts σ ke) bX)
theorem qU(ts:List Tok)(σ:PS):σ.1≤(eO ts σ).2.1:=by
 unfold eO;have a:=(eK ts σ).1
 (repeat' split)
 ·exact EZ a (EZ (ed ts _ 2 8) (EZ (ic (fN ts) _) (bD ts _ _)))
 ·exact EZ a (EZ (nM ts _) (bD ts _ _))
 ·exact EZ a (EZ (qS (fN ts) _) (bD ts _ _))
 ·exact EZ (bD ts _ _) (bD ts _ _)
theorem qI{ts:List Tok}(a:cz ts):ji ts 173 (eD ts):=fun _σ _w _P _L _cap h=>sx a h
theorem C7{kind:Nat}{n:Nat}{pl:Int}{a:List ah}(b:kind<256)(c:n≤2147483647)(d:0≤pl)(e:pl≤16384):Fits (.mk kind ⟨#[]⟩ n pl a):=
 ⟨b,by show (0:Nat)≤maxLen;exact Fi _,by show (-9223372036854775808:Int)≤n;omega,by show (n:Int)<9223372036854775808;omega,by show (-9223372036854775808:Int)≤pl;omega,by show pl<9223372036854775808;omega⟩
theorem BG{ts:List Tok}(a6:cz ts):ji ts 102 (eO ts):=by
 intro σ w P L cap h;have b3:FS w (w.alloc (p8 bH 64)):=(EU _ w).alloc (ET _) _;obtain⟨HC,H0⟩:=zz2 (fP (h.C b3)) (h.b b3);have j:=h.lt.1;obtain⟨HL,HX,br,b4,ck⟩:=zz5 h.lt.2 (ot w (p8 bH 64)) a6 (fun σ w P L cap h=>mL a6 (enters_of Tryz.func173 (by kernel_rfl) Z) (qI a6) (fN ts) σ w P L cap h) (fun σ w P L cap h=>uK a6 (enters_of Tryz.func173 (by kernel_rfl) Z) (qI a6) (fN ts) σ w P L cap h);obtain⟨R,b5⟩:=zzy (eO ts σ);rw[b5];have v:=b5;unfold eO at v;obtain⟨at_,b6⟩:=zzy (atM ts σ);rw[b6]at HC v;have cl:=Hd v;have Q:Hid (0≤at_∧at_≤16384):=by
  show _∧_
  obtain⟨_,_,g3⟩:=cQ br.o σ.1;rw[←b6];unfold atM;omega
 clear h b3 a6 b5 v b6;generalize kdM ts σ=kd at HC;generalize txM ts σ=tx at HC
 go_enter Tryz.func102,Tryz.ntmps102
 go_wp2_with fail
 refine Ff HC.o ?_;rintro e w1 ⟨rfl,b7⟩;have c1:=jU kd tx at_ w1;obtain⟨c3,cp⟩:=zz2 (H0.o.b b7) (ag b7 HX.o (by simp));have x:w.heap.size<w1.heap.size:=(ES.1 cp.o).1;clear b7;obtain⟨wA,a7⟩:=zzx (w1.alloc (p8 #[I J 0,p9 ⟨#[]⟩,I Y 0,I Y at_,O V 0 0] 64));have c5:w1.heap.size<wA.heap.size:=by rw[a7];simp
 have c6:Hid (ax w P L cap ts σ.1 σ.2 wA):=by rw[a7];exact c3.o.y _
 have c7:Hid (wA.heap[w1.heap.size]?=A (p8 #[I J 0,p9 ⟨#[]⟩,I Y 0,I Y at_,O V 0 0] 64 (0,0))):=by rw[a7];exact ot w1 _
 have c8:Hid (wA.heap[w.heap.size]?=A (p8 bH 64 (0,0))):=by rw[a7];exact (FQ w1 _ _ x).trans cp.o
 go_upto_region 4 with fail
 change wB _ _ _ _ (w1.alloc (p8 #[I J 0,p9 ⟨#[]⟩,I Y 0,I Y at_,O V 0 0] 64));rw[←a7];clear c1 a7;obtain⟨D,S,T⟩:=zz3 (c6.o.y (p8 #[p9 fu] 9)) ((FQ wA (p8 #[p9 fu] 9) w1.heap.size c5).trans c7.o) ((FQ wA (p8 #[p9 fu] 9) w.heap.size (by omega)).trans c8.o);have U:=Hd (dA D.o.2 wA.heap.size 0 1 1 [fu] (bN [fu]) Z (by omega));go_wp2_with fail
 refine Ff U.o ?_;rintro e w2 ⟨rfl,ht⟩;obtain⟨bt,cq,bl⟩:=zz3 (D.o.h ht) (ht.q T.o j (ET _)) (ht.q S.o j (FB x));have c9:w1.heap.size<w2.heap.size:=(ES.1 bl.o).1;clear ht D S T U
 by_cases hm:isM ts σ [fu]=r5
 ·have v:=cl.o;rw[oA hm]at v;have k:aN ts σ [fu]=al ts σ:=by unfold aN;rw[oA hm]
  rw[k]at bt;have m:isM ts σ [fu]=true:=by simpa using hm
  rw[m];have bB:=Hd v;clear v k hm m;obtain⟨w3,a8⟩:=zzx ((w2.setCell ⟨w1.heap.size,0,V⟩ (I J 8)));have ev:w3.heap.size=w2.heap.size:=by rw[a8];simp[xD]
  have cr:w1.heap.size<w3.heap.size:=by omega
  have W:Hid (ax w P L cap ts (al ts σ).1 (al ts σ).2 w3):=by rw[a8];exact (bt.o.t j HL.o (by omega) 0 _)
  have bR:Hid (w3.heap[w.heap.size]?=A (p8 bH 64 (0,0))):=by rw[a8];exact ((EW _ _ _ _ (show w.heap.size≠w1.heap.size by omega)).trans cq.o)
  have ba:Hid (w3.heap[w1.heap.size]?=A (p8 #[I J 8,p9 ⟨#[]⟩,I Y 0,I Y at_,O V 0 0] 64 (0,0))):=by rw[a8];exact (heap_set bl.o 0 _)
  have f0:=ae bl.o 0;obtain⟨X,n1,n2,n3,n4⟩:=cells5 bl.o;have H3:=Hd a8;clear a8;go_upto_region 6 with fail
  change wB _ _ _ _ (w2.setCell ⟨w1.heap.size,0,V⟩ (I J 8));rw[←H3.o];clear X n1 n2 n3 n4 f0;have da:=Hd (i8 br.o W.o.2 8 (by omega));have b2:(ofM ts (al ts σ) 2 8).1.h.size≤16384:=(cQ br.o _).2.1;generalize ofM ts (al ts σ) 2 8=nm at *;have ct:=Hd b2;obtain⟨X,n1,n2,n3,n4⟩:=cells5 ba.o;clear b2;go_wp2_with fail
  refine Ff da.o ?_;rintro e w4 ⟨d,s,rfl,E,ho,hf⟩;obtain⟨K,bb,q⟩:=zz3 (W.o.h E) (E.q bR.o j (ET _)) (E.q ba.o j (FB x));have cu:w1.heap.size<w4.heap.size:=(ES.1 q.o).1;have dc:w3.heap.size≤w4.heap.size:=E.1.size;obtain⟨p,c,rfl⟩:=ho.b;have dd:=im nm.1.b nm.1.h nm.1.q nm.1.t nm.1.u.length p c w4;clear E ho hf X n1 n2 n3 n4;obtain⟨f,g⟩:=zzx ((w4.setCell ⟨w1.heap.size,1,V⟩ (p9 nm.1.h)));have cv:f.heap.size=w4.heap.size:=by rw[g];simp[xD]
  have b8:w1.heap.size<f.heap.size:=by omega
  have H:Hid (ax w P L cap ts nm.2.1 nm.2.2 f):=by rw[g];exact (K.o.t j HL.o (by omega) 1 _)
  have ad:Hid (f.heap[w.heap.size]?=A (p8 bH 64 (0,0))):=by rw[g];exact ((EW _ _ _ _ (show w.heap.size≠w1.heap.size by omega)).trans bb.o)
  have F:Hid (f.heap[w1.heap.size]?=A (p8 #[I J 8,p9 nm.1.h,I Y 0,I Y at_,O V 0 0] 64 (0,0))):=by rw[g];exact (heap_set q.o 1 _)
  have f1:=ae q.o 1;obtain⟨X,n1,n2,n3,n4⟩:=cells5 q.o;have H5:=Hd g;clear g;go_upto_region 7 with fail
  change wB _ _ _ _ (w4.setCell ⟨w1.heap.size,1,V⟩ (p9 nm.1.h));rw[←H5.o];clear X n1 n2 n3 n4 f1;clear dd;have b9:=Hd (b4.o nm.2 f P L cap H.o.2);generalize cf ts (eD ts) nm.2=l at *;go_wp2_with fail
  refine Ff b9.o ?_;rintro e u ⟨d2,s2,rfl,i,af⟩;obtain⟨M,y,z⟩:=zz3 (H.o.h i) (i.q ad.o j (ET _)) (i.q F.o j (FB x));have ca:w1.heap.size<u.heap.size:=(ES.1 z.o).1;have cx:f.heap.size≤u.heap.size:=i.1.size;obtain⟨p2,c2,rfl⟩:=af.b;have ak:=Hd af;clear i af;obtain⟨N,bc⟩:=zzx ((u.setCell ⟨w1.heap.size,4,V⟩ (O p2 l.1.length c2)));have dg:N.heap.size=u.heap.size:=by rw[bc];simp[xD]
  have cT:w1.heap.size<N.heap.size:=by omega
  have bd:Hid (ax w P L cap ts l.2.1 l.2.2 N):=by rw[bc];exact (M.o.t j HL.o (by omega) 4 _)
  have n:Hid (N.heap[w.heap.size]?=A (p8 bH 64 (0,0))):=by rw[bc];exact ((EW _ _ _ _ (show w.heap.size≠w1.heap.size by omega)).trans y.o)
  have aq:Hid (N.heap[w1.heap.size]?=A (p8 #[I J 8,p9 nm.1.h,I Y 0,I Y at_,O p2 l.1.length c2] 64 (0,0))):=by rw[bc];exact (heap_set z.o 4 _)
  have f4:=ae z.o 4;obtain⟨X,n1,n2,n3,n4⟩:=cells5 z.o;have H7:=Hd bc;clear bc;go_upto_region 12 with fail
  change wB _ _ _ _ (u.setCell ⟨w1.heap.size,4,V⟩ (O p2 l.1.length c2));rw[←H7.o];clear X n1 n2 n3 n4 f4;have bn:Hid (OwnAt N d2 l.1 (O p2 l.1.length c2) (bG f.heap.size N.heap.size)):=by rw[dg,H7.o];exact ak.o.t fun b o C hx=>(EW _ _ _ _ (show b≠w1.heap.size by have:=C.1;omega)).trans hx
  have HW:=Hd (cU bd.o.2 bX);go_wp2_with fail
  refine Ff HW.o ?_;rintro e w8 ⟨rfl,ar⟩;obtain⟨dr,av,cV⟩:=zz3 (bd.o.h ar) (ar.q n.o j (ET _)) (ar.q aq.o j (FB x));have e0:w1.heap.size<w8.heap.size:=(ES.1 cV.o).1;have e1:N.heap.size≤w8.heap.size:=ar.1.size;have ds:=Hd ((bn.o.t fun b o C hx=>bv ar.1 hx (by have:=C.1;omega)).N (G:=bG f.heap.size w8.heap.size) fun b C=>⟨C.1,EY C.2 ar.1.size⟩);obtain⟨X,n1,n2,n3,n4⟩:=cells5 cV.o;obtain⟨a0,a1,a2,a3,a4⟩:=cells5 av.o;have z0:=ae av.o 0;have z1:=ae av.o 1;have z2:=ae av.o 2;have z3:=ae av.o 3;have z4:=ae av.o 4;clear ar;go_wp2_with fail
  refine bp Tryz.results102 Z (aV av.o _ _ _ _ _) Z ?_;rw[←bB.o];exact aY.q (r:=(.mk 8 nm.1.h 0 at_ l.1,aP ts l.2 bX)) (B:=f.heap.size) j HL.o dr.o ds.o (fg (by omega) ct.o Q.o.1 Q.o.2) (ET _) (by omega) _ _ _ _ _
 ·have v:=cl.o;rw[ox hm]at v;have k:aN ts σ [fu]=σ:=by unfold aN;rw[ox hm]
  rw[k]at bt;have m:isM ts σ [fu]=false:=by simpa using hm
  rw[m];have bB:=Hd v;clear v k hm m;obtain⟨D,S,T⟩:=zz3 (bt.o.y (p8 #[p9 eP] 9)) ((FQ w2 (p8 #[p9 eP] 9) w1.heap.size c9).trans bl.o) ((FQ w2 (p8 #[p9 eP] 9) w.heap.size (by omega)).trans cq.o);have U:=Hd (dA D.o.2 w2.heap.size 0 1 1 [eP] (bN [eP]) Z (by omega));go_wp2_with fail
  refine Ff U.o ?_;rintro e w3 ⟨rfl,ht⟩;obtain⟨W,bR,ba⟩:=zz3 (D.o.h ht) (ht.q T.o j (ET _)) (ht.q S.o j (FB x));have cr:w1.heap.size<w3.heap.size:=(ES.1 ba.o).1;clear ht D S T U
  by_cases hm:isM ts σ [eP]=r5
  ·have v:=bB.o;rw[oA hm]at v;have k:aN ts σ [eP]=al ts σ:=by unfold aN;rw[oA hm]
   rw[k]at W;have m:isM ts σ [eP]=true:=by simpa using hm
   rw[m];have b1:=Hd v;clear v k hm m;have dv:=Hd (lk br.o W.o.2);have cW:=jh ts (al ts σ);generalize fU ts (al ts σ)=nu at *;have eg:=Hd cW;clear cW;go_wp2_with fail
   refine Ff dv.o ?_;rintro e w4 ⟨rfl,E⟩;obtain⟨K,bb,q⟩:=zz3 (W.o.h E) (E.q bR.o j (ET _)) (E.q ba.o j (FB x));have cu:w1.heap.size<w4.heap.size:=(ES.1 q.o).1;have dc:w3.heap.size≤w4.heap.size:=E.1.size;clear E;obtain⟨f,g⟩:=zzx (((w4.setCell ⟨w1.heap.size,0,V⟩ (I J 9)).setCell ⟨w1.heap.size,2,V⟩ (I Y nu.1)));have cv:f.heap.size=w4.heap.size:=by rw[g];simp[xD]
   have b8:w1.heap.size<f.heap.size:=by omega
   have H:Hid (ax w P L cap ts nu.2.1 nu.2.2 f):=by rw[g];exact ((K.o.t j HL.o (by omega) 0 _).t j HL.o (by omega) 2 _)
   have ad:Hid (f.heap[w.heap.size]?=A (p8 bH 64 (0,0))):=by rw[g];exact ((EW _ _ _ _ (show w.heap.size≠w1.heap.size by omega)).trans ((EW _ _ _ _ (show w.heap.size≠w1.heap.size by omega)).trans bb.o))
   have F:Hid (f.heap[w1.heap.size]?=A (p8 #[I J 9,p9 ⟨#[]⟩,I Y nu.1,I Y at_,O V 0 0] 64 (0,0))):=by rw[g];exact (heap_set (heap_set q.o 0 _) 2 _)
   have f0:=ae q.o 0;have f2:=ae q.o 2;obtain⟨X,n1,n2,n3,n4⟩:=cells5 q.o;have H5:=Hd g;clear g;go_upto_region 12 with fail
   change wB _ _ _ _ ((w4.setCell ⟨w1.heap.size,0,V⟩ (I J 9)).setCell ⟨w1.heap.size,2,V⟩ (I Y nu.1));rw[←H5.o];clear X n1 n2 n3 n4 f0 f2;have cb:Hid (OwnAt f 0 [] (O V 0 0) (bG f.heap.size f.heap.size)):=jH _ _;have HW:=Hd (cU H.o.2 bX);go_wp2_with fail
   refine Ff HW.o ?_;rintro e u ⟨rfl,i⟩;obtain⟨M,y,z⟩:=zz3 (H.o.h i) (i.q ad.o j (ET _)) (i.q F.o j (FB x));have ca:w1.heap.size<u.heap.size:=(ES.1 z.o).1;have cx:f.heap.size≤u.heap.size:=i.1.size;have ak:=Hd ((cb.o.t fun b o C hx=>bv i.1 hx (by have:=C.1;omega)).N (G:=bG f.heap.size u.heap.size) fun b C=>⟨C.1,EY C.2 i.1.size⟩);obtain⟨X,n1,n2,n3,n4⟩:=cells5 z.o;obtain⟨a0,a1,a2,a3,a4⟩:=cells5 y.o;have z0:=ae y.o 0;have z1:=ae y.o 1;have z2:=ae y.o 2;have z3:=ae y.o 3;have z4:=ae y.o 4;clear i;go_wp2_with fail
   refine bp Tryz.results102 Z (aV y.o _ _ _ _ _) Z ?_;rw[←b1.o];exact aY.q (r:=(.mk 9 ⟨#[]⟩ nu.1 at_ [],aP ts nu.2 bX)) (B:=f.heap.size) j HL.o M.o ak.o (C7 (by omega) eg.o Q.o.1 Q.o.2) (ET _) (by omega) _ _ _ _ _
  ·have v:=bB.o;rw[ox hm]at v;have k:aN ts σ [eP]=σ:=by unfold aN;rw[ox hm]
   rw[k]at W;have m:isM ts σ [eP]=false:=by simpa using hm
   rw[m];have b1:=Hd v;clear v k hm m;obtain⟨D,S,T⟩:=zz3 (W.o.y (p8 #[p9 j4] 9)) ((FQ w3 (p8 #[p9 j4] 9) w1.heap.size cr).trans ba.o) ((FQ w3 (p8 #[p9 j4] 9) w.heap.size (by omega)).trans bR.o);have U:=Hd (dA D.o.2 w3.heap.size 0 1 1 [j4] (bN [j4]) Z (by omega));go_wp2_with fail
   refine Ff U.o ?_;rintro e w4 ⟨rfl,ht⟩;obtain⟨K,bb,q⟩:=zz3 (D.o.h ht) (ht.q T.o j (ET _)) (ht.q S.o j (FB x));have cu:w1.heap.size<w4.heap.size:=(ES.1 q.o).1;clear ht D S T U
   by_cases hm:isM ts σ [j4]=r5
   ·have v:=b1.o;rw[oA hm]at v;have k:aN ts σ [j4]=al ts σ:=by unfold aN;rw[oA hm]
    rw[k]at K;have m:isM ts σ [j4]=true:=by simpa using hm
    rw[m];have ch:=Hd v;clear v k hm m;have b9:=Hd (ck.o (al ts σ) w4 P L cap K.o.2);generalize i6 ts (eD ts) (al ts σ)=l at *;go_wp2_with fail
    refine Ff b9.o ?_;rintro e f ⟨d2,s2,rfl,bq,af⟩;obtain⟨H,ad,F⟩:=zz3 (K.o.h bq) (bq.q bb.o j (ET _)) (bq.q q.o j (FB x));have b8:w1.heap.size<f.heap.size:=(ES.1 F.o).1;have e2:w4.heap.size≤f.heap.size:=bq.1.size;obtain⟨p2,c2,rfl⟩:=af.b;have cb:=Hd af;clear bq af;obtain⟨u,bk⟩:=zzx (((f.setCell ⟨w1.heap.size,0,V⟩ (I J 10)).setCell ⟨w1.heap.size,4,V⟩ (O p2 l.1.length c2)));have en:u.heap.size=f.heap.size:=by rw[bk];simp[xD]
    have ca:w1.heap.size<u.heap.size:=by omega
    have M:Hid (ax w P L cap ts l.2.1 l.2.2 u):=by rw[bk];exact ((H.o.t j HL.o (by omega) 0 _).t j HL.o (by omega) 4 _)
    have y:Hid (u.heap[w.heap.size]?=A (p8 bH 64 (0,0))):=by rw[bk];exact ((EW _ _ _ _ (show w.heap.size≠w1.heap.size by omega)).trans ((EW _ _ _ _ (show w.heap.size≠w1.heap.size by omega)).trans ad.o))
    have z:Hid (u.heap[w1.heap.size]?=A (p8 #[I J 10,p9 ⟨#[]⟩,I Y 0,I Y at_,O p2 l.1.length c2] 64 (0,0))):=by rw[bk];exact (heap_set (heap_set F.o 0 _) 4 _)
    have f0:=ae F.o 0;have f4:=ae F.o 4;obtain⟨X,n1,n2,n3,n4⟩:=cells5 F.o;have H6:=Hd bk;clear bk;go_upto_region 12 with fail
    change wB _ _ _ _ ((f.setCell ⟨w1.heap.size,0,V⟩ (I J 10)).setCell ⟨w1.heap.size,4,V⟩ (O p2 l.1.length c2));rw[←H6.o];clear X n1 n2 n3 n4 f0 f4;have ak:Hid (OwnAt u d2 l.1 (O p2 l.1.length c2) (bG w4.heap.size u.heap.size)):=by rw[en,H6.o];exact cb.o.t fun b o C hx=>(EW _ _ _ _ (show b≠w1.heap.size by have:=C.1;omega)).trans ((EW _ _ _ _ (show b≠w1.heap.size by have:=C.1;omega)).trans hx)
    have HW:=Hd (cU M.o.2 bX);go_wp2_with fail
    refine Ff HW.o ?_;rintro e N ⟨rfl,t⟩;obtain⟨bd,n,aq⟩:=zz3 (M.o.h t) (t.q y.o j (ET _)) (t.q z.o j (FB x));have cT:w1.heap.size<N.heap.size:=(ES.1 aq.o).1;have eo:u.heap.size≤N.heap.size:=t.1.size;have bn:=Hd ((ak.o.t fun b o C hx=>bv t.1 hx (by have:=C.1;omega)).N (G:=bG w4.heap.size N.heap.size) fun b C=>⟨C.1,EY C.2 t.1.size⟩);obtain⟨X,n1,n2,n3,n4⟩:=cells5 aq.o;obtain⟨a0,a1,a2,a3,a4⟩:=cells5 n.o;have z0:=ae n.o 0;have z1:=ae n.o 1;have z2:=ae n.o 2;have z3:=ae n.o 3;have z4:=ae n.o 4;clear t;go_wp2_with fail
    refine bp Tryz.results102 Z (aV n.o _ _ _ _ _) Z ?_;rw[←ch.o];exact aY.q (r:=(.mk 10 ⟨#[]⟩ 0 at_ l.1,aP ts l.2 bX)) (B:=w4.heap.size) j HL.o bd.o bn.o (fg (by omega) (by show (0:Nat)≤16384;omega) Q.o.1 Q.o.2) (ET _) (by omega) _ _ _ _ _
   ·have v:=b1.o;rw[ox hm]at v;have k:aN ts σ [j4]=σ:=by unfold aN;rw[ox hm]
    rw[k]at K;have m:isM ts σ [j4]=false:=by simpa using hm
    rw[m];have ch:=Hd v;clear v k hm m;obtain⟨f,g⟩:=zzx ((w4.setCell ⟨w1.heap.size,0,V⟩ (I J 11)));have cv:f.heap.size=w4.heap.size:=by rw[g];simp[xD]
    have b8:w1.heap.size<f.heap.size:=by omega
    have H:Hid (ax w P L cap ts σ.1 σ.2 f):=by rw[g];exact (K.o.t j HL.o (by omega) 0 _)
    have ad:Hid (f.heap[w.heap.size]?=A (p8 bH 64 (0,0))):=by rw[g];exact ((EW _ _ _ _ (show w.heap.size≠w1.heap.size by omega)).trans bb.o)
    have F:Hid (f.heap[w1.heap.size]?=A (p8 #[I J 11,p9 ⟨#[]⟩,I Y 0,I Y at_,O V 0 0] 64 (0,0))):=by rw[g];exact (heap_set q.o 0 _)
    have f0:=ae q.o 0;obtain⟨X,n1,n2,n3,n4⟩:=cells5 q.o;have H5:=Hd g;clear g;go_upto_region 3 with fail
    change wB _ _ _ _ (w4.setCell ⟨w1.heap.size,0,V⟩ (I J 11));rw[←H5.o];clear X n1 n2 n3 n4 f0;have er:=Hd (cU H.o.2 ke);generalize aP ts σ ke=et at *;go_wp2_with fail
    refine Ff er.o ?_;rintro e u ⟨rfl,i⟩;obtain⟨M,y,z⟩:=zz3 (H.o.h i) (i.q ad.o j (ET _)) (i.q F.o j (FB x));have ca:w1.heap.size<u.heap.size:=(ES.1 z.o).1;have cx:f.heap.size≤u.heap.size:=i.1.size;clear i;have ak:Hid (OwnAt u 0 [] (O V 0 0) (bG u.heap.size u.heap.size)):=jH _ _;have HW:=Hd (cU M.o.2 bX);go_wp2_with fail
    refine Ff HW.o ?_;rintro e N ⟨rfl,t⟩;obtain⟨bd,n,aq⟩:=zz3 (M.o.h t) (t.q y.o j (ET _)) (t.q z.o j (FB x));have cT:w1.heap.size<N.heap.size:=(ES.1 aq.o).1;have eo:u.heap.size≤N.heap.size:=t.1.size;have bn:=Hd ((ak.o.t fun b o C hx=>bv t.1 hx (by have:=C.1;omega)).N (G:=bG u.heap.size N.heap.size) fun b C=>⟨C.1,EY C.2 t.1.size⟩);obtain⟨X,n1,n2,n3,n4⟩:=cells5 aq.o;obtain⟨a0,a1,a2,a3,a4⟩:=cells5 n.o;have z0:=ae n.o 0;have z1:=ae n.o 1;have z2:=ae n.o 2;have z3:=ae n.o 3;have z4:=ae n.o 4;clear t;go_wp2_with fail
    refine bp Tryz.results102 Z (aV n.o _ _ _ _ _) Z ?_;rw[←ch.o];exact aY.q (r:=(.mk 11 ⟨#[]⟩ 0 at_ [],aP ts et bX)) (B:=u.heap.size) j HL.o bd.o bn.o (fg (by omega) (by show (0:Nat)≤16384;omega) Q.o.1 Q.o.2) (ET _) (by omega) _ _ _ _ _
def kA:ByteArray:=⟨#[95]⟩
def ei(ts:List Tok) (σ:PS):ah×PS:=
 if isM ts σ [kA]=r5 then (.mk 12 ⟨#[]⟩ 0 (atM ts σ) [],al ts σ)
 else if isM ts σ [bg]=r5 then (.mk 14 (bg++txM ts (al ts σ)) 0 (atM ts σ) [],(ofM ts (al ts σ) 4 14).2)
 else if kdM ts σ=5 then ofM ts σ 5 15
 else if kdM ts σ=3 then ofM ts σ 3 13
 else ofM ts σ 4 14
theorem jd(ts:List Tok)(σ:PS):σ.1≤(ei ts σ).2.1:=by
 unfold ei;have a:=(eK ts σ).1
 (repeat' split)
 ·exact a
 ·exact EZ a (ed ts _ 4 14)
 ·exact ed _ _ _ _
 ·exact ed _ _ _ _
 ·exact ed _ _ _ _
theorem Am{kind:Nat}{tx:ByteArray}{pl:Int}{a:List ah}(b:kind<256)(c:tx.size≤16385)(d:0≤pl)(e:pl≤16384):Fits (.mk kind tx 0 pl a):=
 ⟨b,by show tx.size≤maxLen;unfold maxLen;omega,by show (-9223372036854775808:Int)≤0;omega,by show (0:Int)<9223372036854775808;omega,by show (-9223372036854775808:Int)≤pl;omega,by show pl<9223372036854775808;omega⟩
theorem Cw{ts:List Tok}(cl:cz ts):ji ts 174 (ei ts):=by
 intro σ w P L cap h;have bR:FS w (w.alloc (p8 bH 64)):=(EU _ w).alloc (ET _) _;obtain⟨HC,H0⟩:=zz2 (fP (h.C bR)) (h.b bR);have C:=h.lt.1;obtain⟨HL,HX,D⟩:=zz3 h.lt.2 (ot w (p8 bH 64)) cl;obtain⟨R,b1⟩:=zzy (ei ts σ);rw[b1];have j:=b1.symm;unfold ei at j;obtain⟨kd,cp⟩:=zzy (kdM ts σ);obtain⟨at_,b2⟩:=zzy (atM ts σ);rw[cp,b2]at HC j;have cq:=Hd j;have bc:Hid (0≤at_∧at_≤16384):=by
  show _∧_
  obtain⟨_,_,g3⟩:=cQ D.o σ.1;rw[←b2];unfold atM;omega
 clear h bR cl b1 j b2 cp;generalize txM ts σ=tx at HC
 go_enter Tryz.func174,Tryz.ntmps174
 go_wp2_with fail
 refine Ff HC.o ?_;rintro e w1 ⟨rfl,b3⟩;obtain⟨c7,cr⟩:=zz2 (H0.o.b b3) (ag b3 HX.o (by simp));have N:w.heap.size<w1.heap.size:=(ES.1 cr.o).1;clear b3;obtain⟨wA,Q⟩:=zzx (w1.alloc (p8 #[I J kd,p9 tx,I Y at_] 89));have c8:w1.heap.size<wA.heap.size:=by rw[Q];simp
 have c9:Hid (ax w P L cap ts σ.1 σ.2 wA):=by rw[Q];exact c7.o.y _
 have da:Hid (wA.heap[w1.heap.size]?=A (p8 #[I J kd,p9 tx,I Y at_] 89 (0,0))):=by rw[Q];exact ot w1 _
 have dc:Hid (wA.heap[w.heap.size]?=A (p8 bH 64 (0,0))):=by rw[Q];exact (FQ w1 _ _ N).trans cr.o
 go_upto_region 2 with fail
 change wB _ _ _ _ (w1.alloc (p8 #[I J kd,p9 tx,I Y at_] 89));rw[←Q];clear Q;obtain⟨E,ad,af⟩:=zz3 (c9.o.y (p8 #[p9 kA] 9)) ((FQ wA (p8 #[p9 kA] 9) w1.heap.size c8).trans da.o) ((FQ wA (p8 #[p9 kA] 9) w.heap.size (by omega)).trans dc.o);have ak:=Hd (dA E.o.2 wA.heap.size 0 1 1 [kA] (bN [kA]) Z (by omega));go_wp2_with fail
 refine Ff ak.o ?_;rintro e w2 ⟨rfl,ht⟩;obtain⟨bd,z,b4⟩:=zz3 (E.o.h ht) (ht.q af.o C (ET _)) (ht.q ad.o C (FB N));have dd:w1.heap.size<w2.heap.size:=(ES.1 b4.o).1;clear ht E ad af ak
 by_cases hm:isM ts σ [kA]=r5
 ·have j:=cq.o;rw[oA hm]at j;have q:aN ts σ [kA]=al ts σ:=by unfold aN;rw[oA hm]
  rw[q]at bd;have t:isM ts σ [kA]=true:=by simpa using hm
  rw[t];have aq:=Hd j;clear j q hm t;have e7:=aq;obtain⟨m0,m1,m2,_,_,_⟩:=cells3 b4.o;obtain⟨a0,a1,a2,a3,a4⟩:=cells5 z.o;have z0:=ae z.o 0;have z1:=ae z.o 1;have z2:=ae z.o 2;have z3:=ae z.o 3;have z4:=ae z.o 4;go_wp2_with fail
  refine bp Tryz.results174 Z (aV z.o _ _ _ _ _) Z ?_;rw[aq.o];exact aY.q (r:=(.mk 12 ⟨#[]⟩ 0 at_ [],al ts σ)) (B:=w1.heap.size) C HL.o bd.o (jH _ _) (fg (by omega) (by show (0:Nat)≤16384;omega) bc.o.1 bc.o.2) (ET _) N _ _ _ _ _
 ·have j:=cq.o;rw[ox hm]at j;have q:aN ts σ [kA]=σ:=by unfold aN;rw[ox hm]
  rw[q]at bd;have t:isM ts σ [kA]=false:=by simpa using hm
  rw[t];have aq:=Hd j;clear j q hm t;obtain⟨E,ad,af⟩:=zz3 (bd.o.y (p8 #[p9 bg] 9)) ((FQ w2 (p8 #[p9 bg] 9) w1.heap.size dd).trans b4.o) ((FQ w2 (p8 #[p9 bg] 9) w.heap.size (by omega)).trans z.o);have ak:=Hd (dA E.o.2 w2.heap.size 0 1 1 [bg] (bN [bg]) Z (by omega));go_wp2_with fail
  refine Ff ak.o ?_;rintro e g ⟨rfl,ht⟩;obtain⟨u,F,bk⟩:=zz3 (E.o.h ht) (ht.q af.o C (ET _)) (ht.q ad.o C (FB N));have fe:w1.heap.size<g.heap.size:=(ES.1 bk.o).1;clear ht E ad af ak
  by_cases hm:isM ts σ [bg]=r5
  ·have j:=aq.o;rw[oA hm]at j;have q:aN ts σ [bg]=al ts σ:=by unfold aN;rw[oA hm]
   rw[q]at u;have t:isM ts σ [bg]=true:=by simpa using hm
   rw[t];have bl:=Hd j;clear j q hm t;have HO:=Hd (xM u.o.2 (gd u.o.2.k) 4 14);have dg:=cQ D.o (al ts σ).1;have ct:R=(.mk 14 (bg++(cX ts (al ts σ).1).2.1) 0 at_ [],(eC ts.length (al ts σ).1 ((al ts σ).2||(cX ts (al ts σ).1).1 != 4),((al ts σ).2||(cX ts (al ts σ).1).1 != 4))):=bl.o;generalize eC ts.length (al ts σ).1 ((al ts σ).2||(cX ts (al ts σ).1).1 != 4)=kn at *;generalize ((al ts σ).2||(cX ts (al ts σ).1).1 != 4)=bn at *;obtain⟨_,cu,dr⟩:=dg;generalize (cX ts (al ts σ).1).2.1=m at *;generalize (cX ts (al ts σ).1).2.2=bq at *;obtain⟨b5,ds⟩:=zz2 cu ct;clear bl cu dr ct;go_wp2_with fail
   refine Ff HO.o ?_;rintro e w4 ⟨rfl,f⟩;have b6:=Hd (u.o.h f);have cv:=f.q F.o C (ET _);have b7:=f.q bk.o C (FB N);have fm:w1.heap.size<w4.heap.size:=(ES.1 b7).1;obtain⟨y,br⟩:=zzx (w4.alloc (p8 #[I J 14,p9 m,I Y 0,I Y bq,O V 0 0] 64));have bt:FS w4 y:=by rw[br];exact (EU _ w4).alloc (ET _) _
   obtain⟨S,dv,cx⟩:=zz3 (b6.o.b bt) (ag bt cv (by omega)) (ag bt b7 (by omega));have bB:Hid (y.heap[w4.heap.size]?=A (p8 #[I J 14,p9 m,I Y 0,I Y bq,O V 0 0] 64 (0,0))):=by show _=_;rw[br];exact ot w4 _
   have fp:w4.heap.size<y.heap.size:=(ES.1 bB.o).1;clear f cv b7 bt;go_upto_region 6 with fail
   change wB _ _ _ _ (w4.alloc (p8 #[I J 14,p9 m,I Y 0,I Y bq,O V 0 0] 64));rw[←br];clear br;obtain⟨m0,m1,m2,_,_,_⟩:=cells3 cx.o;obtain⟨e0,e1,e2,e3,e4⟩:=cells5 bB.o;have cT:=ae bB.o 1;have eg:w1.heap.size≠w4.heap.size:=by omega
   obtain⟨X,T⟩:=zzx (y.drew.setCell ⟨w4.heap.size,1,V⟩ (p9 (bg++m)));have cV:X.cell? ⟨w1.heap.size,2,V⟩=A (I Y at_):=by
    rw[T];exact FR _ _ _ _ _ _ ((EW _ _ _ _ eg).trans cx.o)
   have M2:=fun x:RE.Two y.drew X=>RE.Two.b (show y.drew.cell? _=_ from m2) cV x
   have E1:=fun x:RE.Two y.drew y.drew=>RE.Two.b (show y.drew.cell? _=_ from e1) (show y.drew.cell? _=_ from e1) x
   have cW:X.heap[w4.heap.size]?=A (p8 #[I J 14,p9 (bg++m),I Y 0,I Y bq,O V 0 0] 64 (0,0)):=by
    rw[T];exact heap_set (show y.drew.heap[w4.heap.size]?=_ from bB.o) 1 _
   have c1:X.heap[w.heap.size]?=A (p8 bH 64 (0,0)):=by
    rw[T];exact (EW _ _ _ _ (show w.heap.size≠w4.heap.size by omega)).trans dv.o
   have c3:ax w P L cap ts kn bn X:=by
    rw[T];exact ax.t ⟨o1 S.o.1 (grown_drewN (oT y _) 1),S.o.2.drew⟩ C HL.o (by omega) 1 _
   obtain⟨c5,G,en,H6⟩:=zz4 cW c1 c3 T;have H:y.drew.cell? ⟨w4.heap.size,1,V⟩=A (p9 m):=e1;have eo:y.drew.frozen? ⟨w4.heap.size,1,V⟩=false:=cT;have c6:∀W:p7,(Op.stringOp .add ⟨#[45]⟩ m).run Tryz.prog W=.ok (p9 (bg++m)) W:=fun W=>run_string_add W _ _ (by show ((1:Nat):Int)≤8388608;omega) (by have:=b5.o;omega)
   have er:(m.size:Int)≤8388608:=by have:=b5.o;omega
   have et:((⟨#[45]⟩:ByteArray).size:Int)≤8388608:=by show ((1:Nat):Int)≤8388608;omega
   clear m0 m1 m2 e0 e1 e2 e3 e4 cT cV cW c1 c3 T;refine RE.t (by kernel_rfl) 7 [6] [6] (fun s W=>if s=0 then W=y.drew else W=X) (fun _ _=>True) (fun _ _=>tT) (fun _ _ _=>True) (by kernel_rfl) (fun i h1 h2=>by rw[h1]at h2;cases h2) (fun _ _ _ _ _ _ _=>trivial) Z ?_;simp only[Fg,Fu,Fh,Ft,FC,List.length_nil,Nat.reduceAdd]
   repeat (first
    | (refine RE.h (fun W=>∃x:RE.Two y.drew X,W=x.1) RE.y Z Z Z Z ?_;go_big_quiet_step (fail);refine vk ?_)
    | (refine RE.h (fun W=>∃x:RE.Two y.drew y.drew,W=x.1) (RE.one_class (by kernel_rfl)) Z Z Z Z ?_;go_big_quiet_step (fail);refine vk ?_))
   refine RE.b Z Z ?_ (fun xs=>?_)
   ·intro W hC U _;obtain rfl:W=y.drew:=U Z;refine RE.Upon.told (v:=tT) (w':=y.drew.setCell ⟨w4.heap.size,1,V⟩ (p9 (bg++m))) ?_ ⟨[],Z,H6.o.symm,trivial,trivial⟩;unfold RE.Upon
    go_simp
    try exact⟨rfl,rfl⟩
   simp only[Act.put];refine RE.q ?_;intro W U _;obtain rfl:X=W:=(show W=X from U).symm;clear M2 E1 H eo H6 c6 er et;obtain⟨e0,e1,e2,e3,e4⟩:=cells5 c5.o;have fr:=ae c5.o 3;obtain⟨a0,a1,a2,a3,a4⟩:=cells5 G.o;have z0:=ae G.o 0;have z1:=ae G.o 1;have z2:=ae G.o 2;have z3:=ae G.o 3;have z4:=ae G.o 4;have ev:=Hd ((EW X ⟨w4.heap.size,3,V⟩ (I Y at_) _ (show w.heap.size≠w4.heap.size by omega)).trans G.o);have e5:=Hd (en.o.t C HL.o (b:=w4.heap.size) (by omega) 3 (I Y at_));have b8:Hid ((bg++m).size≤16385):=by
    show _≤_
    rw[ByteArray.size_append,show bg.size=1 from rfl];have:=b5.o;omega
   generalize bg++m=tl at *;go_wp2_with fail
   refine bp Tryz.results174 Z (aV ev.o _ _ _ _ _) Z ?_;rw[ds.o];exact aY.q (r:=(.mk 14 tl 0 at_ [],(kn,bn))) (B:=w1.heap.size) C HL.o e5.o (jH _ _) (Am (by omega) b8.o bc.o.1 bc.o.2) (ET _) N _ _ _ _ _
  ·have j:=aq.o;rw[ox hm]at j;have q:aN ts σ [bg]=σ:=by unfold aN;rw[ox hm]
   rw[q]at u;have t:isM ts σ [bg]=false:=by simpa using hm
   rw[t];have bl:=Hd j;clear j q hm t;have j:=bl.o;have b9:=bk;clear bk
   by_cases ca:kd=5
   ·subst ca;rw[oA Z]at j;subst j;have f:=u.o;have ar:=Hd (jK D.o (w:=g.drew) f.2.drew 5 15 (by omega));obtain⟨c0,_,_,_,_,_⟩:=cells3 b9.o;have av:w1.heap.size≠P:=by omega
    have C0:=fun x:RE.Gr g P=>x.b c0 av
    have cb:P<g.heap.size:=f.2.lt.1;have H:∀(n s:Nat) (W:p7),s≤n→(if s=0 then W=g.drew else ax g P L cap ts (ofM ts σ 5 15).2.1 (ofM ts σ 5 15).2.2 W)→∃x:RE.Gr g P,W=x.1:=fun n s W _ h=>by
     split at h
     ·exact⟨⟨W,by rw[h];exact grown_drewN (oT g _) 1⟩,Z⟩
     ·exact⟨⟨W,h.1⟩,Z⟩
    have ch:=Hd H;have a6:=Hd (kB D.o σ 5 15 (by omega));have a7:(ofM ts σ 5 15).1.u=[]:=rfl;have e6:=Hd a7;generalize ofM ts σ 5 15=r at *;clear H f a7;go_wp2_with fail
    clear c0;refine RE.t (by kernel_rfl) 6 [5] [5] (fun s W=>if s=0 then W=g.drew else ax g P L cap ts r.2.1 r.2.2 W) (fun W W'=>W.grownBy W' (A P))
     (fun i xs=>s3 #[I J r.1.b,p9 r.1.h,I Y r.1.q,I Y r.1.t,xs.getD 0 tT])
     (fun i W xs=>fK g.heap.size r.1 W xs) (by kernel_rfl) (fun i h1 h2=>by rw[h1]at h2;cases h2) (fun k W W' xs h _ hg=>h.N cb hg) Z ?_
    simp only[Fg,Fu,Fh,Ft,FC,List.length_nil,Nat.reduceAdd]
    repeat (refine RE.h (fun W=>∃x:RE.Gr g P,W=x.1) (ch.o _) Z Z Z Z ?_;go_big_quiet_step (fail);refine vk ?_)
    refine RE.b Z Z ?_ (fun a8=>?_)
    ·intro W _ U _;obtain rfl:W=g.drew:=U Z;refine RE.u 98 _ _ Z (enters_of Tryz.func98 (by kernel_rfl) Z) #[tv (A ⟨P,0,V⟩),I J 5,I J 15] (by simp[Act.eval]) (ar.o.mono ?_);rintro e W' ⟨d,s,rfl,hT,K,hf⟩;exact⟨_,Z,[s],Z,hT.u,hT.1,⟨d,s,Z,K,hf⟩⟩
    simp only[Act.put,EV,Fe,Fc];refine RE.q ?_;intro W4 U hE;have M:ax g P L cap ts r.2.1 r.2.2 W4:=U;obtain⟨d,s,rfl,K,hf⟩:=(show fK g.heap.size r.1 W4 a8 from hE 5 a8 Z);obtain⟨p,c,rfl⟩:=K.b;obtain⟨HO,S⟩:=zz2 K (u.o.h M);have l:=M.q F.o C (ET _);have ba:=Hd l;obtain⟨a0,a1,a2,a3,a4⟩:=cells5 l;have z0:=ae l 0;have z1:=ae l 1;have z2:=ae l 2;have z3:=ae l 3;have z4:=ae l 4;have bb:w.heap.size<g.heap.size:=(ES.1 F.o).1;clear C0 hE U K M l hf;go_wp2_with fail
    refine bp Tryz.results174 Z (aV ba.o _ _ _ _ _) Z ?_;exact aY.q C HL.o S.o HO.o a6.o (ET _) bb _ _ _ _ _
   rw[ox ca]at j;have e8:((kd:Int)==5)=false:=by simp;omega
   by_cases ck:kd=3
   ·subst ck;rw[oA Z]at j;subst j;have f:=u.o;have ar:=Hd (jK D.o (w:=g.drew) f.2.drew 3 13 (by omega));obtain⟨c0,_,_,_,_,_⟩:=cells3 b9.o;have av:w1.heap.size≠P:=by omega
    have C0:=fun x:RE.Gr g P=>x.b c0 av
    have cb:P<g.heap.size:=f.2.lt.1;have H:∀(n s:Nat) (W:p7),s≤n→(if s=0 then W=g.drew else ax g P L cap ts (ofM ts σ 3 13).2.1 (ofM ts σ 3 13).2.2 W)→∃x:RE.Gr g P,W=x.1:=fun n s W _ h=>by
     split at h
     ·exact⟨⟨W,by rw[h];exact grown_drewN (oT g _) 1⟩,Z⟩
     ·exact⟨⟨W,h.1⟩,Z⟩
    have ch:=Hd H;have a6:=Hd (kB D.o σ 3 13 (by omega));have a7:(ofM ts σ 3 13).1.u=[]:=rfl;have e6:=Hd a7;generalize ofM ts σ 3 13=r at *;clear H f a7;go_wp2_with fail
    clear c0;refine RE.t (by kernel_rfl) 6 [5] [5] (fun s W=>if s=0 then W=g.drew else ax g P L cap ts r.2.1 r.2.2 W) (fun W W'=>W.grownBy W' (A P))
     (fun i xs=>s3 #[I J r.1.b,p9 r.1.h,I Y r.1.q,I Y r.1.t,xs.getD 0 tT])
     (fun i W xs=>fK g.heap.size r.1 W xs) (by kernel_rfl) (fun i h1 h2=>by rw[h1]at h2;cases h2) (fun k W W' xs h _ hg=>h.N cb hg) Z ?_
    simp only[Fg,Fu,Fh,Ft,FC,List.length_nil,Nat.reduceAdd]
    repeat (refine RE.h (fun W=>∃x:RE.Gr g P,W=x.1) (ch.o _) Z Z Z Z ?_;go_big_quiet_step (fail);refine vk ?_)
    refine RE.b Z Z ?_ (fun a8=>?_)
    ·intro W _ U _;obtain rfl:W=g.drew:=U Z;refine RE.u 98 _ _ Z (enters_of Tryz.func98 (by kernel_rfl) Z) #[tv (A ⟨P,0,V⟩),I J 3,I J 13] (by simp[Act.eval]) (ar.o.mono ?_);rintro e W' ⟨d,s,rfl,hT,K,hf⟩;exact⟨_,Z,[s],Z,hT.u,hT.1,⟨d,s,Z,K,hf⟩⟩
    simp only[Act.put,EV,Fe,Fc];refine RE.q ?_;intro W4 U hE;have M:ax g P L cap ts r.2.1 r.2.2 W4:=U;obtain⟨d,s,rfl,K,hf⟩:=(show fK g.heap.size r.1 W4 a8 from hE 5 a8 Z);obtain⟨p,c,rfl⟩:=K.b;obtain⟨HO,S⟩:=zz2 K (u.o.h M);have l:=M.q F.o C (ET _);have ba:=Hd l;obtain⟨a0,a1,a2,a3,a4⟩:=cells5 l;have z0:=ae l 0;have z1:=ae l 1;have z2:=ae l 2;have z3:=ae l 3;have z4:=ae l 4;have bb:w.heap.size<g.heap.size:=(ES.1 F.o).1;clear C0 hE U K M l hf;go_wp2_with fail
    refine bp Tryz.results174 Z (aV ba.o _ _ _ _ _) Z ?_;exact aY.q C HL.o S.o HO.o a6.o (ET _) bb _ _ _ _ _
   rw[ox ck]at j;have e9:((kd:Int)==3)=false:=by simp;omega
   subst j;have ar:=Hd (jK D.o u.o.2 4 14 (by omega));obtain⟨c0,_,_,_,_,_⟩:=cells3 b9.o;generalize ofM ts σ 4 14=r at *;clear ca ck;go_wp2_with fail
   refine Ff ar.o ?_;rintro e w4 ⟨d,s,rfl,f,K,hf⟩;obtain⟨p,c,rfl⟩:=K.b;have b6:=Hd (u.o.h f);have l:=f.q F.o C (ET _);have ba:=Hd l;obtain⟨a0,a1,a2,a3,a4⟩:=cells5 l;have z0:=ae l 0;have z1:=ae l 1;have z2:=ae l 2;have z3:=ae l 3;have z4:=ae l 4;obtain⟨HO,HF⟩:=zz2 K hf;have bb:w.heap.size<g.heap.size:=(ES.1 F.o).1;clear f l K hf c0;go_wp2_with fail
   refine bp Tryz.results174 Z (aV ba.o _ _ _ _ _) Z ?_;exact aY.q C HL.o b6.o HO.o HF.o (ET _) bb _ _ _ _ _
def iW:ByteArray:=⟨#[102,97,99,116]⟩
def nS:ByteArray:=⟨#[114,117,108,101]⟩
def em(ts:List Tok) (a:Int→PS→ah×PS) (σ:PS):ah×PS:=
 if isM ts σ [iW]=r5 then (.mk 2 (ofM ts (al ts σ) 2 2).1.h 0 (atM ts σ) (cf ts (fun σ=>ofM ts σ 2 3) (ofM ts (al ts σ) 2 2).2).1,aP ts (cf ts (fun σ=>ofM ts σ 2 3) (ofM ts (al ts σ) 2 2).2).2 bX)
 else a (atM ts σ) (aP ts σ nS)
theorem uh{ts:List Tok}{b:Int→PS→ah×PS}(h:∀a σ,σ.1≤(b a σ).2.1)(σ:PS):σ.1≤(em ts b σ).2.1:=by
 unfold em;have c:=(eK ts σ).1
 split
 ·exact EZ c (EZ (ed ts _ 2 2) (EZ (ic (fun σ=>ed ts σ 2 3) _) (bD ts _ _)))
 ·exact EZ (bD ts σ nS) (h _ _)
def zZ(ts:List Tok) (b:Int→PS→ah×PS):Prop:=∀(a:Int) (σ:PS) (w:p7) (P L cap:Nat),0≤a→a≤16384→PAt w P L cap ts σ.1 σ.2→
 Calls Tryz.prog 45 #[tv (A ⟨P,0,V⟩),s3 #[I J 0,p9 ⟨#[]⟩,I Y 0,I Y a,O V 0 0]] w (aY w P L cap ts (b a σ))
theorem Aa{ts:List Tok}(H:cz ts){ru:Int→PS→ah×PS}(ba:zZ ts ru):ji ts 20 (em ts ru):=by
 intro σ w P L cap h;have U:FS w (w.alloc (p8 bH 64)):=(EU _ w).alloc (ET _) _;obtain⟨HC,H0⟩:=zz2 (fP (h.C U)) (h.b U);have j:=h.lt.1;obtain⟨HL,HX,W,X,bB⟩:=zz5 h.lt.2 (ot w (p8 bH 64)) H (fun σ w P L cap h=>mL H (enters_of Tryz.func43 (by kernel_rfl) Z) (yC H) (fun σ=>ed ts σ 2 3) σ w P L cap h) ba;obtain⟨R,ad⟩:=zzy (em ts ru σ);rw[ad];have y:=ad;unfold em at y;obtain⟨at_,af⟩:=zzy (atM ts σ);rw[af]at HC y;have bb:=Hd y;have K:Hid (0≤at_∧at_≤16384):=by
  show _∧_
  obtain⟨_,_,g3⟩:=cQ W.o σ.1;rw[←af];unfold atM;omega
 clear h U H ba ad y af;generalize kdM ts σ=kd at HC;generalize txM ts σ=tx at HC
 go_enter Tryz.func20,Tryz.ntmps20
 go_wp2_with fail
 refine Ff HC.o ?_;rintro e w1 ⟨rfl,ak⟩;have bR:=jU kd tx at_ w1;obtain⟨b1,bc⟩:=zz2 (H0.o.b ak) (ag ak HX.o (by simp));have n:w.heap.size<w1.heap.size:=(ES.1 bc.o).1;clear ak;obtain⟨M,q⟩:=zzx (w1.alloc (p8 #[I J 0,p9 ⟨#[]⟩,I Y 0,I Y at_,O V 0 0] 64));have b2:w1.heap.size<M.heap.size:=by rw[q];simp
 have b3:Hid (ax w P L cap ts σ.1 σ.2 M):=by rw[q];exact b1.o.y _
 have b4:Hid (M.heap[w1.heap.size]?=A (p8 #[I J 0,p9 ⟨#[]⟩,I Y 0,I Y at_,O V 0 0] 64 (0,0))):=by rw[q];exact ot w1 _
 have b5:Hid (M.heap[w.heap.size]?=A (p8 bH 64 (0,0))):=by rw[q];exact (FQ w1 _ _ n).trans bc.o
 go_upto_region 2 with fail
 change wB _ _ _ _ (w1.alloc (p8 #[I J 0,p9 ⟨#[]⟩,I Y 0,I Y at_,O V 0 0] 64));rw[←q];clear bR q;obtain⟨aq,bd,bk⟩:=zz3 (b3.o.y (p8 #[p9 iW] 9)) ((FQ M (p8 #[p9 iW] 9) w1.heap.size b2).trans b4.o) ((FQ M (p8 #[p9 iW] 9) w.heap.size (by omega)).trans b5.o);have bl:=Hd (dA aq.o.2 M.heap.size 0 1 1 [iW] (bN [iW]) Z (by omega));go_wp2_with fail
 refine Ff bl.o ?_;rintro e w2 ⟨rfl,ht⟩;obtain⟨t,bn,ar⟩:=zz3 (aq.o.h ht) (ht.q bk.o j (ET _)) (ht.q bd.o j (FB n));have cV:w1.heap.size<w2.heap.size:=(ES.1 ar.o).1;clear ht aq bd bk bl
 by_cases hm:isM ts σ [iW]=r5
 ·have y:=bb.o;rw[oA hm]at y;have z:aN ts σ [iW]=al ts σ:=by unfold aN;rw[oA hm]
  rw[z]at t;have C:isM ts σ [iW]=true:=by simpa using hm
  rw[C];have av:=Hd y;clear y z hm C;have b6:=Hd (i8 W.o t.o.2 2 (by omega));have T:(ofM ts (al ts σ) 2 2).1.h.size≤16384:=(cQ W.o _).2.1;generalize ofM ts (al ts σ) 2 2=nm at *;have bq:=Hd T;clear T;go_wp2_with fail
  refine Ff b6.o ?_;rintro e w4 ⟨d,s,rfl,f,ho,hf⟩;obtain⟨N,a6,i⟩:=zz3 (t.o.h f) (f.q bn.o j (ET _)) (f.q ar.o j (FB n));have b7:w1.heap.size<w4.heap.size:=(ES.1 i.o).1;have b8:w2.heap.size≤w4.heap.size:=f.1.size;obtain⟨p,c,rfl⟩:=ho.b;have b9:=im nm.1.b nm.1.h nm.1.q nm.1.t nm.1.u.length p c w4;clear f ho hf;obtain⟨u,v⟩:=zzx (((w4.setCell ⟨w1.heap.size,0,V⟩ (I J 2)).setCell ⟨w1.heap.size,1,V⟩ (p9 nm.1.h)));have cW:u.heap.size=w4.heap.size:=by rw[v];simp[xD]
  have c1:w1.heap.size<u.heap.size:=by omega
  have Q:Hid (ax w P L cap ts nm.2.1 nm.2.2 u):=by rw[v];exact ((N.o.t j HL.o (by omega) 0 _).t j HL.o (by omega) 1 _)
  have g:Hid (u.heap[w.heap.size]?=A (p8 bH 64 (0,0))):=by rw[v];exact ((EW _ _ _ _ (show w.heap.size≠w1.heap.size by omega)).trans ((EW _ _ _ _ (show w.heap.size≠w1.heap.size by omega)).trans a6.o))
  have ca:Hid (u.heap[w1.heap.size]?=A (p8 #[I J 2,p9 nm.1.h,I Y 0,I Y at_,O V 0 0] 64 (0,0))):=by rw[v];exact (heap_set (heap_set i.o 0 _) 1 _)
  have f0:=ae i.o 0;have f1:=ae i.o 1;obtain⟨n0,n1,n2,n3,n4⟩:=cells5 i.o;have H5:=Hd v;clear v;go_upto_region 4 with fail
  change wB _ _ _ _ ((w4.setCell ⟨w1.heap.size,0,V⟩ (I J 2)).setCell ⟨w1.heap.size,1,V⟩ (p9 nm.1.h));rw[←H5.o];clear n0 n1 n2 n3 n4 f0 f1;clear b9;have cb:=Hd (X.o nm.2 u P L cap Q.o.2);generalize cf ts (fun σ=>ofM ts σ 2 3) nm.2=l at *;go_wp2_with fail
  refine Ff cb.o ?_;rintro e w6 ⟨d2,s2,rfl,D,a7⟩;obtain⟨ch,ck,S⟩:=zz3 (Q.o.h D) (D.q g.o j (ET _)) (D.q ca.o j (FB n));have c3:w1.heap.size<w6.heap.size:=(ES.1 S.o).1;have c5:u.heap.size≤w6.heap.size:=D.1.size;obtain⟨p2,c2,rfl⟩:=a7.b;have cl:=Hd a7;clear D a7;obtain⟨F,x⟩:=zzx ((w6.setCell ⟨w1.heap.size,4,V⟩ (O p2 l.1.length c2)));have cp:F.heap.size=w6.heap.size:=by rw[x];simp[xD]
  have c6:w1.heap.size<F.heap.size:=by omega
  have br:Hid (ax w P L cap ts l.2.1 l.2.2 F):=by rw[x];exact (ch.o.t j HL.o (by omega) 4 _)
  have cq:Hid (F.heap[w.heap.size]?=A (p8 bH 64 (0,0))):=by rw[x];exact ((EW _ _ _ _ (show w.heap.size≠w1.heap.size by omega)).trans ck.o)
  have cr:Hid (F.heap[w1.heap.size]?=A (p8 #[I J 2,p9 nm.1.h,I Y 0,I Y at_,O p2 l.1.length c2] 64 (0,0))):=by rw[x];exact (heap_set S.o 4 _)
  have f4:=ae S.o 4;obtain⟨n0,n1,n2,n3,n4⟩:=cells5 S.o;have H7:=Hd x;clear x;go_upto_region 5 with fail
  change wB _ _ _ _ (w6.setCell ⟨w1.heap.size,4,V⟩ (O p2 l.1.length c2));rw[←H7.o];clear n0 n1 n2 n3 n4 f4;have ct:Hid (OwnAt F d2 l.1 (O p2 l.1.length c2) (bG u.heap.size F.heap.size)):=by rw[cp,H7.o];exact cl.o.t fun b o hb hx=>(EW _ _ _ _ (show b≠w1.heap.size by have:=hb.1;omega)).trans hx
  have HW:=Hd (cU br.o.2 bX);go_wp2_with fail
  refine Ff HW.o ?_;rintro e w8 ⟨rfl,k⟩;obtain⟨cu,m,bt⟩:=zz3 (br.o.h k) (k.q cq.o j (ET _)) (k.q cr.o j (FB n));have c7:w1.heap.size<w8.heap.size:=(ES.1 bt.o).1;have c8:F.heap.size≤w8.heap.size:=k.1.size;have cv:=Hd ((ct.o.t fun b o hb hx=>bv k.1 hx (by have:=hb.1;omega)).N (G:=bG u.heap.size w8.heap.size) fun b hb=>⟨hb.1,EY hb.2 k.1.size⟩);obtain⟨n0,n1,n2,n3,n4⟩:=cells5 bt.o;obtain⟨a0,a1,a2,a3,a4⟩:=cells5 m.o;have z0:=ae m.o 0;have z1:=ae m.o 1;have z2:=ae m.o 2;have z3:=ae m.o 3;have z4:=ae m.o 4;clear k;go_wp2_with fail
  refine bp Tryz.results20 Z (aV m.o _ _ _ _ _) Z ?_;rw[←av.o];exact aY.q (r:=(.mk 2 nm.1.h 0 at_ l.1,aP ts l.2 bX)) (B:=u.heap.size) j HL.o cu.o cv.o (fg (by omega) bq.o K.o.1 K.o.2) (ET _) (by omega) _ _ _ _ _
 ·have y:=bb.o;rw[ox hm]at y;have z:aN ts σ [iW]=σ:=by unfold aN;rw[ox hm]
  rw[z]at t;have C:isM ts σ [iW]=false:=by simpa using hm
  rw[C];have av:=Hd y;clear y z hm C;have cx:=Hd (cU t.o.2 nS);generalize aP ts σ nS=cT at *;go_wp2_with fail
  refine Ff cx.o ?_;rintro e w4 ⟨rfl,f⟩;obtain⟨N,a6,i⟩:=zz3 (t.o.h f) (f.q bn.o j (ET _)) (f.q ar.o j (FB n));have b7:w1.heap.size<w4.heap.size:=(ES.1 i.o).1;have b8:w2.heap.size≤w4.heap.size:=f.1.size;clear f;have E:=Hd (bB.o at_ cT w4 P L cap K.o.1 K.o.2 N.o.2);rw[av.o]at E;obtain⟨n0,n1,n2,n3,n4⟩:=cells5 i.o;go_wp2_with fail
  refine Ff E.o ?_;rintro e u ⟨d,s,rfl,a8,ho,hf⟩;obtain⟨p,c,rfl⟩:=ho.b;obtain⟨Q,g⟩:=zz2 (N.o.h a8) (a8.q a6.o j (ET _));obtain⟨a0,a1,a2,a3,a4⟩:=cells5 g.o;have z0:=ae g.o 0;have z1:=ae g.o 1;have z2:=ae g.o 2;have z3:=ae g.o 3;have z4:=ae g.o 4;obtain⟨HO,HF⟩:=zz2 ho hf;clear a8 ho hf n0 n1 n2 n3 n4;go_wp2_with fail
  refine bp Tryz.results20 Z (aV g.o _ _ _ _ _) Z ?_;exact aY.q j HL.o Q.o HO.o HF.o (ET _) (by omega) _ _ _ _ _
section
variable {ts:List Tok} {σ:PS}
theorem lE(h:σ.2=r5)(texts:List ByteArray):isM ts σ texts=false:=by unfold isM;rw[h];rfl
theorem ef(h:σ.2=r5)(x:ByteArray):(aP ts σ x).2=true:=by
 show qs σ.2 _ _=r5
 unfold qs;rw[h];rfl
theorem nZ(h:σ.2=r5)(tok kind:Nat):(ofM ts σ tok kind).2.2=true:=by
 show (σ.2||_)=r5
 rw[h];rfl
end
theorem oZ{ts:List Tok}{σ:PS}(h:σ.2=r5):(ei ts σ).2.2=true:=by
 unfold ei;rw[ox (by rw[lE h];decide),ox (by rw[lE h];decide)]
 split
 ·exact nZ h _ _
 ·split
  ·exact nZ h _ _
  ·exact nZ h _ _
theorem wJ{ts:List Tok}{one:PS→ah×PS}{σ:PS}(h:σ.2=r5):∀(g:Nat) (a:List ah),eJ ts one g a σ=(a,σ):=by
 intro g a
 cases g with
 | zero=>rfl
 | succ g=>unfold eJ;rw[ox (by rw[lE h];decide)]
theorem BH{ts:List Tok}{one:PS→ah×PS}(a:∀σ:PS,σ.2=r5→(one σ).2.2=r5){σ:PS}(h:σ.2=r5):(i6 ts one σ).2.2=true:=by
 unfold i6;rw[wJ (a σ h)];exact a σ h
theorem AL{ts:List Tok}{one:PS→ah×PS}(a:∀σ:PS,σ.2=r5→(one σ).2.2=r5){σ:PS}(h:σ.2=r5):(cf ts one σ).2.2=true:=by
 unfold cf;rw[ox (by rw[lE (ef h _)];decide)];exact ef (BH a (ef h _)) _
theorem Eh{ts:List Tok}(c:cz ts){σ:PS}(d:σ.1<ts.length){tok:Nat}(h:tok≠7)(kind:Nat):(ofM ts σ tok kind).2.2=r5∨σ.1<(ofM ts σ tok kind).2.1:=by
 cases e:(ofM ts σ tok kind).2.2 with
 | true=>exact Or.inl Z
 | false =>
  right
  have b:(σ.2||(cX ts σ.1).1 != tok)=false:=e
  show σ.1<eC ts.length σ.1 (σ.2||(cX ts σ.1).1 != tok)
  rw[b];have f:(cX ts σ.1).1=tok:=by
   cases g:σ.2<;>simp[g]at b
   exact b
  have a:σ.1+1<ts.length:=by
   by_cases a:σ.1+1<ts.length
   ·exact a
   ·exfalso
    have:=c.last σ.1 _ (gd d) a;omega
  rw[pJ a];omega
theorem pK{ts:List Tok}(a:cz ts){b:PS→ah×PS}(c:∀σ,σ.1≤(b σ).2.1)(d:∀σ:PS,σ.2=r5→(b σ).2.2=r5){σ:PS}(f:σ.1<ts.length):(dB ts b σ).2.2=r5∨σ.1<(dB ts b σ).2.1:=by
 unfold dB
 by_cases g:isM ts σ [iU]=r5
 ·rw[oA g];obtain⟨q1,_,_⟩:=fc a f g
  right
  have e:=fN ts (al ts σ);have i:=bD ts (eD ts (al ts σ)).2 bX;dsimp only;omega
 ·rw[ox g]
  by_cases e:isM ts σ [eY]=r5
  ·rw[oA e];obtain⟨q1,_,_⟩:=fc a f e
   right
   have i:=ed ts (al ts σ) 2 6;have j:=ic (ts:=ts) c (ofM ts (al ts σ) 2 6).2;have k:=bD ts (cf ts b (ofM ts (al ts σ) 2 6).2).2 bX;dsimp only;omega
  ·rw[ox e];rcases Eh a f (show 2≠7 by omega) 5 with h|h
   ·left
    exact ef (AL d h) _
   ·right
    have j:=ic (ts:=ts) c (ofM ts σ 2 5).2;have k:=bD ts (cf ts b (ofM ts σ 2 5).2).2 bX;dsimp only;omega
theorem qT{ts:List Tok}(a:cz ts){σ:PS}(d:σ.1<ts.length):(eO ts σ).2.2=r5∨σ.1<(eO ts σ).2.1:=by
 unfold eO
 by_cases e:isM ts σ [fu]=r5
 ·rw[oA e];obtain⟨q1,_,_⟩:=fc a d e
  right
  have b:=ed ts (al ts σ) 2 8;have c:=ic (ts:=ts) (fN ts) (ofM ts (al ts σ) 2 8).2;have f:=bD ts (cf ts (eD ts) (ofM ts (al ts σ) 2 8).2).2 bX;dsimp only;omega
 ·rw[ox e]
  by_cases g:isM ts σ [eP]=r5
  ·rw[oA g];obtain⟨q1,_,_⟩:=fc a d g
   right
   have b:=nM ts (al ts σ);have f:=bD ts (fU ts (al ts σ)).2 bX;dsimp only;omega
  ·rw[ox g]
   by_cases b:isM ts σ [j4]=r5
   ·rw[oA b];obtain⟨q1,_,_⟩:=fc a d b
    right
    have c:=qS (ts:=ts) (fN ts) (al ts σ);have f:=bD ts (i6 ts (eD ts) (al ts σ)).2 bX;dsimp only;omega
   ·rw[ox b];dsimp only
    by_cases c:isM ts σ [ke]=r5
    ·obtain⟨q1,_,_⟩:=fc a d c
     right
     have f:=bD ts (aP ts σ ke) bX;have h:(aP ts σ ke).1=σ.1+1:=by
      rw[←q1,←o9 Prod.fst (show aN ts σ [ke]=al ts σ by unfold aN;rw[oA c])];exact (jO ts σ [ke]).1.symm
     omega
    ·left
     refine ef ?_ _
     show (!isM ts σ [ke])=r5
     rw[Bool.eq_false_iff.2 c];rfl
def upTo(ts:List Tok) (one:PS→ah×PS) (stop:ByteArray):Nat→List ah→PS→List ah×PS
 | 0,a,σ=>(a,σ)
 | g+1,a,σ=>if σ.2=r5 then (a,σ) else if isM ts σ [stop]=r5 then (a,σ) else upTo ts one stop g (a++[(one σ).1]) (one σ).2
theorem xn{ts:List Tok}{one:PS→ah×PS}(b:∀σ,σ.1≤(one σ).2.1)(stop:ByteArray):∀(g:Nat) (a:List ah) (σ:PS),σ.1≤(upTo ts one stop g a σ).2.1:=by
 intro g
 induction g with
 | zero=>intro a σ;exact ET _
 | succ g c =>
  intro a σ;unfold upTo
  split
  ·exact ET _
  ·split
   ·exact ET _
   ·exact EZ (b σ) (c _ _)
def kF:ByteArray:=⟨#[115,97,108,105,101,110,99,101]⟩
def tTo:ByteArray:=⟨#[61,62]⟩
def kg:ByteArray:=⟨#[123]⟩
def dk:ByteArray:=⟨#[125]⟩
def gV(ts:List Tok) (σ:PS):Int×PS:=
 if isM ts σ [kF]=r5 then
  if isM ts (al ts σ) [bg]=r5 then (-((fU ts (al ts (al ts σ))).1:Int),(fU ts (al ts (al ts σ))).2)
  else ((fU ts (al ts σ)).1,(fU ts (al ts σ)).2)
 else (0,σ)
theorem D9(ts:List Tok)(σ:PS):σ.1≤(gV ts σ).2.1:=by
 unfold gV;have a:=(eK ts σ).1
 split
 ·split
  ·exact EZ a (EZ (eK ts _).1 (nM ts _))
  ·exact EZ a (nM ts _)
 ·exact ET _
def dJ(ts:List Tok) (a:Int) (σ:PS):ah×PS:=
 let nm:=ofM ts σ 2 4
 let b:=gV ts nm.2
 let cs:=upTo ts (dB ts (ei ts)) tTo (ts.length+1) [] (aP ts b.2 kg)
 let c:=upTo ts (eO ts) dk (ts.length+1) cs.1 (aP ts cs.2 tTo)
 (.mk 4 nm.1.h b.1 a c.1,aP ts c.2 dk)
theorem pD(ts:List Tok)(a:Int)(σ:PS):σ.1≤(dJ ts a σ).2.1:=by
 unfold dJ;dsimp only;have c:=ed ts σ 2 4;have d:=D9 ts (ofM ts σ 2 4).2;have e:=bD ts (gV ts (ofM ts σ 2 4).2).2 kg;have f:=xn (ts:=ts) (pd (ts:=ts) (jd ts)) tTo (ts.length+1) [] (aP ts (gV ts (ofM ts σ 2 4).2).2 kg);generalize upTo ts (dB ts (ei ts)) tTo (ts.length+1) [] (aP ts (gV ts (ofM ts σ 2 4).2).2 kg)=cs at *;have g:=bD ts cs.2 tTo;have h:=xn (ts:=ts) (qU ts) dk (ts.length+1) cs.1 (aP ts cs.2 tTo);generalize upTo ts (eO ts) dk (ts.length+1) cs.1 (aP ts cs.2 tTo)=b at *;have i:=bD ts b.2 dk;omega
def dpM:Nat→ah→Option Int
 | 0,T=>A T.t
 | n+1,T=>T.u.findSome? (dpM n)
def EA(x:Option Int) (w:p7) (e:Ending) (w':p7):Prop:=e=Ending.returned (Value.tuple #[I Y (x.getD 0),Value.bool x.isSome])∧FS w w'
def EM(b:p7) (n m:Nat) (c:List ah) (i:r3) (W:p7):Prop:=∃(a:p7) (k:Nat),a=W∧k≤m∧i=I Y k∧FS b a∧(c.take k).findSome? (dpM n)=V
theorem zA:∀(n:Nat) (a d:Nat) (T:ah) (u:r3) (B:Nat) (w:p7),a+n=30→fk w B d T u→B≤w.heap.size→tL d T.u→Calls Tryz.prog 21 #[u,I Y a] w (EA (dpM n T) w):=by
 intro n
 induction n with
 | zero =>
  intro a d T u B w ha hu hB hs;obtain⟨_,s,rfl,D⟩:=hu;obtain⟨p,l,c,rfl⟩:=D.b;obtain rfl:a=30:=by omega
  have P:=Eg w T (O p l c);have HB:=Hd ((EU _ w).alloc (ET _) (p8 #[I J T.b,p9 T.h,I Y T.q,I Y T.t,O p l c] 64));obtain⟨x0,x1,x2,x3,x4⟩:=cells5 (ot w (p8 #[I J T.b,p9 T.h,I Y T.q,I Y T.t,O p l c] 64));clear P
  go_enter Tryz.func21,Tryz.ntmps21
  go_wp2_with fail
  go_ret2
  exact⟨Z,HB.o⟩
 | succ n ih =>
  intro a d T u B w ha hu hB hs;obtain⟨_,s,rfl,D⟩:=hu;have av:T.u.length≤20000:=by
   cases d with
   | zero=>rw[D.1];exact Fi _
   | succ d=>exact hs.1
  have g:∀t∈T.u,tL (d-1) t.u:=by
   cases d with
   | zero=>intro t hT;rw[D.1]at hT;cases hT
   | succ d=>intro t hT;exact (hs.2 t hT).u
  obtain⟨p,c,rfl,_,E⟩:=D.h;have z:Hid (dpM (n+1) T=T.u.findSome? (dpM n)):=rfl;obtain⟨x,hx⟩:=zzy (dpM (n+1) T);rw[hx]at z ⊢;obtain⟨m,hm⟩:=zzy (T.u.length);rw[hm]at av;obtain⟨Q,F,R,a1⟩:=zz4 hm E g ih;have bc:(a:Int)<30:=by omega
  have HA:Hid ((a+1)+n=30):=by show _=_;omega
  obtain⟨W0,C⟩:=zzx (w.alloc (p8 #[I J T.b,p9 T.h,I Y T.q,I Y T.t,O p T.u.length c] 64));have HX:Hid (W0.heap[w.heap.size]?=A (p8 #[I J T.b,p9 T.h,I Y T.q,I Y T.t,O p T.u.length c] 64 (0,0))):=by rw[C];exact ot w _
  have S:Hid (FS w W0):=by rw[C];exact (EU _ w).alloc (ET _) _
  obtain⟨x0,x1,x2,x3,x4⟩:=cells5 (ot w (p8 #[I J T.b,p9 T.h,I Y T.q,I Y T.t,O p T.u.length c] 64));clear D hs g E ih hm hx ha;obtain⟨h,K⟩:=zzy (T.u);rw[K]at z Q F R;have a6:=Hd K;clear K
  go_enter Tryz.func21,Tryz.ntmps21
  go_upto_region 3 with fail
  change wB _ _ _ _ (w.alloc (p8 #[I J T.b,p9 T.h,I Y T.q,I Y T.t,O p T.u.length c] 64));rw[←C];clear x0 x1 x2 x3 x4 C;obtain⟨y0,y1,y2,y3,y4⟩:=cells5 HX.o;rw[show T.u.length=m by rw[a6.o];exact Q.o]at y4;go_wp2_with fail
  clear y0 y1 y2 y3 y4
  go_loopw [17] (EM W0 n m h) (fun i _=>m-(intOf i).toNat)
  case atStart=>exact⟨_,0,Z,Fi _,Z,EU _ _,Z⟩
  case round =>
   obtain⟨W1,k,rfl,D,rfl,hb,U⟩:=hrel;have a7:(0:Int)≤k:=by omega
   have f:=S.o.trans (hb.mono S.o.size);obtain⟨L,W,X⟩:=zz3 f U hb;clear U hb
   by_cases M:k<m
   ·obtain⟨t,ht⟩:∃t,h[k]?=A t:=⟨h[k]'(by rw[Q.o];exact M),EX (by rw[Q.o];exact M)⟩;have G:t∈h:=Fv ht;obtain⟨hd,b,off,rfl,a8,H⟩:=F.o k t ht;obtain⟨p',l',c',d0,d1,d2,d3,d4,j⟩:=H.node (f.mono hB) a8;have bd:(k:Int)<m:=by omega
    have r:=Hd (a1.o (a+1) _ t _ B _ HA.o (j.y (EZ hB f.size) (p8 #[I J t.b,p9 t.h,I Y t.q,I Y t.t,O p' l' c'] 64)) (by have:=f.size;rw[o2];omega) (R.o t G));rw[Int.natCast_succ]at r;have ad:=Hd ((EU _ W1).alloc (ET _) (p8 #[I J t.b,p9 t.h,I Y t.q,I Y t.t,O p' l' c'] 64))
    have v:=Hd (show (h.take (k+1)).findSome? (dpM n)=(dpM n t) by
     rw[FI,ht,List.findSome?_append,W.o]
     simp)
    have N:Hid (h.findSome? (dpM n)=((h.take (k+1)).findSome? (dpM n)).or ((h.drop (k+1)).findSome? (dpM n))):=by
     show _=_
     conv=>lhs;rw[←List.take_append_drop (k+1) h]
     rw[List.findSome?_append]
    generalize hy:dpM n t=y at *;clear j H G ht hd f hy;go_wp2_with fail
    refine r.o.mono ?_;rintro e W2 ⟨rfl,af⟩;have ak:=Hd (ad.o.trans (af.mono ad.o.size));clear af d0 d1 d2 d3 d4
    cases y with
    | none =>
     go_wp2_with fail
     exact⟨⟨_,k+1,Z,by omega,by go_num,X.o.trans (ak.o.mono X.o.size),v.o⟩,by simp[intOf];omega⟩
    | some q =>
     have aq:x=A q:=by rw[z.o,N.o,v.o];rfl
     have ba:=Hd aq;clear aq;go_wp2_with fail
     go_ret2
     rw[ba.o];exact⟨Z,L.o.trans (ak.o.mono L.o.size)⟩
   ·obtain rfl:k=m:=by omega
    have ar:x=none:=by rw[z.o,←W.o,←Q.o,List.take_length]
    have bb:=Hd ar;clear D M a7 ar f;go_wp2_with fail
    go_ret2
    rw[bb.o];exact⟨Z,L.o⟩
theorem rz{w X q f:p7}{P L cap k k3:Nat}{bad r:Bool}{ts:List Tok}{i m d g7 a:Nat}{c:List ah}{rows:List (List r3)}{Fs:Nat→Nat→Prop}{o c0 c1 c2 T:r3}{t:ah}{U N d2:Nat}{s2:r3}
  (hP:P<w.heap.size) (hL:L<w.heap.size) (W:w.heap.size≤i) (v:i<m) (hX:m≤X.heap.size) (hT:ax w P L cap ts k bad X)
  (ad:X.heap[i]?=A (p8 #[c0,c1,c2,T,o] 64 (0,0))) (H:X.ownsRow m 64 5 o c.length rows.flatten) (y:cy X m d c c.length o.ownBlock rows Fs)
  (n:ax X P L cap ts k3 r q) (af:q.heap[U]?=A (p8 (az t s2).toArray 64 (0,0))) (ho:OwnAt q d2 t.u s2 (bG X.heap.size N)) (hf:Fits t) (ak:X.heap.size≤N) (a6:N≤U)
  (s:f.ownsRow m 64 5 (O (A ⟨g7,0,V⟩) (c.length+1) a) (c.length+1) (rows.flatten++az t s2)) (j:q.grownBy f o.ownBlock) (z:o.ownBlock=A g7∨g7=q.heap.size) :
  ∃d' l B,ax w P L cap ts k3 r (f.setCell ⟨i,4,V⟩ (O (A ⟨g7,0,V⟩) (c.length+1) a))∧
   (∀b,b<m→b≠P→b≠i→(f.setCell ⟨i,4,V⟩ (O (A ⟨g7,0,V⟩) (c.length+1) a)).heap[b]?=X.heap[b]?)∧
   (f.setCell ⟨i,4,V⟩ (O (A ⟨g7,0,V⟩) (c.length+1) a)).heap[i]?=A (p8 #[c0,c1,c2,T,O (A ⟨g7,0,V⟩) (c.length+1) a] 64 (0,0))∧
   (f.setCell ⟨i,4,V⟩ (O (A ⟨g7,0,V⟩) (c.length+1) a)).ownsRow m 64 5 (O (A ⟨g7,0,V⟩) (c.length+1) a) (c++[t]).length l.flatten∧
   cy (f.setCell ⟨i,4,V⟩ (O (A ⟨g7,0,V⟩) (c.length+1) a)) m d' (c++[t]) (c++[t]).length (A g7) l B∧f.heap[i]?=A (p8 #[c0,c1,c2,T,o] 64 (0,0)):=by
 have p:=eH H;have a7:=hT.1.size;have a8:=n.1.size;have ba:U<q.heap.size:=(ES.1 af).1;have bb:=j.size;have K:∀g,o.ownBlock=A g→w.heap.size≤g:=fun g hg=>by have:=(p g hg).1;omega
 have aq:=(hT.h n).grownO hP hL j K;have C:∀b,b<q.heap.size→o.ownBlock≠A b→f.heap[b]?=q.heap[b]?:=fun b F D=>j.block b F (fun e=>D e.symm)
 have ar:∀b,b<m→o.ownBlock≠A b:=fun b hb e=>by have:=(p b e).1;omega
 have e2:=ho.mores d;rw[Nat.add_comm d2 d]at e2;have M:∀b,b<m→b≠P→f.heap[b]?=X.heap[b]?:=fun b F D=>(C b (by omega) (ar b F)).trans (n.1.block b (by omega) (fun e=>by injection e with e;exact D e))
 obtain⟨B,E⟩:=cy.nextT (W':=f) (N:=N) (own':=A g7) (t:=t) ((y.deeper d2).longer Z [t]) (by simp) hf
  (e2.t fun x o' G av=>(C x (by have:=G.2;omega) (fun e=>by have:=(p x e).2;have:=G.1;omega)).trans av) ak (by omega) (by omega) (by omega)
  (fun x F D Q=>(C x (by omega) Q).trans (n.1.block x D (fun e=>by injection e with e;omega))) (fun x G=>by
   injection G with G
   subst G;rcases z with h|h
   ·exact Or.inl ⟨h,by have:=(p _ h).2;omega⟩
   ·right;omega)
 obtain⟨R,a1⟩:=zzx (O (A ⟨g7,0,V⟩) (c.length+1) a);rw[←a1]at s ⊢;have u:f.grownBy (f.setCell ⟨i,4,V⟩ R) (A i):=gj (oT f _) _ _;have S:f.heap[i]?=A (p8 #[c0,c1,c2,T,o] 64 (0,0)):=(M i v (by omega)).trans ad;refine⟨d+d2,rows++[az t s2],B,aq.t hP hL W 4 R,?_,?_,?_,?_,S⟩
 ·exact fun b F D h3=>(EW _ _ _ b h3).trans (M b F D)
 ·rw[heap_set S 4 R];rfl
 ·have:=dm s u v;rw[Fl,FP,List.flatten_append]
  simpa using this
 ·rw[Fl,FP];exact E.turn u v
