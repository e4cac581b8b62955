/- Parts of one proof, joined; conditions stand in each theorem. -/
import Derived.Test.YtoahnjkclckodaaGreatDoorMW
open Bool renaming true→tT
open Go.Obj renaming cells→r7
open Go.Value renaming int→I,string→r9,slice→O,agg→wP,pointer→vo
open Go.IntKind renaming u8→r8,i64→U
open Option renaming none→Y,some→A
open Go.Code renaming wp→xv
open Go.World renaming setCell→AF
open Go renaming World→J,undef→xk,wpQuiet_nil→xL,Value→tS
namespace Go.Proofs.YtoahnjkclckodaaGreatDoor
set_option maxHeartbeats 2000000
set_option maxRecDepth 100000
open Go.RowKit
def fV:ByteArray:=⟨#[97,115,115,101,114,116]⟩
def fi:ByteArray:=⟨#[114,101,116,114,97,99,116]⟩
def kW:ByteArray:=⟨#[115,97,121]⟩
def lj:ByteArray:=⟨#[104,97,108,116]⟩
def fh(ts:List Tok) (σ:PS):ac×PS:=
 if isM ts σ [fV]=tT then (.mk 8 (ofM ts (ae ts σ) 2 8).1.h 0 (atM ts σ) (cD ts (eP ts) (ofM ts (ae ts σ) 2 8).2).1,aQ ts (cD ts (eP ts) (ofM ts (ae ts σ) 2 8).2).2 cB)
 else if isM ts σ [fi]=tT then (.mk 9 ⟨#[]⟩ (gq ts (ae ts σ)).1 (atM ts σ) [],aQ ts (gq ts (ae ts σ)).2 cB)
 else if isM ts σ [kW]=tT then (.mk 10 ⟨#[]⟩ 0 (atM ts σ) (jw ts (eP ts) (ae ts σ)).1,aQ ts (jw ts (eP ts) (ae ts σ)).2 cB)
 else (.mk 11 ⟨#[]⟩ 0 (atM ts σ) [],aQ ts (aQ ts σ lj) cB)
theorem ug(ts:List Tok)(σ:PS):σ.1≤(fh ts σ).2.1:=by
 unfold fh;have a:=(ff ts σ).1
 (repeat' split)
 ·exact JU a (JU (eu ts _ 2 8) (JU (iG (gk ts) _) (bH ts _ _)))
 ·exact JU a (JU (qH ts _) (bH ts _ _))
 ·exact JU a (JU (uc (gk ts) _) (bH ts _ _))
 ·exact JU (bH ts _ _) (bH ts _ _)
theorem tR{ts:List Tok}(a:cJ ts):jN ts 176 (eP ts):=fun _σ _w _P _L _cap h=>vO a h
theorem Hh{kind:Nat}{n:Nat}{pl:Int}{ks:List ac}(a:kind<256)(b:n≤2147483647)(c:0≤pl)(d:pl≤16384):Fits (.mk kind ⟨#[]⟩ n pl ks):=
 ⟨a,by show (0:Nat)≤maxLen;exact J0 _,by show (-9223372036854775808:Int)≤n;omega,by show (n:Int)<9223372036854775808;omega,by show (-9223372036854775808:Int)≤pl;omega,by show pl<9223372036854775808;omega⟩
theorem FA{ts:List Tok}(bb:cJ ts):jN ts 147 (fh ts):=by
 intro σ w P L cap h;have b6:Kr w (w.alloc (r7 bM 145)):=(JO _ w).alloc (JM _) _;obtain⟨HC,H0⟩:=zz2 (gm (h.C b6)) (h.h b6);have j:=h.lt.1;obtain⟨HL,HX,b0,b7,cl⟩:=zz5 h.lt.2 (oc w (r7 bM 145)) bb (fun σ w P L cap h=>pK bb (enters_of Tryz.func176 (by kernel_rfl) Z) (tR bb) (gk ts) σ w P L cap h) (fun σ w P L cap h=>yc bb (enters_of Tryz.func176 (by kernel_rfl) Z) (tR bb) (gk ts) σ w P L cap h);obtain⟨R,b8⟩:=zzy (fh ts σ);rw[b8];have v:=b8;unfold fh at v;obtain⟨at_,b9⟩:=zzy (atM ts σ);rw[b9]at HC v;have cm:=Hd v;have Q:Hid (0≤at_∧at_≤16384):=by
  show _∧_
  obtain⟨_,_,g3⟩:=de b0.o σ.1;rw[←b9];unfold atM;omega
 clear h b6 bb b8 v b9;generalize kdM ts σ=kd at HC;generalize txM ts σ=tx at HC
 go_enter Tryz.func147,Tryz.ntmps147
 go_wp2_with fail
 refine JX HC.o ?_;rintro e w1 ⟨rfl,ca⟩;have cR:=kF kd tx at_ w1;obtain⟨cT,cn⟩:=zz2 (H0.o.u ca) (aa ca HX.o (by simp));have x:w.heap.size<w1.heap.size:=(JL.1 cn.o).1;clear ca;obtain⟨wA,bd⟩:=zzx (w1.alloc (r7 #[I r8 0,r9 ⟨#[]⟩,I U 0,I U at_,O Y 0 0] 145));have cV:w1.heap.size<wA.heap.size:=by rw[bd];simp
 have cW:Hid (ah w P L cap ts σ.1 σ.2 wA):=by rw[bd];exact cT.o.N _
 have c0:Hid (wA.heap[w1.heap.size]?=A (r7 #[I r8 0,r9 ⟨#[]⟩,I U 0,I U at_,O Y 0 0] 145 (0,0))):=by rw[bd];exact oc w1 _
 have c1:Hid (wA.heap[w.heap.size]?=A (r7 bM 145 (0,0))):=by rw[bd];exact (Kp w1 _ _ x).trans cn.o
 go_upto_region 4 with fail
 change xv _ _ _ _ (w1.alloc (r7 #[I r8 0,r9 ⟨#[]⟩,I U 0,I U at_,O Y 0 0] 145));rw[←bd];clear cR bd;obtain⟨D,S,T⟩:=zz3 (cW.o.N (r7 #[r9 fV] 9)) ((Kp wA (r7 #[r9 fV] 9) w1.heap.size cV).trans c0.o) ((Kp wA (r7 #[r9 fV] 9) w.heap.size (by omega)).trans c1.o);have V:=Hd (dK D.o.2 wA.heap.size 0 1 1 [fV] (bU [fV]) Z (by omega));go_wp2_with fail
 refine JX V.o ?_;rintro e w2 ⟨rfl,ht⟩;obtain⟨b1,cp,bt⟩:=zz3 (D.o.h ht) (ht.q T.o j (JM _)) (ht.q S.o j (Ke x));have c3:w1.heap.size<w2.heap.size:=(JL.1 bt.o).1;clear ht D S T V
 by_cases hm:isM ts σ [fV]=tT
 ·have v:=cm.o;rw[oj hm]at v;have k:aM ts σ [fV]=ae ts σ:=by unfold aM;rw[oj hm]
  rw[k]at b1;have m:isM ts σ [fV]=true:=by simpa using hm
  rw[m];have b2:=Hd v;clear v k hm m;obtain⟨w3,bg⟩:=zzx ((w2.setCell ⟨w1.heap.size,0,Y⟩ (I r8 8)));have eg:w3.heap.size=w2.heap.size:=by rw[bg];simp[AF]
  have cq:w1.heap.size<w3.heap.size:=by omega
  have W:Hid (ah w P L cap ts (ae ts σ).1 (ae ts σ).2 w3):=by rw[bg];exact (b1.o.K j HL.o (by omega) 0 _)
  have b3:Hid (w3.heap[w.heap.size]?=A (r7 bM 145 (0,0))):=by rw[bg];exact ((JQ _ _ _ _ (show w.heap.size≠w1.heap.size by omega)).trans cp.o)
  have bk:Hid (w3.heap[w1.heap.size]?=A (r7 #[I r8 8,r9 ⟨#[]⟩,I U 0,I U at_,O Y 0 0] 145 (0,0))):=by rw[bg];exact (heap_set bt.o 0 _)
  have f0:=ab bt.o 0;obtain⟨X,n1,n2,n3,n4⟩:=cells5 bt.o;have H3:=Hd bg;clear bg;go_upto_region 6 with fail
  change xv _ _ _ _ (w2.setCell ⟨w1.heap.size,0,Y⟩ (I r8 8));rw[←H3.o];clear X n1 n2 n3 n4 f0;have c5:=Hd (jy b0.o W.o.2 8 (by omega));have b5:(ofM ts (ae ts σ) 2 8).1.h.size≤16384:=(de b0.o _).2.1;generalize ofM ts (ae ts σ) 2 8=nm at *;have cr:=Hd b5;obtain⟨X,n1,n2,n3,n4⟩:=cells5 bk.o;clear b5;go_wp2_with fail
  refine JX c5.o ?_;rintro e w4 ⟨d,s,rfl,E,ho,hf⟩;obtain⟨K,bl,q⟩:=zz3 (W.o.h E) (E.q b3.o j (JM _)) (E.q bk.o j (Ke x));have ct:w1.heap.size<w4.heap.size:=(JL.1 q.o).1;have c6:w3.heap.size≤w4.heap.size:=E.1.size;obtain⟨p,c,rfl⟩:=ho.q;have c7:=iP nm.1.q nm.1.h nm.1.u nm.1.C nm.1.z.length p c w4;clear E ho hf X n1 n2 n3 n4;obtain⟨f,g⟩:=zzx ((w4.setCell ⟨w1.heap.size,1,Y⟩ (r9 nm.1.h)));have cu:f.heap.size=w4.heap.size:=by rw[g];simp[AF]
  have cb:w1.heap.size<f.heap.size:=by omega
  have H:Hid (ah w P L cap ts nm.2.1 nm.2.2 f):=by rw[g];exact (K.o.K j HL.o (by omega) 1 _)
  have ad:Hid (f.heap[w.heap.size]?=A (r7 bM 145 (0,0))):=by rw[g];exact ((JQ _ _ _ _ (show w.heap.size≠w1.heap.size by omega)).trans bl.o)
  have F:Hid (f.heap[w1.heap.size]?=A (r7 #[I r8 8,r9 nm.1.h,I U 0,I U at_,O Y 0 0] 145 (0,0))):=by rw[g];exact (heap_set q.o 1 _)
  have f1:=ab q.o 1;obtain⟨X,n1,n2,n3,n4⟩:=cells5 q.o;have H5:=Hd g;clear g;go_upto_region 7 with fail
  change xv _ _ _ _ (w4.setCell ⟨w1.heap.size,1,Y⟩ (r9 nm.1.h));rw[←H5.o];clear X n1 n2 n3 n4 f1;clear c7;have cc:=Hd (b7.o nm.2 f P L cap H.o.2);generalize cD ts (eP ts) nm.2=l at *;go_wp2_with fail
  refine JX cc.o ?_;rintro e u ⟨d2,s2,rfl,i,af⟩;obtain⟨M,y,z⟩:=zz3 (H.o.h i) (i.q ad.o j (JM _)) (i.q F.o j (Ke x));have cf:w1.heap.size<u.heap.size:=(JL.1 z.o).1;have cv:f.heap.size≤u.heap.size:=i.1.size;obtain⟨p2,c2,rfl⟩:=af.q;have aq:=Hd af;clear i af;obtain⟨N,bm⟩:=zzx ((u.setCell ⟨w1.heap.size,4,Y⟩ (O p2 l.1.length c2)));have c8:N.heap.size=u.heap.size:=by rw[bm];simp[AF]
  have cy:w1.heap.size<N.heap.size:=by omega
  have bn:Hid (ah w P L cap ts l.2.1 l.2.2 N):=by rw[bm];exact (M.o.K j HL.o (by omega) 4 _)
  have n:Hid (N.heap[w.heap.size]?=A (r7 bM 145 (0,0))):=by rw[bm];exact ((JQ _ _ _ _ (show w.heap.size≠w1.heap.size by omega)).trans y.o)
  have ar:Hid (N.heap[w1.heap.size]?=A (r7 #[I r8 8,r9 nm.1.h,I U 0,I U at_,O p2 l.1.length c2] 145 (0,0))):=by rw[bm];exact (heap_set z.o 4 _)
  have f4:=ab z.o 4;obtain⟨X,n1,n2,n3,n4⟩:=cells5 z.o;have H7:=Hd bm;clear bm;go_upto_region 12 with fail
  change xv _ _ _ _ (u.setCell ⟨w1.heap.size,4,Y⟩ (O p2 l.1.length c2));rw[←H7.o];clear X n1 n2 n3 n4 f4;have bB:Hid (OwnAt N d2 l.1 (O p2 l.1.length c2) (bI f.heap.size N.heap.size)):=by rw[c8,H7.o];exact aq.o.K fun b o C hx=>(JQ _ _ _ _ (show b≠w1.heap.size by have:=C.1;omega)).trans hx
  have HW:=Hd (di bn.o.2 cB);go_wp2_with fail
  refine JX HW.o ?_;rintro e w8 ⟨rfl,a6⟩;obtain⟨c9,ba,cA⟩:=zz3 (bn.o.h a6) (a6.q n.o j (JM _)) (a6.q ar.o j (Ke x));have en:w1.heap.size<w8.heap.size:=(JL.1 cA.o).1;have eo:N.heap.size≤w8.heap.size:=a6.1.size;have dd:=Hd ((bB.o.K fun b o C hx=>bE a6.1 hx (by have:=C.1;omega)).N (G:=bI f.heap.size w8.heap.size) fun b C=>⟨C.1,JS C.2 a6.1.size⟩);obtain⟨X,n1,n2,n3,n4⟩:=cells5 cA.o;obtain⟨a0,a1,a2,a3,a4⟩:=cells5 ba.o;have z0:=ab ba.o 0;have z1:=ab ba.o 1;have z2:=ab ba.o 2;have z3:=ab ba.o 3;have z4:=ab ba.o 4;clear a6;go_wp2_with fail
  refine bw Tryz.results147 Z (aX ba.o _ _ _ _ _) Z ?_;rw[←b2.o];exact a7.z (r:=(.mk 8 nm.1.h 0 at_ l.1,aQ ts l.2 cB)) (B:=f.heap.size) j HL.o c9.o dd.o (fF (by omega) cr.o Q.o.1 Q.o.2) (JM _) (by omega) _ _ _ _ _
 ·have v:=cm.o;rw[oe hm]at v;have k:aM ts σ [fV]=σ:=by unfold aM;rw[oe hm]
  rw[k]at b1;have m:isM ts σ [fV]=false:=by simpa using hm
  rw[m];have b2:=Hd v;clear v k hm m;obtain⟨D,S,T⟩:=zz3 (b1.o.N (r7 #[r9 fi] 9)) ((Kp w2 (r7 #[r9 fi] 9) w1.heap.size c3).trans bt.o) ((Kp w2 (r7 #[r9 fi] 9) w.heap.size (by omega)).trans cp.o);have V:=Hd (dK D.o.2 w2.heap.size 0 1 1 [fi] (bU [fi]) Z (by omega));go_wp2_with fail
  refine JX V.o ?_;rintro e w3 ⟨rfl,ht⟩;obtain⟨W,b3,bk⟩:=zz3 (D.o.h ht) (ht.q T.o j (JM _)) (ht.q S.o j (Ke x));have cq:w1.heap.size<w3.heap.size:=(JL.1 bk.o).1;clear ht D S T V
  by_cases hm:isM ts σ [fi]=tT
  ·have v:=b2.o;rw[oj hm]at v;have k:aM ts σ [fi]=ae ts σ:=by unfold aM;rw[oj hm]
   rw[k]at W;have m:isM ts σ [fi]=true:=by simpa using hm
   rw[m];have b4:=Hd v;clear v k hm m;have dg:=Hd (mI b0.o W.o.2);have cC:=jM ts (ae ts σ);generalize gq ts (ae ts σ)=nu at *;have dn:=Hd cC;clear cC;go_wp2_with fail
   refine JX dg.o ?_;rintro e w4 ⟨rfl,E⟩;obtain⟨K,bl,q⟩:=zz3 (W.o.h E) (E.q b3.o j (JM _)) (E.q bk.o j (Ke x));have ct:w1.heap.size<w4.heap.size:=(JL.1 q.o).1;have c6:w3.heap.size≤w4.heap.size:=E.1.size;clear E;obtain⟨f,g⟩:=zzx (((w4.setCell ⟨w1.heap.size,0,Y⟩ (I r8 9)).setCell ⟨w1.heap.size,2,Y⟩ (I U nu.1)));have cu:f.heap.size=w4.heap.size:=by rw[g];simp[AF]
   have cb:w1.heap.size<f.heap.size:=by omega
   have H:Hid (ah w P L cap ts nu.2.1 nu.2.2 f):=by rw[g];exact ((K.o.K j HL.o (by omega) 0 _).K j HL.o (by omega) 2 _)
   have ad:Hid (f.heap[w.heap.size]?=A (r7 bM 145 (0,0))):=by rw[g];exact ((JQ _ _ _ _ (show w.heap.size≠w1.heap.size by omega)).trans ((JQ _ _ _ _ (show w.heap.size≠w1.heap.size by omega)).trans bl.o))
   have F:Hid (f.heap[w1.heap.size]?=A (r7 #[I r8 9,r9 ⟨#[]⟩,I U nu.1,I U at_,O Y 0 0] 145 (0,0))):=by rw[g];exact (heap_set (heap_set q.o 0 _) 2 _)
   have f0:=ab q.o 0;have f2:=ab q.o 2;obtain⟨X,n1,n2,n3,n4⟩:=cells5 q.o;have H5:=Hd g;clear g;go_upto_region 12 with fail
   change xv _ _ _ _ ((w4.setCell ⟨w1.heap.size,0,Y⟩ (I r8 9)).setCell ⟨w1.heap.size,2,Y⟩ (I U nu.1));rw[←H5.o];clear X n1 n2 n3 n4 f0 f2;have ch:Hid (OwnAt f 0 [] (O Y 0 0) (bI f.heap.size f.heap.size)):=km _ _;have HW:=Hd (di H.o.2 cB);go_wp2_with fail
   refine JX HW.o ?_;rintro e u ⟨rfl,i⟩;obtain⟨M,y,z⟩:=zz3 (H.o.h i) (i.q ad.o j (JM _)) (i.q F.o j (Ke x));have cf:w1.heap.size<u.heap.size:=(JL.1 z.o).1;have cv:f.heap.size≤u.heap.size:=i.1.size;have aq:=Hd ((ch.o.K fun b o C hx=>bE i.1 hx (by have:=C.1;omega)).N (G:=bI f.heap.size u.heap.size) fun b C=>⟨C.1,JS C.2 i.1.size⟩);obtain⟨X,n1,n2,n3,n4⟩:=cells5 z.o;obtain⟨a0,a1,a2,a3,a4⟩:=cells5 y.o;have z0:=ab y.o 0;have z1:=ab y.o 1;have z2:=ab y.o 2;have z3:=ab y.o 3;have z4:=ab y.o 4;clear i;go_wp2_with fail
   refine bw Tryz.results147 Z (aX y.o _ _ _ _ _) Z ?_;rw[←b4.o];exact a7.z (r:=(.mk 9 ⟨#[]⟩ nu.1 at_ [],aQ ts nu.2 cB)) (B:=f.heap.size) j HL.o M.o aq.o (Hh (by omega) dn.o Q.o.1 Q.o.2) (JM _) (by omega) _ _ _ _ _
  ·have v:=b2.o;rw[oe hm]at v;have k:aM ts σ [fi]=σ:=by unfold aM;rw[oe hm]
   rw[k]at W;have m:isM ts σ [fi]=false:=by simpa using hm
   rw[m];have b4:=Hd v;clear v k hm m;obtain⟨D,S,T⟩:=zz3 (W.o.N (r7 #[r9 kW] 9)) ((Kp w3 (r7 #[r9 kW] 9) w1.heap.size cq).trans bk.o) ((Kp w3 (r7 #[r9 kW] 9) w.heap.size (by omega)).trans b3.o);have V:=Hd (dK D.o.2 w3.heap.size 0 1 1 [kW] (bU [kW]) Z (by omega));go_wp2_with fail
   refine JX V.o ?_;rintro e w4 ⟨rfl,ht⟩;obtain⟨K,bl,q⟩:=zz3 (D.o.h ht) (ht.q T.o j (JM _)) (ht.q S.o j (Ke x));have ct:w1.heap.size<w4.heap.size:=(JL.1 q.o).1;clear ht D S T V
   by_cases hm:isM ts σ [kW]=tT
   ·have v:=b4.o;rw[oj hm]at v;have k:aM ts σ [kW]=ae ts σ:=by unfold aM;rw[oj hm]
    rw[k]at K;have m:isM ts σ [kW]=true:=by simpa using hm
    rw[m];have ck:=Hd v;clear v k hm m;have cc:=Hd (cl.o (ae ts σ) w4 P L cap K.o.2);generalize jw ts (eP ts) (ae ts σ)=l at *;go_wp2_with fail
    refine JX cc.o ?_;rintro e f ⟨d2,s2,rfl,bR,af⟩;obtain⟨H,ad,F⟩:=zz3 (K.o.h bR) (bR.q bl.o j (JM _)) (bR.q q.o j (Ke x));have cb:w1.heap.size<f.heap.size:=(JL.1 F.o).1;have er:w4.heap.size≤f.heap.size:=bR.1.size;obtain⟨p2,c2,rfl⟩:=af.q;have ch:=Hd af;clear bR af;obtain⟨u,bq⟩:=zzx (((f.setCell ⟨w1.heap.size,0,Y⟩ (I r8 10)).setCell ⟨w1.heap.size,4,Y⟩ (O p2 l.1.length c2)));have ds:u.heap.size=f.heap.size:=by rw[bq];simp[AF]
    have cf:w1.heap.size<u.heap.size:=by omega
    have M:Hid (ah w P L cap ts l.2.1 l.2.2 u):=by rw[bq];exact ((H.o.K j HL.o (by omega) 0 _).K j HL.o (by omega) 4 _)
    have y:Hid (u.heap[w.heap.size]?=A (r7 bM 145 (0,0))):=by rw[bq];exact ((JQ _ _ _ _ (show w.heap.size≠w1.heap.size by omega)).trans ((JQ _ _ _ _ (show w.heap.size≠w1.heap.size by omega)).trans ad.o))
    have z:Hid (u.heap[w1.heap.size]?=A (r7 #[I r8 10,r9 ⟨#[]⟩,I U 0,I U at_,O p2 l.1.length c2] 145 (0,0))):=by rw[bq];exact (heap_set (heap_set F.o 0 _) 4 _)
    have f0:=ab F.o 0;have f4:=ab F.o 4;obtain⟨X,n1,n2,n3,n4⟩:=cells5 F.o;have H6:=Hd bq;clear bq;go_upto_region 12 with fail
    change xv _ _ _ _ ((f.setCell ⟨w1.heap.size,0,Y⟩ (I r8 10)).setCell ⟨w1.heap.size,4,Y⟩ (O p2 l.1.length c2));rw[←H6.o];clear X n1 n2 n3 n4 f0 f4;have aq:Hid (OwnAt u d2 l.1 (O p2 l.1.length c2) (bI w4.heap.size u.heap.size)):=by rw[ds,H6.o];exact ch.o.K fun b o C hx=>(JQ _ _ _ _ (show b≠w1.heap.size by have:=C.1;omega)).trans ((JQ _ _ _ _ (show b≠w1.heap.size by have:=C.1;omega)).trans hx)
    have HW:=Hd (di M.o.2 cB);go_wp2_with fail
    refine JX HW.o ?_;rintro e N ⟨rfl,t⟩;obtain⟨bn,n,ar⟩:=zz3 (M.o.h t) (t.q y.o j (JM _)) (t.q z.o j (Ke x));have cy:w1.heap.size<N.heap.size:=(JL.1 ar.o).1;have dt:u.heap.size≤N.heap.size:=t.1.size;have bB:=Hd ((aq.o.K fun b o C hx=>bE t.1 hx (by have:=C.1;omega)).N (G:=bI w4.heap.size N.heap.size) fun b C=>⟨C.1,JS C.2 t.1.size⟩);obtain⟨X,n1,n2,n3,n4⟩:=cells5 ar.o;obtain⟨a0,a1,a2,a3,a4⟩:=cells5 n.o;have z0:=ab n.o 0;have z1:=ab n.o 1;have z2:=ab n.o 2;have z3:=ab n.o 3;have z4:=ab n.o 4;clear t;go_wp2_with fail
    refine bw Tryz.results147 Z (aX n.o _ _ _ _ _) Z ?_;rw[←ck.o];exact a7.z (r:=(.mk 10 ⟨#[]⟩ 0 at_ l.1,aQ ts l.2 cB)) (B:=w4.heap.size) j HL.o bn.o bB.o (fF (by omega) (by show (0:Nat)≤16384;omega) Q.o.1 Q.o.2) (JM _) (by omega) _ _ _ _ _
   ·have v:=b4.o;rw[oe hm]at v;have k:aM ts σ [kW]=σ:=by unfold aM;rw[oe hm]
    rw[k]at K;have m:isM ts σ [kW]=false:=by simpa using hm
    rw[m];have ck:=Hd v;clear v k hm m;obtain⟨f,g⟩:=zzx ((w4.setCell ⟨w1.heap.size,0,Y⟩ (I r8 11)));have cu:f.heap.size=w4.heap.size:=by rw[g];simp[AF]
    have cb:w1.heap.size<f.heap.size:=by omega
    have H:Hid (ah w P L cap ts σ.1 σ.2 f):=by rw[g];exact (K.o.K j HL.o (by omega) 0 _)
    have ad:Hid (f.heap[w.heap.size]?=A (r7 bM 145 (0,0))):=by rw[g];exact ((JQ _ _ _ _ (show w.heap.size≠w1.heap.size by omega)).trans bl.o)
    have F:Hid (f.heap[w1.heap.size]?=A (r7 #[I r8 11,r9 ⟨#[]⟩,I U 0,I U at_,O Y 0 0] 145 (0,0))):=by rw[g];exact (heap_set q.o 0 _)
    have f0:=ab q.o 0;obtain⟨X,n1,n2,n3,n4⟩:=cells5 q.o;have H5:=Hd g;clear g;go_upto_region 3 with fail
    change xv _ _ _ _ (w4.setCell ⟨w1.heap.size,0,Y⟩ (I r8 11));rw[←H5.o];clear X n1 n2 n3 n4 f0;have dv:=Hd (di H.o.2 lj);generalize aQ ts σ lj=ef at *;go_wp2_with fail
    refine JX dv.o ?_;rintro e u ⟨rfl,i⟩;obtain⟨M,y,z⟩:=zz3 (H.o.h i) (i.q ad.o j (JM _)) (i.q F.o j (Ke x));have cf:w1.heap.size<u.heap.size:=(JL.1 z.o).1;have cv:f.heap.size≤u.heap.size:=i.1.size;clear i;have aq:Hid (OwnAt u 0 [] (O Y 0 0) (bI u.heap.size u.heap.size)):=km _ _;have HW:=Hd (di M.o.2 cB);go_wp2_with fail
    refine JX HW.o ?_;rintro e N ⟨rfl,t⟩;obtain⟨bn,n,ar⟩:=zz3 (M.o.h t) (t.q y.o j (JM _)) (t.q z.o j (Ke x));have cy:w1.heap.size<N.heap.size:=(JL.1 ar.o).1;have dt:u.heap.size≤N.heap.size:=t.1.size;have bB:=Hd ((aq.o.K fun b o C hx=>bE t.1 hx (by have:=C.1;omega)).N (G:=bI u.heap.size N.heap.size) fun b C=>⟨C.1,JS C.2 t.1.size⟩);obtain⟨X,n1,n2,n3,n4⟩:=cells5 ar.o;obtain⟨a0,a1,a2,a3,a4⟩:=cells5 n.o;have z0:=ab n.o 0;have z1:=ab n.o 1;have z2:=ab n.o 2;have z3:=ab n.o 3;have z4:=ab n.o 4;clear t;go_wp2_with fail
    refine bw Tryz.results147 Z (aX n.o _ _ _ _ _) Z ?_;rw[←ck.o];exact a7.z (r:=(.mk 11 ⟨#[]⟩ 0 at_ [],aQ ts ef cB)) (B:=u.heap.size) j HL.o bn.o bB.o (fF (by omega) (by show (0:Nat)≤16384;omega) Q.o.1 Q.o.2) (JM _) (by omega) _ _ _ _ _
def lM:ByteArray:=⟨#[95]⟩
def eA(ts:List Tok) (σ:PS):ac×PS:=
 if isM ts σ [lM]=tT then (.mk 12 ⟨#[]⟩ 0 (atM ts σ) [],ae ts σ)
 else if isM ts σ [bo]=tT then (.mk 14 (bo++txM ts (ae ts σ)) 0 (atM ts σ) [],(ofM ts (ae ts σ) 4 14).2)
 else if kdM ts σ=5 then ofM ts σ 5 15
 else if kdM ts σ=3 then ofM ts σ 3 13
 else ofM ts σ 4 14
theorem jE(ts:List Tok)(σ:PS):σ.1≤(eA ts σ).2.1:=by
 unfold eA;have a:=(ff ts σ).1
 (repeat' split)
 ·exact a
 ·exact JU a (eu ts _ 4 14)
 ·exact eu _ _ _ _
 ·exact eu _ _ _ _
 ·exact eu _ _ _ _
theorem DU{kind:Nat}{tx:ByteArray}{pl:Int}{ks:List ac}(a:kind<256)(b:tx.size≤16385)(c:0≤pl)(d:pl≤16384):Fits (.mk kind tx 0 pl ks):=
 ⟨a,by show tx.size≤maxLen;unfold maxLen;omega,by show (-9223372036854775808:Int)≤0;omega,by show (0:Int)<9223372036854775808;omega,by show (-9223372036854775808:Int)≤pl;omega,by show pl<9223372036854775808;omega⟩
theorem GB{ts:List Tok}(cm:cJ ts):jN ts 177 (eA ts):=by
 intro σ w P L cap h;have b3:Kr w (w.alloc (r7 bM 145)):=(JO _ w).alloc (JM _) _;obtain⟨HC,H0⟩:=zz2 (gm (h.C b3)) (h.h b3);have C:=h.lt.1;obtain⟨HL,HX,D⟩:=zz3 h.lt.2 (oc w (r7 bM 145)) cm;obtain⟨R,b4⟩:=zzy (eA ts σ);rw[b4];have j:=b4.symm;unfold eA at j;obtain⟨kd,cn⟩:=zzy (kdM ts σ);obtain⟨at_,b5⟩:=zzy (atM ts σ);rw[cn,b5]at HC j;have cp:=Hd j;have bm:Hid (0≤at_∧at_≤16384):=by
  show _∧_
  obtain⟨_,_,g3⟩:=de D.o σ.1;rw[←b5];unfold atM;omega
 clear h b3 cm b4 j b5 cn;generalize txM ts σ=tx at HC
 go_enter Tryz.func177,Tryz.ntmps177
 go_wp2_with fail
 refine JX HC.o ?_;rintro e w1 ⟨rfl,b6⟩;obtain⟨c1,cq⟩:=zz2 (H0.o.u b6) (aa b6 HX.o (by simp));have N:w.heap.size<w1.heap.size:=(JL.1 cq.o).1;clear b6;obtain⟨wA,Q⟩:=zzx (w1.alloc (r7 #[I r8 kd,r9 tx,I U at_] 192));have c3:w1.heap.size<wA.heap.size:=by rw[Q];simp
 have c5:Hid (ah w P L cap ts σ.1 σ.2 wA):=by rw[Q];exact c1.o.N _
 have c6:Hid (wA.heap[w1.heap.size]?=A (r7 #[I r8 kd,r9 tx,I U at_] 192 (0,0))):=by rw[Q];exact oc w1 _
 have c7:Hid (wA.heap[w.heap.size]?=A (r7 bM 145 (0,0))):=by rw[Q];exact (Kp w1 _ _ N).trans cq.o
 go_upto_region 2 with fail
 change xv _ _ _ _ (w1.alloc (r7 #[I r8 kd,r9 tx,I U at_] 192));rw[←Q];clear Q;obtain⟨E,ad,af⟩:=zz3 (c5.o.N (r7 #[r9 lM] 9)) ((Kp wA (r7 #[r9 lM] 9) w1.heap.size c3).trans c6.o) ((Kp wA (r7 #[r9 lM] 9) w.heap.size (by omega)).trans c7.o);have aq:=Hd (dK E.o.2 wA.heap.size 0 1 1 [lM] (bU [lM]) Z (by omega));go_wp2_with fail
 refine JX aq.o ?_;rintro e w2 ⟨rfl,ht⟩;obtain⟨bq,z,b7⟩:=zz3 (E.o.h ht) (ht.q af.o C (JM _)) (ht.q ad.o C (Ke N));have c8:w1.heap.size<w2.heap.size:=(JL.1 b7.o).1;clear ht E ad af aq
 by_cases hm:isM ts σ [lM]=tT
 ·have j:=cp.o;rw[oj hm]at j;have q:aM ts σ [lM]=ae ts σ:=by unfold aM;rw[oj hm]
  rw[q]at bq;have t:isM ts σ [lM]=true:=by simpa using hm
  rw[t];have ar:=Hd j;clear j q hm t;have et:=ar;obtain⟨m0,m1,m2,_,_,_⟩:=cells3 b7.o;obtain⟨a0,a1,a2,a3,a4⟩:=cells5 z.o;have z0:=ab z.o 0;have z1:=ab z.o 1;have z2:=ab z.o 2;have z3:=ab z.o 3;have z4:=ab z.o 4;go_wp2_with fail
  refine bw Tryz.results177 Z (aX z.o _ _ _ _ _) Z ?_;rw[ar.o];exact a7.z (r:=(.mk 12 ⟨#[]⟩ 0 at_ [],ae ts σ)) (B:=w1.heap.size) C HL.o bq.o (km _ _) (fF (by omega) (by show (0:Nat)≤16384;omega) bm.o.1 bm.o.2) (JM _) N _ _ _ _ _
 ·have j:=cp.o;rw[oe hm]at j;have q:aM ts σ [lM]=σ:=by unfold aM;rw[oe hm]
  rw[q]at bq;have t:isM ts σ [lM]=false:=by simpa using hm
  rw[t];have ar:=Hd j;clear j q hm t;obtain⟨E,ad,af⟩:=zz3 (bq.o.N (r7 #[r9 bo] 9)) ((Kp w2 (r7 #[r9 bo] 9) w1.heap.size c8).trans b7.o) ((Kp w2 (r7 #[r9 bo] 9) w.heap.size (by omega)).trans z.o);have aq:=Hd (dK E.o.2 w2.heap.size 0 1 1 [bo] (bU [bo]) Z (by omega));go_wp2_with fail
  refine JX aq.o ?_;rintro e g ⟨rfl,ht⟩;obtain⟨u,F,bt⟩:=zz3 (E.o.h ht) (ht.q af.o C (JM _)) (ht.q ad.o C (Ke N));have e7:w1.heap.size<g.heap.size:=(JL.1 bt.o).1;clear ht E ad af aq
  by_cases hm:isM ts σ [bo]=tT
  ·have j:=ar.o;rw[oj hm]at j;have q:aM ts σ [bo]=ae ts σ:=by unfold aM;rw[oj hm]
   rw[q]at u;have t:isM ts σ [bo]=true:=by simpa using hm
   rw[t];have bB:=Hd j;clear j q hm t;have HO:=Hd (AL u.o.2 (gC u.o.2.k) 4 14);have c9:=de D.o (ae ts σ).1;have cr:R=(.mk 14 (bo++(dk ts (ae ts σ).1).2.1) 0 at_ [],(eO ts.length (ae ts σ).1 ((ae ts σ).2||(dk ts (ae ts σ).1).1 != 4),((ae ts σ).2||(dk ts (ae ts σ).1).1 != 4))):=bB.o;generalize eO ts.length (ae ts σ).1 ((ae ts σ).2||(dk ts (ae ts σ).1).1 != 4)=kn at *;generalize ((ae ts σ).2||(dk ts (ae ts σ).1).1 != 4)=bn at *;obtain⟨_,ct,dd⟩:=c9;generalize (dk ts (ae ts σ).1).2.1=m at *;generalize (dk ts (ae ts σ).1).2.2=bR at *;obtain⟨b8,dg⟩:=zz2 ct cr;clear bB ct dd cr;go_wp2_with fail
   refine JX HO.o ?_;rintro e w4 ⟨rfl,f⟩;have b9:=Hd (u.o.h f);have cu:=f.q F.o C (JM _);have ca:=f.q bt.o C (Ke N);have e8:w1.heap.size<w4.heap.size:=(JL.1 ca).1;obtain⟨y,b0⟩:=zzx (w4.alloc (r7 #[I r8 14,r9 m,I U 0,I U bR,O Y 0 0] 145));have b1:Kr w4 y:=by rw[b0];exact (JO _ w4).alloc (JM _) _
   obtain⟨S,dn,cv⟩:=zz3 (b9.o.u b1) (aa b1 cu (by omega)) (aa b1 ca (by omega));have b2:Hid (y.heap[w4.heap.size]?=A (r7 #[I r8 14,r9 m,I U 0,I U bR,O Y 0 0] 145 (0,0))):=by show _=_;rw[b0];exact oc w4 _
   have e9:w4.heap.size<y.heap.size:=(JL.1 b2.o).1;clear f cu ca b1;go_upto_region 6 with fail
   change xv _ _ _ _ (w4.alloc (r7 #[I r8 14,r9 m,I U 0,I U bR,O Y 0 0] 145));rw[←b0];clear b0;obtain⟨m0,m1,m2,_,_,_⟩:=cells3 cv.o;obtain⟨e0,e1,e2,e3,e4⟩:=cells5 b2.o;have cy:=ab b2.o 1;have ds:w1.heap.size≠w4.heap.size:=by omega
   obtain⟨X,T⟩:=zzx (y.drew.setCell ⟨w4.heap.size,1,Y⟩ (r9 (bo++m)));have cA:X.cell? ⟨w1.heap.size,2,Y⟩=A (I U at_):=by
    rw[T];exact Kq _ _ _ _ _ _ ((JQ _ _ _ _ ds).trans cv.o)
   have M2:=fun x:RE.Two y.drew X=>RE.Two.h (show y.drew.cell? _=_ from m2) cA x
   have E1:=fun x:RE.Two y.drew y.drew=>RE.Two.h (show y.drew.cell? _=_ from e1) (show y.drew.cell? _=_ from e1) x
   have cC:X.heap[w4.heap.size]?=A (r7 #[I r8 14,r9 (bo++m),I U 0,I U bR,O Y 0 0] 145 (0,0)):=by
    rw[T];exact heap_set (show y.drew.heap[w4.heap.size]?=_ from b2.o) 1 _
   have cR:X.heap[w.heap.size]?=A (r7 bM 145 (0,0)):=by
    rw[T];exact (JQ _ _ _ _ (show w.heap.size≠w4.heap.size by omega)).trans dn.o
   have cT:ah w P L cap ts kn bn X:=by
    rw[T];exact ah.K ⟨o5 S.o.1 (grown_drewN (oT y _) 1),S.o.2.drew⟩ C HL.o (by omega) 1 _
   obtain⟨cV,G,dt,H6⟩:=zz4 cC cR cT T;have H:y.drew.cell? ⟨w4.heap.size,1,Y⟩=A (r9 m):=e1;have dv:y.drew.frozen? ⟨w4.heap.size,1,Y⟩=false:=cy;have cW:∀W:J,(Op.stringOp .add ⟨#[45]⟩ m).run Tryz.prog W=.ok (r9 (bo++m)) W:=fun W=>run_string_add W _ _ (by show ((1:Nat):Int)≤8388608;omega) (by have:=b8.o;omega)
   have ef:(m.size:Int)≤8388608:=by have:=b8.o;omega
   have eg:((⟨#[45]⟩:ByteArray).size:Int)≤8388608:=by show ((1:Nat):Int)≤8388608;omega
   clear m0 m1 m2 e0 e1 e2 e3 e4 cy cA cC cR cT T;refine RE.z (by kernel_rfl) 7 [6] [6] (fun s W=>if s=0 then W=y.drew else W=X) (fun _ _=>True) (fun _ _=>xk) (fun _ _ _=>True) (by kernel_rfl) (fun i h1 h2=>by rw[h1]at h2;cases h2) (fun _ _ _ _ _ _ _=>trivial) Z ?_;simp only[JY,J7,JZ,J6,Kf,List.length_nil,Nat.reduceAdd]
   repeat (first
    | (refine RE.q (fun W=>∃x:RE.Two y.drew X,W=x.1) RE.two_class Z Z Z Z ?_;go_big_quiet_step (fail);refine xL ?_)
    | (refine RE.q (fun W=>∃x:RE.Two y.drew y.drew,W=x.1) (RE.one_class (by kernel_rfl)) Z Z Z Z ?_;go_big_quiet_step (fail);refine xL ?_))
   refine RE.h Z Z ?_ (fun xs=>?_)
   ·intro W hC V _;obtain rfl:W=y.drew:=V Z;refine RE.Upon.told (v:=xk) (w':=y.drew.setCell ⟨w4.heap.size,1,Y⟩ (r9 (bo++m))) ?_ ⟨[],Z,H6.o.symm,trivial,trivial⟩;unfold RE.Upon
    go_simp
    try exact⟨rfl,rfl⟩
   simp only[Act.put];refine RE.u ?_;intro W V _;obtain rfl:X=W:=(show W=X from V).symm;clear M2 E1 H dv H6 cW ef eg;obtain⟨e0,e1,e2,e3,e4⟩:=cells5 cV.o;have fm:=ab cV.o 3;obtain⟨a0,a1,a2,a3,a4⟩:=cells5 G.o;have z0:=ab G.o 0;have z1:=ab G.o 1;have z2:=ab G.o 2;have z3:=ab G.o 3;have z4:=ab G.o 4;have en:=Hd ((JQ X ⟨w4.heap.size,3,Y⟩ (I U at_) _ (show w.heap.size≠w4.heap.size by omega)).trans G.o);have eo:=Hd (dt.o.K C HL.o (b:=w4.heap.size) (by omega) 3 (I U at_));have cb:Hid ((bo++m).size≤16385):=by
    show _≤_
    rw[ByteArray.size_append,show bo.size=1 from rfl];have:=b8.o;omega
   generalize bo++m=tl at *;go_wp2_with fail
   refine bw Tryz.results177 Z (aX en.o _ _ _ _ _) Z ?_;rw[dg.o];exact a7.z (r:=(.mk 14 tl 0 at_ [],(kn,bn))) (B:=w1.heap.size) C HL.o eo.o (km _ _) (DU (by omega) cb.o bm.o.1 bm.o.2) (JM _) N _ _ _ _ _
  ·have j:=ar.o;rw[oe hm]at j;have q:aM ts σ [bo]=σ:=by unfold aM;rw[oe hm]
   rw[q]at u;have t:isM ts σ [bo]=false:=by simpa using hm
   rw[t];have bB:=Hd j;clear j q hm t;have j:=bB.o;have cc:=bt;clear bt
   by_cases cf:kd=5
   ·subst cf;rw[oj Z]at j;subst j;have f:=u.o;have a6:=Hd (kp D.o (w:=g.drew) f.2.drew 5 15 (by omega));obtain⟨c0,_,_,_,_,_⟩:=cells3 cc.o;have ba:w1.heap.size≠P:=by omega
    have C0:=fun x:RE.Gr g P=>x.h c0 ba
    have ch:P<g.heap.size:=f.2.lt.1;have H:∀(n s:Nat) (W:J),s≤n→(if s=0 then W=g.drew else ah g P L cap ts (ofM ts σ 5 15).2.1 (ofM ts σ 5 15).2.2 W)→∃x:RE.Gr g P,W=x.1:=fun n s W _ h=>by
     split at h
     ·exact⟨⟨W,by rw[h];exact grown_drewN (oT g _) 1⟩,Z⟩
     ·exact⟨⟨W,h.1⟩,Z⟩
    have ck:=Hd H;have bb:=Hd (lN D.o σ 5 15 (by omega));have bd:(ofM ts σ 5 15).1.z=[]:=rfl;have er:=Hd bd;generalize ofM ts σ 5 15=r at *;clear H f bd;go_wp2_with fail
    clear c0;refine RE.z (by kernel_rfl) 6 [5] [5] (fun s W=>if s=0 then W=g.drew else ah g P L cap ts r.2.1 r.2.2 W) (fun W W'=>W.grownBy W' (A P))
     (fun i xs=>wP #[I r8 r.1.q,r9 r.1.h,I U r.1.u,I U r.1.C,xs.getD 0 xk])
     (fun i W xs=>gj g.heap.size r.1 W xs) (by kernel_rfl) (fun i h1 h2=>by rw[h1]at h2;cases h2) (fun k W W' xs h _ hg=>h.u ch hg) Z ?_
    simp only[JY,J7,JZ,J6,Kf,List.length_nil,Nat.reduceAdd]
    repeat (refine RE.q (fun W=>∃x:RE.Gr g P,W=x.1) (ck.o _) Z Z Z Z ?_;go_big_quiet_step (fail);refine xL ?_)
    refine RE.h Z Z ?_ (fun bg=>?_)
    ·intro W _ V _;obtain rfl:W=g.drew:=V Z;refine RE.C 143 _ _ Z (enters_of Tryz.func143 (by kernel_rfl) Z) #[vo (A ⟨P,0,Y⟩),I r8 5,I r8 15] (by simp[Act.eval]) (a6.o.mono ?_);rintro e W' ⟨d,s,rfl,hT,K,hf⟩;exact⟨_,Z,[s],Z,hT.z,hT.1,⟨d,s,Z,K,hf⟩⟩
    simp only[Act.put,JP,JW,JV];refine RE.u ?_;intro W4 V hE;have M:ah g P L cap ts r.2.1 r.2.2 W4:=V;obtain⟨d,s,rfl,K,hf⟩:=(show gj g.heap.size r.1 W4 bg from hE 5 bg Z);obtain⟨p,c,rfl⟩:=K.q;obtain⟨HO,S⟩:=zz2 K (u.o.h M);have l:=M.q F.o C (JM _);have bk:=Hd l;obtain⟨a0,a1,a2,a3,a4⟩:=cells5 l;have z0:=ab l 0;have z1:=ab l 1;have z2:=ab l 2;have z3:=ab l 3;have z4:=ab l 4;have bl:w.heap.size<g.heap.size:=(JL.1 F.o).1;clear C0 hE V K M l hf;go_wp2_with fail
    refine bw Tryz.results177 Z (aX bk.o _ _ _ _ _) Z ?_;exact a7.z C HL.o S.o HO.o bb.o (JM _) bl _ _ _ _ _
   rw[oe cf]at j;have e5:((kd:Int)==5)=false:=by simp;omega
   by_cases cl:kd=3
   ·subst cl;rw[oj Z]at j;subst j;have f:=u.o;have a6:=Hd (kp D.o (w:=g.drew) f.2.drew 3 13 (by omega));obtain⟨c0,_,_,_,_,_⟩:=cells3 cc.o;have ba:w1.heap.size≠P:=by omega
    have C0:=fun x:RE.Gr g P=>x.h c0 ba
    have ch:P<g.heap.size:=f.2.lt.1;have H:∀(n s:Nat) (W:J),s≤n→(if s=0 then W=g.drew else ah g P L cap ts (ofM ts σ 3 13).2.1 (ofM ts σ 3 13).2.2 W)→∃x:RE.Gr g P,W=x.1:=fun n s W _ h=>by
     split at h
     ·exact⟨⟨W,by rw[h];exact grown_drewN (oT g _) 1⟩,Z⟩
     ·exact⟨⟨W,h.1⟩,Z⟩
    have ck:=Hd H;have bb:=Hd (lN D.o σ 3 13 (by omega));have bd:(ofM ts σ 3 13).1.z=[]:=rfl;have er:=Hd bd;generalize ofM ts σ 3 13=r at *;clear H f bd;go_wp2_with fail
    clear c0;refine RE.z (by kernel_rfl) 6 [5] [5] (fun s W=>if s=0 then W=g.drew else ah g P L cap ts r.2.1 r.2.2 W) (fun W W'=>W.grownBy W' (A P))
     (fun i xs=>wP #[I r8 r.1.q,r9 r.1.h,I U r.1.u,I U r.1.C,xs.getD 0 xk])
     (fun i W xs=>gj g.heap.size r.1 W xs) (by kernel_rfl) (fun i h1 h2=>by rw[h1]at h2;cases h2) (fun k W W' xs h _ hg=>h.u ch hg) Z ?_
    simp only[JY,J7,JZ,J6,Kf,List.length_nil,Nat.reduceAdd]
    repeat (refine RE.q (fun W=>∃x:RE.Gr g P,W=x.1) (ck.o _) Z Z Z Z ?_;go_big_quiet_step (fail);refine xL ?_)
    refine RE.h Z Z ?_ (fun bg=>?_)
    ·intro W _ V _;obtain rfl:W=g.drew:=V Z;refine RE.C 143 _ _ Z (enters_of Tryz.func143 (by kernel_rfl) Z) #[vo (A ⟨P,0,Y⟩),I r8 3,I r8 13] (by simp[Act.eval]) (a6.o.mono ?_);rintro e W' ⟨d,s,rfl,hT,K,hf⟩;exact⟨_,Z,[s],Z,hT.z,hT.1,⟨d,s,Z,K,hf⟩⟩
    simp only[Act.put,JP,JW,JV];refine RE.u ?_;intro W4 V hE;have M:ah g P L cap ts r.2.1 r.2.2 W4:=V;obtain⟨d,s,rfl,K,hf⟩:=(show gj g.heap.size r.1 W4 bg from hE 5 bg Z);obtain⟨p,c,rfl⟩:=K.q;obtain⟨HO,S⟩:=zz2 K (u.o.h M);have l:=M.q F.o C (JM _);have bk:=Hd l;obtain⟨a0,a1,a2,a3,a4⟩:=cells5 l;have z0:=ab l 0;have z1:=ab l 1;have z2:=ab l 2;have z3:=ab l 3;have z4:=ab l 4;have bl:w.heap.size<g.heap.size:=(JL.1 F.o).1;clear C0 hE V K M l hf;go_wp2_with fail
    refine bw Tryz.results177 Z (aX bk.o _ _ _ _ _) Z ?_;exact a7.z C HL.o S.o HO.o bb.o (JM _) bl _ _ _ _ _
   rw[oe cl]at j;have e6:((kd:Int)==3)=false:=by simp;omega
   subst j;have a6:=Hd (kp D.o u.o.2 4 14 (by omega));obtain⟨c0,_,_,_,_,_⟩:=cells3 cc.o;generalize ofM ts σ 4 14=r at *;clear cf cl;go_wp2_with fail
   refine JX a6.o ?_;rintro e w4 ⟨d,s,rfl,f,K,hf⟩;obtain⟨p,c,rfl⟩:=K.q;have b9:=Hd (u.o.h f);have l:=f.q F.o C (JM _);have bk:=Hd l;obtain⟨a0,a1,a2,a3,a4⟩:=cells5 l;have z0:=ab l 0;have z1:=ab l 1;have z2:=ab l 2;have z3:=ab l 3;have z4:=ab l 4;obtain⟨HO,HF⟩:=zz2 K hf;have bl:w.heap.size<g.heap.size:=(JL.1 F.o).1;clear f l K hf c0;go_wp2_with fail
   refine bw Tryz.results177 Z (aX bk.o _ _ _ _ _) Z ?_;exact a7.z C HL.o b9.o HO.o HF.o (JM _) bl _ _ _ _ _
def jo:ByteArray:=⟨#[102,97,99,116]⟩
def qM:ByteArray:=⟨#[114,117,108,101]⟩
def eB(ts:List Tok) (a:Int→PS→ac×PS) (σ:PS):ac×PS:=
 if isM ts σ [jo]=tT then (.mk 2 (ofM ts (ae ts σ) 2 2).1.h 0 (atM ts σ) (cD ts (fun σ=>ofM ts σ 2 3) (ofM ts (ae ts σ) 2 2).2).1,aQ ts (cD ts (fun σ=>ofM ts σ 2 3) (ofM ts (ae ts σ) 2 2).2).2 cB)
 else a (atM ts σ) (aQ ts σ qM)
theorem xw{ts:List Tok}{b:Int→PS→ac×PS}(h:∀a σ,σ.1≤(b a σ).2.1)(σ:PS):σ.1≤(eB ts b σ).2.1:=by
 unfold eB;have c:=(ff ts σ).1
 split
 ·exact JU c (JU (eu ts _ 2 2) (JU (iG (fun σ=>eu ts σ 2 3) _) (bH ts _ _)))
 ·exact JU (bH ts σ qM) (h _ _)
def Dv(ts:List Tok) (b:Int→PS→ac×PS):Prop:=∀(a:Int) (σ:PS) (w:J) (P L cap:Nat),0≤a→a≤16384→PAt w P L cap ts σ.1 σ.2→
 Calls Tryz.prog 122 #[vo (A ⟨P,0,Y⟩),wP #[I r8 0,r9 ⟨#[]⟩,I U 0,I U a,O Y 0 0]] w (a7 w P L cap ts (b a σ))
theorem Dx{ts:List Tok}(H:cJ ts){ru:Int→PS→ac×PS}(bk:Dv ts ru):jN ts 93 (eB ts ru):=by
 intro σ w P L cap h;have V:Kr w (w.alloc (r7 bM 145)):=(JO _ w).alloc (JM _) _;obtain⟨HC,H0⟩:=zz2 (gm (h.C V)) (h.h V);have j:=h.lt.1;obtain⟨HL,HX,W,X,b2⟩:=zz5 h.lt.2 (oc w (r7 bM 145)) H (fun σ w P L cap h=>pK H (enters_of Tryz.func120 (by kernel_rfl) Z) (BF H) (fun σ=>eu ts σ 2 3) σ w P L cap h) bk;obtain⟨R,ad⟩:=zzy (eB ts ru σ);rw[ad];have y:=ad;unfold eB at y;obtain⟨at_,af⟩:=zzy (atM ts σ);rw[af]at HC y;have bl:=Hd y;have K:Hid (0≤at_∧at_≤16384):=by
  show _∧_
  obtain⟨_,_,g3⟩:=de W.o σ.1;rw[←af];unfold atM;omega
 clear h V H bk ad y af;generalize kdM ts σ=kd at HC;generalize txM ts σ=tx at HC
 go_enter Tryz.func93,Tryz.ntmps93
 go_wp2_with fail
 refine JX HC.o ?_;rintro e w1 ⟨rfl,aq⟩;have b3:=kF kd tx at_ w1;obtain⟨b4,bm⟩:=zz2 (H0.o.u aq) (aa aq HX.o (by simp));have n:w.heap.size<w1.heap.size:=(JL.1 bm.o).1;clear aq;obtain⟨M,q⟩:=zzx (w1.alloc (r7 #[I r8 0,r9 ⟨#[]⟩,I U 0,I U at_,O Y 0 0] 145));have b5:w1.heap.size<M.heap.size:=by rw[q];simp
 have b6:Hid (ah w P L cap ts σ.1 σ.2 M):=by rw[q];exact b4.o.N _
 have b7:Hid (M.heap[w1.heap.size]?=A (r7 #[I r8 0,r9 ⟨#[]⟩,I U 0,I U at_,O Y 0 0] 145 (0,0))):=by rw[q];exact oc w1 _
 have b8:Hid (M.heap[w.heap.size]?=A (r7 bM 145 (0,0))):=by rw[q];exact (Kp w1 _ _ n).trans bm.o
 go_upto_region 2 with fail
 change xv _ _ _ _ (w1.alloc (r7 #[I r8 0,r9 ⟨#[]⟩,I U 0,I U at_,O Y 0 0] 145));rw[←q];clear b3 q;obtain⟨ar,bn,bq⟩:=zz3 (b6.o.N (r7 #[r9 jo] 9)) ((Kp M (r7 #[r9 jo] 9) w1.heap.size b5).trans b7.o) ((Kp M (r7 #[r9 jo] 9) w.heap.size (by omega)).trans b8.o);have bt:=Hd (dK ar.o.2 M.heap.size 0 1 1 [jo] (bU [jo]) Z (by omega));go_wp2_with fail
 refine JX bt.o ?_;rintro e w2 ⟨rfl,ht⟩;obtain⟨t,bB,a6⟩:=zz3 (ar.o.h ht) (ht.q bq.o j (JM _)) (ht.q bn.o j (Ke n));have cA:w1.heap.size<w2.heap.size:=(JL.1 a6.o).1;clear ht ar bn bq bt
 by_cases hm:isM ts σ [jo]=tT
 ·have y:=bl.o;rw[oj hm]at y;have z:aM ts σ [jo]=ae ts σ:=by unfold aM;rw[oj hm]
  rw[z]at t;have C:isM ts σ [jo]=true:=by simpa using hm
  rw[C];have ba:=Hd y;clear y z hm C;have b9:=Hd (jy W.o t.o.2 2 (by omega));have T:(ofM ts (ae ts σ) 2 2).1.h.size≤16384:=(de W.o _).2.1;generalize ofM ts (ae ts σ) 2 2=nm at *;have bR:=Hd T;clear T;go_wp2_with fail
  refine JX b9.o ?_;rintro e w4 ⟨d,s,rfl,f,ho,hf⟩;obtain⟨N,bb,i⟩:=zz3 (t.o.h f) (f.q bB.o j (JM _)) (f.q a6.o j (Ke n));have ca:w1.heap.size<w4.heap.size:=(JL.1 i.o).1;have cb:w2.heap.size≤w4.heap.size:=f.1.size;obtain⟨p,c,rfl⟩:=ho.q;have cc:=iP nm.1.q nm.1.h nm.1.u nm.1.C nm.1.z.length p c w4;clear f ho hf;obtain⟨u,v⟩:=zzx (((w4.setCell ⟨w1.heap.size,0,Y⟩ (I r8 2)).setCell ⟨w1.heap.size,1,Y⟩ (r9 nm.1.h)));have cC:u.heap.size=w4.heap.size:=by rw[v];simp[AF]
  have cR:w1.heap.size<u.heap.size:=by omega
  have Q:Hid (ah w P L cap ts nm.2.1 nm.2.2 u):=by rw[v];exact ((N.o.K j HL.o (by omega) 0 _).K j HL.o (by omega) 1 _)
  have g:Hid (u.heap[w.heap.size]?=A (r7 bM 145 (0,0))):=by rw[v];exact ((JQ _ _ _ _ (show w.heap.size≠w1.heap.size by omega)).trans ((JQ _ _ _ _ (show w.heap.size≠w1.heap.size by omega)).trans bb.o))
  have cf:Hid (u.heap[w1.heap.size]?=A (r7 #[I r8 2,r9 nm.1.h,I U 0,I U at_,O Y 0 0] 145 (0,0))):=by rw[v];exact (heap_set (heap_set i.o 0 _) 1 _)
  have f0:=ab i.o 0;have f1:=ab i.o 1;obtain⟨n0,n1,n2,n3,n4⟩:=cells5 i.o;have H5:=Hd v;clear v;go_upto_region 4 with fail
  change xv _ _ _ _ ((w4.setCell ⟨w1.heap.size,0,Y⟩ (I r8 2)).setCell ⟨w1.heap.size,1,Y⟩ (r9 nm.1.h));rw[←H5.o];clear n0 n1 n2 n3 n4 f0 f1;clear cc;have ch:=Hd (X.o nm.2 u P L cap Q.o.2);generalize cD ts (fun σ=>ofM ts σ 2 3) nm.2=l at *;go_wp2_with fail
  refine JX ch.o ?_;rintro e w6 ⟨d2,s2,rfl,D,bd⟩;obtain⟨ck,cl,S⟩:=zz3 (Q.o.h D) (D.q g.o j (JM _)) (D.q cf.o j (Ke n));have cT:w1.heap.size<w6.heap.size:=(JL.1 S.o).1;have cV:u.heap.size≤w6.heap.size:=D.1.size;obtain⟨p2,c2,rfl⟩:=bd.q;have cm:=Hd bd;clear D bd;obtain⟨F,x⟩:=zzx ((w6.setCell ⟨w1.heap.size,4,Y⟩ (O p2 l.1.length c2)));have cn:F.heap.size=w6.heap.size:=by rw[x];simp[AF]
  have cW:w1.heap.size<F.heap.size:=by omega
  have b0:Hid (ah w P L cap ts l.2.1 l.2.2 F):=by rw[x];exact (ck.o.K j HL.o (by omega) 4 _)
  have cp:Hid (F.heap[w.heap.size]?=A (r7 bM 145 (0,0))):=by rw[x];exact ((JQ _ _ _ _ (show w.heap.size≠w1.heap.size by omega)).trans cl.o)
  have cq:Hid (F.heap[w1.heap.size]?=A (r7 #[I r8 2,r9 nm.1.h,I U 0,I U at_,O p2 l.1.length c2] 145 (0,0))):=by rw[x];exact (heap_set S.o 4 _)
  have f4:=ab S.o 4;obtain⟨n0,n1,n2,n3,n4⟩:=cells5 S.o;have H7:=Hd x;clear x;go_upto_region 5 with fail
  change xv _ _ _ _ (w6.setCell ⟨w1.heap.size,4,Y⟩ (O p2 l.1.length c2));rw[←H7.o];clear n0 n1 n2 n3 n4 f4;have cr:Hid (OwnAt F d2 l.1 (O p2 l.1.length c2) (bI u.heap.size F.heap.size)):=by rw[cn,H7.o];exact cm.o.K fun b o hb hx=>(JQ _ _ _ _ (show b≠w1.heap.size by have:=hb.1;omega)).trans hx
  have HW:=Hd (di b0.o.2 cB);go_wp2_with fail
  refine JX HW.o ?_;rintro e w8 ⟨rfl,k⟩;obtain⟨ct,m,b1⟩:=zz3 (b0.o.h k) (k.q cp.o j (JM _)) (k.q cq.o j (Ke n));have c0:w1.heap.size<w8.heap.size:=(JL.1 b1.o).1;have c1:F.heap.size≤w8.heap.size:=k.1.size;have cu:=Hd ((cr.o.K fun b o hb hx=>bE k.1 hx (by have:=hb.1;omega)).N (G:=bI u.heap.size w8.heap.size) fun b hb=>⟨hb.1,JS hb.2 k.1.size⟩);obtain⟨n0,n1,n2,n3,n4⟩:=cells5 b1.o;obtain⟨a0,a1,a2,a3,a4⟩:=cells5 m.o;have z0:=ab m.o 0;have z1:=ab m.o 1;have z2:=ab m.o 2;have z3:=ab m.o 3;have z4:=ab m.o 4;clear k;go_wp2_with fail
  refine bw Tryz.results93 Z (aX m.o _ _ _ _ _) Z ?_;rw[←ba.o];exact a7.z (r:=(.mk 2 nm.1.h 0 at_ l.1,aQ ts l.2 cB)) (B:=u.heap.size) j HL.o ct.o cu.o (fF (by omega) bR.o K.o.1 K.o.2) (JM _) (by omega) _ _ _ _ _
 ·have y:=bl.o;rw[oe hm]at y;have z:aM ts σ [jo]=σ:=by unfold aM;rw[oe hm]
  rw[z]at t;have C:isM ts σ [jo]=false:=by simpa using hm
  rw[C];have ba:=Hd y;clear y z hm C;have cv:=Hd (di t.o.2 qM);generalize aQ ts σ qM=cy at *;go_wp2_with fail
  refine JX cv.o ?_;rintro e w4 ⟨rfl,f⟩;obtain⟨N,bb,i⟩:=zz3 (t.o.h f) (f.q bB.o j (JM _)) (f.q a6.o j (Ke n));have ca:w1.heap.size<w4.heap.size:=(JL.1 i.o).1;have cb:w2.heap.size≤w4.heap.size:=f.1.size;clear f;have E:=Hd (b2.o at_ cy w4 P L cap K.o.1 K.o.2 N.o.2);rw[ba.o]at E;obtain⟨n0,n1,n2,n3,n4⟩:=cells5 i.o;go_wp2_with fail
  refine JX E.o ?_;rintro e u ⟨d,s,rfl,bg,ho,hf⟩;obtain⟨p,c,rfl⟩:=ho.q;obtain⟨Q,g⟩:=zz2 (N.o.h bg) (bg.q bb.o j (JM _));obtain⟨a0,a1,a2,a3,a4⟩:=cells5 g.o;have z0:=ab g.o 0;have z1:=ab g.o 1;have z2:=ab g.o 2;have z3:=ab g.o 3;have z4:=ab g.o 4;obtain⟨HO,HF⟩:=zz2 ho hf;clear bg ho hf n0 n1 n2 n3 n4;go_wp2_with fail
  refine bw Tryz.results93 Z (aX g.o _ _ _ _ _) Z ?_;exact a7.z j HL.o Q.o HO.o HF.o (JM _) (by omega) _ _ _ _ _
section
variable {ts:List Tok} {σ:PS}
theorem nG(h:σ.2=tT)(texts:List ByteArray):isM ts σ texts=false:=by unfold isM;rw[h];rfl
theorem ez(h:σ.2=tT)(x:ByteArray):(aQ ts σ x).2=true:=by
 show tg σ.2 _ _=tT
 unfold tg;rw[h];rfl
theorem qS(h:σ.2=tT)(tok kind:Nat):(ofM ts σ tok kind).2.2=true:=by
 show (σ.2||_)=tT
 rw[h];rfl
end
theorem rD{ts:List Tok}{σ:PS}(h:σ.2=tT):(eA ts σ).2.2=true:=by
 unfold eA;rw[oe (by rw[nG h];decide),oe (by rw[nG h];decide)]
 split
 ·exact qS h _ _
 ·split
  ·exact qS h _ _
  ·exact qS h _ _
theorem zv{ts:List Tok}{one:PS→ac×PS}{σ:PS}(h:σ.2=tT):∀(g:Nat) (ks:List ac),eY ts one g ks σ=(ks,σ):=by
 intro g ks
 cases g with
 | zero=>rfl
 | succ g=>unfold eY;rw[oe (by rw[nG h];decide)]
theorem FC{ts:List Tok}{one:PS→ac×PS}(a:∀σ:PS,σ.2=tT→(one σ).2.2=tT){σ:PS}(h:σ.2=tT):(jw ts one σ).2.2=true:=by
 unfold jw;rw[zv (a σ h)];exact a σ h
theorem Es{ts:List Tok}{one:PS→ac×PS}(a:∀σ:PS,σ.2=tT→(one σ).2.2=tT){σ:PS}(h:σ.2=tT):(cD ts one σ).2.2=true:=by
 unfold cD;rw[oe (by rw[nG (ez h _)];decide)];exact ez (FC a (ez h _)) _
theorem I0{ts:List Tok}(c:cJ ts){σ:PS}(d:σ.1<ts.length){tok:Nat}(h:tok≠7)(kind:Nat):(ofM ts σ tok kind).2.2=tT∨σ.1<(ofM ts σ tok kind).2.1:=by
 cases e:(ofM ts σ tok kind).2.2 with
 | true=>exact Or.inl Z
 | false =>
  right
  have b:(σ.2||(dk ts σ.1).1 != tok)=false:=e
  show σ.1<eO ts.length σ.1 (σ.2||(dk ts σ.1).1 != tok)
  rw[b];have f:(dk ts σ.1).1=tok:=by
   cases g:σ.2<;>simp[g]at b
   exact b
  have a:σ.1+1<ts.length:=by
   by_cases a:σ.1+1<ts.length
   ·exact a
   ·exfalso
    have:=c.last σ.1 _ (gC d) a;omega
  rw[sk a];omega
theorem sn{ts:List Tok}(a:cJ ts){b:PS→ac×PS}(c:∀σ,σ.1≤(b σ).2.1)(d:∀σ:PS,σ.2=tT→(b σ).2.2=tT){σ:PS}(f:σ.1<ts.length):(dL ts b σ).2.2=tT∨σ.1<(dL ts b σ).2.1:=by
 unfold dL
 by_cases g:isM ts σ [jl]=tT
 ·rw[oj g];obtain⟨i,_,_⟩:=fD a f g
  right
  have e:=gk ts (ae ts σ);have j:=bH ts (eP ts (ae ts σ)).2 cB;dsimp only;omega
 ·rw[oe g]
  by_cases e:isM ts σ [fw]=tT
  ·rw[oj e];obtain⟨i,_,_⟩:=fD a f e
   right
   have j:=eu ts (ae ts σ) 2 6;have k:=iG (ts:=ts) c (ofM ts (ae ts σ) 2 6).2;have l:=bH ts (cD ts b (ofM ts (ae ts σ) 2 6).2).2 cB;dsimp only;omega
  ·rw[oe e];rcases I0 a f (show 2≠7 by omega) 5 with h|h
   ·left
    exact ez (Es d h) _
   ·right
    have k:=iG (ts:=ts) c (ofM ts σ 2 5).2;have l:=bH ts (cD ts b (ofM ts σ 2 5).2).2 cB;dsimp only;omega
theorem ud{ts:List Tok}(a:cJ ts){σ:PS}(d:σ.1<ts.length):(fh ts σ).2.2=tT∨σ.1<(fh ts σ).2.1:=by
 unfold fh
 by_cases f:isM ts σ [fV]=tT
 ·rw[oj f];obtain⟨e,_,_⟩:=fD a d f
  right
  have b:=eu ts (ae ts σ) 2 8;have c:=iG (ts:=ts) (gk ts) (ofM ts (ae ts σ) 2 8).2;have g:=bH ts (cD ts (eP ts) (ofM ts (ae ts σ) 2 8).2).2 cB;dsimp only;omega
 ·rw[oe f]
  by_cases h:isM ts σ [fi]=tT
  ·rw[oj h];obtain⟨e,_,_⟩:=fD a d h
   right
   have b:=qH ts (ae ts σ);have g:=bH ts (gq ts (ae ts σ)).2 cB;dsimp only;omega
  ·rw[oe h]
   by_cases b:isM ts σ [kW]=tT
   ·rw[oj b];obtain⟨e,_,_⟩:=fD a d b
    right
    have c:=uc (ts:=ts) (gk ts) (ae ts σ);have g:=bH ts (jw ts (eP ts) (ae ts σ)).2 cB;dsimp only;omega
   ·rw[oe b];dsimp only
    by_cases c:isM ts σ [lj]=tT
    ·obtain⟨e,_,_⟩:=fD a d c
     right
     have g:=bH ts (aQ ts σ lj) cB;have i:(aQ ts σ lj).1=σ.1+1:=by
      rw[←e,←o4 Prod.fst (show aM ts σ [lj]=ae ts σ by unfold aM;rw[oj c])];exact (kw ts σ [lj]).1.symm
     omega
    ·left
     refine ez ?_ _
     show (!isM ts σ [lj])=tT
     rw[Bool.eq_false_iff.2 c];rfl
def upTo(ts:List Tok) (one:PS→ac×PS) (stop:ByteArray):Nat→List ac→PS→List ac×PS
 | 0,ks,σ=>(ks,σ)
 | g+1,ks,σ=>if σ.2=tT then (ks,σ) else if isM ts σ [stop]=tT then (ks,σ) else upTo ts one stop g (ks++[(one σ).1]) (one σ).2
theorem Ai{ts:List Tok}{one:PS→ac×PS}(a:∀σ,σ.1≤(one σ).2.1)(stop:ByteArray):∀(g:Nat) (ks:List ac) (σ:PS),σ.1≤(upTo ts one stop g ks σ).2.1:=by
 intro g
 induction g with
 | zero=>intro ks σ;exact JM _
 | succ g b =>
  intro ks σ;unfold upTo
  split
  ·exact JM _
  ·split
   ·exact JM _
   ·exact JU (a σ) (b _ _)
def lV:ByteArray:=⟨#[115,97,108,105,101,110,99,101]⟩
def tTo:ByteArray:=⟨#[61,62]⟩
def lm:ByteArray:=⟨#[123]⟩
def dA:ByteArray:=⟨#[125]⟩
def iC(ts:List Tok) (σ:PS):Int×PS:=
 if isM ts σ [lV]=tT then
  if isM ts (ae ts σ) [bo]=tT then (-((gq ts (ae ts (ae ts σ))).1:Int),(gq ts (ae ts (ae ts σ))).2)
  else ((gq ts (ae ts σ)).1,(gq ts (ae ts σ)).2)
 else (0,σ)
theorem IQ(ts:List Tok)(σ:PS):σ.1≤(iC ts σ).2.1:=by
 unfold iC;have a:=(ff ts σ).1
 split
 ·split
  ·exact JU a (JU (ff ts _).1 (qH ts _))
  ·exact JU a (qH ts _)
 ·exact JM _
def dT(ts:List Tok) (a:Int) (σ:PS):ac×PS:=
 let nm:=ofM ts σ 2 4
 let b:=iC ts nm.2
 let cs:=upTo ts (dL ts (eA ts)) tTo (ts.length+1) [] (aQ ts b.2 lm)
 let c:=upTo ts (fh ts) dA (ts.length+1) cs.1 (aQ ts cs.2 tTo)
 (.mk 4 nm.1.h b.1 a c.1,aQ ts c.2 dA)
theorem rV(ts:List Tok)(a:Int)(σ:PS):σ.1≤(dT ts a σ).2.1:=by
 unfold dT;dsimp only;have c:=eu ts σ 2 4;have d:=IQ ts (ofM ts σ 2 4).2;have e:=bH ts (iC ts (ofM ts σ 2 4).2).2 lm;have f:=Ai (ts:=ts) (rH (ts:=ts) (jE ts)) tTo (ts.length+1) [] (aQ ts (iC ts (ofM ts σ 2 4).2).2 lm);generalize upTo ts (dL ts (eA ts)) tTo (ts.length+1) [] (aQ ts (iC ts (ofM ts σ 2 4).2).2 lm)=cs at *;have g:=bH ts cs.2 tTo;have h:=Ai (ts:=ts) (ug ts) dA (ts.length+1) cs.1 (aQ ts cs.2 tTo);generalize upTo ts (fh ts) dA (ts.length+1) cs.1 (aQ ts cs.2 tTo)=b at *;have i:=bH ts b.2 dA;omega
def dpM:Nat→ac→Option Int
 | 0,T=>A T.C
 | n+1,T=>T.z.findSome? (dpM n)
def Jm(x:Option Int) (w:J) (e:Ending) (w':J):Prop:=e=Ending.returned (Value.tuple #[I U (x.getD 0),Value.bool x.isSome])∧Kr w w'
def JE(b:J) (n m:Nat) (ks:List ac) (i:tS) (W:J):Prop:=∃(a:J) (k:Nat),a=W∧k≤m∧i=I U k∧Kr b a∧(ks.take k).findSome? (dpM n)=Y
theorem CU:∀(n:Nat) (a d:Nat) (T:ac) (u:tS) (B:Nat) (w:J),a+n=30→fN w B d T u→B≤w.heap.size→wR d T.z→Calls Tryz.prog 94 #[u,I U a] w (Jm (dpM n T) w):=by
 intro n
 induction n with
 | zero =>
  intro a d T u B w ha hu hB hs;obtain⟨_,s,rfl,C⟩:=hu;obtain⟨p,l,c,rfl⟩:=C.q;obtain rfl:a=30:=by omega
  have N:=IY w T (O p l c);have HB:=Hd ((JO _ w).alloc (JM _) (r7 #[I r8 T.q,r9 T.h,I U T.u,I U T.C,O p l c] 145));obtain⟨x0,x1,x2,x3,x4⟩:=cells5 (oc w (r7 #[I r8 T.q,r9 T.h,I U T.u,I U T.C,O p l c] 145));clear N
  go_enter Tryz.func94,Tryz.ntmps94
  go_wp2_with fail
  go_ret2
  exact⟨Z,HB.o⟩
 | succ n ih =>
  intro a d T u B w ha hu hB hs;obtain⟨_,s,rfl,C⟩:=hu;have a1:T.z.length≤20000:=by
   cases d with
   | zero=>rw[C.1];exact J0 _
   | succ d=>exact hs.1
  have g:∀t∈T.z,wR (d-1) t.z:=by
   cases d with
   | zero=>intro t hT;rw[C.1]at hT;cases hT
   | succ d=>intro t hT;exact (hs.2 t hT).z
  obtain⟨p,c,rfl,_,D⟩:=C.rows;have v:Hid (dpM (n+1) T=T.z.findSome? (dpM n)):=rfl;obtain⟨x,hx⟩:=zzy (dpM (n+1) T);rw[hx]at v ⊢;obtain⟨m,hm⟩:=zzy (T.z.length);rw[hm]at a1;obtain⟨P,E,Q,a6⟩:=zz4 hm D g ih;have bl:(a:Int)<30:=by omega
  have HA:Hid ((a+1)+n=30):=by show _=_;omega
  obtain⟨W0,z⟩:=zzx (w.alloc (r7 #[I r8 T.q,r9 T.h,I U T.u,I U T.C,O p T.z.length c] 145));have HX:Hid (W0.heap[w.heap.size]?=A (r7 #[I r8 T.q,r9 T.h,I U T.u,I U T.C,O p T.z.length c] 145 (0,0))):=by rw[z];exact oc w _
  have R:Hid (Kr w W0):=by rw[z];exact (JO _ w).alloc (JM _) _
  obtain⟨x0,x1,x2,x3,x4⟩:=cells5 (oc w (r7 #[I r8 T.q,r9 T.h,I U T.u,I U T.C,O p T.z.length c] 145));clear C hs g D ih hm hx ha;obtain⟨ks,H⟩:=zzy (T.z);rw[H]at v P E Q;have ba:=Hd H;clear H
  go_enter Tryz.func94,Tryz.ntmps94
  go_upto_region 3 with fail
  change xv _ _ _ _ (w.alloc (r7 #[I r8 T.q,r9 T.h,I U T.u,I U T.C,O p T.z.length c] 145));rw[←z];clear x0 x1 x2 x3 x4 z;obtain⟨y0,y1,y2,y3,y4⟩:=cells5 HX.o;rw[show T.z.length=m by rw[ba.o];exact P.o]at y4;go_wp2_with fail
  clear y0 y1 y2 y3 y4
  go_loopw [17] (JE W0 n m ks) (fun i _=>m-(intOf i).toNat)
  case atStart=>exact⟨_,0,Z,J0 _,Z,JO _ _,Z⟩
  case round =>
   obtain⟨W1,k,rfl,C,rfl,hb,S⟩:=hrel;have bb:(0:Int)≤k:=by omega
   have f:=R.o.trans (hb.mono R.o.size);obtain⟨K,V,W⟩:=zz3 f S hb;clear S hb
   by_cases L:k<m
   ·obtain⟨t,ht⟩:∃t,ks[k]?=A t:=⟨ks[k]'(by rw[P.o];exact L),JR (by rw[P.o];exact L)⟩;have F:t∈ks:=J8 ht;obtain⟨hd,b,off,rfl,bd,G⟩:=E.o k t ht;obtain⟨p',l',c',d0,d1,d2,d3,d4,h⟩:=G.node (f.mono hB) bd;have bm:(k:Int)<m:=by omega
    have j:=Hd (a6.o (a+1) _ t _ B _ HA.o (h.N (JU hB f.size) (r7 #[I r8 t.q,r9 t.h,I U t.u,I U t.C,O p' l' c'] 145)) (by have:=f.size;rw[o3];omega) (Q.o t F));rw[Int.natCast_succ]at j;have X:=Hd ((JO _ W1).alloc (JM _) (r7 #[I r8 t.q,r9 t.h,I U t.u,I U t.C,O p' l' c'] 145))
    have r:=Hd (show (ks.take (k+1)).findSome? (dpM n)=(dpM n t) by
     rw[Kj,ht,List.findSome?_append,V.o]
     simp)
    have M:Hid (ks.findSome? (dpM n)=((ks.take (k+1)).findSome? (dpM n)).or ((ks.drop (k+1)).findSome? (dpM n))):=by
     show _=_
     conv=>lhs;rw[←List.take_append_drop (k+1) ks]
     rw[List.findSome?_append]
    generalize hy:dpM n t=y at *;clear h G F ht hd f hy;go_wp2_with fail
    refine j.o.mono ?_;rintro e W2 ⟨rfl,ad⟩;have af:=Hd (X.o.trans (ad.mono X.o.size));clear ad d0 d1 d2 d3 d4
    cases y with
    | none =>
     go_wp2_with fail
     exact⟨⟨_,k+1,Z,by omega,by go_num,W.o.trans (af.o.mono W.o.size),r.o⟩,by simp[intOf];omega⟩
    | some q =>
     have aq:x=A q:=by rw[v.o,M.o,r.o];rfl
     have bg:=Hd aq;clear aq;go_wp2_with fail
     go_ret2
     rw[bg.o];exact⟨Z,K.o.trans (af.o.mono K.o.size)⟩
   ·obtain rfl:k=m:=by omega
    have ar:x=none:=by rw[v.o,←V.o,←P.o,List.take_length]
    have bk:=Hd ar;clear C L bb ar f;go_wp2_with fail
    go_ret2
    rw[bk.o];exact⟨Z,K.o⟩
theorem uB{w X p c:J}{P L cap k k3:Nat}{bad q:Bool}{ts:List Tok}{f l d g7 a:Nat}{ks:List ac}{rows:List (List tS)}{Fs:Nat→Nat→Prop}{o S T c2 V:tS}{t:ac}{W N d2:Nat}{s2:tS}
  (hP:P<w.heap.size) (hL:L<w.heap.size) (ad:w.heap.size≤f) (u:f<l) (hX:l≤X.heap.size) (hT:ah w P L cap ts k bad X)
  (af:X.heap[f]?=A (r7 #[S,T,c2,V,o] 145 (0,0))) (G:X.ownsRow l 145 5 o ks.length rows.flatten) (v:cI X l d ks ks.length o.ownBlock rows Fs)
  (m:ah X P L cap ts k3 q p) (aq:p.heap[W]?=A (r7 (aj t s2).toArray 145 (0,0))) (ho:OwnAt p d2 t.z s2 (bI X.heap.size N)) (hf:Fits t) (ar:X.heap.size≤N) (bd:N≤W)
  (r:c.ownsRow l 145 5 (O (A ⟨g7,0,Y⟩) (ks.length+1) a) (ks.length+1) (rows.flatten++aj t s2)) (i:p.grownBy c o.ownBlock) (y:o.ownBlock=A g7∨g7=p.heap.size) :
  ∃d' j z,ah w P L cap ts k3 q (c.setCell ⟨f,4,Y⟩ (O (A ⟨g7,0,Y⟩) (ks.length+1) a))∧
   (∀b,b<l→b≠P→b≠f→(c.setCell ⟨f,4,Y⟩ (O (A ⟨g7,0,Y⟩) (ks.length+1) a)).heap[b]?=X.heap[b]?)∧
   (c.setCell ⟨f,4,Y⟩ (O (A ⟨g7,0,Y⟩) (ks.length+1) a)).heap[f]?=A (r7 #[S,T,c2,V,O (A ⟨g7,0,Y⟩) (ks.length+1) a] 145 (0,0))∧
   (c.setCell ⟨f,4,Y⟩ (O (A ⟨g7,0,Y⟩) (ks.length+1) a)).ownsRow l 145 5 (O (A ⟨g7,0,Y⟩) (ks.length+1) a) (ks++[t]).length j.flatten∧
   cI (c.setCell ⟨f,4,Y⟩ (O (A ⟨g7,0,Y⟩) (ks.length+1) a)) l d' (ks++[t]) (ks++[t]).length (A g7) j z∧c.heap[f]?=A (r7 #[S,T,c2,V,o] 145 (0,0)):=by
 have n:=aP G;have bg:=hT.1.size;have bk:=m.1.size;have bl:W<p.heap.size:=(JL.1 aq).1;have bm:=i.size;have H:∀g,o.ownBlock=A g→w.heap.size≤g:=fun g hg=>by have:=(n g hg).1;omega
 have a1:=(hT.h m).grownO hP hL i H;have B:∀b,b<p.heap.size→o.ownBlock≠A b→c.heap[b]?=p.heap[b]?:=fun b E C=>i.block b E (fun e=>C e.symm)
 have a6:∀b,b<l→o.ownBlock≠A b:=fun b hb e=>by have:=(n b e).1;omega
 have e2:=ho.mores d;rw[Nat.add_comm d2 d]at e2;have K:∀b,b<l→b≠P→c.heap[b]?=X.heap[b]?:=fun b E C=>(B b (by omega) (a6 b E)).trans (m.1.block b (by omega) (fun e=>by injection e with e;exact C e))
 obtain⟨z,D⟩:=cI.nextT (W':=c) (N:=N) (own':=A g7) (t:=t) ((v.deeper d2).longer Z [t]) (by simp) hf
  (e2.K fun x o' F ba=>(B x (by have:=F.2;omega) (fun e=>by have:=(n x e).2;have:=F.1;omega)).trans ba) ar (by omega) (by omega) (by omega)
  (fun x E C M=>(B x (by omega) M).trans (m.1.block x C (fun e=>by injection e with e;omega))) (fun x F=>by
   injection F with F
   subst F;rcases y with h|h
   ·exact Or.inl ⟨h,by have:=(n _ h).2;omega⟩
   ·right;omega)
 obtain⟨Q,bb⟩:=zzx (O (A ⟨g7,0,Y⟩) (ks.length+1) a);rw[←bb]at r ⊢;have s:c.grownBy (c.setCell ⟨f,4,Y⟩ Q) (A f):=ec (oT c _) _ _;have R:c.heap[f]?=A (r7 #[S,T,c2,V,o] 145 (0,0)):=(K f u (by omega)).trans af;refine⟨d+d2,rows++[aj t s2],z,a1.K hP hL ad 4 Q,?_,?_,?_,?_,R⟩
 ·exact fun b E C h3=>(JQ _ _ _ b h3).trans (K b E C)
 ·rw[heap_set R 4 Q];rfl
 ·have:=dC r s u;rw[J2,Ko,List.flatten_append]
  simpa using this
 ·rw[J2,Ko];exact D.turn s u
