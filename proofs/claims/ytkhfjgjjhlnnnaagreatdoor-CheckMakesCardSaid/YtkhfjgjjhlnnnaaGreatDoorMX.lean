/- Parts of one proof, joined; conditions stand in each theorem. -/
import Derived.Test.YtkhfjgjjhlnnnaaGreatDoorMW
open Bool renaming true→wg
open Go.Obj renaming cells→ur
open Go.Value renaming int→I,string→J,slice→A,agg→wD,pointer→wF
open Go.IntKind renaming u8→O,i64→Z
open Option renaming none→U,some→Y
open Go.Code renaming wp→xV
open Go.World renaming setCell→BT
open Go renaming World→vk,undef→xD,wpQuiet_nil→z7,Value→vn
namespace Go.Proofs.YtkhfjgjjhlnnnaaGreatDoor
set_option maxHeartbeats 2000000
set_option maxRecDepth 100000
open Go.RowKit
def fG:ByteArray:=⟨#[97,115,115,101,114,116]⟩
def eV:ByteArray:=⟨#[114,101,116,114,97,99,116]⟩
def kj:ByteArray:=⟨#[115,97,121]⟩
def kt:ByteArray:=⟨#[104,97,108,116]⟩
def eU(ts:List Tok) (σ:PS):ab×PS:=
 if isM ts σ [fG]=wg then (.mk 8 (ofM ts (ag ts σ) 2 8).1.f 0 (atM ts σ) (cy ts (eH ts) (ofM ts (ag ts σ) 2 8).2).1,aU ts (cy ts (eH ts) (ofM ts (ag ts σ) 2 8).2).2 co)
 else if isM ts σ [eV]=wg then (.mk 9 ⟨#[]⟩ (gi ts (ag ts σ)).1 (atM ts σ) [],aU ts (gi ts (ag ts σ)).2 co)
 else if isM ts σ [kj]=wg then (.mk 10 ⟨#[]⟩ 0 (atM ts σ) (i9 ts (eH ts) (ag ts σ)).1,aU ts (i9 ts (eH ts) (ag ts σ)).2 co)
 else (.mk 11 ⟨#[]⟩ 0 (atM ts σ) [],aU ts (aU ts σ kt) co)
theorem rh(ts:List Tok)(σ:PS):σ.1≤(eU ts σ).2.1:=by
 unfold eU;have a:=(eS ts σ).1
 (repeat' split)
 ·exact Fu a (Fu (ed ts _ 2 8) (Fu (im (gb ts) _) (bL ts _ _)))
 ·exact Fu a (Fu (ou ts _) (bL ts _ _))
 ·exact Fu a (Fu (ra (gb ts) _) (bL ts _ _))
 ·exact Fu (bL ts _ _) (bL ts _ _)
theorem qT{ts:List Tok}(a:cG ts):jp ts 232 (eH ts):=fun _σ _w _P _L _cap h=>sT a h
theorem Dk{kind:Nat}{n:Nat}{pl:Int}{a:List ab}(b:kind<256)(c:n≤2147483647)(d:0≤pl)(e:pl≤16384):Fits (.mk kind ⟨#[]⟩ n pl a):=
 ⟨b,by show (0:Nat)≤maxLen;exact FA _,by show (-9223372036854775808:Int)≤n;omega,by show (n:Int)<9223372036854775808;omega,by show (-9223372036854775808:Int)≤pl;omega,by show pl<9223372036854775808;omega⟩
theorem BH{ts:List Tok}(av:cG ts):jp ts 165 (eU ts):=by
 intro σ w P L cap h;have b3:Gc w (w.alloc (ur bS 25)):=(Fl _ w).alloc (Fj _) _;obtain⟨HC,H0⟩:=zz2 (ge (h.u b3)) (h.b b3);have j:=h.lt.1;obtain⟨HL,HX,bt,b4,ch⟩:=zz5 h.lt.2 (qv w (ur bS 25)) av (fun σ w P L cap h=>ni av (enters_of Tryz.func232 (by kernel_rfl) V) (qT av) (gb ts) σ w P L cap h) (fun σ w P L cap h=>uB av (enters_of Tryz.func232 (by kernel_rfl) V) (qT av) (gb ts) σ w P L cap h);obtain⟨R,b5⟩:=zzy (eU ts σ);rw[b5];have v:=b5;unfold eU at v;obtain⟨at_,b6⟩:=zzy (atM ts σ);rw[b6]at HC v;have ck:=Hd v;have Q:Hid (0≤at_∧at_≤16384):=by
  show _∧_
  obtain⟨_,_,g3⟩:=cM bt.o σ.1;rw[←b6];unfold atM;omega
 clear h b3 av b5 v b6;generalize kdM ts σ=kd at HC;generalize txM ts σ=tx at HC
 go_enter Tryz.func165,Tryz.ntmps165
 go_wp2_with fail
 refine Fx HC.o ?_;rintro e w1 ⟨rfl,b7⟩;have cT:=j4 kd tx at_ w1;obtain⟨cV,cl⟩:=zz2 (H0.o.f b7) (aa b7 HX.o (by simp));have x:w.heap.size<w1.heap.size:=(Fi.1 cl.o).1;clear b7;obtain⟨wA,a6⟩:=zzx (w1.alloc (ur #[I O 0,J ⟨#[]⟩,I Z 0,I Z at_,A U 0 0] 25));have cW:w1.heap.size<wA.heap.size:=by rw[a6];simp
 have c0:Hid (ay w P L cap ts σ.1 σ.2 wA):=by rw[a6];exact cV.o.y _
 have c1:Hid (wA.heap[w1.heap.size]?=Y (ur #[I O 0,J ⟨#[]⟩,I Z 0,I Z at_,A U 0 0] 25 (0,0))):=by rw[a6];exact qv w1 _
 have c3:Hid (wA.heap[w.heap.size]?=Y (ur bS 25 (0,0))):=by rw[a6];exact (Ga w1 _ _ x).trans cl.o
 go_upto_region 4 with fail
 change xV _ _ _ _ (w1.alloc (ur #[I O 0,J ⟨#[]⟩,I Z 0,I Z at_,A U 0 0] 25));rw[←a6];clear cT a6;obtain⟨D,S,T⟩:=zz3 (c0.o.y (ur #[J fG] 9)) ((Ga wA (ur #[J fG] 9) w1.heap.size cW).trans c1.o) ((Ga wA (ur #[J fG] 9) w.heap.size (by omega)).trans c3.o);have W:=Hd (dA D.o.2 wA.heap.size 0 1 1 [fG] (bX [fG]) V (by omega));go_wp2_with fail
 refine Fx W.o ?_;rintro e w2 ⟨rfl,ht⟩;obtain⟨bB,cq,bn⟩:=zz3 (D.o.b ht) (ht.h T.o j (Fj _)) (ht.h S.o j (FT x));have c5:w1.heap.size<w2.heap.size:=(Fi.1 bn.o).1;clear ht D S T W
 by_cases hm:isM ts σ [fG]=wg
 ·have v:=ck.o;rw[r6 hm]at v;have k:aR ts σ [fG]=ag ts σ:=by unfold aR;rw[r6 hm]
  rw[k]at bB;have m:isM ts σ [fG]=true:=by simpa using hm
  rw[m];have bR:=Hd v;clear v k hm m;obtain⟨w3,ba⟩:=zzx ((w2.setCell ⟨w1.heap.size,0,U⟩ (I O 8)));have eb:w3.heap.size=w2.heap.size:=by rw[ba];simp[BT]
  have cr:w1.heap.size<w3.heap.size:=by omega
  have X:Hid (ay w P L cap ts (ag ts σ).1 (ag ts σ).2 w3):=by rw[ba];exact (bB.o.t j HL.o (by omega) 0 _)
  have b0:Hid (w3.heap[w.heap.size]?=Y (ur bS 25 (0,0))):=by rw[ba];exact ((Fp _ _ _ _ (show w.heap.size≠w1.heap.size by omega)).trans cq.o)
  have bb:Hid (w3.heap[w1.heap.size]?=Y (ur #[I O 8,J ⟨#[]⟩,I Z 0,I Z at_,A U 0 0] 25 (0,0))):=by rw[ba];exact (heap_set bn.o 0 _)
  have f0:=ac bn.o 0;obtain⟨n0,n1,n2,n3,n4⟩:=cells5 bn.o;have H3:=Hd ba;clear ba;go_upto_region 6 with fail
  change xV _ _ _ _ (w2.setCell ⟨w1.heap.size,0,U⟩ (I O 8));rw[←H3.o];clear n0 n1 n2 n3 n4 f0;have c6:=Hd (je bt.o X.o.2 8 (by omega));have b2:(ofM ts (ag ts σ) 2 8).1.f.size≤16384:=(cM bt.o _).2.1;generalize ofM ts (ag ts σ) 2 8=nm at *;have ct:=Hd b2;obtain⟨n0,n1,n2,n3,n4⟩:=cells5 bb.o;clear b2;go_wp2_with fail
  refine Fx c6.o ?_;rintro e w4 ⟨d,s,rfl,E,ho,hf⟩;obtain⟨K,bc,q⟩:=zz3 (X.o.b E) (E.h b0.o j (Fj _)) (E.h bb.o j (FT x));have cu:w1.heap.size<w4.heap.size:=(Fi.1 q.o).1;have c7:w3.heap.size≤w4.heap.size:=E.1.size;obtain⟨p,c,rfl⟩:=ho.b;have c8:=ir nm.1.b nm.1.f nm.1.h nm.1.t nm.1.q.length p c w4;clear E ho hf n0 n1 n2 n3 n4;obtain⟨f,g⟩:=zzx ((w4.setCell ⟨w1.heap.size,1,U⟩ (J nm.1.f)));have cv:f.heap.size=w4.heap.size:=by rw[g];simp[BT]
  have b8:w1.heap.size<f.heap.size:=by omega
  have H:Hid (ay w P L cap ts nm.2.1 nm.2.2 f):=by rw[g];exact (K.o.t j HL.o (by omega) 1 _)
  have ad:Hid (f.heap[w.heap.size]?=Y (ur bS 25 (0,0))):=by rw[g];exact ((Fp _ _ _ _ (show w.heap.size≠w1.heap.size by omega)).trans bc.o)
  have F:Hid (f.heap[w1.heap.size]?=Y (ur #[I O 8,J nm.1.f,I Z 0,I Z at_,A U 0 0] 25 (0,0))):=by rw[g];exact (heap_set q.o 1 _)
  have f1:=ac q.o 1;obtain⟨n0,n1,n2,n3,n4⟩:=cells5 q.o;have H5:=Hd g;clear g;go_upto_region 7 with fail
  change xV _ _ _ _ (w4.setCell ⟨w1.heap.size,1,U⟩ (J nm.1.f));rw[←H5.o];clear n0 n1 n2 n3 n4 f1;clear c8;have b9:=Hd (b4.o nm.2 f P L cap H.o.2);generalize cy ts (eH ts) nm.2=l at *;go_wp2_with fail
  refine Fx b9.o ?_;rintro e u ⟨d2,s2,rfl,i,af⟩;obtain⟨M,y,z⟩:=zz3 (H.o.b i) (i.h ad.o j (Fj _)) (i.h F.o j (FT x));have ca:w1.heap.size<u.heap.size:=(Fi.1 z.o).1;have cx:f.heap.size≤u.heap.size:=i.1.size;obtain⟨p2,c2,rfl⟩:=af.b;have ak:=Hd af;clear i af;obtain⟨N,bd⟩:=zzx ((u.setCell ⟨w1.heap.size,4,U⟩ (A p2 l.1.length c2)));have c9:N.heap.size=u.heap.size:=by rw[bd];simp[BT]
  have cA:w1.heap.size<N.heap.size:=by omega
  have bk:Hid (ay w P L cap ts l.2.1 l.2.2 N):=by rw[bd];exact (M.o.t j HL.o (by omega) 4 _)
  have n:Hid (N.heap[w.heap.size]?=Y (ur bS 25 (0,0))):=by rw[bd];exact ((Fp _ _ _ _ (show w.heap.size≠w1.heap.size by omega)).trans y.o)
  have al:Hid (N.heap[w1.heap.size]?=Y (ur #[I O 8,J nm.1.f,I Z 0,I Z at_,A p2 l.1.length c2] 25 (0,0))):=by rw[bd];exact (heap_set z.o 4 _)
  have f4:=ac z.o 4;obtain⟨n0,n1,n2,n3,n4⟩:=cells5 z.o;have H7:=Hd bd;clear bd;go_upto_region 12 with fail
  change xV _ _ _ _ (u.setCell ⟨w1.heap.size,4,U⟩ (A p2 l.1.length c2));rw[←H7.o];clear n0 n1 n2 n3 n4 f4;have bq:Hid (OwnAt N d2 l.1 (A p2 l.1.length c2) (bP f.heap.size N.heap.size)):=by rw[c9,H7.o];exact ak.o.z fun b o C hx=>(Fp _ _ _ _ (show b≠w1.heap.size by have:=C.1;omega)).trans hx
  have HW:=Hd (cO bk.o.2 co);go_wp2_with fail
  refine Fx HW.o ?_;rintro e w8 ⟨rfl,aq⟩;obtain⟨da,ar,cC⟩:=zz3 (bk.o.b aq) (aq.h n.o j (Fj _)) (aq.h al.o j (FT x));have ec:w1.heap.size<w8.heap.size:=(Fi.1 cC.o).1;have eg:N.heap.size≤w8.heap.size:=aq.1.size;have dc:=Hd ((bq.o.z fun b o C hx=>bH aq.1 hx (by have:=C.1;omega)).K (G:=bP f.heap.size w8.heap.size) fun b C=>⟨C.1,Ft C.2 aq.1.size⟩);obtain⟨n0,n1,n2,n3,n4⟩:=cells5 cC.o;obtain⟨a0,a1,a2,a3,a4⟩:=cells5 ar.o;have z0:=ac ar.o 0;have z1:=ac ar.o 1;have z2:=ac ar.o 2;have z3:=ac ar.o 3;have z4:=ac ar.o 4;clear aq;go_wp2_with fail
  refine bA Tryz.results165 V (a7 ar.o _ _ _ _ _) V ?_;rw[←bR.o];exact be.h (r:=(.mk 8 nm.1.f 0 at_ l.1,aU ts l.2 co)) (B:=f.heap.size) j HL.o da.o dc.o (fs (by omega) ct.o Q.o.1 Q.o.2) (Fj _) (by omega) _ _ _ _ _
 ·have v:=ck.o;rw[r5 hm]at v;have k:aR ts σ [fG]=σ:=by unfold aR;rw[r5 hm]
  rw[k]at bB;have m:isM ts σ [fG]=false:=by simpa using hm
  rw[m];have bR:=Hd v;clear v k hm m;obtain⟨D,S,T⟩:=zz3 (bB.o.y (ur #[J eV] 9)) ((Ga w2 (ur #[J eV] 9) w1.heap.size c5).trans bn.o) ((Ga w2 (ur #[J eV] 9) w.heap.size (by omega)).trans cq.o);have W:=Hd (dA D.o.2 w2.heap.size 0 1 1 [eV] (bX [eV]) V (by omega));go_wp2_with fail
  refine Fx W.o ?_;rintro e w3 ⟨rfl,ht⟩;obtain⟨X,b0,bb⟩:=zz3 (D.o.b ht) (ht.h T.o j (Fj _)) (ht.h S.o j (FT x));have cr:w1.heap.size<w3.heap.size:=(Fi.1 bb.o).1;clear ht D S T W
  by_cases hm:isM ts σ [eV]=wg
  ·have v:=bR.o;rw[r6 hm]at v;have k:aR ts σ [eV]=ag ts σ:=by unfold aR;rw[r6 hm]
   rw[k]at X;have m:isM ts σ [eV]=true:=by simpa using hm
   rw[m];have b1:=Hd v;clear v k hm m;have dd:=Hd (lC bt.o X.o.2);have cR:=jo ts (ag ts σ);generalize gi ts (ag ts σ)=nu at *;have dg:=Hd cR;clear cR;go_wp2_with fail
   refine Fx dd.o ?_;rintro e w4 ⟨rfl,E⟩;obtain⟨K,bc,q⟩:=zz3 (X.o.b E) (E.h b0.o j (Fj _)) (E.h bb.o j (FT x));have cu:w1.heap.size<w4.heap.size:=(Fi.1 q.o).1;have c7:w3.heap.size≤w4.heap.size:=E.1.size;clear E;obtain⟨f,g⟩:=zzx (((w4.setCell ⟨w1.heap.size,0,U⟩ (I O 9)).setCell ⟨w1.heap.size,2,U⟩ (I Z nu.1)));have cv:f.heap.size=w4.heap.size:=by rw[g];simp[BT]
   have b8:w1.heap.size<f.heap.size:=by omega
   have H:Hid (ay w P L cap ts nu.2.1 nu.2.2 f):=by rw[g];exact ((K.o.t j HL.o (by omega) 0 _).t j HL.o (by omega) 2 _)
   have ad:Hid (f.heap[w.heap.size]?=Y (ur bS 25 (0,0))):=by rw[g];exact ((Fp _ _ _ _ (show w.heap.size≠w1.heap.size by omega)).trans ((Fp _ _ _ _ (show w.heap.size≠w1.heap.size by omega)).trans bc.o))
   have F:Hid (f.heap[w1.heap.size]?=Y (ur #[I O 9,J ⟨#[]⟩,I Z nu.1,I Z at_,A U 0 0] 25 (0,0))):=by rw[g];exact (heap_set (heap_set q.o 0 _) 2 _)
   have f0:=ac q.o 0;have f2:=ac q.o 2;obtain⟨n0,n1,n2,n3,n4⟩:=cells5 q.o;have H5:=Hd g;clear g;go_upto_region 12 with fail
   change xV _ _ _ _ ((w4.setCell ⟨w1.heap.size,0,U⟩ (I O 9)).setCell ⟨w1.heap.size,2,U⟩ (I Z nu.1));rw[←H5.o];clear n0 n1 n2 n3 n4 f0 f2;have cb:Hid (OwnAt f 0 [] (A U 0 0) (bP f.heap.size f.heap.size)):=jN _ _;have HW:=Hd (cO H.o.2 co);go_wp2_with fail
   refine Fx HW.o ?_;rintro e u ⟨rfl,i⟩;obtain⟨M,y,z⟩:=zz3 (H.o.b i) (i.h ad.o j (Fj _)) (i.h F.o j (FT x));have ca:w1.heap.size<u.heap.size:=(Fi.1 z.o).1;have cx:f.heap.size≤u.heap.size:=i.1.size;have ak:=Hd ((cb.o.z fun b o C hx=>bH i.1 hx (by have:=C.1;omega)).K (G:=bP f.heap.size u.heap.size) fun b C=>⟨C.1,Ft C.2 i.1.size⟩);obtain⟨n0,n1,n2,n3,n4⟩:=cells5 z.o;obtain⟨a0,a1,a2,a3,a4⟩:=cells5 y.o;have z0:=ac y.o 0;have z1:=ac y.o 1;have z2:=ac y.o 2;have z3:=ac y.o 3;have z4:=ac y.o 4;clear i;go_wp2_with fail
   refine bA Tryz.results165 V (a7 y.o _ _ _ _ _) V ?_;rw[←b1.o];exact be.h (r:=(.mk 9 ⟨#[]⟩ nu.1 at_ [],aU ts nu.2 co)) (B:=f.heap.size) j HL.o M.o ak.o (Dk (by omega) dg.o Q.o.1 Q.o.2) (Fj _) (by omega) _ _ _ _ _
  ·have v:=bR.o;rw[r5 hm]at v;have k:aR ts σ [eV]=σ:=by unfold aR;rw[r5 hm]
   rw[k]at X;have m:isM ts σ [eV]=false:=by simpa using hm
   rw[m];have b1:=Hd v;clear v k hm m;obtain⟨D,S,T⟩:=zz3 (X.o.y (ur #[J kj] 9)) ((Ga w3 (ur #[J kj] 9) w1.heap.size cr).trans bb.o) ((Ga w3 (ur #[J kj] 9) w.heap.size (by omega)).trans b0.o);have W:=Hd (dA D.o.2 w3.heap.size 0 1 1 [kj] (bX [kj]) V (by omega));go_wp2_with fail
   refine Fx W.o ?_;rintro e w4 ⟨rfl,ht⟩;obtain⟨K,bc,q⟩:=zz3 (D.o.b ht) (ht.h T.o j (Fj _)) (ht.h S.o j (FT x));have cu:w1.heap.size<w4.heap.size:=(Fi.1 q.o).1;clear ht D S T W
   by_cases hm:isM ts σ [kj]=wg
   ·have v:=b1.o;rw[r6 hm]at v;have k:aR ts σ [kj]=ag ts σ:=by unfold aR;rw[r6 hm]
    rw[k]at K;have m:isM ts σ [kj]=true:=by simpa using hm
    rw[m];have cc:=Hd v;clear v k hm m;have b9:=Hd (ch.o (ag ts σ) w4 P L cap K.o.2);generalize i9 ts (eH ts) (ag ts σ)=l at *;go_wp2_with fail
    refine Fx b9.o ?_;rintro e f ⟨d2,s2,rfl,br,af⟩;obtain⟨H,ad,F⟩:=zz3 (K.o.b br) (br.h bc.o j (Fj _)) (br.h q.o j (FT x));have b8:w1.heap.size<f.heap.size:=(Fi.1 F.o).1;have ek:w4.heap.size≤f.heap.size:=br.1.size;obtain⟨p2,c2,rfl⟩:=af.b;have cb:=Hd af;clear br af;obtain⟨u,bl⟩:=zzx (((f.setCell ⟨w1.heap.size,0,U⟩ (I O 10)).setCell ⟨w1.heap.size,4,U⟩ (A p2 l.1.length c2)));have dp:u.heap.size=f.heap.size:=by rw[bl];simp[BT]
    have ca:w1.heap.size<u.heap.size:=by omega
    have M:Hid (ay w P L cap ts l.2.1 l.2.2 u):=by rw[bl];exact ((H.o.t j HL.o (by omega) 0 _).t j HL.o (by omega) 4 _)
    have y:Hid (u.heap[w.heap.size]?=Y (ur bS 25 (0,0))):=by rw[bl];exact ((Fp _ _ _ _ (show w.heap.size≠w1.heap.size by omega)).trans ((Fp _ _ _ _ (show w.heap.size≠w1.heap.size by omega)).trans ad.o))
    have z:Hid (u.heap[w1.heap.size]?=Y (ur #[I O 10,J ⟨#[]⟩,I Z 0,I Z at_,A p2 l.1.length c2] 25 (0,0))):=by rw[bl];exact (heap_set (heap_set F.o 0 _) 4 _)
    have f0:=ac F.o 0;have f4:=ac F.o 4;obtain⟨n0,n1,n2,n3,n4⟩:=cells5 F.o;have H6:=Hd bl;clear bl;go_upto_region 12 with fail
    change xV _ _ _ _ ((f.setCell ⟨w1.heap.size,0,U⟩ (I O 10)).setCell ⟨w1.heap.size,4,U⟩ (A p2 l.1.length c2));rw[←H6.o];clear n0 n1 n2 n3 n4 f0 f4;have ak:Hid (OwnAt u d2 l.1 (A p2 l.1.length c2) (bP w4.heap.size u.heap.size)):=by rw[dp,H6.o];exact cb.o.z fun b o C hx=>(Fp _ _ _ _ (show b≠w1.heap.size by have:=C.1;omega)).trans ((Fp _ _ _ _ (show b≠w1.heap.size by have:=C.1;omega)).trans hx)
    have HW:=Hd (cO M.o.2 co);go_wp2_with fail
    refine Fx HW.o ?_;rintro e N ⟨rfl,t⟩;obtain⟨bk,n,al⟩:=zz3 (M.o.b t) (t.h y.o j (Fj _)) (t.h z.o j (FT x));have cA:w1.heap.size<N.heap.size:=(Fi.1 al.o).1;have ds:u.heap.size≤N.heap.size:=t.1.size;have bq:=Hd ((ak.o.z fun b o C hx=>bH t.1 hx (by have:=C.1;omega)).K (G:=bP w4.heap.size N.heap.size) fun b C=>⟨C.1,Ft C.2 t.1.size⟩);obtain⟨n0,n1,n2,n3,n4⟩:=cells5 al.o;obtain⟨a0,a1,a2,a3,a4⟩:=cells5 n.o;have z0:=ac n.o 0;have z1:=ac n.o 1;have z2:=ac n.o 2;have z3:=ac n.o 3;have z4:=ac n.o 4;clear t;go_wp2_with fail
    refine bA Tryz.results165 V (a7 n.o _ _ _ _ _) V ?_;rw[←cc.o];exact be.h (r:=(.mk 10 ⟨#[]⟩ 0 at_ l.1,aU ts l.2 co)) (B:=w4.heap.size) j HL.o bk.o bq.o (fs (by omega) (by show (0:Nat)≤16384;omega) Q.o.1 Q.o.2) (Fj _) (by omega) _ _ _ _ _
   ·have v:=b1.o;rw[r5 hm]at v;have k:aR ts σ [kj]=σ:=by unfold aR;rw[r5 hm]
    rw[k]at K;have m:isM ts σ [kj]=false:=by simpa using hm
    rw[m];have cc:=Hd v;clear v k hm m;obtain⟨f,g⟩:=zzx ((w4.setCell ⟨w1.heap.size,0,U⟩ (I O 11)));have cv:f.heap.size=w4.heap.size:=by rw[g];simp[BT]
    have b8:w1.heap.size<f.heap.size:=by omega
    have H:Hid (ay w P L cap ts σ.1 σ.2 f):=by rw[g];exact (K.o.t j HL.o (by omega) 0 _)
    have ad:Hid (f.heap[w.heap.size]?=Y (ur bS 25 (0,0))):=by rw[g];exact ((Fp _ _ _ _ (show w.heap.size≠w1.heap.size by omega)).trans bc.o)
    have F:Hid (f.heap[w1.heap.size]?=Y (ur #[I O 11,J ⟨#[]⟩,I Z 0,I Z at_,A U 0 0] 25 (0,0))):=by rw[g];exact (heap_set q.o 0 _)
    have f0:=ac q.o 0;obtain⟨n0,n1,n2,n3,n4⟩:=cells5 q.o;have H5:=Hd g;clear g;go_upto_region 3 with fail
    change xV _ _ _ _ (w4.setCell ⟨w1.heap.size,0,U⟩ (I O 11));rw[←H5.o];clear n0 n1 n2 n3 n4 f0;have dv:=Hd (cO H.o.2 kt);generalize aU ts σ kt=ea at *;go_wp2_with fail
    refine Fx dv.o ?_;rintro e u ⟨rfl,i⟩;obtain⟨M,y,z⟩:=zz3 (H.o.b i) (i.h ad.o j (Fj _)) (i.h F.o j (FT x));have ca:w1.heap.size<u.heap.size:=(Fi.1 z.o).1;have cx:f.heap.size≤u.heap.size:=i.1.size;clear i;have ak:Hid (OwnAt u 0 [] (A U 0 0) (bP u.heap.size u.heap.size)):=jN _ _;have HW:=Hd (cO M.o.2 co);go_wp2_with fail
    refine Fx HW.o ?_;rintro e N ⟨rfl,t⟩;obtain⟨bk,n,al⟩:=zz3 (M.o.b t) (t.h y.o j (Fj _)) (t.h z.o j (FT x));have cA:w1.heap.size<N.heap.size:=(Fi.1 al.o).1;have ds:u.heap.size≤N.heap.size:=t.1.size;have bq:=Hd ((ak.o.z fun b o C hx=>bH t.1 hx (by have:=C.1;omega)).K (G:=bP u.heap.size N.heap.size) fun b C=>⟨C.1,Ft C.2 t.1.size⟩);obtain⟨n0,n1,n2,n3,n4⟩:=cells5 al.o;obtain⟨a0,a1,a2,a3,a4⟩:=cells5 n.o;have z0:=ac n.o 0;have z1:=ac n.o 1;have z2:=ac n.o 2;have z3:=ac n.o 3;have z4:=ac n.o 4;clear t;go_wp2_with fail
    refine bA Tryz.results165 V (a7 n.o _ _ _ _ _) V ?_;rw[←cc.o];exact be.h (r:=(.mk 11 ⟨#[]⟩ 0 at_ [],aU ts ea co)) (B:=u.heap.size) j HL.o bk.o bq.o (fs (by omega) (by show (0:Nat)≤16384;omega) Q.o.1 Q.o.2) (Fj _) (by omega) _ _ _ _ _
def kQ:ByteArray:=⟨#[95]⟩
def em(ts:List Tok) (σ:PS):ab×PS:=
 if isM ts σ [kQ]=wg then (.mk 12 ⟨#[]⟩ 0 (atM ts σ) [],ag ts σ)
 else if isM ts σ [bo]=wg then (.mk 14 (bo++txM ts (ag ts σ)) 0 (atM ts σ) [],(ofM ts (ag ts σ) 4 14).2)
 else if kdM ts σ=5 then ofM ts σ 5 15
 else if kdM ts σ=3 then ofM ts σ 3 13
 else ofM ts σ 4 14
theorem ji(ts:List Tok)(σ:PS):σ.1≤(em ts σ).2.1:=by
 unfold em;have a:=(eS ts σ).1
 (repeat' split)
 ·exact a
 ·exact Fu a (ed ts _ 4 14)
 ·exact ed _ _ _ _
 ·exact ed _ _ _ _
 ·exact ed _ _ _ _
theorem Ap{kind:Nat}{tx:ByteArray}{pl:Int}{a:List ab}(b:kind<256)(c:tx.size≤16385)(d:0≤pl)(e:pl≤16384):Fits (.mk kind tx 0 pl a):=
 ⟨b,by show tx.size≤maxLen;unfold maxLen;omega,by show (-9223372036854775808:Int)≤0;omega,by show (0:Int)<9223372036854775808;omega,by show (-9223372036854775808:Int)≤pl;omega,by show pl<9223372036854775808;omega⟩
theorem CC{ts:List Tok}(ch:cG ts):jp ts 233 (em ts):=by
 intro σ w P L cap h;have bR:Gc w (w.alloc (ur bS 25)):=(Fl _ w).alloc (Fj _) _;obtain⟨HC,H0⟩:=zz2 (ge (h.u bR)) (h.b bR);have C:=h.lt.1;obtain⟨HL,HX,D⟩:=zz3 h.lt.2 (qv w (ur bS 25)) ch;obtain⟨R,b0⟩:=zzy (em ts σ);rw[b0];have j:=b0.symm;unfold em at j;obtain⟨kd,ck⟩:=zzy (kdM ts σ);obtain⟨at_,b1⟩:=zzy (atM ts σ);rw[ck,b1]at HC j;have cl:=Hd j;have bd:Hid (0≤at_∧at_≤16384):=by
  show _∧_
  obtain⟨_,_,g3⟩:=cM D.o σ.1;rw[←b1];unfold atM;omega
 clear h bR ch b0 j b1 ck;generalize txM ts σ=tx at HC
 go_enter Tryz.func233,Tryz.ntmps233
 go_wp2_with fail
 refine Fx HC.o ?_;rintro e w1 ⟨rfl,b2⟩;obtain⟨c1,cq⟩:=zz2 (H0.o.f b2) (aa b2 HX.o (by simp));have N:w.heap.size<w1.heap.size:=(Fi.1 cq.o).1;clear b2;obtain⟨wA,Q⟩:=zzx (w1.alloc (ur #[I O kd,J tx,I Z at_] 122));have c3:w1.heap.size<wA.heap.size:=by rw[Q];simp
 have c5:Hid (ay w P L cap ts σ.1 σ.2 wA):=by rw[Q];exact c1.o.y _
 have c6:Hid (wA.heap[w1.heap.size]?=Y (ur #[I O kd,J tx,I Z at_] 122 (0,0))):=by rw[Q];exact qv w1 _
 have c7:Hid (wA.heap[w.heap.size]?=Y (ur bS 25 (0,0))):=by rw[Q];exact (Ga w1 _ _ N).trans cq.o
 go_upto_region 2 with fail
 change xV _ _ _ _ (w1.alloc (ur #[I O kd,J tx,I Z at_] 122));rw[←Q];clear Q;obtain⟨E,ad,af⟩:=zz3 (c5.o.y (ur #[J kQ] 9)) ((Ga wA (ur #[J kQ] 9) w1.heap.size c3).trans c6.o) ((Ga wA (ur #[J kQ] 9) w.heap.size (by omega)).trans c7.o);have ak:=Hd (dA E.o.2 wA.heap.size 0 1 1 [kQ] (bX [kQ]) V (by omega));go_wp2_with fail
 refine Fx ak.o ?_;rintro e w2 ⟨rfl,ht⟩;obtain⟨bk,z,b3⟩:=zz3 (E.o.b ht) (ht.h af.o C (Fj _)) (ht.h ad.o C (FT N));have c8:w1.heap.size<w2.heap.size:=(Fi.1 b3.o).1;clear ht E ad af ak
 by_cases hm:isM ts σ [kQ]=wg
 ·have j:=cl.o;rw[r6 hm]at j;have q:aR ts σ [kQ]=ag ts σ:=by unfold aR;rw[r6 hm]
  rw[q]at bk;have t:isM ts σ [kQ]=true:=by simpa using hm
  rw[t];have al:=Hd j;clear j q hm t;have ek:=al;obtain⟨m0,m1,m2,_,_,_⟩:=cells3 b3.o;obtain⟨a0,a1,a2,a3,a4⟩:=cells5 z.o;have z0:=ac z.o 0;have z1:=ac z.o 1;have z2:=ac z.o 2;have z3:=ac z.o 3;have z4:=ac z.o 4;go_wp2_with fail
  refine bA Tryz.results233 V (a7 z.o _ _ _ _ _) V ?_;rw[al.o];exact be.h (r:=(.mk 12 ⟨#[]⟩ 0 at_ [],ag ts σ)) (B:=w1.heap.size) C HL.o bk.o (jN _ _) (fs (by omega) (by show (0:Nat)≤16384;omega) bd.o.1 bd.o.2) (Fj _) N _ _ _ _ _
 ·have j:=cl.o;rw[r5 hm]at j;have q:aR ts σ [kQ]=σ:=by unfold aR;rw[r5 hm]
  rw[q]at bk;have t:isM ts σ [kQ]=false:=by simpa using hm
  rw[t];have al:=Hd j;clear j q hm t;obtain⟨E,ad,af⟩:=zz3 (bk.o.y (ur #[J bo] 9)) ((Ga w2 (ur #[J bo] 9) w1.heap.size c8).trans b3.o) ((Ga w2 (ur #[J bo] 9) w.heap.size (by omega)).trans z.o);have ak:=Hd (dA E.o.2 w2.heap.size 0 1 1 [bo] (bX [bo]) V (by omega));go_wp2_with fail
  refine Fx ak.o ?_;rintro e g ⟨rfl,ht⟩;obtain⟨u,F,bl⟩:=zz3 (E.o.b ht) (ht.h af.o C (Fj _)) (ht.h ad.o C (FT N));have eo:w1.heap.size<g.heap.size:=(Fi.1 bl.o).1;clear ht E ad af ak
  by_cases hm:isM ts σ [bo]=wg
  ·have j:=al.o;rw[r6 hm]at j;have q:aR ts σ [bo]=ag ts σ:=by unfold aR;rw[r6 hm]
   rw[q]at u;have t:isM ts σ [bo]=true:=by simpa using hm
   rw[t];have bq:=Hd j;clear j q hm t;have HO:=Hd (xt u.o.2 (gu u.o.2.k) 4 14);have c9:=cM D.o (ag ts σ).1;have cr:R=(.mk 14 (bo++(cQ ts (ag ts σ).1).2.1) 0 at_ [],(eG ts.length (ag ts σ).1 ((ag ts σ).2||(cQ ts (ag ts σ).1).1 != 4),((ag ts σ).2||(cQ ts (ag ts σ).1).1 != 4))):=bq.o;generalize eG ts.length (ag ts σ).1 ((ag ts σ).2||(cQ ts (ag ts σ).1).1 != 4)=kn at *;generalize ((ag ts σ).2||(cQ ts (ag ts σ).1).1 != 4)=bn at *;obtain⟨_,ct,da⟩:=c9;generalize (cQ ts (ag ts σ).1).2.1=m at *;generalize (cQ ts (ag ts σ).1).2.2=at2 at *;obtain⟨b4,dc⟩:=zz2 ct cr;clear bq ct da cr;go_wp2_with fail
   refine Fx HO.o ?_;rintro e w4 ⟨rfl,f⟩;have b5:=Hd (u.o.b f);have cu:=f.h F.o C (Fj _);have b6:=f.h bl.o C (FT N);have ep:w1.heap.size<w4.heap.size:=(Fi.1 b6).1;obtain⟨y,br⟩:=zzx (w4.alloc (ur #[I O 14,J m,I Z 0,I Z at2,A U 0 0] 25));have bt:Gc w4 y:=by rw[br];exact (Fl _ w4).alloc (Fj _) _
   obtain⟨S,dd,cv⟩:=zz3 (b5.o.f bt) (aa bt cu (by omega)) (aa bt b6 (by omega));have bB:Hid (y.heap[w4.heap.size]?=Y (ur #[I O 14,J m,I Z 0,I Z at2,A U 0 0] 25 (0,0))):=by show _=_;rw[br];exact qv w4 _
   have er:w4.heap.size<y.heap.size:=(Fi.1 bB.o).1;clear f cu b6 bt;go_upto_region 6 with fail
   change xV _ _ _ _ (w4.alloc (ur #[I O 14,J m,I Z 0,I Z at2,A U 0 0] 25));rw[←br];clear br;obtain⟨m0,m1,m2,_,_,_⟩:=cells3 cv.o;obtain⟨e0,e1,e2,e3,e4⟩:=cells5 bB.o;have cx:=ac bB.o 1;have dg:w1.heap.size≠w4.heap.size:=by omega
   obtain⟨w6,T⟩:=zzx (y.drew.setCell ⟨w4.heap.size,1,U⟩ (J (bo++m)));have cA:w6.cell? ⟨w1.heap.size,2,U⟩=Y (I Z at_):=by
    rw[T];exact Gb _ _ _ _ _ _ ((Fp _ _ _ _ dg).trans cv.o)
   have M2:=fun x:RE.Two y.drew w6=>RE.Two.b (show y.drew.cell? _=_ from m2) cA x
   have E1:=fun x:RE.Two y.drew y.drew=>RE.Two.b (show y.drew.cell? _=_ from e1) (show y.drew.cell? _=_ from e1) x
   have cC:w6.heap[w4.heap.size]?=Y (ur #[I O 14,J (bo++m),I Z 0,I Z at2,A U 0 0] 25 (0,0)):=by
    rw[T];exact heap_set (show y.drew.heap[w4.heap.size]?=_ from bB.o) 1 _
   have cR:w6.heap[w.heap.size]?=Y (ur bS 25 (0,0)):=by
    rw[T];exact (Fp _ _ _ _ (show w.heap.size≠w4.heap.size by omega)).trans dd.o
   have cT:ay w P L cap ts kn bn w6:=by
    rw[T];exact ay.t ⟨ss S.o.1 (grown_drewN (sm y _) 1),S.o.2.drew⟩ C HL.o (by omega) 1 _
   obtain⟨cV,G,dp,H6⟩:=zz4 cC cR cT T;have H:y.drew.cell? ⟨w4.heap.size,1,U⟩=Y (J m):=e1;have ds:y.drew.frozen? ⟨w4.heap.size,1,U⟩=false:=cx;have cW:∀W:vk,(Op.stringOp .add ⟨#[45]⟩ m).run Tryz.prog W=.ok (J (bo++m)) W:=fun W=>run_string_add W _ _ (by show ((1:Nat):Int)≤8388608;omega) (by have:=b4.o;omega)
   have dv:(m.size:Int)≤8388608:=by have:=b4.o;omega
   have ea:((⟨#[45]⟩:ByteArray).size:Int)≤8388608:=by show ((1:Nat):Int)≤8388608;omega
   clear m0 m1 m2 e0 e1 e2 e3 e4 cx cA cC cR cT T;refine RE.q (by kernel_rfl) 7 [6] [6] (fun s W=>if s=0 then W=y.drew else W=w6) (fun _ _=>True) (fun _ _=>xD) (fun _ _ _=>True) (by kernel_rfl) (fun i h1 h2=>by rw[h1]at h2;cases h2) (fun _ _ _ _ _ _ _=>trivial) V ?_;simp only[Fy,FK,Fz,FI,FU,List.length_nil,Nat.reduceAdd]
   repeat (first
    | (refine RE.b (fun W=>∃x:RE.Two y.drew w6,W=x.1) RE.u V V V V ?_;go_big_quiet_step (fail);refine z7 ?_)
    | (refine RE.b (fun W=>∃x:RE.Two y.drew y.drew,W=x.1) (RE.one_class (by kernel_rfl)) V V V V ?_;go_big_quiet_step (fail);refine z7 ?_))
   refine RE.f V V ?_ (fun xs=>?_)
   ·intro W hC X _;obtain rfl:W=y.drew:=X V;refine RE.Upon.told (v:=xD) (w':=y.drew.setCell ⟨w4.heap.size,1,U⟩ (J (bo++m))) ?_ ⟨[],V,H6.o.symm,trivial,trivial⟩;unfold RE.Upon
    go_simp
    try exact⟨rfl,rfl⟩
   simp only[Act.put];refine RE.h ?_;intro W X _;obtain rfl:w6=W:=(show W=w6 from X).symm;clear M2 E1 H ds H6 cW dv ea;obtain⟨e0,e1,e2,e3,e4⟩:=cells5 cV.o;have et:=ac cV.o 3;obtain⟨a0,a1,a2,a3,a4⟩:=cells5 G.o;have z0:=ac G.o 0;have z1:=ac G.o 1;have z2:=ac G.o 2;have z3:=ac G.o 3;have z4:=ac G.o 4;have eb:=Hd ((Fp w6 ⟨w4.heap.size,3,U⟩ (I Z at_) _ (show w.heap.size≠w4.heap.size by omega)).trans G.o);have ec:=Hd (dp.o.t C HL.o (b:=w4.heap.size) (by omega) 3 (I Z at_));have b7:Hid ((bo++m).size≤16385):=by
    show _≤_
    rw[ByteArray.size_append,show bo.size=1 from rfl];have:=b4.o;omega
   generalize bo++m=tl at *;go_wp2_with fail
   refine bA Tryz.results233 V (a7 eb.o _ _ _ _ _) V ?_;rw[dc.o];exact be.h (r:=(.mk 14 tl 0 at_ [],(kn,bn))) (B:=w1.heap.size) C HL.o ec.o (jN _ _) (Ap (by omega) b7.o bd.o.1 bd.o.2) (Fj _) N _ _ _ _ _
  ·have j:=al.o;rw[r5 hm]at j;have q:aR ts σ [bo]=σ:=by unfold aR;rw[r5 hm]
   rw[q]at u;have t:isM ts σ [bo]=false:=by simpa using hm
   rw[t];have bq:=Hd j;clear j q hm t;have j:=bq.o;have b8:=bl;clear bl
   by_cases b9:kd=5
   ·subst b9;rw[r6 V]at j;subst j;have f:=u.o;have aq:=Hd (jQ D.o (w:=g.drew) f.2.drew 5 15 (by omega));obtain⟨c0,_,_,_,_,_⟩:=cells3 b8.o;have ar:w1.heap.size≠P:=by omega
    have C0:=fun x:RE.Gr g P=>x.b c0 ar
    have ca:P<g.heap.size:=f.2.lt.1;have H:∀(n s:Nat) (W:vk),s≤n→(if s=0 then W=g.drew else ay g P L cap ts (ofM ts σ 5 15).2.1 (ofM ts σ 5 15).2.2 W)→∃x:RE.Gr g P,W=x.1:=fun n s W _ h=>by
     split at h
     ·exact⟨⟨W,by rw[h];exact grown_drewN (sm g _) 1⟩,V⟩
     ·exact⟨⟨W,h.1⟩,V⟩
    have cb:=Hd H;have av:=Hd (kR D.o σ 5 15 (by omega));have a6:(ofM ts σ 5 15).1.q=[]:=rfl;have eg:=Hd a6;generalize ofM ts σ 5 15=r at *;clear H f a6;go_wp2_with fail
    clear c0;refine RE.q (by kernel_rfl) 6 [5] [5] (fun s W=>if s=0 then W=g.drew else ay g P L cap ts r.2.1 r.2.2 W) (fun W W'=>W.grownBy W' (Y P))
     (fun i xs=>wD #[I O r.1.b,J r.1.f,I Z r.1.h,I Z r.1.t,xs.getD 0 xD])
     (fun i W xs=>fZ g.heap.size r.1 W xs) (by kernel_rfl) (fun i h1 h2=>by rw[h1]at h2;cases h2) (fun k W W' xs h _ hg=>h.h ca hg) V ?_
    simp only[Fy,FK,Fz,FI,FU,List.length_nil,Nat.reduceAdd]
    repeat (refine RE.b (fun W=>∃x:RE.Gr g P,W=x.1) (cb.o _) V V V V ?_;go_big_quiet_step (fail);refine z7 ?_)
    refine RE.f V V ?_ (fun ba=>?_)
    ·intro W _ X _;obtain rfl:W=g.drew:=X V;refine RE.t 161 _ _ V (enters_of Tryz.func161 (by kernel_rfl) V) #[wF (Y ⟨P,0,U⟩),I O 5,I O 15] (by simp[Act.eval]) (aq.o.mono ?_);rintro e W' ⟨d,s,rfl,hT,K,hf⟩;exact⟨_,V,[s],V,hT.q,hT.1,⟨d,s,V,K,hf⟩⟩
    simp only[Act.put,Fo,Fw,Fv];refine RE.h ?_;intro W4 X hE;have M:ay g P L cap ts r.2.1 r.2.2 W4:=X;obtain⟨d,s,rfl,K,hf⟩:=(show fZ g.heap.size r.1 W4 ba from hE 5 ba V);obtain⟨p,c,rfl⟩:=K.b;obtain⟨HO,S⟩:=zz2 K (u.o.b M);have l:=M.h F.o C (Fj _);have bb:=Hd l;obtain⟨a0,a1,a2,a3,a4⟩:=cells5 l;have z0:=ac l 0;have z1:=ac l 1;have z2:=ac l 2;have z3:=ac l 3;have z4:=ac l 4;have bc:w.heap.size<g.heap.size:=(Fi.1 F.o).1;clear C0 hE X K M l hf;go_wp2_with fail
    refine bA Tryz.results233 V (a7 bb.o _ _ _ _ _) V ?_;exact be.h C HL.o S.o HO.o av.o (Fj _) bc _ _ _ _ _
   rw[r5 b9]at j;have el:((kd:Int)==5)=false:=by simp;omega
   by_cases cc:kd=3
   ·subst cc;rw[r6 V]at j;subst j;have f:=u.o;have aq:=Hd (jQ D.o (w:=g.drew) f.2.drew 3 13 (by omega));obtain⟨c0,_,_,_,_,_⟩:=cells3 b8.o;have ar:w1.heap.size≠P:=by omega
    have C0:=fun x:RE.Gr g P=>x.b c0 ar
    have ca:P<g.heap.size:=f.2.lt.1;have H:∀(n s:Nat) (W:vk),s≤n→(if s=0 then W=g.drew else ay g P L cap ts (ofM ts σ 3 13).2.1 (ofM ts σ 3 13).2.2 W)→∃x:RE.Gr g P,W=x.1:=fun n s W _ h=>by
     split at h
     ·exact⟨⟨W,by rw[h];exact grown_drewN (sm g _) 1⟩,V⟩
     ·exact⟨⟨W,h.1⟩,V⟩
    have cb:=Hd H;have av:=Hd (kR D.o σ 3 13 (by omega));have a6:(ofM ts σ 3 13).1.q=[]:=rfl;have eg:=Hd a6;generalize ofM ts σ 3 13=r at *;clear H f a6;go_wp2_with fail
    clear c0;refine RE.q (by kernel_rfl) 6 [5] [5] (fun s W=>if s=0 then W=g.drew else ay g P L cap ts r.2.1 r.2.2 W) (fun W W'=>W.grownBy W' (Y P))
     (fun i xs=>wD #[I O r.1.b,J r.1.f,I Z r.1.h,I Z r.1.t,xs.getD 0 xD])
     (fun i W xs=>fZ g.heap.size r.1 W xs) (by kernel_rfl) (fun i h1 h2=>by rw[h1]at h2;cases h2) (fun k W W' xs h _ hg=>h.h ca hg) V ?_
    simp only[Fy,FK,Fz,FI,FU,List.length_nil,Nat.reduceAdd]
    repeat (refine RE.b (fun W=>∃x:RE.Gr g P,W=x.1) (cb.o _) V V V V ?_;go_big_quiet_step (fail);refine z7 ?_)
    refine RE.f V V ?_ (fun ba=>?_)
    ·intro W _ X _;obtain rfl:W=g.drew:=X V;refine RE.t 161 _ _ V (enters_of Tryz.func161 (by kernel_rfl) V) #[wF (Y ⟨P,0,U⟩),I O 3,I O 13] (by simp[Act.eval]) (aq.o.mono ?_);rintro e W' ⟨d,s,rfl,hT,K,hf⟩;exact⟨_,V,[s],V,hT.q,hT.1,⟨d,s,V,K,hf⟩⟩
    simp only[Act.put,Fo,Fw,Fv];refine RE.h ?_;intro W4 X hE;have M:ay g P L cap ts r.2.1 r.2.2 W4:=X;obtain⟨d,s,rfl,K,hf⟩:=(show fZ g.heap.size r.1 W4 ba from hE 5 ba V);obtain⟨p,c,rfl⟩:=K.b;obtain⟨HO,S⟩:=zz2 K (u.o.b M);have l:=M.h F.o C (Fj _);have bb:=Hd l;obtain⟨a0,a1,a2,a3,a4⟩:=cells5 l;have z0:=ac l 0;have z1:=ac l 1;have z2:=ac l 2;have z3:=ac l 3;have z4:=ac l 4;have bc:w.heap.size<g.heap.size:=(Fi.1 F.o).1;clear C0 hE X K M l hf;go_wp2_with fail
    refine bA Tryz.results233 V (a7 bb.o _ _ _ _ _) V ?_;exact be.h C HL.o S.o HO.o av.o (Fj _) bc _ _ _ _ _
   rw[r5 cc]at j;have en:((kd:Int)==3)=false:=by simp;omega
   subst j;have aq:=Hd (jQ D.o u.o.2 4 14 (by omega));obtain⟨c0,_,_,_,_,_⟩:=cells3 b8.o;generalize ofM ts σ 4 14=r at *;clear b9 cc;go_wp2_with fail
   refine Fx aq.o ?_;rintro e w4 ⟨d,s,rfl,f,K,hf⟩;obtain⟨p,c,rfl⟩:=K.b;have b5:=Hd (u.o.b f);have l:=f.h F.o C (Fj _);have bb:=Hd l;obtain⟨a0,a1,a2,a3,a4⟩:=cells5 l;have z0:=ac l 0;have z1:=ac l 1;have z2:=ac l 2;have z3:=ac l 3;have z4:=ac l 4;obtain⟨HO,HF⟩:=zz2 K hf;have bc:w.heap.size<g.heap.size:=(Fi.1 F.o).1;clear f l K hf c0;go_wp2_with fail
   refine bA Tryz.results233 V (a7 bb.o _ _ _ _ _) V ?_;exact be.h C HL.o b5.o HO.o HF.o (Fj _) bc _ _ _ _ _
def iZ:ByteArray:=⟨#[102,97,99,116]⟩
def oC:ByteArray:=⟨#[114,117,108,101]⟩
def eq(ts:List Tok) (a:Int→PS→ab×PS) (σ:PS):ab×PS:=
 if isM ts σ [iZ]=wg then (.mk 2 (ofM ts (ag ts σ) 2 2).1.f 0 (atM ts σ) (cy ts (fun σ=>ofM ts σ 2 3) (ofM ts (ag ts σ) 2 2).2).1,aU ts (cy ts (fun σ=>ofM ts σ 2 3) (ofM ts (ag ts σ) 2 2).2).2 co)
 else a (atM ts σ) (aU ts σ oC)
theorem t9{ts:List Tok}{b:Int→PS→ab×PS}(h:∀a σ,σ.1≤(b a σ).2.1)(σ:PS):σ.1≤(eq ts b σ).2.1:=by
 unfold eq;have c:=(eS ts σ).1
 split
 ·exact Fu c (Fu (ed ts _ 2 2) (Fu (im (fun σ=>ed ts σ 2 3) _) (bL ts _ _)))
 ·exact Fu (bL ts σ oC) (h _ _)
def zX(ts:List Tok) (b:Int→PS→ab×PS):Prop:=∀(a:Int) (σ:PS) (w:vk) (P L cap:Nat),0≤a→a≤16384→PAt w P L cap ts σ.1 σ.2→
 Calls Tryz.prog 93 #[wF (Y ⟨P,0,U⟩),wD #[I O 0,J ⟨#[]⟩,I Z 0,I Z a,A U 0 0]] w (be w P L cap ts (b a σ))
theorem zZ{ts:List Tok}(H:cG ts){ru:Int→PS→ab×PS}(bc:zX ts ru):jp ts 56 (eq ts ru):=by
 intro σ w P L cap h;have W:Gc w (w.alloc (ur bS 25)):=(Fl _ w).alloc (Fj _) _;obtain⟨HC,H0⟩:=zz2 (ge (h.u W)) (h.b W);have j:=h.lt.1;obtain⟨HL,HX,X,ad,b0⟩:=zz5 h.lt.2 (qv w (ur bS 25)) H (fun σ w P L cap h=>ni H (enters_of Tryz.func91 (by kernel_rfl) V) (yj H) (fun σ=>ed ts σ 2 3) σ w P L cap h) bc;obtain⟨R,af⟩:=zzy (eq ts ru σ);rw[af];have y:=af;unfold eq at y;obtain⟨at_,ak⟩:=zzy (atM ts σ);rw[ak]at HC y;have bd:=Hd y;have K:Hid (0≤at_∧at_≤16384):=by
  show _∧_
  obtain⟨_,_,g3⟩:=cM X.o σ.1;rw[←ak];unfold atM;omega
 clear h W H bc af y ak;generalize kdM ts σ=kd at HC;generalize txM ts σ=tx at HC
 go_enter Tryz.func56,Tryz.ntmps56
 go_wp2_with fail
 refine Fx HC.o ?_;rintro e w1 ⟨rfl,al⟩;have b1:=j4 kd tx at_ w1;obtain⟨b2,bk⟩:=zz2 (H0.o.f al) (aa al HX.o (by simp));have n:w.heap.size<w1.heap.size:=(Fi.1 bk.o).1;clear al;obtain⟨M,q⟩:=zzx (w1.alloc (ur #[I O 0,J ⟨#[]⟩,I Z 0,I Z at_,A U 0 0] 25));have b3:w1.heap.size<M.heap.size:=by rw[q];simp
 have b4:Hid (ay w P L cap ts σ.1 σ.2 M):=by rw[q];exact b2.o.y _
 have b5:Hid (M.heap[w1.heap.size]?=Y (ur #[I O 0,J ⟨#[]⟩,I Z 0,I Z at_,A U 0 0] 25 (0,0))):=by rw[q];exact qv w1 _
 have b6:Hid (M.heap[w.heap.size]?=Y (ur bS 25 (0,0))):=by rw[q];exact (Ga w1 _ _ n).trans bk.o
 go_upto_region 2 with fail
 change xV _ _ _ _ (w1.alloc (ur #[I O 0,J ⟨#[]⟩,I Z 0,I Z at_,A U 0 0] 25));rw[←q];clear b1 q;obtain⟨aq,bl,bn⟩:=zz3 (b4.o.y (ur #[J iZ] 9)) ((Ga M (ur #[J iZ] 9) w1.heap.size b3).trans b5.o) ((Ga M (ur #[J iZ] 9) w.heap.size (by omega)).trans b6.o);have bq:=Hd (dA aq.o.2 M.heap.size 0 1 1 [iZ] (bX [iZ]) V (by omega));go_wp2_with fail
 refine Fx bq.o ?_;rintro e w2 ⟨rfl,ht⟩;obtain⟨t,br,ar⟩:=zz3 (aq.o.b ht) (ht.h bn.o j (Fj _)) (ht.h bl.o j (FT n));have cR:w1.heap.size<w2.heap.size:=(Fi.1 ar.o).1;clear ht aq bl bn bq
 by_cases hm:isM ts σ [iZ]=wg
 ·have y:=bd.o;rw[r6 hm]at y;have z:aR ts σ [iZ]=ag ts σ:=by unfold aR;rw[r6 hm]
  rw[z]at t;have C:isM ts σ [iZ]=true:=by simpa using hm
  rw[C];have av:=Hd y;clear y z hm C;have b7:=Hd (je X.o t.o.2 2 (by omega));have T:(ofM ts (ag ts σ) 2 2).1.f.size≤16384:=(cM X.o _).2.1;generalize ofM ts (ag ts σ) 2 2=nm at *;have bt:=Hd T;clear T;go_wp2_with fail
  refine Fx b7.o ?_;rintro e w4 ⟨d,s,rfl,f,ho,hf⟩;obtain⟨N,a6,i⟩:=zz3 (t.o.b f) (f.h br.o j (Fj _)) (f.h ar.o j (FT n));have b8:w1.heap.size<w4.heap.size:=(Fi.1 i.o).1;have b9:w2.heap.size≤w4.heap.size:=f.1.size;obtain⟨p,c,rfl⟩:=ho.b;have ca:=ir nm.1.b nm.1.f nm.1.h nm.1.t nm.1.q.length p c w4;clear f ho hf;obtain⟨u,v⟩:=zzx (((w4.setCell ⟨w1.heap.size,0,U⟩ (I O 2)).setCell ⟨w1.heap.size,1,U⟩ (J nm.1.f)));have cT:u.heap.size=w4.heap.size:=by rw[v];simp[BT]
  have cV:w1.heap.size<u.heap.size:=by omega
  have Q:Hid (ay w P L cap ts nm.2.1 nm.2.2 u):=by rw[v];exact ((N.o.t j HL.o (by omega) 0 _).t j HL.o (by omega) 1 _)
  have g:Hid (u.heap[w.heap.size]?=Y (ur bS 25 (0,0))):=by rw[v];exact ((Fp _ _ _ _ (show w.heap.size≠w1.heap.size by omega)).trans ((Fp _ _ _ _ (show w.heap.size≠w1.heap.size by omega)).trans a6.o))
  have cb:Hid (u.heap[w1.heap.size]?=Y (ur #[I O 2,J nm.1.f,I Z 0,I Z at_,A U 0 0] 25 (0,0))):=by rw[v];exact (heap_set (heap_set i.o 0 _) 1 _)
  have f0:=ac i.o 0;have f1:=ac i.o 1;obtain⟨n0,n1,n2,n3,n4⟩:=cells5 i.o;have H5:=Hd v;clear v;go_upto_region 4 with fail
  change xV _ _ _ _ ((w4.setCell ⟨w1.heap.size,0,U⟩ (I O 2)).setCell ⟨w1.heap.size,1,U⟩ (J nm.1.f));rw[←H5.o];clear n0 n1 n2 n3 n4 f0 f1;clear ca;have cc:=Hd (ad.o nm.2 u P L cap Q.o.2);generalize cy ts (fun σ=>ofM ts σ 2 3) nm.2=l at *;go_wp2_with fail
  refine Fx cc.o ?_;rintro e w6 ⟨d2,s2,rfl,D,ba⟩;obtain⟨ch,ck,S⟩:=zz3 (Q.o.b D) (D.h g.o j (Fj _)) (D.h cb.o j (FT n));have cW:w1.heap.size<w6.heap.size:=(Fi.1 S.o).1;have c0:u.heap.size≤w6.heap.size:=D.1.size;obtain⟨p2,c2,rfl⟩:=ba.b;have cl:=Hd ba;clear D ba;obtain⟨F,x⟩:=zzx ((w6.setCell ⟨w1.heap.size,4,U⟩ (A p2 l.1.length c2)));have cq:F.heap.size=w6.heap.size:=by rw[x];simp[BT]
  have c1:w1.heap.size<F.heap.size:=by omega
  have bB:Hid (ay w P L cap ts l.2.1 l.2.2 F):=by rw[x];exact (ch.o.t j HL.o (by omega) 4 _)
  have cr:Hid (F.heap[w.heap.size]?=Y (ur bS 25 (0,0))):=by rw[x];exact ((Fp _ _ _ _ (show w.heap.size≠w1.heap.size by omega)).trans ck.o)
  have ct:Hid (F.heap[w1.heap.size]?=Y (ur #[I O 2,J nm.1.f,I Z 0,I Z at_,A p2 l.1.length c2] 25 (0,0))):=by rw[x];exact (heap_set S.o 4 _)
  have f4:=ac S.o 4;obtain⟨n0,n1,n2,n3,n4⟩:=cells5 S.o;have H7:=Hd x;clear x;go_upto_region 5 with fail
  change xV _ _ _ _ (w6.setCell ⟨w1.heap.size,4,U⟩ (A p2 l.1.length c2));rw[←H7.o];clear n0 n1 n2 n3 n4 f4;have cu:Hid (OwnAt F d2 l.1 (A p2 l.1.length c2) (bP u.heap.size F.heap.size)):=by rw[cq,H7.o];exact cl.o.z fun b o hb hx=>(Fp _ _ _ _ (show b≠w1.heap.size by have:=hb.1;omega)).trans hx
  have HW:=Hd (cO bB.o.2 co);go_wp2_with fail
  refine Fx HW.o ?_;rintro e w8 ⟨rfl,k⟩;obtain⟨cv,m,bR⟩:=zz3 (bB.o.b k) (k.h cr.o j (Fj _)) (k.h ct.o j (FT n));have c3:w1.heap.size<w8.heap.size:=(Fi.1 bR.o).1;have c5:F.heap.size≤w8.heap.size:=k.1.size;have cx:=Hd ((cu.o.z fun b o hb hx=>bH k.1 hx (by have:=hb.1;omega)).K (G:=bP u.heap.size w8.heap.size) fun b hb=>⟨hb.1,Ft hb.2 k.1.size⟩);obtain⟨n0,n1,n2,n3,n4⟩:=cells5 bR.o;obtain⟨a0,a1,a2,a3,a4⟩:=cells5 m.o;have z0:=ac m.o 0;have z1:=ac m.o 1;have z2:=ac m.o 2;have z3:=ac m.o 3;have z4:=ac m.o 4;clear k;go_wp2_with fail
  refine bA Tryz.results56 V (a7 m.o _ _ _ _ _) V ?_;rw[←av.o];exact be.h (r:=(.mk 2 nm.1.f 0 at_ l.1,aU ts l.2 co)) (B:=u.heap.size) j HL.o cv.o cx.o (fs (by omega) bt.o K.o.1 K.o.2) (Fj _) (by omega) _ _ _ _ _
 ·have y:=bd.o;rw[r5 hm]at y;have z:aR ts σ [iZ]=σ:=by unfold aR;rw[r5 hm]
  rw[z]at t;have C:isM ts σ [iZ]=false:=by simpa using hm
  rw[C];have av:=Hd y;clear y z hm C;have cA:=Hd (cO t.o.2 oC);generalize aU ts σ oC=cC at *;go_wp2_with fail
  refine Fx cA.o ?_;rintro e w4 ⟨rfl,f⟩;obtain⟨N,a6,i⟩:=zz3 (t.o.b f) (f.h br.o j (Fj _)) (f.h ar.o j (FT n));have b8:w1.heap.size<w4.heap.size:=(Fi.1 i.o).1;have b9:w2.heap.size≤w4.heap.size:=f.1.size;clear f;have E:=Hd (b0.o at_ cC w4 P L cap K.o.1 K.o.2 N.o.2);rw[av.o]at E;obtain⟨n0,n1,n2,n3,n4⟩:=cells5 i.o;go_wp2_with fail
  refine Fx E.o ?_;rintro e u ⟨d,s,rfl,bb,ho,hf⟩;obtain⟨p,c,rfl⟩:=ho.b;obtain⟨Q,g⟩:=zz2 (N.o.b bb) (bb.h a6.o j (Fj _));obtain⟨a0,a1,a2,a3,a4⟩:=cells5 g.o;have z0:=ac g.o 0;have z1:=ac g.o 1;have z2:=ac g.o 2;have z3:=ac g.o 3;have z4:=ac g.o 4;obtain⟨HO,HF⟩:=zz2 ho hf;clear bb ho hf n0 n1 n2 n3 n4;go_wp2_with fail
  refine bA Tryz.results56 V (a7 g.o _ _ _ _ _) V ?_;exact be.h j HL.o Q.o HO.o HF.o (Fj _) (by omega) _ _ _ _ _
section
variable {ts:List Tok} {σ:PS}
theorem lS(h:σ.2=wg)(texts:List ByteArray):isM ts σ texts=false:=by unfold isM;rw[h];rfl
theorem ej(h:σ.2=wg)(x:ByteArray):(aU ts σ x).2=true:=by
 show qE σ.2 _ _=wg
 unfold qE;rw[h];rfl
theorem oH(h:σ.2=wg)(tok kind:Nat):(ofM ts σ tok kind).2.2=true:=by
 show (σ.2||_)=wg
 rw[h];rfl
end
theorem pE{ts:List Tok}{σ:PS}(h:σ.2=wg):(em ts σ).2.2=true:=by
 unfold em;rw[r5 (by rw[lS h];decide),r5 (by rw[lS h];decide)]
 split
 ·exact oH h _ _
 ·split
  ·exact oH h _ _
  ·exact oH h _ _
theorem wh{ts:List Tok}{one:PS→ab×PS}{σ:PS}(h:σ.2=wg):∀(g:Nat) (a:List ab),eQ ts one g a σ=(a,σ):=by
 intro g a
 cases g with
 | zero=>rfl
 | succ g=>unfold eQ;rw[r5 (by rw[lS h];decide)]
theorem BI{ts:List Tok}{one:PS→ab×PS}(a:∀σ:PS,σ.2=wg→(one σ).2.2=wg){σ:PS}(h:σ.2=wg):(i9 ts one σ).2.2=true:=by
 unfold i9;rw[wh (a σ h)];exact a σ h
theorem AT{ts:List Tok}{one:PS→ab×PS}(a:∀σ:PS,σ.2=wg→(one σ).2.2=wg){σ:PS}(h:σ.2=wg):(cy ts one σ).2.2=true:=by
 unfold cy;rw[r5 (by rw[lS (ej h _)];decide)];exact ej (BI a (ej h _)) _
theorem EH{ts:List Tok}(c:cG ts){σ:PS}(d:σ.1<ts.length){tok:Nat}(h:tok≠7)(kind:Nat):(ofM ts σ tok kind).2.2=wg∨σ.1<(ofM ts σ tok kind).2.1:=by
 cases e:(ofM ts σ tok kind).2.2 with
 | true=>exact Or.inl V
 | false =>
  right
  have b:(σ.2||(cQ ts σ.1).1 != tok)=false:=e
  show σ.1<eG ts.length σ.1 (σ.2||(cQ ts σ.1).1 != tok)
  rw[b];have f:(cQ ts σ.1).1=tok:=by
   cases g:σ.2<;>simp[g]at b
   exact b
  have a:σ.1+1<ts.length:=by
   by_cases a:σ.1+1<ts.length
   ·exact a
   ·exfalso
    have:=c.last σ.1 _ (gu d) a;omega
  rw[pX a];omega
theorem pY{ts:List Tok}(a:cG ts){b:PS→ab×PS}(c:∀σ,σ.1≤(b σ).2.1)(d:∀σ:PS,σ.2=wg→(b σ).2.2=wg){σ:PS}(f:σ.1<ts.length):(dB ts b σ).2.2=wg∨σ.1<(dB ts b σ).2.1:=by
 unfold dB
 by_cases g:isM ts σ [iW]=wg
 ·rw[r6 g];obtain⟨i,_,_⟩:=fo a f g
  right
  have e:=gb ts (ag ts σ);have j:=bL ts (eH ts (ag ts σ)).2 co;dsimp only;omega
 ·rw[r5 g]
  by_cases e:isM ts σ [ff]=wg
  ·rw[r6 e];obtain⟨i,_,_⟩:=fo a f e
   right
   have j:=ed ts (ag ts σ) 2 6;have k:=im (ts:=ts) c (ofM ts (ag ts σ) 2 6).2;have l:=bL ts (cy ts b (ofM ts (ag ts σ) 2 6).2).2 co;dsimp only;omega
  ·rw[r5 e];rcases EH a f (show 2≠7 by omega) 5 with h|h
   ·left
    exact ej (AT d h) _
   ·right
    have k:=im (ts:=ts) c (ofM ts σ 2 5).2;have l:=bL ts (cy ts b (ofM ts σ 2 5).2).2 co;dsimp only;omega
theorem re{ts:List Tok}(a:cG ts){σ:PS}(d:σ.1<ts.length):(eU ts σ).2.2=wg∨σ.1<(eU ts σ).2.1:=by
 unfold eU
 by_cases f:isM ts σ [fG]=wg
 ·rw[r6 f];obtain⟨e,_,_⟩:=fo a d f
  right
  have b:=ed ts (ag ts σ) 2 8;have c:=im (ts:=ts) (gb ts) (ofM ts (ag ts σ) 2 8).2;have g:=bL ts (cy ts (eH ts) (ofM ts (ag ts σ) 2 8).2).2 co;dsimp only;omega
 ·rw[r5 f]
  by_cases h:isM ts σ [eV]=wg
  ·rw[r6 h];obtain⟨e,_,_⟩:=fo a d h
   right
   have b:=ou ts (ag ts σ);have g:=bL ts (gi ts (ag ts σ)).2 co;dsimp only;omega
  ·rw[r5 h]
   by_cases b:isM ts σ [kj]=wg
   ·rw[r6 b];obtain⟨e,_,_⟩:=fo a d b
    right
    have c:=ra (ts:=ts) (gb ts) (ag ts σ);have g:=bL ts (i9 ts (eH ts) (ag ts σ)).2 co;dsimp only;omega
   ·rw[r5 b];dsimp only
    by_cases c:isM ts σ [kt]=wg
    ·obtain⟨e,_,_⟩:=fo a d c
     right
     have g:=bL ts (aU ts σ kt) co;have i:(aU ts σ kt).1=σ.1+1:=by
      rw[←e,←tE Prod.fst (show aR ts σ [kt]=ag ts σ by unfold aR;rw[r6 c])];exact (jU ts σ [kt]).1.symm
     omega
    ·left
     refine ej ?_ _
     show (!isM ts σ [kt])=wg
     rw[Bool.eq_false_iff.2 c];rfl
def upTo(ts:List Tok) (one:PS→ab×PS) (stop:ByteArray):Nat→List ab→PS→List ab×PS
 | 0,a,σ=>(a,σ)
 | g+1,a,σ=>if σ.2=wg then (a,σ) else if isM ts σ [stop]=wg then (a,σ) else upTo ts one stop g (a++[(one σ).1]) (one σ).2
theorem wV{ts:List Tok}{one:PS→ab×PS}(b:∀σ,σ.1≤(one σ).2.1)(stop:ByteArray):∀(g:Nat) (a:List ab) (σ:PS),σ.1≤(upTo ts one stop g a σ).2.1:=by
 intro g
 induction g with
 | zero=>intro a σ;exact Fj _
 | succ g c =>
  intro a σ;unfold upTo
  split
  ·exact Fj _
  ·split
   ·exact Fj _
   ·exact Fu (b σ) (c _ _)
def kW:ByteArray:=⟨#[115,97,108,105,101,110,99,101]⟩
def tTo:ByteArray:=⟨#[61,62]⟩
def kw:ByteArray:=⟨#[123]⟩
def dn:ByteArray:=⟨#[125]⟩
def ig(ts:List Tok) (σ:PS):Int×PS:=
 if isM ts σ [kW]=wg then
  if isM ts (ag ts σ) [bo]=wg then (-((gi ts (ag ts (ag ts σ))).1:Int),(gi ts (ag ts (ag ts σ))).2)
  else ((gi ts (ag ts σ)).1,(gi ts (ag ts σ)).2)
 else (0,σ)
theorem Ez(ts:List Tok)(σ:PS):σ.1≤(ig ts σ).2.1:=by
 unfold ig;have a:=(eS ts σ).1
 split
 ·split
  ·exact Fu a (Fu (eS ts _).1 (ou ts _))
  ·exact Fu a (ou ts _)
 ·exact Fj _
def dI(ts:List Tok) (a:Int) (σ:PS):ab×PS:=
 let nm:=ofM ts σ 2 4
 let b:=ig ts nm.2
 let cs:=upTo ts (dB ts (em ts)) tTo (ts.length+1) [] (aU ts b.2 kw)
 let zs:=upTo ts (eU ts) dn (ts.length+1) cs.1 (aU ts cs.2 tTo)
 (.mk 4 nm.1.f b.1 a zs.1,aU ts zs.2 dn)
theorem pQ(ts:List Tok)(a:Int)(σ:PS):σ.1≤(dI ts a σ).2.1:=by
 unfold dI;dsimp only;have b:=ed ts σ 2 4;have c:=Ez ts (ofM ts σ 2 4).2;have d:=bL ts (ig ts (ofM ts σ 2 4).2).2 kw;have e:=wV (ts:=ts) (pF (ts:=ts) (ji ts)) tTo (ts.length+1) [] (aU ts (ig ts (ofM ts σ 2 4).2).2 kw);generalize upTo ts (dB ts (em ts)) tTo (ts.length+1) [] (aU ts (ig ts (ofM ts σ 2 4).2).2 kw)=cs at *;have f:=bL ts cs.2 tTo;have g:=wV (ts:=ts) (rh ts) dn (ts.length+1) cs.1 (aU ts cs.2 tTo);generalize upTo ts (eU ts) dn (ts.length+1) cs.1 (aU ts cs.2 tTo)=zs at *;have h:=bL ts zs.2 dn;omega
def dpM:Nat→ab→Option Int
 | 0,T=>Y T.t
 | n+1,T=>T.q.findSome? (dpM n)
def ET(x:Option Int) (w:vk) (e:Ending) (w':vk):Prop:=e=Ending.returned (Value.tuple #[I Z (x.getD 0),Value.bool x.isSome])∧Gc w w'
def Fc(b:vk) (n m:Nat) (c:List ab) (i:vn) (W:vk):Prop:=∃(a:vk) (k:Nat),a=W∧k≤m∧i=I Z k∧Gc b a∧(c.take k).findSome? (dpM n)=U
theorem zq:∀(n:Nat) (a d:Nat) (T:ab) (u:vn) (B:Nat) (w:vk),a+n=30→bz w B d T u→B≤w.heap.size→cD d T.q→Calls Tryz.prog 57 #[u,I Z a] w (ET (dpM n T) w):=by
 intro n
 induction n with
 | zero =>
  intro a d T u B w ha hu hB hs;obtain⟨_,s,rfl,D⟩:=hu;obtain⟨p,l,c,rfl⟩:=D.b;obtain rfl:a=30:=by omega
  have P:=jl w T (A p l c);have HB:=Hd ((Fl _ w).alloc (Fj _) (ur #[I O T.b,J T.f,I Z T.h,I Z T.t,A p l c] 25));obtain⟨x0,x1,x2,x3,x4⟩:=cells5 (qv w (ur #[I O T.b,J T.f,I Z T.h,I Z T.t,A p l c] 25));clear P
  go_enter Tryz.func57,Tryz.ntmps57
  go_wp2_with fail
  go_ret2
  exact⟨V,HB.o⟩
 | succ n ih =>
  intro a d T u B w ha hu hB hs;obtain⟨_,s,rfl,D⟩:=hu;have a1:T.q.length≤20000:=by
   cases d with
   | zero=>rw[D.1];exact FA _
   | succ d=>exact hs.1
  have g:∀t∈T.q,cD (d-1) t.q:=by
   cases d with
   | zero=>intro t hT;rw[D.1]at hT;cases hT
   | succ d=>intro t hT;exact (hs.2 t hT).q
  obtain⟨p,c,rfl,_,E⟩:=D.rows;have z:Hid (dpM (n+1) T=T.q.findSome? (dpM n)):=rfl;obtain⟨x,hx⟩:=zzy (dpM (n+1) T);rw[hx]at z ⊢;obtain⟨m,hm⟩:=zzy (T.q.length);rw[hm]at a1;obtain⟨Q,F,R,a6⟩:=zz4 hm E g ih;have bl:(a:Int)<30:=by omega
  have HA:Hid ((a+1)+n=30):=by show _=_;omega
  obtain⟨S,C⟩:=zzx (w.alloc (ur #[I O T.b,J T.f,I Z T.h,I Z T.t,A p T.q.length c] 25));have HX:Hid (S.heap[w.heap.size]?=Y (ur #[I O T.b,J T.f,I Z T.h,I Z T.t,A p T.q.length c] 25 (0,0))):=by rw[C];exact qv w _
  have W:Hid (Gc w S):=by rw[C];exact (Fl _ w).alloc (Fj _) _
  obtain⟨x0,x1,x2,x3,x4⟩:=cells5 (qv w (ur #[I O T.b,J T.f,I Z T.h,I Z T.t,A p T.q.length c] 25));clear D hs g E ih hm hx ha;obtain⟨h,K⟩:=zzy (T.q);rw[K]at z Q F R;have ba:=Hd K;clear K
  go_enter Tryz.func57,Tryz.ntmps57
  go_upto_region 3 with fail
  change xV _ _ _ _ (w.alloc (ur #[I O T.b,J T.f,I Z T.h,I Z T.t,A p T.q.length c] 25));rw[←C];clear x0 x1 x2 x3 x4 C;obtain⟨y0,y1,y2,y3,y4⟩:=cells5 HX.o;rw[show T.q.length=m by rw[ba.o];exact Q.o]at y4;go_wp2_with fail
  clear y0 y1 y2 y3 y4
  go_loopw [17] (Fc S n m h) (fun i _=>m-(intOf i).toNat)
  case atStart=>exact⟨_,0,V,FA _,V,Fl _ _,V⟩
  case round =>
   obtain⟨W1,k,rfl,D,rfl,hb,X⟩:=hrel;have bb:(0:Int)≤k:=by omega
   have f:=W.o.trans (hb.mono W.o.size);obtain⟨L,ad,af⟩:=zz3 f X hb;clear X hb
   by_cases M:k<m
   ·obtain⟨t,ht⟩:∃t,h[k]?=Y t:=⟨h[k]'(by rw[Q.o];exact M),Fq (by rw[Q.o];exact M)⟩;have G:t∈h:=FM ht;obtain⟨hd,b,off,rfl,bc,H⟩:=F.o k t ht;obtain⟨p',l',c',d0,d1,d2,d3,d4,j⟩:=H.node (f.mono hB) bc;have bn:(k:Int)<m:=by omega
    have r:=Hd (a6.o (a+1) _ t _ B _ HA.o (j.y (Fu hB f.size) (ur #[I O t.b,J t.f,I Z t.h,I Z t.t,A p' l' c'] 25)) (by have:=f.size;rw[r9];omega) (R.o t G));rw[Int.natCast_succ]at r;have ak:=Hd ((Fl _ W1).alloc (Fj _) (ur #[I O t.b,J t.f,I Z t.h,I Z t.t,A p' l' c'] 25))
    have v:=Hd (show (h.take (k+1)).findSome? (dpM n)=(dpM n t) by
     rw[FY,ht,List.findSome?_append,ad.o]
     simp)
    have N:Hid (h.findSome? (dpM n)=((h.take (k+1)).findSome? (dpM n)).or ((h.drop (k+1)).findSome? (dpM n))):=by
     show _=_
     conv=>lhs;rw[←List.take_append_drop (k+1) h]
     rw[List.findSome?_append]
    generalize hy:dpM n t=y at *;clear j H G ht hd f hy;go_wp2_with fail
    refine r.o.mono ?_;rintro e W2 ⟨rfl,al⟩;have aq:=Hd (ak.o.trans (al.mono ak.o.size));clear al d0 d1 d2 d3 d4
    cases y with
    | none =>
     go_wp2_with fail
     exact⟨⟨_,k+1,V,by omega,by go_num,af.o.trans (aq.o.mono af.o.size),v.o⟩,by simp[intOf];omega⟩
    | some q =>
     have ar:x=Y q:=by rw[z.o,N.o,v.o];rfl
     have bd:=Hd ar;clear ar;go_wp2_with fail
     go_ret2
     rw[bd.o];exact⟨V,L.o.trans (aq.o.mono L.o.size)⟩
   ·obtain rfl:k=m:=by omega
    have av:x=none:=by rw[z.o,←ad.o,←Q.o,List.take_length]
    have bk:=Hd av;clear D M bb av f;go_wp2_with fail
    go_ret2
    rw[bk.o];exact⟨V,L.o⟩
theorem rF{w X q f:vk}{P L cap k k3:Nat}{bad r:Bool}{ts:List Tok}{i m d g7 a:Nat}{c:List ab}{rows:List (List vn)}{Fs:Nat→Nat→Prop}{o T W c2 c3:vn}{t:ab}{gg N d2:Nat}{s2:vn}
  (hP:P<w.heap.size) (hL:L<w.heap.size) (ad:w.heap.size≤i) (v:i<m) (hX:m≤X.heap.size) (hT:ay w P L cap ts k bad X)
  (af:X.heap[i]?=Y (ur #[T,W,c2,c3,o] 25 (0,0))) (H:X.ownsRow m 25 5 o c.length rows.flatten) (y:cF X m d c c.length o.ownBlock rows Fs)
  (n:ay X P L cap ts k3 r q) (ak:q.heap[gg]?=Y (ur (ai t s2).toArray 25 (0,0))) (ho:OwnAt q d2 t.q s2 (bP X.heap.size N)) (hf:Fits t) (al:X.heap.size≤N) (a6:N≤gg)
  (s:f.ownsRow m 25 5 (A (Y ⟨g7,0,U⟩) (c.length+1) a) (c.length+1) (rows.flatten++ai t s2)) (j:q.grownBy f o.ownBlock) (z:o.ownBlock=Y g7∨g7=q.heap.size) :
  ∃d' l B,ay w P L cap ts k3 r (f.setCell ⟨i,4,U⟩ (A (Y ⟨g7,0,U⟩) (c.length+1) a))∧
   (∀b,b<m→b≠P→b≠i→(f.setCell ⟨i,4,U⟩ (A (Y ⟨g7,0,U⟩) (c.length+1) a)).heap[b]?=X.heap[b]?)∧
   (f.setCell ⟨i,4,U⟩ (A (Y ⟨g7,0,U⟩) (c.length+1) a)).heap[i]?=Y (ur #[T,W,c2,c3,A (Y ⟨g7,0,U⟩) (c.length+1) a] 25 (0,0))∧
   (f.setCell ⟨i,4,U⟩ (A (Y ⟨g7,0,U⟩) (c.length+1) a)).ownsRow m 25 5 (A (Y ⟨g7,0,U⟩) (c.length+1) a) (c++[t]).length l.flatten∧
   cF (f.setCell ⟨i,4,U⟩ (A (Y ⟨g7,0,U⟩) (c.length+1) a)) m d' (c++[t]) (c++[t]).length (Y g7) l B∧f.heap[i]?=Y (ur #[T,W,c2,c3,o] 25 (0,0)):=by
 have p:=eO H;have ba:=hT.1.size;have bb:=n.1.size;have bc:gg<q.heap.size:=(Fi.1 ak).1;have bd:=j.size;have K:∀g,o.ownBlock=Y g→w.heap.size≤g:=fun g hg=>by have:=(p g hg).1;omega
 have aq:=(hT.b n).grownO hP hL j K;have C:∀b,b<q.heap.size→o.ownBlock≠Y b→f.heap[b]?=q.heap[b]?:=fun b F D=>j.block b F (fun e=>D e.symm)
 have ar:∀b,b<m→o.ownBlock≠Y b:=fun b hb e=>by have:=(p b e).1;omega
 have e2:=ho.mores d;rw[Nat.add_comm d2 d]at e2;have M:∀b,b<m→b≠P→f.heap[b]?=X.heap[b]?:=fun b F D=>(C b (by omega) (ar b F)).trans (n.1.block b (by omega) (fun e=>by injection e with e;exact D e))
 obtain⟨B,E⟩:=cF.nextT (W':=f) (N:=N) (own':=Y g7) (t:=t) ((y.deeper d2).longer V [t]) (by simp) hf
  (e2.z fun x o' G av=>(C x (by have:=G.2;omega) (fun e=>by have:=(p x e).2;have:=G.1;omega)).trans av) al (by omega) (by omega) (by omega)
  (fun x F D Q=>(C x (by omega) Q).trans (n.1.block x D (fun e=>by injection e with e;omega))) (fun x G=>by
   injection G with G
   subst G;rcases z with h|h
   ·exact Or.inl ⟨h,by have:=(p _ h).2;omega⟩
   ·right;omega)
 obtain⟨R,a1⟩:=zzx (A (Y ⟨g7,0,U⟩) (c.length+1) a);rw[←a1]at s ⊢;have u:f.grownBy (f.setCell ⟨i,4,U⟩ R) (Y i):=gx (sm f _) _ _;have S:f.heap[i]?=Y (ur #[T,W,c2,c3,o] 25 (0,0)):=(M i v (by omega)).trans af;refine⟨d+d2,rows++[ai t s2],B,aq.t hP hL ad 4 R,?_,?_,?_,?_,S⟩
 ·exact fun b F D h3=>(Fp _ _ _ b h3).trans (M b F D)
 ·rw[heap_set S 4 R];rfl
 ·have:=du s u v;rw[FC,F9,List.flatten_append]
  simpa using this
 ·rw[FC,F9];exact E.turn u v
