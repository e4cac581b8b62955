/- Parts of one proof, joined; conditions stand in each theorem. -/
import Derived.Test.YtkhfjgjjhlnnnaaGreatDoorYMW
open Bool renaming true→wP
open Go.Obj renaming cells→wq
open Go.Value renaming int→I,string→J,slice→A,agg→xS,pointer→xV
open Go.IntKind renaming u8→O,i64→Z
open Option renaming none→U,some→Y
open Go.Code renaming wp→AR
open Go.World renaming setCell→CK
open Go renaming World→wD,undef→At,wpQuiet_nil→Bk,Value→wF
namespace Go.Proofs.YtkhfjgjjhlnnnaaGreatDoor
set_option maxHeartbeats 2000000
set_option maxRecDepth 100000
open Go.RowKit
def fJ:ByteArray:=⟨#[97,115,115,101,114,116]⟩
def eT:ByteArray:=⟨#[114,101,116,114,97,99,116]⟩
def kr:ByteArray:=⟨#[115,97,121]⟩
def kz:ByteArray:=⟨#[104,97,108,116]⟩
def eS(ts:List Tok) (σ:PS):ab×PS:=
 if isM ts σ [fJ]=wP then (.mk 8 (ofM ts (ag ts σ) 2 8).1.f 0 (atM ts σ) (cn ts (eH ts) (ofM ts (ag ts σ) 2 8).2).1,aT ts (cn ts (eH ts) (ofM ts (ag ts σ) 2 8).2).2 ci)
 else if isM ts σ [eT]=wP then (.mk 9 ⟨#[]⟩ (gk ts (ag ts σ)).1 (atM ts σ) [],aT ts (gk ts (ag ts σ)).2 ci)
 else if isM ts σ [kr]=wP then (.mk 10 ⟨#[]⟩ 0 (atM ts σ) (jc ts (eH ts) (ag ts σ)).1,aT ts (jc ts (eH ts) (ag ts σ)).2 ci)
 else (.mk 11 ⟨#[]⟩ 0 (atM ts σ) [],aT ts (aT ts σ kz) ci)
theorem rl(ts:List Tok)(σ:PS):σ.1≤(eS ts σ).2.1:=by
 unfold eS;have a:=(eQ ts σ).1
 (repeat' split)
 ·exact EU a (EU (ed ts _ 2 8) (EU (io (ge ts) _) (bJ ts _ _)))
 ·exact EU a (EU (oz ts _) (bJ ts _ _))
 ·exact EU a (EU (ri (ge ts) _) (bJ ts _ _))
 ·exact EU (bJ ts _ _) (bJ ts _ _)
theorem qY{ts:List Tok}(a:cE ts):js ts 232 (eH ts):=fun _σ _w _P _L _cap h=>sV a h
theorem C5{kind:Nat}{n:Nat}{pl:Int}{a:List ab}(b:kind<256)(c:n≤2147483647)(d:0≤pl)(e:pl≤16384):Fits (.mk kind ⟨#[]⟩ n pl a):=
 ⟨b,by show (0:Nat)≤maxLen;exact Fa _,by show (-9223372036854775808:Int)≤n;omega,by show (n:Int)<9223372036854775808;omega,by show (-9223372036854775808:Int)≤pl;omega,by show pl<9223372036854775808;omega⟩
theorem Bu{ts:List Tok}(av:cE ts):js ts 165 (eS ts):=by
 intro σ w P L cap h;have b3:FK w (w.alloc (wq bO 25)):=(EP _ w).alloc (EO _) _;obtain⟨HC,H0⟩:=zz2 (gi (h.z b3)) (h.b b3);have j:=h.lt.1;obtain⟨HL,HX,bt,b4,ch⟩:=zz5 h.lt.2 (p9 w (wq bO 25)) av (fun σ w P L cap h=>ns av (enters_of Tryz.func232 (by kernel_rfl) V) (qY av) (ge ts) σ w P L cap h) (fun σ w P L cap h=>uz av (enters_of Tryz.func232 (by kernel_rfl) V) (qY av) (ge ts) σ w P L cap h);obtain⟨R,b5⟩:=zzy (eS ts σ);rw[b5];have v:=b5;unfold eS at v;obtain⟨at_,b6⟩:=zzy (atM ts σ);rw[b6]at HC v;have ck:=Hd v;have Q:Hid (0≤at_∧at_≤16384):=by
  show _∧_
  obtain⟨_,_,g3⟩:=cK bt.o σ.1;rw[←b6];unfold atM;omega
 clear h b3 av b5 v b6;generalize kdM ts σ=kd at HC;generalize txM ts σ=tx at HC
 go_enter Tryz.func165,Tryz.ntmps165
 go_wp2_with fail
 refine EX HC.o ?_;rintro e w1 ⟨rfl,b7⟩;have cT:=j8 kd tx at_ w1;obtain⟨cV,cl⟩:=zz2 (H0.o.f b7) (aa b7 HX.o (by simp));have x:w.heap.size<w1.heap.size:=(EN.1 cl.o).1;clear b7;obtain⟨wA,a6⟩:=zzx (w1.alloc (wq #[I O 0,J ⟨#[]⟩,I Z 0,I Z at_,A U 0 0] 25));have cW:w1.heap.size<wA.heap.size:=by rw[a6];simp
 have c0:Hid (ax w P L cap ts σ.1 σ.2 wA):=by rw[a6];exact cV.o.u _
 have c1:Hid (wA.heap[w1.heap.size]?=Y (wq #[I O 0,J ⟨#[]⟩,I Z 0,I Z at_,A U 0 0] 25 (0,0))):=by rw[a6];exact p9 w1 _
 have c3:Hid (wA.heap[w.heap.size]?=Y (wq bO 25 (0,0))):=by rw[a6];exact (FH w1 _ _ x).trans cl.o
 go_upto_region 4 with fail
 change AR _ _ _ _ (w1.alloc (wq #[I O 0,J ⟨#[]⟩,I Z 0,I Z at_,A U 0 0] 25));rw[←a6];clear cT a6;obtain⟨D,S,T⟩:=zz3 (c0.o.u (wq #[J fJ] 9)) ((FH wA (wq #[J fJ] 9) w1.heap.size cW).trans c1.o) ((FH wA (wq #[J fJ] 9) w.heap.size (by omega)).trans c3.o);have W:=Hd (dy D.o.2 wA.heap.size 0 1 1 [fJ] (bT [fJ]) V (by omega));go_wp2_with fail
 refine EX W.o ?_;rintro e w2 ⟨rfl,ht⟩;obtain⟨bB,cq,bn⟩:=zz3 (D.o.b ht) (ht.h T.o j (EO _)) (ht.h S.o j (Fu x));have c5:w1.heap.size<w2.heap.size:=(EN.1 bn.o).1;clear ht D S T W
 by_cases hm:isM ts σ [fJ]=wP
 ·have v:=ck.o;rw[rv hm]at v;have k:aQ ts σ [fJ]=ag ts σ:=by unfold aQ;rw[rv hm]
  rw[k]at bB;have m:isM ts σ [fJ]=true:=by simpa using hm
  rw[m];have bR:=Hd v;clear v k hm m;obtain⟨w3,ba⟩:=zzx ((w2.setCell ⟨w1.heap.size,0,U⟩ (I O 8)));have eb:w3.heap.size=w2.heap.size:=by rw[ba];simp[CK]
  have cr:w1.heap.size<w3.heap.size:=by omega
  have X:Hid (ax w P L cap ts (ag ts σ).1 (ag ts σ).2 w3):=by rw[ba];exact (bB.o.y j HL.o (by omega) 0 _)
  have b0:Hid (w3.heap[w.heap.size]?=Y (wq bO 25 (0,0))):=by rw[ba];exact ((ER _ _ _ _ (show w.heap.size≠w1.heap.size by omega)).trans cq.o)
  have bb:Hid (w3.heap[w1.heap.size]?=Y (wq #[I O 8,J ⟨#[]⟩,I Z 0,I Z at_,A U 0 0] 25 (0,0))):=by rw[ba];exact (heap_set bn.o 0 _)
  have f0:=ac bn.o 0;obtain⟨n0,n1,n2,n3,n4⟩:=cells5 bn.o;have H3:=Hd ba;clear ba;go_upto_region 6 with fail
  change AR _ _ _ _ (w2.setCell ⟨w1.heap.size,0,U⟩ (I O 8));rw[←H3.o];clear n0 n1 n2 n3 n4 f0;have c6:=Hd (jh bt.o X.o.2 8 (by omega));have b2:(ofM ts (ag ts σ) 2 8).1.f.size≤16384:=(cK bt.o _).2.1;generalize ofM ts (ag ts σ) 2 8=nm at *;have ct:=Hd b2;obtain⟨n0,n1,n2,n3,n4⟩:=cells5 bb.o;clear b2;go_wp2_with fail
  refine EX c6.o ?_;rintro e w4 ⟨d,s,rfl,E,ho,hf⟩;obtain⟨K,bc,q⟩:=zz3 (X.o.b E) (E.h b0.o j (EO _)) (E.h bb.o j (Fu x));have cu:w1.heap.size<w4.heap.size:=(EN.1 q.o).1;have c7:w3.heap.size≤w4.heap.size:=E.1.size;obtain⟨p,c,rfl⟩:=ho.b;have c8:=iu nm.1.b nm.1.f nm.1.h nm.1.y nm.1.u.length p c w4;clear E ho hf n0 n1 n2 n3 n4;obtain⟨f,g⟩:=zzx ((w4.setCell ⟨w1.heap.size,1,U⟩ (J nm.1.f)));have cv:f.heap.size=w4.heap.size:=by rw[g];simp[CK]
  have b8:w1.heap.size<f.heap.size:=by omega
  have H:Hid (ax w P L cap ts nm.2.1 nm.2.2 f):=by rw[g];exact (K.o.y j HL.o (by omega) 1 _)
  have ad:Hid (f.heap[w.heap.size]?=Y (wq bO 25 (0,0))):=by rw[g];exact ((ER _ _ _ _ (show w.heap.size≠w1.heap.size by omega)).trans bc.o)
  have F:Hid (f.heap[w1.heap.size]?=Y (wq #[I O 8,J nm.1.f,I Z 0,I Z at_,A U 0 0] 25 (0,0))):=by rw[g];exact (heap_set q.o 1 _)
  have f1:=ac q.o 1;obtain⟨n0,n1,n2,n3,n4⟩:=cells5 q.o;have H5:=Hd g;clear g;go_upto_region 7 with fail
  change AR _ _ _ _ (w4.setCell ⟨w1.heap.size,1,U⟩ (J nm.1.f));rw[←H5.o];clear n0 n1 n2 n3 n4 f1;clear c8;have b9:=Hd (b4.o nm.2 f P L cap H.o.2);generalize cn ts (eH ts) nm.2=l at *;go_wp2_with fail
  refine EX b9.o ?_;rintro e u ⟨d2,s2,rfl,i,af⟩;obtain⟨M,y,z⟩:=zz3 (H.o.b i) (i.h ad.o j (EO _)) (i.h F.o j (Fu x));have ca:w1.heap.size<u.heap.size:=(EN.1 z.o).1;have cx:f.heap.size≤u.heap.size:=i.1.size;obtain⟨p2,c2,rfl⟩:=af.b;have ak:=Hd af;clear i af;obtain⟨N,bd⟩:=zzx ((u.setCell ⟨w1.heap.size,4,U⟩ (A p2 l.1.length c2)));have c9:N.heap.size=u.heap.size:=by rw[bd];simp[CK]
  have cA:w1.heap.size<N.heap.size:=by omega
  have bk:Hid (ax w P L cap ts l.2.1 l.2.2 N):=by rw[bd];exact (M.o.y j HL.o (by omega) 4 _)
  have n:Hid (N.heap[w.heap.size]?=Y (wq bO 25 (0,0))):=by rw[bd];exact ((ER _ _ _ _ (show w.heap.size≠w1.heap.size by omega)).trans y.o)
  have al:Hid (N.heap[w1.heap.size]?=Y (wq #[I O 8,J nm.1.f,I Z 0,I Z at_,A p2 l.1.length c2] 25 (0,0))):=by rw[bd];exact (heap_set z.o 4 _)
  have f4:=ac z.o 4;obtain⟨n0,n1,n2,n3,n4⟩:=cells5 z.o;have H7:=Hd bd;clear bd;go_upto_region 12 with fail
  change AR _ _ _ _ (u.setCell ⟨w1.heap.size,4,U⟩ (A p2 l.1.length c2));rw[←H7.o];clear n0 n1 n2 n3 n4 f4;have bq:Hid (OwnAt N d2 l.1 (A p2 l.1.length c2) (bM f.heap.size N.heap.size)):=by rw[c9,H7.o];exact ak.o.C fun b o C hx=>(ER _ _ _ _ (show b≠w1.heap.size by have:=C.1;omega)).trans hx
  have HW:=Hd (cM bk.o.2 ci);go_wp2_with fail
  refine EX HW.o ?_;rintro e w8 ⟨rfl,aq⟩;obtain⟨da,ar,cC⟩:=zz3 (bk.o.b aq) (aq.h n.o j (EO _)) (aq.h al.o j (Fu x));have ec:w1.heap.size<w8.heap.size:=(EN.1 cC.o).1;have eg:N.heap.size≤w8.heap.size:=aq.1.size;have dc:=Hd ((bq.o.C fun b o C hx=>bF aq.1 hx (by have:=C.1;omega)).N (G:=bM f.heap.size w8.heap.size) fun b C=>⟨C.1,ET C.2 aq.1.size⟩);obtain⟨n0,n1,n2,n3,n4⟩:=cells5 cC.o;obtain⟨a0,a1,a2,a3,a4⟩:=cells5 ar.o;have z0:=ac ar.o 0;have z1:=ac ar.o 1;have z2:=ac ar.o 2;have z3:=ac ar.o 3;have z4:=ac ar.o 4;clear aq;go_wp2_with fail
  refine bw Tryz.results165 V (aZ ar.o _ _ _ _ _) V ?_;rw[←bR.o];exact a9.h (r:=(.mk 8 nm.1.f 0 at_ l.1,aT ts l.2 ci)) (B:=f.heap.size) j HL.o da.o dc.o (fu (by omega) ct.o Q.o.1 Q.o.2) (EO _) (by omega) _ _ _ _ _
 ·have v:=ck.o;rw[qv hm]at v;have k:aQ ts σ [fJ]=σ:=by unfold aQ;rw[qv hm]
  rw[k]at bB;have m:isM ts σ [fJ]=false:=by simpa using hm
  rw[m];have bR:=Hd v;clear v k hm m;obtain⟨D,S,T⟩:=zz3 (bB.o.u (wq #[J eT] 9)) ((FH w2 (wq #[J eT] 9) w1.heap.size c5).trans bn.o) ((FH w2 (wq #[J eT] 9) w.heap.size (by omega)).trans cq.o);have W:=Hd (dy D.o.2 w2.heap.size 0 1 1 [eT] (bT [eT]) V (by omega));go_wp2_with fail
  refine EX W.o ?_;rintro e w3 ⟨rfl,ht⟩;obtain⟨X,b0,bb⟩:=zz3 (D.o.b ht) (ht.h T.o j (EO _)) (ht.h S.o j (Fu x));have cr:w1.heap.size<w3.heap.size:=(EN.1 bb.o).1;clear ht D S T W
  by_cases hm:isM ts σ [eT]=wP
  ·have v:=bR.o;rw[rv hm]at v;have k:aQ ts σ [eT]=ag ts σ:=by unfold aQ;rw[rv hm]
   rw[k]at X;have m:isM ts σ [eT]=true:=by simpa using hm
   rw[m];have b1:=Hd v;clear v k hm m;have dd:=Hd (lI bt.o X.o.2);have cR:=jr ts (ag ts σ);generalize gk ts (ag ts σ)=nu at *;have dg:=Hd cR;clear cR;go_wp2_with fail
   refine EX dd.o ?_;rintro e w4 ⟨rfl,E⟩;obtain⟨K,bc,q⟩:=zz3 (X.o.b E) (E.h b0.o j (EO _)) (E.h bb.o j (Fu x));have cu:w1.heap.size<w4.heap.size:=(EN.1 q.o).1;have c7:w3.heap.size≤w4.heap.size:=E.1.size;clear E;obtain⟨f,g⟩:=zzx (((w4.setCell ⟨w1.heap.size,0,U⟩ (I O 9)).setCell ⟨w1.heap.size,2,U⟩ (I Z nu.1)));have cv:f.heap.size=w4.heap.size:=by rw[g];simp[CK]
   have b8:w1.heap.size<f.heap.size:=by omega
   have H:Hid (ax w P L cap ts nu.2.1 nu.2.2 f):=by rw[g];exact ((K.o.y j HL.o (by omega) 0 _).y j HL.o (by omega) 2 _)
   have ad:Hid (f.heap[w.heap.size]?=Y (wq bO 25 (0,0))):=by rw[g];exact ((ER _ _ _ _ (show w.heap.size≠w1.heap.size by omega)).trans ((ER _ _ _ _ (show w.heap.size≠w1.heap.size by omega)).trans bc.o))
   have F:Hid (f.heap[w1.heap.size]?=Y (wq #[I O 9,J ⟨#[]⟩,I Z nu.1,I Z at_,A U 0 0] 25 (0,0))):=by rw[g];exact (heap_set (heap_set q.o 0 _) 2 _)
   have f0:=ac q.o 0;have f2:=ac q.o 2;obtain⟨n0,n1,n2,n3,n4⟩:=cells5 q.o;have H5:=Hd g;clear g;go_upto_region 12 with fail
   change AR _ _ _ _ ((w4.setCell ⟨w1.heap.size,0,U⟩ (I O 9)).setCell ⟨w1.heap.size,2,U⟩ (I Z nu.1));rw[←H5.o];clear n0 n1 n2 n3 n4 f0 f2;have cb:Hid (OwnAt f 0 [] (A U 0 0) (bM f.heap.size f.heap.size)):=jQ _ _;have HW:=Hd (cM H.o.2 ci);go_wp2_with fail
   refine EX HW.o ?_;rintro e u ⟨rfl,i⟩;obtain⟨M,y,z⟩:=zz3 (H.o.b i) (i.h ad.o j (EO _)) (i.h F.o j (Fu x));have ca:w1.heap.size<u.heap.size:=(EN.1 z.o).1;have cx:f.heap.size≤u.heap.size:=i.1.size;have ak:=Hd ((cb.o.C fun b o C hx=>bF i.1 hx (by have:=C.1;omega)).N (G:=bM f.heap.size u.heap.size) fun b C=>⟨C.1,ET C.2 i.1.size⟩);obtain⟨n0,n1,n2,n3,n4⟩:=cells5 z.o;obtain⟨a0,a1,a2,a3,a4⟩:=cells5 y.o;have z0:=ac y.o 0;have z1:=ac y.o 1;have z2:=ac y.o 2;have z3:=ac y.o 3;have z4:=ac y.o 4;clear i;go_wp2_with fail
   refine bw Tryz.results165 V (aZ y.o _ _ _ _ _) V ?_;rw[←b1.o];exact a9.h (r:=(.mk 9 ⟨#[]⟩ nu.1 at_ [],aT ts nu.2 ci)) (B:=f.heap.size) j HL.o M.o ak.o (C5 (by omega) dg.o Q.o.1 Q.o.2) (EO _) (by omega) _ _ _ _ _
  ·have v:=bR.o;rw[qv hm]at v;have k:aQ ts σ [eT]=σ:=by unfold aQ;rw[qv hm]
   rw[k]at X;have m:isM ts σ [eT]=false:=by simpa using hm
   rw[m];have b1:=Hd v;clear v k hm m;obtain⟨D,S,T⟩:=zz3 (X.o.u (wq #[J kr] 9)) ((FH w3 (wq #[J kr] 9) w1.heap.size cr).trans bb.o) ((FH w3 (wq #[J kr] 9) w.heap.size (by omega)).trans b0.o);have W:=Hd (dy D.o.2 w3.heap.size 0 1 1 [kr] (bT [kr]) V (by omega));go_wp2_with fail
   refine EX W.o ?_;rintro e w4 ⟨rfl,ht⟩;obtain⟨K,bc,q⟩:=zz3 (D.o.b ht) (ht.h T.o j (EO _)) (ht.h S.o j (Fu x));have cu:w1.heap.size<w4.heap.size:=(EN.1 q.o).1;clear ht D S T W
   by_cases hm:isM ts σ [kr]=wP
   ·have v:=b1.o;rw[rv hm]at v;have k:aQ ts σ [kr]=ag ts σ:=by unfold aQ;rw[rv hm]
    rw[k]at K;have m:isM ts σ [kr]=true:=by simpa using hm
    rw[m];have cc:=Hd v;clear v k hm m;have b9:=Hd (ch.o (ag ts σ) w4 P L cap K.o.2);generalize jc ts (eH ts) (ag ts σ)=l at *;go_wp2_with fail
    refine EX b9.o ?_;rintro e f ⟨d2,s2,rfl,br,af⟩;obtain⟨H,ad,F⟩:=zz3 (K.o.b br) (br.h bc.o j (EO _)) (br.h q.o j (Fu x));have b8:w1.heap.size<f.heap.size:=(EN.1 F.o).1;have ek:w4.heap.size≤f.heap.size:=br.1.size;obtain⟨p2,c2,rfl⟩:=af.b;have cb:=Hd af;clear br af;obtain⟨u,bl⟩:=zzx (((f.setCell ⟨w1.heap.size,0,U⟩ (I O 10)).setCell ⟨w1.heap.size,4,U⟩ (A p2 l.1.length c2)));have dp:u.heap.size=f.heap.size:=by rw[bl];simp[CK]
    have ca:w1.heap.size<u.heap.size:=by omega
    have M:Hid (ax w P L cap ts l.2.1 l.2.2 u):=by rw[bl];exact ((H.o.y j HL.o (by omega) 0 _).y j HL.o (by omega) 4 _)
    have y:Hid (u.heap[w.heap.size]?=Y (wq bO 25 (0,0))):=by rw[bl];exact ((ER _ _ _ _ (show w.heap.size≠w1.heap.size by omega)).trans ((ER _ _ _ _ (show w.heap.size≠w1.heap.size by omega)).trans ad.o))
    have z:Hid (u.heap[w1.heap.size]?=Y (wq #[I O 10,J ⟨#[]⟩,I Z 0,I Z at_,A p2 l.1.length c2] 25 (0,0))):=by rw[bl];exact (heap_set (heap_set F.o 0 _) 4 _)
    have f0:=ac F.o 0;have f4:=ac F.o 4;obtain⟨n0,n1,n2,n3,n4⟩:=cells5 F.o;have H6:=Hd bl;clear bl;go_upto_region 12 with fail
    change AR _ _ _ _ ((f.setCell ⟨w1.heap.size,0,U⟩ (I O 10)).setCell ⟨w1.heap.size,4,U⟩ (A p2 l.1.length c2));rw[←H6.o];clear n0 n1 n2 n3 n4 f0 f4;have ak:Hid (OwnAt u d2 l.1 (A p2 l.1.length c2) (bM w4.heap.size u.heap.size)):=by rw[dp,H6.o];exact cb.o.C fun b o C hx=>(ER _ _ _ _ (show b≠w1.heap.size by have:=C.1;omega)).trans ((ER _ _ _ _ (show b≠w1.heap.size by have:=C.1;omega)).trans hx)
    have HW:=Hd (cM M.o.2 ci);go_wp2_with fail
    refine EX HW.o ?_;rintro e N ⟨rfl,t⟩;obtain⟨bk,n,al⟩:=zz3 (M.o.b t) (t.h y.o j (EO _)) (t.h z.o j (Fu x));have cA:w1.heap.size<N.heap.size:=(EN.1 al.o).1;have ds:u.heap.size≤N.heap.size:=t.1.size;have bq:=Hd ((ak.o.C fun b o C hx=>bF t.1 hx (by have:=C.1;omega)).N (G:=bM w4.heap.size N.heap.size) fun b C=>⟨C.1,ET C.2 t.1.size⟩);obtain⟨n0,n1,n2,n3,n4⟩:=cells5 al.o;obtain⟨a0,a1,a2,a3,a4⟩:=cells5 n.o;have z0:=ac n.o 0;have z1:=ac n.o 1;have z2:=ac n.o 2;have z3:=ac n.o 3;have z4:=ac n.o 4;clear t;go_wp2_with fail
    refine bw Tryz.results165 V (aZ n.o _ _ _ _ _) V ?_;rw[←cc.o];exact a9.h (r:=(.mk 10 ⟨#[]⟩ 0 at_ l.1,aT ts l.2 ci)) (B:=w4.heap.size) j HL.o bk.o bq.o (fu (by omega) (by show (0:Nat)≤16384;omega) Q.o.1 Q.o.2) (EO _) (by omega) _ _ _ _ _
   ·have v:=b1.o;rw[qv hm]at v;have k:aQ ts σ [kr]=σ:=by unfold aQ;rw[qv hm]
    rw[k]at K;have m:isM ts σ [kr]=false:=by simpa using hm
    rw[m];have cc:=Hd v;clear v k hm m;obtain⟨f,g⟩:=zzx ((w4.setCell ⟨w1.heap.size,0,U⟩ (I O 11)));have cv:f.heap.size=w4.heap.size:=by rw[g];simp[CK]
    have b8:w1.heap.size<f.heap.size:=by omega
    have H:Hid (ax w P L cap ts σ.1 σ.2 f):=by rw[g];exact (K.o.y j HL.o (by omega) 0 _)
    have ad:Hid (f.heap[w.heap.size]?=Y (wq bO 25 (0,0))):=by rw[g];exact ((ER _ _ _ _ (show w.heap.size≠w1.heap.size by omega)).trans bc.o)
    have F:Hid (f.heap[w1.heap.size]?=Y (wq #[I O 11,J ⟨#[]⟩,I Z 0,I Z at_,A U 0 0] 25 (0,0))):=by rw[g];exact (heap_set q.o 0 _)
    have f0:=ac q.o 0;obtain⟨n0,n1,n2,n3,n4⟩:=cells5 q.o;have H5:=Hd g;clear g;go_upto_region 3 with fail
    change AR _ _ _ _ (w4.setCell ⟨w1.heap.size,0,U⟩ (I O 11));rw[←H5.o];clear n0 n1 n2 n3 n4 f0;have dv:=Hd (cM H.o.2 kz);generalize aT ts σ kz=ea at *;go_wp2_with fail
    refine EX dv.o ?_;rintro e u ⟨rfl,i⟩;obtain⟨M,y,z⟩:=zz3 (H.o.b i) (i.h ad.o j (EO _)) (i.h F.o j (Fu x));have ca:w1.heap.size<u.heap.size:=(EN.1 z.o).1;have cx:f.heap.size≤u.heap.size:=i.1.size;clear i;have ak:Hid (OwnAt u 0 [] (A U 0 0) (bM u.heap.size u.heap.size)):=jQ _ _;have HW:=Hd (cM M.o.2 ci);go_wp2_with fail
    refine EX HW.o ?_;rintro e N ⟨rfl,t⟩;obtain⟨bk,n,al⟩:=zz3 (M.o.b t) (t.h y.o j (EO _)) (t.h z.o j (Fu x));have cA:w1.heap.size<N.heap.size:=(EN.1 al.o).1;have ds:u.heap.size≤N.heap.size:=t.1.size;have bq:=Hd ((ak.o.C fun b o C hx=>bF t.1 hx (by have:=C.1;omega)).N (G:=bM u.heap.size N.heap.size) fun b C=>⟨C.1,ET C.2 t.1.size⟩);obtain⟨n0,n1,n2,n3,n4⟩:=cells5 al.o;obtain⟨a0,a1,a2,a3,a4⟩:=cells5 n.o;have z0:=ac n.o 0;have z1:=ac n.o 1;have z2:=ac n.o 2;have z3:=ac n.o 3;have z4:=ac n.o 4;clear t;go_wp2_with fail
    refine bw Tryz.results165 V (aZ n.o _ _ _ _ _) V ?_;rw[←cc.o];exact a9.h (r:=(.mk 11 ⟨#[]⟩ 0 at_ [],aT ts ea ci)) (B:=u.heap.size) j HL.o bk.o bq.o (fu (by omega) (by show (0:Nat)≤16384;omega) Q.o.1 Q.o.2) (EO _) (by omega) _ _ _ _ _
def kU:ByteArray:=⟨#[95]⟩
def em(ts:List Tok) (σ:PS):ab×PS:=
 if isM ts σ [kU]=wP then (.mk 12 ⟨#[]⟩ 0 (atM ts σ) [],ag ts σ)
 else if isM ts σ [bm]=wP then (.mk 14 (bm++txM ts (ag ts σ)) 0 (atM ts σ) [],(ofM ts (ag ts σ) 4 14).2)
 else if kdM ts σ=5 then ofM ts σ 5 15
 else if kdM ts σ=3 then ofM ts σ 3 13
 else ofM ts σ 4 14
theorem jm(ts:List Tok)(σ:PS):σ.1≤(em ts σ).2.1:=by
 unfold em;have a:=(eQ ts σ).1
 (repeat' split)
 ·exact a
 ·exact EU a (ed ts _ 4 14)
 ·exact ed _ _ _ _
 ·exact ed _ _ _ _
 ·exact ed _ _ _ _
theorem Ah{kind:Nat}{tx:ByteArray}{pl:Int}{a:List ab}(b:kind<256)(c:tx.size≤16385)(d:0≤pl)(e:pl≤16384):Fits (.mk kind tx 0 pl a):=
 ⟨b,by show tx.size≤maxLen;unfold maxLen;omega,by show (-9223372036854775808:Int)≤0;omega,by show (0:Int)<9223372036854775808;omega,by show (-9223372036854775808:Int)≤pl;omega,by show pl<9223372036854775808;omega⟩
theorem Cn{ts:List Tok}(ch:cE ts):js ts 233 (em ts):=by
 intro σ w P L cap h;have bR:FK w (w.alloc (wq bO 25)):=(EP _ w).alloc (EO _) _;obtain⟨HC,H0⟩:=zz2 (gi (h.z bR)) (h.b bR);have C:=h.lt.1;obtain⟨HL,HX,D⟩:=zz3 h.lt.2 (p9 w (wq bO 25)) ch;obtain⟨R,b0⟩:=zzy (em ts σ);rw[b0];have j:=b0.symm;unfold em at j;obtain⟨kd,ck⟩:=zzy (kdM ts σ);obtain⟨at_,b1⟩:=zzy (atM ts σ);rw[ck,b1]at HC j;have cl:=Hd j;have bd:Hid (0≤at_∧at_≤16384):=by
  show _∧_
  obtain⟨_,_,g3⟩:=cK D.o σ.1;rw[←b1];unfold atM;omega
 clear h bR ch b0 j b1 ck;generalize txM ts σ=tx at HC
 go_enter Tryz.func233,Tryz.ntmps233
 go_wp2_with fail
 refine EX HC.o ?_;rintro e w1 ⟨rfl,b2⟩;obtain⟨c1,cq⟩:=zz2 (H0.o.f b2) (aa b2 HX.o (by simp));have N:w.heap.size<w1.heap.size:=(EN.1 cq.o).1;clear b2;obtain⟨wA,Q⟩:=zzx (w1.alloc (wq #[I O kd,J tx,I Z at_] 122));have c3:w1.heap.size<wA.heap.size:=by rw[Q];simp
 have c5:Hid (ax w P L cap ts σ.1 σ.2 wA):=by rw[Q];exact c1.o.u _
 have c6:Hid (wA.heap[w1.heap.size]?=Y (wq #[I O kd,J tx,I Z at_] 122 (0,0))):=by rw[Q];exact p9 w1 _
 have c7:Hid (wA.heap[w.heap.size]?=Y (wq bO 25 (0,0))):=by rw[Q];exact (FH w1 _ _ N).trans cq.o
 go_upto_region 2 with fail
 change AR _ _ _ _ (w1.alloc (wq #[I O kd,J tx,I Z at_] 122));rw[←Q];clear Q;obtain⟨E,ad,af⟩:=zz3 (c5.o.u (wq #[J kU] 9)) ((FH wA (wq #[J kU] 9) w1.heap.size c3).trans c6.o) ((FH wA (wq #[J kU] 9) w.heap.size (by omega)).trans c7.o);have ak:=Hd (dy E.o.2 wA.heap.size 0 1 1 [kU] (bT [kU]) V (by omega));go_wp2_with fail
 refine EX ak.o ?_;rintro e w2 ⟨rfl,ht⟩;obtain⟨bk,z,b3⟩:=zz3 (E.o.b ht) (ht.h af.o C (EO _)) (ht.h ad.o C (Fu N));have c8:w1.heap.size<w2.heap.size:=(EN.1 b3.o).1;clear ht E ad af ak
 by_cases hm:isM ts σ [kU]=wP
 ·have j:=cl.o;rw[rv hm]at j;have q:aQ ts σ [kU]=ag ts σ:=by unfold aQ;rw[rv hm]
  rw[q]at bk;have t:isM ts σ [kU]=true:=by simpa using hm
  rw[t];have al:=Hd j;clear j q hm t;have ek:=al;obtain⟨m0,m1,m2,_,_,_⟩:=cells3 b3.o;obtain⟨a0,a1,a2,a3,a4⟩:=cells5 z.o;have z0:=ac z.o 0;have z1:=ac z.o 1;have z2:=ac z.o 2;have z3:=ac z.o 3;have z4:=ac z.o 4;go_wp2_with fail
  refine bw Tryz.results233 V (aZ z.o _ _ _ _ _) V ?_;rw[al.o];exact a9.h (r:=(.mk 12 ⟨#[]⟩ 0 at_ [],ag ts σ)) (B:=w1.heap.size) C HL.o bk.o (jQ _ _) (fu (by omega) (by show (0:Nat)≤16384;omega) bd.o.1 bd.o.2) (EO _) N _ _ _ _ _
 ·have j:=cl.o;rw[qv hm]at j;have q:aQ ts σ [kU]=σ:=by unfold aQ;rw[qv hm]
  rw[q]at bk;have t:isM ts σ [kU]=false:=by simpa using hm
  rw[t];have al:=Hd j;clear j q hm t;obtain⟨E,ad,af⟩:=zz3 (bk.o.u (wq #[J bm] 9)) ((FH w2 (wq #[J bm] 9) w1.heap.size c8).trans b3.o) ((FH w2 (wq #[J bm] 9) w.heap.size (by omega)).trans z.o);have ak:=Hd (dy E.o.2 w2.heap.size 0 1 1 [bm] (bT [bm]) V (by omega));go_wp2_with fail
  refine EX ak.o ?_;rintro e g ⟨rfl,ht⟩;obtain⟨u,F,bl⟩:=zz3 (E.o.b ht) (ht.h af.o C (EO _)) (ht.h ad.o C (Fu N));have eo:w1.heap.size<g.heap.size:=(EN.1 bl.o).1;clear ht E ad af ak
  by_cases hm:isM ts σ [bm]=wP
  ·have j:=al.o;rw[rv hm]at j;have q:aQ ts σ [bm]=ag ts σ:=by unfold aQ;rw[rv hm]
   rw[q]at u;have t:isM ts σ [bm]=true:=by simpa using hm
   rw[t];have bq:=Hd j;clear j q hm t;have HO:=Hd (xq u.o.2 (gw u.o.2.k) 4 14);have c9:=cK D.o (ag ts σ).1;have cr:R=(.mk 14 (bm++(cO ts (ag ts σ).1).2.1) 0 at_ [],(eG ts.length (ag ts σ).1 ((ag ts σ).2||(cO ts (ag ts σ).1).1 != 4),((ag ts σ).2||(cO ts (ag ts σ).1).1 != 4))):=bq.o;generalize eG ts.length (ag ts σ).1 ((ag ts σ).2||(cO ts (ag ts σ).1).1 != 4)=kn at *;generalize ((ag ts σ).2||(cO ts (ag ts σ).1).1 != 4)=bn at *;obtain⟨_,ct,da⟩:=c9;generalize (cO ts (ag ts σ).1).2.1=m at *;generalize (cO ts (ag ts σ).1).2.2=at2 at *;obtain⟨b4,dc⟩:=zz2 ct cr;clear bq ct da cr;go_wp2_with fail
   refine EX HO.o ?_;rintro e w4 ⟨rfl,f⟩;have b5:=Hd (u.o.b f);have cu:=f.h F.o C (EO _);have b6:=f.h bl.o C (Fu N);have ep:w1.heap.size<w4.heap.size:=(EN.1 b6).1;obtain⟨y,br⟩:=zzx (w4.alloc (wq #[I O 14,J m,I Z 0,I Z at2,A U 0 0] 25));have bt:FK w4 y:=by rw[br];exact (EP _ w4).alloc (EO _) _
   obtain⟨S,dd,cv⟩:=zz3 (b5.o.f bt) (aa bt cu (by omega)) (aa bt b6 (by omega));have bB:Hid (y.heap[w4.heap.size]?=Y (wq #[I O 14,J m,I Z 0,I Z at2,A U 0 0] 25 (0,0))):=by show _=_;rw[br];exact p9 w4 _
   have er:w4.heap.size<y.heap.size:=(EN.1 bB.o).1;clear f cu b6 bt;go_upto_region 6 with fail
   change AR _ _ _ _ (w4.alloc (wq #[I O 14,J m,I Z 0,I Z at2,A U 0 0] 25));rw[←br];clear br;obtain⟨m0,m1,m2,_,_,_⟩:=cells3 cv.o;obtain⟨e0,e1,e2,e3,e4⟩:=cells5 bB.o;have cx:=ac bB.o 1;have dg:w1.heap.size≠w4.heap.size:=by omega
   obtain⟨w6,T⟩:=zzx (y.drew.setCell ⟨w4.heap.size,1,U⟩ (J (bm++m)));have cA:w6.cell? ⟨w1.heap.size,2,U⟩=Y (I Z at_):=by
    rw[T];exact FI _ _ _ _ _ _ ((ER _ _ _ _ dg).trans cv.o)
   have M2:=fun x:RE.Two y.drew w6=>RE.Two.b (show y.drew.cell? _=_ from m2) cA x
   have E1:=fun x:RE.Two y.drew y.drew=>RE.Two.b (show y.drew.cell? _=_ from e1) (show y.drew.cell? _=_ from e1) x
   have cC:w6.heap[w4.heap.size]?=Y (wq #[I O 14,J (bm++m),I Z 0,I Z at2,A U 0 0] 25 (0,0)):=by
    rw[T];exact heap_set (show y.drew.heap[w4.heap.size]?=_ from bB.o) 1 _
   have cR:w6.heap[w.heap.size]?=Y (wq bO 25 (0,0)):=by
    rw[T];exact (ER _ _ _ _ (show w.heap.size≠w4.heap.size by omega)).trans dd.o
   have cT:ax w P L cap ts kn bn w6:=by
    rw[T];exact ax.y ⟨sn S.o.1 (grown_drewN (r8 y _) 1),S.o.2.drew⟩ C HL.o (by omega) 1 _
   obtain⟨cV,G,dp,H6⟩:=zz4 cC cR cT T;have H:y.drew.cell? ⟨w4.heap.size,1,U⟩=Y (J m):=e1;have ds:y.drew.frozen? ⟨w4.heap.size,1,U⟩=false:=cx;have cW:∀W:wD,(Op.stringOp .add ⟨#[45]⟩ m).run Tryz.prog W=.ok (J (bm++m)) W:=fun W=>run_string_add W _ _ (by show ((1:Nat):Int)≤8388608;omega) (by have:=b4.o;omega)
   have dv:(m.size:Int)≤8388608:=by have:=b4.o;omega
   have ea:((⟨#[45]⟩:ByteArray).size:Int)≤8388608:=by show ((1:Nat):Int)≤8388608;omega
   clear m0 m1 m2 e0 e1 e2 e3 e4 cx cA cC cR cT T;refine RE.u (by kernel_rfl) 7 [6] [6] (fun s W=>if s=0 then W=y.drew else W=w6) (fun _ _=>True) (fun _ _=>At) (fun _ _ _=>True) (by kernel_rfl) (fun i h1 h2=>by rw[h1]at h2;cases h2) (fun _ _ _ _ _ _ _=>trivial) V ?_;simp only[EY,Fi,EZ,Fh,Fv,List.length_nil,Nat.reduceAdd]
   repeat (first
    | (refine RE.b (fun W=>∃x:RE.Two y.drew w6,W=x.1) RE.z V V V V ?_;go_big_quiet_step (fail);refine Bk ?_)
    | (refine RE.b (fun W=>∃x:RE.Two y.drew y.drew,W=x.1) (RE.one_class (by kernel_rfl)) V V V V ?_;go_big_quiet_step (fail);refine Bk ?_))
   refine RE.f V V ?_ (fun xs=>?_)
   ·intro W hC X _;obtain rfl:W=y.drew:=X V;refine RE.Upon.told (v:=At) (w':=y.drew.setCell ⟨w4.heap.size,1,U⟩ (J (bm++m))) ?_ ⟨[],V,H6.o.symm,trivial,trivial⟩;unfold RE.Upon
    go_simp
    try exact⟨rfl,rfl⟩
   simp only[Act.put];refine RE.h ?_;intro W X _;obtain rfl:w6=W:=(show W=w6 from X).symm;clear M2 E1 H ds H6 cW dv ea;obtain⟨e0,e1,e2,e3,e4⟩:=cells5 cV.o;have et:=ac cV.o 3;obtain⟨a0,a1,a2,a3,a4⟩:=cells5 G.o;have z0:=ac G.o 0;have z1:=ac G.o 1;have z2:=ac G.o 2;have z3:=ac G.o 3;have z4:=ac G.o 4;have eb:=Hd ((ER w6 ⟨w4.heap.size,3,U⟩ (I Z at_) _ (show w.heap.size≠w4.heap.size by omega)).trans G.o);have ec:=Hd (dp.o.y C HL.o (b:=w4.heap.size) (by omega) 3 (I Z at_));have b7:Hid ((bm++m).size≤16385):=by
    show _≤_
    rw[ByteArray.size_append,show bm.size=1 from rfl];have:=b4.o;omega
   generalize bm++m=tl at *;go_wp2_with fail
   refine bw Tryz.results233 V (aZ eb.o _ _ _ _ _) V ?_;rw[dc.o];exact a9.h (r:=(.mk 14 tl 0 at_ [],(kn,bn))) (B:=w1.heap.size) C HL.o ec.o (jQ _ _) (Ah (by omega) b7.o bd.o.1 bd.o.2) (EO _) N _ _ _ _ _
  ·have j:=al.o;rw[qv hm]at j;have q:aQ ts σ [bm]=σ:=by unfold aQ;rw[qv hm]
   rw[q]at u;have t:isM ts σ [bm]=false:=by simpa using hm
   rw[t];have bq:=Hd j;clear j q hm t;have j:=bq.o;have b8:=bl;clear bl
   by_cases b9:kd=5
   ·subst b9;rw[rv V]at j;subst j;have f:=u.o;have aq:=Hd (jT D.o (w:=g.drew) f.2.drew 5 15 (by omega));obtain⟨c0,_,_,_,_,_⟩:=cells3 b8.o;have ar:w1.heap.size≠P:=by omega
    have C0:=fun x:RE.Gr g P=>x.b c0 ar
    have ca:P<g.heap.size:=f.2.lt.1;have H:∀(n s:Nat) (W:wD),s≤n→(if s=0 then W=g.drew else ax g P L cap ts (ofM ts σ 5 15).2.1 (ofM ts σ 5 15).2.2 W)→∃x:RE.Gr g P,W=x.1:=fun n s W _ h=>by
     split at h
     ·exact⟨⟨W,by rw[h];exact grown_drewN (r8 g _) 1⟩,V⟩
     ·exact⟨⟨W,h.1⟩,V⟩
    have cb:=Hd H;have av:=Hd (kV D.o σ 5 15 (by omega));have a6:(ofM ts σ 5 15).1.u=[]:=rfl;have eg:=Hd a6;generalize ofM ts σ 5 15=r at *;clear H f a6;go_wp2_with fail
    clear c0;refine RE.u (by kernel_rfl) 6 [5] [5] (fun s W=>if s=0 then W=g.drew else ax g P L cap ts r.2.1 r.2.2 W) (fun W W'=>W.grownBy W' (Y P))
     (fun i xs=>xS #[I O r.1.b,J r.1.f,I Z r.1.h,I Z r.1.y,xs.getD 0 At])
     (fun i W xs=>f8 g.heap.size r.1 W xs) (by kernel_rfl) (fun i h1 h2=>by rw[h1]at h2;cases h2) (fun k W W' xs h _ hg=>h.h ca hg) V ?_
    simp only[EY,Fi,EZ,Fh,Fv,List.length_nil,Nat.reduceAdd]
    repeat (refine RE.b (fun W=>∃x:RE.Gr g P,W=x.1) (cb.o _) V V V V ?_;go_big_quiet_step (fail);refine Bk ?_)
    refine RE.f V V ?_ (fun ba=>?_)
    ·intro W _ X _;obtain rfl:W=g.drew:=X V;refine RE.y 161 _ _ V (enters_of Tryz.func161 (by kernel_rfl) V) #[xV (Y ⟨P,0,U⟩),I O 5,I O 15] (by simp[Act.eval]) (aq.o.mono ?_);rintro e W' ⟨d,s,rfl,hT,K,hf⟩;exact⟨_,V,[s],V,hT.z,hT.1,⟨d,s,V,K,hf⟩⟩
    simp only[Act.put,EQ,EW,EV];refine RE.h ?_;intro W4 X hE;have M:ax g P L cap ts r.2.1 r.2.2 W4:=X;obtain⟨d,s,rfl,K,hf⟩:=(show f8 g.heap.size r.1 W4 ba from hE 5 ba V);obtain⟨p,c,rfl⟩:=K.b;obtain⟨HO,S⟩:=zz2 K (u.o.b M);have l:=M.h F.o C (EO _);have bb:=Hd l;obtain⟨a0,a1,a2,a3,a4⟩:=cells5 l;have z0:=ac l 0;have z1:=ac l 1;have z2:=ac l 2;have z3:=ac l 3;have z4:=ac l 4;have bc:w.heap.size<g.heap.size:=(EN.1 F.o).1;clear C0 hE X K M l hf;go_wp2_with fail
    refine bw Tryz.results233 V (aZ bb.o _ _ _ _ _) V ?_;exact a9.h C HL.o S.o HO.o av.o (EO _) bc _ _ _ _ _
   rw[qv b9]at j;have el:((kd:Int)==5)=false:=by simp;omega
   by_cases cc:kd=3
   ·subst cc;rw[rv V]at j;subst j;have f:=u.o;have aq:=Hd (jT D.o (w:=g.drew) f.2.drew 3 13 (by omega));obtain⟨c0,_,_,_,_,_⟩:=cells3 b8.o;have ar:w1.heap.size≠P:=by omega
    have C0:=fun x:RE.Gr g P=>x.b c0 ar
    have ca:P<g.heap.size:=f.2.lt.1;have H:∀(n s:Nat) (W:wD),s≤n→(if s=0 then W=g.drew else ax g P L cap ts (ofM ts σ 3 13).2.1 (ofM ts σ 3 13).2.2 W)→∃x:RE.Gr g P,W=x.1:=fun n s W _ h=>by
     split at h
     ·exact⟨⟨W,by rw[h];exact grown_drewN (r8 g _) 1⟩,V⟩
     ·exact⟨⟨W,h.1⟩,V⟩
    have cb:=Hd H;have av:=Hd (kV D.o σ 3 13 (by omega));have a6:(ofM ts σ 3 13).1.u=[]:=rfl;have eg:=Hd a6;generalize ofM ts σ 3 13=r at *;clear H f a6;go_wp2_with fail
    clear c0;refine RE.u (by kernel_rfl) 6 [5] [5] (fun s W=>if s=0 then W=g.drew else ax g P L cap ts r.2.1 r.2.2 W) (fun W W'=>W.grownBy W' (Y P))
     (fun i xs=>xS #[I O r.1.b,J r.1.f,I Z r.1.h,I Z r.1.y,xs.getD 0 At])
     (fun i W xs=>f8 g.heap.size r.1 W xs) (by kernel_rfl) (fun i h1 h2=>by rw[h1]at h2;cases h2) (fun k W W' xs h _ hg=>h.h ca hg) V ?_
    simp only[EY,Fi,EZ,Fh,Fv,List.length_nil,Nat.reduceAdd]
    repeat (refine RE.b (fun W=>∃x:RE.Gr g P,W=x.1) (cb.o _) V V V V ?_;go_big_quiet_step (fail);refine Bk ?_)
    refine RE.f V V ?_ (fun ba=>?_)
    ·intro W _ X _;obtain rfl:W=g.drew:=X V;refine RE.y 161 _ _ V (enters_of Tryz.func161 (by kernel_rfl) V) #[xV (Y ⟨P,0,U⟩),I O 3,I O 13] (by simp[Act.eval]) (aq.o.mono ?_);rintro e W' ⟨d,s,rfl,hT,K,hf⟩;exact⟨_,V,[s],V,hT.z,hT.1,⟨d,s,V,K,hf⟩⟩
    simp only[Act.put,EQ,EW,EV];refine RE.h ?_;intro W4 X hE;have M:ax g P L cap ts r.2.1 r.2.2 W4:=X;obtain⟨d,s,rfl,K,hf⟩:=(show f8 g.heap.size r.1 W4 ba from hE 5 ba V);obtain⟨p,c,rfl⟩:=K.b;obtain⟨HO,S⟩:=zz2 K (u.o.b M);have l:=M.h F.o C (EO _);have bb:=Hd l;obtain⟨a0,a1,a2,a3,a4⟩:=cells5 l;have z0:=ac l 0;have z1:=ac l 1;have z2:=ac l 2;have z3:=ac l 3;have z4:=ac l 4;have bc:w.heap.size<g.heap.size:=(EN.1 F.o).1;clear C0 hE X K M l hf;go_wp2_with fail
    refine bw Tryz.results233 V (aZ bb.o _ _ _ _ _) V ?_;exact a9.h C HL.o S.o HO.o av.o (EO _) bc _ _ _ _ _
   rw[qv cc]at j;have en:((kd:Int)==3)=false:=by simp;omega
   subst j;have aq:=Hd (jT D.o u.o.2 4 14 (by omega));obtain⟨c0,_,_,_,_,_⟩:=cells3 b8.o;generalize ofM ts σ 4 14=r at *;clear b9 cc;go_wp2_with fail
   refine EX aq.o ?_;rintro e w4 ⟨d,s,rfl,f,K,hf⟩;obtain⟨p,c,rfl⟩:=K.b;have b5:=Hd (u.o.b f);have l:=f.h F.o C (EO _);have bb:=Hd l;obtain⟨a0,a1,a2,a3,a4⟩:=cells5 l;have z0:=ac l 0;have z1:=ac l 1;have z2:=ac l 2;have z3:=ac l 3;have z4:=ac l 4;obtain⟨HO,HF⟩:=zz2 K hf;have bc:w.heap.size<g.heap.size:=(EN.1 F.o).1;clear f l K hf c0;go_wp2_with fail
   refine bw Tryz.results233 V (aZ bb.o _ _ _ _ _) V ?_;exact a9.h C HL.o b5.o HO.o HF.o (EO _) bc _ _ _ _ _
def i5:ByteArray:=⟨#[102,97,99,116]⟩
def oJ:ByteArray:=⟨#[114,117,108,101]⟩
def eq(ts:List Tok) (a:Int→PS→ab×PS) (σ:PS):ab×PS:=
 if isM ts σ [i5]=wP then (.mk 2 (ofM ts (ag ts σ) 2 2).1.f 0 (atM ts σ) (cn ts (fun σ=>ofM ts σ 2 3) (ofM ts (ag ts σ) 2 2).2).1,aT ts (cn ts (fun σ=>ofM ts σ 2 3) (ofM ts (ag ts σ) 2 2).2).2 ci)
 else a (atM ts σ) (aT ts σ oJ)
theorem t7{ts:List Tok}{b:Int→PS→ab×PS}(h:∀a σ,σ.1≤(b a σ).2.1)(σ:PS):σ.1≤(eq ts b σ).2.1:=by
 unfold eq;have c:=(eQ ts σ).1
 split
 ·exact EU c (EU (ed ts _ 2 2) (EU (io (fun σ=>ed ts σ 2 3) _) (bJ ts _ _)))
 ·exact EU (bJ ts σ oJ) (h _ _)
def zQ(ts:List Tok) (b:Int→PS→ab×PS):Prop:=∀(a:Int) (σ:PS) (w:wD) (P L cap:Nat),0≤a→a≤16384→PAt w P L cap ts σ.1 σ.2→
 Calls Tryz.prog 93 #[xV (Y ⟨P,0,U⟩),xS #[I O 0,J ⟨#[]⟩,I Z 0,I Z a,A U 0 0]] w (a9 w P L cap ts (b a σ))
theorem zS{ts:List Tok}(H:cE ts){ru:Int→PS→ab×PS}(bc:zQ ts ru):js ts 56 (eq ts ru):=by
 intro σ w P L cap h;have W:FK w (w.alloc (wq bO 25)):=(EP _ w).alloc (EO _) _;obtain⟨HC,H0⟩:=zz2 (gi (h.z W)) (h.b W);have j:=h.lt.1;obtain⟨HL,HX,X,ad,b0⟩:=zz5 h.lt.2 (p9 w (wq bO 25)) H (fun σ w P L cap h=>ns H (enters_of Tryz.func91 (by kernel_rfl) V) (yg H) (fun σ=>ed ts σ 2 3) σ w P L cap h) bc;obtain⟨R,af⟩:=zzy (eq ts ru σ);rw[af];have y:=af;unfold eq at y;obtain⟨at_,ak⟩:=zzy (atM ts σ);rw[ak]at HC y;have bd:=Hd y;have K:Hid (0≤at_∧at_≤16384):=by
  show _∧_
  obtain⟨_,_,g3⟩:=cK X.o σ.1;rw[←ak];unfold atM;omega
 clear h W H bc af y ak;generalize kdM ts σ=kd at HC;generalize txM ts σ=tx at HC
 go_enter Tryz.func56,Tryz.ntmps56
 go_wp2_with fail
 refine EX HC.o ?_;rintro e w1 ⟨rfl,al⟩;have b1:=j8 kd tx at_ w1;obtain⟨b2,bk⟩:=zz2 (H0.o.f al) (aa al HX.o (by simp));have n:w.heap.size<w1.heap.size:=(EN.1 bk.o).1;clear al;obtain⟨M,q⟩:=zzx (w1.alloc (wq #[I O 0,J ⟨#[]⟩,I Z 0,I Z at_,A U 0 0] 25));have b3:w1.heap.size<M.heap.size:=by rw[q];simp
 have b4:Hid (ax w P L cap ts σ.1 σ.2 M):=by rw[q];exact b2.o.u _
 have b5:Hid (M.heap[w1.heap.size]?=Y (wq #[I O 0,J ⟨#[]⟩,I Z 0,I Z at_,A U 0 0] 25 (0,0))):=by rw[q];exact p9 w1 _
 have b6:Hid (M.heap[w.heap.size]?=Y (wq bO 25 (0,0))):=by rw[q];exact (FH w1 _ _ n).trans bk.o
 go_upto_region 2 with fail
 change AR _ _ _ _ (w1.alloc (wq #[I O 0,J ⟨#[]⟩,I Z 0,I Z at_,A U 0 0] 25));rw[←q];clear b1 q;obtain⟨aq,bl,bn⟩:=zz3 (b4.o.u (wq #[J i5] 9)) ((FH M (wq #[J i5] 9) w1.heap.size b3).trans b5.o) ((FH M (wq #[J i5] 9) w.heap.size (by omega)).trans b6.o);have bq:=Hd (dy aq.o.2 M.heap.size 0 1 1 [i5] (bT [i5]) V (by omega));go_wp2_with fail
 refine EX bq.o ?_;rintro e w2 ⟨rfl,ht⟩;obtain⟨t,br,ar⟩:=zz3 (aq.o.b ht) (ht.h bn.o j (EO _)) (ht.h bl.o j (Fu n));have cR:w1.heap.size<w2.heap.size:=(EN.1 ar.o).1;clear ht aq bl bn bq
 by_cases hm:isM ts σ [i5]=wP
 ·have y:=bd.o;rw[rv hm]at y;have z:aQ ts σ [i5]=ag ts σ:=by unfold aQ;rw[rv hm]
  rw[z]at t;have C:isM ts σ [i5]=true:=by simpa using hm
  rw[C];have av:=Hd y;clear y z hm C;have b7:=Hd (jh X.o t.o.2 2 (by omega));have T:(ofM ts (ag ts σ) 2 2).1.f.size≤16384:=(cK X.o _).2.1;generalize ofM ts (ag ts σ) 2 2=nm at *;have bt:=Hd T;clear T;go_wp2_with fail
  refine EX b7.o ?_;rintro e w4 ⟨d,s,rfl,f,ho,hf⟩;obtain⟨N,a6,i⟩:=zz3 (t.o.b f) (f.h br.o j (EO _)) (f.h ar.o j (Fu n));have b8:w1.heap.size<w4.heap.size:=(EN.1 i.o).1;have b9:w2.heap.size≤w4.heap.size:=f.1.size;obtain⟨p,c,rfl⟩:=ho.b;have ca:=iu nm.1.b nm.1.f nm.1.h nm.1.y nm.1.u.length p c w4;clear f ho hf;obtain⟨u,v⟩:=zzx (((w4.setCell ⟨w1.heap.size,0,U⟩ (I O 2)).setCell ⟨w1.heap.size,1,U⟩ (J nm.1.f)));have cT:u.heap.size=w4.heap.size:=by rw[v];simp[CK]
  have cV:w1.heap.size<u.heap.size:=by omega
  have Q:Hid (ax w P L cap ts nm.2.1 nm.2.2 u):=by rw[v];exact ((N.o.y j HL.o (by omega) 0 _).y j HL.o (by omega) 1 _)
  have g:Hid (u.heap[w.heap.size]?=Y (wq bO 25 (0,0))):=by rw[v];exact ((ER _ _ _ _ (show w.heap.size≠w1.heap.size by omega)).trans ((ER _ _ _ _ (show w.heap.size≠w1.heap.size by omega)).trans a6.o))
  have cb:Hid (u.heap[w1.heap.size]?=Y (wq #[I O 2,J nm.1.f,I Z 0,I Z at_,A U 0 0] 25 (0,0))):=by rw[v];exact (heap_set (heap_set i.o 0 _) 1 _)
  have f0:=ac i.o 0;have f1:=ac i.o 1;obtain⟨n0,n1,n2,n3,n4⟩:=cells5 i.o;have H5:=Hd v;clear v;go_upto_region 4 with fail
  change AR _ _ _ _ ((w4.setCell ⟨w1.heap.size,0,U⟩ (I O 2)).setCell ⟨w1.heap.size,1,U⟩ (J nm.1.f));rw[←H5.o];clear n0 n1 n2 n3 n4 f0 f1;clear ca;have cc:=Hd (ad.o nm.2 u P L cap Q.o.2);generalize cn ts (fun σ=>ofM ts σ 2 3) nm.2=l at *;go_wp2_with fail
  refine EX cc.o ?_;rintro e w6 ⟨d2,s2,rfl,D,ba⟩;obtain⟨ch,ck,S⟩:=zz3 (Q.o.b D) (D.h g.o j (EO _)) (D.h cb.o j (Fu n));have cW:w1.heap.size<w6.heap.size:=(EN.1 S.o).1;have c0:u.heap.size≤w6.heap.size:=D.1.size;obtain⟨p2,c2,rfl⟩:=ba.b;have cl:=Hd ba;clear D ba;obtain⟨F,x⟩:=zzx ((w6.setCell ⟨w1.heap.size,4,U⟩ (A p2 l.1.length c2)));have cq:F.heap.size=w6.heap.size:=by rw[x];simp[CK]
  have c1:w1.heap.size<F.heap.size:=by omega
  have bB:Hid (ax w P L cap ts l.2.1 l.2.2 F):=by rw[x];exact (ch.o.y j HL.o (by omega) 4 _)
  have cr:Hid (F.heap[w.heap.size]?=Y (wq bO 25 (0,0))):=by rw[x];exact ((ER _ _ _ _ (show w.heap.size≠w1.heap.size by omega)).trans ck.o)
  have ct:Hid (F.heap[w1.heap.size]?=Y (wq #[I O 2,J nm.1.f,I Z 0,I Z at_,A p2 l.1.length c2] 25 (0,0))):=by rw[x];exact (heap_set S.o 4 _)
  have f4:=ac S.o 4;obtain⟨n0,n1,n2,n3,n4⟩:=cells5 S.o;have H7:=Hd x;clear x;go_upto_region 5 with fail
  change AR _ _ _ _ (w6.setCell ⟨w1.heap.size,4,U⟩ (A p2 l.1.length c2));rw[←H7.o];clear n0 n1 n2 n3 n4 f4;have cu:Hid (OwnAt F d2 l.1 (A p2 l.1.length c2) (bM u.heap.size F.heap.size)):=by rw[cq,H7.o];exact cl.o.C fun b o hb hx=>(ER _ _ _ _ (show b≠w1.heap.size by have:=hb.1;omega)).trans hx
  have HW:=Hd (cM bB.o.2 ci);go_wp2_with fail
  refine EX HW.o ?_;rintro e w8 ⟨rfl,k⟩;obtain⟨cv,m,bR⟩:=zz3 (bB.o.b k) (k.h cr.o j (EO _)) (k.h ct.o j (Fu n));have c3:w1.heap.size<w8.heap.size:=(EN.1 bR.o).1;have c5:F.heap.size≤w8.heap.size:=k.1.size;have cx:=Hd ((cu.o.C fun b o hb hx=>bF k.1 hx (by have:=hb.1;omega)).N (G:=bM u.heap.size w8.heap.size) fun b hb=>⟨hb.1,ET hb.2 k.1.size⟩);obtain⟨n0,n1,n2,n3,n4⟩:=cells5 bR.o;obtain⟨a0,a1,a2,a3,a4⟩:=cells5 m.o;have z0:=ac m.o 0;have z1:=ac m.o 1;have z2:=ac m.o 2;have z3:=ac m.o 3;have z4:=ac m.o 4;clear k;go_wp2_with fail
  refine bw Tryz.results56 V (aZ m.o _ _ _ _ _) V ?_;rw[←av.o];exact a9.h (r:=(.mk 2 nm.1.f 0 at_ l.1,aT ts l.2 ci)) (B:=u.heap.size) j HL.o cv.o cx.o (fu (by omega) bt.o K.o.1 K.o.2) (EO _) (by omega) _ _ _ _ _
 ·have y:=bd.o;rw[qv hm]at y;have z:aQ ts σ [i5]=σ:=by unfold aQ;rw[qv hm]
  rw[z]at t;have C:isM ts σ [i5]=false:=by simpa using hm
  rw[C];have av:=Hd y;clear y z hm C;have cA:=Hd (cM t.o.2 oJ);generalize aT ts σ oJ=cC at *;go_wp2_with fail
  refine EX cA.o ?_;rintro e w4 ⟨rfl,f⟩;obtain⟨N,a6,i⟩:=zz3 (t.o.b f) (f.h br.o j (EO _)) (f.h ar.o j (Fu n));have b8:w1.heap.size<w4.heap.size:=(EN.1 i.o).1;have b9:w2.heap.size≤w4.heap.size:=f.1.size;clear f;have E:=Hd (b0.o at_ cC w4 P L cap K.o.1 K.o.2 N.o.2);rw[av.o]at E;obtain⟨n0,n1,n2,n3,n4⟩:=cells5 i.o;go_wp2_with fail
  refine EX E.o ?_;rintro e u ⟨d,s,rfl,bb,ho,hf⟩;obtain⟨p,c,rfl⟩:=ho.b;obtain⟨Q,g⟩:=zz2 (N.o.b bb) (bb.h a6.o j (EO _));obtain⟨a0,a1,a2,a3,a4⟩:=cells5 g.o;have z0:=ac g.o 0;have z1:=ac g.o 1;have z2:=ac g.o 2;have z3:=ac g.o 3;have z4:=ac g.o 4;obtain⟨HO,HF⟩:=zz2 ho hf;clear bb ho hf n0 n1 n2 n3 n4;go_wp2_with fail
  refine bw Tryz.results56 V (aZ g.o _ _ _ _ _) V ?_;exact a9.h j HL.o Q.o HO.o HF.o (EO _) (by omega) _ _ _ _ _
section
variable {ts:List Tok} {σ:PS}
theorem lW(h:σ.2=wP)(texts:List ByteArray):isM ts σ texts=false:=by unfold isM;rw[h];rfl
theorem ei(h:σ.2=wP)(x:ByteArray):(aT ts σ x).2=true:=by
 show qJ σ.2 _ _=wP
 unfold qJ;rw[h];rfl
theorem oN(h:σ.2=wP)(tok kind:Nat):(ofM ts σ tok kind).2.2=true:=by
 show (σ.2||_)=wP
 rw[h];rfl
end
theorem pI{ts:List Tok}{σ:PS}(h:σ.2=wP):(em ts σ).2.2=true:=by
 unfold em;rw[qv (by rw[lW h];decide),qv (by rw[lW h];decide)]
 split
 ·exact oN h _ _
 ·split
  ·exact oN h _ _
  ·exact oN h _ _
theorem v7{ts:List Tok}{one:PS→ab×PS}{σ:PS}(h:σ.2=wP):∀(g:Nat) (a:List ab),eO ts one g a σ=(a,σ):=by
 intro g a
 cases g with
 | zero=>rfl
 | succ g=>unfold eO;rw[qv (by rw[lW h];decide)]
theorem Bv{ts:List Tok}{one:PS→ab×PS}(a:∀σ:PS,σ.2=wP→(one σ).2.2=wP){σ:PS}(h:σ.2=wP):(jc ts one σ).2.2=true:=by
 unfold jc;rw[v7 (a σ h)];exact a σ h
theorem AH{ts:List Tok}{one:PS→ab×PS}(a:∀σ:PS,σ.2=wP→(one σ).2.2=wP){σ:PS}(h:σ.2=wP):(cn ts one σ).2.2=true:=by
 unfold cn;rw[qv (by rw[lW (ei h _)];decide)];exact ei (Bv a (ei h _)) _
theorem Ek{ts:List Tok}(c:cE ts){σ:PS}(d:σ.1<ts.length){tok:Nat}(h:tok≠7)(kind:Nat):(ofM ts σ tok kind).2.2=wP∨σ.1<(ofM ts σ tok kind).2.1:=by
 cases e:(ofM ts σ tok kind).2.2 with
 | true=>exact Or.inl V
 | false =>
  right
  have b:(σ.2||(cO ts σ.1).1 != tok)=false:=e
  show σ.1<eG ts.length σ.1 (σ.2||(cO ts σ.1).1 != tok)
  rw[b];have f:(cO ts σ.1).1=tok:=by
   cases g:σ.2<;>simp[g]at b
   exact b
  have a:σ.1+1<ts.length:=by
   by_cases a:σ.1+1<ts.length
   ·exact a
   ·exfalso
    have:=c.last σ.1 _ (gw d) a;omega
  rw[qf a];omega
theorem qg{ts:List Tok}(a:cE ts){b:PS→ab×PS}(c:∀σ,σ.1≤(b σ).2.1)(d:∀σ:PS,σ.2=wP→(b σ).2.2=wP){σ:PS}(f:σ.1<ts.length):(dz ts b σ).2.2=wP∨σ.1<(dz ts b σ).2.1:=by
 unfold dz
 by_cases g:isM ts σ [i3]=wP
 ·rw[rv g];obtain⟨i,_,_⟩:=fs a f g
  right
  have e:=ge ts (ag ts σ);have j:=bJ ts (eH ts (ag ts σ)).2 ci;dsimp only;omega
 ·rw[qv g]
  by_cases e:isM ts σ [fh]=wP
  ·rw[rv e];obtain⟨i,_,_⟩:=fs a f e
   right
   have j:=ed ts (ag ts σ) 2 6;have k:=io (ts:=ts) c (ofM ts (ag ts σ) 2 6).2;have l:=bJ ts (cn ts b (ofM ts (ag ts σ) 2 6).2).2 ci;dsimp only;omega
  ·rw[qv e];rcases Ek a f (show 2≠7 by omega) 5 with h|h
   ·left
    exact ei (AH d h) _
   ·right
    have k:=io (ts:=ts) c (ofM ts σ 2 5).2;have l:=bJ ts (cn ts b (ofM ts σ 2 5).2).2 ci;dsimp only;omega
theorem rj{ts:List Tok}(a:cE ts){σ:PS}(d:σ.1<ts.length):(eS ts σ).2.2=wP∨σ.1<(eS ts σ).2.1:=by
 unfold eS
 by_cases f:isM ts σ [fJ]=wP
 ·rw[rv f];obtain⟨e,_,_⟩:=fs a d f
  right
  have b:=ed ts (ag ts σ) 2 8;have c:=io (ts:=ts) (ge ts) (ofM ts (ag ts σ) 2 8).2;have g:=bJ ts (cn ts (eH ts) (ofM ts (ag ts σ) 2 8).2).2 ci;dsimp only;omega
 ·rw[qv f]
  by_cases h:isM ts σ [eT]=wP
  ·rw[rv h];obtain⟨e,_,_⟩:=fs a d h
   right
   have b:=oz ts (ag ts σ);have g:=bJ ts (gk ts (ag ts σ)).2 ci;dsimp only;omega
  ·rw[qv h]
   by_cases b:isM ts σ [kr]=wP
   ·rw[rv b];obtain⟨e,_,_⟩:=fs a d b
    right
    have c:=ri (ts:=ts) (ge ts) (ag ts σ);have g:=bJ ts (jc ts (eH ts) (ag ts σ)).2 ci;dsimp only;omega
   ·rw[qv b];dsimp only
    by_cases c:isM ts σ [kz]=wP
    ·obtain⟨e,_,_⟩:=fs a d c
     right
     have g:=bJ ts (aT ts σ kz) ci;have i:(aT ts σ kz).1=σ.1+1:=by
      rw[←e,←tF Prod.fst (show aQ ts σ [kz]=ag ts σ by unfold aQ;rw[rv c])];exact (jY ts σ [kz]).1.symm
     omega
    ·left
     refine ei ?_ _
     show (!isM ts σ [kz])=wP
     rw[Bool.eq_false_iff.2 c];rfl
def upTo(ts:List Tok) (one:PS→ab×PS) (stop:ByteArray):Nat→List ab→PS→List ab×PS
 | 0,a,σ=>(a,σ)
 | g+1,a,σ=>if σ.2=wP then (a,σ) else if isM ts σ [stop]=wP then (a,σ) else upTo ts one stop g (a++[(one σ).1]) (one σ).2
theorem wS{ts:List Tok}{one:PS→ab×PS}(b:∀σ,σ.1≤(one σ).2.1)(stop:ByteArray):∀(g:Nat) (a:List ab) (σ:PS),σ.1≤(upTo ts one stop g a σ).2.1:=by
 intro g
 induction g with
 | zero=>intro a σ;exact EO _
 | succ g c =>
  intro a σ;unfold upTo
  split
  ·exact EO _
  ·split
   ·exact EO _
   ·exact EU (b σ) (c _ _)
def lc:ByteArray:=⟨#[115,97,108,105,101,110,99,101]⟩
def tTo:ByteArray:=⟨#[61,62]⟩
def kB:ByteArray:=⟨#[123]⟩
def dl:ByteArray:=⟨#[125]⟩
def ij(ts:List Tok) (σ:PS):Int×PS:=
 if isM ts σ [lc]=wP then
  if isM ts (ag ts σ) [bm]=wP then (-((gk ts (ag ts (ag ts σ))).1:Int),(gk ts (ag ts (ag ts σ))).2)
  else ((gk ts (ag ts σ)).1,(gk ts (ag ts σ)).2)
 else (0,σ)
theorem Eb(ts:List Tok)(σ:PS):σ.1≤(ij ts σ).2.1:=by
 unfold ij;have a:=(eQ ts σ).1
 split
 ·split
  ·exact EU a (EU (eQ ts _).1 (oz ts _))
  ·exact EU a (oz ts _)
 ·exact EO _
def dJ(ts:List Tok) (a:Int) (σ:PS):ab×PS:=
 let nm:=ofM ts σ 2 4
 let b:=ij ts nm.2
 let cs:=upTo ts (dz ts (em ts)) tTo (ts.length+1) [] (aT ts b.2 kB)
 let zs:=upTo ts (eS ts) dl (ts.length+1) cs.1 (aT ts cs.2 tTo)
 (.mk 4 nm.1.f b.1 a zs.1,aT ts zs.2 dl)
theorem pY(ts:List Tok)(a:Int)(σ:PS):σ.1≤(dJ ts a σ).2.1:=by
 unfold dJ;dsimp only;have b:=ed ts σ 2 4;have c:=Eb ts (ofM ts σ 2 4).2;have d:=bJ ts (ij ts (ofM ts σ 2 4).2).2 kB;have e:=wS (ts:=ts) (pK (ts:=ts) (jm ts)) tTo (ts.length+1) [] (aT ts (ij ts (ofM ts σ 2 4).2).2 kB);generalize upTo ts (dz ts (em ts)) tTo (ts.length+1) [] (aT ts (ij ts (ofM ts σ 2 4).2).2 kB)=cs at *;have f:=bJ ts cs.2 tTo;have g:=wS (ts:=ts) (rl ts) dl (ts.length+1) cs.1 (aT ts cs.2 tTo);generalize upTo ts (eS ts) dl (ts.length+1) cs.1 (aT ts cs.2 tTo)=zs at *;have h:=bJ ts zs.2 dl;omega
def dpM:Nat→ab→Option Int
 | 0,T=>Y T.y
 | n+1,T=>T.u.findSome? (dpM n)
def Ez(x:Option Int) (w:wD) (e:Ending) (w':wD):Prop:=e=Ending.returned (Value.tuple #[I Z (x.getD 0),Value.bool x.isSome])∧FK w w'
def EI(b:wD) (n m:Nat) (c:List ab) (i:wF) (W:wD):Prop:=∃(a:wD) (k:Nat),a=W∧k≤m∧i=I Z k∧FK b a∧(c.take k).findSome? (dpM n)=U
theorem zi:∀(n:Nat) (a d:Nat) (T:ab) (u:wF) (B:Nat) (w:wD),a+n=30→dH w B d T u→B≤w.heap.size→dA d T.u→Calls Tryz.prog 57 #[u,I Z a] w (Ez (dpM n T) w):=by
 intro n
 induction n with
 | zero =>
  intro a d T u B w ha hu hB hs;obtain⟨_,s,rfl,D⟩:=hu;obtain⟨p,l,c,rfl⟩:=D.b;obtain rfl:a=30:=by omega
  have P:=jV w T (A p l c);have HB:=Hd ((EP _ w).alloc (EO _) (wq #[I O T.b,J T.f,I Z T.h,I Z T.y,A p l c] 25));obtain⟨x0,x1,x2,x3,x4⟩:=cells5 (p9 w (wq #[I O T.b,J T.f,I Z T.h,I Z T.y,A p l c] 25));clear P
  go_enter Tryz.func57,Tryz.ntmps57
  go_wp2_with fail
  go_ret2
  exact⟨V,HB.o⟩
 | succ n ih =>
  intro a d T u B w ha hu hB hs;obtain⟨_,s,rfl,D⟩:=hu;have a1:T.u.length≤20000:=by
   cases d with
   | zero=>rw[D.1];exact Fa _
   | succ d=>exact hs.1
  have g:∀t∈T.u,dA (d-1) t.u:=by
   cases d with
   | zero=>intro t hT;rw[D.1]at hT;cases hT
   | succ d=>intro t hT;exact (hs.2 t hT).u
  obtain⟨p,c,rfl,_,E⟩:=D.rows;have z:Hid (dpM (n+1) T=T.u.findSome? (dpM n)):=rfl;obtain⟨x,hx⟩:=zzy (dpM (n+1) T);rw[hx]at z ⊢;obtain⟨m,hm⟩:=zzy (T.u.length);rw[hm]at a1;obtain⟨Q,F,R,a6⟩:=zz4 hm E g ih;have bl:(a:Int)<30:=by omega
  have HA:Hid ((a+1)+n=30):=by show _=_;omega
  obtain⟨S,C⟩:=zzx (w.alloc (wq #[I O T.b,J T.f,I Z T.h,I Z T.y,A p T.u.length c] 25));have HX:Hid (S.heap[w.heap.size]?=Y (wq #[I O T.b,J T.f,I Z T.h,I Z T.y,A p T.u.length c] 25 (0,0))):=by rw[C];exact p9 w _
  have W:Hid (FK w S):=by rw[C];exact (EP _ w).alloc (EO _) _
  obtain⟨x0,x1,x2,x3,x4⟩:=cells5 (p9 w (wq #[I O T.b,J T.f,I Z T.h,I Z T.y,A p T.u.length c] 25));clear D hs g E ih hm hx ha;obtain⟨h,K⟩:=zzy (T.u);rw[K]at z Q F R;have ba:=Hd K;clear K
  go_enter Tryz.func57,Tryz.ntmps57
  go_upto_region 3 with fail
  change AR _ _ _ _ (w.alloc (wq #[I O T.b,J T.f,I Z T.h,I Z T.y,A p T.u.length c] 25));rw[←C];clear x0 x1 x2 x3 x4 C;obtain⟨y0,y1,y2,y3,y4⟩:=cells5 HX.o;rw[show T.u.length=m by rw[ba.o];exact Q.o]at y4;go_wp2_with fail
  clear y0 y1 y2 y3 y4
  go_loopw [17] (EI S n m h) (fun i _=>m-(intOf i).toNat)
  case atStart=>exact⟨_,0,V,Fa _,V,EP _ _,V⟩
  case round =>
   obtain⟨W1,k,rfl,D,rfl,hb,X⟩:=hrel;have bb:(0:Int)≤k:=by omega
   have f:=W.o.trans (hb.mono W.o.size);obtain⟨L,ad,af⟩:=zz3 f X hb;clear X hb
   by_cases M:k<m
   ·obtain⟨t,ht⟩:∃t,h[k]?=Y t:=⟨h[k]'(by rw[Q.o];exact M),ES (by rw[Q.o];exact M)⟩;have G:t∈h:=Fj ht;obtain⟨hd,b,off,rfl,bc,H⟩:=F.o k t ht;obtain⟨p',l',c',d0,d1,d2,d3,d4,j⟩:=H.node (f.mono hB) bc;have bn:(k:Int)<m:=by omega
    have r:=Hd (a6.o (a+1) _ t _ B _ HA.o (j.u (EU hB f.size) (wq #[I O t.b,J t.f,I Z t.h,I Z t.y,A p' l' c'] 25)) (by have:=f.size;rw[r9];omega) (R.o t G));rw[Int.natCast_succ]at r;have ak:=Hd ((EP _ W1).alloc (EO _) (wq #[I O t.b,J t.f,I Z t.h,I Z t.y,A p' l' c'] 25))
    have v:=Hd (show (h.take (k+1)).findSome? (dpM n)=(dpM n t) by
     rw[Fz,ht,List.findSome?_append,ad.o]
     simp)
    have N:Hid (h.findSome? (dpM n)=((h.take (k+1)).findSome? (dpM n)).or ((h.drop (k+1)).findSome? (dpM n))):=by
     show _=_
     conv=>lhs;rw[←List.take_append_drop (k+1) h]
     rw[List.findSome?_append]
    generalize hy:dpM n t=y at *;clear j H G ht hd f hy;go_wp2_with fail
    refine r.o.mono ?_;rintro e W2 ⟨rfl,al⟩;have aq:=Hd (ak.o.trans (al.mono ak.o.size));clear al d0 d1 d2 d3 d4
    cases y with
    | none =>
     go_wp2_with fail
     exact⟨⟨_,k+1,V,by omega,by go_num,af.o.trans (aq.o.mono af.o.size),v.o⟩,by simp[intOf];omega⟩
    | some q =>
     have ar:x=Y q:=by rw[z.o,N.o,v.o];rfl
     have bd:=Hd ar;clear ar;go_wp2_with fail
     go_ret2
     rw[bd.o];exact⟨V,L.o.trans (aq.o.mono L.o.size)⟩
   ·obtain rfl:k=m:=by omega
    have av:x=none:=by rw[z.o,←ad.o,←Q.o,List.take_length]
    have bk:=Hd av;clear D M bb av f;go_wp2_with fail
    go_ret2
    rw[bk.o];exact⟨V,L.o⟩
theorem rI{w X q f:wD}{P L cap k k3:Nat}{bad r:Bool}{ts:List Tok}{i m d g7 a:Nat}{c:List ab}{rows:List (List wF)}{Fs:Nat→Nat→Prop}{o T W c2 c3:wF}{t:ab}{gg N d2:Nat}{s2:wF}
  (hP:P<w.heap.size) (hL:L<w.heap.size) (ad:w.heap.size≤i) (v:i<m) (hX:m≤X.heap.size) (hT:ax w P L cap ts k bad X)
  (af:X.heap[i]?=Y (wq #[T,W,c2,c3,o] 25 (0,0))) (H:X.ownsRow m 25 5 o c.length rows.flatten) (y:cD X m d c c.length o.ownBlock rows Fs)
  (n:ax X P L cap ts k3 r q) (ak:q.heap[gg]?=Y (wq (ay t s2).toArray 25 (0,0))) (ho:OwnAt q d2 t.u s2 (bM X.heap.size N)) (hf:Fits t) (al:X.heap.size≤N) (a6:N≤gg)
  (s:f.ownsRow m 25 5 (A (Y ⟨g7,0,U⟩) (c.length+1) a) (c.length+1) (rows.flatten++ay t s2)) (j:q.grownBy f o.ownBlock) (z:o.ownBlock=Y g7∨g7=q.heap.size) :
  ∃d' l B,ax w P L cap ts k3 r (f.setCell ⟨i,4,U⟩ (A (Y ⟨g7,0,U⟩) (c.length+1) a))∧
   (∀b,b<m→b≠P→b≠i→(f.setCell ⟨i,4,U⟩ (A (Y ⟨g7,0,U⟩) (c.length+1) a)).heap[b]?=X.heap[b]?)∧
   (f.setCell ⟨i,4,U⟩ (A (Y ⟨g7,0,U⟩) (c.length+1) a)).heap[i]?=Y (wq #[T,W,c2,c3,A (Y ⟨g7,0,U⟩) (c.length+1) a] 25 (0,0))∧
   (f.setCell ⟨i,4,U⟩ (A (Y ⟨g7,0,U⟩) (c.length+1) a)).ownsRow m 25 5 (A (Y ⟨g7,0,U⟩) (c.length+1) a) (c++[t]).length l.flatten∧
   cD (f.setCell ⟨i,4,U⟩ (A (Y ⟨g7,0,U⟩) (c.length+1) a)) m d' (c++[t]) (c++[t]).length (Y g7) l B∧f.heap[i]?=Y (wq #[T,W,c2,c3,o] 25 (0,0)):=by
 have p:=eM H;have ba:=hT.1.size;have bb:=n.1.size;have bc:gg<q.heap.size:=(EN.1 ak).1;have bd:=j.size;have K:∀g,o.ownBlock=Y g→w.heap.size≤g:=fun g hg=>by have:=(p g hg).1;omega
 have aq:=(hT.b n).grownO hP hL j K;have C:∀b,b<q.heap.size→o.ownBlock≠Y b→f.heap[b]?=q.heap[b]?:=fun b F D=>j.block b F (fun e=>D e.symm)
 have ar:∀b,b<m→o.ownBlock≠Y b:=fun b hb e=>by have:=(p b e).1;omega
 have e2:=ho.mores d;rw[Nat.add_comm d2 d]at e2;have M:∀b,b<m→b≠P→f.heap[b]?=X.heap[b]?:=fun b F D=>(C b (by omega) (ar b F)).trans (n.1.block b (by omega) (fun e=>by injection e with e;exact D e))
 obtain⟨B,E⟩:=cD.nextT (W':=f) (N:=N) (own':=Y g7) (t:=t) ((y.deeper d2).longer V [t]) (by simp) hf
  (e2.C fun x o' G av=>(C x (by have:=G.2;omega) (fun e=>by have:=(p x e).2;have:=G.1;omega)).trans av) al (by omega) (by omega) (by omega)
  (fun x F D Q=>(C x (by omega) Q).trans (n.1.block x D (fun e=>by injection e with e;omega))) (fun x G=>by
   injection G with G
   subst G;rcases z with h|h
   ·exact Or.inl ⟨h,by have:=(p _ h).2;omega⟩
   ·right;omega)
 obtain⟨R,a1⟩:=zzx (A (Y ⟨g7,0,U⟩) (c.length+1) a);rw[←a1]at s ⊢;have u:f.grownBy (f.setCell ⟨i,4,U⟩ R) (Y i):=gz (r8 f _) _ _;have S:f.heap[i]?=Y (wq #[T,W,c2,c3,o] 25 (0,0)):=(M i v (by omega)).trans af;refine⟨d+d2,rows++[ay t s2],B,aq.y hP hL ad 4 R,?_,?_,?_,?_,S⟩
 ·exact fun b F D h3=>(ER _ _ _ b h3).trans (M b F D)
 ·rw[heap_set S 4 R];rfl
 ·have:=dq s u v;rw[Fc,FG,List.flatten_append]
  simpa using this
 ·rw[Fc,FG];exact E.turn u v
