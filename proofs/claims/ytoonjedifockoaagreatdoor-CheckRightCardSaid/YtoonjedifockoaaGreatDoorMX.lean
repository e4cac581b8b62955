/- Parts of one proof, joined; conditions stand in each theorem. -/
import Derived.Test.YtoonjedifockoaaGreatDoorMW
namespace Go.Proofs.YtoonjedifockoaaGreatDoor
open Go.IntKind(i64)
open Go.Value(int string slice)
set_option maxHeartbeats 2000000
set_option maxRecDepth 100000
open Go.RowKit
def eU:ByteArray:=⟨#[97,115,115,101,114,116]⟩
def ey:ByteArray:=⟨#[114,101,116,114,97,99,116]⟩
def jF:ByteArray:=⟨#[115,97,121]⟩
def jL:ByteArray:=⟨#[104,97,108,116]⟩
def ew(ts:List Tok) (σ:PS):ac×PS:=
 if isM ts σ [eU]=true then (.mk 8 (ofM ts (ah ts σ) 2 8).1.text 0 (atM ts σ) (cb ts (ed ts) (ofM ts (ah ts σ) 2 8).2).1,aO ts (cb ts (ed ts) (ofM ts (ah ts σ) 2 8).2).2 bY)
 else if isM ts σ [ey]=true then (.mk 9 ⟨#[]⟩ (fq ts (ah ts σ)).1 (atM ts σ) [],aO ts (fq ts (ah ts σ)).2 bY)
 else if isM ts σ [jF]=true then (.mk 10 ⟨#[]⟩ 0 (atM ts σ) (ip ts (ed ts) (ah ts σ)).1,aO ts (ip ts (ed ts) (ah ts σ)).2 bY)
 else (.mk 11 ⟨#[]⟩ 0 (atM ts σ) [],aO ts (aO ts σ jL) bY)
theorem qB(ts:List Tok)(σ:PS):σ.1≤(ew ts σ).2.1:=by
 unfold ew;have a:=(eq ts σ).1
 (repeat' split)
 ·exact EG a (EG (dM ts _ 2 8) (EG (gq (fk ts) _) (bH ts _ _)))
 ·exact EG a (EG (ns ts _) (bH ts _ _))
 ·exact EG a (EG (qz (fk ts) _) (bH ts _ _))
 ·exact EG (bH ts _ _) (bH ts _ _)
theorem qm{ts:List Tok}(a:co ts):iG ts 146 (ed ts):=fun _σ _w _P _L _cap h=>rU a h
theorem Cx{kind:Nat}{n:Nat}{pl:Int}{a:List ac}(b:kind<256)(c:n≤2147483647)(d:0≤pl)(e:pl≤16384):Fits (.mk kind ⟨#[]⟩ n pl a):=
 ⟨b,by show (0:Nat)≤maxLen;exact EM _,by show (-9223372036854775808:Int)≤n;omega,by show (n:Int)<9223372036854775808;omega,by show (-9223372036854775808:Int)≤pl;omega,by show pl<9223372036854775808;omega⟩
theorem Bj{ts:List Tok}(af:co ts):iG ts 106 (ew ts):=by
 intro σ w P L cap h;have br:Ft w (w.alloc (.cells bM 76)):=(EB _ w).alloc (EA _) _;have HC:=Hd (fo (h.below br));have H0:=Hd (h.turns br);have j:=h.lt.1;have HL:=Hd h.lt.2;have HX:=Hd (n7 w (.cells bM 76));have bc:=Hd af;have bt:=Hd (fun σ w P L cap h=>my af (enters_of Tryz.func146 (by kernel_rfl) rfl) (qm af) (fk ts) σ w P L cap h);have b6:=Hd (fun σ w P L cap h=>tZ af (enters_of Tryz.func146 (by kernel_rfl) rfl) (qm af) (fk ts) σ w P L cap h);obtain⟨R,bB⟩:=zzy (ew ts σ);rw[bB];have v:=bB;unfold ew at v;obtain⟨at_,bR⟩:=zzy (atM ts σ);rw[bR]at HC v;have b7:=Hd v;have K:Hid (0≤at_∧at_≤16384):=by
  show _∧_
  obtain⟨_,_,g3⟩:=cE bc.o σ.1;rw[←bR];unfold atM;omega
 clear h br af bB v bR;generalize kdM ts σ=kd at HC;generalize txM ts σ=tx at HC
 go_enter Tryz.func106,Tryz.ntmps106
 go_wp2_with fail
 refine EJ HC.o ?_;rintro e w1 ⟨rfl,b0⟩;have cv:=jv kd tx at_ w1;have cx:=Hd (H0.o.of_below b0);have b8:=Hd (aa b0 HX.o (by simp));have x:w.heap.size<w1.heap.size:=(Ez.1 b8.o).1;clear b0;obtain⟨wA,ak⟩:=zzx (w1.alloc (.cells #[int .u8 0,string ⟨#[]⟩,int i64 0,int i64 at_,slice none 0 0] 76));have cA:w1.heap.size<wA.heap.size:=by rw[ak];simp
 have cC:Hid (au w P L cap ts σ.1 σ.2 wA):=by rw[ak];exact cx.o.alloc _
 have cR:Hid (wA.heap[w1.heap.size]?=some (.cells #[int .u8 0,string ⟨#[]⟩,int i64 0,int i64 at_,slice none 0 0] 76 (0,0))):=by rw[ak];exact n7 w1 _
 have cT:Hid (wA.heap[w.heap.size]?=some (.cells bM 76 (0,0))):=by rw[ak];exact (Fp w1 _ _ x).trans b8.o
 go_upto_region 4 with fail
 change Code.wp _ _ _ _ (w1.alloc (.cells #[int .u8 0,string ⟨#[]⟩,int i64 0,int i64 at_,slice none 0 0] 76));rw[←ak];clear cv ak;have C:=Hd (cC.o.alloc (.cells #[.string eU] 9));have M:=Hd ((Fp wA (.cells #[.string eU] 9) w1.heap.size cA).trans cR.o);have N:=Hd ((Fp wA (.cells #[.string eU] 9) w.heap.size (by omega)).trans cT.o);have O:=Hd (dj C.o.2 wA.heap.size 0 1 1 [eU] (bP [eU]) rfl (by omega));go_wp2_with fail
 refine EJ O.o ?_;rintro e w2 ⟨rfl,ht⟩;have bd:=Hd (C.o.trans ht);have b9:=Hd (ht.box N.o j (EA _));have a8:=Hd (ht.box M.o j (Fa x));have cV:w1.heap.size<w2.heap.size:=(Ez.1 a8.o).1;clear ht C M N O
 by_cases hm:isM ts σ [eU]=true
 ·have v:=b7.o;rw[n9 hm]at v;have k:aK ts σ [eU]=ah ts σ:=by unfold aK;rw[n9 hm]
  rw[k]at bd;have m:isM ts σ [eU]=true:=by simpa using hm
  rw[m];have bk:=Hd v;clear v k hm m;obtain⟨w3,an⟩:=zzx ((w2.setCell ⟨w1.heap.size,0,none⟩ (int .u8 8)));have dg:w3.heap.size=w2.heap.size:=by rw[an];simp[World.setCell]
  have ca:w1.heap.size<w3.heap.size:=by omega
  have Q:Hid (au w P L cap ts (ah ts σ).1 (ah ts σ).2 w3):=by rw[an];exact (bd.o.setCell j HL.o (by omega) 0 _)
  have bl:Hid (w3.heap[w.heap.size]?=some (.cells bM 76 (0,0))):=by rw[an];exact ((ED _ _ _ _ (show w.heap.size≠w1.heap.size by omega)).trans b9.o)
  have aq:Hid (w3.heap[w1.heap.size]?=some (.cells #[int .u8 8,string ⟨#[]⟩,int i64 0,int i64 at_,slice none 0 0] 76 (0,0))):=by rw[an];exact (heap_set a8.o 0 _)
  have f0:=ab a8.o 0;obtain⟨S,T,n2,U,n4⟩:=cells5 a8.o;have H3:=Hd an;clear an;go_upto_region 6 with fail
  change Code.wp _ _ _ _ (w2.setCell ⟨w1.heap.size,0,none⟩ (int .u8 8));rw[←H3.o];clear S T n2 U n4 f0;have cW:=Hd (iq bc.o Q.o.2 8 (by omega));have bq:(ofM ts (ah ts σ) 2 8).1.text.size≤16384:=(cE bc.o _).2.1;generalize ofM ts (ah ts σ) 2 8=nm at *;have cc:=Hd bq;obtain⟨S,T,n2,U,n4⟩:=cells5 aq.o;clear bq;go_wp2_with fail
  refine EJ cW.o ?_;rintro e w4 ⟨d,s,rfl,D,ho,hf⟩;have H:=Hd (Q.o.trans D);have ar:=Hd (D.box bl.o j (EA _));have q:=Hd (D.box aq.o j (Fa x));have ch:w1.heap.size<w4.heap.size:=(Ez.1 q.o).1;have c0:w3.heap.size≤w4.heap.size:=D.1.size;obtain⟨p,c,rfl⟩:=ho.shape;have c1:=gw nm.1.kind nm.1.text nm.1.num nm.1.place nm.1.kids.length p c w4;clear D ho hf S T n2 U n4;obtain⟨f,g⟩:=zzx ((w4.setCell ⟨w1.heap.size,1,none⟩ (.string nm.1.text)));have ck:f.heap.size=w4.heap.size:=by rw[g];simp[World.setCell]
  have b1:w1.heap.size<f.heap.size:=by omega
  have F:Hid (au w P L cap ts nm.2.1 nm.2.2 f):=by rw[g];exact (H.o.setCell j HL.o (by omega) 1 _)
  have V:Hid (f.heap[w.heap.size]?=some (.cells bM 76 (0,0))):=by rw[g];exact ((ED _ _ _ _ (show w.heap.size≠w1.heap.size by omega)).trans ar.o)
  have E:Hid (f.heap[w1.heap.size]?=some (.cells #[int .u8 8,.string nm.1.text,int i64 0,int i64 at_,slice none 0 0] 76 (0,0))):=by rw[g];exact (heap_set q.o 1 _)
  have f1:=ab q.o 1;obtain⟨S,T,n2,U,n4⟩:=cells5 q.o;have H5:=Hd g;clear g;go_upto_region 7 with fail
  change Code.wp _ _ _ _ (w4.setCell ⟨w1.heap.size,1,none⟩ (.string nm.1.text));rw[←H5.o];clear S T n2 U n4 f1;clear c1;have b2:=Hd (bt.o nm.2 f P L cap F.o.2);generalize cb ts (ed ts) nm.2=l at *;go_wp2_with fail
  refine EJ b2.o ?_;rintro e u ⟨d2,s2,rfl,i,W⟩;have I:=Hd (F.o.trans i);have y:=Hd (i.box V.o j (EA _));have z:=Hd (i.box E.o j (Fa x));have b3:w1.heap.size<u.heap.size:=(Ez.1 z.o).1;have cl:f.heap.size≤u.heap.size:=i.1.size;obtain⟨p2,c2,rfl⟩:=W.shape;have X:=Hd W;clear i W;obtain⟨J,av⟩:=zzx ((u.setCell ⟨w1.heap.size,4,none⟩ (.slice p2 l.1.length c2)));have c3:J.heap.size=u.heap.size:=by rw[av];simp[World.setCell]
  have cq:w1.heap.size<J.heap.size:=by omega
  have a6:Hid (au w P L cap ts l.2.1 l.2.2 J):=by rw[av];exact (I.o.setCell j HL.o (by omega) 4 _)
  have n:Hid (J.heap[w.heap.size]?=some (.cells bM 76 (0,0))):=by rw[av];exact ((ED _ _ _ _ (show w.heap.size≠w1.heap.size by omega)).trans y.o)
  have Y:Hid (J.heap[w1.heap.size]?=some (.cells #[int .u8 8,.string nm.1.text,int i64 0,int i64 at_,.slice p2 l.1.length c2] 76 (0,0))):=by rw[av];exact (heap_set z.o 4 _)
  have f4:=ab z.o 4;obtain⟨S,T,n2,U,n4⟩:=cells5 z.o;have H7:=Hd av;clear av;go_upto_region 12 with fail
  change Code.wp _ _ _ _ (u.setCell ⟨w1.heap.size,4,none⟩ (.slice p2 l.1.length c2));rw[←H7.o];clear S T n2 U n4 f4;have ba:Hid (OwnAt J d2 l.1 (.slice p2 l.1.length c2) (bL f.heap.size J.heap.size)):=by rw[c3,H7.o];exact X.o.keep fun b o A hx=>(ED _ _ _ _ (show b≠w1.heap.size by have:=A.1;omega)).trans hx
  have HW:=Hd (cF a6.o.2 bY);go_wp2_with fail
  refine EJ HW.o ?_;rintro e w8 ⟨rfl,Z⟩;have c5:=Hd (a6.o.trans Z);have ad:=Hd (Z.box n.o j (EA _));have cr:=Hd (Z.box Y.o j (Fa x));have ds:w1.heap.size<w8.heap.size:=(Ez.1 cr.o).1;have dv:J.heap.size≤w8.heap.size:=Z.1.size;have c6:=Hd ((ba.o.keep fun b o A hx=>bE Z.1 hx (by have:=A.1;omega)).sub (G:=bL f.heap.size w8.heap.size) fun b A=>⟨A.1,EF A.2 Z.1.size⟩);obtain⟨S,T,n2,U,n4⟩:=cells5 cr.o;obtain⟨a0,a1,a2,a3,a4⟩:=cells5 ad.o;have z0:=ab ad.o 0;have z1:=ab ad.o 1;have z2:=ab ad.o 2;have z3:=ab ad.o 3;have z4:=ab ad.o 4;clear Z;go_wp2_with fail
  refine bs Tryz.results106 rfl (aU ad.o _ _ _ _ _) rfl ?_;rw[←bk.o];exact aV.stored (r:=(.mk 8 nm.1.text 0 at_ l.1,aO ts l.2 bY)) (B:=f.heap.size) j HL.o c5.o c6.o (eK (by omega) cc.o K.o.1 K.o.2) (EA _) (by omega) _ _ _ _ _
 ·have v:=b7.o;rw[n8 hm]at v;have k:aK ts σ [eU]=σ:=by unfold aK;rw[n8 hm]
  rw[k]at bd;have m:isM ts σ [eU]=false:=by simpa using hm
  rw[m];have bk:=Hd v;clear v k hm m;have C:=Hd (bd.o.alloc (.cells #[.string ey] 9));have M:=Hd ((Fp w2 (.cells #[.string ey] 9) w1.heap.size cV).trans a8.o);have N:=Hd ((Fp w2 (.cells #[.string ey] 9) w.heap.size (by omega)).trans b9.o);have O:=Hd (dj C.o.2 w2.heap.size 0 1 1 [ey] (bP [ey]) rfl (by omega));go_wp2_with fail
  refine EJ O.o ?_;rintro e w3 ⟨rfl,ht⟩;have Q:=Hd (C.o.trans ht);have bl:=Hd (ht.box N.o j (EA _));have aq:=Hd (ht.box M.o j (Fa x));have ca:w1.heap.size<w3.heap.size:=(Ez.1 aq.o).1;clear ht C M N O
  by_cases hm:isM ts σ [ey]=true
  ·have v:=bk.o;rw[n9 hm]at v;have k:aK ts σ [ey]=ah ts σ:=by unfold aK;rw[n9 hm]
   rw[k]at Q;have m:isM ts σ [ey]=true:=by simpa using hm
   rw[m];have bn:=Hd v;clear v k hm m;have c7:=Hd (kM bc.o Q.o.2);have ct:=iF ts (ah ts σ);generalize fq ts (ah ts σ)=nu at *;have c8:=Hd ct;clear ct;go_wp2_with fail
   refine EJ c7.o ?_;rintro e w4 ⟨rfl,D⟩;have H:=Hd (Q.o.trans D);have ar:=Hd (D.box bl.o j (EA _));have q:=Hd (D.box aq.o j (Fa x));have ch:w1.heap.size<w4.heap.size:=(Ez.1 q.o).1;have c0:w3.heap.size≤w4.heap.size:=D.1.size;clear D;obtain⟨f,g⟩:=zzx (((w4.setCell ⟨w1.heap.size,0,none⟩ (int .u8 9)).setCell ⟨w1.heap.size,2,none⟩ (int i64 nu.1)));have ck:f.heap.size=w4.heap.size:=by rw[g];simp[World.setCell]
   have b1:w1.heap.size<f.heap.size:=by omega
   have F:Hid (au w P L cap ts nu.2.1 nu.2.2 f):=by rw[g];exact ((H.o.setCell j HL.o (by omega) 0 _).setCell j HL.o (by omega) 2 _)
   have V:Hid (f.heap[w.heap.size]?=some (.cells bM 76 (0,0))):=by rw[g];exact ((ED _ _ _ _ (show w.heap.size≠w1.heap.size by omega)).trans ((ED _ _ _ _ (show w.heap.size≠w1.heap.size by omega)).trans ar.o))
   have E:Hid (f.heap[w1.heap.size]?=some (.cells #[int .u8 9,string ⟨#[]⟩,int i64 nu.1,int i64 at_,slice none 0 0] 76 (0,0))):=by rw[g];exact (heap_set (heap_set q.o 0 _) 2 _)
   have f0:=ab q.o 0;have f2:=ab q.o 2;obtain⟨S,T,n2,U,n4⟩:=cells5 q.o;have H5:=Hd g;clear g;go_upto_region 12 with fail
   change Code.wp _ _ _ _ ((w4.setCell ⟨w1.heap.size,0,none⟩ (int .u8 9)).setCell ⟨w1.heap.size,2,none⟩ (int i64 nu.1));rw[←H5.o];clear S T n2 U n4 f0 f2;have b4:Hid (OwnAt f 0 [] (slice none 0 0) (bL f.heap.size f.heap.size)):=jc _ _;have HW:=Hd (cF F.o.2 bY);go_wp2_with fail
   refine EJ HW.o ?_;rintro e u ⟨rfl,i⟩;have I:=Hd (F.o.trans i);have y:=Hd (i.box V.o j (EA _));have z:=Hd (i.box E.o j (Fa x));have b3:w1.heap.size<u.heap.size:=(Ez.1 z.o).1;have cl:f.heap.size≤u.heap.size:=i.1.size;have X:=Hd ((b4.o.keep fun b o A hx=>bE i.1 hx (by have:=A.1;omega)).sub (G:=bL f.heap.size u.heap.size) fun b A=>⟨A.1,EF A.2 i.1.size⟩);obtain⟨S,T,n2,U,n4⟩:=cells5 z.o;obtain⟨a0,a1,a2,a3,a4⟩:=cells5 y.o;have z0:=ab y.o 0;have z1:=ab y.o 1;have z2:=ab y.o 2;have z3:=ab y.o 3;have z4:=ab y.o 4;clear i;go_wp2_with fail
   refine bs Tryz.results106 rfl (aU y.o _ _ _ _ _) rfl ?_;rw[←bn.o];exact aV.stored (r:=(.mk 9 ⟨#[]⟩ nu.1 at_ [],aO ts nu.2 bY)) (B:=f.heap.size) j HL.o I.o X.o (Cx (by omega) c8.o K.o.1 K.o.2) (EA _) (by omega) _ _ _ _ _
  ·have v:=bk.o;rw[n8 hm]at v;have k:aK ts σ [ey]=σ:=by unfold aK;rw[n8 hm]
   rw[k]at Q;have m:isM ts σ [ey]=false:=by simpa using hm
   rw[m];have bn:=Hd v;clear v k hm m;have C:=Hd (Q.o.alloc (.cells #[.string jF] 9));have M:=Hd ((Fp w3 (.cells #[.string jF] 9) w1.heap.size ca).trans aq.o);have N:=Hd ((Fp w3 (.cells #[.string jF] 9) w.heap.size (by omega)).trans bl.o);have O:=Hd (dj C.o.2 w3.heap.size 0 1 1 [jF] (bP [jF]) rfl (by omega));go_wp2_with fail
   refine EJ O.o ?_;rintro e w4 ⟨rfl,ht⟩;have H:=Hd (C.o.trans ht);have ar:=Hd (ht.box N.o j (EA _));have q:=Hd (ht.box M.o j (Fa x));have ch:w1.heap.size<w4.heap.size:=(Ez.1 q.o).1;clear ht C M N O
   by_cases hm:isM ts σ [jF]=true
   ·have v:=bn.o;rw[n9 hm]at v;have k:aK ts σ [jF]=ah ts σ:=by unfold aK;rw[n9 hm]
    rw[k]at H;have m:isM ts σ [jF]=true:=by simpa using hm
    rw[m];have b5:=Hd v;clear v k hm m;have b2:=Hd (b6.o (ah ts σ) w4 P L cap H.o.2);generalize ip ts (ed ts) (ah ts σ)=l at *;go_wp2_with fail
    refine EJ b2.o ?_;rintro e f ⟨d2,s2,rfl,bb,W⟩;have F:=Hd (H.o.trans bb);have V:=Hd (bb.box ar.o j (EA _));have E:=Hd (bb.box q.o j (Fa x));have b1:w1.heap.size<f.heap.size:=(Ez.1 E.o).1;have ec:w4.heap.size≤f.heap.size:=bb.1.size;obtain⟨p2,c2,rfl⟩:=W.shape;have b4:=Hd W;clear bb W;obtain⟨u,a7⟩:=zzx (((f.setCell ⟨w1.heap.size,0,none⟩ (int .u8 10)).setCell ⟨w1.heap.size,4,none⟩ (.slice p2 l.1.length c2)));have c9:u.heap.size=f.heap.size:=by rw[a7];simp[World.setCell]
    have b3:w1.heap.size<u.heap.size:=by omega
    have I:Hid (au w P L cap ts l.2.1 l.2.2 u):=by rw[a7];exact ((F.o.setCell j HL.o (by omega) 0 _).setCell j HL.o (by omega) 4 _)
    have y:Hid (u.heap[w.heap.size]?=some (.cells bM 76 (0,0))):=by rw[a7];exact ((ED _ _ _ _ (show w.heap.size≠w1.heap.size by omega)).trans ((ED _ _ _ _ (show w.heap.size≠w1.heap.size by omega)).trans V.o))
    have z:Hid (u.heap[w1.heap.size]?=some (.cells #[int .u8 10,string ⟨#[]⟩,int i64 0,int i64 at_,.slice p2 l.1.length c2] 76 (0,0))):=by rw[a7];exact (heap_set (heap_set E.o 0 _) 4 _)
    have f0:=ab E.o 0;have f4:=ab E.o 4;obtain⟨S,T,n2,U,n4⟩:=cells5 E.o;have H6:=Hd a7;clear a7;go_upto_region 12 with fail
    change Code.wp _ _ _ _ ((f.setCell ⟨w1.heap.size,0,none⟩ (int .u8 10)).setCell ⟨w1.heap.size,4,none⟩ (.slice p2 l.1.length c2));rw[←H6.o];clear S T n2 U n4 f0 f4;have X:Hid (OwnAt u d2 l.1 (.slice p2 l.1.length c2) (bL w4.heap.size u.heap.size)):=by rw[c9,H6.o];exact b4.o.keep fun b o A hx=>(ED _ _ _ _ (show b≠w1.heap.size by have:=A.1;omega)).trans ((ED _ _ _ _ (show b≠w1.heap.size by have:=A.1;omega)).trans hx)
    have HW:=Hd (cF I.o.2 bY);go_wp2_with fail
    refine EJ HW.o ?_;rintro e J ⟨rfl,t⟩;have a6:=Hd (I.o.trans t);have n:=Hd (t.box y.o j (EA _));have Y:=Hd (t.box z.o j (Fa x));have cq:w1.heap.size<J.heap.size:=(Ez.1 Y.o).1;have da:u.heap.size≤J.heap.size:=t.1.size;have ba:=Hd ((X.o.keep fun b o A hx=>bE t.1 hx (by have:=A.1;omega)).sub (G:=bL w4.heap.size J.heap.size) fun b A=>⟨A.1,EF A.2 t.1.size⟩);obtain⟨S,T,n2,U,n4⟩:=cells5 Y.o;obtain⟨a0,a1,a2,a3,a4⟩:=cells5 n.o;have z0:=ab n.o 0;have z1:=ab n.o 1;have z2:=ab n.o 2;have z3:=ab n.o 3;have z4:=ab n.o 4;clear t;go_wp2_with fail
    refine bs Tryz.results106 rfl (aU n.o _ _ _ _ _) rfl ?_;rw[←b5.o];exact aV.stored (r:=(.mk 10 ⟨#[]⟩ 0 at_ l.1,aO ts l.2 bY)) (B:=w4.heap.size) j HL.o a6.o ba.o (eK (by omega) (by show (0:Nat)≤16384;omega) K.o.1 K.o.2) (EA _) (by omega) _ _ _ _ _
   ·have v:=bn.o;rw[n8 hm]at v;have k:aK ts σ [jF]=σ:=by unfold aK;rw[n8 hm]
    rw[k]at H;have m:isM ts σ [jF]=false:=by simpa using hm
    rw[m];have b5:=Hd v;clear v k hm m;obtain⟨f,g⟩:=zzx ((w4.setCell ⟨w1.heap.size,0,none⟩ (int .u8 11)));have ck:f.heap.size=w4.heap.size:=by rw[g];simp[World.setCell]
    have b1:w1.heap.size<f.heap.size:=by omega
    have F:Hid (au w P L cap ts σ.1 σ.2 f):=by rw[g];exact (H.o.setCell j HL.o (by omega) 0 _)
    have V:Hid (f.heap[w.heap.size]?=some (.cells bM 76 (0,0))):=by rw[g];exact ((ED _ _ _ _ (show w.heap.size≠w1.heap.size by omega)).trans ar.o)
    have E:Hid (f.heap[w1.heap.size]?=some (.cells #[int .u8 11,string ⟨#[]⟩,int i64 0,int i64 at_,slice none 0 0] 76 (0,0))):=by rw[g];exact (heap_set q.o 0 _)
    have f0:=ab q.o 0;obtain⟨S,T,n2,U,n4⟩:=cells5 q.o;have H5:=Hd g;clear g;go_upto_region 3 with fail
    change Code.wp _ _ _ _ (w4.setCell ⟨w1.heap.size,0,none⟩ (int .u8 11));rw[←H5.o];clear S T n2 U n4 f0;have dc:=Hd (cF F.o.2 jL);generalize aO ts σ jL=dd at *;go_wp2_with fail
    refine EJ dc.o ?_;rintro e u ⟨rfl,i⟩;have I:=Hd (F.o.trans i);have y:=Hd (i.box V.o j (EA _));have z:=Hd (i.box E.o j (Fa x));have b3:w1.heap.size<u.heap.size:=(Ez.1 z.o).1;have cl:f.heap.size≤u.heap.size:=i.1.size;clear i;have X:Hid (OwnAt u 0 [] (slice none 0 0) (bL u.heap.size u.heap.size)):=jc _ _;have HW:=Hd (cF I.o.2 bY);go_wp2_with fail
    refine EJ HW.o ?_;rintro e J ⟨rfl,t⟩;have a6:=Hd (I.o.trans t);have n:=Hd (t.box y.o j (EA _));have Y:=Hd (t.box z.o j (Fa x));have cq:w1.heap.size<J.heap.size:=(Ez.1 Y.o).1;have da:u.heap.size≤J.heap.size:=t.1.size;have ba:=Hd ((X.o.keep fun b o A hx=>bE t.1 hx (by have:=A.1;omega)).sub (G:=bL u.heap.size J.heap.size) fun b A=>⟨A.1,EF A.2 t.1.size⟩);obtain⟨S,T,n2,U,n4⟩:=cells5 Y.o;obtain⟨a0,a1,a2,a3,a4⟩:=cells5 n.o;have z0:=ab n.o 0;have z1:=ab n.o 1;have z2:=ab n.o 2;have z3:=ab n.o 3;have z4:=ab n.o 4;clear t;go_wp2_with fail
    refine bs Tryz.results106 rfl (aU n.o _ _ _ _ _) rfl ?_;rw[←b5.o];exact aV.stored (r:=(.mk 11 ⟨#[]⟩ 0 at_ [],aO ts dd bY)) (B:=u.heap.size) j HL.o a6.o ba.o (eK (by omega) (by show (0:Nat)≤16384;omega) K.o.1 K.o.2) (EA _) (by omega) _ _ _ _ _
def j3:ByteArray:=⟨#[95]⟩
def dS(ts:List Tok) (σ:PS):ac×PS:=
 if isM ts σ [j3]=true then (.mk 12 ⟨#[]⟩ 0 (atM ts σ) [],ah ts σ)
 else if isM ts σ [be]=true then (.mk 14 (be++txM ts (ah ts σ)) 0 (atM ts σ) [],(ofM ts (ah ts σ) 4 14).2)
 else if kdM ts σ=5 then ofM ts σ 5 15
 else if kdM ts σ=3 then ofM ts σ 3 13
 else ofM ts σ 4 14
theorem iw(ts:List Tok)(σ:PS):σ.1≤(dS ts σ).2.1:=by
 unfold dS;have a:=(eq ts σ).1
 (repeat' split)
 ·exact a
 ·exact EG a (dM ts _ 4 14)
 ·exact dM _ _ _ _
 ·exact dM _ _ _ _
 ·exact dM _ _ _ _
theorem zZ{kind:Nat}{tx:ByteArray}{pl:Int}{a:List ac}(b:kind<256)(c:tx.size≤16385)(d:0≤pl)(e:pl≤16384):Fits (.mk kind tx 0 pl a):=
 ⟨b,by show tx.size≤maxLen;unfold maxLen;omega,by show (-9223372036854775808:Int)≤0;omega,by show (0:Int)<9223372036854775808;omega,by show (-9223372036854775808:Int)≤pl;omega,by show pl<9223372036854775808;omega⟩
theorem B9{ts:List Tok}(b4:co ts):iG ts 147 (dS ts):=by
 intro σ w P L cap h;have bb:Ft w (w.alloc (.cells bM 76)):=(EB _ w).alloc (EA _) _;have HC:=Hd (fo (h.below bb));have H0:=Hd (h.turns bb);have A:=h.lt.1;have HL:=Hd h.lt.2;have HX:=Hd (n7 w (.cells bM 76));have C:=Hd b4;obtain⟨R,bc⟩:=zzy (dS ts σ);rw[bc];have j:=bc.symm;unfold dS at j;obtain⟨kd,b5⟩:=zzy (kdM ts σ);obtain⟨at_,bd⟩:=zzy (atM ts σ);rw[b5,bd]at HC j;have b6:=Hd j;have aq:Hid (0≤at_∧at_≤16384):=by
  show _∧_
  obtain⟨_,_,g3⟩:=cE C.o σ.1;rw[←bd];unfold atM;omega
 clear h bb b4 bc j bd b5;generalize txM ts σ=tx at HC
 go_enter Tryz.func147,Tryz.ntmps147
 go_wp2_with fail
 refine EJ HC.o ?_;rintro e w1 ⟨rfl,bk⟩;have cx:=Hd (H0.o.of_below bk);have b7:=Hd (aa bk HX.o (by simp));have J:w.heap.size<w1.heap.size:=(Ez.1 b7.o).1;clear bk;obtain⟨wA,K⟩:=zzx (w1.alloc (.cells #[int .u8 kd,.string tx,int i64 at_] 108));have cA:w1.heap.size<wA.heap.size:=by rw[K];simp
 have cC:Hid (au w P L cap ts σ.1 σ.2 wA):=by rw[K];exact cx.o.alloc _
 have cR:Hid (wA.heap[w1.heap.size]?=some (.cells #[int .u8 kd,.string tx,int i64 at_] 108 (0,0))):=by rw[K];exact n7 w1 _
 have cT:Hid (wA.heap[w.heap.size]?=some (.cells bM 76 (0,0))):=by rw[K];exact (Fp w1 _ _ J).trans b7.o
 go_upto_region 2 with fail
 change Code.wp _ _ _ _ (w1.alloc (.cells #[int .u8 kd,.string tx,int i64 at_] 108));rw[←K];clear K;have D:=Hd (cC.o.alloc (.cells #[.string j3] 9));have S:=Hd ((Fp wA (.cells #[.string j3] 9) w1.heap.size cA).trans cR.o);have T:=Hd ((Fp wA (.cells #[.string j3] 9) w.heap.size (by omega)).trans cT.o);have U:=Hd (dj D.o.2 wA.heap.size 0 1 1 [j3] (bP [j3]) rfl (by omega));go_wp2_with fail
 refine EJ U.o ?_;rintro e w2 ⟨rfl,ht⟩;have ar:=Hd (D.o.trans ht);have z:=Hd (ht.box T.o A (EA _));have bl:=Hd (ht.box S.o A (Fa J));have cV:w1.heap.size<w2.heap.size:=(Ez.1 bl.o).1;clear ht D S T U
 by_cases hm:isM ts σ [j3]=true
 ·have j:=b6.o;rw[n9 hm]at j;have q:aK ts σ [j3]=ah ts σ:=by unfold aK;rw[n9 hm]
  rw[q]at ar;have t:isM ts σ [j3]=true:=by simpa using hm
  rw[t];have V:=Hd j;clear j q hm t;have ds:=V;obtain⟨m0,m1,m2,_,_,_⟩:=cells3 bl.o;obtain⟨a0,a1,a2,a3,a4⟩:=cells5 z.o;have z0:=ab z.o 0;have z1:=ab z.o 1;have z2:=ab z.o 2;have z3:=ab z.o 3;have z4:=ab z.o 4;go_wp2_with fail
  refine bs Tryz.results147 rfl (aU z.o _ _ _ _ _) rfl ?_;rw[V.o];exact aV.stored (r:=(.mk 12 ⟨#[]⟩ 0 at_ [],ah ts σ)) (B:=w1.heap.size) A HL.o ar.o (jc _ _) (eK (by omega) (by show (0:Nat)≤16384;omega) aq.o.1 aq.o.2) (EA _) J _ _ _ _ _
 ·have j:=b6.o;rw[n8 hm]at j;have q:aK ts σ [j3]=σ:=by unfold aK;rw[n8 hm]
  rw[q]at ar;have t:isM ts σ [j3]=false:=by simpa using hm
  rw[t];have V:=Hd j;clear j q hm t;have D:=Hd (ar.o.alloc (.cells #[.string be] 9));have S:=Hd ((Fp w2 (.cells #[.string be] 9) w1.heap.size cV).trans bl.o);have T:=Hd ((Fp w2 (.cells #[.string be] 9) w.heap.size (by omega)).trans z.o);have U:=Hd (dj D.o.2 w2.heap.size 0 1 1 [be] (bP [be]) rfl (by omega));go_wp2_with fail
  refine EJ U.o ?_;rintro e g ⟨rfl,ht⟩;have u:=Hd (D.o.trans ht);have E:=Hd (ht.box T.o A (EA _));have av:=Hd (ht.box S.o A (Fa J));have eg:w1.heap.size<g.heap.size:=(Ez.1 av.o).1;clear ht D S T U
  by_cases hm:isM ts σ [be]=true
  ·have j:=V.o;rw[n9 hm]at j;have q:aK ts σ [be]=ah ts σ:=by unfold aK;rw[n9 hm]
   rw[q]at u;have t:isM ts σ [be]=true:=by simpa using hm
   rw[t];have a6:=Hd j;clear j q hm t;have HO:=Hd (xk u.o.2 (fD u.o.2.k) 4 14);have cW:=cE C.o (ah ts σ).1;have b8:R=(.mk 14 (be++(cH ts (ah ts σ).1).2.1) 0 at_ [],(eb ts.length (ah ts σ).1 ((ah ts σ).2||(cH ts (ah ts σ).1).1 != 4),((ah ts σ).2||(cH ts (ah ts σ).1).1 != 4))):=a6.o;generalize eb ts.length (ah ts σ).1 ((ah ts σ).2||(cH ts (ah ts σ).1).1 != 4)=kn at *;generalize ((ah ts σ).2||(cH ts (ah ts σ).1).1 != 4)=bn at *;obtain⟨_,b9,c1⟩:=cW;generalize (cH ts (ah ts σ).1).2.1=m at *;generalize (cH ts (ah ts σ).1).2.2=at2 at *;have bq:=Hd b9;have c3:=Hd b8;clear a6 b9 c1 b8;go_wp2_with fail
   refine EJ HO.o ?_;rintro e w4 ⟨rfl,f⟩;have br:=Hd (u.o.trans f);have ca:=f.box E.o A (EA _);have bt:=f.box av.o A (Fa J);have ek:w1.heap.size<w4.heap.size:=(Ez.1 bt).1;obtain⟨y,a7⟩:=zzx (w4.alloc (.cells #[int .u8 14,.string m,int i64 0,int i64 at2,slice none 0 0] 76));have a8:Ft w4 y:=by rw[a7];exact (EB _ w4).alloc (EA _) _
   have M:=Hd (br.o.of_below a8);have c5:=Hd (aa a8 ca (by omega));have cc:=Hd (aa a8 bt (by omega));have ba:Hid (y.heap[w4.heap.size]?=some (.cells #[int .u8 14,.string m,int i64 0,int i64 at2,slice none 0 0] 76 (0,0))):=by show _=_;rw[a7];exact n7 w4 _
   have el:w4.heap.size<y.heap.size:=(Ez.1 ba.o).1;clear f ca bt a8;go_upto_region 6 with fail
   change Code.wp _ _ _ _ (w4.alloc (.cells #[int .u8 14,.string m,int i64 0,int i64 at2,slice none 0 0] 76));rw[←a7];clear a7;obtain⟨m0,m1,m2,_,_,_⟩:=cells3 cc.o;obtain⟨e0,e1,e2,e3,e4⟩:=cells5 ba.o;have ch:=ab ba.o 1;have c6:w1.heap.size≠w4.heap.size:=by omega
   obtain⟨Q,N⟩:=zzx (y.drew.setCell ⟨w4.heap.size,1,none⟩ (.string (be++m)));have ck:Q.cell? ⟨w1.heap.size,2,none⟩=some (int i64 at_):=by
    rw[N];exact Fq _ _ _ _ _ _ ((ED _ _ _ _ c6).trans cc.o)
   have M2:=fun x:RE.Two y.drew Q=>RE.Two.cell (show y.drew.cell? _=_ from m2) ck x
   have E1:=fun x:RE.Two y.drew y.drew=>RE.Two.cell (show y.drew.cell? _=_ from e1) (show y.drew.cell? _=_ from e1) x
   have cl:Q.heap[w4.heap.size]?=some (.cells #[int .u8 14,.string (be++m),int i64 0,int i64 at2,slice none 0 0] 76 (0,0)):=by
    rw[N];exact heap_set (show y.drew.heap[w4.heap.size]?=_ from ba.o) 1 _
   have cq:Q.heap[w.heap.size]?=some (.cells bM 76 (0,0)):=by
    rw[N];exact (ED _ _ _ _ (show w.heap.size≠w4.heap.size by omega)).trans c5.o
   have cr:au w P L cap ts kn bn Q:=by
    rw[N];exact au.setCell ⟨World.grownBy.trans M.o.1 (grown_drewN (World.grownBy.refl y _) 1),M.o.2.drew⟩ A HL.o (by omega) 1 _
   have ct:=Hd cl;have F:=Hd cq;have c7:=Hd cr;have H6:=Hd N;have G:y.drew.cell? ⟨w4.heap.size,1,none⟩=some (.string m):=e1;have c8:y.drew.frozen? ⟨w4.heap.size,1,none⟩=false:=ch;have cv:∀W:World,(Op.stringOp .add ⟨#[45]⟩ m).run Tryz.prog W=.ok (.string (be++m)) W:=fun W=>run_string_add W _ _ (by show ((1:Nat):Int)≤8388608;omega) (by have:=bq.o;omega)
   have c9:(m.size:Int)≤8388608:=by have:=bq.o;omega
   have da:((⟨#[45]⟩:ByteArray).size:Int)≤8388608:=by show ((1:Nat):Int)≤8388608;omega
   clear m0 m1 m2 e0 e1 e2 e3 e4 ch ck cl cq cr N;refine RE.wp_region_eff (by kernel_rfl) 7 [6] [6] (fun s W=>if s=0 then W=y.drew else W=Q) (fun _ _=>True) (fun _ _=>undef) (fun _ _ _=>True) (by kernel_rfl) (fun i h1 h2=>by rw[h1]at h2;cases h2) (fun _ _ _ _ _ _ _=>trivial) rfl ?_;simp only[EK,ET,EL,ES,Fb,List.length_nil,Nat.reduceAdd]
   repeat (first
    | (refine RE.wpE_read (fun W=>∃x:RE.Two y.drew Q,W=x.1) RE.two_class rfl rfl rfl rfl ?_;go_big_quiet_step (fail);refine wpQuiet_nil ?_)
    | (refine RE.wpE_read (fun W=>∃x:RE.Two y.drew y.drew,W=x.1) (RE.one_class (by kernel_rfl)) rfl rfl rfl rfl ?_;go_big_quiet_step (fail);refine wpQuiet_nil ?_))
   refine RE.wpE_turn rfl rfl ?_ (fun xs=>?_)
   ·intro W hC O _;obtain rfl:W=y.drew:=O rfl;refine RE.Upon.told (v:=undef) (w':=y.drew.setCell ⟨w4.heap.size,1,none⟩ (.string (be++m))) ?_ ⟨[],rfl,H6.o.symm,trivial,trivial⟩;unfold RE.Upon
    go_simp
    try exact⟨rfl,rfl⟩
   simp only[Act.put];refine RE.wpE_nil ?_;intro W O _;obtain rfl:Q=W:=(show W=Q from O).symm;clear M2 E1 G c8 H6 cv c9 da;obtain⟨e0,e1,e2,e3,e4⟩:=cells5 ct.o;have en:=ab ct.o 3;obtain⟨a0,a1,a2,a3,a4⟩:=cells5 F.o;have z0:=ab F.o 0;have z1:=ab F.o 1;have z2:=ab F.o 2;have z3:=ab F.o 3;have z4:=ab F.o 4;have dc:=Hd ((ED Q ⟨w4.heap.size,3,none⟩ (int i64 at_) _ (show w.heap.size≠w4.heap.size by omega)).trans F.o);have dd:=Hd (c7.o.setCell A HL.o (b:=w4.heap.size) (by omega) 3 (int i64 at_));have bB:Hid ((be++m).size≤16385):=by
    show _≤_
    rw[ByteArray.size_append,show be.size=1 from rfl];have:=bq.o;omega
   generalize be++m=tl at *;go_wp2_with fail
   refine bs Tryz.results147 rfl (aU dc.o _ _ _ _ _) rfl ?_;rw[c3.o];exact aV.stored (r:=(.mk 14 tl 0 at_ [],(kn,bn))) (B:=w1.heap.size) A HL.o dd.o (jc _ _) (zZ (by omega) bB.o aq.o.1 aq.o.2) (EA _) J _ _ _ _ _
  ·have j:=V.o;rw[n8 hm]at j;have q:aK ts σ [be]=σ:=by unfold aK;rw[n8 hm]
   rw[q]at u;have t:isM ts σ [be]=false:=by simpa using hm
   rw[t];have a6:=Hd j;clear j q hm t;have j:=a6.o;have bR:=av;clear av
   by_cases b0:kd=5
   ·subst b0;rw[n9 rfl]at j;subst j;have f:=u.o;have X:=Hd (je C.o (w:=g.drew) f.2.drew 5 15 (by omega));obtain⟨c0,_,_,_,_,_⟩:=cells3 bR.o;have Y:w1.heap.size≠P:=by omega
    have C0:=fun x:RE.Gr g P=>x.cell c0 Y
    have b1:P<g.heap.size:=f.2.lt.1;have G:∀(n s:Nat) (W:World),s≤n→(if s=0 then W=g.drew else au g P L cap ts (ofM ts σ 5 15).2.1 (ofM ts σ 5 15).2.2 W)→∃x:RE.Gr g P,W=x.1:=fun n s W _ h=>by
     split at h
     ·exact⟨⟨W,by rw[h];exact grown_drewN (World.grownBy.refl g _) 1⟩,rfl⟩
     ·exact⟨⟨W,h.1⟩,rfl⟩
    have b2:=Hd G;have Z:=Hd (j4 C.o σ 5 15 (by omega));have ad:(ofM ts σ 5 15).1.kids=[]:=rfl;have dg:=Hd ad;generalize ofM ts σ 5 15=r at *;clear G f ad;go_wp2_with fail
    clear c0;refine RE.wp_region_eff (by kernel_rfl) 6 [5] [5] (fun s W=>if s=0 then W=g.drew else au g P L cap ts r.2.1 r.2.2 W) (fun W W'=>W.grownBy W' (some P))
     (fun i xs=>.agg #[int .u8 r.1.kind,.string r.1.text,int i64 r.1.num,int i64 r.1.place,xs.getD 0 undef])
     (fun i W xs=>fh g.heap.size r.1 W xs) (by kernel_rfl) (fun i h1 h2=>by rw[h1]at h2;cases h2) (fun k W W' xs h _ hg=>h.grown b1 hg) rfl ?_
    simp only[EK,ET,EL,ES,Fb,List.length_nil,Nat.reduceAdd]
    repeat (refine RE.wpE_read (fun W=>∃x:RE.Gr g P,W=x.1) (b2.o _) rfl rfl rfl rfl ?_;go_big_quiet_step (fail);refine wpQuiet_nil ?_)
    refine RE.wpE_turn rfl rfl ?_ (fun af=>?_)
    ·intro W _ O _;obtain rfl:W=g.drew:=O rfl;refine RE.upon_call 102 _ _ rfl (enters_of Tryz.func102 (by kernel_rfl) rfl) #[.pointer (some ⟨P,0,none⟩),int .u8 5,int .u8 15] (by simp[Act.eval]) (X.o.mono ?_);rintro e W' ⟨d,s,rfl,hT,H,hf⟩;exact⟨_,rfl,[s],rfl,hT.of_drew,hT.1,⟨d,s,rfl,H,hf⟩⟩
    simp only[Act.put,EC,EI,EH];refine RE.wpE_nil ?_;intro W4 O hE;have I:au g P L cap ts r.2.1 r.2.2 W4:=O;obtain⟨d,s,rfl,H,hf⟩:=(show fh g.heap.size r.1 W4 af from hE 5 af rfl);obtain⟨p,c,rfl⟩:=H.shape;have HO:=Hd H;have M:=Hd (u.o.trans I);have l:=I.box E.o A (EA _);have ak:=Hd l;obtain⟨a0,a1,a2,a3,a4⟩:=cells5 l;have z0:=ab l 0;have z1:=ab l 1;have z2:=ab l 2;have z3:=ab l 3;have z4:=ab l 4;have an:w.heap.size<g.heap.size:=(Ez.1 E.o).1;clear C0 hE O H I l hf;go_wp2_with fail
    refine bs Tryz.results147 rfl (aU ak.o _ _ _ _ _) rfl ?_;exact aV.stored A HL.o M.o HO.o Z.o (EA _) an _ _ _ _ _
   rw[n8 b0]at j;have dv:((kd:Int)==5)=false:=by simp;omega
   by_cases b3:kd=3
   ·subst b3;rw[n9 rfl]at j;subst j;have f:=u.o;have X:=Hd (je C.o (w:=g.drew) f.2.drew 3 13 (by omega));obtain⟨c0,_,_,_,_,_⟩:=cells3 bR.o;have Y:w1.heap.size≠P:=by omega
    have C0:=fun x:RE.Gr g P=>x.cell c0 Y
    have b1:P<g.heap.size:=f.2.lt.1;have G:∀(n s:Nat) (W:World),s≤n→(if s=0 then W=g.drew else au g P L cap ts (ofM ts σ 3 13).2.1 (ofM ts σ 3 13).2.2 W)→∃x:RE.Gr g P,W=x.1:=fun n s W _ h=>by
     split at h
     ·exact⟨⟨W,by rw[h];exact grown_drewN (World.grownBy.refl g _) 1⟩,rfl⟩
     ·exact⟨⟨W,h.1⟩,rfl⟩
    have b2:=Hd G;have Z:=Hd (j4 C.o σ 3 13 (by omega));have ad:(ofM ts σ 3 13).1.kids=[]:=rfl;have dg:=Hd ad;generalize ofM ts σ 3 13=r at *;clear G f ad;go_wp2_with fail
    clear c0;refine RE.wp_region_eff (by kernel_rfl) 6 [5] [5] (fun s W=>if s=0 then W=g.drew else au g P L cap ts r.2.1 r.2.2 W) (fun W W'=>W.grownBy W' (some P))
     (fun i xs=>.agg #[int .u8 r.1.kind,.string r.1.text,int i64 r.1.num,int i64 r.1.place,xs.getD 0 undef])
     (fun i W xs=>fh g.heap.size r.1 W xs) (by kernel_rfl) (fun i h1 h2=>by rw[h1]at h2;cases h2) (fun k W W' xs h _ hg=>h.grown b1 hg) rfl ?_
    simp only[EK,ET,EL,ES,Fb,List.length_nil,Nat.reduceAdd]
    repeat (refine RE.wpE_read (fun W=>∃x:RE.Gr g P,W=x.1) (b2.o _) rfl rfl rfl rfl ?_;go_big_quiet_step (fail);refine wpQuiet_nil ?_)
    refine RE.wpE_turn rfl rfl ?_ (fun af=>?_)
    ·intro W _ O _;obtain rfl:W=g.drew:=O rfl;refine RE.upon_call 102 _ _ rfl (enters_of Tryz.func102 (by kernel_rfl) rfl) #[.pointer (some ⟨P,0,none⟩),int .u8 3,int .u8 13] (by simp[Act.eval]) (X.o.mono ?_);rintro e W' ⟨d,s,rfl,hT,H,hf⟩;exact⟨_,rfl,[s],rfl,hT.of_drew,hT.1,⟨d,s,rfl,H,hf⟩⟩
    simp only[Act.put,EC,EI,EH];refine RE.wpE_nil ?_;intro W4 O hE;have I:au g P L cap ts r.2.1 r.2.2 W4:=O;obtain⟨d,s,rfl,H,hf⟩:=(show fh g.heap.size r.1 W4 af from hE 5 af rfl);obtain⟨p,c,rfl⟩:=H.shape;have HO:=Hd H;have M:=Hd (u.o.trans I);have l:=I.box E.o A (EA _);have ak:=Hd l;obtain⟨a0,a1,a2,a3,a4⟩:=cells5 l;have z0:=ab l 0;have z1:=ab l 1;have z2:=ab l 2;have z3:=ab l 3;have z4:=ab l 4;have an:w.heap.size<g.heap.size:=(Ez.1 E.o).1;clear C0 hE O H I l hf;go_wp2_with fail
    refine bs Tryz.results147 rfl (aU ak.o _ _ _ _ _) rfl ?_;exact aV.stored A HL.o M.o HO.o Z.o (EA _) an _ _ _ _ _
   rw[n8 b3]at j;have ec:((kd:Int)==3)=false:=by simp;omega
   subst j;have X:=Hd (je C.o u.o.2 4 14 (by omega));obtain⟨c0,_,_,_,_,_⟩:=cells3 bR.o;generalize ofM ts σ 4 14=r at *;clear b0 b3;go_wp2_with fail
   refine EJ X.o ?_;rintro e w4 ⟨d,s,rfl,f,H,hf⟩;obtain⟨p,c,rfl⟩:=H.shape;have br:=Hd (u.o.trans f);have l:=f.box E.o A (EA _);have ak:=Hd l;obtain⟨a0,a1,a2,a3,a4⟩:=cells5 l;have z0:=ab l 0;have z1:=ab l 1;have z2:=ab l 2;have z3:=ab l 3;have z4:=ab l 4;have HO:=Hd H;have HF:=Hd hf;have an:w.heap.size<g.heap.size:=(Ez.1 E.o).1;clear f l H hf c0;go_wp2_with fail
   refine bs Tryz.results147 rfl (aU ak.o _ _ _ _ _) rfl ?_;exact aV.stored A HL.o br.o HO.o HF.o (EA _) an _ _ _ _ _
def ij:ByteArray:=⟨#[102,97,99,116]⟩
def ny:ByteArray:=⟨#[114,117,108,101]⟩
def dT(ts:List Tok) (a:Int→PS→ac×PS) (σ:PS):ac×PS:=
 if isM ts σ [ij]=true then (.mk 2 (ofM ts (ah ts σ) 2 2).1.text 0 (atM ts σ) (cb ts (fun σ=>ofM ts σ 2 3) (ofM ts (ah ts σ) 2 2).2).1,aO ts (cb ts (fun σ=>ofM ts σ 2 3) (ofM ts (ah ts σ) 2 2).2).2 bY)
 else a (atM ts σ) (aO ts σ ny)
theorem tm{ts:List Tok}{b:Int→PS→ac×PS}(h:∀a σ,σ.1≤(b a σ).2.1)(σ:PS):σ.1≤(dT ts b σ).2.1:=by
 unfold dT;have c:=(eq ts σ).1
 split
 ·exact EG c (EG (dM ts _ 2 2) (EG (gq (fun σ=>dM ts σ 2 3) _) (bH ts _ _)))
 ·exact EG (bH ts σ ny) (h _ _)
def zJ(ts:List Tok) (b:Int→PS→ac×PS):Prop:=∀(a:Int) (σ:PS) (w:World) (P L cap:Nat),0≤a→a≤16384→PAt w P L cap ts σ.1 σ.2→
 Calls Tryz.prog 76 #[.pointer (some ⟨P,0,none⟩),.agg #[int .u8 0,string ⟨#[]⟩,int i64 0,int i64 a,slice none 0 0]] w (aV w P L cap ts (b a σ))
theorem zK{ts:List Tok}(F:co ts){ru:Int→PS→ac×PS}(ak:zJ ts ru):iG ts 48 (dT ts ru):=by
 intro σ w P L cap h;have O:Ft w (w.alloc (.cells bM 76)):=(EB _ w).alloc (EA _) _;have HC:=Hd (fo (h.below O));have H0:=Hd (h.turns O);have j:=h.lt.1;have HL:=Hd h.lt.2;have HX:=Hd (n7 w (.cells bM 76));have Q:=Hd F;have S:=Hd (fun σ w P L cap h=>my F (enters_of Tryz.func74 (by kernel_rfl) rfl) (ye F) (fun σ=>dM ts σ 2 3) σ w P L cap h);have bc:=Hd ak;obtain⟨R,T⟩:=zzy (dT ts ru σ);rw[T];have y:=T;unfold dT at y;obtain⟨at_,U⟩:=zzy (atM ts σ);rw[U]at HC y;have an:=Hd y;have H:Hid (0≤at_∧at_≤16384):=by
  show _∧_
  obtain⟨_,_,g3⟩:=cE Q.o σ.1;rw[←U];unfold atM;omega
 clear h O F ak T y U;generalize kdM ts σ=kd at HC;generalize txM ts σ=tx at HC
 go_enter Tryz.func48,Tryz.ntmps48
 go_wp2_with fail
 refine EJ HC.o ?_;rintro e w1 ⟨rfl,V⟩;have bd:=jv kd tx at_ w1;have bk:=Hd (H0.o.of_below V);have aq:=Hd (aa V HX.o (by simp));have n:w.heap.size<w1.heap.size:=(Ez.1 aq.o).1;clear V;obtain⟨I,q⟩:=zzx (w1.alloc (.cells #[int .u8 0,string ⟨#[]⟩,int i64 0,int i64 at_,slice none 0 0] 76));have bl:w1.heap.size<I.heap.size:=by rw[q];simp
 have bn:Hid (au w P L cap ts σ.1 σ.2 I):=by rw[q];exact bk.o.alloc _
 have bq:Hid (I.heap[w1.heap.size]?=some (.cells #[int .u8 0,string ⟨#[]⟩,int i64 0,int i64 at_,slice none 0 0] 76 (0,0))):=by rw[q];exact n7 w1 _
 have br:Hid (I.heap[w.heap.size]?=some (.cells bM 76 (0,0))):=by rw[q];exact (Fp w1 _ _ n).trans aq.o
 go_upto_region 2 with fail
 change Code.wp _ _ _ _ (w1.alloc (.cells #[int .u8 0,string ⟨#[]⟩,int i64 0,int i64 at_,slice none 0 0] 76));rw[←q];clear bd q;have W:=Hd (bn.o.alloc (.cells #[.string ij] 9));have ar:=Hd ((Fp I (.cells #[.string ij] 9) w1.heap.size bl).trans bq.o);have av:=Hd ((Fp I (.cells #[.string ij] 9) w.heap.size (by omega)).trans br.o);have a6:=Hd (dj W.o.2 I.heap.size 0 1 1 [ij] (bP [ij]) rfl (by omega));go_wp2_with fail
 refine EJ a6.o ?_;rintro e w2 ⟨rfl,ht⟩;have t:=Hd (W.o.trans ht);have a7:=Hd (ht.box av.o j (EA _));have X:=Hd (ht.box ar.o j (Fa n));have cl:w1.heap.size<w2.heap.size:=(Ez.1 X.o).1;clear ht W ar av a6
 by_cases hm:isM ts σ [ij]=true
 ·have y:=an.o;rw[n9 hm]at y;have z:aK ts σ [ij]=ah ts σ:=by unfold aK;rw[n9 hm]
  rw[z]at t;have A:isM ts σ [ij]=true:=by simpa using hm
  rw[A];have Y:=Hd y;clear y z hm A;have bt:=Hd (iq Q.o t.o.2 2 (by omega));have N:(ofM ts (ah ts σ) 2 2).1.text.size≤16384:=(cE Q.o _).2.1;generalize ofM ts (ah ts σ) 2 2=nm at *;have a8:=Hd N;clear N;go_wp2_with fail
  refine EJ bt.o ?_;rintro e w4 ⟨d,s,rfl,f,ho,hf⟩;have J:=Hd (t.o.trans f);have Z:=Hd (f.box a7.o j (EA _));have i:=Hd (f.box X.o j (Fa n));have bB:w1.heap.size<w4.heap.size:=(Ez.1 i.o).1;have bR:w2.heap.size≤w4.heap.size:=f.1.size;obtain⟨p,c,rfl⟩:=ho.shape;have b0:=gw nm.1.kind nm.1.text nm.1.num nm.1.place nm.1.kids.length p c w4;clear f ho hf;obtain⟨u,v⟩:=zzx (((w4.setCell ⟨w1.heap.size,0,none⟩ (int .u8 2)).setCell ⟨w1.heap.size,1,none⟩ (.string nm.1.text)));have cq:u.heap.size=w4.heap.size:=by rw[v];simp[World.setCell]
  have cr:w1.heap.size<u.heap.size:=by omega
  have K:Hid (au w P L cap ts nm.2.1 nm.2.2 u):=by rw[v];exact ((J.o.setCell j HL.o (by omega) 0 _).setCell j HL.o (by omega) 1 _)
  have g:Hid (u.heap[w.heap.size]?=some (.cells bM 76 (0,0))):=by rw[v];exact ((ED _ _ _ _ (show w.heap.size≠w1.heap.size by omega)).trans ((ED _ _ _ _ (show w.heap.size≠w1.heap.size by omega)).trans Z.o))
  have b1:Hid (u.heap[w1.heap.size]?=some (.cells #[int .u8 2,.string nm.1.text,int i64 0,int i64 at_,slice none 0 0] 76 (0,0))):=by rw[v];exact (heap_set (heap_set i.o 0 _) 1 _)
  have f0:=ab i.o 0;have f1:=ab i.o 1;obtain⟨n0,n1,n2,n3,n4⟩:=cells5 i.o;have H5:=Hd v;clear v;go_upto_region 4 with fail
  change Code.wp _ _ _ _ ((w4.setCell ⟨w1.heap.size,0,none⟩ (int .u8 2)).setCell ⟨w1.heap.size,1,none⟩ (.string nm.1.text));rw[←H5.o];clear n0 n1 n2 n3 n4 f0 f1;clear b0;have b2:=Hd (S.o nm.2 u P L cap K.o.2);generalize cb ts (fun σ=>ofM ts σ 2 3) nm.2=l at *;go_wp2_with fail
  refine EJ b2.o ?_;rintro e w6 ⟨d2,s2,rfl,C,ad⟩;have b3:=Hd (K.o.trans C);have b4:=Hd (C.box g.o j (EA _));have M:=Hd (C.box b1.o j (Fa n));have ct:w1.heap.size<w6.heap.size:=(Ez.1 M.o).1;have cv:u.heap.size≤w6.heap.size:=C.1.size;obtain⟨p2,c2,rfl⟩:=ad.shape;have b5:=Hd ad;clear C ad;obtain⟨E,x⟩:=zzx ((w6.setCell ⟨w1.heap.size,4,none⟩ (.slice p2 l.1.length c2)));have b6:E.heap.size=w6.heap.size:=by rw[x];simp[World.setCell]
  have cx:w1.heap.size<E.heap.size:=by omega
  have ba:Hid (au w P L cap ts l.2.1 l.2.2 E):=by rw[x];exact (b3.o.setCell j HL.o (by omega) 4 _)
  have b7:Hid (E.heap[w.heap.size]?=some (.cells bM 76 (0,0))):=by rw[x];exact ((ED _ _ _ _ (show w.heap.size≠w1.heap.size by omega)).trans b4.o)
  have b8:Hid (E.heap[w1.heap.size]?=some (.cells #[int .u8 2,.string nm.1.text,int i64 0,int i64 at_,.slice p2 l.1.length c2] 76 (0,0))):=by rw[x];exact (heap_set M.o 4 _)
  have f4:=ab M.o 4;obtain⟨n0,n1,n2,n3,n4⟩:=cells5 M.o;have H7:=Hd x;clear x;go_upto_region 5 with fail
  change Code.wp _ _ _ _ (w6.setCell ⟨w1.heap.size,4,none⟩ (.slice p2 l.1.length c2));rw[←H7.o];clear n0 n1 n2 n3 n4 f4;have b9:Hid (OwnAt E d2 l.1 (.slice p2 l.1.length c2) (bL u.heap.size E.heap.size)):=by rw[b6,H7.o];exact b5.o.keep fun b o hb hx=>(ED _ _ _ _ (show b≠w1.heap.size by have:=hb.1;omega)).trans hx
  have HW:=Hd (cF ba.o.2 bY);go_wp2_with fail
  refine EJ HW.o ?_;rintro e w8 ⟨rfl,k⟩;have ca:=Hd (ba.o.trans k);have m:=Hd (k.box b7.o j (EA _));have bb:=Hd (k.box b8.o j (Fa n));have cA:w1.heap.size<w8.heap.size:=(Ez.1 bb.o).1;have cC:E.heap.size≤w8.heap.size:=k.1.size;have cc:=Hd ((b9.o.keep fun b o hb hx=>bE k.1 hx (by have:=hb.1;omega)).sub (G:=bL u.heap.size w8.heap.size) fun b hb=>⟨hb.1,EF hb.2 k.1.size⟩);obtain⟨n0,n1,n2,n3,n4⟩:=cells5 bb.o;obtain⟨a0,a1,a2,a3,a4⟩:=cells5 m.o;have z0:=ab m.o 0;have z1:=ab m.o 1;have z2:=ab m.o 2;have z3:=ab m.o 3;have z4:=ab m.o 4;clear k;go_wp2_with fail
  refine bs Tryz.results48 rfl (aU m.o _ _ _ _ _) rfl ?_;rw[←Y.o];exact aV.stored (r:=(.mk 2 nm.1.text 0 at_ l.1,aO ts l.2 bY)) (B:=u.heap.size) j HL.o ca.o cc.o (eK (by omega) a8.o H.o.1 H.o.2) (EA _) (by omega) _ _ _ _ _
 ·have y:=an.o;rw[n8 hm]at y;have z:aK ts σ [ij]=σ:=by unfold aK;rw[n8 hm]
  rw[z]at t;have A:isM ts σ [ij]=false:=by simpa using hm
  rw[A];have Y:=Hd y;clear y z hm A;have ch:=Hd (cF t.o.2 ny);generalize aO ts σ ny=ck at *;go_wp2_with fail
  refine EJ ch.o ?_;rintro e w4 ⟨rfl,f⟩;have J:=Hd (t.o.trans f);have Z:=Hd (f.box a7.o j (EA _));have i:=Hd (f.box X.o j (Fa n));have bB:w1.heap.size<w4.heap.size:=(Ez.1 i.o).1;have bR:w2.heap.size≤w4.heap.size:=f.1.size;clear f;have D:=Hd (bc.o at_ ck w4 P L cap H.o.1 H.o.2 J.o.2);rw[Y.o]at D;obtain⟨n0,n1,n2,n3,n4⟩:=cells5 i.o;go_wp2_with fail
  refine EJ D.o ?_;rintro e u ⟨d,s,rfl,af,ho,hf⟩;obtain⟨p,c,rfl⟩:=ho.shape;have K:=Hd (J.o.trans af);have g:=Hd (af.box Z.o j (EA _));obtain⟨a0,a1,a2,a3,a4⟩:=cells5 g.o;have z0:=ab g.o 0;have z1:=ab g.o 1;have z2:=ab g.o 2;have z3:=ab g.o 3;have z4:=ab g.o 4;have HO:=Hd ho;have HF:=Hd hf;clear af ho hf n0 n1 n2 n3 n4;go_wp2_with fail
  refine bs Tryz.results48 rfl (aU g.o _ _ _ _ _) rfl ?_;exact aV.stored j HL.o K.o HO.o HF.o (EA _) (by omega) _ _ _ _ _
section
variable {ts:List Tok} {σ:PS}
theorem li(h:σ.2=true)(texts:List ByteArray):isM ts σ texts=false:=by unfold isM;rw[h];rfl
theorem dP(h:σ.2=true)(x:ByteArray):(aO ts σ x).2=true:=by
 show pM σ.2 _ _=true
 unfold pM;rw[h];rfl
theorem nF(h:σ.2=true)(tok kind:Nat):(ofM ts σ tok kind).2.2=true:=by
 show (σ.2||_)=true
 rw[h];rfl
end
theorem oD{ts:List Tok}{σ:PS}(h:σ.2=true):(dS ts σ).2.2=true:=by
 unfold dS;rw[n8 (by rw[li h];decide),n8 (by rw[li h];decide)]
 split
 ·exact nF h _ _
 ·split
  ·exact nF h _ _
  ·exact nF h _ _
theorem vN{ts:List Tok}{one:PS→ac×PS}{σ:PS}(h:σ.2=true):∀(g:Nat) (a:List ac),em ts one g a σ=(a,σ):=by
 intro g a
 cases g with
 | zero=>rfl
 | succ g=>unfold em;rw[n8 (by rw[li h];decide)]
theorem Bl{ts:List Tok}{one:PS→ac×PS}(a:∀σ:PS,σ.2=true→(one σ).2.2=true){σ:PS}(h:σ.2=true):(ip ts one σ).2.2=true:=by
 unfold ip;rw[vN (a σ h)];exact a σ h
theorem Aw{ts:List Tok}{one:PS→ac×PS}(a:∀σ:PS,σ.2=true→(one σ).2.2=true){σ:PS}(h:σ.2=true):(cb ts one σ).2.2=true:=by
 unfold cb;rw[n8 (by rw[li (dP h _)];decide)];exact dP (Bl a (dP h _)) _
theorem DT{ts:List Tok}(c:co ts){σ:PS}(d:σ.1<ts.length){tok:Nat}(h:tok≠7)(kind:Nat):(ofM ts σ tok kind).2.2=true∨σ.1<(ofM ts σ tok kind).2.1:=by
 cases e:(ofM ts σ tok kind).2.2 with
 | true=>exact Or.inl rfl
 | false =>
  right
  have b:(σ.2||(cH ts σ.1).1 != tok)=false:=e
  show σ.1<eb ts.length σ.1 (σ.2||(cH ts σ.1).1 != tok)
  rw[b];have f:(cH ts σ.1).1=tok:=by
   cases g:σ.2<;>simp[g]at b
   exact b
  have a:σ.1+1<ts.length:=by
   by_cases a:σ.1+1<ts.length
   ·exact a
   ·exfalso
    have:=c.last σ.1 _ (fD d) a;omega
  rw[pi a];omega
theorem pj{ts:List Tok}(a:co ts){b:PS→ac×PS}(c:∀σ,σ.1≤(b σ).2.1)(d:∀σ:PS,σ.2=true→(b σ).2.2=true){σ:PS}(f:σ.1<ts.length):(dk ts b σ).2.2=true∨σ.1<(dk ts b σ).2.1:=by
 unfold dk
 by_cases g:isM ts σ [ig]=true
 ·rw[n9 g];obtain⟨i,_,_⟩:=eI a f g
  right
  have e:=fk ts (ah ts σ);have j:=bH ts (ed ts (ah ts σ)).2 bY;dsimp only;omega
 ·rw[n8 g]
  by_cases e:isM ts σ [eE]=true
  ·rw[n9 e];obtain⟨i,_,_⟩:=eI a f e
   right
   have j:=dM ts (ah ts σ) 2 6;have k:=gq (ts:=ts) c (ofM ts (ah ts σ) 2 6).2;have l:=bH ts (cb ts b (ofM ts (ah ts σ) 2 6).2).2 bY;dsimp only;omega
  ·rw[n8 e];rcases DT a f (show 2≠7 by omega) 5 with h|h
   ·left
    exact dP (Aw d h) _
   ·right
    have k:=gq (ts:=ts) c (ofM ts σ 2 5).2;have l:=bH ts (cb ts b (ofM ts σ 2 5).2).2 bY;dsimp only;omega
theorem qA{ts:List Tok}(a:co ts){σ:PS}(d:σ.1<ts.length):(ew ts σ).2.2=true∨σ.1<(ew ts σ).2.1:=by
 unfold ew
 by_cases f:isM ts σ [eU]=true
 ·rw[n9 f];obtain⟨e,_,_⟩:=eI a d f
  right
  have b:=dM ts (ah ts σ) 2 8;have c:=gq (ts:=ts) (fk ts) (ofM ts (ah ts σ) 2 8).2;have g:=bH ts (cb ts (ed ts) (ofM ts (ah ts σ) 2 8).2).2 bY;dsimp only;omega
 ·rw[n8 f]
  by_cases h:isM ts σ [ey]=true
  ·rw[n9 h];obtain⟨e,_,_⟩:=eI a d h
   right
   have b:=ns ts (ah ts σ);have g:=bH ts (fq ts (ah ts σ)).2 bY;dsimp only;omega
  ·rw[n8 h]
   by_cases b:isM ts σ [jF]=true
   ·rw[n9 b];obtain⟨e,_,_⟩:=eI a d b
    right
    have c:=qz (ts:=ts) (fk ts) (ah ts σ);have g:=bH ts (ip ts (ed ts) (ah ts σ)).2 bY;dsimp only;omega
   ·rw[n8 b];dsimp only
    by_cases c:isM ts σ [jL]=true
    ·obtain⟨e,_,_⟩:=eI a d c
     right
     have g:=bH ts (aO ts σ jL) bY;have i:(aO ts σ jL).1=σ.1+1:=by
      rw[←e,←oT Prod.fst (show aK ts σ [jL]=ah ts σ by unfold aK;rw[n9 c])];exact (jk ts σ [jL]).1.symm
     omega
    ·left
     refine dP ?_ _
     show (!isM ts σ [jL])=true
     rw[Bool.eq_false_iff.2 c];rfl
def upTo(ts:List Tok) (one:PS→ac×PS) (stop:ByteArray):Nat→List ac→PS→List ac×PS
 | 0,a,σ=>(a,σ)
 | g+1,a,σ=>if σ.2=true then (a,σ) else if isM ts σ [stop]=true then (a,σ) else upTo ts one stop g (a++[(one σ).1]) (one σ).2
theorem wK{ts:List Tok}{one:PS→ac×PS}(b:∀σ,σ.1≤(one σ).2.1)(stop:ByteArray):∀(g:Nat) (a:List ac) (σ:PS),σ.1≤(upTo ts one stop g a σ).2.1:=by
 intro g
 induction g with
 | zero=>intro a σ;exact EA _
 | succ g c =>
  intro a σ;unfold upTo
  split
  ·exact EA _
  ·split
   ·exact EA _
   ·exact EG (b σ) (c _ _)
def ke:ByteArray:=⟨#[115,97,108,105,101,110,99,101]⟩
def tTo:ByteArray:=⟨#[61,62]⟩
def jN:ByteArray:=⟨#[123]⟩
def cP:ByteArray:=⟨#[125]⟩
def gk(ts:List Tok) (σ:PS):Int×PS:=
 if isM ts σ [ke]=true then
  if isM ts (ah ts σ) [be]=true then (-((fq ts (ah ts (ah ts σ))).1:Int),(fq ts (ah ts (ah ts σ))).2)
  else ((fq ts (ah ts σ)).1,(fq ts (ah ts σ)).2)
 else (0,σ)
theorem DG(ts:List Tok)(σ:PS):σ.1≤(gk ts σ).2.1:=by
 unfold gk;have a:=(eq ts σ).1
 split
 ·split
  ·exact EG a (EG (eq ts _).1 (ns ts _))
  ·exact EG a (ns ts _)
 ·exact EA _
def dx(ts:List Tok) (a:Int) (σ:PS):ac×PS:=
 let nm:=ofM ts σ 2 4
 let b:=gk ts nm.2
 let cs:=upTo ts (dk ts (dS ts)) tTo (ts.length+1) [] (aO ts b.2 jN)
 let c:=upTo ts (ew ts) cP (ts.length+1) cs.1 (aO ts cs.2 tTo)
 (.mk 4 nm.1.text b.1 a c.1,aO ts c.2 cP)
theorem oY(ts:List Tok)(a:Int)(σ:PS):σ.1≤(dx ts a σ).2.1:=by
 unfold dx;dsimp only;have c:=dM ts σ 2 4;have d:=DG ts (ofM ts σ 2 4).2;have e:=bH ts (gk ts (ofM ts σ 2 4).2).2 jN;have f:=wK (ts:=ts) (oI (ts:=ts) (iw ts)) tTo (ts.length+1) [] (aO ts (gk ts (ofM ts σ 2 4).2).2 jN);generalize upTo ts (dk ts (dS ts)) tTo (ts.length+1) [] (aO ts (gk ts (ofM ts σ 2 4).2).2 jN)=cs at *;have g:=bH ts cs.2 tTo;have h:=wK (ts:=ts) (qB ts) cP (ts.length+1) cs.1 (aO ts cs.2 tTo);generalize upTo ts (ew ts) cP (ts.length+1) cs.1 (aO ts cs.2 tTo)=b at *;have i:=bH ts b.2 cP;omega
def dpM:Nat→ac→Option Int
 | 0,T=>some T.place
 | n+1,T=>T.kids.findSome? (dpM n)
def Ei(x:Option Int) (w:World) (e:Ending) (w':World):Prop:=e=.returned (.tuple #[int i64 (x.getD 0),.bool x.isSome])∧Ft w w'
def Et(b:World) (n m:Nat) (c:List ac) (i:Value) (W:World):Prop:=∃(a:World) (k:Nat),a=W∧k≤m∧i=int i64 k∧Ft b a∧(c.take k).findSome? (dpM n)=none
theorem zi:∀(n:Nat) (a d:Nat) (T:ac) (u:Value) (B:Nat) (w:World),a+n=30→eO w B d T u→B≤w.heap.size→sQ d T.kids→Calls Tryz.prog 49 #[u,int i64 a] w (Ei (dpM n T) w):=by
 intro n
 induction n with
 | zero =>
  intro a d T u B w ha hu hB Z;obtain⟨_,s,rfl,C⟩:=hu;obtain⟨p,l,c,rfl⟩:=C.shape;obtain rfl:a=30:=by omega
  have L:=DR w T (.slice p l c);have HB:=Hd ((EB _ w).alloc (EA _) (.cells #[int .u8 T.kind,.string T.text,int i64 T.num,int i64 T.place,.slice p l c] 76));obtain⟨x0,x1,x2,x3,x4⟩:=cells5 (n7 w (.cells #[int .u8 T.kind,.string T.text,int i64 T.num,int i64 T.place,.slice p l c] 76));clear L
  go_enter Tryz.func49,Tryz.ntmps49
  go_wp2_with fail
  go_ret2
  exact⟨rfl,HB.o⟩
 | succ n ih =>
  intro a d T u B w ha hu hB Z;obtain⟨_,s,rfl,C⟩:=hu;have ad:T.kids.length≤20000:=by
   cases d with
   | zero=>rw[C.1];exact EM _
   | succ d=>exact Z.1
  have g:∀t∈T.kids,sQ (d-1) t.kids:=by
   cases d with
   | zero=>intro t hT;rw[C.1]at hT;cases hT
   | succ d=>intro t hT;exact (Z.2 t hT).kids
  obtain⟨p,c,rfl,_,D⟩:=C.rows;have z:Hid (dpM (n+1) T=T.kids.findSome? (dpM n)):=rfl;obtain⟨x,hx⟩:=zzy (dpM (n+1) T);rw[hx]at z ⊢;obtain⟨m,hm⟩:=zzy (T.kids.length);rw[hm]at ad;have M:=Hd hm;have E:=Hd D;have N:=Hd g;have af:=Hd ih;have a1:(a:Int)<30:=by omega
  have HA:Hid ((a+1)+n=30):=by show _=_;omega
  obtain⟨O,A⟩:=zzx (w.alloc (.cells #[int .u8 T.kind,.string T.text,int i64 T.num,int i64 T.place,.slice p T.kids.length c] 76));have HX:Hid (O.heap[w.heap.size]?=some (.cells #[int .u8 T.kind,.string T.text,int i64 T.num,int i64 T.place,.slice p T.kids.length c] 76 (0,0))):=by rw[A];exact n7 w _
  have P:Hid (Ft w O):=by rw[A];exact (EB _ w).alloc (EA _) _
  obtain⟨x0,x1,x2,x3,x4⟩:=cells5 (n7 w (.cells #[int .u8 T.kind,.string T.text,int i64 T.num,int i64 T.place,.slice p T.kids.length c] 76));clear C Z g D ih hm hx ha;obtain⟨h,H⟩:=zzy (T.kids);rw[H]at z M E N;have ak:=Hd H;clear H
  go_enter Tryz.func49,Tryz.ntmps49
  go_upto_region 3 with fail
  change Code.wp _ _ _ _ (w.alloc (.cells #[int .u8 T.kind,.string T.text,int i64 T.num,int i64 T.place,.slice p T.kids.length c] 76));rw[←A];clear x0 x1 x2 x3 x4 A;obtain⟨y0,y1,y2,y3,y4⟩:=cells5 HX.o;rw[show T.kids.length=m by rw[ak.o];exact M.o]at y4;go_wp2_with fail
  clear y0 y1 y2 y3 y4
  go_loopw [17] (Et O n m h) (fun i _=>m-(intOf i).toNat)
  case atStart=>exact⟨_,0,rfl,EM _,rfl,EB _ _,rfl⟩
  case round =>
   obtain⟨W1,k,rfl,C,rfl,hb,Q⟩:=hrel;have an:(0:Int)≤k:=by omega
   have f:=P.o.trans (hb.mono P.o.size);have I:=Hd f;have R:=Hd Q;have S:=Hd hb;clear Q hb
   by_cases J:k<m
   ·obtain⟨t,ht⟩:∃t,h[k]?=some t:=⟨h[k]'(by rw[M.o];exact J),EE (by rw[M.o];exact J)⟩;have F:t∈h:=EU ht;obtain⟨hd,b,off,rfl,aq,G⟩:=E.o k t ht;obtain⟨p',l',c',d0,d1,d2,d3,d4,j⟩:=G.node (f.mono hB) aq;have a6:(k:Int)<m:=by omega
    have r:=Hd (af.o (a+1) _ t _ B _ HA.o (j.alloc (EG hB f.size) (.cells #[int .u8 t.kind,.string t.text,int i64 t.num,int i64 t.place,.slice p' l' c'] 76)) (by have:=f.size;rw[World.size_alloc];omega) (N.o t F));rw[Int.natCast_succ]at r;have U:=Hd ((EB _ W1).alloc (EA _) (.cells #[int .u8 t.kind,.string t.text,int i64 t.num,int i64 t.place,.slice p' l' c'] 76))
    have v:=Hd (show (h.take (k+1)).findSome? (dpM n)=(dpM n t) by
     rw[Fg,ht,List.findSome?_append,R.o]
     simp)
    have K:Hid (h.findSome? (dpM n)=((h.take (k+1)).findSome? (dpM n)).or ((h.drop (k+1)).findSome? (dpM n))):=by
     show _=_
     conv=>lhs;rw[←List.take_append_drop (k+1) h]
     rw[List.findSome?_append]
    generalize hy:dpM n t=y at *;clear j G F ht hd f hy;go_wp2_with fail
    refine r.o.mono ?_;rintro e W2 ⟨rfl,V⟩;have W:=Hd (U.o.trans (V.mono U.o.size));clear V d0 d1 d2 d3 d4
    cases y with
    | none =>
     go_wp2_with fail
     exact⟨⟨_,k+1,rfl,by omega,by go_num,S.o.trans (W.o.mono S.o.size),v.o⟩,by simp[intOf];omega⟩
    | some q =>
     have X:x=some q:=by rw[z.o,K.o,v.o];rfl
     have ar:=Hd X;clear X;go_wp2_with fail
     go_ret2
     rw[ar.o];exact⟨rfl,I.o.trans (W.o.mono I.o.size)⟩
   ·obtain rfl:k=m:=by omega
    have Y:x=none:=by rw[z.o,←R.o,←M.o,List.take_length]
    have av:=Hd Y;clear C J an Y f;go_wp2_with fail
    go_ret2
    rw[av.o];exact⟨rfl,I.o⟩
theorem qS{w X q f:World}{P L cap k k3:Nat}{bad r:Bool}{ts:List Tok}{i m d g7 a:Nat}{c:List ac}{rows:List (List Value)}{Fs:Nat→Nat→Prop}{o O Q c2 R:Value}{t:ac}{S N d2:Nat}{s2:Value}
  (hP:P<w.heap.size) (hL:L<w.heap.size) (T:w.heap.size≤i) (v:i<m) (hX:m≤X.heap.size) (hT:au w P L cap ts k bad X)
  (U:X.heap[i]?=some (.cells #[O,Q,c2,R,o] 76 (0,0))) (G:X.ownsRow m 76 5 o c.length rows.flatten) (y:cn X m d c c.length o.ownBlock rows Fs)
  (n:au X P L cap ts k3 r q) (V:q.heap[S]?=some (.cells (aw t s2).toArray 76 (0,0))) (ho:OwnAt q d2 t.kids s2 (bL X.heap.size N)) (hf:Fits t) (W:X.heap.size≤N) (ak:N≤S)
  (s:f.ownsRow m 76 5 (slice (some ⟨g7,0,none⟩) (c.length+1) a) (c.length+1) (rows.flatten++aw t s2)) (j:q.grownBy f o.ownBlock) (z:o.ownBlock=some g7∨g7=q.heap.size) :
  ∃d' l A,au w P L cap ts k3 r (f.setCell ⟨i,4,none⟩ (slice (some ⟨g7,0,none⟩) (c.length+1) a))∧
   (∀b,b<m→b≠P→b≠i→(f.setCell ⟨i,4,none⟩ (slice (some ⟨g7,0,none⟩) (c.length+1) a)).heap[b]?=X.heap[b]?)∧
   (f.setCell ⟨i,4,none⟩ (slice (some ⟨g7,0,none⟩) (c.length+1) a)).heap[i]?=some (.cells #[O,Q,c2,R,slice (some ⟨g7,0,none⟩) (c.length+1) a] 76 (0,0))∧
   (f.setCell ⟨i,4,none⟩ (slice (some ⟨g7,0,none⟩) (c.length+1) a)).ownsRow m 76 5 (slice (some ⟨g7,0,none⟩) (c.length+1) a) (c++[t]).length l.flatten∧
   cn (f.setCell ⟨i,4,none⟩ (slice (some ⟨g7,0,none⟩) (c.length+1) a)) m d' (c++[t]) (c++[t]).length (some g7) l A∧f.heap[i]?=some (.cells #[O,Q,c2,R,o] 76 (0,0)):=by
 have p:=gy G;have an:=hT.1.size;have aq:=n.1.size;have ar:S<q.heap.size:=(Ez.1 V).1;have av:=j.size;have H:∀g,o.ownBlock=some g→w.heap.size≤g:=fun g hg=>by have:=(p g hg).1;omega
 have Y:=(hT.trans n).grownO hP hL j H;have B:∀b,b<q.heap.size→o.ownBlock≠some b→f.heap[b]?=q.heap[b]?:=fun b E C=>j.block b E (fun e=>C e.symm)
 have Z:∀b,b<m→o.ownBlock≠some b:=fun b hb e=>by have:=(p b e).1;omega
 have e2:=ho.mores d;rw[Nat.add_comm d2 d]at e2;have I:∀b,b<m→b≠P→f.heap[b]?=X.heap[b]?:=fun b E C=>(B b (by omega) (Z b E)).trans (n.1.block b (by omega) (fun e=>by injection e with e;exact C e))
 obtain⟨A,D⟩:=cn.nextT (W':=f) (N:=N) (own':=some g7) (t:=t) ((y.deeper d2).longer rfl [t]) (by simp) hf
  (e2.keep fun x o' F ad=>(B x (by have:=F.2;omega) (fun e=>by have:=(p x e).2;have:=F.1;omega)).trans ad) W (by omega) (by omega) (by omega)
  (fun x E C J=>(B x (by omega) J).trans (n.1.block x C (fun e=>by injection e with e;omega))) (fun x F=>by
   injection F with F
   subst F;rcases z with h|h
   ·exact Or.inl ⟨h,by have:=(p _ h).2;omega⟩
   ·right;omega)
 obtain⟨K,af⟩:=zzx (slice (some ⟨g7,0,none⟩) (c.length+1) a);rw[←af]at s ⊢;have u:f.grownBy (f.setCell ⟨i,4,none⟩ K) (some i):=fG (World.grownBy.refl f _) _ _;have M:f.heap[i]?=some (.cells #[O,Q,c2,R,o] 76 (0,0)):=(I i v (by omega)).trans U;refine⟨d+d2,rows++[aw t s2],A,Y.setCell hP hL T 4 K,?_,?_,?_,?_,M⟩
 ·exact fun b E C h3=>(ED _ _ _ b h3).trans (I b E C)
 ·rw[heap_set M 4 K];rfl
 ·have:=cS s u v;rw[EO,Fo,List.flatten_append]
  simpa using this
 ·rw[EO,Fo];exact D.turn u v
