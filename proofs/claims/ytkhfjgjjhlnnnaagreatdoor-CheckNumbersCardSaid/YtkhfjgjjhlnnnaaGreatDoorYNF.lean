/- Parts of one proof, joined; conditions stand in each theorem. -/
import Derived.Test.YtkhfjgjjhlnnnaaGreatDoorYNE
open Except renaming error→BT,ok→AF
open Go renaming World→wD,Value→wF,Calls→xL
open Option renaming none→U,some→Y
open Go.Value renaming slice→A,agg→xS,int→I,string→J,pointer→xV,tuple→CA
open Go.Ending renaming returned→z8
open Go.IntKind renaming u8→O,i64→Z
open Go.Obj renaming cells→wq
open Or renaming inl→z6,inr→z7
namespace Go.Proofs.YtkhfjgjjhlnnnaaGreatDoor
set_option maxHeartbeats 4000000
set_option maxRecDepth 100000
open Go.RowKit
def opR(T:ab) (r:Except Flt (List aw)):Except Flt aw:=match r with
 | .error e=>BT e
 | .ok a=>AF (.mk 3 .zero 0 (opM T.f.data.toList T.u.length).1 (if (opM T.f.data.toList T.u.length).2 then a.reverse else a))
theorem lv{W:wD}{g o:Nat}(a b c d e f h:wF)(k:Nat)(m:k≠g):(st7 W g o a b c d e f h).heap[k]?=W.heap[k]?:=by
 have j:∀(l:wD) (i:Nat) (u:wF),(l.setCell ⟨g,i,U⟩ u).heap[k]?=l.heap[k]?:=fun l i u=>ER l ⟨g,i,U⟩ u k m
 unfold st7;rw[j,j,j,j,j,j,j]
theorem rB(t:List UInt8)(k:Nat)(h:¬k=2):opM t k=if t==[45] then (4,false) else (11,false):=by
 unfold opM;have e:(k==2)=false:=by simpa using h
 rw[e];rfl
theorem Di{d:Nat}{W:wD}{F:Nat→Prop}{q:Option Addr}{cq:Nat}{p:List aw}(h:aH W F 62 (aL d) p (A q 2 cq))(r:p.length=2) :
  ∃a b k w l f n2 c2 g,p=[a,b]∧q=Y ⟨g,0,U⟩∧W.ownsRow 0 62 7 (A q 2 cq) 2 (bp a (A k w l)++bp b (A f n2 c2))∧
   ∀W',(∀x,F x→∀o,W.heap[x]?=Y o→W'.heap[x]?=Y o)→W'.ownsRow 0 62 7 (A q 2 cq) 2 (bp b (A f n2 c2)++bp a (A k w l))→aH W' F 62 (aL d) [b,a] (A q 2 cq):=by
 obtain⟨us,j,y,c⟩:=h
 match p,r with
 | [a,b],_ =>
  rw[eU]at j y;obtain⟨L,z,m⟩:=c 0 a V;obtain⟨M,B,n⟩:=c 1 b V;obtain⟨_,N,rfl,s⟩:=ey.1 z;obtain⟨_,P,rfl,t⟩:=ey.1 B;obtain⟨k,l,rfl⟩:=bg s;obtain⟨f,c2,rfl⟩:=bg t;rw[eU]at m n;have u:us=bp a (A k a.u.length l)++bp b (A f b.u.length c2):=by
   apply List.ext_getElem?;intro i
   by_cases C:i<7
   ·rw[FB (by exact C)];have:=m i _ (ES (by exact C));rw[show 0*7+i=i by omega]at this;rw[this];exact (ES _).symm
   ·rw[Ft (by show 7≤i;omega)]
    by_cases D:i<14
    ·have E:i-7<(bp b (A f b.u.length c2)).length:=by show i-7<7;omega
     have:=n (i-7) _ (ES E);rw[show 1*7+(i-7)=i by omega]at this;rw[this];exact (ES _).symm
    ·rw[List.getElem?_eq_none (by rw[y];show 2*7≤i;omega),List.getElem?_eq_none (by show 7≤i-7;omega)]
  subst u;have e:W.ownsRow 0 62 7 (A q 2 cq) 2 (bp a (A k a.u.length l)++bp b (A f b.u.length c2)):=j;obtain⟨g,G⟩:∃g,q=Y ⟨g,0,U⟩:=by
   rcases e.2 with ⟨_,H⟩|⟨g,_,_,v,_⟩
   ·cases H
   ·injection v with v _ _;exact⟨g,v⟩
  refine⟨a,b,k,_,l,f,_,c2,g,V,G,e,fun W' r K=>⟨_,?_,Rd.wg (xs:=[b]) (us:=bp b (A f b.u.length c2)) (Rd.wg (xs:=[]) (us:=[]) Rd.cells_nil ((aL d).C r B)) ((aL d).C r z)⟩⟩;rw[eU];exact K
theorem lu{d:Nat}{w w1 W2 W:wD}{op:Int}{m:List aw}{v:wF}(p:FK w W)(q:w.heap.size+2≤w1.heap.size)(r:W2.heap.size≤W.heap.size)(i:U8 op)
  (c:aH W (fun b=>ai w1 W2 b∧v.ownBlock≠Y b) 62 (aL d) m v) (f:∀g,v.ownBlock=Y g→w1.heap.size≤g) (j:∀g,v.ownBlock=Y g→g<W2.heap.size) :
  dR (d+1) (AF (.mk 3 .zero 0 op m)) w (z8 (xS #[I O 3,I O 0,I Z 0,J ⟨#[]⟩,I Z 0,I O op,v])) (st7 W (w.heap.size+1) 0 (I O 3) (I O 0) (I Z 0) (J ⟨#[]⟩) (I Z 0) (I O op) v):=by
 have k:=mU p (Fl _) (I O 3) (I O 0) (I Z 0) (J ⟨#[]⟩) (I Z 0) (I O op) v;have u:=(rq (W:=W) (g:=w.heap.size+1) (o:=0) (I O 3) (I O 0) (I Z 0) (J ⟨#[]⟩) (I Z 0) (I O op) v).h;have i0:I64 0:=⟨by decide,by decide⟩;have s:U8 0:=⟨by decide,by decide⟩;have t:U8 3:=⟨by decide,by decide⟩;refine⟨k,v,V,⟨t,⟨s,i0,Fa _⟩,i0,i⟩,?_⟩;have l:=c.h (W':=st7 W (w.heap.size+1) 0 (I O 3) (I O 0) (I Z 0) (J ⟨#[]⟩) (I Z 0) (I O op) v) (M:=w.heap.size+1) (F':=ai w (st7 W (w.heap.size+1) 0 (I O 3) (I O 0) (I Z 0) (J ⟨#[]⟩) (I Z 0) (I O op) v)) (fun e=>by have:=f _ e;omega) (fun b a e=>by have:=a.1.1;omega) (fun b a=>⟨by have:=a.1.1;omega,by have:=a.1.2;omega⟩) (fun b a=>lv _ _ _ _ _ _ _ b a);exact l.K (fun b h=>h) (fun g n=>⟨by have:=f g n;omega,by have:=j g n;omega⟩)
theorem xg(d M:Nat)(T:ab)(p:Option Addr)(c:Nat)(r:Except Flt (List aw))(w:wD)(hk:T.b≠13∧T.b≠14∧T.b≠15)(hs:T.f.size≤72007)(hlen:∀l,r=AF l→l.length=T.u.length)
  (hex:∀W,FK w W→xL Tryz.prog 77 #[xV (Y ⟨M,0,U⟩),A p T.u.length c] W (jI d r W)) :
  xL Tryz.prog 76 #[xV (Y ⟨M,0,U⟩),xS #[I O T.b,J T.f,I Z T.h,I Z T.y,A p T.u.length c]] w (dR (d+1) (opR T r) w):=by
 obtain⟨n,hn⟩:=zzy (T.u.length);have HN:=Hd hn;rw[hn]at hex hlen ⊢;have HL:=Hd hlen;obtain⟨w1,ad⟩:=zzx ((w.alloc (wq #[I O T.b,J T.f,I Z T.h,I Z T.y,A p n c] 25)).alloc (wq #[I O 0,I O 0,I Z 0,J ⟨#[]⟩,I Z 0,I O 0,A U 0 0] 62));obtain⟨af,bc,_⟩:=ap w (wq #[I O T.b,J T.f,I Z T.h,I Z T.y,A p n c] 25) (wq #[I O 0,I O 0,I Z 0,J ⟨#[]⟩,I Z 0,I O 0,A U 0 0] 62);have bd:FK w w1:=by rw[ad];exact ((EP _ w).alloc (EO _) _).alloc (by simp) _
 rw[←ad]at af bc;obtain⟨br,bk,bt,HC⟩:=zz4 af bc bd (hex w1 bd);have c7:¬((T.b:Int)=13):=by have:=hk.1;omega
 have c8:¬((T.b:Int)=14):=by have:=hk.2.1;omega
 have c9:¬((T.b:Int)=15):=by have:=hk.2.2;omega
 obtain⟨e0,e1,e2,e3,e4⟩:=cells5 af;clear af bc bd hex hn hlen hk
 go_enter Tryz.func76,Tryz.ntmps76
 go_upto_region 9 with fail
 change Code.wp _ _ _ _ ((w.alloc (wq #[I O T.b,J T.f,I Z T.h,I Z T.y,A p n c] 25)).alloc (wq #[I O 0,I O 0,I Z 0,J ⟨#[]⟩,I Z 0,I O 0,A U 0 0] 62));rw[←ad];clear ad;go_wp2_with fail
 refine HC.o.mono ?_;rintro e W2 ⟨ak,he⟩;obtain⟨j,bl,K⟩:=zz3 (bt.o.trans (ak.mono bt.o.size)) (aa ak br.o (EN.1 br.o).1) (aa ak bk.o (EN.1 bk.o).1);clear e0 e1 e2 e3 e4 ak
 cases r with
 | error er =>
  have he:e=aU er.1 er.2:=he;subst he;exact⟨V,j.o,V⟩
 | ok l =>
  obtain⟨v,rfl,B,bB⟩:=he;have bn:=HL.o l V;obtain⟨q,cq,hv⟩:=B.b;rw[bn]at hv;subst hv;obtain⟨al,L,HK⟩:=zz3 B bB bn;obtain⟨e0,e1,e2,e3,e4⟩:=cells5 bl.o;have N:Hid (w.heap.size+2≤w1.heap.size):=by
   have h:=(EN.1 bk.o).1
   show _≤_
   omega
  have P:=Hd (fun g hg=>B.lt (g:=g) hg);clear B bB bn;go_upto_region 10 with fail
  obtain⟨W3,aq⟩:=zzx (W2.alloc (wq #[I O 3,I O 0,I Z 0,J ⟨#[]⟩,I Z 0,I O 0,A q n cq] 62));have s:FK W2 W3:=by rw[aq];exact (EP _ _).alloc (EO _) _
  have bR:W3.heap[W2.heap.size]?=Y (wq #[I O 3,I O 0,I Z 0,J ⟨#[]⟩,I Z 0,I O 0,A q n cq] 62 (0,0)):=by rw[aq];exact p9 W2 _
  rw[←aq];clear aq e0 e1 e2 e3 e4;obtain⟨C,E,cv,ar,da⟩:=zz5 s bR (aa s bl.o (EN.1 bl.o).1) (aa s K.o (EN.1 K.o).1) (j.o.trans (s.mono j.o.size));clear s bR;obtain⟨e0,e1,e2,e3,e4⟩:=cells5 cv.o
  by_cases h2:n=2
  ·subst h2;have b7:=Hd (Ec T.f (by unfold maxLen;omega) W3);clear e0 e2 e3;go_upto_region 13 with fail
   clear e4;go_wp2_with fail
   refine b7.o.mono ?_;rintro e u ⟨rfl,D⟩;have f:=aa D E.o (EN.1 E.o).1;obtain⟨b8,cx,b9⟩:=zz3 f (aa D ar.o (EN.1 ar.o).1) (C.o.trans (D.mono C.o.size));have f0:=ac f 5;obtain⟨b0,b1,b2,b3,b4,b5,b6⟩:=dF f;clear b0 b1 b2 b3 b4 b6 f D e1;go_upto_region 16 with fail
   have HU:=Hd (AL T.f.data.toList 2);have F:Hid (opR T (AF l)=AF (.mk 3 .zero 0 (opM T.f.data.toList 2).1 (if (opM T.f.data.toList 2).2 then l.reverse else l))):=by
    show opR T (AF l)=_
    unfold opR;rw[HN.o]
   generalize (opM T.f.data.toList 2).1=op at *;generalize (opM T.f.data.toList 2).2=tu at *;obtain⟨W5,Q⟩:=zzx (u.setCell ⟨W2.heap.size,5,U⟩ (I O op));have t:W5.heap[W2.heap.size]?=Y (wq #[I O 3,I O 0,I Z 0,J ⟨#[]⟩,I Z 0,I O op,A q 2 cq] 62 (0,0)):=by rw[Q];exact heap_set b8.o 5 _
   have G:W5.heap[w.heap.size+1]?=Y (wq #[I O 0,I O 0,I Z 0,J ⟨#[]⟩,I Z 0,I O 0,A U 0 0] 62 (0,0)):=by rw[Q];exact (ER u ⟨W2.heap.size,5,U⟩ _ _ (by have:=(EN.1 K.o).1;show w.heap.size+1≠W2.heap.size;omega)).trans cx.o
   have a:FK W2 W5:=by rw[Q];exact b9.o.setCell (EO _) _
   rw[←Q];clear Q b5 f0;have av:=j.o.trans (a.mono j.o.size)
   cases tu with
   | false =>
    have HP:Hid (dR (d+1) (opR T (AF l)) w (z8 (xS #[I O 3,I O 0,I Z 0,J ⟨#[]⟩,I Z 0,I O op,A q 2 cq])) (st7 W5 (w.heap.size+1) 0 (I O 3) (I O 0) (I Z 0) (J ⟨#[]⟩) (I Z 0) (I O op) (A q 2 cq))):=by
     show dR _ _ _ _ _
     rw[F.o];exact lu (w1:=w1) (W2:=W2) av N.o a.size HU.o (al.o.z a (fun b m=>m.1.2) (fun b m=>m)) L.o P.o
    have z:=Hd (gW G (I O 3) (I O 0) (I Z 0) (J ⟨#[]⟩) (I Z 0) (I O op) (A q 2 cq));obtain⟨b0,b1,b2,b3,b4,b5,b6⟩:=dF t;obtain⟨c0,c1,c2,c3,c4,c5,c6⟩:=dF G;have f0:=ac G;clear t G a av;go_upto_region 18 with fail
    go_wp2_with fail
    exact jK _ _ (w.heap.size+1) _ _ _ _ _ _ _ z.o _ V HP.o
   | true =>
    have ca:=al.o.z (F':=fun b=>ai w1 W2 b∧(A q 2 cq).ownBlock≠Y b) a (fun b m=>m.1.2) (fun b m=>m);obtain⟨x,y,p1,n1,cA,p2,n2,cC,g,cb,hq,a6,R⟩:=Di ca HK.o;subst hq;have cc:=Hd (Da x y p1 p2 n1 n2 cA cC g cq W5 a6);have cR:=L.o g V;have cT:=P.o g V;obtain⟨cV,ba,ch,ck,cl⟩:=zz5 R t G a av;have bq:Hid (w.heap.size+1≠g∧W2.heap.size≠g∧w.heap.size≤g):=by
     have:=N.o;exact⟨by omega,by omega,by omega⟩
    have cW:=Hd cb;obtain⟨b0,b1,b2,b3,b4,b5,b6⟩:=dF t;clear t G a av ca a6 R cR cT cb b0 b1 b2 b3 b4 b5;go_upto_region 17 with fail
    go_wp2_with fail
    refine cc.o.mono ?_;rintro e W6 ⟨rfl,H,S⟩;have cr:=(EN.1 ba.o).1;have bb:=(H.u _ cr bq.o.2.1).trans ba.o;have a1:=(H.u _ (EN.1 ch.o).1 bq.o.1).trans ch.o;have ct:=Chg.C cl.o H (fun b h=>by rw[h];exact bq.o.2.2) cl.o.size;have cu:=cV.o W6 (fun b m o ho=>(H.u b (ET m.1.2 ck.o.size) (fun e=>m.2 (by rw[e];rfl))).trans ho) S;have HP:Hid (dR (d+1) (opR T (AF l)) w (z8 (xS #[I O 3,I O 0,I Z 0,J ⟨#[]⟩,I Z 0,I O op,A (Y ⟨g,0,U⟩) 2 cq])) (st7 W6 (w.heap.size+1) 0 (I O 3) (I O 0) (I Z 0) (J ⟨#[]⟩) (I Z 0) (I O op) (A (Y ⟨g,0,U⟩) 2 cq))):=by
     show dR _ _ _ _ _
     rw[F.o,cW.o];exact lu (w1:=w1) (W2:=W2) ct N.o (EU ck.o.size H.h) HU.o cu L.o P.o
    have z:=Hd (gW a1 (I O 3) (I O 0) (I Z 0) (J ⟨#[]⟩) (I Z 0) (I O op) (A (Y ⟨g,0,U⟩) 2 cq));obtain⟨b0,b1,b2,b3,b4,b5,b6⟩:=dF bb;obtain⟨c0,c1,c2,c3,c4,c5,c6⟩:=dF a1;have f0:=ac a1;clear bb a1 ct cu H S cr;go_upto_region 18 with fail
    go_wp2_with fail
    exact jK _ _ (w.heap.size+1) _ _ _ _ _ _ _ z.o _ V HP.o
  ·have dc:¬((n:Int)=2):=by omega
   clear e0 e2 e3;go_upto_region 14 with fail
   clear e4;have f0:=ac E.o 5;obtain⟨b0,b1,b2,b3,b4,b5,b6⟩:=dF E.o;clear b0 b1 b2 b3 b4 b6;go_upto_region 16 with fail
   ·have F:Hid (opR T (AF l)=AF (.mk 3 .zero 0 4 l)):=by
     have e:(T.f.data.toList==[45])=true:=by rw[←Fb];assumption
     show opR T (AF l)=_
     unfold opR;rw[HN.o,rB _ _ h2,e];rfl
    obtain⟨u,i⟩:=zzx (W3.setCell ⟨W2.heap.size,5,U⟩ (I O 4));have f:u.heap[W2.heap.size]?=Y (wq #[I O 3,I O 0,I Z 0,J ⟨#[]⟩,I Z 0,I O 4,A q n cq] 62 (0,0)):=by rw[i];exact heap_set E.o 5 _
    have k:u.heap[w.heap.size+1]?=Y (wq #[I O 0,I O 0,I Z 0,J ⟨#[]⟩,I Z 0,I O 0,A U 0 0] 62 (0,0)):=by rw[i];exact (ER W3 ⟨W2.heap.size,5,U⟩ _ _ (by have:=(EN.1 K.o).1;show w.heap.size+1≠W2.heap.size;omega)).trans ar.o
    have a:FK W2 u:=by rw[i];exact C.o.setCell (EO _) _
    rw[←i];clear i b5 f0;have X:=j.o.trans (a.mono j.o.size);have HP:Hid (dR (d+1) (opR T (AF l)) w (z8 (xS #[I O 3,I O 0,I Z 0,J ⟨#[]⟩,I Z 0,I O 4,A q n cq])) (st7 u (w.heap.size+1) 0 (I O 3) (I O 0) (I Z 0) (J ⟨#[]⟩) (I Z 0) (I O 4) (A q n cq))):=by
     show dR _ _ _ _ _
     rw[F.o];exact lu (w1:=w1) (W2:=W2) X N.o a.size ⟨by decide,by decide⟩ (al.o.z a (fun b m=>m.1.2) (fun b m=>m)) L.o P.o
    have z:=Hd (gW k (I O 3) (I O 0) (I Z 0) (J ⟨#[]⟩) (I Z 0) (I O 4) (A q n cq));obtain⟨b0,b1,b2,b3,b4,b5,b6⟩:=dF f;obtain⟨c0,c1,c2,c3,c4,c5,c6⟩:=dF k;have f0:=ac k;clear f k a X e1;go_upto_region 18 with fail
    go_wp2_with fail
    exact jK _ _ (w.heap.size+1) _ _ _ _ _ _ _ z.o _ V HP.o
   ·have F:Hid (opR T (AF l)=AF (.mk 3 .zero 0 11 l)):=by
     have e:(T.f.data.toList==[45])=false:=by rw[←Fb];assumption
     show opR T (AF l)=_
     unfold opR;rw[HN.o,rB _ _ h2,e];rfl
    obtain⟨u,i⟩:=zzx (W3.setCell ⟨W2.heap.size,5,U⟩ (I O 11));have f:u.heap[W2.heap.size]?=Y (wq #[I O 3,I O 0,I Z 0,J ⟨#[]⟩,I Z 0,I O 11,A q n cq] 62 (0,0)):=by rw[i];exact heap_set E.o 5 _
    have k:u.heap[w.heap.size+1]?=Y (wq #[I O 0,I O 0,I Z 0,J ⟨#[]⟩,I Z 0,I O 0,A U 0 0] 62 (0,0)):=by rw[i];exact (ER W3 ⟨W2.heap.size,5,U⟩ _ _ (by have:=(EN.1 K.o).1;show w.heap.size+1≠W2.heap.size;omega)).trans ar.o
    have a:FK W2 u:=by rw[i];exact C.o.setCell (EO _) _
    rw[←i];clear i b5 f0;have X:=j.o.trans (a.mono j.o.size);have HP:Hid (dR (d+1) (opR T (AF l)) w (z8 (xS #[I O 3,I O 0,I Z 0,J ⟨#[]⟩,I Z 0,I O 11,A q n cq])) (st7 u (w.heap.size+1) 0 (I O 3) (I O 0) (I Z 0) (J ⟨#[]⟩) (I Z 0) (I O 11) (A q n cq))):=by
     show dR _ _ _ _ _
     rw[F.o];exact lu (w1:=w1) (W2:=W2) X N.o a.size ⟨by decide,by decide⟩ (al.o.z a (fun b m=>m.1.2) (fun b m=>m)) L.o P.o
    have z:=Hd (gW k (I O 3) (I O 0) (I Z 0) (J ⟨#[]⟩) (I Z 0) (I O 11) (A q n cq));obtain⟨b0,b1,b2,b3,b4,b5,b6⟩:=dF f;obtain⟨c0,c1,c2,c3,c4,c5,c6⟩:=dF k;have f0:=ac k;clear f k a X e1;go_upto_region 18 with fail
    go_wp2_with fail
    exact jK _ _ (w.heap.size+1) _ _ _ _ _ _ _ z.o _ V HP.o
theorem zT{α β:Type}{f:α→Except Flt β}:∀(l:List α) (ys:List β),bz f l=AF ys→ys.length=l.length:=by
 have h:∀(l:List α) (zs ys:List β),aG (fun ys x=>match f x with | .error e=>BT e | .ok y=>AF (ys++[y])) zs l=AF ys→ys.length=zs.length+l.length:=by
  intro l
  induction l with
  | nil=>intro zs ys h;injection h with h;subst h;rfl
  | cons x l b =>
   intro zs ys h;unfold aG at h
   cases a:f x with
   | error e=>rw[a]at h;cases h
   | ok y =>
    rw[a]at h;have:=b _ _ h;rw[this];simp;omega
 intro l ys c;have:=h l [] ys c;rw[this];simp
theorem uO(M:Nat)(vars:List ByteArray)(vV:wF):∀(d:Nat) (T:ab) (s:wF) (w:wD),nB M vars vV w→dh d T→ao w w.heap.size d T.u s→
  xL Tryz.prog 76 #[xV (Y ⟨M,0,U⟩),xS #[I O T.b,J T.f,I Z T.h,I Z T.y,s]] w (dR d (aB vars d T) w):=by
 intro d
 induction d with
 | zero =>
  intro T s w g a i;obtain⟨p,c,rfl⟩:=i.f
  by_cases b:T.b=14∨T.b=15
  ·exact ql 0 M vars T p _ c w b a.f
  by_cases f:T.b=13
  ·exact uT 0 M vars vV T p _ c w g f
  have j:T.u=[]:=i.1
  have h:=xg 0 M T p c (AF []) w ⟨f,fun h=>b (z6 h),fun h=>b (z7 h)⟩ a.f (fun u h=>by injection h with h;subst h;rw[j];rfl) (fun W k=>by
   have:=nO 0 M vars vV (aB vars 0) [] (A p T.u.length c) W (g.z k) (z6 ⟨V,p,c,by rw[j];rfl⟩) (by simp) (fun T v=>by simp at v)
   exact this)
  refine h.mono ?_;rintro e w' ⟨x,he⟩;refine⟨x,?_⟩;obtain⟨s2,q,r,t⟩:=he;have hm:aB vars 0 T=AF (.mk 3 .zero 0 (opM T.f.data.toList T.u.length).1 []):=by
   unfold aB;have l:(T.b==14||T.b==15)=false:=by simp only[Bool.or_eq_false_iff,tv];exact⟨fun h=>b (z6 h),fun h=>b (z7 h)⟩
   have m:(T.b==13)=false:=by simpa using f
   rw[l,m];rfl
  rw[hm];have y:(if (opM T.f.data.toList T.u.length).2 then ([]:List aw).reverse else [])=[]:=by split<;>rfl
  rw[y]at q r t;refine⟨s2,q,r,V,?_⟩;obtain⟨z,c2,B⟩:=bg t;exact⟨z,c2,B⟩
 | succ d C =>
  intro T s w g a i;obtain⟨p,c,rfl⟩:=i.f
  by_cases b:T.b=14∨T.b=15
  ·exact ql (d+1) M vars T p _ c w b a.f
  by_cases f:T.b=13
  ·exact uT (d+1) M vars vV T p _ c w g f
  have h:=xg d M T p c (bz (aB vars d) T.u) w ⟨f,fun h=>b (z6 h),fun h=>b (z7 h)⟩ a.f (fun u h=>zT _ _ h) (fun W k =>
   nO d M vars vV (aB vars d) T.u (A p T.u.length c) W (g.z k) ((i.z k).up k.size) a.2.1 (fun K D s W' n _ o=>C K s W' n (a.2.2 K D) o))
  refine h.mono ?_;rintro e w' he;have hm:aB vars (d+1) T=opR T (bz (aB vars d) T.u):=by
   conv=>lhs;unfold aB
   have l:(T.b==14||T.b==15)=false:=by simp only[Bool.or_eq_false_iff,tv];exact⟨fun h=>b (z6 h),fun h=>b (z7 h)⟩
   have m:(T.b==13)=false:=by simpa using f
   rw[l,m];rfl
  rw[hm];exact he
theorem fH:Elem 70 48 4 48:=Elem.of (z:=xS #[I O 0,I Z 0,I Z 0,A U 0 0]) Tryz.underlying48 (by kernel_rfl) V (by decide) (by decide)
def iM(F:Nat→Prop) (d M:Nat) (ts:List ae) (rs:List an) (vars:List ByteArray) (nm:ByteArray) (sal nv:Int) (cs:List aW) (acs:List bW) (vT vR vV vC vA:wF) (r:Except Flt bW) (w:wD) (e:Ending) (w':wD):Prop:=
 Chg (bj M [vT,vR,vV,vC,vA]) w w'∧match r with
 | .ok x=>e=z8 (CA #[])∧∃(F':Nat→Prop) (a:wF),MkW F' d M ts rs vars nm sal nv cs (acs++[x]) vT vR vV vC a w'∧Grew vA a w.heap.size∧(∀b,F b→F' b)∧∀b,F' b→F b∨w.heap.size≤b
 | .error er=>e=aU er.1 er.2
theorem za(F:Nat→Prop)(d M:Nat)(ts:List ae)(rs:List an)(vars:List ByteArray)(nm:ByteArray)(sal nv:Int)(cs:List aW)(acs:List bW)(vT vR vV vC vA:wF)(T:ab)(p:Option Addr)(n c:Nat)(w:wD)
  (hw:MkW F d M ts rs vars nm sal nv cs acs vT vR vV vC vA w) (hk:T.b≠8∧T.b≠9∧T.b≠10) (ar:acs.length≤10000) :
  xL Tryz.prog 44 #[xV (Y ⟨M,0,U⟩),xS #[I O T.b,J T.f,I Z T.h,I Z T.y,A p n c]] w (iM F d M ts rs vars nm sal nv cs acs vT vR vV vC vA (AF ⟨4,0,0,[]⟩) w):=by
 have k8:¬((T.b:Int)=8):=by have:=hk.1;omega
 have k9:¬((T.b:Int)=9):=by have:=hk.2.1;omega
 have bb:¬((T.b:Int)=10):=by have:=hk.2.2;omega
 obtain⟨k,l,av⟩:=hw.a.b;subst av;obtain⟨q,a1⟩:=zzy (acs.length);have u:=Hd a1;obtain⟨f,t⟩:=zzx ((w.alloc (wq #[I O T.b,J T.f,I Z T.h,I Z T.y,A p n c] 25)).alloc (wq #[I O 4,I Z 0,I Z 0,A U 0 0] 70));obtain⟨L,z,_⟩:=ap w (wq #[I O T.b,J T.f,I Z T.h,I Z T.y,A p n c] 25) (wq #[I O 4,I Z 0,I Z 0,A U 0 0] 70);have B:FK w f:=by rw[t];exact ((EP _ w).alloc (EO _) _).alloc (by simp) _
 rw[←t]at L z;obtain⟨N,r,P,i⟩:=zz4 (fun g hg=>hw.a.lt (g:=g) hg) z B (hw.z B);clear L z B hw hk;obtain⟨us,s,Q⟩:=i.o.a;rw[u.o]at s;rw[u.o]at ar;obtain⟨R,a6⟩:=zz2 s Q;have e0:f.cell? ⟨w.heap.size+1,0,U⟩=Y (I O 4):=by rw[FI _ _ _ _ _ _ r.o];rfl
 have e1:f.cell? ⟨w.heap.size+1,1,U⟩=Y (I Z 0):=by rw[FI _ _ _ _ _ _ r.o];rfl
 have e2:f.cell? ⟨w.heap.size+1,2,U⟩=Y (I Z 0):=by rw[FI _ _ _ _ _ _ r.o];rfl
 have e3:f.cell? ⟨w.heap.size+1,3,U⟩=Y (A U 0 0):=by rw[FI _ _ _ _ _ _ r.o];rfl
 have C:f.cell? ⟨M,7,U⟩=Y (A k q l):=by rw[FI _ _ _ _ _ _ i.o.m,←u.o];rfl
 have hK:∀b,(b=M∨b=w.heap.size+1)→b<f.heap.size∧(A k q l).ownBlock≠Y b:=fun b j=>by
  rw[←u.o];rcases j with rfl|rfl
  ·exact⟨i.o.lt,row_ne i.o.m i.o.a (by decide)⟩
  ·exact⟨(EN.1 r.o).1,fun e=>by have:=N.o _ e;omega⟩
 have S:=Hd (gl (E:=70) (sz:=4) (row:=us++[I O 4,I Z 0,I Z 0,A U 0 0]) (K:=fun b=>b=M∨b=w.heap.size+1) hK);have E0:=fun x:Ks f (fun b=>b=M∨b=w.heap.size+1)=>x.b (z7 V) e0
 have E1:=fun x:Ks f (fun b=>b=M∨b=w.heap.size+1)=>x.b (z7 V) e1
 have E2:=fun x:Ks f (fun b=>b=M∨b=w.heap.size+1)=>x.b (z7 V) e2
 have E3:=fun x:Ks f (fun b=>b=M∨b=w.heap.size+1)=>x.b (z7 V) e3
 have M2:=fun x:Ks f (fun b=>b=M∨b=w.heap.size+1)=>x.b (z6 V) C
 clear s Q e0 e1 e2 e3 C hK
 go_enter Tryz.func44,Tryz.ntmps44
 go_upto_region 10 with fail
 change Code.wp _ _ _ _ ((w.alloc (wq #[I O T.b,J T.f,I Z T.h,I Z T.y,A p n c] 25)).alloc (wq #[I O 4,I Z 0,I Z 0,A U 0 0] 70));rw[←t];clear t;refine RE.u (by kernel_rfl) 9 [7,8] [8] (stA 70 4 f k q l (us++[I O 4,I Z 0,I Z 0,A U 0 0])) (ApR f) (fun _ ys=>ys.getD 0 undef) (phA 70 4 f k q l [I O 4,I Z 0,I Z 0,A U 0 0] (us++[I O 4,I Z 0,I Z 0,A U 0 0]) 7 8) (by kernel_rfl) (fun _ _ _ _ _ _ h j=>h.z j) (fun _ _ _ _ h _ hR=>h.C hR) stA.zero ?_;simp only[EY,Fi,EZ,Fh]
 repeat (refine RE.b (fun W=>∃x:Ks f (fun b=>b=M∨b=w.heap.size+1),W=x.1) (S.o _) V V V stA.zero ?_;go_big_quiet_step (fail);refine wpQuiet_nil ?_)
 refine RE.f V V ?_ (fun ba=>?_)
 ·intro W X D hE;obtain⟨s9,_,h9⟩:=X;exact cB fH (vs:=[I O 4,I Z 0,I Z 0,A U 0 0]) _ V V V h9.h (fun v W' j ho=>⟨[v],V,j,ApR.f j,ho⟩)
 simp only[Act.put,EQ,EW,EV];refine RE.f V V ?_ (fun ad=>?_)
 ·intro W X D hE;obtain⟨x,rfl⟩:∃x:Wb f,W=x.1:=D V;exact eC fH (p:=k) (n:=q) (c:=l) (w4:=f) (vs:=[I O 4,I Z 0,I Z 0,A U 0 0]) (xs:=us) _ _ V V (hE 7 ba (by kernel_rfl) V) V (by simp[Value.oneCell']) x.2 R.o (by omega) (fun v' W' h1 h2 h3=>⟨[v'],V,h1,h2,h3⟩)
 simp only[Act.put,EQ,EW,EV];refine RE.h ?_;intro W D hE;have D:ApS 70 4 f k q l (us++[I O 4,I Z 0,I Z 0,A U 0 0]) W:=D;have hV:ApV 70 4 f k q l (us++[I O 4,I Z 0,I Z 0,A U 0 0]) W (ad.getD 0 undef):=hE 8 ad V;obtain⟨g',cap,eg,hg,X,y⟩:=eZ D hV;rw[eg];have af:Chg (fun b=>(A k acs.length l).ownBlock=Y b) f W:=by rw[u.o];exact X
 have G:(A k acs.length l).ownBlock=Y g'∨f.heap.size≤g':=by rw[u.o];exact hg
 have ak:(bA d).at_ f F ⟨4,0,0,[]⟩ [I O 4,I Z 0,I Z 0,A U 0 0]:=fP.2 ⟨⟨by decide,by decide⟩,⟨by decide,by decide⟩,⟨by decide,by decide⟩,A U 0 0,V,Rd.vn⟩;obtain⟨al,aq,H⟩:=i.o.pushA u.o a6.o ak G af y;have C:W.cell? ⟨M,7,U⟩=Y (A k q l):=by rw[FI _ _ _ _ _ _ (H.trans i.o.m),←u.o];rfl
 have bc:=bK (H.trans i.o.m) 7;have HP:Hid (iM F d M ts rs vars nm sal nv cs acs vT vR vV vC (A k acs.length l) (AF ⟨4,0,0,[]⟩) w (z8 (CA #[])) (W.setCell ⟨M,7,U⟩ (A (Y ⟨g',0,U⟩) (q+1) cap))):=by
  refine⟨cj (Chg.f P.o) aq (fun x hx=>z6 hx),V,F,_,al,fun b j=>?_,fun _ h=>h,fun _ h=>z6 h⟩;injection j with j
  have j:g'=b:=j;subst j;rcases G with h|h
  ·exact z6 h
  ·have:=P.o.size;exact z7 (by omega)
 clear D hV hE eg hg X y af G al aq H E0 E1 E2 E3 M2 S ak;go_wp2_with fail
 go_end0
 exact HP.o
