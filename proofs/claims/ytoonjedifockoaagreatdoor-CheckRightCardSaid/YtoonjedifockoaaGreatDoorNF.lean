/- Parts of one proof, joined; conditions stand in each theorem. -/
import Derived.Test.YtoonjedifockoaaGreatDoorNE
namespace Go.Proofs.YtoonjedifockoaaGreatDoor
open Go.IntKind(i64)
open Go.Value(int string slice)
set_option maxHeartbeats 4000000
set_option maxRecDepth 100000
open Go.RowKit
def opR(T:ac) (r:Except Flt (List ag)):Except Flt ag:=match r with
 | .error e=>.error e
 | .ok a=>.ok (.mk 3 .zero 0 (opM T.text.data.toList T.kids.length).1 (if (opM T.text.data.toList T.kids.length).2 then a.reverse else a))
theorem Am{W:World}{g o:Nat}(a b c d e f h:Value)(k:Nat)(l:k≠g):(st7 W g o a b c d e f h).heap[k]?=W.heap[k]?:=by
 have j:∀(V:World) (i:Nat) (u:Value),(V.setCell ⟨g,i,none⟩ u).heap[k]?=V.heap[k]?:=fun V i u=>ED V ⟨g,i,none⟩ u k l
 unfold st7;rw[j,j,j,j,j,j,j]
theorem wZ(t:List UInt8)(k:Nat)(h:¬k=2):opM t k=if t==[45] then (4,false) else (11,false):=by
 unfold opM;have e:(k==2)=false:=by simpa using h
 rw[e];rfl
theorem CV{d:Nat}{W:World}{F:Nat→Prop}{q:Option Addr}{m:Nat}{r:List ag}(h:aX W F 50 (ay d) r (.slice q 2 m))(s:r.length=2) :
  ∃a b k y l f n2 c2 g,r=[a,b]∧q=some ⟨g,0,none⟩∧W.ownsRow 0 50 7 (.slice q 2 m) 2 (bF a (.slice k y l)++bF b (.slice f n2 c2))∧
   ∀W',(∀x,F x→∀o,W.heap[x]?=some o→W'.heap[x]?=some o)→W'.ownsRow 0 50 7 (.slice q 2 m) 2 (bF b (.slice f n2 c2)++bF a (.slice k y l))→aX W' F 50 (ay d) [b,a] (.slice q 2 m):=by
 obtain⟨us,j,z,c⟩:=h
 match r,s with
 | [a,b],_ =>
  rw[cB]at j z;obtain⟨J,A,n⟩:=c 0 a rfl;obtain⟨K,B,p⟩:=c 1 b rfl;obtain⟨_,L,rfl,t⟩:=bZ.1 A;obtain⟨_,M,rfl,u⟩:=bZ.1 B;obtain⟨k,l,rfl⟩:=aI t;obtain⟨f,c2,rfl⟩:=aI u;rw[cB]at n p;have v:us=bF a (.slice k a.kids.length l)++bF b (.slice f b.kids.length c2):=by
   apply List.ext_getElem?;intro i
   by_cases C:i<7
   ·rw[Fi (by exact C)];have:=n i _ (EE (by exact C));rw[show 0*7+i=i by omega]at this;rw[this];exact (EE _).symm
   ·rw[EZ (by show 7≤i;omega)]
    by_cases D:i<14
    ·have E:i-7<(bF b (.slice f b.kids.length c2)).length:=by show i-7<7;omega
     have:=p (i-7) _ (EE E);rw[show 1*7+(i-7)=i by omega]at this;rw[this];exact (EE _).symm
    ·rw[List.getElem?_eq_none (by rw[z];show 2*7≤i;omega),List.getElem?_eq_none (by show 7≤i-7;omega)]
  subst v;have e:W.ownsRow 0 50 7 (.slice q 2 m) 2 (bF a (.slice k a.kids.length l)++bF b (.slice f b.kids.length c2)):=j;obtain⟨g,G⟩:∃g,q=some ⟨g,0,none⟩:=by
   rcases e.2 with ⟨_,H⟩|⟨g,_,_,w,_⟩
   ·cases H
   ·injection w with w _ _;exact⟨g,w⟩
  refine⟨a,b,k,_,l,f,_,c2,g,rfl,G,e,fun W' s I=>⟨_,?_,Rd.cells_snoc (xs:=[b]) (us:=bF b (.slice f b.kids.length c2)) (Rd.cells_snoc (xs:=[]) (us:=[]) Rd.cells_nil ((ay d).keep s B)) ((ay d).keep s A)⟩⟩;rw[cB];exact I
theorem kA{d:Nat}{w w1 W2 W:World}{op:Int}{m:List ag}{v:Value}(p:Ft w W)(q:w.heap.size+2≤w1.heap.size)(r:W2.heap.size≤W.heap.size)(i:U8 op)
  (c:aX W (fun b=>bj w1 W2 b∧v.ownBlock≠some b) 50 (ay d) m v) (f:∀g,v.ownBlock=some g→w1.heap.size≤g) (j:∀g,v.ownBlock=some g→g<W2.heap.size) :
  dC (d+1) (.ok (.mk 3 .zero 0 op m)) w (.returned (.agg #[int .u8 3,int .u8 0,int i64 0,string ⟨#[]⟩,int i64 0,int .u8 op,v])) (st7 W (w.heap.size+1) 0 (int .u8 3) (int .u8 0) (int i64 0) (string ⟨#[]⟩) (int i64 0) (int .u8 op) v):=by
 have k:=l8 p (EV _) (int .u8 3) (int .u8 0) (int i64 0) (string ⟨#[]⟩) (int i64 0) (int .u8 op) v;have u:=(qF (W:=W) (g:=w.heap.size+1) (o:=0) (int .u8 3) (int .u8 0) (int i64 0) (string ⟨#[]⟩) (int i64 0) (int .u8 op) v).size;have i0:I64 0:=⟨by decide,by decide⟩;have s:U8 0:=⟨by decide,by decide⟩;have t:U8 3:=⟨by decide,by decide⟩;refine⟨k,v,rfl,⟨t,⟨s,i0,EM _⟩,i0,i⟩,?_⟩;have l:=c.stored (W':=st7 W (w.heap.size+1) 0 (int .u8 3) (int .u8 0) (int i64 0) (string ⟨#[]⟩) (int i64 0) (int .u8 op) v) (M:=w.heap.size+1) (F':=bj w (st7 W (w.heap.size+1) 0 (int .u8 3) (int .u8 0) (int i64 0) (string ⟨#[]⟩) (int i64 0) (int .u8 op) v)) (fun e=>by have:=f _ e;omega) (fun b a e=>by have:=a.1.1;omega) (fun b a=>⟨by have:=a.1.1;omega,by have:=a.1.2;omega⟩) (fun b a=>Am _ _ _ _ _ _ _ b a);exact l.row (fun b h=>h) (fun g n=>⟨by have:=f g n;omega,by have:=j g n;omega⟩)
theorem xb(d M:Nat)(T:ac)(p:Option Addr)(c:Nat)(r:Except Flt (List ag))(w:World)(hk:T.kind≠13∧T.kind≠14∧T.kind≠15)(hs:T.text.size≤72007)(hlen:∀m,r=.ok m→m.length=T.kids.length)
  (hex:∀W,Ft w W→Calls Tryz.prog 114 #[.pointer (some ⟨M,0,none⟩),.slice p T.kids.length c] W (iV d r W)) :
  Calls Tryz.prog 113 #[.pointer (some ⟨M,0,none⟩),.agg #[int .u8 T.kind,.string T.text,int i64 T.num,int i64 T.place,.slice p T.kids.length c]] w (dC (d+1) (opR T r) w):=by
 obtain⟨n,hn⟩:=zzy (T.kids.length);have HN:=Hd hn;rw[hn]at hex hlen ⊢;have HL:=Hd hlen;obtain⟨w1,S⟩:=zzx ((w.alloc (.cells #[int .u8 T.kind,.string T.text,int i64 T.num,int i64 T.place,.slice p n c] 76)).alloc (.cells #[int .u8 0,int .u8 0,int i64 0,string ⟨#[]⟩,int i64 0,int .u8 0,slice none 0 0] 50));obtain⟨U,av,_⟩:=am w (.cells #[int .u8 T.kind,.string T.text,int i64 T.num,int i64 T.place,.slice p n c] 76) (.cells #[int .u8 0,int .u8 0,int i64 0,string ⟨#[]⟩,int i64 0,int .u8 0,slice none 0 0] 50);have a1:Ft w w1:=by rw[S];exact ((EB _ w).alloc (EA _) _).alloc (by simp) _
 rw[←S]at U av;have bb:=Hd U;have a6:=Hd av;have bc:=Hd a1;have HC:=Hd (hex w1 a1);have cC:¬((T.kind:Int)=13):=by have:=hk.1;omega
 have cR:¬((T.kind:Int)=14):=by have:=hk.2.1;omega
 have cT:¬((T.kind:Int)=15):=by have:=hk.2.2;omega
 obtain⟨e0,e1,e2,e3,e4⟩:=cells5 U;clear U av a1 hex hn hlen hk
 go_enter Tryz.func113,Tryz.ntmps113
 go_upto_region 9 with fail
 change Code.wp _ _ _ _ ((w.alloc (.cells #[int .u8 T.kind,.string T.text,int i64 T.num,int i64 T.place,.slice p n c] 76)).alloc (.cells #[int .u8 0,int .u8 0,int i64 0,string ⟨#[]⟩,int i64 0,int .u8 0,slice none 0 0] 50));rw[←S];clear S;go_wp2_with fail
 refine HC.o.mono ?_;rintro e W2 ⟨V,he⟩;have j:=Hd (bc.o.trans (V.mono bc.o.size));have a7:=Hd (aa V bb.o (Ez.1 bb.o).1);have I:=Hd (aa V a6.o (Ez.1 a6.o).1);clear e0 e1 e2 e3 e4 V
 cases r with
 | error er =>
  have he:e=aJ er.1 er.2:=he;subst he;exact⟨rfl,j.o,rfl⟩
 | ok m =>
  obtain⟨v,rfl,B,bd⟩:=he;have a8:=HL.o m rfl;obtain⟨q,k,hv⟩:=B.shape;rw[a8]at hv;subst hv;have X:=Hd B;have J:=Hd bd;have HK:=Hd a8;obtain⟨e0,e1,e2,e3,e4⟩:=cells5 a7.o;have K:Hid (w.heap.size+2≤w1.heap.size):=by
   have h:=(Ez.1 a6.o).1
   show _≤_
   omega
  have L:=Hd (fun g hg=>B.lt (g:=g) hg);clear B bd a8;go_upto_region 10 with fail
  obtain⟨Y,Z⟩:=zzx (W2.alloc (.cells #[int .u8 3,int .u8 0,int i64 0,string ⟨#[]⟩,int i64 0,int .u8 0,.slice q n k] 50));have t:Ft W2 Y:=by rw[Z];exact (EB _ _).alloc (EA _) _
  have bk:Y.heap[W2.heap.size]?=some (.cells #[int .u8 3,int .u8 0,int i64 0,string ⟨#[]⟩,int i64 0,int .u8 0,.slice q n k] 50 (0,0)):=by rw[Z];exact n7 W2 _
  rw[←Z];clear Z e0 e1 e2 e3 e4;have C:=Hd t;have E:=Hd bk;have ch:=Hd (aa t a7.o (Ez.1 a7.o).1);have ad:=Hd (aa t I.o (Ez.1 I.o).1);have cV:=Hd (j.o.trans (t.mono j.o.size));clear t bk;obtain⟨e0,e1,e2,e3,e4⟩:=cells5 ch.o
  by_cases h2:n=2
  ·subst h2;have bl:=Hd (DJ T.text (by unfold maxLen;omega) Y);clear e0 e2 e3;go_upto_region 13 with fail
   clear e4;go_wp2_with fail
   refine bl.o.mono ?_;rintro e z ⟨rfl,D⟩;have f:=aa D E.o (Ez.1 E.o).1;have bn:=Hd f;have ck:=Hd (aa D ad.o (Ez.1 ad.o).1);have bq:=Hd (C.o.trans (D.mono C.o.size));have f0:=ab f 5;obtain⟨b0,b1,b2,b3,b4,R,b6⟩:=cD f;clear b0 b1 b2 b3 b4 b6 f D e1;go_upto_region 16 with fail
   have HU:=Hd (Eh T.text.data.toList 2);have F:Hid (opR T (.ok m)=.ok (.mk 3 .zero 0 (opM T.text.data.toList 2).1 (if (opM T.text.data.toList 2).2 then m.reverse else m))):=by
    show opR T (.ok m)=_
    unfold opR;rw[HN.o]
   generalize (opM T.text.data.toList 2).1=op at *;generalize (opM T.text.data.toList 2).2=tu at *;obtain⟨W5,N⟩:=zzx (z.setCell ⟨W2.heap.size,5,none⟩ (int .u8 op));have u:W5.heap[W2.heap.size]?=some (.cells #[int .u8 3,int .u8 0,int i64 0,string ⟨#[]⟩,int i64 0,int .u8 op,.slice q 2 k] 50 (0,0)):=by rw[N];exact heap_set bn.o 5 _
   have G:W5.heap[w.heap.size+1]?=some (.cells #[int .u8 0,int .u8 0,int i64 0,string ⟨#[]⟩,int i64 0,int .u8 0,slice none 0 0] 50 (0,0)):=by rw[N];exact (ED z ⟨W2.heap.size,5,none⟩ _ _ (by have:=(Ez.1 I.o).1;show w.heap.size+1≠W2.heap.size;omega)).trans ck.o
   have a:Ft W2 W5:=by rw[N];exact bq.o.setCell (EA _) _
   rw[←N];clear N R f0;have af:=j.o.trans (a.mono j.o.size)
   cases tu with
   | false =>
    have HP:Hid (dC (d+1) (opR T (.ok m)) w (.returned (.agg #[int .u8 3,int .u8 0,int i64 0,string ⟨#[]⟩,int i64 0,int .u8 op,.slice q 2 k])) (st7 W5 (w.heap.size+1) 0 (int .u8 3) (int .u8 0) (int i64 0) (string ⟨#[]⟩) (int i64 0) (int .u8 op) (.slice q 2 k))):=by
     show dC _ _ _ _ _
     rw[F.o];exact kA (w1:=w1) (W2:=W2) af K.o a.size HU.o (X.o.below a (fun b s=>s.1.2) (fun b s=>s)) J.o L.o
    have A:=Hd (jU G (int .u8 3) (int .u8 0) (int i64 0) (string ⟨#[]⟩) (int i64 0) (int .u8 op) (.slice q 2 k));obtain⟨b0,b1,b2,b3,b4,R,b6⟩:=cD u;obtain⟨c0,c1,c2,c3,c4,c5,c6⟩:=cD G;have f0:=ab G;clear u G a af;go_upto_region 18 with fail
    go_wp2_with fail
    exact iY _ _ (w.heap.size+1) _ _ _ _ _ _ _ A.o _ rfl HP.o
   | true =>
    have br:=X.o.below (F':=fun b=>bj w1 W2 b∧(slice q 2 k).ownBlock≠some b) a (fun b s=>s.1.2) (fun b s=>s);obtain⟨x,y,p1,n1,cl,p2,n2,cr,g,bt,hq,an,O⟩:=CV br HK.o;subst hq;have bB:=Hd (CG x y p1 p2 n1 n2 cl cr g k W5 an);have ct:=J.o g rfl;have cv:=L.o g rfl;have cx:=Hd O;have aq:=Hd u;have bR:=Hd G;have b7:=Hd a;have b8:=Hd af;have ba:Hid (w.heap.size+1≠g∧W2.heap.size≠g∧w.heap.size≤g):=by
     have:=K.o;exact⟨by omega,by omega,by omega⟩
    have cA:=Hd bt;obtain⟨b0,b1,b2,b3,b4,R,b6⟩:=cD u;clear u G a af br an O ct cv bt b0 b1 b2 b3 b4 R;go_upto_region 17 with fail
    go_wp2_with fail
    refine bB.o.mono ?_;rintro e W6 ⟨rfl,H,P⟩;have b9:=(Ez.1 aq.o).1;have ar:=(H.block _ b9 ba.o.2.1).trans aq.o;have ak:=(H.block _ (Ez.1 bR.o).1 ba.o.1).trans bR.o;have ca:=Chg.to_below b8.o H (fun b h=>by rw[h];exact ba.o.2.2) b8.o.size;have cc:=cx.o W6 (fun b s o ho=>(H.block b (EF s.1.2 b7.o.size) (fun e=>s.2 (by rw[e];rfl))).trans ho) P;have HP:Hid (dC (d+1) (opR T (.ok m)) w (.returned (.agg #[int .u8 3,int .u8 0,int i64 0,string ⟨#[]⟩,int i64 0,int .u8 op,slice (some ⟨g,0,none⟩) 2 k])) (st7 W6 (w.heap.size+1) 0 (int .u8 3) (int .u8 0) (int i64 0) (string ⟨#[]⟩) (int i64 0) (int .u8 op) (slice (some ⟨g,0,none⟩) 2 k))):=by
     show dC _ _ _ _ _
     rw[F.o,cA.o];exact kA (w1:=w1) (W2:=W2) ca K.o (EG b7.o.size H.size) HU.o cc J.o L.o
    have A:=Hd (jU ak (int .u8 3) (int .u8 0) (int i64 0) (string ⟨#[]⟩) (int i64 0) (int .u8 op) (slice (some ⟨g,0,none⟩) 2 k));obtain⟨b0,b1,b2,b3,b4,R,b6⟩:=cD ar;obtain⟨c0,c1,c2,c3,c4,c5,c6⟩:=cD ak;have f0:=ab ak;clear ar ak ca cc H P b9;go_upto_region 18 with fail
    go_wp2_with fail
    exact iY _ _ (w.heap.size+1) _ _ _ _ _ _ _ A.o _ rfl HP.o
  ·have cW:¬((n:Int)=2):=by omega
   clear e0 e2 e3;go_upto_region 14 with fail
   clear e4;have f0:=ab E.o 5;obtain⟨b0,b1,b2,b3,b4,R,b6⟩:=cD E.o;clear b0 b1 b2 b3 b4 b6;go_upto_region 16 with fail
   ·have F:Hid (opR T (.ok m)=.ok (.mk 3 .zero 0 4 m)):=by
     have e:(T.text.data.toList==[45])=true:=by rw[←EN];assumption
     show opR T (.ok m)=_
     unfold opR;rw[HN.o,wZ _ _ h2,e];rfl
    obtain⟨z,i⟩:=zzx (Y.setCell ⟨W2.heap.size,5,none⟩ (int .u8 4));have f:z.heap[W2.heap.size]?=some (.cells #[int .u8 3,int .u8 0,int i64 0,string ⟨#[]⟩,int i64 0,int .u8 4,.slice q n k] 50 (0,0)):=by rw[i];exact heap_set E.o 5 _
    have l:z.heap[w.heap.size+1]?=some (.cells #[int .u8 0,int .u8 0,int i64 0,string ⟨#[]⟩,int i64 0,int .u8 0,slice none 0 0] 50 (0,0)):=by rw[i];exact (ED Y ⟨W2.heap.size,5,none⟩ _ _ (by have:=(Ez.1 I.o).1;show w.heap.size+1≠W2.heap.size;omega)).trans ad.o
    have a:Ft W2 z:=by rw[i];exact C.o.setCell (EA _) _
    rw[←i];clear i R f0;have Q:=j.o.trans (a.mono j.o.size);have HP:Hid (dC (d+1) (opR T (.ok m)) w (.returned (.agg #[int .u8 3,int .u8 0,int i64 0,string ⟨#[]⟩,int i64 0,int .u8 4,.slice q n k])) (st7 z (w.heap.size+1) 0 (int .u8 3) (int .u8 0) (int i64 0) (string ⟨#[]⟩) (int i64 0) (int .u8 4) (.slice q n k))):=by
     show dC _ _ _ _ _
     rw[F.o];exact kA (w1:=w1) (W2:=W2) Q K.o a.size ⟨by decide,by decide⟩ (X.o.below a (fun b s=>s.1.2) (fun b s=>s)) J.o L.o
    have A:=Hd (jU l (int .u8 3) (int .u8 0) (int i64 0) (string ⟨#[]⟩) (int i64 0) (int .u8 4) (.slice q n k));obtain⟨b0,b1,b2,b3,b4,R,b6⟩:=cD f;obtain⟨c0,c1,c2,c3,c4,c5,c6⟩:=cD l;have f0:=ab l;clear f l a Q e1;go_upto_region 18 with fail
    go_wp2_with fail
    exact iY _ _ (w.heap.size+1) _ _ _ _ _ _ _ A.o _ rfl HP.o
   ·have F:Hid (opR T (.ok m)=.ok (.mk 3 .zero 0 11 m)):=by
     have e:(T.text.data.toList==[45])=false:=by rw[←EN];assumption
     show opR T (.ok m)=_
     unfold opR;rw[HN.o,wZ _ _ h2,e];rfl
    obtain⟨z,i⟩:=zzx (Y.setCell ⟨W2.heap.size,5,none⟩ (int .u8 11));have f:z.heap[W2.heap.size]?=some (.cells #[int .u8 3,int .u8 0,int i64 0,string ⟨#[]⟩,int i64 0,int .u8 11,.slice q n k] 50 (0,0)):=by rw[i];exact heap_set E.o 5 _
    have l:z.heap[w.heap.size+1]?=some (.cells #[int .u8 0,int .u8 0,int i64 0,string ⟨#[]⟩,int i64 0,int .u8 0,slice none 0 0] 50 (0,0)):=by rw[i];exact (ED Y ⟨W2.heap.size,5,none⟩ _ _ (by have:=(Ez.1 I.o).1;show w.heap.size+1≠W2.heap.size;omega)).trans ad.o
    have a:Ft W2 z:=by rw[i];exact C.o.setCell (EA _) _
    rw[←i];clear i R f0;have Q:=j.o.trans (a.mono j.o.size);have HP:Hid (dC (d+1) (opR T (.ok m)) w (.returned (.agg #[int .u8 3,int .u8 0,int i64 0,string ⟨#[]⟩,int i64 0,int .u8 11,.slice q n k])) (st7 z (w.heap.size+1) 0 (int .u8 3) (int .u8 0) (int i64 0) (string ⟨#[]⟩) (int i64 0) (int .u8 11) (.slice q n k))):=by
     show dC _ _ _ _ _
     rw[F.o];exact kA (w1:=w1) (W2:=W2) Q K.o a.size ⟨by decide,by decide⟩ (X.o.below a (fun b s=>s.1.2) (fun b s=>s)) J.o L.o
    have A:=Hd (jU l (int .u8 3) (int .u8 0) (int i64 0) (string ⟨#[]⟩) (int i64 0) (int .u8 11) (.slice q n k));obtain⟨b0,b1,b2,b3,b4,R,b6⟩:=cD f;obtain⟨c0,c1,c2,c3,c4,c5,c6⟩:=cD l;have f0:=ab l;clear f l a Q e1;go_upto_region 18 with fail
    go_wp2_with fail
    exact iY _ _ (w.heap.size+1) _ _ _ _ _ _ _ A.o _ rfl HP.o
theorem zL{α β:Type}{f:α→Except Flt β}:∀(l:List α) (a:List β),dl f l=.ok a→a.length=l.length:=by
 have h:∀(l:List α) (b a:List β),bG (fun a x=>match f x with | .error e=>.error e | .ok y=>.ok (a++[y])) b l=.ok a→a.length=b.length+l.length:=by
  intro l
  induction l with
  | nil=>intro b a h;injection h with h;subst h;rfl
  | cons x l d =>
   intro b a h;unfold bG at h
   cases c:f x with
   | error e=>rw[c]at h;cases h
   | ok y =>
    rw[c]at h;have:=d _ _ h;rw[this];simp;omega
 intro l a g;have:=h l [] a g;rw[this];simp
theorem uy(M:Nat)(vars:List ByteArray)(vV:Value):∀(d:Nat) (T:ac) (s:Value) (w:World),mH M vars vV w→eC d T→aD w w.heap.size d T.kids s→
  Calls Tryz.prog 113 #[.pointer (some ⟨M,0,none⟩),.agg #[int .u8 T.kind,.string T.text,int i64 T.num,int i64 T.place,s]] w (dC d (bD vars d T) w):=by
 intro d
 induction d with
 | zero =>
  intro T s w g a i;obtain⟨p,c,rfl⟩:=i.slice
  by_cases b:T.kind=14∨T.kind=15
  ·exact pu 0 M vars T p _ c w b a.text
  by_cases f:T.kind=13
  ·exact uF 0 M vars vV T p _ c w g f
  have j:T.kids=[]:=i.1
  have h:=xb 0 M T p c (.ok []) w ⟨f,fun h=>b (Or.inl h),fun h=>b (Or.inr h)⟩ a.text (fun u h=>by injection h with h;subst h;rw[j];rfl) (fun W k=>by
   have:=mQ 0 M vars vV (bD vars 0) [] (.slice p T.kids.length c) W (g.below k) (Or.inl ⟨rfl,p,c,by rw[j];rfl⟩) (by simp) (fun T v=>by simp at v)
   exact this)
  refine h.mono ?_;rintro e w' ⟨x,he⟩;refine⟨x,?_⟩;obtain⟨s2,q,r,t⟩:=he;have hm:bD vars 0 T=.ok (.mk 3 .zero 0 (opM T.text.data.toList T.kids.length).1 []):=by
   unfold bD;have l:(T.kind==14||T.kind==15)=false:=by simp only[Bool.or_eq_false_iff,oX];exact⟨fun h=>b (Or.inl h),fun h=>b (Or.inr h)⟩
   have m:(T.kind==13)=false:=by simpa using f
   rw[l,m];rfl
  rw[hm];have y:(if (opM T.text.data.toList T.kids.length).2 then ([]:List ag).reverse else [])=[]:=by split<;>rfl
  rw[y]at q r t;refine⟨s2,q,r,rfl,?_⟩;obtain⟨z,c2,A⟩:=aI t;exact⟨z,c2,A⟩
 | succ d B =>
  intro T s w g a i;obtain⟨p,c,rfl⟩:=i.slice
  by_cases b:T.kind=14∨T.kind=15
  ·exact pu (d+1) M vars T p _ c w b a.text
  by_cases f:T.kind=13
  ·exact uF (d+1) M vars vV T p _ c w g f
  have h:=xb d M T p c (dl (bD vars d) T.kids) w ⟨f,fun h=>b (Or.inl h),fun h=>b (Or.inr h)⟩ a.text (fun u h=>zL _ _ h) (fun W k =>
   mQ d M vars vV (bD vars d) T.kids (.slice p T.kids.length c) W (g.below k) ((i.below k).up k.size) a.2.1 (fun K C s W' n _ o=>B K s W' n (a.2.2 K C) o))
  refine h.mono ?_;rintro e w' he;have hm:bD vars (d+1) T=opR T (dl (bD vars d) T.kids):=by
   conv=>lhs;unfold bD
   have l:(T.kind==14||T.kind==15)=false:=by simp only[Bool.or_eq_false_iff,oX];exact⟨fun h=>b (Or.inl h),fun h=>b (Or.inr h)⟩
   have m:(T.kind==13)=false:=by simpa using f
   rw[l,m];rfl
  rw[hm];exact he
theorem iu:Elem 58 36 4 48:=Elem.of (z:=.agg #[int .u8 0,int i64 0,int i64 0,slice none 0 0]) Tryz.underlying36 (by kernel_rfl) rfl (by decide) (by decide)
def gU(F:Nat→Prop) (d M:Nat) (ts:List ai) (rs:List aj) (vars:List ByteArray) (nm:ByteArray) (sal nv:Int) (cs:List aC) (acs:List aT) (vT vR vV vC vA:Value) (r:Except Flt aT) (w:World) (e:Ending) (w':World):Prop:=
 Chg (aL M [vT,vR,vV,vC,vA]) w w'∧match r with
 | .ok x=>e=.returned (.tuple #[])∧∃(F':Nat→Prop) (a:Value),MkW F' d M ts rs vars nm sal nv cs (acs++[x]) vT vR vV vC a w'∧Grew vA a w.heap.size∧(∀b,F b→F' b)∧∀b,F' b→F b∨w.heap.size≤b
 | .error er=>e=aJ er.1 er.2
theorem yY(F:Nat→Prop)(d M:Nat)(ts:List ai)(rs:List aj)(vars:List ByteArray)(nm:ByteArray)(sal nv:Int)(cs:List aC)(acs:List aT)(vT vR vV vC vA:Value)(T:ac)(p:Option Addr)(n c:Nat)(w:World)
  (hw:MkW F d M ts rs vars nm sal nv cs acs vT vR vV vC vA w) (Y:T.kind≠8∧T.kind≠9∧T.kind≠10) (ad:acs.length≤10000) :
  Calls Tryz.prog 83 #[.pointer (some ⟨M,0,none⟩),.agg #[int .u8 T.kind,.string T.text,int i64 T.num,int i64 T.place,.slice p n c]] w (gU F d M ts rs vars nm sal nv cs acs vT vR vV vC vA (.ok ⟨4,0,0,[]⟩) w):=by
 have k8:¬((T.kind:Int)=8):=by have:=Y.1;omega
 have k9:¬((T.kind:Int)=9):=by have:=Y.2.1;omega
 have ar:¬((T.kind:Int)=10):=by have:=Y.2.2;omega
 obtain⟨k,l,af⟩:=hw.a.shape;subst af;obtain⟨q,ak⟩:=zzy (acs.length);have u:=Hd ak;obtain⟨f,t⟩:=zzx ((w.alloc (.cells #[int .u8 T.kind,.string T.text,int i64 T.num,int i64 T.place,.slice p n c] 76)).alloc (.cells #[int .u8 4,int i64 0,int i64 0,slice none 0 0] 58));obtain⟨H,z,_⟩:=am w (.cells #[int .u8 T.kind,.string T.text,int i64 T.num,int i64 T.place,.slice p n c] 76) (.cells #[int .u8 4,int i64 0,int i64 0,slice none 0 0] 58);have A:Ft w f:=by rw[t];exact ((EB _ w).alloc (EA _) _).alloc (by simp) _
 rw[←t]at H z;have I:=Hd (fun g Z=>hw.a.lt (g:=g) Z);have r:=Hd z;have J:=Hd A;have i:=Hd (hw.below A);clear H z A hw Y;obtain⟨us,s,L⟩:=i.o.a;rw[u.o]at s;rw[u.o]at ad;have N:=Hd s;have an:=Hd L;have e0:f.cell? ⟨w.heap.size+1,0,none⟩=some (int .u8 4):=by rw[Fq _ _ _ _ _ _ r.o];rfl
 have e1:f.cell? ⟨w.heap.size+1,1,none⟩=some (int i64 0):=by rw[Fq _ _ _ _ _ _ r.o];rfl
 have e2:f.cell? ⟨w.heap.size+1,2,none⟩=some (int i64 0):=by rw[Fq _ _ _ _ _ _ r.o];rfl
 have e3:f.cell? ⟨w.heap.size+1,3,none⟩=some (slice none 0 0):=by rw[Fq _ _ _ _ _ _ r.o];rfl
 have B:f.cell? ⟨M,7,none⟩=some (.slice k q l):=by rw[Fq _ _ _ _ _ _ i.o.m,←u.o];rfl
 have hK:∀b,(b=M∨b=w.heap.size+1)→b<f.heap.size∧(slice k q l).ownBlock≠some b:=fun b j=>by
  rw[←u.o];rcases j with rfl|rfl
  ·exact⟨i.o.lt,row_ne i.o.m i.o.a (by decide)⟩
  ·exact⟨(Ez.1 r.o).1,fun e=>by have:=I.o _ e;omega⟩
 have O:=Hd (jh (E:=58) (sz:=4) (row:=us++[int .u8 4,int i64 0,int i64 0,slice none 0 0]) (K:=fun b=>b=M∨b=w.heap.size+1) hK);have E0:=fun x:Ks f (fun b=>b=M∨b=w.heap.size+1)=>x.cell (Or.inr rfl) e0
 have E1:=fun x:Ks f (fun b=>b=M∨b=w.heap.size+1)=>x.cell (Or.inr rfl) e1
 have E2:=fun x:Ks f (fun b=>b=M∨b=w.heap.size+1)=>x.cell (Or.inr rfl) e2
 have E3:=fun x:Ks f (fun b=>b=M∨b=w.heap.size+1)=>x.cell (Or.inr rfl) e3
 have M2:=fun x:Ks f (fun b=>b=M∨b=w.heap.size+1)=>x.cell (Or.inl rfl) B
 clear s L e0 e1 e2 e3 B hK
 go_enter Tryz.func83,Tryz.ntmps83
 go_upto_region 10 with fail
 change Code.wp _ _ _ _ ((w.alloc (.cells #[int .u8 T.kind,.string T.text,int i64 T.num,int i64 T.place,.slice p n c] 76)).alloc (.cells #[int .u8 4,int i64 0,int i64 0,slice none 0 0] 58));rw[←t];clear t;refine RE.wp_region_eff (by kernel_rfl) 9 [7,8] [8] (stA 58 4 f k q l (us++[int .u8 4,int i64 0,int i64 0,slice none 0 0])) (ApR f) (fun _ ys=>ys.getD 0 undef) (phA 58 4 f k q l [int .u8 4,int i64 0,int i64 0,slice none 0 0] (us++[int .u8 4,int i64 0,int i64 0,slice none 0 0]) 7 8) (by kernel_rfl) (fun _ _ _ _ _ _ h j=>h.below j) (fun _ _ _ _ h _ hR=>h.keep hR) stA.zero ?_;simp only[EK,ET,EL,ES]
 repeat (refine RE.wpE_read (fun W=>∃x:Ks f (fun b=>b=M∨b=w.heap.size+1),W=x.1) (O.o _) rfl rfl rfl stA.zero ?_;go_big_quiet_step (fail);refine wpQuiet_nil ?_)
 refine RE.wpE_turn rfl rfl ?_ (fun aq=>?_)
 ·intro W P C Q;obtain⟨s9,_,h9⟩:=P;exact dB iu (vs:=[int .u8 4,int i64 0,int i64 0,slice none 0 0]) _ rfl rfl rfl h9.size (fun v W' j ho=>⟨[v],rfl,j,ApR.of_below j,ho⟩)
 simp only[Act.put,EC,EI,EH];refine RE.wpE_turn rfl rfl ?_ (fun R=>?_)
 ·intro W P C Q;obtain⟨x,rfl⟩:∃x:Wb f,W=x.1:=C rfl;exact fZ iu (p:=k) (n:=q) (c:=l) (w4:=f) (vs:=[int .u8 4,int i64 0,int i64 0,slice none 0 0]) (xs:=us) _ _ rfl rfl (Q 7 aq (by kernel_rfl) rfl) rfl (by simp[Value.oneCell']) x.2 N.o (by omega) (fun v' W' h1 h2 h3=>⟨[v'],rfl,h1,h2,h3⟩)
 simp only[Act.put,EC,EI,EH];refine RE.wpE_nil ?_;intro W C Q;have C:ApS 58 4 f k q l (us++[int .u8 4,int i64 0,int i64 0,slice none 0 0]) W:=C;have hV:ApV 58 4 f k q l (us++[int .u8 4,int i64 0,int i64 0,slice none 0 0]) W (R.getD 0 undef):=Q 8 R rfl;obtain⟨g',cap,eg,Z,P,y⟩:=hU C hV;rw[eg];have S:Chg (fun b=>(slice k acs.length l).ownBlock=some b) f W:=by rw[u.o];exact P
 have D:(slice k acs.length l).ownBlock=some g'∨f.heap.size≤g':=by rw[u.o];exact Z
 have U:(bS d).at_ f F ⟨4,0,0,[]⟩ [int .u8 4,int i64 0,int i64 0,slice none 0 0]:=eB.2 ⟨⟨by decide,by decide⟩,⟨by decide,by decide⟩,⟨by decide,by decide⟩,slice none 0 0,rfl,Rd.row_nil⟩;obtain⟨V,X,G⟩:=i.o.pushA u.o an.o U D S y;have B:W.cell? ⟨M,7,none⟩=some (.slice k q l):=by rw[Fq _ _ _ _ _ _ (G.trans i.o.m),←u.o];rfl
 have av:=ao (G.trans i.o.m) 7;have HP:Hid (gU F d M ts rs vars nm sal nv cs acs vT vR vV vC (.slice k acs.length l) (.ok ⟨4,0,0,[]⟩) w (.returned (.tuple #[])) (W.setCell ⟨M,7,none⟩ (slice (some ⟨g',0,none⟩) (q+1) cap))):=by
  refine⟨cp (Chg.of_below J.o) X (fun x hx=>Or.inl hx),rfl,F,_,V,fun b j=>?_,fun _ h=>h,fun _ h=>Or.inl h⟩;injection j with j
  have j:g'=b:=j;subst j;rcases D with h|h
  ·exact Or.inl h
  ·have:=J.o.size;exact Or.inr (by omega)
 clear C hV Q eg Z P y S D V X G E0 E1 E2 E3 M2 O U;go_wp2_with fail
 go_end0
 exact HP.o
