/- Parts of one proof, joined; conditions stand in each theorem. -/
import Derived.Test.YtoahnjkclckodaaGreatDoorNE
open Except renaming error→z6,ok→xt
open Go renaming World→J,Value→tT,Calls→wg
open Option renaming none→Y,some→A
open Go.Value renaming slice→O,agg→xk,int→I,string→tS,pointer→vv,tuple→y9
open Go.Ending renaming returned→wj
open Go.IntKind renaming u8→tF,i64→U
open Go.Obj renaming cells→r9
open Or renaming inl→wD,inr→wP
namespace Go.Proofs.YtoahnjkclckodaaGreatDoor
set_option maxHeartbeats 4000000
set_option maxRecDepth 100000
open Go.RowKit
def opR(T:ac) (r:Except Flt (List a8)):Except Flt a8:=match r with
 | .error e=>z6 e
 | .ok ks=>xt (.mk 3 .zero 0 (opM T.h.data.toList T.z.length).1 (if (opM T.h.data.toList T.z.length).2 then ks.reverse else ks))
theorem AV{W:J}{g o:Nat}(a b c d e f h:tT)(k:Nat)(l:k≠g):(st7 W g o a b c d e f h).heap[k]?=W.heap[k]?:=by
 have j:∀(V:J) (i:Nat) (u:tT),(V.setCell ⟨g,i,Y⟩ u).heap[k]?=V.heap[k]?:=fun V i u=>FC V ⟨g,i,Y⟩ u k l
 unfold st7;rw[j,j,j,j,j,j,j]
theorem xI(t:List UInt8)(k:Nat)(h:¬k=2):opM t k=if t==[45] then (4,false) else (11,false):=by
 unfold opM;have e:(k==2)=false:=by simpa using h
 rw[e];rfl
theorem DN{d:Nat}{W:J}{F:Nat→Prop}{q:Option Addr}{m:Nat}{ks:List a8}(h:aw W F 166 (bM d) ks (O q 2 m))(r:ks.length=2) :
  ∃a b k w l f n2 c2 g,ks=[a,b]∧q=A ⟨g,0,Y⟩∧W.ownsRow 0 166 7 (O q 2 m) 2 (cD a (O k w l)++cD b (O f n2 c2))∧
   ∀W',(∀x,F x→∀o,W.heap[x]?=A o→W'.heap[x]?=A o)→W'.ownsRow 0 166 7 (O q 2 m) 2 (cD b (O f n2 c2)++cD a (O k w l))→aw W' F 166 (bM d) [b,a] (O q 2 m):=by
 obtain⟨us,j,y,c⟩:=h
 match ks,r with
 | [a,b],_ =>
  rw[lj]at j y;obtain⟨L,z,n⟩:=c 0 a Z;obtain⟨M,B,p⟩:=c 1 b Z;obtain⟨_,N,rfl,s⟩:=l7.1 z;obtain⟨_,P,rfl,t⟩:=l7.1 B;obtain⟨k,l,rfl⟩:=fM s;obtain⟨f,c2,rfl⟩:=fM t;rw[lj]at n p;have u:us=cD a (O k a.z.length l)++cD b (O f b.z.length c2):=by
   apply List.ext_getElem?;intro i
   by_cases C:i<7
   ·rw[Gf (by exact C)];have:=n i _ (FD (by exact C));rw[show 0*7+i=i by omega]at this;rw[this];exact (FD _).symm
   ·rw[F7 (by show 7≤i;omega)]
    by_cases D:i<14
    ·have E:i-7<(cD b (O f b.z.length c2)).length:=by show i-7<7;omega
     have:=p (i-7) _ (FD E);rw[show 1*7+(i-7)=i by omega]at this;rw[this];exact (FD _).symm
    ·rw[List.getElem?_eq_none (by rw[y];show 2*7≤i;omega),List.getElem?_eq_none (by show 7≤i-7;omega)]
  subst u;have e:W.ownsRow 0 166 7 (O q 2 m) 2 (cD a (O k a.z.length l)++cD b (O f b.z.length c2)):=j;obtain⟨g,G⟩:∃g,q=A ⟨g,0,Y⟩:=by
   rcases e.2 with ⟨_,H⟩|⟨g,_,_,v,_⟩
   ·cases H
   ·injection v with v _ _;exact⟨g,v⟩
  refine⟨a,b,k,_,l,f,_,c2,g,Z,G,e,fun W' r K=>⟨_,?_,Rd.sI (xs:=[b]) (us:=cD b (O f b.z.length c2)) (Rd.sI (xs:=[]) (us:=[]) Rd.tk ((bM d).t r B)) ((bM d).t r z)⟩⟩;rw[lj];exact K
theorem lx{d:Nat}{w w1 W2 W:J}{op:Int}{ks:List a8}{v:tT}(n:Gl w W)(p:w.heap.size+2≤w1.heap.size)(q:W2.heap.size≤W.heap.size)(i:U8 op)
  (c:aw W (fun b=>bf w1 W2 b∧v.ownBlock≠A b) 166 (bM d) ks v) (f:∀g,v.ownBlock=A g→w1.heap.size≤g) (j:∀g,v.ownBlock=A g→g<W2.heap.size) :
  dK (d+1) (xt (.mk 3 .zero 0 op ks)) w (wj (xk #[I tF 3,I tF 0,I U 0,tS ⟨#[]⟩,I U 0,I tF op,v])) (st7 W (w.heap.size+1) 0 (I tF 3) (I tF 0) (I U 0) (tS ⟨#[]⟩) (I U 0) (I tF op) v):=by
 have k:=nw n (F3 _) (I tF 3) (I tF 0) (I U 0) (tS ⟨#[]⟩) (I U 0) (I tF op) v;have t:=(rL (W:=W) (g:=w.heap.size+1) (o:=0) (I tF 3) (I tF 0) (I U 0) (tS ⟨#[]⟩) (I U 0) (I tF op) v).u;have i0:I64 0:=⟨by decide,by decide⟩;have r:U8 0:=⟨by decide,by decide⟩;have s:U8 3:=⟨by decide,by decide⟩;refine⟨k,v,Z,⟨s,⟨r,i0,FR _⟩,i0,i⟩,?_⟩;have l:=c.z (W':=st7 W (w.heap.size+1) 0 (I tF 3) (I tF 0) (I U 0) (tS ⟨#[]⟩) (I U 0) (I tF op) v) (M:=w.heap.size+1) (F':=bf w (st7 W (w.heap.size+1) 0 (I tF 3) (I tF 0) (I U 0) (tS ⟨#[]⟩) (I U 0) (I tF op) v)) (fun e=>by have:=f _ e;omega) (fun b a e=>by have:=a.1.1;omega) (fun b a=>⟨by have:=a.1.1;omega,by have:=a.1.2;omega⟩) (fun b a=>AV _ _ _ _ _ _ _ b a);exact l.h (fun b h=>h) (fun g m=>⟨by have:=f g m;omega,by have:=j g m;omega⟩)
theorem xJ(d M:Nat)(T:ac)(p:Option Addr)(c:Nat)(r:Except Flt (List a8))(w:J)(hk:T.q≠13∧T.q≠14∧T.q≠15)(hs:T.h.size≤72007)(hlen:∀ks,r=xt ks→ks.length=T.z.length)
  (hex:∀W,Gl w W→wg Tryz.prog 159 #[vv (A ⟨M,0,Y⟩),O p T.z.length c] W (jA d r W)) :
  wg Tryz.prog 158 #[vv (A ⟨M,0,Y⟩),xk #[I tF T.q,tS T.h,I U T.u,I U T.t,O p T.z.length c]] w (dK (d+1) (opR T r) w):=by
 obtain⟨n,hn⟩:=zzy (T.z.length);have HN:=Hd hn;rw[hn]at hex hlen ⊢;have HL:=Hd hlen;obtain⟨w1,ad⟩:=zzx ((w.alloc (r9 #[I tF T.q,tS T.h,I U T.u,I U T.t,O p n c] 145)).alloc (r9 #[I tF 0,I tF 0,I U 0,tS ⟨#[]⟩,I U 0,I tF 0,O Y 0 0] 166));obtain⟨af,bm,_⟩:=aW w (r9 #[I tF T.q,tS T.h,I U T.u,I U T.t,O p n c] 145) (r9 #[I tF 0,I tF 0,I U 0,tS ⟨#[]⟩,I U 0,I tF 0,O Y 0 0] 166);have bn:Gl w w1:=by rw[ad];exact ((Fz _ w).alloc (Fy _) _).alloc (by simp) _
 rw[←ad]at af bm;obtain⟨b7,bq,b8,HC⟩:=zz4 af bm bn (hex w1 bn);have c7:¬((T.q:Int)=13):=by have:=hk.1;omega
 have c8:¬((T.q:Int)=14):=by have:=hk.2.1;omega
 have c9:¬((T.q:Int)=15):=by have:=hk.2.2;omega
 obtain⟨e0,e1,e2,e3,e4⟩:=cells5 af;clear af bm bn hex hn hlen hk
 go_enter Tryz.func158,Tryz.ntmps158
 go_upto_region 9 with fail
 change Code.wp _ _ _ _ ((w.alloc (r9 #[I tF T.q,tS T.h,I U T.u,I U T.t,O p n c] 145)).alloc (r9 #[I tF 0,I tF 0,I U 0,tS ⟨#[]⟩,I U 0,I tF 0,O Y 0 0] 166));rw[←ad];clear ad;go_wp2_with fail
 refine HC.o.mono ?_;rintro e W2 ⟨aq,he⟩;obtain⟨j,bt,K⟩:=zz3 (b8.o.trans (aq.mono b8.o.size)) (aa aq b7.o (Fx.1 b7.o).1) (aa aq bq.o (Fx.1 bq.o).1);clear e0 e1 e2 e3 e4 aq
 cases r with
 | error er =>
  have he:e=aJ er.1 er.2:=he;subst he;exact⟨Z,j.o,Z⟩
 | ok ks =>
  obtain⟨v,rfl,B,b9⟩:=he;have bB:=HL.o ks Z;obtain⟨q,k,hv⟩:=B.q;rw[bB]at hv;subst hv;obtain⟨ar,L,HK⟩:=zz3 B b9 bB;obtain⟨e0,e1,e2,e3,e4⟩:=cells5 bt.o;have N:Hid (w.heap.size+2≤w1.heap.size):=by
   have h:=(Fx.1 bq.o).1
   show _≤_
   omega
  have P:=Hd (fun g hg=>B.lt (g:=g) hg);clear B b9 bB;go_upto_region 10 with fail
  obtain⟨W3,a1⟩:=zzx (W2.alloc (r9 #[I tF 3,I tF 0,I U 0,tS ⟨#[]⟩,I U 0,I tF 0,O q n k] 166));have s:Gl W2 W3:=by rw[a1];exact (Fz _ _).alloc (Fy _) _
  have ca:W3.heap[W2.heap.size]?=A (r9 #[I tF 3,I tF 0,I U 0,tS ⟨#[]⟩,I U 0,I tF 0,O q n k] 166 (0,0)):=by rw[a1];exact oA W2 _
  rw[←a1];clear a1 e0 e1 e2 e3 e4;obtain⟨C,E,cv,a6,dd⟩:=zz5 s ca (aa s bt.o (Fx.1 bt.o).1) (aa s K.o (Fx.1 K.o).1) (j.o.trans (s.mono j.o.size));clear s ca;obtain⟨e0,e1,e2,e3,e4⟩:=cells5 cv.o
  by_cases h2:n=2
  ·subst h2;have cb:=Hd (Eu T.h (by unfold maxLen;omega) W3);clear e0 e2 e3;go_upto_region 13 with fail
   clear e4;go_wp2_with fail
   refine cb.o.mono ?_;rintro e u ⟨rfl,D⟩;have f:=aa D E.o (Fx.1 E.o).1;obtain⟨cc,cy,cf⟩:=zz3 f (aa D a6.o (Fx.1 a6.o).1) (C.o.trans (D.mono C.o.size));have f0:=ab f 5;obtain⟨b0,b1,b2,b3,b4,X,b6⟩:=fC f;clear b0 b1 b2 b3 b4 b6 f D e1;go_upto_region 16 with fail
   have HU:=Hd (ET T.h.data.toList 2);have F:Hid (opR T (xt ks)=xt (.mk 3 .zero 0 (opM T.h.data.toList 2).1 (if (opM T.h.data.toList 2).2 then ks.reverse else ks))):=by
    show opR T (xt ks)=_
    unfold opR;rw[HN.o]
   generalize (opM T.h.data.toList 2).1=op at *;generalize (opM T.h.data.toList 2).2=tu at *;obtain⟨W5,Q⟩:=zzx (u.setCell ⟨W2.heap.size,5,Y⟩ (I tF op));have t:W5.heap[W2.heap.size]?=A (r9 #[I tF 3,I tF 0,I U 0,tS ⟨#[]⟩,I U 0,I tF op,O q 2 k] 166 (0,0)):=by rw[Q];exact heap_set cc.o 5 _
   have G:W5.heap[w.heap.size+1]?=A (r9 #[I tF 0,I tF 0,I U 0,tS ⟨#[]⟩,I U 0,I tF 0,O Y 0 0] 166 (0,0)):=by rw[Q];exact (FC u ⟨W2.heap.size,5,Y⟩ _ _ (by have:=(Fx.1 K.o).1;show w.heap.size+1≠W2.heap.size;omega)).trans cy.o
   have a:Gl W2 W5:=by rw[Q];exact cf.o.setCell (Fy _) _
   rw[←Q];clear Q X f0;have ba:=j.o.trans (a.mono j.o.size)
   cases tu with
   | false =>
    have HP:Hid (dK (d+1) (opR T (xt ks)) w (wj (xk #[I tF 3,I tF 0,I U 0,tS ⟨#[]⟩,I U 0,I tF op,O q 2 k])) (st7 W5 (w.heap.size+1) 0 (I tF 3) (I tF 0) (I U 0) (tS ⟨#[]⟩) (I U 0) (I tF op) (O q 2 k))):=by
     show dK _ _ _ _ _
     rw[F.o];exact lx (w1:=w1) (W2:=W2) ba N.o a.size HU.o (ar.o.C a (fun b m=>m.1.2) (fun b m=>m)) L.o P.o
    have z:=Hd (kN G (I tF 3) (I tF 0) (I U 0) (tS ⟨#[]⟩) (I U 0) (I tF op) (O q 2 k));obtain⟨b0,b1,b2,b3,b4,X,b6⟩:=fC t;obtain⟨c0,c1,c2,c3,c4,c5,c6⟩:=fC G;have f0:=ab G;clear t G a ba;go_upto_region 18 with fail
    go_wp2_with fail
    exact jE _ _ (w.heap.size+1) _ _ _ _ _ _ _ z.o _ Z HP.o
   | true =>
    have ch:=ar.o.C (F':=fun b=>bf w1 W2 b∧(O q 2 k).ownBlock≠A b) a (fun b m=>m.1.2) (fun b m=>m);obtain⟨x,y,p1,n1,cA,p2,n2,cC,g,ck,hq,bd,R⟩:=DN ch HK.o;subst hq;have cl:=Hd (Dz x y p1 p2 n1 n2 cA cC g k W5 bd);have cR:=L.o g Z;have cT:=P.o g Z;obtain⟨cV,bk,cm,cn,cp⟩:=zz5 R t G a ba;have bR:Hid (w.heap.size+1≠g∧W2.heap.size≠g∧w.heap.size≤g):=by
     have:=N.o;exact⟨by omega,by omega,by omega⟩
    have cW:=Hd ck;obtain⟨b0,b1,b2,b3,b4,X,b6⟩:=fC t;clear t G a ba ch bd R cR cT ck b0 b1 b2 b3 b4 X;go_upto_region 17 with fail
    go_wp2_with fail
    refine cl.o.mono ?_;rintro e W6 ⟨rfl,H,S⟩;have cr:=(Fx.1 bk.o).1;have bl:=(H.q _ cr bR.o.2.1).trans bk.o;have bb:=(H.q _ (Fx.1 cm.o).1 bR.o.1).trans cm.o;have ct:=Chg.K cp.o H (fun b h=>by rw[h];exact bR.o.2.2) cp.o.size;have cu:=cV.o W6 (fun b m o ho=>(H.q b (FG m.1.2 cn.o.size) (fun e=>m.2 (by rw[e];rfl))).trans ho) S;have HP:Hid (dK (d+1) (opR T (xt ks)) w (wj (xk #[I tF 3,I tF 0,I U 0,tS ⟨#[]⟩,I U 0,I tF op,O (A ⟨g,0,Y⟩) 2 k])) (st7 W6 (w.heap.size+1) 0 (I tF 3) (I tF 0) (I U 0) (tS ⟨#[]⟩) (I U 0) (I tF op) (O (A ⟨g,0,Y⟩) 2 k))):=by
     show dK _ _ _ _ _
     rw[F.o,cW.o];exact lx (w1:=w1) (W2:=W2) ct N.o (FH cn.o.size H.u) HU.o cu L.o P.o
    have z:=Hd (kN bb (I tF 3) (I tF 0) (I U 0) (tS ⟨#[]⟩) (I U 0) (I tF op) (O (A ⟨g,0,Y⟩) 2 k));obtain⟨b0,b1,b2,b3,b4,X,b6⟩:=fC bl;obtain⟨c0,c1,c2,c3,c4,c5,c6⟩:=fC bb;have f0:=ab bb;clear bl bb ct cu H S cr;go_upto_region 18 with fail
    go_wp2_with fail
    exact jE _ _ (w.heap.size+1) _ _ _ _ _ _ _ z.o _ Z HP.o
  ·have dg:¬((n:Int)=2):=by omega
   clear e0 e2 e3;go_upto_region 14 with fail
   clear e4;have f0:=ab E.o 5;obtain⟨b0,b1,b2,b3,b4,X,b6⟩:=fC E.o;clear b0 b1 b2 b3 b4 b6;go_upto_region 16 with fail
   ·have F:Hid (opR T (xt ks)=xt (.mk 3 .zero 0 4 ks)):=by
     have e:(T.h.data.toList==[45])=true:=by rw[←FS];assumption
     show opR T (xt ks)=_
     unfold opR;rw[HN.o,xI _ _ h2,e];rfl
    obtain⟨u,i⟩:=zzx (W3.setCell ⟨W2.heap.size,5,Y⟩ (I tF 4));have f:u.heap[W2.heap.size]?=A (r9 #[I tF 3,I tF 0,I U 0,tS ⟨#[]⟩,I U 0,I tF 4,O q n k] 166 (0,0)):=by rw[i];exact heap_set E.o 5 _
    have l:u.heap[w.heap.size+1]?=A (r9 #[I tF 0,I tF 0,I U 0,tS ⟨#[]⟩,I U 0,I tF 0,O Y 0 0] 166 (0,0)):=by rw[i];exact (FC W3 ⟨W2.heap.size,5,Y⟩ _ _ (by have:=(Fx.1 K.o).1;show w.heap.size+1≠W2.heap.size;omega)).trans a6.o
    have a:Gl W2 u:=by rw[i];exact C.o.setCell (Fy _) _
    rw[←i];clear i X f0;have V:=j.o.trans (a.mono j.o.size);have HP:Hid (dK (d+1) (opR T (xt ks)) w (wj (xk #[I tF 3,I tF 0,I U 0,tS ⟨#[]⟩,I U 0,I tF 4,O q n k])) (st7 u (w.heap.size+1) 0 (I tF 3) (I tF 0) (I U 0) (tS ⟨#[]⟩) (I U 0) (I tF 4) (O q n k))):=by
     show dK _ _ _ _ _
     rw[F.o];exact lx (w1:=w1) (W2:=W2) V N.o a.size ⟨by decide,by decide⟩ (ar.o.C a (fun b m=>m.1.2) (fun b m=>m)) L.o P.o
    have z:=Hd (kN l (I tF 3) (I tF 0) (I U 0) (tS ⟨#[]⟩) (I U 0) (I tF 4) (O q n k));obtain⟨b0,b1,b2,b3,b4,X,b6⟩:=fC f;obtain⟨c0,c1,c2,c3,c4,c5,c6⟩:=fC l;have f0:=ab l;clear f l a V e1;go_upto_region 18 with fail
    go_wp2_with fail
    exact jE _ _ (w.heap.size+1) _ _ _ _ _ _ _ z.o _ Z HP.o
   ·have F:Hid (opR T (xt ks)=xt (.mk 3 .zero 0 11 ks)):=by
     have e:(T.h.data.toList==[45])=false:=by rw[←FS];assumption
     show opR T (xt ks)=_
     unfold opR;rw[HN.o,xI _ _ h2,e];rfl
    obtain⟨u,i⟩:=zzx (W3.setCell ⟨W2.heap.size,5,Y⟩ (I tF 11));have f:u.heap[W2.heap.size]?=A (r9 #[I tF 3,I tF 0,I U 0,tS ⟨#[]⟩,I U 0,I tF 11,O q n k] 166 (0,0)):=by rw[i];exact heap_set E.o 5 _
    have l:u.heap[w.heap.size+1]?=A (r9 #[I tF 0,I tF 0,I U 0,tS ⟨#[]⟩,I U 0,I tF 0,O Y 0 0] 166 (0,0)):=by rw[i];exact (FC W3 ⟨W2.heap.size,5,Y⟩ _ _ (by have:=(Fx.1 K.o).1;show w.heap.size+1≠W2.heap.size;omega)).trans a6.o
    have a:Gl W2 u:=by rw[i];exact C.o.setCell (Fy _) _
    rw[←i];clear i X f0;have V:=j.o.trans (a.mono j.o.size);have HP:Hid (dK (d+1) (opR T (xt ks)) w (wj (xk #[I tF 3,I tF 0,I U 0,tS ⟨#[]⟩,I U 0,I tF 11,O q n k])) (st7 u (w.heap.size+1) 0 (I tF 3) (I tF 0) (I U 0) (tS ⟨#[]⟩) (I U 0) (I tF 11) (O q n k))):=by
     show dK _ _ _ _ _
     rw[F.o];exact lx (w1:=w1) (W2:=W2) V N.o a.size ⟨by decide,by decide⟩ (ar.o.C a (fun b m=>m.1.2) (fun b m=>m)) L.o P.o
    have z:=Hd (kN l (I tF 3) (I tF 0) (I U 0) (tS ⟨#[]⟩) (I U 0) (I tF 11) (O q n k));obtain⟨b0,b1,b2,b3,b4,X,b6⟩:=fC f;obtain⟨c0,c1,c2,c3,c4,c5,c6⟩:=fC l;have f0:=ab l;clear f l a V e1;go_upto_region 18 with fail
    go_wp2_with fail
    exact jE _ _ (w.heap.size+1) _ _ _ _ _ _ _ z.o _ Z HP.o
theorem Aq{α β:Type}{f:α→Except Flt β}:∀(l:List α) (a:List β),cL f l=xt a→a.length=l.length:=by
 have h:∀(l:List α) (b a:List β),be (fun a x=>match f x with | .error e=>z6 e | .ok y=>xt (a++[y])) b l=xt a→a.length=b.length+l.length:=by
  intro l
  induction l with
  | nil=>intro b a h;injection h with h;subst h;rfl
  | cons x l d =>
   intro b a h;unfold be at h
   cases c:f x with
   | error e=>rw[c]at h;cases h
   | ok y =>
    rw[c]at h;have:=d _ _ h;rw[this];simp;omega
 intro l a g;have:=h l [] a g;rw[this];simp
theorem vc(M:Nat)(vars:List ByteArray)(vV:tT):∀(d:Nat) (T:ac) (s:tT) (w:J),nV M vars vV w→eP d T→ap w w.heap.size d T.z s→
  wg Tryz.prog 158 #[vv (A ⟨M,0,Y⟩),xk #[I tF T.q,tS T.h,I U T.u,I U T.t,s]] w (dK d (aY vars d T) w):=by
 intro d
 induction d with
 | zero =>
  intro T s w g a i;obtain⟨p,c,rfl⟩:=i.h
  by_cases b:T.q=14∨T.q=15
  ·exact qz 0 M vars T p _ c w b a.h
  by_cases f:T.q=13
  ·exact vl 0 M vars vV T p _ c w g f
  have j:T.z=[]:=i.1
  have h:=xJ 0 M T p c (xt []) w ⟨f,fun h=>b (wD h),fun h=>b (wP h)⟩ a.h (fun ks h=>by injection h with h;subst h;rw[j];rfl) (fun W k=>by
   have:=oq 0 M vars vV (aY vars 0) [] (O p T.z.length c) W (g.C k) (wD ⟨Z,p,c,by rw[j];rfl⟩) (by simp) (fun T u=>by simp at u)
   exact this)
  refine h.mono ?_;rintro e w' ⟨v,he⟩;refine⟨v,?_⟩;obtain⟨s2,q,r,t⟩:=he;have hm:aY vars 0 T=xt (.mk 3 .zero 0 (opM T.h.data.toList T.z.length).1 []):=by
   unfold aY;have l:(T.q==14||T.q==15)=false:=by simp only[Bool.or_eq_false_iff,pb];exact⟨fun h=>b (wD h),fun h=>b (wP h)⟩
   have m:(T.q==13)=false:=by simpa using f
   rw[l,m];rfl
  rw[hm];have x:(if (opM T.h.data.toList T.z.length).2 then ([]:List a8).reverse else [])=[]:=by split<;>rfl
  rw[x]at q r t;refine⟨s2,q,r,Z,?_⟩;obtain⟨y,c2,z⟩:=fM t;exact⟨y,c2,z⟩
 | succ d B =>
  intro T s w g a i;obtain⟨p,c,rfl⟩:=i.h
  by_cases b:T.q=14∨T.q=15
  ·exact qz (d+1) M vars T p _ c w b a.h
  by_cases f:T.q=13
  ·exact vl (d+1) M vars vV T p _ c w g f
  have h:=xJ d M T p c (cL (aY vars d) T.z) w ⟨f,fun h=>b (wD h),fun h=>b (wP h)⟩ a.h (fun ks h=>Aq _ _ h) (fun W k =>
   oq d M vars vV (aY vars d) T.z (O p T.z.length c) W (g.C k) ((i.C k).up k.size) a.2.1 (fun K C s W' n _ o=>B K s W' n (a.2.2 K C) o))
  refine h.mono ?_;rintro e w' he;have hm:aY vars (d+1) T=opR T (cL (aY vars d) T.z):=by
   conv=>lhs;unfold aY
   have l:(T.q==14||T.q==15)=false:=by simp only[Bool.or_eq_false_iff,pb];exact⟨fun h=>b (wD h),fun h=>b (wP h)⟩
   have m:(T.q==13)=false:=by simpa using f
   rw[l,m];rfl
  rw[hm];exact he
theorem i9:Elem 272 157 4 48:=Elem.of (z:=xk #[I tF 0,I U 0,I U 0,O Y 0 0]) Tryz.underlying157 (by kernel_rfl) Z (by decide) (by decide)
def iD(F:Nat→Prop) (d M:Nat) (ts:List ay) (rs:List aK) (vars:List ByteArray) (nm:ByteArray) (sal nv:Int) (cs:List br) (acs:List dr) (vT vR vV vC vA:tT) (r:Except Flt dr) (w:J) (e:Ending) (w':J):Prop:=
 Chg (aZ M [vT,vR,vV,vC,vA]) w w'∧match r with
 | .ok x=>e=wj (y9 #[])∧∃(F':Nat→Prop) (a:tT),MkW F' d M ts rs vars nm sal nv cs (acs++[x]) vT vR vV vC a w'∧Grew vA a w.heap.size∧(∀b,F b→F' b)∧∀b,F' b→F b∨w.heap.size≤b
 | .error er=>e=aJ er.1 er.2
theorem zH(F:Nat→Prop)(d M:Nat)(ts:List ay)(rs:List aK)(vars:List ByteArray)(nm:ByteArray)(sal nv:Int)(cs:List br)(acs:List dr)(vT vR vV vC vA:tT)(T:ac)(p:Option Addr)(n c:Nat)(w:J)
  (hw:MkW F d M ts rs vars nm sal nv cs acs vT vR vV vC vA w) (hk:T.q≠8∧T.q≠9∧T.q≠10) (a6:acs.length≤10000) :
  wg Tryz.prog 131 #[vv (A ⟨M,0,Y⟩),xk #[I tF T.q,tS T.h,I U T.u,I U T.t,O p n c]] w (iD F d M ts rs vars nm sal nv cs acs vT vR vV vC vA (xt ⟨4,0,0,[]⟩) w):=by
 have k8:¬((T.q:Int)=8):=by have:=hk.1;omega
 have k9:¬((T.q:Int)=9):=by have:=hk.2.1;omega
 have bl:¬((T.q:Int)=10):=by have:=hk.2.2;omega
 obtain⟨k,l,ba⟩:=hw.a.q;subst ba;obtain⟨q,bb⟩:=zzy (acs.length);have u:=Hd bb;obtain⟨f,t⟩:=zzx ((w.alloc (r9 #[I tF T.q,tS T.h,I U T.u,I U T.t,O p n c] 145)).alloc (r9 #[I tF 4,I U 0,I U 0,O Y 0 0] 272));obtain⟨L,z,_⟩:=aW w (r9 #[I tF T.q,tS T.h,I U T.u,I U T.t,O p n c] 145) (r9 #[I tF 4,I U 0,I U 0,O Y 0 0] 272);have B:Gl w f:=by rw[t];exact ((Fz _ w).alloc (Fy _) _).alloc (by simp) _
 rw[←t]at L z;obtain⟨N,r,P,i⟩:=zz4 (fun g hg=>hw.a.lt (g:=g) hg) z B (hw.C B);clear L z B hw hk;obtain⟨us,s,Q⟩:=i.o.a;rw[u.o]at s;rw[u.o]at a6;obtain⟨R,bd⟩:=zz2 s Q;have e0:f.cell? ⟨w.heap.size+1,0,Y⟩=A (I tF 4):=by rw[Gk _ _ _ _ _ _ r.o];rfl
 have e1:f.cell? ⟨w.heap.size+1,1,Y⟩=A (I U 0):=by rw[Gk _ _ _ _ _ _ r.o];rfl
 have e2:f.cell? ⟨w.heap.size+1,2,Y⟩=A (I U 0):=by rw[Gk _ _ _ _ _ _ r.o];rfl
 have e3:f.cell? ⟨w.heap.size+1,3,Y⟩=A (O Y 0 0):=by rw[Gk _ _ _ _ _ _ r.o];rfl
 have C:f.cell? ⟨M,7,Y⟩=A (O k q l):=by rw[Gk _ _ _ _ _ _ i.o.m,←u.o];rfl
 have hK:∀b,(b=M∨b=w.heap.size+1)→b<f.heap.size∧(O k q l).ownBlock≠A b:=fun b j=>by
  rw[←u.o];rcases j with rfl|rfl
  ·exact⟨i.o.lt,row_ne i.o.m i.o.a (by decide)⟩
  ·exact⟨(Fx.1 r.o).1,fun e=>by have:=N.o _ e;omega⟩
 have S:=Hd (jp (E:=272) (sz:=4) (row:=us++[I tF 4,I U 0,I U 0,O Y 0 0]) (K:=fun b=>b=M∨b=w.heap.size+1) hK);have E0:=fun x:Ks f (fun b=>b=M∨b=w.heap.size+1)=>x.h (wP Z) e0
 have E1:=fun x:Ks f (fun b=>b=M∨b=w.heap.size+1)=>x.h (wP Z) e1
 have E2:=fun x:Ks f (fun b=>b=M∨b=w.heap.size+1)=>x.h (wP Z) e2
 have E3:=fun x:Ks f (fun b=>b=M∨b=w.heap.size+1)=>x.h (wP Z) e3
 have M2:=fun x:Ks f (fun b=>b=M∨b=w.heap.size+1)=>x.h (wD Z) C
 clear s Q e0 e1 e2 e3 C hK
 go_enter Tryz.func131,Tryz.ntmps131
 go_upto_region 10 with fail
 change Code.wp _ _ _ _ ((w.alloc (r9 #[I tF T.q,tS T.h,I U T.u,I U T.t,O p n c] 145)).alloc (r9 #[I tF 4,I U 0,I U 0,O Y 0 0] 272));rw[←t];clear t;refine RE.u (by kernel_rfl) 9 [7,8] [8] (stA 272 4 f k q l (us++[I tF 4,I U 0,I U 0,O Y 0 0])) (ApR f) (fun _ ys=>ys.getD 0 undef) (phA 272 4 f k q l [I tF 4,I U 0,I U 0,O Y 0 0] (us++[I tF 4,I U 0,I U 0,O Y 0 0]) 7 8) (by kernel_rfl) (fun _ _ _ _ _ _ h j=>h.C j) (fun _ _ _ _ h _ hR=>h.t hR) stA.zero ?_;simp only[FO,FY,FQ,FX]
 repeat (refine RE.q (fun W=>∃x:Ks f (fun b=>b=M∨b=w.heap.size+1),W=x.1) (S.o _) Z Z Z stA.zero ?_;go_big_quiet_step (fail);refine wpQuiet_nil ?_)
 refine RE.h Z Z ?_ (fun bk=>?_)
 ·intro W V D X;obtain⟨s9,_,h9⟩:=V;exact dU i9 (vs:=[I tF 4,I U 0,I U 0,O Y 0 0]) _ Z Z Z h9.u (fun v W' j ho=>⟨[v],Z,j,ApR.t j,ho⟩)
 simp only[Act.put,FA,FM,FK];refine RE.h Z Z ?_ (fun ad=>?_)
 ·intro W V D X;obtain⟨x,rfl⟩:∃x:Wb f,W=x.1:=D Z;exact iF i9 (p:=k) (n:=q) (c:=l) (w4:=f) (vs:=[I tF 4,I U 0,I U 0,O Y 0 0]) (xs:=us) _ _ Z Z (X 7 bk (by kernel_rfl) Z) Z (by simp[Value.oneCell']) x.2 R.o (by omega) (fun v' W' h1 h2 h3=>⟨[v'],Z,h1,h2,h3⟩)
 simp only[Act.put,FA,FM,FK];refine RE.t ?_;intro W D X;have D:ApS 272 4 f k q l (us++[I tF 4,I U 0,I U 0,O Y 0 0]) W:=D;have hV:ApV 272 4 f k q l (us++[I tF 4,I U 0,I U 0,O Y 0 0]) W (ad.getD 0 undef):=X 8 ad Z;obtain⟨g',cap,eg,hg,V,y⟩:=ju D hV;rw[eg];have af:Chg (fun b=>(O k acs.length l).ownBlock=A b) f W:=by rw[u.o];exact V
 have G:(O k acs.length l).ownBlock=A g'∨f.heap.size≤g':=by rw[u.o];exact hg
 have aq:(iU d).at_ f F ⟨4,0,0,[]⟩ [I tF 4,I U 0,I U 0,O Y 0 0]:=qE.2 ⟨⟨by decide,by decide⟩,⟨by decide,by decide⟩,⟨by decide,by decide⟩,O Y 0 0,Z,Rd.th⟩;obtain⟨ar,a1,H⟩:=i.o.pushA u.o bd.o aq G af y;have C:W.cell? ⟨M,7,Y⟩=A (O k q l):=by rw[Gk _ _ _ _ _ _ (H.trans i.o.m),←u.o];rfl
 have bm:=ax (H.trans i.o.m) 7;have HP:Hid (iD F d M ts rs vars nm sal nv cs acs vT vR vV vC (O k acs.length l) (xt ⟨4,0,0,[]⟩) w (wj (y9 #[])) (W.setCell ⟨M,7,Y⟩ (O (A ⟨g',0,Y⟩) (q+1) cap))):=by
  refine⟨dw (Chg.t P.o) a1 (fun x hx=>wD hx),Z,F,_,ar,fun b j=>?_,fun _ h=>h,fun _ h=>wD h⟩;injection j with j
  have j:g'=b:=j;subst j;rcases G with h|h
  ·exact wD h
  ·have:=P.o.size;exact wP (by omega)
 clear D hV X eg hg V y af G ar a1 H E0 E1 E2 E3 M2 S aq;go_wp2_with fail
 go_end0
 exact HP.o
