/- Parts of one proof, joined; conditions stand in each theorem. -/
import Derived.Test.YtmpekinjoeibbaaGreatDoorNE
open Except renaming error→wD,ok→vb
open Go renaming World→p7,Value→r3,Calls→r9
open Option renaming none→V,some→A
open Go.Value renaming slice→O,agg→s3,int→I,string→p9,pointer→tv,tuple→wF
open Go.Ending renaming returned→tF
open Go.IntKind renaming u8→J,i64→Y
open Go.Obj renaming cells→p8
open Or renaming inl→tE,inr→tS
namespace Go.Proofs.YtmpekinjoeibbaaGreatDoor
set_option maxHeartbeats 4000000
set_option maxRecDepth 100000
open Go.RowKit
def opR(T:ah) (r:Except Flt (List aw)):Except Flt aw:=match r with
 | .error e=>wD e
 | .ok a=>vb (.mk 3 .zero 0 (opM T.h.data.toList T.u.length).1 (if (opM T.h.data.toList T.u.length).2 then a.reverse else a))
theorem AA{W:p7}{g o:Nat}(a b c d e f h:r3)(k:Nat)(m:k≠g):(st7 W g o a b c d e f h).heap[k]?=W.heap[k]?:=by
 have j:∀(l:p7) (i:Nat) (u:r3),(l.setCell ⟨g,i,V⟩ u).heap[k]?=l.heap[k]?:=fun l i u=>EW l ⟨g,i,V⟩ u k m
 unfold st7;rw[j,j,j,j,j,j,j]
theorem xE(t:List UInt8)(k:Nat)(h:¬k=2):opM t k=if t==[45] then (4,false) else (11,false):=by
 unfold opM;have e:(k==2)=false:=by simpa using h
 rw[e];rfl
theorem Dp{d:Nat}{W:p7}{F:Nat→Prop}{q:Option Addr}{m:Nat}{s:List aw}(h:cO W F 51 (bP d) s (O q 2 m))(t:s.length=2) :
  ∃a b l C c1 j n2 c2 g,s=[a,b]∧q=A ⟨g,0,V⟩∧W.ownsRow 0 51 7 (O q 2 m) 2 (bU a (O l C c1)++bU b (O j n2 c2))∧
   ∀W',(∀x,F x→∀o,W.heap[x]?=A o→W'.heap[x]?=A o)→W'.ownsRow 0 51 7 (O q 2 m) 2 (bU b (O j n2 c2)++bU a (O l C c1))→cO W' F 51 (bP d) [b,a] (O q 2 m):=by
 obtain⟨us,k,G,f,u,D,c⟩:=h
 match s,t with
 | [a,b],_ =>
  rw[ge]at k D;obtain⟨Q,E,n⟩:=c 0 a Z;obtain⟨R,H,p⟩:=c 1 b Z;obtain⟨_,S,rfl,v⟩:=fS.1 E;obtain⟨_,T,rfl,w⟩:=fS.1 H;obtain⟨l,c1,rfl⟩:=eS.b v;obtain⟨j,c2,rfl⟩:=eS.b w;rw[ge]at n p;have y:us=bU a (O l a.u.length c1)++bU b (O j b.u.length c2):=by
   apply List.ext_getElem?;intro i
   by_cases K:i<7
   ·rw[FM (by exact K)];have:=n i _ (EX (by exact K));rw[show 0*7+i=i by omega]at this;rw[this];exact (EX _).symm
   ·rw[FA (by show 7≤i;omega)]
    by_cases L:i<14
    ·have M:i-7<(bU b (O j b.u.length c2)).length:=by show i-7<7;omega
     have:=p (i-7) _ (EX M);rw[show 1*7+(i-7)=i by omega]at this;rw[this];exact (EX _).symm
    ·rw[List.getElem?_eq_none (by rw[D];show 2*7≤i;omega),List.getElem?_eq_none (by show 7≤i-7;omega)]
  subst y;have e:W.ownsRow 0 51 7 (O q 2 m) 2 (bU a (O l a.u.length c1)++bU b (O j b.u.length c2)):=k;obtain⟨g,N⟩:∃g,q=A ⟨g,0,V⟩:=by
   rcases e.2 with ⟨_,z⟩|⟨g,_,_,r,_⟩
   ·cases z
   ·injection r with r _ _;exact⟨g,r⟩
  refine⟨a,b,l,_,c1,j,_,c2,g,Z,N,e,fun W' t P=>⟨_,?_,Rd.tf (F:=G 1) (xs:=[b]) (us:=bU b (O j b.u.length c2)) (Rd.tf (F:=fun _=>False) (xs:=[]) (us:=[]) Rd.lcells_nil ((bP d).t (fun x B=>t x (f 1 x B)) H) (fun _ h=>h.elim) (fun _ h=>h.elim) (fun _ h=>h)) ((bP d).t (fun x B=>t x (f 0 x B)) E) (fun x r z=>absurd (u 1 0 x r z) (by decide)) (f 1) (f 0)⟩⟩;rw[ge];exact P
theorem kT{d:Nat}{w w1 W2 W:p7}{op:Int}{n:List aw}{v:r3}(p:FS w W)(q:w.heap.size+2≤w1.heap.size)(r:W2.heap.size≤W.heap.size)(i:U8 op)
  (c:cO W (fun b=>aW w1 W2 b∧v.ownBlock≠A b) 51 (bP d) n v) (f:∀g,v.ownBlock=A g→w1.heap.size≤g) (j:∀g,v.ownBlock=A g→g<W2.heap.size) :
  dM (d+1) (vb (.mk 3 .zero 0 op n)) w (tF (s3 #[I J 3,I J 0,I Y 0,p9 ⟨#[]⟩,I Y 0,I J op,v])) (st7 W (w.heap.size+1) 0 (I J 3) (I J 0) (I Y 0) (p9 ⟨#[]⟩) (I Y 0) (I J op) v):=by
 have k:=mw p (Fw _) (I J 3) (I J 0) (I Y 0) (p9 ⟨#[]⟩) (I Y 0) (I J op) v;have u:=(qZ (W:=W) (g:=w.heap.size+1) (o:=0) (I J 3) (I J 0) (I Y 0) (p9 ⟨#[]⟩) (I Y 0) (I J op) v).u;have i0:I64 0:=⟨by decide,by decide⟩;have s:U8 0:=⟨by decide,by decide⟩;have t:U8 3:=⟨by decide,by decide⟩;refine⟨k,v,Z,⟨t,⟨s,i0,Fi _⟩,i0,i⟩,?_⟩;have l:=c.q (W':=st7 W (w.heap.size+1) 0 (I J 3) (I J 0) (I Y 0) (p9 ⟨#[]⟩) (I Y 0) (I J op) v) (M:=w.heap.size+1) (fun e=>by have:=f _ e;omega) (fun b a e=>by have:=a.1.1;omega) (fun _ a=>a) (fun b a=>AA _ _ _ _ _ _ _ b a);exact l.lrow (fun b a=>⟨by have:=a.1.1;omega,by have:=a.1.2;omega⟩) (fun g m=>⟨⟨by have:=f g m;omega,by have:=j g m;omega⟩,fun h=>h.2 m⟩)
theorem xF(d M:Nat)(T:ah)(p:Option Addr)(c:Nat)(r:Except Flt (List aw))(w:p7)(hk:T.b≠13∧T.b≠14∧T.b≠15)(hs:T.h.size≤72007)(hlen:∀m,r=vb m→m.length=T.u.length)
  (hex:∀W,FS w W→r9 Tryz.prog 110 #[tv (A ⟨M,0,V⟩),O p T.u.length c] W (jz d r W)) :
  r9 Tryz.prog 109 #[tv (A ⟨M,0,V⟩),s3 #[I J T.b,p9 T.h,I Y T.q,I Y T.t,O p T.u.length c]] w (dM (d+1) (opR T r) w):=by
 obtain⟨n,hn⟩:=zzy (T.u.length);have HN:=Hd hn;rw[hn]at hex hlen ⊢;have HL:=Hd hlen;obtain⟨w1,ad⟩:=zzx ((w.alloc (p8 #[I J T.b,p9 T.h,I Y T.q,I Y T.t,O p n c] 64)).alloc (p8 #[I J 0,I J 0,I Y 0,p9 ⟨#[]⟩,I Y 0,I J 0,O V 0 0] 51));obtain⟨af,bb,_⟩:=ay w (p8 #[I J T.b,p9 T.h,I Y T.q,I Y T.t,O p n c] 64) (p8 #[I J 0,I J 0,I Y 0,p9 ⟨#[]⟩,I Y 0,I J 0,O V 0 0] 51);have bc:FS w w1:=by rw[ad];exact ((EU _ w).alloc (ET _) _).alloc (by simp) _
 rw[←ad]at af bb;obtain⟨bq,bd,br,HC⟩:=zz4 af bb bc (hex w1 bc);have c9:¬((T.b:Int)=13):=by have:=hk.1;omega
 have da:¬((T.b:Int)=14):=by have:=hk.2.1;omega
 have dc:¬((T.b:Int)=15):=by have:=hk.2.2;omega
 obtain⟨e0,e1,e2,e3,e4⟩:=cells5 af;clear af bb bc hex hn hlen hk
 go_enter Tryz.func109,Tryz.ntmps109
 go_upto_region 9 with fail
 change Code.wp _ _ _ _ ((w.alloc (p8 #[I J T.b,p9 T.h,I Y T.q,I Y T.t,O p n c] 64)).alloc (p8 #[I J 0,I J 0,I Y 0,p9 ⟨#[]⟩,I Y 0,I J 0,O V 0 0] 51));rw[←ad];clear ad;go_wp2_with fail
 refine HC.o.mono ?_;rintro e W2 ⟨ak,he⟩;obtain⟨j,bk,L⟩:=zz3 (br.o.trans (ak.mono br.o.size)) (ag ak bq.o (ES.1 bq.o).1) (ag ak bd.o (ES.1 bd.o).1);clear e0 e1 e2 e3 e4 ak
 cases r with
 | error er =>
  have he:e=aQ er.1 er.2:=he;subst he;exact⟨Z,j.o,Z⟩
 | ok m =>
  obtain⟨v,rfl,C,bt⟩:=he;have bl:=HL.o m Z;obtain⟨q,k,hv⟩:=C.b;rw[bl]at hv;subst hv;obtain⟨aq,N,HK⟩:=zz3 C bt bl;obtain⟨e0,e1,e2,e3,e4⟩:=cells5 bk.o;have P:Hid (w.heap.size+2≤w1.heap.size):=by
   have h:=(ES.1 bd.o).1
   show _≤_
   omega
  have Q:=Hd (fun g hg=>C.lt (g:=g) hg);clear C bt bl;go_upto_region 10 with fail
  obtain⟨W3,ar⟩:=zzx (W2.alloc (p8 #[I J 3,I J 0,I Y 0,p9 ⟨#[]⟩,I Y 0,I J 0,O q n k] 51));have t:FS W2 W3:=by rw[ar];exact (EU _ _).alloc (ET _) _
  have bB:W3.heap[W2.heap.size]?=A (p8 #[I J 3,I J 0,I Y 0,p9 ⟨#[]⟩,I Y 0,I J 0,O q n k] 51 (0,0)):=by rw[ar];exact ot W2 _
  rw[←ar];clear ar e0 e1 e2 e3 e4;obtain⟨D,F,cu,av,dd⟩:=zz5 t bB (ag t bk.o (ES.1 bk.o).1) (ag t L.o (ES.1 L.o).1) (j.o.trans (t.mono j.o.size));clear t bB;obtain⟨e0,e1,e2,e3,e4⟩:=cells5 cu.o
  by_cases h2:n=2
  ·subst h2;have bR:=Hd (Ea T.h (by unfold maxLen;omega) W3);clear e0 e2 e3;go_upto_region 13 with fail
   clear e4;go_wp2_with fail
   refine bR.o.mono ?_;rintro e z ⟨rfl,E⟩;have f:=ag E F.o (ES.1 F.o).1;obtain⟨b7,cv,b8⟩:=zz3 f (ag E av.o (ES.1 av.o).1) (D.o.trans (E.mono D.o.size));have f0:=ae f 5;obtain⟨b0,b1,b2,b3,b4,b5,b6⟩:=fA f;clear b0 b1 b2 b3 b4 b6 f E e1;go_upto_region 16 with fail
   have HU:=Hd (Ey T.h.data.toList 2);have G:Hid (opR T (vb m)=vb (.mk 3 .zero 0 (opM T.h.data.toList 2).1 (if (opM T.h.data.toList 2).2 then m.reverse else m))):=by
    show opR T (vb m)=_
    unfold opR;rw[HN.o]
   generalize (opM T.h.data.toList 2).1=op at *;generalize (opM T.h.data.toList 2).2=tu at *;obtain⟨W5,R⟩:=zzx (z.setCell ⟨W2.heap.size,5,V⟩ (I J op));have u:W5.heap[W2.heap.size]?=A (p8 #[I J 3,I J 0,I Y 0,p9 ⟨#[]⟩,I Y 0,I J op,O q 2 k] 51 (0,0)):=by rw[R];exact heap_set b7.o 5 _
   have H:W5.heap[w.heap.size+1]?=A (p8 #[I J 0,I J 0,I Y 0,p9 ⟨#[]⟩,I Y 0,I J 0,O V 0 0] 51 (0,0)):=by rw[R];exact (EW z ⟨W2.heap.size,5,V⟩ _ _ (by have:=(ES.1 L.o).1;show w.heap.size+1≠W2.heap.size;omega)).trans cv.o
   have a:FS W2 W5:=by rw[R];exact b8.o.setCell (ET _) _
   rw[←R];clear R b5 f0;have a1:=j.o.trans (a.mono j.o.size)
   cases tu with
   | false =>
    have HP:Hid (dM (d+1) (opR T (vb m)) w (tF (s3 #[I J 3,I J 0,I Y 0,p9 ⟨#[]⟩,I Y 0,I J op,O q 2 k])) (st7 W5 (w.heap.size+1) 0 (I J 3) (I J 0) (I Y 0) (p9 ⟨#[]⟩) (I Y 0) (I J op) (O q 2 k))):=by
     show dM _ _ _ _ _
     rw[G.o];exact kT (w1:=w1) (W2:=W2) a1 P.o a.size HU.o (aq.o.C a (fun b s=>s.1.2) (fun b s=>s)) N.o Q.o
    have B:=Hd (kq H (I J 3) (I J 0) (I Y 0) (p9 ⟨#[]⟩) (I Y 0) (I J op) (O q 2 k));obtain⟨b0,b1,b2,b3,b4,b5,b6⟩:=fA u;obtain⟨c0,c1,c2,c3,c4,c5,c6⟩:=fA H;have f0:=ae H;clear u H a a1;go_upto_region 18 with fail
    go_wp2_with fail
    exact jA _ _ (w.heap.size+1) _ _ _ _ _ _ _ B.o _ Z HP.o
   | true =>
    have b9:=aq.o.C (F':=fun b=>aW w1 W2 b∧(O q 2 k).ownBlock≠A b) a (fun b s=>s.1.2) (fun b s=>s);obtain⟨x,y,p1,n1,cx,p2,n2,cT,g,ca,hq,a7,S⟩:=Dp b9 HK.o;subst hq;have cb:=Hd (De x y p1 p2 n1 n2 cx cT g k W5 a7);have cV:=N.o g Z;have cW:=Q.o g Z;obtain⟨c7,a8,ch,ck,cl⟩:=zz5 S u H a a1;have bn:Hid (w.heap.size+1≠g∧W2.heap.size≠g∧w.heap.size≤g):=by
     have:=P.o;exact⟨by omega,by omega,by omega⟩
    have c8:=Hd ca;obtain⟨b0,b1,b2,b3,b4,b5,b6⟩:=fA u;clear u H a a1 b9 a7 S cV cW ca b0 b1 b2 b3 b4 b5;go_upto_region 17 with fail
    go_wp2_with fail
    refine cb.o.mono ?_;rintro e W6 ⟨rfl,K,U⟩;have cp:=(ES.1 a8.o).1;have ba:=(K.q _ cp bn.o.2.1).trans a8.o;have a6:=(K.q _ (ES.1 ch.o).1 bn.o.1).trans ch.o;have cr:=Chg.T cl.o K (fun b h=>by rw[h];exact bn.o.2.2) cl.o.size;have ct:=c7.o W6 (fun b s o ho=>(K.q b (EY s.1.2 ck.o.size) (fun e=>s.2 (by rw[e];rfl))).trans ho) U;have HP:Hid (dM (d+1) (opR T (vb m)) w (tF (s3 #[I J 3,I J 0,I Y 0,p9 ⟨#[]⟩,I Y 0,I J op,O (A ⟨g,0,V⟩) 2 k])) (st7 W6 (w.heap.size+1) 0 (I J 3) (I J 0) (I Y 0) (p9 ⟨#[]⟩) (I Y 0) (I J op) (O (A ⟨g,0,V⟩) 2 k))):=by
     show dM _ _ _ _ _
     rw[G.o,c8.o];exact kT (w1:=w1) (W2:=W2) cr P.o (EZ ck.o.size K.u) HU.o ct N.o Q.o
    have B:=Hd (kq a6 (I J 3) (I J 0) (I Y 0) (p9 ⟨#[]⟩) (I Y 0) (I J op) (O (A ⟨g,0,V⟩) 2 k));obtain⟨b0,b1,b2,b3,b4,b5,b6⟩:=fA ba;obtain⟨c0,c1,c2,c3,c4,c5,c6⟩:=fA a6;have f0:=ae a6;clear ba a6 cr ct K U cp;go_upto_region 18 with fail
    go_wp2_with fail
    exact jA _ _ (w.heap.size+1) _ _ _ _ _ _ _ B.o _ Z HP.o
  ·have dg:¬((n:Int)=2):=by omega
   clear e0 e2 e3;go_upto_region 14 with fail
   clear e4;have f0:=ae F.o 5;obtain⟨b0,b1,b2,b3,b4,b5,b6⟩:=fA F.o;clear b0 b1 b2 b3 b4 b6;go_upto_region 16 with fail
   ·have G:Hid (opR T (vb m)=vb (.mk 3 .zero 0 4 m)):=by
     have e:(T.h.data.toList==[45])=true:=by rw[←Fj];assumption
     show opR T (vb m)=_
     unfold opR;rw[HN.o,xE _ _ h2,e];rfl
    obtain⟨z,i⟩:=zzx (W3.setCell ⟨W2.heap.size,5,V⟩ (I J 4));have f:z.heap[W2.heap.size]?=A (p8 #[I J 3,I J 0,I Y 0,p9 ⟨#[]⟩,I Y 0,I J 4,O q n k] 51 (0,0)):=by rw[i];exact heap_set F.o 5 _
    have l:z.heap[w.heap.size+1]?=A (p8 #[I J 0,I J 0,I Y 0,p9 ⟨#[]⟩,I Y 0,I J 0,O V 0 0] 51 (0,0)):=by rw[i];exact (EW W3 ⟨W2.heap.size,5,V⟩ _ _ (by have:=(ES.1 L.o).1;show w.heap.size+1≠W2.heap.size;omega)).trans av.o
    have a:FS W2 z:=by rw[i];exact D.o.setCell (ET _) _
    rw[←i];clear i b5 f0;have X:=j.o.trans (a.mono j.o.size);have HP:Hid (dM (d+1) (opR T (vb m)) w (tF (s3 #[I J 3,I J 0,I Y 0,p9 ⟨#[]⟩,I Y 0,I J 4,O q n k])) (st7 z (w.heap.size+1) 0 (I J 3) (I J 0) (I Y 0) (p9 ⟨#[]⟩) (I Y 0) (I J 4) (O q n k))):=by
     show dM _ _ _ _ _
     rw[G.o];exact kT (w1:=w1) (W2:=W2) X P.o a.size ⟨by decide,by decide⟩ (aq.o.C a (fun b s=>s.1.2) (fun b s=>s)) N.o Q.o
    have B:=Hd (kq l (I J 3) (I J 0) (I Y 0) (p9 ⟨#[]⟩) (I Y 0) (I J 4) (O q n k));obtain⟨b0,b1,b2,b3,b4,b5,b6⟩:=fA f;obtain⟨c0,c1,c2,c3,c4,c5,c6⟩:=fA l;have f0:=ae l;clear f l a X e1;go_upto_region 18 with fail
    go_wp2_with fail
    exact jA _ _ (w.heap.size+1) _ _ _ _ _ _ _ B.o _ Z HP.o
   ·have G:Hid (opR T (vb m)=vb (.mk 3 .zero 0 11 m)):=by
     have e:(T.h.data.toList==[45])=false:=by rw[←Fj];assumption
     show opR T (vb m)=_
     unfold opR;rw[HN.o,xE _ _ h2,e];rfl
    obtain⟨z,i⟩:=zzx (W3.setCell ⟨W2.heap.size,5,V⟩ (I J 11));have f:z.heap[W2.heap.size]?=A (p8 #[I J 3,I J 0,I Y 0,p9 ⟨#[]⟩,I Y 0,I J 11,O q n k] 51 (0,0)):=by rw[i];exact heap_set F.o 5 _
    have l:z.heap[w.heap.size+1]?=A (p8 #[I J 0,I J 0,I Y 0,p9 ⟨#[]⟩,I Y 0,I J 0,O V 0 0] 51 (0,0)):=by rw[i];exact (EW W3 ⟨W2.heap.size,5,V⟩ _ _ (by have:=(ES.1 L.o).1;show w.heap.size+1≠W2.heap.size;omega)).trans av.o
    have a:FS W2 z:=by rw[i];exact D.o.setCell (ET _) _
    rw[←i];clear i b5 f0;have X:=j.o.trans (a.mono j.o.size);have HP:Hid (dM (d+1) (opR T (vb m)) w (tF (s3 #[I J 3,I J 0,I Y 0,p9 ⟨#[]⟩,I Y 0,I J 11,O q n k])) (st7 z (w.heap.size+1) 0 (I J 3) (I J 0) (I Y 0) (p9 ⟨#[]⟩) (I Y 0) (I J 11) (O q n k))):=by
     show dM _ _ _ _ _
     rw[G.o];exact kT (w1:=w1) (W2:=W2) X P.o a.size ⟨by decide,by decide⟩ (aq.o.C a (fun b s=>s.1.2) (fun b s=>s)) N.o Q.o
    have B:=Hd (kq l (I J 3) (I J 0) (I Y 0) (p9 ⟨#[]⟩) (I Y 0) (I J 11) (O q n k));obtain⟨b0,b1,b2,b3,b4,b5,b6⟩:=fA f;obtain⟨c0,c1,c2,c3,c4,c5,c6⟩:=fA l;have f0:=ae l;clear f l a X e1;go_upto_region 18 with fail
    go_wp2_with fail
    exact jA _ _ (w.heap.size+1) _ _ _ _ _ _ _ B.o _ Z HP.o
theorem Ab{α β:Type}{f:α→Except Flt β}:∀(l:List α) (ys:List β),dx f l=vb ys→ys.length=l.length:=by
 have h:∀(l:List α) (a ys:List β),bs (fun ys x=>match f x with | .error e=>wD e | .ok y=>vb (ys++[y])) a l=vb ys→ys.length=a.length+l.length:=by
  intro l
  induction l with
  | nil=>intro a ys h;injection h with h;subst h;rfl
  | cons x l c =>
   intro a ys h;unfold bs at h
   cases b:f x with
   | error e=>rw[b]at h;cases h
   | ok y =>
    rw[b]at h;have:=c _ _ h;rw[this];simp;omega
 intro l ys d;have:=h l [] ys d;rw[this];simp
theorem vd(M:Nat)(vars:List ByteArray)(vV:r3):∀(d:Nat) (T:ah) (s:r3) (w:p7),mP M vars vV w→eW d T→aF w w.heap.size d T.u s→
  r9 Tryz.prog 109 #[tv (A ⟨M,0,V⟩),s3 #[I J T.b,p9 T.h,I Y T.q,I Y T.t,s]] w (dM d (bo vars d T) w):=by
 intro d
 induction d with
 | zero =>
  intro T s w hv a i;obtain⟨p,c,rfl⟩:=i.t
  by_cases b:T.b=14∨T.b=15
  ·exact pX 0 M vars T p _ c w b a.h
  by_cases f:T.b=13
  ·exact vm 0 M vars vV T p _ c w hv f
  have j:T.u=[]:=i.1
  have h:=xF 0 M T p c (vb []) w ⟨f,fun h=>b (tE h),fun h=>b (tS h)⟩ a.h (fun x h=>by injection h with h;subst h;rw[j];rfl) (fun W k=>by
   have:=nj 0 M vars vV (bo vars 0) [] (O p T.u.length c) W (hv.C k) (tE ⟨Z,p,c,by rw[j];rfl⟩) (by simp) (fun T y=>by simp at y)
   exact this)
  refine h.mono ?_;rintro e w' ⟨z,he⟩;refine⟨z,?_⟩;obtain⟨s2,r,t,u⟩:=he;have hm:bo vars 0 T=vb (.mk 3 .zero 0 (opM T.h.data.toList T.u.length).1 []):=by
   unfold bo;have l:(T.b==14||T.b==15)=false:=by simp only[Bool.or_eq_false_iff,pr];exact⟨fun h=>b (tE h),fun h=>b (tS h)⟩
   have m:(T.b==13)=false:=by simpa using f
   rw[l,m];rfl
  rw[hm];have B:(if (opM T.h.data.toList T.u.length).2 then ([]:List aw).reverse else [])=[]:=by split<;>rfl
  rw[B]at r t u;refine⟨s2,r,t,Z,?_⟩;obtain⟨us,H,v,L,_,C⟩:=u;have D:us.length=0*(bP 0).n:=v.1;obtain rfl:us=[]:=Fy (by rw[D];simp);exact⟨v,fun g E=>(C g E).1⟩
 | succ d F =>
  intro T s w hv a i;obtain⟨p,c,rfl⟩:=i.t
  by_cases b:T.b=14∨T.b=15
  ·exact pX (d+1) M vars T p _ c w b a.h
  by_cases f:T.b=13
  ·exact vm (d+1) M vars vV T p _ c w hv f
  have h:=xF d M T p c (dx (bo vars d) T.u) w ⟨f,fun h=>b (tE h),fun h=>b (tS h)⟩ a.h (fun x h=>Ab _ _ h) (fun W k =>
   nj d M vars vV (bo vars d) T.u (O p T.u.length c) W (hv.C k) ((i.C k).up k.size) a.2.1 (fun K G s W' o _ q=>F K s W' o (a.2.2 K G) q))
  refine h.mono ?_;rintro e w' he;have hm:bo vars (d+1) T=opR T (dx (bo vars d) T.u):=by
   conv=>lhs;unfold bo
   have l:(T.b==14||T.b==15)=false:=by simp only[Bool.or_eq_false_iff,pr];exact⟨fun h=>b (tE h),fun h=>b (tS h)⟩
   have m:(T.b==13)=false:=by simpa using f
   rw[l,m];rfl
  rw[hm];exact he
theorem jb:Elem 59 37 4 48:=Elem.of (z:=s3 #[I J 0,I Y 0,I Y 0,O V 0 0]) Tryz.underlying37 (by kernel_rfl) Z (by decide) (by decide)
def iF(F:Nat→Prop) (d M:Nat) (ts:List ap) (rs:List au) (vars:List ByteArray) (nm:ByteArray) (sal nv:Int) (cs:List aK) (acs:List bm) (vT vR vV vC vA:r3) (r:Except Flt bm) (w:p7) (e:Ending) (w':p7):Prop:=
 Chg (bf M [vT,vR,vV,vC,vA]) w w'∧match r with
 | .ok x=>e=tF (wF #[])∧∃(F':Nat→Prop) (a:r3),MkW F' d M ts rs vars nm sal nv cs (acs++[x]) vT vR vV vC a w'∧Grew vA a w.heap.size∧(∀b,F b→F' b)∧∀b,F' b→F b∨w.heap.size≤b
 | .error er=>e=aQ er.1 er.2
theorem zt(F:Nat→Prop)(d M:Nat)(ts:List ap)(rs:List au)(vars:List ByteArray)(nm:ByteArray)(sal nv:Int)(cs:List aK)(acs:List bm)(vT vR vV vC vA:r3)(T:ah)(p:Option Addr)(n c:Nat)(w:p7)
  (hw:MkW F d M ts rs vars nm sal nv cs acs vT vR vV vC vA w) (hk:T.b≠8∧T.b≠9∧T.b≠10) (ar:acs.length≤10000) :
  r9 Tryz.prog 52 #[tv (A ⟨M,0,V⟩),s3 #[I J T.b,p9 T.h,I Y T.q,I Y T.t,O p n c]] w (iF F d M ts rs vars nm sal nv cs acs vT vR vV vC vA (vb ⟨4,0,0,[]⟩) w):=by
 have k8:¬((T.b:Int)=8):=by have:=hk.1;omega
 have k9:¬((T.b:Int)=9):=by have:=hk.2.1;omega
 have a8:¬((T.b:Int)=10):=by have:=hk.2.2;omega
 obtain⟨k,cA,av⟩:=hw.a.b;subst av;obtain⟨l,a1⟩:=zzy (acs.length);have t:=Hd a1;obtain⟨f,s⟩:=zzx ((w.alloc (p8 #[I J T.b,p9 T.h,I Y T.q,I Y T.t,O p n c] 64)).alloc (p8 #[I J 4,I Y 0,I Y 0,O V 0 0] 59));obtain⟨H,y,_⟩:=ay w (p8 #[I J T.b,p9 T.h,I Y T.q,I Y T.t,O p n c] 64) (p8 #[I J 4,I Y 0,I Y 0,O V 0 0] 59);have z:FS w f:=by rw[s];exact ((EU _ w).alloc (ET _) _).alloc (by simp) _
 rw[←s]at H y;obtain⟨L,q,N,i⟩:=zz4 (fun g hg=>hw.a.lt (g:=g) hg) y z (hw.C z);clear H y z hw hk;obtain⟨us,r,P⟩:=i.o.aa;rw[t.o]at r;rw[t.o]at ar;obtain⟨Q,a6⟩:=zz2 r P;have e0:f.cell? ⟨w.heap.size+1,0,V⟩=A (I J 4):=by rw[FR _ _ _ _ _ _ q.o];rfl
 have e1:f.cell? ⟨w.heap.size+1,1,V⟩=A (I Y 0):=by rw[FR _ _ _ _ _ _ q.o];rfl
 have e2:f.cell? ⟨w.heap.size+1,2,V⟩=A (I Y 0):=by rw[FR _ _ _ _ _ _ q.o];rfl
 have e3:f.cell? ⟨w.heap.size+1,3,V⟩=A (O V 0 0):=by rw[FR _ _ _ _ _ _ q.o];rfl
 have B:f.cell? ⟨M,7,V⟩=A (O k l cA):=by rw[FR _ _ _ _ _ _ i.o.m,←t.o];rfl
 have hK:∀b,(b=M∨b=w.heap.size+1)→b<f.heap.size∧(O k l cA).ownBlock≠A b:=fun b j=>by
  rw[←t.o];rcases j with rfl|rfl
  ·exact⟨i.o.lt,row_ne i.o.m i.o.a (by decide)⟩
  ·exact⟨(ES.1 q.o).1,fun e=>by have:=L.o _ e;omega⟩
 have R:=Hd (kb (E:=59) (sz:=4) (row:=us++[I J 4,I Y 0,I Y 0,O V 0 0]) (K:=fun b=>b=M∨b=w.heap.size+1) hK);have E0:=fun x:Ks f (fun b=>b=M∨b=w.heap.size+1)=>x.b (tS Z) e0
 have E1:=fun x:Ks f (fun b=>b=M∨b=w.heap.size+1)=>x.b (tS Z) e1
 have E2:=fun x:Ks f (fun b=>b=M∨b=w.heap.size+1)=>x.b (tS Z) e2
 have E3:=fun x:Ks f (fun b=>b=M∨b=w.heap.size+1)=>x.b (tS Z) e3
 have M2:=fun x:Ks f (fun b=>b=M∨b=w.heap.size+1)=>x.b (tE Z) B
 clear r P e0 e1 e2 e3 B hK
 go_enter Tryz.func52,Tryz.ntmps52
 go_upto_region 10 with fail
 change Code.wp _ _ _ _ ((w.alloc (p8 #[I J T.b,p9 T.h,I Y T.q,I Y T.t,O p n c] 64)).alloc (p8 #[I J 4,I Y 0,I Y 0,O V 0 0] 59));rw[←s];clear s;refine RE.t (by kernel_rfl) 9 [7,8] [8] (stA 59 4 f k l cA (us++[I J 4,I Y 0,I Y 0,O V 0 0])) (ApR f) (fun _ ys=>ys.getD 0 undef) (phA 59 4 f k l cA [I J 4,I Y 0,I Y 0,O V 0 0] (us++[I J 4,I Y 0,I Y 0,O V 0 0]) 7 8) (by kernel_rfl) (fun _ _ _ _ _ _ h j=>h.C j) (fun _ _ _ _ h _ hR=>h.t hR) stA.zero ?_;simp only[Fg,Fu,Fh,Ft]
 repeat (refine RE.h (fun W=>∃x:Ks f (fun b=>b=M∨b=w.heap.size+1),W=x.1) (R.o _) Z Z Z stA.zero ?_;go_big_quiet_step (fail);refine wpQuiet_nil ?_)
 refine RE.b Z Z ?_ (fun a7=>?_)
 ·intro W S C U;obtain⟨s9,_,h9⟩:=S;exact eL jb (vs:=[I J 4,I Y 0,I Y 0,O V 0 0]) _ Z Z Z h9.u (fun v W' j ho=>⟨[v],Z,j,ApR.b j,ho⟩)
 simp only[Act.put,EV,Fe,Fc];refine RE.b Z Z ?_ (fun X=>?_)
 ·intro W S C U;obtain⟨x,rfl⟩:∃x:Wb f,W=x.1:=C Z;exact iH jb (p:=k) (n:=l) (c:=cA) (w4:=f) (vs:=[I J 4,I Y 0,I Y 0,O V 0 0]) (xs:=us) _ _ Z Z (U 7 a7 (by kernel_rfl) Z) Z (by simp[Value.oneCell']) x.2 Q.o (by omega) (fun v' W' h1 h2 h3=>⟨[v'],Z,h1,h2,h3⟩)
 simp only[Act.put,EV,Fe,Fc];refine RE.q ?_;intro W C U;have C:ApS 59 4 f k l cA (us++[I J 4,I Y 0,I Y 0,O V 0 0]) W:=C;have hV:ApV 59 4 f k l cA (us++[I J 4,I Y 0,I Y 0,O V 0 0]) W (X.getD 0 undef):=U 8 X Z;obtain⟨g',cap,eg,hg,S,u⟩:=jq C hV;rw[eg];have ad:Chg (fun b=>(O k acs.length cA).ownBlock=A b) f W:=by rw[t.o];exact S
 have D:(O k acs.length cA).ownBlock=A g'∨f.heap.size≤g':=by rw[t.o];exact hg
 have af:(f6 d).at_ f (fun _=>False) ⟨4,0,0,[]⟩ [I J 4,I Y 0,I Y 0,O V 0 0]:=kp.2 ⟨⟨by decide,by decide⟩,⟨by decide,by decide⟩,⟨by decide,by decide⟩,O V 0 0,Z,Rd.tk⟩;obtain⟨ak,aq,G⟩:=i.o.pushA t.o a6.o af (fun _ h=>h.elim) D ad u;have B:W.cell? ⟨M,7,V⟩=A (O k l cA):=by rw[FR _ _ _ _ _ _ (G.trans i.o.m),←t.o];rfl
 have ba:=bM (G.trans i.o.m) 7;have HP:Hid (iF F d M ts rs vars nm sal nv cs acs vT vR vV vC (O k acs.length cA) (vb ⟨4,0,0,[]⟩) w (tF (wF #[])) (W.setCell ⟨M,7,V⟩ (O (A ⟨g',0,V⟩) (l+1) cap))):=by
  refine⟨dz (Chg.b N.o) aq (fun x hx=>tE hx),Z,F,_,ak,fun b j=>?_,fun _ h=>h,fun _ h=>tE h⟩;injection j with j
  have j:g'=b:=j;subst j;rcases D with h|h
  ·exact tE h
  ·have:=N.o.size;exact tS (by omega)
 clear C hV U eg hg S u ad D ak aq G E0 E1 E2 E3 M2 R af;go_wp2_with fail
 go_end0
 exact HP.o
