/- Parts of one proof, joined; conditions stand in each theorem. -/
import Derived.Test.YtmpekinjoeibbaaGreatDoorMH
import Derived.Deep.Cut
open Go.Value renaming func→wP,pointer→tv,int→I,string→p9,slice→O
open Option renaming some→A,none→V
open Go.Obj renaming cells→p8
open Go.IntKind renaming i64→Y,u8→J
open Decidable renaming decide→r8
namespace Go.Proofs.YtmpekinjoeibbaaGreatDoor
set_option maxHeartbeats 4000000
set_option maxRecDepth 100000
open Go.RowKit
theorem vq{L:Nat}{w:World}{kd:Nat}{fn:Value}(h:qO L w kd fn):∃(g:FuncId) (caps:Array Value),fn=wP (.func g) #[] caps∧(caps=#[]∨∃b:Nat,caps=#[tv (A ⟨b,0,V⟩)])∧(∀(args:Array Value) (w:World),(callFunc g args).run Tryz.prog w=.ok (.enter g args) w)∧
  ∀(W:World) (d B:Nat) (a:List ah) (v:Value),kE L w W→aF W B d a v→B≤W.heap.size→a.length≤20000→Calls Tryz.prog g (#[v]++caps) W (ao (fZ kd a) W):=by
 rcases h with ⟨g,c,f,e⟩|⟨b,c,e⟩
 ·exact⟨g,#[],c,Or.inl Z,f,fun W d B a v a1 a2 a3 a4=>by simpa using e W d B a v a1 a2 a3 a4⟩
 ·exact⟨_,_,c,Or.inr ⟨b,Z⟩,enters_of Tryz.func214 (by kernel_rfl) Z,fun W d B a v a1 a2 a3 a4=>e W d B a v a1 a2 a3 a4⟩
theorem cells4{w:World}{T:Nat}{a b c d:Value}{t:TypeId}(h:w.heap[T]?=A (p8 #[a,b,c,d] t (0,0))) :
  w.cell? ⟨T,0,V⟩=A a∧w.cell? ⟨T,1,V⟩=A b∧w.cell? ⟨T,2,V⟩=A c∧w.cell? ⟨T,3,V⟩=A d:=by
 simp[World.cell?,h]
theorem oM(d:Nat)(e4:Hid (∀d',d=d'+1→AW d'))(T:ah)(v:Value)(deep left u B:Nat)(w:World)(hv:fk w B d T v)(b8:B≤u)(hB:B≤w.heap.size)(x:jv d T)(ht:aM w)(b9:1≠u)
  (hl:w.heap[u]?=A (p8 #[I Y left] 3 (0,0))) (gE:1≤deep) (gF:deep≤31) (gH:left≤4096)
  (L:1≤T.b) (M:T.b≤16):Calls Tryz.prog 46 #[v,I Y deep,tv (A ⟨u,0,V⟩)] w (jT d T deep left u w):=by
 obtain⟨_,s,rfl,S⟩:=hv;obtain⟨p,c,rfl,_,bn⟩:=S.h;have c3:T.u.length≤20000:=by
  cases d with
  | zero=>rw[S.1];exact Fi _
  | succ d=>exact x.2.1
 have hz:d=0→T.u=[]:=fun h=>by subst h;exact S.1
 have e5:u<w.heap.size:=(ES.1 hl).1;have gL:(0:Int)≤left:=by omega
 have gM:(left:Int)≤4096:=by omega
 have ga:(1:Int)≤deep:=by omega
 have gb:(deep:Int)≤31:=by omega
 have U:=Hd (Ce d T deep left hz);have ca:Hid (cJ T=(textF (eQ T.b).1 T.h.data.toList T.u.length&&(r8 ((eQ T.b).2.1≤T.q)&&r8 (T.q≤(eQ T.b).2.2))&&r8 (0≤T.t)&&fZ T.b T.u)):=by
  show cJ T=_
  unfold cJ;have e1:r8 (1≤T.b)=true:=by simpa using L
  have E:r8 (T.b≤16)=true:=by simpa using M
  rw[e1,E,wu _ L M,zo _ L M,Bool.true_and,Bool.true_and]
 obtain⟨e6,_,_⟩:=DO T.b L M;have cb:=Hd (fun W=>zg T.b W L M);unfold eq at cb;have c5:=Hd (fun W (hW:aM W)=>uX T.b T.h T.q T.t p T.u.length c (eQ T.b).1 W hW x.h e6);obtain⟨ch,e7,c6,e8,HT,HZ⟩:=zz6 (uR d T hz) S bn x ht hz;generalize (eQ T.b).1=R at *;generalize (eQ T.b).2.1=F at *;generalize (eQ T.b).2.2=G at *;generalize textF R T.h.data.toList T.u.length=tx at *;have c7:FS w (w.alloc (p8 #[I J T.b,p9 T.h,I Y T.q,I Y T.t,O p T.u.length c] 157)):=(EU _ w).alloc (ET _) _;have ck:=ot w (p8 #[I J T.b,p9 T.h,I Y T.q,I Y T.t,O p T.u.length c] 157);have e9:=Hd ck;obtain⟨b0,b1,b2,b3,b4⟩:=cells5 ck;obtain⟨c8,HL⟩:=zz2 c7 hl;clear S hl c7 ck bn x ht hz L M
 go_enter Tryz.func46,Tryz.ntmps46
 go_wp2_with fail
 refine Ff (cb.o _) ?_;rintro e w1 ⟨fn,rfl,cl,a8⟩;obtain⟨g,caps,rfl,X,gf,a8⟩:=vq a8;obtain⟨c9,cp⟩:=zz2 a8 X;have cq:=ag cl e9.o (by simp);have da:=Hd (c8.o.trans (cl.mono c8.o.size));have l1:=ag da.o HL.o e5;have br:u<w1.heap.size:=(ES.1 l1).1;have gN:w.heap.size<w1.heap.size:=(ES.1 cq).1;have c2:(w1.alloc (p8 #[I Y R,I Y F,I Y G,wP (.func g) #[] caps] 211)).cell? ⟨u,0,V⟩=A (I Y left):=by
  have q:FS w1 (w1.alloc (p8 #[I Y R,I Y F,I Y G,wP (.func g) #[] caps] 211)):=(EU _ w1).alloc (ET _) _;exact FR _ _ 0 _ _ _ (ag q l1 br)
 have f2:(w1.alloc (p8 #[I Y R,I Y F,I Y G,wP (.func g) #[] caps] 211)).frozen? ⟨u,0,V⟩=false:=by
  have q:FS w1 (w1.alloc (p8 #[I Y R,I Y F,I Y G,wP (.func g) #[] caps] 211)):=(EU _ w1).alloc (ET _) _;exact bM (ag q l1 br) 0
 obtain⟨y,j,ad⟩:=zz3 (sw l1 (I Y ((left:Int)-1)) (p8 #[I Y R,I Y F,I Y G,wP (.func g) #[] caps] 211)) (grown_below (gj (aL da.o (A u)) 0 (I Y ((left:Int)-1))) ((EU _ _).alloc (ET _) (p8 #[I Y R,I Y F,I Y G,wP (.func g) #[] caps] 211))) (grown_below (gj (aL (EU _ w1) (A u)) 0 (I Y ((left:Int)-1))) ((EU _ _).alloc (ET _) (p8 #[I Y R,I Y F,I Y G,wP (.func g) #[] caps] 211)));have ba:Hid (((w1.setCell ⟨u,0,V⟩ (I Y ((left:Int)-1))).alloc (p8 #[I Y R,I Y F,I Y G,wP (.func g) #[] caps] 211)).heap[w1.heap.size]?=A (p8 #[I Y R,I Y F,I Y G,wP (.func g) #[] caps] 211 (0,0))):=by
  show _=_
  rw[ib,oA (by simp[World.setCell])]
 have z:Hid (kE (w.heap.size+1) w1 ((w1.setCell ⟨u,0,V⟩ (I Y ((left:Int)-1))).alloc (p8 #[I Y R,I Y F,I Y G,wP (.func g) #[] caps] 211))):=by
  show kE _ _ _
  exact⟨ad.o.size,fun b h1 h2=>ad.o.block b h2 (by intro e;simp at e;omega)⟩
 have bb:=Hd (aJ ad.o cq (by intro e;simp at e;omega));clear b0 b1 b2 b3 b4 cl l1 a8 X cq;go_upto_region 3 with (fail)
 clear c2 f2;generalize ((w1.setCell ⟨u,0,V⟩ (I Y ((left:Int)-1))).alloc (p8 #[I Y R,I Y F,I Y G,wP (.func g) #[] caps] 211))=w2 at *;have c2:=FR _ _ 0 _ _ _ y.o;obtain⟨b0,b1,b2,b3,b4⟩:=cells5 bb.o;obtain⟨m0,m1,m2,m3⟩:=cells4 ba.o;have cr:∀(h:(r8 (deep≤30)&&r8 (1≤left)&&cJ T)=false),dN d T deep left=false:=fun h=>by
  rw[U.o]
  by_cases hle:1≤left
  ·have e:r8 (1≤left)=true:=by simpa using hle
   rw[e,Bool.and_true]at h;rw[Bool.and_comm (cJ T),h];simp
  ·have e:r8 (sumF (d-1) T.u+1≤left)=false:=by simp;omega
   rw[e];simp
 rw[ca.o]at cr;have N:=Hd cr;clear cr
 by_cases H:deep≤30
 ·have fe:(deep:Int)≤30:=by omega
  by_cases fm:1≤left
  ·have gO:(1:Int)≤left:=by omega
   by_cases C:0≤T.t
   ·by_cases ct:F≤T.q
    ·by_cases cu:T.q≤G
     ·have dc:cJ T=(tx&&fZ T.b T.u):=by
       rw[ca.o];have e1:r8 (F≤T.q)=true:=by simpa using ct
       have E:r8 (T.q≤G)=true:=by simpa using cu
       have e3:r8 (0≤T.t)=true:=by simpa using C
       rw[e1,E,e3];simp
      have af:=Hd dc;clear dc;clear ca N;have ak:=HT.o.N j.o (Ne.symm b9);go_wp2_with fail
      refine Ff (c5.o w2 ak) ?_;rintro e w3 ⟨rfl,P⟩;have K:=Hd P;have l3:=ag P y.o (ES.1 y.o).1;have x3:=ag P bb.o (ES.1 bb.o).1;have dd:=ag P ba.o (ES.1 ba.o).1;have dg:=Hd (ak.C P);clear b0 b1 b2 b3 b4 c2 m0 m1 m2 m3 P ak;obtain⟨b0,b1,b2,b3,b4⟩:=cells5 x3;obtain⟨m0,m1,m2,m3⟩:=cells4 dd;obtain⟨bc,cv⟩:=zz2 l3 x3;clear l3 x3 dd
      cases tx
      ·have a:dN d T deep left=false:=by
        rw[U.o,af.o];simp
       have f:=Hd a;clear a;go_wp2_with fail
       go_ret;exact dY f.o (grown_below j.o K.o) bc.o
      ·have l:=c9.o w3 d B T.u (O p T.u.length c) ⟨EZ z.o.1 K.o.size,fun b h1 h2=>(K.o.block b (EY h2 z.o.1)).trans (z.o.2 b (by simpa using h1) h2)⟩
        ((e7.o.C (below_of_grown j.o b8 hB)).C (K.o.mono (EZ hB j.o.size))) (EZ (EZ hB j.o.size) K.o.size) c3
       have D:=Hd l;have aq:Hid (cJ T=fZ T.b T.u):=by show _=_;rw[af.o,Bool.true_and]
       clear l af;generalize fZ T.b T.u=kk at *;rcases cp.o with rfl|⟨bq,rfl⟩
       all_goals
        go_wp2_with fail
        refine Ff D.o ?_;rintro e w4 ⟨rfl,ar⟩;have dr:=Hd ar;have l4:=ag ar bc.o (ES.1 bc.o).1;have x4:=ag ar cv.o (ES.1 cv.o).1;have fp:=Hd (dg.o.C ar);clear b0 b1 b2 b3 b4 m0 m1 m2 m3 ar;obtain⟨b0,b1,b2,b3,b4⟩:=cells5 x4;have ds:=Hd l4;clear l4 x4;have av:=Hd (grown_below (grown_below j.o K.o) dr.o)
        cases kk
        ·have a:dN d T deep left=false:=by
          rw[U.o,aq.o];simp
         have f:=Hd a;clear a;go_wp2_with fail
         go_ret;exact dY f.o av.o ds.o
        ·have bt:Hid (dN d T deep left=(T.u.all (jJ (d-1) deep)&&r8 (sumF (d-1) T.u+1≤left))):=by
          show _=_
          have e:r8 (deep≤30)=true:=by simpa using H
          rw[U.o,aq.o,e];simp
         clear U aq D z bb ba y K dr dg bc cv c5 cb c9;obtain⟨n,hn⟩:=zzy (T.u.length);have HN:=Hd hn;rw[hn]at c3 b4 ⊢;clear hn;go_wp2_with fail
         clear b0 b1 b2 b3 b4
         go_loopw [77] (Dd w4 (d-1) T.u deep left u n) (fun i _=>n-(intOf i).toNat)
         case atStart=>exact⟨_,0,left-1,Z,Fi _,Z,aL (EU _ _) _,by rw[ds.o,show ((left:Int)-1)=((left-1:Nat):Int) by omega],by show left-1+0+1=left;omega,Z⟩
         case round =>
          obtain⟨W1,k,m,rfl,hk,rfl,Q,a1,hm,a6⟩:=hrel;obtain⟨dv,fr,eg,bd⟩:=zz4 Q a1 a6 hm;have cx:Below B w W1:=below_of_grown (gB av.o Q) b8 hB;have bl:B≤W1.heap.size:=EZ hB (gB av.o Q).size;have gS:(0:Int)≤k:=by omega
          by_cases bB:k<n
          ·obtain⟨t,ht⟩:∃t,T.u[k]?=A t:=⟨T.u[k]'(by rw[HN.o];exact bB),EX (by rw[HN.o];exact bB)⟩;obtain⟨hd,bk,off,rfl,fv,bR⟩:=c6.o k t ht;obtain⟨p',l',c',d0,d1,d2,d3,d4,a7⟩:=bR.node cx fv;have gT:(k:Int)<n:=by omega
           have q:FS W1 (W1.alloc (p8 #[I J t.b,p9 t.h,I Y t.q,I Y t.t,O p' l' c'] 64)):=(EU _ W1).alloc (ET _) _;have b5:jv (d-1) t:=by
            have h1:=e8.o;rw[hd]at h1;exact h1.2.2 t (Fv ht)
           have en:=ag q a1 (ES.1 a1).1;have l:Calls Tryz.prog 46 #[Value.agg #[I J t.b,p9 t.h,I Y t.q,I Y t.t,O p' l' c'],I Y ((deep:Int)+1),tv (A ⟨u,0,V⟩)] _ (jT (d-1) t (deep+1) m u _):=
            e4.o (d-1) hd t _ (deep+1) m u B _ (a7.C (q.mono bl)) b8 (EZ bl q.size) b5 ((fp.o.N Q (Ne.symm b9)).C q) b9 en (by omega) (by omega) (by omega)
           obtain⟨D,cT,fz⟩:=zz3 l ht q;clear l en b5 q a7 bR ht cx bl Q a1 hm a6 hd;go_wp2_with fail
           refine Ff D.o ?_;rintro e w5 ⟨rfl,eo,x5,b6,er⟩;obtain⟨et,ev,fI,cV,cW⟩:=zz5 (gB dv.o (gB (aL fz.o (A u)) eo)) b6 er (right_stop (d:=d-1) (deep:=deep) (left:=left) cT.o bd.o) (Cg (d:=d-1) (m:=m) cT.o eg.o);clear eo b6 er d0 d1 d2 d3 d4;generalize dN (d-1) t (deep+1) m=r at *
           cases r
           ·have a:dN d T deep left=false:=by
             rw[bt.o];exact cV.o (by first|rfl|trivial)
            have f:=Hd a;clear a;go_wp2_with fail
            go_ret;exact dY f.o (gB av.o et.o) ev.o
           ·go_wp2_with fail
            refine⟨⟨w5,k+1,m-bw (d-1) t,Z,by omega,by go_num,et.o,?_,?_,(cW.o (by first|rfl|trivial)).1⟩,by simp[intOf];omega⟩
            ·rw[ev.o,fI.o (by first|rfl|trivial)]
             have:=(cW.o (by first|rfl|trivial)).2
             rw[show ((m:Int)-bw (d-1) t)=((m-bw (d-1) t:Nat):Int) by omega]
            ·have h1:=rP (d-1) T.u k t cT.o;have h2:=(cW.o (by first|rfl|trivial)).2
             have h3:=bd.o;omega
          ·obtain rfl:k=n:=by omega
           have c1:T.u.take k=T.u:=Fq (by rw[HN.o];exact ET _);have b7:dN d T deep left=true:=by
            rw[bt.o];have h1:=eg.o;have h2:=bd.o;rw[c1]at h1 h2;rw[h1];simp;omega
           obtain⟨e0,fT⟩:=zz2 b7 c1;clear b7 c1 hm a6 a1 Q cx bl;go_wp2_with fail
           go_ret;refine⟨bI e0.o.symm,gB av.o dv.o,_,fr.o,fun _=>?_⟩;have h2:=bd.o;rw[fT.o]at h2;rw[ch.o];omega
     ·have E:r8 (T.q≤G)=false:=by simpa using cu
      have a:=N.o (by rw[E];simp);have f:=Hd a;clear a E;have gg:G<T.q:=by omega
      clear cu;go_wp2_with fail
      go_ret;exact dY f.o j.o y.o
    ·have E:r8 (F≤T.q)=false:=by simpa using ct
     have a:=N.o (by rw[E];simp);have f:=Hd a;clear a E;have gm:T.q<F:=by omega
     clear ct;go_wp2_with fail
     go_ret;exact dY f.o j.o y.o
   ·have E:r8 (0≤T.t)=false:=by simpa using C
    have a:=N.o (by rw[E];simp);have f:=Hd a;clear a E;have gD:T.t<0:=by omega
    clear C;go_wp2_with fail
    go_ret;exact dY f.o j.o y.o
  ·obtain rfl:left=0:=by omega
   have a:=N.o (by simp);have f:=Hd a;clear a;go_wp2_with fail
   go_ret;exact dY f.o j.o y.o
 ·have fe:(30:Int)<deep:=by omega
  have E:r8 (deep≤30)=false:=by simpa using H
  have a:=N.o (by rw[E];simp);have f:=Hd a;clear a E H;go_wp2_with fail
  go_ret;exact dY f.o j.o y.o
theorem zh:∀d,AW d:=by
 intro d
 induction d with
 | zero =>
  intro T v deep left f B w hv a hB b k c g l m i
  by_cases j:1≤T.b∧T.b≤16
  ·exact oM 0 (Hd fun n h=>by omega) T v deep left f B w hv a hB b k c g l m i j.1 j.2
  ·exact mq 0 T v deep left f B w hv hB g i (by omega)
 | succ d o =>
  intro T v deep left f B w hv a hB b k c g l m i
  by_cases j:1≤T.b∧T.b≤16
  ·refine oM (d+1) (Hd fun n h=>?_) T v deep left f B w hv a hB b k c g l m i j.1 j.2;have e:n=d:=by omega
   subst e;exact o
  ·exact mq (d+1) T v deep left f B w hv hB g i (by omega)
theorem Cm(d:Nat)(T:ah):iO d T=(T.b==1&&dN d T 1 4096):=by
 unfold iO dN;have e:r8 (1+dU d T≤31)=r8 (dU d T≤30):=by rw[FD];simp only[oE];omega
 rw[e];simp only[Bool.and_assoc]
theorem mn(d:Nat)(T:ah)(v:Value)(B:Nat)(w:World)(hv:fk w B d T v)(hB:B≤w.heap.size)(f:jv d T)(j:aM w) :
  Calls Tryz.prog 22 #[v] w (ao (iO d T) w):=by
 have g:=hv;obtain⟨_,s,rfl,h⟩:=hv;obtain⟨p,n,c,rfl⟩:=h.b;obtain⟨q,t,i⟩:=ea w (p8 #[I J T.b,p9 T.h,I Y T.q,I Y T.t,O p n c] 64) (p8 #[I Y (4096:Nat)] 3);obtain⟨b0,C,D,E,F⟩:=cells5 q;have u:=Hd (Cm d T);have k:=j.lt;obtain⟨a,l⟩:=zz2 (zh d T _ 1 4096 (w.heap.size+1) B _ (g.C (i.mono hB)) (by omega) (EZ hB i.size) f (j.C i) (by omega) t (by omega) (by omega) (by omega)) i;clear q t i h g k j f;generalize iO d T=r at *
 go_enter Tryz.func22,Tryz.ntmps22
 cases x:((T.b:Int)==1)
 ·have b:(T.b==1)=false:=by simp at x ⊢;omega
  have m:=Hd b;clear b a;go_wp2_with fail
  go_ret;exact⟨bI (by rw[u.o,m.o];rfl),l.o⟩
 ·have b:(T.b==1)=true:=by simp at x ⊢;omega
  have m:=Hd b;clear b;go_wp2_with fail
  refine Ff a.o ?_;rintro e W ⟨rfl,y,_⟩;have z:=Hd y;clear y;go_wp2_with fail
  go_ret;exact⟨bI (by rw[u.o,m.o];rfl),l.o.trans (below_of_grown z.o (Fw _) l.o.size)⟩
