/- Parts of one proof, joined; conditions stand in each theorem. -/
import Derived.Test.YtoahnjkclckodaaGreatDoorMH
import Derived.Deep.Cut
open Go renaming World→J,Value→tT,Calls→wg
open Go.Value renaming func→z7,pointer→vv,int→I,string→tS,slice→O
open Option renaming some→A,none→Y
open Go.Obj renaming cells→r9
open Go.IntKind renaming i64→U,u8→tF
open Decidable renaming decide→xn
namespace Go.Proofs.YtoahnjkclckodaaGreatDoor
set_option maxHeartbeats 4000000
set_option maxRecDepth 100000
open Go.RowKit
theorem vp{L:Nat}{w:J}{kd:Nat}{fn:tT}(h:ry L w kd fn):∃(g:FuncId) (caps:Array tT),fn=z7 (.func g) #[] caps∧(caps=#[]∨∃b:Nat,caps=#[vv (A ⟨b,0,Y⟩)])∧(∀(args:Array tT) (w:J),(callFunc g args).run Tryz.prog w=.ok (.enter g args) w)∧
  ∀(W:J) (d B:Nat) (ks:List ac) (v:tT),kY L w W→ap W B d ks v→B≤W.heap.size→ks.length≤20000→wg Tryz.prog g (#[v]++caps) W (aV (fY kd ks) W):=by
 rcases h with ⟨g,a,e,c⟩|⟨b,a,c⟩
 ·exact⟨g,#[],a,Or.inl Z,e,fun W d B ks v a1 a2 a3 a4=>by simpa using c W d B ks v a1 a2 a3 a4⟩
 ·exact⟨_,_,a,Or.inr ⟨b,Z⟩,enters_of Tryz.func205 (by kernel_rfl) Z,fun W d B ks v a1 a2 a3 a4=>c W d B ks v a1 a2 a3 a4⟩
theorem cells4{w:J}{T:Nat}{a b c d:tT}{t:TypeId}(h:w.heap[T]?=A (r9 #[a,b,c,d] t (0,0))) :
  w.cell? ⟨T,0,Y⟩=A a∧w.cell? ⟨T,1,Y⟩=A b∧w.cell? ⟨T,2,Y⟩=A c∧w.cell? ⟨T,3,Y⟩=A d:=by
 simp[World.cell?,h]
theorem pG(d:Nat)(er:Hid (∀d',d=d'+1→Bh d'))(T:ac)(v:tT)(deep left u B:Nat)(w:J)(hv:fi w B d T v)(cb:B≤u)(hB:B≤w.heap.size)(x:jx d T)(ht:aB w)(cc:3≠u)
  (hl:w.heap[u]?=A (r9 #[I U left] 3 (0,0))) (gE:1≤deep) (gF:deep≤31) (gH:left≤4096)
  (H:1≤T.q) (K:T.q≤16):wg Tryz.prog 123 #[v,I U deep,vv (A ⟨u,0,Y⟩)] w (j1 d T deep left u w):=by
 obtain⟨_,s,rfl,Q⟩:=hv;obtain⟨p,c,rfl,_,bB⟩:=Q.rows;have cT:T.z.length≤20000:=by
  cases d with
  | zero=>rw[Q.1];exact FR _
  | succ d=>exact x.2.1
 have hz:d=0→T.z=[]:=fun h=>by subst h;exact Q.1
 have et:u<w.heap.size:=(Fx.1 hl).1;have gL:(0:Int)≤left:=by omega
 have gM:(left:Int)≤4096:=by omega
 have fz:(1:Int)≤deep:=by omega
 have fI:(deep:Int)≤31:=by omega
 have R:=Hd (Cu d T deep left hz);have cf:Hid (cz T=(textF (eM T.q).1 T.h.data.toList T.z.length&&(xn ((eM T.q).2.1≤T.u)&&xn (T.u≤(eM T.q).2.2))&&xn (0≤T.t)&&fY T.q T.z)):=by
  show cz T=_
  unfold cz;have e1:xn (1≤T.q)=true:=by simpa using H
  have E:xn (T.q≤16)=true:=by simpa using K
  rw[e1,E,wo _ H K,zB _ H K,Bool.true_and,Bool.true_and]
 obtain⟨e0,_,_⟩:=Ed T.q H K;have ch:=Hd (fun W=>zo T.q W H K);unfold ei at ch;have cV:=Hd (fun W (hW:aB W)=>uX T.q T.h T.u T.t p T.z.length c (eM T.q).1 W hW x.h e0);obtain⟨ck,e4,cW,e5,HT,HZ⟩:=zz6 (uT d T hz) Q bB x ht hz;generalize (eM T.q).1=P at *;generalize (eM T.q).2.1=lo at *;generalize (eM T.q).2.2=hi at *;generalize textF P T.h.data.toList T.z.length=tx at *;have c0:Gl w (w.alloc (r9 #[I tF T.q,tS T.h,I U T.u,I U T.t,O p T.z.length c] 232)):=(Fz _ w).alloc (Fy _) _;have cl:=oA w (r9 #[I tF T.q,tS T.h,I U T.u,I U T.t,O p T.z.length c] 232);have e6:=Hd cl;obtain⟨b0,b1,b2,b3,b4⟩:=cells5 cl;obtain⟨c1,HL⟩:=zz2 c0 hl;clear Q hl c0 cl bB x ht hz H K
 go_enter Tryz.func123,Tryz.ntmps123
 go_wp2_with fail
 refine FN (ch.o _) ?_;rintro e w1 ⟨fn,rfl,cm,bb⟩;obtain⟨g,caps,rfl,S,fT,bb⟩:=vp bb;obtain⟨c3,cn⟩:=zz2 bb S;have cp:=aa cm e6.o (by simp);have c5:=Hd (c1.o.trans (cm.mono c1.o.size));have l1:=aa c5.o HL.o et;have bR:u<w1.heap.size:=(Fx.1 l1).1;have gN:w.heap.size<w1.heap.size:=(Fx.1 cp).1;have c2:(w1.alloc (r9 #[I U P,I U lo,I U hi,z7 (.func g) #[] caps] 253)).cell? ⟨u,0,Y⟩=A (I U left):=by
  have q:Gl w1 (w1.alloc (r9 #[I U P,I U lo,I U hi,z7 (.func g) #[] caps] 253)):=(Fz _ w1).alloc (Fy _) _;exact Gk _ _ 0 _ _ _ (aa q l1 bR)
 have f2:(w1.alloc (r9 #[I U P,I U lo,I U hi,z7 (.func g) #[] caps] 253)).frozen? ⟨u,0,Y⟩=false:=by
  have q:Gl w1 (w1.alloc (r9 #[I U P,I U lo,I U hi,z7 (.func g) #[] caps] 253)):=(Fz _ w1).alloc (Fy _) _;exact ax (aa q l1 bR) 0
 obtain⟨y,j,V⟩:=zz3 (tg l1 (I U ((left:Int)-1)) (r9 #[I U P,I U lo,I U hi,z7 (.func g) #[] caps] 253)) (grown_below (dO (az c5.o (A u)) 0 (I U ((left:Int)-1))) ((Fz _ _).alloc (Fy _) (r9 #[I U P,I U lo,I U hi,z7 (.func g) #[] caps] 253))) (grown_below (dO (az (Fz _ w1) (A u)) 0 (I U ((left:Int)-1))) ((Fz _ _).alloc (Fy _) (r9 #[I U P,I U lo,I U hi,z7 (.func g) #[] caps] 253)));have bd:Hid (((w1.setCell ⟨u,0,Y⟩ (I U ((left:Int)-1))).alloc (r9 #[I U P,I U lo,I U hi,z7 (.func g) #[] caps] 253)).heap[w1.heap.size]?=A (r9 #[I U P,I U lo,I U hi,z7 (.func g) #[] caps] 253 (0,0))):=by
  show _=_
  rw[gY,oE (by simp[World.setCell])]
 have z:Hid (kY (w.heap.size+1) w1 ((w1.setCell ⟨u,0,Y⟩ (I U ((left:Int)-1))).alloc (r9 #[I U P,I U lo,I U hi,z7 (.func g) #[] caps] 253))):=by
  show kY _ _ _
  exact⟨V.o.size,fun b h1 h2=>V.o.block b h2 (by intro e;simp at e;omega)⟩
 have bl:=Hd (an V.o cp (by intro e;simp at e;omega));clear b0 b1 b2 b3 b4 cm l1 bb S cp;go_upto_region 3 with (fail)
 clear c2 f2;generalize ((w1.setCell ⟨u,0,Y⟩ (I U ((left:Int)-1))).alloc (r9 #[I U P,I U lo,I U hi,z7 (.func g) #[] caps] 253))=w2 at *;have c2:=Gk _ _ 0 _ _ _ y.o;obtain⟨b0,b1,b2,b3,b4⟩:=cells5 bl.o;obtain⟨m0,m1,m2,m3⟩:=cells4 bd.o;have cq:∀(h:(xn (deep≤30)&&xn (1≤left)&&cz T)=false),dL d T deep left=false:=fun h=>by
  rw[R.o]
  by_cases hle:1≤left
  ·have e:xn (1≤left)=true:=by simpa using hle
   rw[e,Bool.and_true]at h;rw[Bool.and_comm (cz T),h];simp
  ·have e:xn (sumF (d-1) T.z+1≤left)=false:=by simp;omega
   rw[e];simp
 rw[cf.o]at cq;have L:=Hd cq;clear cq
 by_cases F:deep≤30
 ·have e7:(deep:Int)≤30:=by omega
  by_cases e8:1≤left
  ·have gO:(1:Int)≤left:=by omega
   by_cases C:0≤T.t
   ·by_cases cr:lo≤T.u
    ·by_cases ct:T.u≤hi
     ·have c6:cz T=(tx&&fY T.q T.z):=by
       rw[cf.o];have e1:xn (lo≤T.u)=true:=by simpa using cr
       have E:xn (T.u≤hi)=true:=by simpa using ct
       have e3:xn (0≤T.t)=true:=by simpa using C
       rw[e1,E,e3];simp
      have X:=Hd c6;clear c6;clear cf L;have ad:=HT.o.u j.o (Ne.symm cc);go_wp2_with fail
      refine FN (cV.o w2 ad) ?_;rintro e w3 ⟨rfl,M⟩;have G:=Hd M;have l3:=aa M y.o (Fx.1 y.o).1;have x3:=aa M bl.o (Fx.1 bl.o).1;have c7:=aa M bd.o (Fx.1 bd.o).1;have c8:=Hd (ad.C M);clear b0 b1 b2 b3 b4 c2 m0 m1 m2 m3 M ad;obtain⟨b0,b1,b2,b3,b4⟩:=cells5 x3;obtain⟨m0,m1,m2,m3⟩:=cells4 c7;obtain⟨bm,cu⟩:=zz2 l3 x3;clear l3 x3 c7
      cases tx
      ·have a:dL d T deep left=false:=by
        rw[R.o,X.o];simp
       have f:=Hd a;clear a;go_wp2_with fail
       go_ret;exact dY f.o (grown_below j.o G.o) bm.o
      ·have l:=c3.o w3 d B T.z (O p T.z.length c) ⟨FH z.o.1 G.o.size,fun b h1 h2=>(G.o.block b (FG h2 z.o.1)).trans (z.o.2 b (by simpa using h1) h2)⟩
        ((e4.o.C (below_of_grown j.o cb hB)).C (G.o.mono (FH hB j.o.size))) (FH (FH hB j.o.size) G.o.size) cT
       have D:=Hd l;have af:Hid (cz T=fY T.q T.z):=by show _=_;rw[X.o,Bool.true_and]
       clear l X;generalize fY T.q T.z=kk at *;rcases cn.o with rfl|⟨bq,rfl⟩
       all_goals
        go_wp2_with fail
        refine FN D.o ?_;rintro e w4 ⟨rfl,aq⟩;have c9:=Hd aq;have l4:=aa aq bm.o (Fx.1 bm.o).1;have x4:=aa aq cu.o (Fx.1 cu.o).1;have e9:=Hd (c8.o.C aq);clear b0 b1 b2 b3 b4 m0 m1 m2 m3 aq;obtain⟨b0,b1,b2,b3,b4⟩:=cells5 x4;have dd:=Hd l4;clear l4 x4;have ar:=Hd (grown_below (grown_below j.o G.o) c9.o)
        cases kk
        ·have a:dL d T deep left=false:=by
          rw[R.o,af.o];simp
         have f:=Hd a;clear a;go_wp2_with fail
         go_ret;exact dY f.o ar.o dd.o
        ·have b5:Hid (dL d T deep left=(T.z.all (jP (d-1) deep)&&xn (sumF (d-1) T.z+1≤left))):=by
          show _=_
          have e:xn (deep≤30)=true:=by simpa using F
          rw[R.o,af.o,e];simp
         clear R af D z bl bd y G c9 c8 bm cu cV ch c3;obtain⟨n,hn⟩:=zzy (T.z.length);have HN:=Hd hn;rw[hn]at cT b4 ⊢;clear hn;go_wp2_with fail
         clear b0 b1 b2 b3 b4
         go_loopw [77] (Dx w4 (d-1) T.z deep left u n) (fun i _=>n-(intOf i).toNat)
         case atStart=>exact⟨_,0,left-1,Z,FR _,Z,az (Fz _ _) _,by rw[dd.o,show ((left:Int)-1)=((left-1:Nat):Int) by omega],by show left-1+0+1=left;omega,Z⟩
         case round =>
          obtain⟨W1,k,m,rfl,hk,rfl,N,a1,hm,a6⟩:=hrel;obtain⟨dg,fm,dn,bn⟩:=zz4 N a1 a6 hm;have cv:Below B w W1:=below_of_grown (gx ar.o N) cb hB;have bt:B≤W1.heap.size:=FH hB (gx ar.o N).size;have gS:(0:Int)≤k:=by omega
          by_cases b6:k<n
          ·obtain⟨t,ht⟩:∃t,T.z[k]?=A t:=⟨T.z[k]'(by rw[HN.o];exact b6),FD (by rw[HN.o];exact b6)⟩;obtain⟨hd,bk,off,rfl,fr,b7⟩:=cW.o k t ht;obtain⟨p',l',c',d0,d1,d2,d3,d4,ba⟩:=b7.node cv fr;have gT:(k:Int)<n:=by omega
           have q:Gl W1 (W1.alloc (r9 #[I tF t.q,tS t.h,I U t.u,I U t.t,O p' l' c'] 145)):=(Fz _ W1).alloc (Fy _) _;have b8:jx (d-1) t:=by
            have h1:=e5.o;rw[hd]at h1;exact h1.2.2 t (FZ ht)
           have ds:=aa q a1 (Fx.1 a1).1;have l:wg Tryz.prog 123 #[Value.agg #[I tF t.q,tS t.h,I U t.u,I U t.t,O p' l' c'],I U ((deep:Int)+1),vv (A ⟨u,0,Y⟩)] _ (j1 (d-1) t (deep+1) m u _):=
            er.o (d-1) hd t _ (deep+1) m u B _ (ba.C (q.mono bt)) cb (FH bt q.size) b8 ((e9.o.u N (Ne.symm cc)).C q) cc ds (by omega) (by omega) (by omega)
           obtain⟨D,cy,fs⟩:=zz3 l ht q;clear l ds b8 q ba b7 ht cv bt N a1 hm a6 hd;go_wp2_with fail
           refine FN D.o ?_;rintro e w5 ⟨rfl,dt,x5,b9,dv⟩;obtain⟨eg,en,ft,cA,cC⟩:=zz5 (gx dg.o (gx (az fs.o (A u)) dt)) b9 dv (right_stop (d:=d-1) (deep:=deep) (left:=left) cy.o bn.o) (Cz (d:=d-1) (m:=m) cy.o dn.o);clear dt b9 dv d0 d1 d2 d3 d4;generalize dL (d-1) t (deep+1) m=r at *
           cases r
           ·have a:dL d T deep left=false:=by
             rw[b5.o];exact cA.o (by first|rfl|trivial)
            have f:=Hd a;clear a;go_wp2_with fail
            go_ret;exact dY f.o (gx ar.o eg.o) en.o
           ·go_wp2_with fail
            refine⟨⟨w5,k+1,m-dI (d-1) t,Z,by omega,by go_num,eg.o,?_,?_,(cC.o (by first|rfl|trivial)).1⟩,by simp[intOf];omega⟩
            ·rw[en.o,ft.o (by first|rfl|trivial)]
             have:=(cC.o (by first|rfl|trivial)).2
             rw[show ((m:Int)-dI (d-1) t)=((m-dI (d-1) t:Nat):Int) by omega]
            ·have h1:=sG (d-1) T.z k t cy.o;have h2:=(cC.o (by first|rfl|trivial)).2
             have h3:=bn.o;omega
          ·obtain rfl:k=n:=by omega
           have cR:T.z.take k=T.z:=FW (by rw[HN.o];exact Fy _);have ca:dL d T deep left=true:=by
            rw[b5.o];have h1:=dn.o;have h2:=bn.o;rw[cR]at h1 h2;rw[h1];simp;omega
           obtain⟨eo,fv⟩:=zz2 ca cR;clear ca cR hm a6 a1 N cv bt;go_wp2_with fail
           go_ret;refine⟨bF eo.o.symm,gx ar.o dg.o,_,fm.o,fun _=>?_⟩;have h2:=bn.o;rw[fv.o]at h2;rw[ck.o];omega
     ·have E:xn (T.u≤hi)=false:=by simpa using ct
      have a:=L.o (by rw[E];simp);have f:=Hd a;clear a E;have gf:hi<T.u:=by omega
      clear ct;go_wp2_with fail
      go_ret;exact dY f.o j.o y.o
    ·have E:xn (lo≤T.u)=false:=by simpa using cr
     have a:=L.o (by rw[E];simp);have f:=Hd a;clear a E;have gg:T.u<lo:=by omega
     clear cr;go_wp2_with fail
     go_ret;exact dY f.o j.o y.o
   ·have E:xn (0≤T.t)=false:=by simpa using C
    have a:=L.o (by rw[E];simp);have f:=Hd a;clear a E;have gD:T.t<0:=by omega
    clear C;go_wp2_with fail
    go_ret;exact dY f.o j.o y.o
  ·obtain rfl:left=0:=by omega
   have a:=L.o (by simp);have f:=Hd a;clear a;go_wp2_with fail
   go_ret;exact dY f.o j.o y.o
 ·have e7:(30:Int)<deep:=by omega
  have E:xn (deep≤30)=false:=by simpa using F
  have a:=L.o (by rw[E];simp);have f:=Hd a;clear a E F;go_wp2_with fail
  go_ret;exact dY f.o j.o y.o
theorem zq:∀d,Bh d:=by
 intro d
 induction d with
 | zero =>
  intro T v deep left f B w g a hB b l c i m n j
  by_cases k:1≤T.q∧T.q≤16
  ·exact pG 0 (Hd fun o h=>by omega) T v deep left f B w g a hB b l c i m n j k.1 k.2
  ·exact nh 0 T v deep left f B w g hB i j (by omega)
 | succ d p =>
  intro T v deep left f B w g a hB b l c i m n j
  by_cases k:1≤T.q∧T.q≤16
  ·refine pG (d+1) (Hd fun o h=>?_) T v deep left f B w g a hB b l c i m n j k.1 k.2;have e:o=d:=by omega
   subst e;exact p
  ·exact nh (d+1) T v deep left f B w g hB i j (by omega)
theorem CH(d:Nat)(T:ac):jr d T=(T.q==1&&dL d T 1 4096):=by
 unfold jr dL;have e:xn (1+fW d T≤31)=xn (fW d T≤30):=by rw[Ga];simp only[oX];omega
 rw[e];simp only[Bool.and_assoc]
theorem mX(d:Nat)(T:ac)(v:tT)(B:Nat)(w:J)(q:fi w B d T v)(hB:B≤w.heap.size)(f:jx d T)(j:aB w) :
  wg Tryz.prog 95 #[v] w (aV (jr d T) w):=by
 have g:=q;obtain⟨_,s,rfl,h⟩:=q;obtain⟨p,n,c,rfl⟩:=h.q;obtain⟨t,u,i⟩:=dZ w (r9 #[I tF T.q,tS T.h,I U T.u,I U T.t,O p n c] 145) (r9 #[I U (4096:Nat)] 3);obtain⟨D,E,F,G,H⟩:=cells5 t;have x:=Hd (CH d T);have k:=j.lt;obtain⟨a,l⟩:=zz2 (zq d T _ 1 4096 (w.heap.size+1) B _ (g.C (i.mono hB)) (by omega) (FH hB i.size) f (j.C i) (by omega) u (by omega) (by omega) (by omega)) i;clear t u i h g k j f;generalize jr d T=r at *
 go_enter Tryz.func95,Tryz.ntmps95
 cases y:((T.q:Int)==1)
 ·have b:(T.q==1)=false:=by simp at y ⊢;omega
  have m:=Hd b;clear b a;go_wp2_with fail
  go_ret;exact⟨bF (by rw[x.o,m.o];rfl),l.o⟩
 ·have b:(T.q==1)=true:=by simp at y ⊢;omega
  have m:=Hd b;clear b;go_wp2_with fail
  refine FN a.o ?_;rintro e W ⟨rfl,z,_⟩;have C:=Hd z;clear z;go_wp2_with fail
  go_ret;exact⟨bF (by rw[x.o,m.o];rfl),l.o.trans (below_of_grown C.o (F3 _) l.o.size)⟩
