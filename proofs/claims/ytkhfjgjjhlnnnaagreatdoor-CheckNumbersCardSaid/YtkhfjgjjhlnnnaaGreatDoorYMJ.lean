/- Parts of one proof, joined; conditions stand in each theorem. -/
import Derived.Test.YtkhfjgjjhlnnnaaGreatDoorYMH
import Derived.Deep.Cut
open Go.Value renaming func→CF,pointer→xV,int→I,string→J,slice→A
open Option renaming some→Y,none→U
open Go.Obj renaming cells→wq
open Go.IntKind renaming i64→Z,u8→O
open Decidable renaming decide→xv
namespace Go.Proofs.YtkhfjgjjhlnnnaaGreatDoor
set_option maxHeartbeats 4000000
set_option maxRecDepth 100000
open Go.RowKit
theorem uW{L:Nat}{w:World}{kd:Nat}{fn:Value}(h:qZ L w kd fn):∃(g:FuncId) (caps:Array Value),fn=CF (.func g) #[] caps∧(caps=#[]∨∃b:Nat,caps=#[xV (Y ⟨b,0,U⟩)])∧(∀(args:Array Value) (w:World),(callFunc g args).run Tryz.prog w=.ok (.enter g args) w)∧
  ∀(W:World) (d B:Nat) (a:List ab) (v:Value),kZ L w W→ao W B d a v→B≤W.heap.size→a.length≤20000→Calls Tryz.prog g (#[v]++caps) W (am (bv kd a) W):=by
 rcases h with ⟨g,c,f,e⟩|⟨b,c,e⟩
 ·exact⟨g,#[],c,Or.inl V,f,fun W d B a v a1 a2 a3 a4=>by simpa using e W d B a v a1 a2 a3 a4⟩
 ·exact⟨_,_,c,Or.inr ⟨b,V⟩,enters_of Tryz.func210 (by kernel_rfl) V,fun W d B a v a1 a2 a3 a4=>e W d B a v a1 a2 a3 a4⟩
theorem cells4{w:World}{T:Nat}{a b c d:Value}{t:TypeId}(h:w.heap[T]?=Y (wq #[a,b,c,d] t (0,0))) :
  w.cell? ⟨T,0,U⟩=Y a∧w.cell? ⟨T,1,U⟩=Y b∧w.cell? ⟨T,2,U⟩=Y c∧w.cell? ⟨T,3,U⟩=Y d:=by
 simp[World.cell?,h]
theorem pw(d:Nat)(el:Hid (∀d',d=d'+1→AW d'))(T:ab)(v:Value)(deep left u B:Nat)(w:World)(hv:dH w B d T v)(ca:B≤u)(hB:B≤w.heap.size)(x:gx d T)(ht:aR w)(cb:1≠u)
  (hl:w.heap[u]?=Y (wq #[I Z left] 3 (0,0))) (fM:1≤deep) (fT:deep≤31) (gf:left≤4096)
  (L:1≤T.b) (M:T.b≤16):Calls Tryz.prog 38 #[v,I Z deep,xV (Y ⟨u,0,U⟩)] w (j6 d T deep left u w):=by
 obtain⟨_,s,rfl,S⟩:=hv;obtain⟨p,c,rfl,_,bt⟩:=S.rows;have c0:T.u.length≤20000:=by
  cases d with
  | zero=>rw[S.1];exact Fa _
  | succ d=>exact x.2.1
 have hz:d=0→T.u=[]:=fun h=>by subst h;exact S.1
 have en:u<w.heap.size:=(EN.1 hl).1;have gg:(0:Int)≤left:=by omega
 have gD:(left:Int)≤4096:=by omega
 have fe:(1:Int)≤deep:=by omega
 have fm:(deep:Int)≤31:=by omega
 have X:=Hd (B7 d T deep left hz);have cc:Hid (aI T=(textF (eW T.b).1 T.f.data.toList T.u.length&&(xv ((eW T.b).2.1≤T.h)&&xv (T.h≤(eW T.b).2.2))&&xv (0≤T.y)&&bv T.b T.u)):=by
  show aI T=_
  unfold aI;have e1:xv (1≤T.b)=true:=by simpa using L
  have E:xv (T.b≤16)=true:=by simpa using M
  rw[e1,E,vS _ L M,yW _ L M,Bool.true_and,Bool.true_and]
 obtain⟨eo,_,_⟩:=DO T.b L M;have ch:=Hd (fun W=>yN T.b W L M);unfold ew at ch;have c1:=Hd (fun W (hW:aR W)=>uL T.b T.f T.h T.y p T.u.length c (eW T.b).1 W hW x.f eo);obtain⟨ck,ep,c3,er,HT,HZ⟩:=zz6 (uF d T hz) S bt x ht hz;generalize (eW T.b).1=R at *;generalize (eW T.b).2.1=F at *;generalize (eW T.b).2.2=G at *;generalize textF R T.f.data.toList T.u.length=tx at *;have c5:FK w (w.alloc (wq #[I O T.b,J T.f,I Z T.h,I Z T.y,A p T.u.length c] 99)):=(EP _ w).alloc (EO _) _;have cl:=p9 w (wq #[I O T.b,J T.f,I Z T.h,I Z T.y,A p T.u.length c] 99);have et:=Hd cl;obtain⟨b0,b1,b2,b3,b4⟩:=cells5 cl;obtain⟨c6,HL⟩:=zz2 c5 hl;clear S hl c5 cl bt x ht hz L M
 go_enter Tryz.func38,Tryz.ntmps38
 go_wp2_with fail
 refine EX (ch.o _) ?_;rintro e w1 ⟨fn,rfl,cq,bb⟩;obtain⟨g,caps,rfl,ad,fp,bb⟩:=uW bb;obtain⟨c7,cr⟩:=zz2 bb ad;have ct:=aa cq et.o (by simp);have c8:=Hd (c6.o.trans (cq.mono c6.o.size));have l1:=aa c8.o HL.o en;have bB:u<w1.heap.size:=(EN.1 l1).1;have gE:w.heap.size<w1.heap.size:=(EN.1 ct).1;have c2:(w1.alloc (wq #[I Z R,I Z F,I Z G,CF (.func g) #[] caps] 169)).cell? ⟨u,0,U⟩=Y (I Z left):=by
  have q:FK w1 (w1.alloc (wq #[I Z R,I Z F,I Z G,CF (.func g) #[] caps] 169)):=(EP _ w1).alloc (EO _) _;exact FI _ _ 0 _ _ _ (aa q l1 bB)
 have f2:(w1.alloc (wq #[I Z R,I Z F,I Z G,CF (.func g) #[] caps] 169)).frozen? ⟨u,0,U⟩=false:=by
  have q:FK w1 (w1.alloc (wq #[I Z R,I Z F,I Z G,CF (.func g) #[] caps] 169)):=(EP _ w1).alloc (EO _) _;exact bK (aa q l1 bB) 0
 obtain⟨y,j,af⟩:=zz3 (sT l1 (I Z ((left:Int)-1)) (wq #[I Z R,I Z F,I Z G,CF (.func g) #[] caps] 169)) (grown_below (gz (aP c8.o (Y u)) 0 (I Z ((left:Int)-1))) ((EP _ _).alloc (EO _) (wq #[I Z R,I Z F,I Z G,CF (.func g) #[] caps] 169))) (grown_below (gz (aP (EP _ w1) (Y u)) 0 (I Z ((left:Int)-1))) ((EP _ _).alloc (EO _) (wq #[I Z R,I Z F,I Z G,CF (.func g) #[] caps] 169)));have bc:Hid (((w1.setCell ⟨u,0,U⟩ (I Z ((left:Int)-1))).alloc (wq #[I Z R,I Z F,I Z G,CF (.func g) #[] caps] 169)).heap[w1.heap.size]?=Y (wq #[I Z R,I Z F,I Z G,CF (.func g) #[] caps] 169 (0,0))):=by
  show _=_
  rw[im,rv (by simp[World.setCell])]
 have z:Hid (kZ (w.heap.size+1) w1 ((w1.setCell ⟨u,0,U⟩ (I Z ((left:Int)-1))).alloc (wq #[I Z R,I Z F,I Z G,CF (.func g) #[] caps] 169))):=by
  show kZ _ _ _
  exact⟨af.o.size,fun b h1 h2=>af.o.block b h2 (by intro e;simp at e;omega)⟩
 have bd:=Hd (aV af.o ct (by intro e;simp at e;omega));clear b0 b1 b2 b3 b4 cq l1 bb ad ct;go_upto_region 3 with (fail)
 clear c2 f2;generalize ((w1.setCell ⟨u,0,U⟩ (I Z ((left:Int)-1))).alloc (wq #[I Z R,I Z F,I Z G,CF (.func g) #[] caps] 169))=w2 at *;have c2:=FI _ _ 0 _ _ _ y.o;obtain⟨b0,b1,b2,b3,b4⟩:=cells5 bd.o;obtain⟨m0,m1,m2,m3⟩:=cells4 bc.o;have cu:∀(h:(xv (deep≤30)&&xv (1≤left)&&aI T)=false),dS d T deep left=false:=fun h=>by
  rw[X.o]
  by_cases hle:1≤left
  ·have e:xv (1≤left)=true:=by simpa using hle
   rw[e,Bool.and_true]at h;rw[Bool.and_comm (aI T),h];simp
  ·have e:xv (sumF (d-1) T.u+1≤left)=false:=by simp;omega
   rw[e];simp
 rw[cc.o]at cu;have N:=Hd cu;clear cu
 by_cases H:deep≤30
 ·have ev:(deep:Int)≤30:=by omega
  by_cases e0:1≤left
  ·have gF:(1:Int)≤left:=by omega
   by_cases C:0≤T.y
   ·by_cases cv:F≤T.h
    ·by_cases cx:T.h≤G
     ·have c9:aI T=(tx&&bv T.b T.u):=by
       rw[cc.o];have e1:xv (F≤T.h)=true:=by simpa using cv
       have E:xv (T.h≤G)=true:=by simpa using cx
       have e3:xv (0≤T.y)=true:=by simpa using C
       rw[e1,E,e3];simp
      have ak:=Hd c9;clear c9;clear cc N;have al:=HT.o.h j.o (Ne.symm cb);go_wp2_with fail
      refine EX (c1.o w2 al) ?_;rintro e w3 ⟨rfl,P⟩;have K:=Hd P;have l3:=aa P y.o (EN.1 y.o).1;have x3:=aa P bd.o (EN.1 bd.o).1;have da:=aa P bc.o (EN.1 bc.o).1;have dc:=Hd (al.z P);clear b0 b1 b2 b3 b4 c2 m0 m1 m2 m3 P al;obtain⟨b0,b1,b2,b3,b4⟩:=cells5 x3;obtain⟨m0,m1,m2,m3⟩:=cells4 da;obtain⟨bl,cA⟩:=zz2 l3 x3;clear l3 x3 da
      cases tx
      ·have a:dS d T deep left=false:=by
        rw[X.o,ak.o];simp
       have f:=Hd a;clear a;go_wp2_with fail
       go_ret;exact dY f.o (grown_below j.o K.o) bl.o
      ·have l:=c7.o w3 d B T.u (A p T.u.length c) ⟨EU z.o.1 K.o.size,fun b h1 h2=>(K.o.block b (ET h2 z.o.1)).trans (z.o.2 b (by simpa using h1) h2)⟩
        ((ep.o.z (below_of_grown j.o ca hB)).z (K.o.mono (EU hB j.o.size))) (EU (EU hB j.o.size) K.o.size) c0
       have D:=Hd l;have aq:Hid (aI T=bv T.b T.u):=by show _=_;rw[ak.o,Bool.true_and]
       clear l ak;generalize bv T.b T.u=kk at *;rcases cr.o with rfl|⟨bq,rfl⟩
       all_goals
        go_wp2_with fail
        refine EX D.o ?_;rintro e w4 ⟨rfl,ar⟩;have dd:=Hd ar;have l4:=aa ar bl.o (EN.1 bl.o).1;have x4:=aa ar cA.o (EN.1 cA.o).1;have e4:=Hd (dc.o.z ar);clear b0 b1 b2 b3 b4 m0 m1 m2 m3 ar;obtain⟨b0,b1,b2,b3,b4⟩:=cells5 x4;have dg:=Hd l4;clear l4 x4;have av:=Hd (grown_below (grown_below j.o K.o) dd.o)
        cases kk
        ·have a:dS d T deep left=false:=by
          rw[X.o,aq.o];simp
         have f:=Hd a;clear a;go_wp2_with fail
         go_ret;exact dY f.o av.o dg.o
        ·have bR:Hid (dS d T deep left=(T.u.all (jS (d-1) deep)&&xv (sumF (d-1) T.u+1≤left))):=by
          show _=_
          have e:xv (deep≤30)=true:=by simpa using H
          rw[X.o,aq.o,e];simp
         clear X aq D z bd bc y K dd dc bl cA c1 ch c7;obtain⟨n,hn⟩:=zzy (T.u.length);have HN:=Hd hn;rw[hn]at c0 b4 ⊢;clear hn;go_wp2_with fail
         clear b0 b1 b2 b3 b4
         go_loopw [77] (C9 w4 (d-1) T.u deep left u n) (fun i _=>n-(intOf i).toNat)
         case atStart=>exact⟨_,0,left-1,V,Fa _,V,aP (EP _ _) _,by rw[dg.o,show ((left:Int)-1)=((left-1:Nat):Int) by omega],by show left-1+0+1=left;omega,V⟩
         case round =>
          obtain⟨W1,k,m,rfl,hk,rfl,Q,a1,hm,a6⟩:=hrel;obtain⟨dp,e5,ds,bn⟩:=zz4 Q a1 a6 hm;have cC:Below B w W1:=below_of_grown (gZ av.o Q) ca hB;have br:B≤W1.heap.size:=EU hB (gZ av.o Q).size;have gH:(0:Int)≤k:=by omega
          by_cases b5:k<n
          ·obtain⟨t,ht⟩:∃t,T.u[k]?=Y t:=⟨T.u[k]'(by rw[HN.o];exact b5),ES (by rw[HN.o];exact b5)⟩;obtain⟨hd,bk,off,rfl,e6,b6⟩:=c3.o k t ht;obtain⟨p',l',c',d0,d1,d2,d3,d4,ba⟩:=b6.node cC e6;have gL:(k:Int)<n:=by omega
           have q:FK W1 (W1.alloc (wq #[I O t.b,J t.f,I Z t.h,I Z t.y,A p' l' c'] 25)):=(EP _ W1).alloc (EO _) _;have b7:gx (d-1) t:=by
            have h1:=er.o;rw[hd]at h1;exact h1.2.2 t (Fj ht)
           have dv:=aa q a1 (EN.1 a1).1;have l:Calls Tryz.prog 38 #[Value.agg #[I O t.b,J t.f,I Z t.h,I Z t.y,A p' l' c'],I Z ((deep:Int)+1),xV (Y ⟨u,0,U⟩)] _ (j6 (d-1) t (deep+1) m u _):=
            el.o (d-1) hd t _ (deep+1) m u B _ (ba.z (q.mono br)) ca (EU br q.size) b7 ((e4.o.h Q (Ne.symm cb)).z q) cb dv (by omega) (by omega) (by omega)
           obtain⟨D,cR,e7⟩:=zz3 l ht q;clear l dv b7 q ba b6 ht cC br Q a1 hm a6 hd;go_wp2_with fail
           refine EX D.o ?_;rintro e w5 ⟨rfl,ea,x5,b8,eb⟩;obtain⟨ec,eg,e8,cT,cV⟩:=zz5 (gZ dp.o (gZ (aP e7.o (Y u)) ea)) b8 eb (right_stop (d:=d-1) (deep:=deep) (left:=left) cR.o bn.o) (B9 (d:=d-1) (m:=m) cR.o ds.o);clear ea b8 eb d0 d1 d2 d3 d4;generalize dS (d-1) t (deep+1) m=r at *
           cases r
           ·have a:dS d T deep left=false:=by
             rw[bR.o];exact cT.o (by first|rfl|trivial)
            have f:=Hd a;clear a;go_wp2_with fail
            go_ret;exact dY f.o (gZ av.o ec.o) eg.o
           ·go_wp2_with fail
            refine⟨⟨w5,k+1,m-aM (d-1) t,V,by omega,by go_num,ec.o,?_,?_,(cV.o (by first|rfl|trivial)).1⟩,by simp[intOf];omega⟩
            ·rw[eg.o,e8.o (by first|rfl|trivial)]
             have:=(cV.o (by first|rfl|trivial)).2
             rw[show ((m:Int)-aM (d-1) t)=((m-aM (d-1) t:Nat):Int) by omega]
            ·have h1:=rZ (d-1) T.u k t cR.o;have h2:=(cV.o (by first|rfl|trivial)).2
             have h3:=bn.o;omega
          ·obtain rfl:k=n:=by omega
           have cW:T.u.take k=T.u:=Fg (by rw[HN.o];exact EO _);have b9:dS d T deep left=true:=by
            rw[bR.o];have h1:=ds.o;have h2:=bn.o;rw[cW]at h1 h2;rw[h1];simp;omega
           obtain⟨ek,e9⟩:=zz2 b9 cW;clear b9 cW hm a6 a1 Q cC br;go_wp2_with fail
           go_ret;refine⟨ah ek.o.symm,gZ av.o dp.o,_,e5.o,fun _=>?_⟩;have h2:=bn.o;rw[e9.o]at h2;rw[ck.o];omega
     ·have E:xv (T.h≤G)=false:=by simpa using cx
      have a:=N.o (by rw[E];simp);have f:=Hd a;clear a E;have fv:G<T.h:=by omega
      clear cx;go_wp2_with fail
      go_ret;exact dY f.o j.o y.o
    ·have E:xv (F≤T.h)=false:=by simpa using cv
     have a:=N.o (by rw[E];simp);have f:=Hd a;clear a E;have fz:T.h<F:=by omega
     clear cv;go_wp2_with fail
     go_ret;exact dY f.o j.o y.o
   ·have E:xv (0≤T.y)=false:=by simpa using C
    have a:=N.o (by rw[E];simp);have f:=Hd a;clear a E;have fI:T.y<0:=by omega
    clear C;go_wp2_with fail
    go_ret;exact dY f.o j.o y.o
  ·obtain rfl:left=0:=by omega
   have a:=N.o (by simp);have f:=Hd a;clear a;go_wp2_with fail
   go_ret;exact dY f.o j.o y.o
 ·have ev:(30:Int)<deep:=by omega
  have E:xv (deep≤30)=false:=by simpa using H
  have a:=N.o (by rw[E];simp);have f:=Hd a;clear a E H;go_wp2_with fail
  go_ret;exact dY f.o j.o y.o
theorem yO:∀d,AW d:=by
 intro d
 induction d with
 | zero =>
  intro T v deep left f B w g a hB b l c i m n j
  by_cases k:1≤T.b∧T.b≤16
  ·exact pw 0 (Hd fun d' h=>by omega) T v deep left f B w g a hB b l c i m n j k.1 k.2
  ·exact mP 0 T v deep left f B w g hB i j (by omega)
 | succ d o =>
  intro T v deep left f B w g a hB b l c i m n j
  by_cases k:1≤T.b∧T.b≤16
  ·refine pw (d+1) (Hd fun d' h=>?_) T v deep left f B w g a hB b l c i m n j k.1 k.2;have e:d'=d:=by omega
   subst e;exact o
  ·exact mP (d+1) T v deep left f B w g hB i j (by omega)
theorem Cf(d:Nat)(T:ab):fQ d T=(T.b==1&&dS d T 1 4096):=by
 unfold fQ dS;have e:xv (1+bS d T≤31)=xv (bS d T≤30):=by rw[Fw];simp only[r7];omega
 rw[e];simp only[Bool.and_assoc]
theorem mM(d:Nat)(T:ab)(v:Value)(B:Nat)(w:World)(q:dH w B d T v)(hB:B≤w.heap.size)(f:gx d T)(j:aR w) :
  Calls Tryz.prog 20 #[v] w (am (fQ d T) w):=by
 have g:=q;obtain⟨_,s,rfl,h⟩:=q;obtain⟨p,n,c,rfl⟩:=h.b;obtain⟨t,u,i⟩:=dZ w (wq #[I O T.b,J T.f,I Z T.h,I Z T.y,A p n c] 25) (wq #[I Z (4096:Nat)] 3);obtain⟨D,E,F,G,H⟩:=cells5 t;have x:=Hd (Cf d T);have k:=j.lt;obtain⟨a,l⟩:=zz2 (yO d T _ 1 4096 (w.heap.size+1) B _ (g.z (i.mono hB)) (by omega) (EU hB i.size) f (j.z i) (by omega) u (by omega) (by omega) (by omega)) i;clear t u i h g k j f;generalize fQ d T=r at *
 go_enter Tryz.func20,Tryz.ntmps20
 cases y:((T.b:Int)==1)
 ·have b:(T.b==1)=false:=by simp at y ⊢;omega
  have m:=Hd b;clear b a;go_wp2_with fail
  go_ret;exact⟨ah (by rw[x.o,m.o];rfl),l.o⟩
 ·have b:(T.b==1)=true:=by simp at y ⊢;omega
  have m:=Hd b;clear b;go_wp2_with fail
  refine EX a.o ?_;rintro e W ⟨rfl,z,_⟩;have C:=Hd z;clear z;go_wp2_with fail
  go_ret;exact⟨ah (by rw[x.o,m.o];rfl),l.o.trans (below_of_grown C.o (Fl _) l.o.size)⟩
