/- Parts of one proof, joined; conditions stand in each theorem. -/
import Derived.Test.YtkhfjgjjhlnnnaaGreatDoorMH
import Derived.Deep.Cut
open Go.Value renaming func→Bk,pointer→wF,int→I,string→J,slice→A
open Option renaming some→Y,none→U
open Go.Obj renaming cells→ur
open Go.IntKind renaming i64→Z,u8→O
open Decidable renaming decide→wo
namespace Go.Proofs.YtkhfjgjjhlnnnaaGreatDoor
set_option maxHeartbeats 4000000
set_option maxRecDepth 100000
open Go.RowKit
theorem uZ{L:Nat}{w:World}{kd:Nat}{fn:Value}(h:qU L w kd fn):∃(g:FuncId) (caps:Array Value),fn=Bk (.func g) #[] caps∧(caps=#[]∨∃b:Nat,caps=#[wF (Y ⟨b,0,U⟩)])∧(∀(args:Array Value) (w:World),(callFunc g args).run Tryz.prog w=.ok (.enter g args) w)∧
  ∀(W:World) (d B:Nat) (a:List ab) (v:Value),kV L w W→aj W B d a v→B≤W.heap.size→a.length≤20000→Calls Tryz.prog g (#[v]++caps) W (ao (bw kd a) W):=by
 rcases h with ⟨g,c,f,e⟩|⟨b,c,e⟩
 ·exact⟨g,#[],c,Or.inl V,f,fun W d B a v a1 a2 a3 a4=>by simpa using e W d B a v a1 a2 a3 a4⟩
 ·exact⟨_,_,c,Or.inr ⟨b,V⟩,enters_of Tryz.func210 (by kernel_rfl) V,fun W d B a v a1 a2 a3 a4=>e W d B a v a1 a2 a3 a4⟩
theorem cells4{w:World}{T:Nat}{a b c d:Value}{t:TypeId}(h:w.heap[T]?=Y (ur #[a,b,c,d] t (0,0))) :
  w.cell? ⟨T,0,U⟩=Y a∧w.cell? ⟨T,1,U⟩=Y b∧w.cell? ⟨T,2,U⟩=Y c∧w.cell? ⟨T,3,U⟩=Y d:=by
 simp[World.cell?,h]
theorem pn(d:Nat)(el:Hid (∀d',d=d'+1→Bc d'))(T:ab)(v:Value)(deep left u B:Nat)(w:World)(hv:bz w B d T v)(ca:B≤u)(hB:B≤w.heap.size)(x:gv d T)(ht:aS w)(cb:1≠u)
  (hl:w.heap[u]?=Y (ur #[I Z left] 3 (0,0))) (fM:1≤deep) (fT:deep≤31) (gf:left≤4096)
  (L:1≤T.b) (M:T.b≤16):Calls Tryz.prog 38 #[v,I Z deep,wF (Y ⟨u,0,U⟩)] w (j1 d T deep left u w):=by
 obtain⟨_,s,rfl,S⟩:=hv;obtain⟨p,c,rfl,_,bt⟩:=S.rows;have c0:T.q.length≤20000:=by
  cases d with
  | zero=>rw[S.1];exact FA _
  | succ d=>exact x.2.1
 have hz:d=0→T.q=[]:=fun h=>by subst h;exact S.1
 have en:u<w.heap.size:=(Fi.1 hl).1;have gg:(0:Int)≤left:=by omega
 have gD:(left:Int)≤4096:=by omega
 have fe:(1:Int)≤deep:=by omega
 have fm:(deep:Int)≤31:=by omega
 have X:=Hd (Ck d T deep left hz);have cc:Hid (aK T=(textF (eY T.b).1 T.f.data.toList T.q.length&&(wo ((eY T.b).2.1≤T.h)&&wo (T.h≤(eY T.b).2.2))&&wo (0≤T.t)&&bw T.b T.q)):=by
  show aK T=_
  unfold aK;have e1:wo (1≤T.b)=true:=by simpa using L
  have E:wo (T.b≤16)=true:=by simpa using M
  rw[e1,E,vX _ L M,zd _ L M,Bool.true_and,Bool.true_and]
 obtain⟨eo,_,_⟩:=Ed T.b L M;have ch:=Hd (fun W=>yU T.b W L M);unfold ew at ch;have c1:=Hd (fun W (hW:aS W)=>uP T.b T.f T.h T.t p T.q.length c (eY T.b).1 W hW x.f eo);obtain⟨ck,ep,c3,er,HT,HZ⟩:=zz6 (uH d T hz) S bt x ht hz;generalize (eY T.b).1=R at *;generalize (eY T.b).2.1=F at *;generalize (eY T.b).2.2=G at *;generalize textF R T.f.data.toList T.q.length=tx at *;have c5:Gc w (w.alloc (ur #[I O T.b,J T.f,I Z T.h,I Z T.t,A p T.q.length c] 99)):=(Fl _ w).alloc (Fj _) _;have cl:=qv w (ur #[I O T.b,J T.f,I Z T.h,I Z T.t,A p T.q.length c] 99);have et:=Hd cl;obtain⟨b0,b1,b2,b3,b4⟩:=cells5 cl;obtain⟨c6,HL⟩:=zz2 c5 hl;clear S hl c5 cl bt x ht hz L M
 go_enter Tryz.func38,Tryz.ntmps38
 go_wp2_with fail
 refine Fx (ch.o _) ?_;rintro e w1 ⟨fn,rfl,cq,bb⟩;obtain⟨g,caps,rfl,ad,fp,bb⟩:=uZ bb;obtain⟨c7,cr⟩:=zz2 bb ad;have ct:=aa cq et.o (by simp);have c8:=Hd (c6.o.trans (cq.mono c6.o.size));have l1:=aa c8.o HL.o en;have bB:u<w1.heap.size:=(Fi.1 l1).1;have gE:w.heap.size<w1.heap.size:=(Fi.1 ct).1;have c2:(w1.alloc (ur #[I Z R,I Z F,I Z G,Bk (.func g) #[] caps] 169)).cell? ⟨u,0,U⟩=Y (I Z left):=by
  have q:Gc w1 (w1.alloc (ur #[I Z R,I Z F,I Z G,Bk (.func g) #[] caps] 169)):=(Fl _ w1).alloc (Fj _) _;exact Gb _ _ 0 _ _ _ (aa q l1 bB)
 have f2:(w1.alloc (ur #[I Z R,I Z F,I Z G,Bk (.func g) #[] caps] 169)).frozen? ⟨u,0,U⟩=false:=by
  have q:Gc w1 (w1.alloc (ur #[I Z R,I Z F,I Z G,Bk (.func g) #[] caps] 169)):=(Fl _ w1).alloc (Fj _) _;exact bM (aa q l1 bB) 0
 obtain⟨y,j,af⟩:=zz3 (sR l1 (I Z ((left:Int)-1)) (ur #[I Z R,I Z F,I Z G,Bk (.func g) #[] caps] 169)) (grown_below (gx (aQ c8.o (Y u)) 0 (I Z ((left:Int)-1))) ((Fl _ _).alloc (Fj _) (ur #[I Z R,I Z F,I Z G,Bk (.func g) #[] caps] 169))) (grown_below (gx (aQ (Fl _ w1) (Y u)) 0 (I Z ((left:Int)-1))) ((Fl _ _).alloc (Fj _) (ur #[I Z R,I Z F,I Z G,Bk (.func g) #[] caps] 169)));have bc:Hid (((w1.setCell ⟨u,0,U⟩ (I Z ((left:Int)-1))).alloc (ur #[I Z R,I Z F,I Z G,Bk (.func g) #[] caps] 169)).heap[w1.heap.size]?=Y (ur #[I Z R,I Z F,I Z G,Bk (.func g) #[] caps] 169 (0,0))):=by
  show _=_
  rw[il,r6 (by simp[World.setCell])]
 have z:Hid (kV (w.heap.size+1) w1 ((w1.setCell ⟨u,0,U⟩ (I Z ((left:Int)-1))).alloc (ur #[I Z R,I Z F,I Z G,Bk (.func g) #[] caps] 169))):=by
  show kV _ _ _
  exact⟨af.o.size,fun b h1 h2=>af.o.block b h2 (by intro e;simp at e;omega)⟩
 have bd:=Hd (aW af.o ct (by intro e;simp at e;omega));clear b0 b1 b2 b3 b4 cq l1 bb ad ct;go_upto_region 3 with (fail)
 clear c2 f2;generalize ((w1.setCell ⟨u,0,U⟩ (I Z ((left:Int)-1))).alloc (ur #[I Z R,I Z F,I Z G,Bk (.func g) #[] caps] 169))=w2 at *;have c2:=Gb _ _ 0 _ _ _ y.o;obtain⟨b0,b1,b2,b3,b4⟩:=cells5 bd.o;obtain⟨m0,m1,m2,m3⟩:=cells4 bc.o;have cu:∀(h:(wo (deep≤30)&&wo (1≤left)&&aK T)=false),dS d T deep left=false:=fun h=>by
  rw[X.o]
  by_cases hle:1≤left
  ·have e:wo (1≤left)=true:=by simpa using hle
   rw[e,Bool.and_true]at h;rw[Bool.and_comm (aK T),h];simp
  ·have e:wo (sumF (d-1) T.q+1≤left)=false:=by simp;omega
   rw[e];simp
 rw[cc.o]at cu;have N:=Hd cu;clear cu
 by_cases H:deep≤30
 ·have ev:(deep:Int)≤30:=by omega
  by_cases e0:1≤left
  ·have gF:(1:Int)≤left:=by omega
   by_cases C:0≤T.t
   ·by_cases cv:F≤T.h
    ·by_cases cx:T.h≤G
     ·have c9:aK T=(tx&&bw T.b T.q):=by
       rw[cc.o];have e1:wo (F≤T.h)=true:=by simpa using cv
       have E:wo (T.h≤G)=true:=by simpa using cx
       have e3:wo (0≤T.t)=true:=by simpa using C
       rw[e1,E,e3];simp
      have ak:=Hd c9;clear c9;clear cc N;have al:=HT.o.h j.o (Ne.symm cb);go_wp2_with fail
      refine Fx (c1.o w2 al) ?_;rintro e w3 ⟨rfl,P⟩;have K:=Hd P;have l3:=aa P y.o (Fi.1 y.o).1;have x3:=aa P bd.o (Fi.1 bd.o).1;have da:=aa P bc.o (Fi.1 bc.o).1;have dc:=Hd (al.u P);clear b0 b1 b2 b3 b4 c2 m0 m1 m2 m3 P al;obtain⟨b0,b1,b2,b3,b4⟩:=cells5 x3;obtain⟨m0,m1,m2,m3⟩:=cells4 da;obtain⟨bl,cA⟩:=zz2 l3 x3;clear l3 x3 da
      cases tx
      ·have a:dS d T deep left=false:=by
        rw[X.o,ak.o];simp
       have f:=Hd a;clear a;go_wp2_with fail
       go_ret;exact dY f.o (grown_below j.o K.o) bl.o
      ·have l:=c7.o w3 d B T.q (A p T.q.length c) ⟨Fu z.o.1 K.o.size,fun b h1 h2=>(K.o.block b (Ft h2 z.o.1)).trans (z.o.2 b (by simpa using h1) h2)⟩
        ((ep.o.u (below_of_grown j.o ca hB)).u (K.o.mono (Fu hB j.o.size))) (Fu (Fu hB j.o.size) K.o.size) c0
       have D:=Hd l;have aq:Hid (aK T=bw T.b T.q):=by show _=_;rw[ak.o,Bool.true_and]
       clear l ak;generalize bw T.b T.q=kk at *;rcases cr.o with rfl|⟨bq,rfl⟩
       all_goals
        go_wp2_with fail
        refine Fx D.o ?_;rintro e w4 ⟨rfl,ar⟩;have dd:=Hd ar;have l4:=aa ar bl.o (Fi.1 bl.o).1;have x4:=aa ar cA.o (Fi.1 cA.o).1;have e4:=Hd (dc.o.u ar);clear b0 b1 b2 b3 b4 m0 m1 m2 m3 ar;obtain⟨b0,b1,b2,b3,b4⟩:=cells5 x4;have dg:=Hd l4;clear l4 x4;have av:=Hd (grown_below (grown_below j.o K.o) dd.o)
        cases kk
        ·have a:dS d T deep left=false:=by
          rw[X.o,aq.o];simp
         have f:=Hd a;clear a;go_wp2_with fail
         go_ret;exact dY f.o av.o dg.o
        ·have bR:Hid (dS d T deep left=(T.q.all (jP (d-1) deep)&&wo (sumF (d-1) T.q+1≤left))):=by
          show _=_
          have e:wo (deep≤30)=true:=by simpa using H
          rw[X.o,aq.o,e];simp
         clear X aq D z bd bc y K dd dc bl cA c1 ch c7;obtain⟨n,hn⟩:=zzy (T.q.length);have HN:=Hd hn;rw[hn]at c0 b4 ⊢;clear hn;go_wp2_with fail
         clear b0 b1 b2 b3 b4
         go_loopw [77] (Do w4 (d-1) T.q deep left u n) (fun i _=>n-(intOf i).toNat)
         case atStart=>exact⟨_,0,left-1,V,FA _,V,aQ (Fl _ _) _,by rw[dg.o,show ((left:Int)-1)=((left-1:Nat):Int) by omega],by show left-1+0+1=left;omega,V⟩
         case round =>
          obtain⟨W1,k,m,rfl,hk,rfl,Q,a1,hm,a6⟩:=hrel;obtain⟨dp,e5,ds,bn⟩:=zz4 Q a1 a6 hm;have cC:Below B w W1:=below_of_grown (gY av.o Q) ca hB;have br:B≤W1.heap.size:=Fu hB (gY av.o Q).size;have gH:(0:Int)≤k:=by omega
          by_cases b5:k<n
          ·obtain⟨t,ht⟩:∃t,T.q[k]?=Y t:=⟨T.q[k]'(by rw[HN.o];exact b5),Fq (by rw[HN.o];exact b5)⟩;obtain⟨hd,bk,off,rfl,e6,b6⟩:=c3.o k t ht;obtain⟨p',l',c',d0,d1,d2,d3,d4,ba⟩:=b6.node cC e6;have gL:(k:Int)<n:=by omega
           have q:Gc W1 (W1.alloc (ur #[I O t.b,J t.f,I Z t.h,I Z t.t,A p' l' c'] 25)):=(Fl _ W1).alloc (Fj _) _;have b7:gv (d-1) t:=by
            have h1:=er.o;rw[hd]at h1;exact h1.2.2 t (FM ht)
           have dv:=aa q a1 (Fi.1 a1).1;have l:Calls Tryz.prog 38 #[Value.agg #[I O t.b,J t.f,I Z t.h,I Z t.t,A p' l' c'],I Z ((deep:Int)+1),wF (Y ⟨u,0,U⟩)] _ (j1 (d-1) t (deep+1) m u _):=
            el.o (d-1) hd t _ (deep+1) m u B _ (ba.u (q.mono br)) ca (Fu br q.size) b7 ((e4.o.h Q (Ne.symm cb)).u q) cb dv (by omega) (by omega) (by omega)
           obtain⟨D,cR,e7⟩:=zz3 l ht q;clear l dv b7 q ba b6 ht cC br Q a1 hm a6 hd;go_wp2_with fail
           refine Fx D.o ?_;rintro e w5 ⟨rfl,ea,x5,b8,eb⟩;obtain⟨ec,eg,e8,cT,cV⟩:=zz5 (gY dp.o (gY (aQ e7.o (Y u)) ea)) b8 eb (right_stop (d:=d-1) (deep:=deep) (left:=left) cR.o bn.o) (Co (d:=d-1) (m:=m) cR.o ds.o);clear ea b8 eb d0 d1 d2 d3 d4;generalize dS (d-1) t (deep+1) m=r at *
           cases r
           ·have a:dS d T deep left=false:=by
             rw[bR.o];exact cT.o (by first|rfl|trivial)
            have f:=Hd a;clear a;go_wp2_with fail
            go_ret;exact dY f.o (gY av.o ec.o) eg.o
           ·go_wp2_with fail
            refine⟨⟨w5,k+1,m-aH (d-1) t,V,by omega,by go_num,ec.o,?_,?_,(cV.o (by first|rfl|trivial)).1⟩,by simp[intOf];omega⟩
            ·rw[eg.o,e8.o (by first|rfl|trivial)]
             have:=(cV.o (by first|rfl|trivial)).2
             rw[show ((m:Int)-aH (d-1) t)=((m-aH (d-1) t:Nat):Int) by omega]
            ·have h1:=rW (d-1) T.q k t cR.o;have h2:=(cV.o (by first|rfl|trivial)).2
             have h3:=bn.o;omega
          ·obtain rfl:k=n:=by omega
           have cW:T.q.take k=T.q:=FH (by rw[HN.o];exact Fj _);have b9:dS d T deep left=true:=by
            rw[bR.o];have h1:=ds.o;have h2:=bn.o;rw[cW]at h1 h2;rw[h1];simp;omega
           obtain⟨ek,e9⟩:=zz2 b9 cW;clear b9 cW hm a6 a1 Q cC br;go_wp2_with fail
           go_ret;refine⟨ah ek.o.symm,gY av.o dp.o,_,e5.o,fun _=>?_⟩;have h2:=bn.o;rw[e9.o]at h2;rw[ck.o];omega
     ·have E:wo (T.h≤G)=false:=by simpa using cx
      have a:=N.o (by rw[E];simp);have f:=Hd a;clear a E;have fv:G<T.h:=by omega
      clear cx;go_wp2_with fail
      go_ret;exact dY f.o j.o y.o
    ·have E:wo (F≤T.h)=false:=by simpa using cv
     have a:=N.o (by rw[E];simp);have f:=Hd a;clear a E;have fz:T.h<F:=by omega
     clear cv;go_wp2_with fail
     go_ret;exact dY f.o j.o y.o
   ·have E:wo (0≤T.t)=false:=by simpa using C
    have a:=N.o (by rw[E];simp);have f:=Hd a;clear a E;have fI:T.t<0:=by omega
    clear C;go_wp2_with fail
    go_ret;exact dY f.o j.o y.o
  ·obtain rfl:left=0:=by omega
   have a:=N.o (by simp);have f:=Hd a;clear a;go_wp2_with fail
   go_ret;exact dY f.o j.o y.o
 ·have ev:(30:Int)<deep:=by omega
  have E:wo (deep≤30)=false:=by simpa using H
  have a:=N.o (by rw[E];simp);have f:=Hd a;clear a E H;go_wp2_with fail
  go_ret;exact dY f.o j.o y.o
theorem yV:∀d,Bc d:=by
 intro d
 induction d with
 | zero =>
  intro T v deep left f B w g a hB b l c i m n j
  by_cases k:1≤T.b∧T.b≤16
  ·exact pn 0 (Hd fun d' h=>by omega) T v deep left f B w g a hB b l c i m n j k.1 k.2
  ·exact mM 0 T v deep left f B w g hB i j (by omega)
 | succ d o =>
  intro T v deep left f B w g a hB b l c i m n j
  by_cases k:1≤T.b∧T.b≤16
  ·refine pn (d+1) (Hd fun d' h=>?_) T v deep left f B w g a hB b l c i m n j k.1 k.2;have e:d'=d:=by omega
   subst e;exact o
  ·exact mM (d+1) T v deep left f B w g hB i j (by omega)
theorem Cu(d:Nat)(T:ab):fO d T=(T.b==1&&dS d T 1 4096):=by
 unfold fO dS;have e:wo (1+bW d T≤31)=wo (bW d T≤30):=by rw[FV];simp only[r8];omega
 rw[e];simp only[Bool.and_assoc]
theorem mJ(d:Nat)(T:ab)(v:Value)(B:Nat)(w:World)(q:bz w B d T v)(hB:B≤w.heap.size)(f:gv d T)(j:aS w) :
  Calls Tryz.prog 20 #[v] w (ao (fO d T) w):=by
 have g:=q;obtain⟨_,s,rfl,h⟩:=q;obtain⟨p,n,c,rfl⟩:=h.b;obtain⟨t,u,i⟩:=dZ w (ur #[I O T.b,J T.f,I Z T.h,I Z T.t,A p n c] 25) (ur #[I Z (4096:Nat)] 3);obtain⟨D,E,F,G,H⟩:=cells5 t;have x:=Hd (Cu d T);have k:=j.lt;obtain⟨a,l⟩:=zz2 (yV d T _ 1 4096 (w.heap.size+1) B _ (g.u (i.mono hB)) (by omega) (Fu hB i.size) f (j.u i) (by omega) u (by omega) (by omega) (by omega)) i;clear t u i h g k j f;generalize fO d T=r at *
 go_enter Tryz.func20,Tryz.ntmps20
 cases y:((T.b:Int)==1)
 ·have b:(T.b==1)=false:=by simp at y ⊢;omega
  have m:=Hd b;clear b a;go_wp2_with fail
  go_ret;exact⟨ah (by rw[x.o,m.o];rfl),l.o⟩
 ·have b:(T.b==1)=true:=by simp at y ⊢;omega
  have m:=Hd b;clear b;go_wp2_with fail
  refine Fx a.o ?_;rintro e W ⟨rfl,z,_⟩;have C:=Hd z;clear z;go_wp2_with fail
  go_ret;exact⟨ah (by rw[x.o,m.o];rfl),l.o.trans (below_of_grown C.o (FN _) l.o.size)⟩
