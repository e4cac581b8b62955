/- Parts of one proof, joined; conditions stand in each theorem. -/
import Derived.Test.YtoonjedifockoaaGreatDoorMI
import Derived.Deep.Cut
namespace Go.Proofs.YtoonjedifockoaaGreatDoor
open Go.IntKind(i64)
open Go.Value(int string slice)
set_option maxHeartbeats 4000000
set_option maxRecDepth 100000
open Go.RowKit
theorem uJ{L:Nat}{w:World}{kd:Nat}{fn:Value}(h:qp L w kd fn):∃(g:FuncId) (caps:Array Value),fn=.func (.func g) #[] caps∧(caps=#[]∨∃b:Nat,caps=#[.pointer (some ⟨b,0,none⟩)])∧(∀(args:Array Value) (w:World),(callFunc g args).run Tryz.prog w=.ok (.enter g args) w)∧
  ∀(W:World) (d B:Nat) (a:List ac) (v:Value),kb L w W→aD W B d a v→B≤W.heap.size→a.length≤20000→Calls Tryz.prog g (#[v]++caps) W (ap (fA kd a) W):=by
 rcases h with ⟨g,c,f,e⟩|⟨b,c,e⟩
 ·exact⟨g,#[],c,Or.inl rfl,f,fun W d B a v a1 a2 a3 a4=>by simpa using e W d B a v a1 a2 a3 a4⟩
 ·exact⟨_,_,c,Or.inr ⟨b,rfl⟩,enters_of Tryz.func174 (by kernel_rfl) rfl,fun W d B a v a1 a2 a3 a4=>e W d B a v a1 a2 a3 a4⟩
theorem cells4{w:World}{T:Nat}{a b c d:Value}{t:TypeId}(h:w.heap[T]?=some (.cells #[a,b,c,d] t (0,0))) :
  w.cell? ⟨T,0,none⟩=some a∧w.cell? ⟨T,1,none⟩=some b∧w.cell? ⟨T,2,none⟩=some c∧w.cell? ⟨T,3,none⟩=some d:=by
 simp[World.cell?,h]
theorem oq(d:Nat)(ds:Hid (∀d',d=d'+1→AE d'))(T:ac)(v:Value)(deep left u B:Nat)(w:World)(hv:eO w B d T v)(bn:B≤u)(hB:B≤w.heap.size)(x:iQ d T)(ht:aM w)(br:1≠u)
  (hl:w.heap[u]?=some (.cells #[int i64 left] 3 (0,0))) (fs:1≤deep) (fv:deep≤31) (fz:left≤4096)
  (I:1≤T.kind) (J:T.kind≤16):Calls Tryz.prog 77 #[v,int i64 deep,.pointer (some ⟨u,0,none⟩)] w (jr d T deep left u w):=by
 obtain⟨_,s,rfl,O⟩:=hv;obtain⟨p,c,rfl,_,a6⟩:=O.rows;have cv:T.kids.length≤20000:=by
  cases d with
  | zero=>rw[O.1];exact EM _
  | succ d=>exact x.2.1
 have hz:d=0→T.kids=[]:=fun h=>by subst h;exact O.1
 have dv:u<w.heap.size:=(Ez.1 hl).1;have fI:(0:Int)≤left:=by omega
 have fT:(left:Int)≤4096:=by omega
 have e6:(1:Int)≤deep:=by omega
 have e7:(deep:Int)≤31:=by omega
 have P:=Hd (BM d T deep left hz);have bt:Hid (cw T=(textF (ez T.kind).1 T.text.data.toList T.kids.length&&(decide ((ez T.kind).2.1≤T.num)&&decide (T.num≤(ez T.kind).2.2))&&decide (0≤T.place)&&fA T.kind T.kids)):=by
  show cw T=_
  unfold cw;have e1:decide (1≤T.kind)=true:=by simpa using I
  have D:decide (T.kind≤16)=true:=by simpa using J
  rw[e1,D,vG _ I J,yT _ I J,Bool.true_and,Bool.true_and]
 obtain⟨ec,_,_⟩:=Dm T.kind I J;have bB:=Hd (fun W=>yJ T.kind W I J);unfold dV at bB;have cx:=Hd (fun W (hW:aM W)=>uq T.kind T.text T.num T.place p T.kids.length c (ez T.kind).1 W hW x.text ec);have bR:=Hd (uh d T hz);have eg:=Hd O;have cA:=Hd a6;have ek:=Hd x;have HT:=Hd ht;have HZ:=Hd hz;generalize (ez T.kind).1=N at *;generalize (ez T.kind).2.1=E at *;generalize (ez T.kind).2.2=F at *;generalize textF N T.text.data.toList T.kids.length=tx at *;have cC:Ft w (w.alloc (.cells #[int .u8 T.kind,.string T.text,int i64 T.num,int i64 T.place,.slice p T.kids.length c] 144)):=(EB _ w).alloc (EA _) _;have b5:=n7 w (.cells #[int .u8 T.kind,.string T.text,int i64 T.num,int i64 T.place,.slice p T.kids.length c] 144);have el:=Hd b5;obtain⟨b0,b1,b2,b3,b4⟩:=cells5 b5;have cR:=Hd cC;have HL:=Hd hl;clear O hl cC b5 a6 x ht hz I J
 go_enter Tryz.func77,Tryz.ntmps77
 go_wp2_with fail
 refine EJ (bB.o _) ?_;rintro e w1 ⟨fn,rfl,b6,ak⟩;obtain⟨g,caps,rfl,Q,e8,ak⟩:=uJ ak;have cT:=Hd ak;have b7:=Hd Q;have b8:=aa b6 el.o (by simp);have cV:=Hd (cR.o.trans (b6.mono cR.o.size));have l1:=aa cV.o HL.o dv;have a7:u<w1.heap.size:=(Ez.1 l1).1;have gf:w.heap.size<w1.heap.size:=(Ez.1 b8).1;have c2:(w1.alloc (.cells #[int i64 N,int i64 E,int i64 F,.func (.func g) #[] caps] 170)).cell? ⟨u,0,none⟩=some (int i64 left):=by
  have q:Ft w1 (w1.alloc (.cells #[int i64 N,int i64 E,int i64 F,.func (.func g) #[] caps] 170)):=(EB _ w1).alloc (EA _) _;exact Fq _ _ 0 _ _ _ (aa q l1 a7)
 have f2:(w1.alloc (.cells #[int i64 N,int i64 E,int i64 F,.func (.func g) #[] caps] 170)).frozen? ⟨u,0,none⟩=false:=by
  have q:Ft w1 (w1.alloc (.cells #[int i64 N,int i64 E,int i64 F,.func (.func g) #[] caps] 170)):=(EB _ w1).alloc (EA _) _;exact ao (aa q l1 a7) 0
 have y:=Hd (rR l1 (int i64 ((left:Int)-1)) (.cells #[int i64 N,int i64 E,int i64 F,.func (.func g) #[] caps] 170));have j:=Hd (grown_below (fG (aH cV.o (some u)) 0 (int i64 ((left:Int)-1))) ((EB _ _).alloc (EA _) (.cells #[int i64 N,int i64 E,int i64 F,.func (.func g) #[] caps] 170)));have R:=Hd (grown_below (fG (aH (EB _ w1) (some u)) 0 (int i64 ((left:Int)-1))) ((EB _ _).alloc (EA _) (.cells #[int i64 N,int i64 E,int i64 F,.func (.func g) #[] caps] 170)));have an:Hid (((w1.setCell ⟨u,0,none⟩ (int i64 ((left:Int)-1))).alloc (.cells #[int i64 N,int i64 E,int i64 F,.func (.func g) #[] caps] 170)).heap[w1.heap.size]?=some (.cells #[int i64 N,int i64 E,int i64 F,.func (.func g) #[] caps] 170 (0,0))):=by
  show _=_
  rw[gn,n9 (by simp[World.setCell])]
 have z:Hid (kb (w.heap.size+1) w1 ((w1.setCell ⟨u,0,none⟩ (int i64 ((left:Int)-1))).alloc (.cells #[int i64 N,int i64 E,int i64 F,.func (.func g) #[] caps] 170))):=by
  show kb _ _ _
  exact⟨R.o.size,fun b h1 h2=>R.o.block b h2 (by intro e;simp at e;omega)⟩
 have aq:=Hd (aP R.o b8 (by intro e;simp at e;omega));clear b0 b1 b2 b3 b4 b6 l1 ak Q b8;go_upto_region 3 with (fail)
 clear c2 f2;generalize ((w1.setCell ⟨u,0,none⟩ (int i64 ((left:Int)-1))).alloc (.cells #[int i64 N,int i64 E,int i64 F,.func (.func g) #[] caps] 170))=w2 at *;have c2:=Fq _ _ 0 _ _ _ y.o;obtain⟨b0,b1,b2,b3,b4⟩:=cells5 aq.o;obtain⟨m0,m1,m2,m3⟩:=cells4 an.o;have b9:∀(h:(decide (deep≤30)&&decide (1≤left)&&cw T)=false),dD d T deep left=false:=fun h=>by
  rw[P.o]
  by_cases hle:1≤left
  ·have e:decide (1≤left)=true:=by simpa using hle
   rw[e,Bool.and_true]at h;rw[Bool.and_comm (cw T),h];simp
  ·have e:decide (sumF (d-1) T.kids+1≤left)=false:=by simp;omega
   rw[e];simp
 rw[bt.o]at b9;have K:=Hd b9;clear b9
 by_cases G:deep≤30
 ·have en:(deep:Int)≤30:=by omega
  by_cases eo:1≤left
  ·have gg:(1:Int)≤left:=by omega
   by_cases A:0≤T.place
   ·by_cases ca:E≤T.num
    ·by_cases cc:T.num≤F
     ·have cW:cw T=(tx&&fA T.kind T.kids):=by
       rw[bt.o];have e1:decide (E≤T.num)=true:=by simpa using ca
       have D:decide (T.num≤F)=true:=by simpa using cc
       have e3:decide (0≤T.place)=true:=by simpa using A
       rw[e1,D,e3];simp
      have S:=Hd cW;clear cW;clear bt K;have U:=HT.o.grown j.o (Ne.symm br);go_wp2_with fail
      refine EJ (cx.o w2 U) ?_;rintro e w3 ⟨rfl,L⟩;have H:=Hd L;have l3:=aa L y.o (Ez.1 y.o).1;have x3:=aa L aq.o (Ez.1 aq.o).1;have c0:=aa L an.o (Ez.1 an.o).1;have c1:=Hd (U.below L);clear b0 b1 b2 b3 b4 c2 m0 m1 m2 m3 L U;obtain⟨b0,b1,b2,b3,b4⟩:=cells5 x3;obtain⟨m0,m1,m2,m3⟩:=cells4 c0;have ar:=Hd l3;have ch:=Hd x3;clear l3 x3 c0
      cases tx
      ·have a:dD d T deep left=false:=by
        rw[P.o,S.o];simp
       have f:=Hd a;clear a;go_wp2_with fail
       go_ret;exact dH f.o (grown_below j.o H.o) ar.o
      ·have l:=cT.o w3 d B T.kids (.slice p T.kids.length c) ⟨EG z.o.1 H.o.size,fun b h1 h2=>(H.o.block b (EF h2 z.o.1)).trans (z.o.2 b (by simpa using h1) h2)⟩
        ((eg.o.below (below_of_grown j.o bn hB)).below (H.o.mono (EG hB j.o.size))) (EG (EG hB j.o.size) H.o.size) cv
       have C:=Hd l;have V:Hid (cw T=fA T.kind T.kids):=by show _=_;rw[S.o,Bool.true_and]
       clear l S;generalize fA T.kind T.kids=kk at *;rcases b7.o with rfl|⟨bq,rfl⟩
       all_goals
        go_wp2_with fail
        refine EJ C.o ?_;rintro e w4 ⟨rfl,X⟩;have c3:=Hd X;have l4:=aa X ar.o (Ez.1 ar.o).1;have x4:=aa X ch.o (Ez.1 ch.o).1;have er:=Hd (c1.o.below X);clear b0 b1 b2 b3 b4 m0 m1 m2 m3 X;obtain⟨b0,b1,b2,b3,b4⟩:=cells5 x4;have c5:=Hd l4;clear l4 x4;have Y:=Hd (grown_below (grown_below j.o H.o) c3.o)
        cases kk
        ·have a:dD d T deep left=false:=by
          rw[P.o,V.o];simp
         have f:=Hd a;clear a;go_wp2_with fail
         go_ret;exact dH f.o Y.o c5.o
        ·have a8:Hid (dD d T deep left=(T.kids.all (jd (d-1) deep)&&decide (sumF (d-1) T.kids+1≤left))):=by
          show _=_
          have e:decide (deep≤30)=true:=by simpa using G
          rw[P.o,V.o,e];simp
         clear P V C z aq an y H c3 c1 ar ch cx bB cT;obtain⟨n,hn⟩:=zzy (T.kids.length);have HN:=Hd hn;rw[hn]at cv b4 ⊢;clear hn;go_wp2_with fail
         clear b0 b1 b2 b3 b4
         go_loopw [77] (CE w4 (d-1) T.kids deep left u n) (fun i _=>n-(intOf i).toNat)
         case atStart=>exact⟨_,0,left-1,rfl,EM _,rfl,aH (EB _ _) _,by rw[c5.o,show ((left:Int)-1)=((left-1:Nat):Int) by omega],by show left-1+0+1=left;omega,rfl⟩
         case round =>
          obtain⟨W1,k,m,rfl,hk,rfl,M,Z,hm,ad⟩:=hrel;have c6:=Hd M;have et:=Hd Z;have c7:=Hd ad;have av:=Hd hm;have ck:Below B w W1:=below_of_grown (fY Y.o M) bn hB;have a1:B≤W1.heap.size:=EG hB (fY Y.o M).size;have gD:(0:Int)≤k:=by omega
          by_cases ba:k<n
          ·obtain⟨t,ht⟩:∃t,T.kids[k]?=some t:=⟨T.kids[k]'(by rw[HN.o];exact ba),EE (by rw[HN.o];exact ba)⟩;obtain⟨hd,bk,off,rfl,ev,bb⟩:=cA.o k t ht;obtain⟨p',l',c',d0,d1,d2,d3,d4,af⟩:=bb.node ck ev;have gE:(k:Int)<n:=by omega
           have q:Ft W1 (W1.alloc (.cells #[int .u8 t.kind,.string t.text,int i64 t.num,int i64 t.place,.slice p' l' c'] 76)):=(EB _ W1).alloc (EA _) _;have bc:iQ (d-1) t:=by
            have h1:=ek.o;rw[hd]at h1;exact h1.2.2 t (EU ht)
           have c8:=aa q Z (Ez.1 Z).1;have l:Calls Tryz.prog 77 #[.agg #[int .u8 t.kind,.string t.text,int i64 t.num,int i64 t.place,.slice p' l' c'],int i64 ((deep:Int)+1),.pointer (some ⟨u,0,none⟩)] _ (jr (d-1) t (deep+1) m u _):=
            ds.o (d-1) hd t _ (deep+1) m u B _ (af.below (q.mono a1)) bn (EG a1 q.size) bc ((er.o.grown M (Ne.symm br)).below q) br c8 (by omega) (by omega) (by omega)
           have C:=Hd l;have cl:=Hd ht;have e0:=Hd q;clear l c8 bc q af bb ht ck a1 M Z hm ad hd;go_wp2_with fail
           refine EJ C.o ?_;rintro e w5 ⟨rfl,c9,x5,bd,da⟩;have dc:=Hd (fY c6.o (fY (aH e0.o (some u)) c9));have dd:=Hd bd;have e4:=Hd da;have cq:=Hd (right_stop (d:=d-1) (deep:=deep) (left:=left) cl.o av.o);have cr:=Hd (BQ (d:=d-1) (m:=m) cl.o c7.o);clear c9 bd da d0 d1 d2 d3 d4;generalize dD (d-1) t (deep+1) m=r at *
           cases r
           ·have a:dD d T deep left=false:=by
             rw[a8.o];exact cq.o (by first|rfl|trivial)
            have f:=Hd a;clear a;go_wp2_with fail
            go_ret;exact dH f.o (fY Y.o dc.o) dd.o
           ·go_wp2_with fail
            refine⟨⟨w5,k+1,m-dA (d-1) t,rfl,by omega,by go_num,dc.o,?_,?_,(cr.o (by first|rfl|trivial)).1⟩,by simp[intOf];omega⟩
            ·rw[dd.o,e4.o (by first|rfl|trivial)]
             have:=(cr.o (by first|rfl|trivial)).2
             rw[show ((m:Int)-dA (d-1) t)=((m-dA (d-1) t:Nat):Int) by omega]
            ·have h1:=rp (d-1) T.kids k t cl.o;have h2:=(cr.o (by first|rfl|trivial)).2
             have h3:=av.o;omega
          ·obtain rfl:k=n:=by omega
           have ct:T.kids.take k=T.kids:=ER (by rw[HN.o];exact EA _);have bl:dD d T deep left=true:=by
            rw[a8.o];have h1:=c7.o;have h2:=av.o;rw[ct]at h1 h2;rw[h1];simp;omega
           have dg:=Hd bl;have e5:=Hd ct;clear bl ct hm ad Z M ck a1;go_wp2_with fail
           go_ret;refine⟨bN dg.o.symm,fY Y.o c6.o,_,et.o,fun _=>?_⟩;have h2:=av.o;rw[e5.o]at h2;rw[bR.o];omega
     ·have D:decide (T.num≤F)=false:=by simpa using cc
      have a:=K.o (by rw[D];simp);have f:=Hd a;clear a D;have e9:F<T.num:=by omega
      clear cc;go_wp2_with fail
      go_ret;exact dH f.o j.o y.o
    ·have D:decide (E≤T.num)=false:=by simpa using ca
     have a:=K.o (by rw[D];simp);have f:=Hd a;clear a D;have fm:T.num<E:=by omega
     clear ca;go_wp2_with fail
     go_ret;exact dH f.o j.o y.o
   ·have D:decide (0≤T.place)=false:=by simpa using A
    have a:=K.o (by rw[D];simp);have f:=Hd a;clear a D;have fr:T.place<0:=by omega
    clear A;go_wp2_with fail
    go_ret;exact dH f.o j.o y.o
  ·obtain rfl:left=0:=by omega
   have a:=K.o (by simp);have f:=Hd a;clear a;go_wp2_with fail
   go_ret;exact dH f.o j.o y.o
 ·have en:(30:Int)<deep:=by omega
  have D:decide (deep≤30)=false:=by simpa using G
  have a:=K.o (by rw[D];simp);have f:=Hd a;clear a D G;go_wp2_with fail
  go_ret;exact dH f.o j.o y.o
theorem yL:∀d,AE d:=by
 intro d
 induction d with
 | zero =>
  intro T v deep left f B w g a hB b l c i m n j
  by_cases k:1≤T.kind∧T.kind≤16
  ·exact oq 0 (Hd fun d' h=>by omega) T v deep left f B w g a hB b l c i m n j k.1 k.2
  ·exact lZ 0 T v deep left f B w g hB i j (by omega)
 | succ d o =>
  intro T v deep left f B w g a hB b l c i m n j
  by_cases k:1≤T.kind∧T.kind≤16
  ·refine oq (d+1) (Hd fun d' h=>?_) T v deep left f B w g a hB b l c i m n j k.1 k.2;have e:d'=d:=by omega
   subst e;exact o
  ·exact lZ (d+1) T v deep left f B w g hB i j (by omega)
theorem BW(d:Nat)(T:ac):iJ d T=(T.kind==1&&dD d T 1 4096):=by
 unfold iJ dD;have e:decide (1+fu d T≤31)=decide (fu d T≤30):=by rw[Fc];simp only[oe];omega
 rw[e];simp only[Bool.and_assoc]
theorem lW(d:Nat)(T:ac)(v:Value)(B:Nat)(w:World)(q:eO w B d T v)(hB:B≤w.heap.size)(f:iQ d T)(j:aM w) :
  Calls Tryz.prog 50 #[v] w (ap (iJ d T) w):=by
 have g:=q;obtain⟨_,s,rfl,h⟩:=q;obtain⟨p,n,c,rfl⟩:=h.shape;obtain⟨t,u,i⟩:=dJ w (.cells #[int .u8 T.kind,.string T.text,int i64 T.num,int i64 T.place,.slice p n c] 76) (.cells #[int i64 (4096:Nat)] 3);obtain⟨C,D,E,F,G⟩:=cells5 t;have x:=Hd (BW d T);have k:=j.lt;have a:=Hd (yL d T _ 1 4096 (w.heap.size+1) B _ (g.below (i.mono hB)) (by omega) (EG hB i.size) f (j.below i) (by omega) u (by omega) (by omega) (by omega));have l:=Hd i;clear t u i h g k j f;generalize iJ d T=r at *
 go_enter Tryz.func50,Tryz.ntmps50
 cases y:((T.kind:Int)==1)
 ·have b:(T.kind==1)=false:=by simp at y ⊢;omega
  have m:=Hd b;clear b a;go_wp2_with fail
  go_ret;exact⟨bN (by rw[x.o,m.o];rfl),l.o⟩
 ·have b:(T.kind==1)=true:=by simp at y ⊢;omega
  have m:=Hd b;clear b;go_wp2_with fail
  refine EJ a.o ?_;rintro e W ⟨rfl,z,_⟩;have A:=Hd z;clear z;go_wp2_with fail
  go_ret;exact⟨bN (by rw[x.o,m.o];rfl),l.o.trans (below_of_grown A.o (EV _) l.o.size)⟩
