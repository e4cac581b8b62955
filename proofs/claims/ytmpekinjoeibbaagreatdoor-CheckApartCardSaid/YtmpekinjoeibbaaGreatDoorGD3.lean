/- Parts of one proof, joined; conditions stand in each theorem. -/
import Derived.Test.YtmpekinjoeibbaaGreatDoorGB
open Go renaming World→p7,Value→r3,Calls→r9,wpQuiet_nil→vk
open Go.Proofs.Tryz renaming prog→r6
open Go.Value renaming slice→O,agg→s3,string→p9,int→I,bool→ur
open Option renaming some→A,none→V
open Go.IntKind renaming i64→Y
open Or renaming inl→tE,inr→tS
open Go.World renaming setCell→xD
open Go.Obj renaming cells→p8
open Go.Ending renaming returned→tF
namespace Go.Proofs.YtmpekinjoeibbaaGreatDoor
set_option maxHeartbeats 20000000
set_option maxRecDepth 100000
open Go.RowKit
theorem sQ{w:p7}{B b0 e2:Nat}{c0:Array r3}{D:List (r3×Nat)}(hI:FIn B b0 c0 D)(hF:Fm 41 23 2 B b0 c0 D (fun _ _ _=>True) w)(hB:B≤w.heap.size) :
  r9 r6 70 #[O (A ⟨b0,0,V⟩) D.length e2] w (dZ D w):=by
 obtain⟨N,hN⟩:=zzy (D.length);have hy:N≤100000:=by rw[←hN];exact hI.N
 rw[hN];obtain⟨ti,e3,e4,e5,e6⟩:=info_parts uI;obtain⟨HI,HF,HN⟩:=zz3 hI hF hN;clear hI hF hN
 go_enter Tryz.func70,Tryz.ntmps70
 go_wp2
 go_loopw [3] (nY 41 23 2 cD B b0 c0 D w) (fun i _=>N-(intOf i).toNat)
 case atStart=>exact⟨_,0,Z,Fi _,Z,Chg.y _ _,hB,HF.o.1,fun k v n h=>(HF.o.2 k v n h).imp fun xs h=>⟨h.1,fun h=>absurd h (Nat.not_lt_zero _),fun _=>rfl⟩⟩
 case round =>
  obtain⟨W1,k,rfl,hk,rfl,hb,hs,hm⟩:=hrel;rw[HN.o]at hk;have iX:(0:Int)≤k:=by omega
  have jj:(N:Int)≤100000:=by omega
  obtain⟨HM,HB⟩:=zz2 hm hb;clear hm hb
  by_cases f:k<N
  ·obtain⟨⟨v,n⟩,H⟩:∃d,D[k]?=A d:=⟨_,EX (by rw[HN.o];exact f)⟩;have hn:=HI.o.n k v n H;have HD:=Hd H;have cp:(k:Int)<N:=by omega
   have cr:(0:Int)≤n:=by omega
   have ct:(n:Int)≤20000:=by omega
   clear H
   go_wp2
   go_loopw [4] (gJ 41 23 2 cD B b0 c0 D w k n) (fun i _=>n-(intOf i).toNat)
   case atStart=>exact⟨_,0,Z,Fi _,Z,HB.o,hs,HM.o⟩
   case round =>
    obtain⟨W2,i,rfl,hi,rfl,e7,e8,cu⟩:=hrel;have cv:(0:Int)≤i:=by omega
    obtain⟨xs,b,hq⟩:=cu.2 k v n HD.o;obtain⟨p,c,rfl⟩:=aC b;have hv:W2.cell? ⟨b0,k,V⟩=A (O p n c):=by rw[FR _ _ _ _ _ _ cu.1];exact HI.o.b k _ n HD.o
    obtain⟨dg,e9,HO,HQ⟩:=zz4 cu e7 b hq;clear cu e7 b hq
    by_cases cW:i<n
    ·have bq:(i:Int)<n:=by omega
     obtain⟨g,c',bR,fe⟩:=aU HO.o (by omega);injection bR with h1 h2 h3
     subst h1;clear h2 h3;have hz:i*2+2≤xs.length:=by rw[HO.o.1];omega
     have HV:=fun x:Wb W2=>x.b hv
     have hD:k≤1000000:=by omega
     have hE:i≤1000000:=by omega
     go_wp2
     refine RE.t (by kernel_rfl) 9 [7] [7] (fun _ W=>∃x:Wb W2,W=x.1) (fun _ _=>True) (fun _ _=>s3 #[p9 ⟨#[]⟩,I Y (mkA k i)]) (fun _ _ _=>True) (by kernel_rfl) (fun i h1 h2=>by rw[h1]at h2;cases h2) (fun _ _ _ _ _ _ _=>trivial) ⟨⟨W2.drew,(EU _ _).drew⟩,Z⟩ ?_;simp only[Fg,Fu,Fh,Ft];have fm:∀(n s:Nat) (W:p7),s≤n→(∃x:Wb W2,W=x.1)→∃x:Wb W2,W=x.1:=fun _ _ _ _ h=>h
     have fp:=Hd fm;clear fm
     repeat (refine RE.h (fun W=>∃x:Wb W2,W=x.1) (fp.o _) Z Z Z ⟨⟨W2.drew,(EU _ _).drew⟩,Z⟩ ?_;go_big_quiet_step (fail);refine vk ?_)
     refine RE.b Z Z ?_ (fun j2=>?_)
     ·intro W _ hS _;obtain⟨x,rfl⟩:=hS Z;refine RE.u 130 _ _ Z (enters_of Tryz.func130 (by kernel_rfl) Z) #[I Y k,I Y i] (by simp[Act.eval]) ((mV k i x.1 hD hE).mono ?_);rintro e W' ⟨rfl,hG⟩;exact⟨_,Z,[],Z,⟨⟨W',x.2.trans (hG.mono x.2.size)⟩,Z⟩,trivial,trivial⟩
     simp only[Act.put,EV,Fe,Fc]
     repeat (refine RE.h (fun W=>∃x:Wb W2,W=x.1) (fp.o _) Z Z Z ⟨⟨W2.drew,(EU _ _).drew⟩,Z⟩ ?_;go_big_quiet_step (fail);refine vk ?_)
     refine RE.q ?_;rintro W3 ⟨⟨W3,af⟩,rfl⟩ _;have b2:=gJ.step (by decide) eV HI.o HD.o cW dg.o af;have b3:=ab HO.o af;have z0:=b3.frozenAt (i*2);have z1:=b3.frozenAt (i*2+1);obtain⟨a0,y0⟩:=am b3 (i*2) (by omega);obtain⟨a1,y1⟩:=am b3 (i*2+1) (by omega);have HS:=Hd b2;have b4:Chg (Dg D) w W3:=e9.o.h (Chg.b af);have hH:Dg D g∨w.heap.size≤g:=tE ⟨k,_,n,HD.o,Z⟩;have ak:Chg (Dg D) w (di W3 g (i*2) (cD k i)):=fy _ _ _ _ b4 hH;have dr:B≤W3.heap.size:=EZ e8 af.size;have ds:=Hd ak;clear b2 b3 b4 ak af HV hz
     go_wp2
     refine⟨⟨_,i+1,Z,by omega,by go_num,ds.o,?_,HS.o⟩,by simp[intOf];omega⟩
     simpa [xD]using dr
    ·obtain rfl:i=n:=by omega
     clear cW
     go_wp2
     refine⟨⟨_,k+1,Z,by rw[HN.o];omega,by go_num,e9.o,e8,dg.o.1,fun j u m hj=>?_⟩,by simp[intOf];omega⟩;obtain⟨ys,ho,hq⟩:=dg.o.2 j u m hj;refine⟨ys,ho,fun h=>?_,fun _=>rfl⟩
     by_cases hJ:j=k
     ·subst hJ;have hK:m=i:=by have:=HD.o;rw[hj]at this;simp only[oF,o6]at this;exact this.2
      subst hK;have:=hq.2 Z
      rwa [Fq (by rw[ho.1];exact ET _)]at this
     ·exact hq.1 (by omega)
  ·obtain rfl:N=k:=by omega
   clear f;obtain⟨C,hC,a7⟩:=ie (R:=116) (S:=23) Tryz.underlying116 (by kernel_rfl) N hy W1;obtain⟨W3,br⟩:=zzx (W1.alloc (p8 C 23));have fr:Fm 41 23 2 B b0 c0 D (fun j n xs=>xs=aI cD j n) W3:=by
    rw[br];refine⟨(heap_alloc_old W1 _ (ES.1 HM.o.1).1).trans HM.o.1,fun j v n hj=>?_⟩;obtain⟨xs,ho,hq⟩:=HM.o.2 j v n hj;exact⟨xs,ho.alloc _,hq.1 (by have:=(Fo.1 hj).1;rw[HN.o]at this;exact this)⟩
   have af:Chg (Dg D) w W3:=by rw[br];exact HB.o.h (Chg.b ((EU _ W1).alloc (ET _) _))
   have dr:B≤W3.heap.size:=by rw[br];simp;omega
   have dv:W3.heap[W1.heap.size]?=A (p8 C 23 (0,0)):=by rw[br];exact ot W1 _
   obtain⟨b1,a8⟩:=zzy (W1.heap.size);have c3:w.heap.size≤b1:=by rw[←a8];exact HB.o.u
   have fv:b0≠b1:=by have:=(ES.1 HM.o.1).1;omega
   rw[a8]at a7 dv;obtain⟨fz,fI,fT,HC⟩:=zz4 fr af dv hC;clear fr af dv hC a8
   go_wp2
   rw[←br];clear br
   go_loopw [6] (od 41 23 2 cD B b0 b1 c0 D w) (fun i _=>N-(intOf i).toNat)
   case atStart=>exact⟨_,0,Z,Fi _,Z,fI.o,dr,fz.o,C,fT.o,HC.o.trans HN.o.symm,fun j v n h=>absurd h (Nat.not_lt_zero _)⟩
   case round =>
    obtain⟨W4,k,rfl,hL,rfl,ga,gb,gf,gg⟩:=hrel;rw[HN.o]at hL;have ih:(0:Int)≤k:=by omega
    obtain⟨L,cx,b5⟩:=zz3 gf ga gg;clear gf ga gg fz fI fT HM HB HF
    by_cases f:k<N
    ·obtain⟨⟨v,n⟩,H⟩:∃d,D[k]?=A d:=⟨_,EX (by rw[HN.o];exact f)⟩;have hn:=HI.o.n k v n H;obtain⟨xs,b,hq⟩:=L.o.2 k v n H;obtain rfl:xs=aI cD k n:=hq;obtain⟨p,c,rfl⟩:=aC b;have hv:W4.cell? ⟨b0,k,V⟩=A (O p n c):=by rw[FR _ _ _ _ _ _ L.o.1];exact HI.o.b k _ n H
     obtain⟨HD,HO⟩:=zz2 H b;have cp:(k:Int)<N:=by omega
     have cr:(0:Int)≤n:=by omega
     have ct:(n:Int)≤20000:=by omega
     clear H b
     go_wp2
     go_loopw [7,8] (nV 41 23 2 cD B b0 c0 D w W4 k n (O p n c)) (fun _ i _=>64-(intOf i).toNat)
     case atStart=>exact⟨_,0,Z,Fi _,Z,cx.o,gb,L.o.1,Chg.y _ _,HO.o,HO.o,tE Z⟩
     case round =>
      obtain⟨W5,i,rfl,hi,rfl,b6,cT,eg⟩:=hrel;have cv:(0:Int)≤i:=by omega
      have gm:(i:Int)≤64:=by omega
      obtain⟨U,ba⟩:=zz2 b6 eg;have ka:W5.cell? ⟨b0,k,V⟩=A (O p n c):=by rw[FR _ _ _ _ _ _ eg.b0];exact HI.o.b k _ n HD.o
      clear b6 eg hv
      by_cases gD:i<64
      ·have bq:(i:Int)<64:=by omega
       have a7:∀W,r9 r6 130 #[I Y k,I Y ((n:Int)+i)] W fun e w'=>e=tF (s3 #[p9 ⟨#[]⟩,I Y (mkA k (n+i))])∧FS W w':=fun W=>by
        have h:=mV k (n+i) W (by omega) (by omega)
        rwa [Int.natCast_add]at h
       have P:=Hd a7;clear a7;go_wp2_with fail
       refine (P.o W5).mono ?_;rintro e K ⟨rfl,l⟩;obtain⟨W7,aq⟩:=zzx (K.alloc (p8 (cD k (n+i)).toArray 41));have r:FS W5 W7:=by rw[aq];exact l.alloc l.size _
       have gE:=ba.o.C r;have Q:∀j u,(cD k (n+i))[j]?=A u→W7.cell? ((⟨K.heap.size,0,V⟩:Addr).add j)=A u:=by rw[aq];exact dp K _ _
       have en:B≤W7.heap.size:=EZ cT r.size;have c5:K.alloc (p8 #[p9 ⟨#[]⟩,I Y (mkA k (n+i))] 41)=W7:=aq.symm;obtain⟨eo,er,T,hO⟩:=zz4 gE Q (U.o.h (Chg.b r)) c5;clear l r gE Q aq c5;go_wp2_with (at_builtin;go_must (rw[hO.o];refine aA _ Z (.tmp 57) (.tmp 67) 23 Z B 41 ti _ 2 24 Tryz.underlying23 e3 e4 e5 e6 Z (by decide) u7 (n+i) (aI cD k (n+i)) Z eo.o.ri ⟨K.heap.size,0,V⟩ 1 1 (cD k (n+i)) Z Z er.o (by simp[Value.oneCell',cD]) (by unfold maxLen;omega) (by omega) en (by decide) ?_);intro v8 W8 t X)
       have bb:=Gr4.h (by decide) (by decide) eo.o t X
       have y:=gk T.o (fun g hg=>by
        rcases eo.o.or with h|⟨g',h,h2⟩
        ·exact tE ⟨k,_,n,HD.o,h.symm.trans hg⟩
        ·rw[hg]at h;injection h with h;have:=cx.o.u;exact tS (by omega)) X
       have cV:B≤W8.heap.size:=by
        rcases X with ⟨_,_,_,_,h⟩|⟨_,_,h⟩
        ·exact EZ en h.size
        ·exact EZ en h.size
       refine⟨⟨W8,i+1,Z,by omega,by go_num,y,cV,⟨bb.1,bb.2.1,?_,bb.2.2.1,bb.2.2.2⟩⟩,by simp[intOf];omega⟩;rw[←Nat.add_assoc,dR];exact t
      ·obtain rfl:i=64:=by omega
       clear gD;obtain⟨q,cq,rfl⟩:=aC ba.o.ri;obtain⟨c1,E,F,_⟩:=b5.o;have gF:(O p n c).ownBlock≠A b1:=eA (by decide) HO.o E;have a8:W5.heap[b1]?=A (p8 c1 23 (0,0)):=(ba.o.chg.q b1 (ES.1 E).1 gF).trans E;have z0:=ae a8 k;obtain⟨a0,y0⟩:∃a,W5.cell? ⟨b1,k,V⟩=A a:=⟨_,(FR _ _ _ _ _ _ a8).trans (Array.getElem?_eq_getElem (by rw[F,HN.o];exact f))⟩;have bb:=jc (mk:=cD) (by decide) (k:=k) (q:=fun j n ys=>ys=aI cD j (n+64)) HI.o fv L.o b5.o HD.o ba.o.chg ba.o.rv ba.o.ri Z ba.o.or;have gH:=U.o.t (p:=⟨b1,k,V⟩) (tS c3) (O q (n+64) cq);have hP:B≤(W5.setCell ⟨b1,k,V⟩ (O q (n+64) cq)).heap.size:=by simpa [xD]using cT
       obtain⟨bc,hQ⟩:=zz2 bb gH;clear bb gH E gF a8 F;go_wp2_with fail
       exact⟨⟨_,k+1,Z,by rw[HN.o];omega,by go_num,hQ.o,hP,bc.o.1,bc.o.2⟩,by simp[intOf];omega⟩
    ·obtain rfl:N=k:=by omega
     clear f
     go_wp2
     go_loopw [9] (bJ N W4) (fun i _=>N-(intOf i).toNat)
     case atStart=>exact⟨_,0,Z,Fi _,Z,EU _ _⟩
     case round =>
      obtain⟨W5,k,rfl,kc,rfl,b6⟩:=hrel;have ix:(0:Int)≤k:=by omega
      have U:=Hd b6;clear b6
      by_cases f:k<N
      ·obtain⟨⟨v,n⟩,H⟩:∃d,D[k]?=A d:=⟨_,EX (by rw[HN.o];exact f)⟩;have hn:=HI.o.n k v n H;obtain⟨xs,b,hq⟩:=L.o.2 k v n H;obtain rfl:xs=aI cD k n:=hq;obtain⟨p,c,rfl⟩:=aC b;obtain⟨c1,E,F,b7⟩:=b5.o;obtain⟨v',ys,b8,z,rfl,_⟩:=b7 k _ n f H;obtain⟨g',c',rfl,hR⟩:=aU z (by omega);obtain⟨HD,HO,b9,HV,ca⟩:=zz5 H b z ((FR _ b0 k _ _ _ L.o.1).trans (HI.o.b k _ n H)) ((FR _ b1 k _ _ _ E).trans b8);have cp:(k:Int)<N:=by omega
       have cr:(0:Int)≤n:=by omega
       have ct:(n:Int)≤20000:=by omega
       clear H b z E F b7 b8
       go_wp2
       go_loopw [10] (bJ (n+64) W4) (fun i _=>(n+64)-(intOf i).toNat)
       case atStart=>exact⟨_,0,Z,Fi _,Z,U.o⟩
       case round =>
        obtain⟨K,i,rfl,kk,rfl,l⟩:=hrel;have cv:(0:Int)≤i:=by omega
        have et:=(l.cell (p:=⟨b0,k,V⟩) (ES.1 L.o.1).1).trans HV.o;have cb:=(l.cell (p:=⟨b1,k,V⟩) (World.block_lt_of_cell? _ _ ca.o)).trans ca.o;have ar:=Hd l
        by_cases av:i<n+64
        ·have bq:(i:Int)<(n:Int)+64:=by omega
         have kn:decide ((i:Int)<(n:Int)+64)=true:=decide_eq_true bq;have m0:=ai eV (ab b9.o l) ⟨[],(List.append_nil _).symm⟩ av av (m:=0) Z;rw[Nat.add_zero]at m0;have m1:=ai eV (ab b9.o l) ⟨[],(List.append_nil _).symm⟩ av av (m:=1) Z;have P:Hid (∀W:p7,r9 r6 130 #[I Y k,I Y i] W fun e w'=>e=tF (s3 #[p9 ⟨#[]⟩,I Y (mkA k i)])∧FS W w'):=fun W=>mV k i W (by omega) (by omega)
         have M0:=fun x:Wb K=>x.b m0
         have M1:=fun x:Wb K=>x.b m1
         have ht:=fun x:Wb K=>x.b et
         have V':=fun x:Wb K=>x.b cb
         clear m0 m1
         by_cases bl:i<n
         ·have ch:(i:Int)<n:=by omega
          have hT:decide ((i:Int)<(n:Int))=true:=decide_eq_true ch;obtain⟨g,c2,bR,fe⟩:=aU HO.o (by omega);injection bR with h1 h2 h3
          subst h1;clear h2 h3;have m0:=ai eV (ab HO.o l) ⟨[],(List.append_nil _).symm⟩ bl bl (m:=0) Z;rw[Nat.add_zero]at m0;have m1:=ai eV (ab HO.o l) ⟨[],(List.append_nil _).symm⟩ bl bl (m:=1) Z;have K0:=fun x:Wb K=>x.b m0
          have K1:=fun x:Wb K=>x.b m1
          clear m0 m1 l;obtain⟨c6,hA⟩:=zzx (mkA k i);rw[←hA]at P M1 K1;clear hA;go_wp2_with fail
          refine aj (by kernel_rfl) (by kernel_rfl) ?_
          repeat (go_big_quiet_step (first|(go_at_call 130;exact Calls.b (P.o _))))
          refine vk ?_;intro W7 a6;have r:=aE a6;have T:=Hd (ar.o.trans (r.mono ar.o.size));clear a6 r M0 M1 ht V' K0 K1 et cb;go_wp2_with fail
          exact⟨⟨_,i+1,Z,by omega,by go_num,T.o⟩,by simp[intOf];omega⟩
         ·have ch:¬(i:Int)<n:=by omega
          have hT:decide ((i:Int)<(n:Int))=false:=oB ch;clear l;obtain⟨c6,hA⟩:=zzx (mkA k i);rw[←hA]at P M1;clear hA;go_wp2_with fail
          refine aj (by kernel_rfl) (by kernel_rfl) ?_
          repeat (go_big_quiet_step (first|(go_at_call 130;exact Calls.b (P.o _))))
          refine vk ?_;intro W7 a6;have r:=aE a6;have T:=Hd (ar.o.trans (r.mono ar.o.size));clear a6 r M0 M1 ht V' et cb;go_wp2_with fail
          exact⟨⟨_,i+1,Z,by omega,by go_num,T.o⟩,by simp[intOf];omega⟩
        ·obtain rfl:i=n+64:=by omega
         clear av l;go_wp2_with fail
         exact⟨⟨_,k+1,Z,by omega,by go_num,ar.o⟩,by simp[intOf];omega⟩
      ·obtain rfl:N=k:=by omega
       clear f;have gL:Hid (Fm 41 23 2 B b0 c0 D (qM cD) W5):=⟨(U.o.block b0 (ES.1 L.o.1).1).trans L.o.1,fun j v n h=>(L.o.2 j v n h).imp fun xs hx=>⟨ab hx.1 U.o,hx.2⟩⟩;have c7:=cx.o.h (Chg.b U.o);have cT:B≤W5.heap.size:=EZ gb U.o.size;obtain⟨c1,E,F,_⟩:=b5.o;have gM:Hid (Gs 41 23 2 B b1 D 0 (fun j n ys=>∃zs,ys=aI cD j n++zs) W5):=⟨c1,(U.o.block b1 (ES.1 E).1).trans E,F,fun j v n h=>absurd h (Nat.not_lt_zero _)⟩;have c8:=Hd c7;clear c7 E F
       go_wp2
       go_loopw [11] (lN 41 23 2 cD B b0 b1 c0 D w) (fun i _=>N-(intOf i).toNat)
       case atStart=>exact⟨_,0,Z,Fi _,Z,c8.o,cT,gL.o,gM.o⟩
       case round =>
        obtain⟨K,k,rfl,hU,rfl,l,hV,gN,gO⟩:=hrel;rw[HN.o]at hU;have iA:(0:Int)≤k:=by omega
        obtain⟨bd,ar,gS⟩:=zz3 gN l gO;clear gN l gO gL c8 gM L cx b5
        by_cases f:k<N
        ·obtain⟨⟨v,n⟩,H⟩:∃d,D[k]?=A d:=⟨_,EX (by rw[HN.o];exact f)⟩;have hn:=HI.o.n k v n H;obtain⟨xs,b,hq⟩:=bd.o.2 k v n H;obtain rfl:xs=aI cD k n:=hq;obtain⟨p,c,rfl⟩:=aC b;obtain⟨HD,HO⟩:=zz2 H b;have cp:(k:Int)<N:=by omega
         have cr:(0:Int)≤n:=by omega
         have ct:(n:Int)≤20000:=by omega
         obtain⟨C6,gT,c9,ha⟩:=B7 K;obtain⟨W7,aq⟩:=zzx (K.alloc (p8 C6 41));have r:FS K W7:=by rw[aq];exact (EU _ _).alloc (ET _) _
         have ck:W7.ownsRow K.heap.size 41 2 (O (A ⟨K.heap.size,0,V⟩) 64 64) 64 C6.toList:=by rw[aq];exact World.ownsRow_lit K C6 64 (ET _) (by unfold maxLen;omega) gT
         obtain⟨T,hW,hX⟩:=zz3 r ck c9;obtain⟨M,hM⟩:=zzx (K.heap.size);rw[←hM]at ha;have hY:K.heap.size≤M:=by omega
         have hc:=Hd hM;clear H b r ck c9 gT hM
         go_wp2
         rw[←aq]
         go_loopw [13] (lY 41 2 K) (fun i _=>64-(intOf i).toNat)
         case atStart=>exact⟨_,0,_,Z,Fi _,Z,T.o,hW.o,hX.o⟩
         case round =>
          obtain⟨W8,i,xs,rfl,h0,rfl,y,t,bk⟩:=hrel;have cv:(0:Int)≤i:=by omega
          have gm:(i:Int)≤64:=by omega
          rw[←hc.o]at t;obtain⟨ad,ev,da⟩:=zz3 y t bk
          by_cases G:i<64
          ·have bq:(i:Int)<64:=by omega
           have a7:∀W,r9 r6 130 #[I Y ((k:Int)+N),I Y i] W fun e w'=>e=tF (s3 #[p9 ⟨#[]⟩,I Y (mkA (k+N) i)])∧FS W w':=fun W=>by
            have h:=mV (k+N) i W (by omega) (by omega)
            rwa [Int.natCast_add]at h
           have P:=Hd a7;clear a7 y t bk;go_wp2_with fail
           refine (P.o W8).mono ?_;rintro e W9 ⟨rfl,bt⟩;have bB:=ab ev.o bt;have z0:=bB.frozenAt (i*2);have z1:=bB.frozenAt (i*2+1);obtain⟨a0,y0⟩:=am bB (i*2) (by omega);obtain⟨a1,y1⟩:=am bB (i*2+1) (by omega);have b2:=dV (cD (k+N) i) W9 xs (i*2) bB;have dc:=ia (cD (k+N) i) xs (i*2) da.o (by simp[cD,Value.oneCell']);have b4:FS K W9:=ad.o.trans (bt.mono ad.o.size);have ak:FS K (di W9 M (i*2) (cD (k+N) i)):=eF _ _ _ _ b4 hY;obtain⟨HS,h4,ds⟩:=zz3 b2.1 dc ak;clear b2 dc b4 ak bt bB;go_wp2_with fail
           refine⟨⟨_,i+1,_,Z,by omega,by go_num,ds.o,?_,h4.o⟩,by simp[intOf];omega⟩;rw[←hc.o];exact HS.o
          ·obtain rfl:i=64:=by omega
           clear G;have e0:Gr4 41 23 2 cD B b0 c0 K k n (O p n c) (O p n c) 0 W8:=Gr4.C ⟨bd.o.1,Chg.y _ _,HO.o,HO.o,tE Z⟩ ad.o;have e1:W8.cell? ⟨b0,k,V⟩=A (O p n c):=by rw[FR _ _ _ _ _ _ e0.b0];exact HI.o.b k _ n HD.o
           have cV:B≤W8.heap.size:=EZ hV ad.o.size;obtain⟨hf,hh⟩:=zz2 (ar.o.h (Chg.b ad.o)) e0;have Q:∀j u,xs[j]?=A u→W8.cell? ((⟨M,0,V⟩:Addr).add j)=A u:=ev.o.cells Z;have er:=Hd Q;have hl:xs.length=64*2:=ev.o.1;have h5:=Hd hl;clear y t bk e0 Q hl;go_wp2_with (at_builtin;go_must (refine aA _ Z (.tmp 148) (.tmp 149) 23 Z B 41 ti _ 2 24 Tryz.underlying23 e3 e4 e5 e6 Z (by decide) (O p n c) n (aI cD k n) Z hh.o.rv ⟨M,0,V⟩ 64 64 xs Z h5.o er.o da.o (by unfold maxLen;omega) (by omega) cV (by decide) ?_);intro v9 W9 cl bn;obtain⟨q9,kr,rfl,z9,⟨a9,y9⟩,bc⟩:=kH (by decide) (by decide) HI.o fv c3 bd.o gS.o HD.o hh.o hf.o cV cl bn;clear cl bn)
           exact⟨⟨_,k+1,Z,by rw[HN.o];omega,by go_num,bc.o.2.2.1,bc.o.2.2.2,bc.o.1,bc.o.2.1⟩,by simp[intOf];omega⟩
        ·obtain rfl:N=k:=by omega
         clear f
         go_wp2
         go_loopw [14] (bJ N K) (fun i _=>N-(intOf i).toNat)
         case atStart=>exact⟨_,0,Z,Fi _,Z,EU _ _⟩
         case round =>
          obtain⟨W7,k,rfl,ks,rfl,r⟩:=hrel;have iB:(0:Int)≤k:=by omega
          have T:=Hd r;clear r
          by_cases f:k<N
          ·obtain⟨⟨v,n⟩,H⟩:∃d,D[k]?=A d:=⟨_,EX (by rw[HN.o];exact f)⟩;have hn:=HI.o.n k v n H;obtain⟨xs,b,hq⟩:=bd.o.2 k v n H;obtain rfl:xs=aI cD k n:=hq;obtain⟨p,c,rfl⟩:=aC b;obtain⟨c1,E,F,b7⟩:=gS.o;obtain⟨v',ys,b8,z,hp,_⟩:=b7 k _ n f H;obtain⟨g',c',rfl,hR⟩:=aU z (by omega);obtain⟨HD,HO,b9,hr,HV,ca⟩:=zz6 H b z hp ((FR _ b0 k _ _ _ bd.o.1).trans (HI.o.b k _ n H)) ((FR _ b1 k _ _ _ E).trans b8);have cp:(k:Int)<N:=by omega
           have cr:(0:Int)≤n:=by omega
           have ct:(n:Int)≤20000:=by omega
           have h6:=(T.o.cell (p:=⟨b0,k,V⟩) (ES.1 bd.o.1).1).trans HV.o;clear H b z E F b7 b8 hp
           go_wp2
           go_loopw [15] (bJ n K) (fun i _=>n-(intOf i).toNat)
           case atStart=>exact⟨_,0,Z,Fi _,Z,T.o⟩
           case round =>
            obtain⟨W8,i,rfl,h0,rfl,y⟩:=hrel;have cv:(0:Int)≤i:=by omega
            have e1:=(y.cell (p:=⟨b0,k,V⟩) (ES.1 bd.o.1).1).trans HV.o;have dd:=(y.cell (p:=⟨b1,k,V⟩) (World.block_lt_of_cell? _ _ ca.o)).trans ca.o;have ad:=Hd y;clear h6
            by_cases G:i<n
            ·have bq:(i:Int)<n:=by omega
             have kv:decide ((i:Int)<(n:Int))=true:=decide_eq_true bq;have m0:=ai eV (ab b9.o y) hr.o G (by omega) (m:=0) Z;rw[Nat.add_zero]at m0;have m1:=ai eV (ab b9.o y) hr.o G (by omega) (m:=1) Z;have P:Hid (∀W:p7,r9 r6 130 #[I Y k,I Y i] W fun e w'=>e=tF (s3 #[p9 ⟨#[]⟩,I Y (mkA k i)])∧FS W w'):=fun W=>mV k i W (by omega) (by omega)
             have M0:=fun x:Wb W8=>x.b m0
             have M1:=fun x:Wb W8=>x.b m1
             have ht:=fun x:Wb W8=>x.b e1
             have V':=fun x:Wb W8=>x.b dd
             clear m0 m1;obtain⟨g,c2,bR,fe⟩:=aU HO.o (by omega);injection bR with h1 h2 h3
             subst h1;clear h2 h3;have m0:=ai eV (ab HO.o y) ⟨[],(List.append_nil _).symm⟩ G G (m:=0) Z;rw[Nat.add_zero]at m0;have m1:=ai eV (ab HO.o y) ⟨[],(List.append_nil _).symm⟩ G G (m:=1) Z;have K0:=fun x:Wb W8=>x.b m0
             have K1:=fun x:Wb W8=>x.b m1
             have h7:i<n+64:=by omega
             have h8:(i:Int)<(n:Int)+64:=by omega
             clear m0 m1 y;obtain⟨c6,hA⟩:=zzx (mkA k i);rw[←hA]at P M1 K1;clear hA;go_wp2_with fail
             refine aj (by kernel_rfl) (by kernel_rfl) ?_
             repeat (go_big_quiet_step (first|(go_at_call 130;exact Calls.b (P.o _))))
             refine vk ?_;intro W9 a6;have bt:=aE a6;have h9:=Hd (ad.o.trans (bt.mono ad.o.size));clear a6 bt M0 M1 ht V' K0 K1 e1 dd;go_wp2_with fail
             exact⟨⟨_,i+1,Z,by omega,by go_num,h9.o⟩,by simp[intOf];omega⟩
            ·obtain rfl:i=n:=by omega
             clear G y;go_wp2_with fail
             exact⟨⟨_,k+1,Z,by omega,by go_num,ad.o⟩,by simp[intOf];omega⟩
          ·obtain rfl:N=k:=by omega
           clear f
           go_wp2
           go_ret;exact⟨Z,ar.o.h (Chg.b T.o)⟩
theorem qN{w:p7}{B b0 e4:Nat}{c0:Array r3}{D:List (r3×Nat)}(hI:FIn B b0 c0 D)(hF:Fm 39 24 5 B b0 c0 D (fun _ _ _=>True) w)(hB:B≤w.heap.size) :
  r9 r6 71 #[O (A ⟨b0,0,V⟩) D.length e4] w (dZ D w):=by
 obtain⟨N,hN⟩:=zzy (D.length);have hz:N≤100000:=by rw[←hN];exact hI.N
 rw[hN];obtain⟨ti,e5,e6,e7,e8⟩:=info_parts tU;obtain⟨HI,HF,HN⟩:=zz3 hI hF hN;clear hI hF hN
 go_enter Tryz.func71,Tryz.ntmps71
 go_wp2
 go_loopw [3] (nY 39 24 5 co B b0 c0 D w) (fun i _=>N-(intOf i).toNat)
 case atStart=>exact⟨_,0,Z,Fi _,Z,Chg.y _ _,hB,HF.o.1,fun k v n h=>(HF.o.2 k v n h).imp fun xs h=>⟨h.1,fun h=>absurd h (Nat.not_lt_zero _),fun _=>rfl⟩⟩
 case round =>
  obtain⟨W1,k,rfl,hk,rfl,hb,hs,hm⟩:=hrel;rw[HN.o]at hk;have iX:(0:Int)≤k:=by omega
  have jj:(N:Int)≤100000:=by omega
  obtain⟨HM,HB⟩:=zz2 hm hb;clear hm hb
  by_cases t:k<N
  ·obtain⟨⟨v,n⟩,P⟩:∃d,D[k]?=A d:=⟨_,EX (by rw[HN.o];exact t)⟩;have hn:=HI.o.n k v n P;have HD:=Hd P;have ct:(k:Int)<N:=by omega
   have cu:(0:Int)≤n:=by omega
   have cv:(n:Int)≤20000:=by omega
   clear P
   go_wp2
   go_loopw [4] (gJ 39 24 5 co B b0 c0 D w k n) (fun i _=>n-(intOf i).toNat)
   case atStart=>exact⟨_,0,Z,Fi _,Z,HB.o,hs,HM.o⟩
   case round =>
    obtain⟨W2,i,rfl,hi,rfl,e9,fe,cx⟩:=hrel;have cT:(0:Int)≤i:=by omega
    obtain⟨xs,b,hq⟩:=cx.2 k v n HD.o;obtain⟨p,c,rfl⟩:=aC b;have hv:W2.cell? ⟨b0,k,V⟩=A (O p n c):=by rw[FR _ _ _ _ _ _ cx.1];exact HI.o.b k _ n HD.o
    obtain⟨ds,fm,T,HQ⟩:=zz4 cx e9 b hq;clear cx e9 b hq
    by_cases c6:i<n
    ·have bR:(i:Int)<n:=by omega
     obtain⟨g,c',b4,fp⟩:=aU T.o (by omega);injection b4 with h1 h2 h3
     subst h1;clear h2 h3;have hA:i*5+5≤xs.length:=by rw[T.o.1];omega
     have HV:=fun x:Wb W2=>x.b hv
     have hD:k≤1000000:=by omega
     have hE:i≤1000000:=by omega
     go_wp2
     refine RE.t (by kernel_rfl) 9 [7] [7] (fun _ W=>∃x:Wb W2,W=x.1) (fun _ _=>True) (fun _ _=>s3 #[p9 ⟨#[]⟩,I Y 0,I Y (mkA k i),O V 0 0,O V 0 0]) (fun _ _ _=>True) (by kernel_rfl) (fun i h1 h2=>by rw[h1]at h2;cases h2) (fun _ _ _ _ _ _ _=>trivial) ⟨⟨W2.drew,(EU _ _).drew⟩,Z⟩ ?_;simp only[Fg,Fu,Fh,Ft];have fr:∀(n s:Nat) (W:p7),s≤n→(∃x:Wb W2,W=x.1)→∃x:Wb W2,W=x.1:=fun _ _ _ _ h=>h
     have fv:=Hd fr;clear fr
     repeat (refine RE.h (fun W=>∃x:Wb W2,W=x.1) (fv.o _) Z Z Z ⟨⟨W2.drew,(EU _ _).drew⟩,Z⟩ ?_;go_big_quiet_step (fail);refine vk ?_)
     refine RE.b Z Z ?_ (fun j2=>?_)
     ·intro W _ hS _;obtain⟨x,rfl⟩:=hS Z;refine RE.u 131 _ _ Z (enters_of Tryz.func131 (by kernel_rfl) Z) #[I Y k,I Y i] (by simp[Act.eval]) ((mK k i x.1 hD hE).mono ?_);rintro e W' ⟨rfl,hG⟩;exact⟨_,Z,[],Z,⟨⟨W',x.2.trans (hG.mono x.2.size)⟩,Z⟩,trivial,trivial⟩
     simp only[Act.put,EV,Fe,Fc]
     repeat (refine RE.h (fun W=>∃x:Wb W2,W=x.1) (fv.o _) Z Z Z ⟨⟨W2.drew,(EU _ _).drew⟩,Z⟩ ?_;go_big_quiet_step (fail);refine vk ?_)
     refine RE.q ?_;rintro W3 ⟨⟨W3,a6⟩,rfl⟩ _;have b5:=gJ.step (by decide) bC HI.o HD.o c6 ds.o a6;have U:=ab T.o a6;have z0:=U.frozenAt (i*5);have z1:=U.frozenAt (i*5+1);have z2:=U.frozenAt (i*5+2);have z3:=U.frozenAt (i*5+3);have z4:=U.frozenAt (i*5+4);obtain⟨a0,y0⟩:=am U (i*5) (by omega);obtain⟨a1,y1⟩:=am U (i*5+1) (by omega);obtain⟨a2,y2⟩:=am U (i*5+2) (by omega);obtain⟨a3,y3⟩:=am U (i*5+3) (by omega);obtain⟨a4,y4⟩:=am U (i*5+4) (by omega);have HS:=Hd b5;have b6:Chg (Dg D) w W3:=fm.o.h (Chg.b a6);have hH:Dg D g∨w.heap.size≤g:=tE ⟨k,_,n,HD.o,Z⟩;have a7:Chg (Dg D) w (di W3 g (i*5) (co k i)):=fy _ _ _ _ b6 hH;have dv:B≤W3.heap.size:=EZ fe a6.size;have eg:=Hd a7;clear b5 U b6 a7 a6 HV hA
     go_wp2
     refine⟨⟨_,i+1,Z,by omega,by go_num,eg.o,?_,HS.o⟩,by simp[intOf];omega⟩
     simpa [xD]using dv
    ·obtain rfl:i=n:=by omega
     clear c6
     go_wp2
     refine⟨⟨_,k+1,Z,by rw[HN.o];omega,by go_num,fm.o,fe,ds.o.1,fun j u m hj=>?_⟩,by simp[intOf];omega⟩;obtain⟨ys,ho,hq⟩:=ds.o.2 j u m hj;refine⟨ys,ho,fun h=>?_,fun _=>rfl⟩
     by_cases hJ:j=k
     ·subst hJ;have hK:m=i:=by have:=HD.o;rw[hj]at this;simp only[oF,o6]at this;exact this.2
      subst hK;have:=hq.2 Z
      rwa [Fq (by rw[ho.1];exact ET _)]at this
     ·exact hq.1 (by omega)
  ·obtain rfl:N=k:=by omega
   clear t;obtain⟨C,hC,bd⟩:=ie (R:=117) (S:=24) Tryz.underlying117 (by kernel_rfl) N hz W1;obtain⟨W3,b2⟩:=zzx (W1.alloc (p8 C 24));have fz:Fm 39 24 5 B b0 c0 D (fun j n xs=>xs=aI co j n) W3:=by
    rw[b2];refine⟨(heap_alloc_old W1 _ (ES.1 HM.o.1).1).trans HM.o.1,fun j v n hj=>?_⟩;obtain⟨xs,ho,hq⟩:=HM.o.2 j v n hj;exact⟨xs,ho.alloc _,hq.1 (by have:=(Fo.1 hj).1;rw[HN.o]at this;exact this)⟩
   have a6:Chg (Dg D) w W3:=by rw[b2];exact HB.o.h (Chg.b ((EU _ W1).alloc (ET _) _))
   have dv:B≤W3.heap.size:=by rw[b2];simp;omega
   have en:W3.heap[W1.heap.size]?=A (p8 C 24 (0,0)):=by rw[b2];exact ot W1 _
   obtain⟨b1,bk⟩:=zzy (W1.heap.size);have c7:w.heap.size≤b1:=by rw[←bk];exact HB.o.u
   have fI:b0≠b1:=by have:=(ES.1 HM.o.1).1;omega
   rw[bk]at bd en;obtain⟨fT,ga,gb,HC⟩:=zz4 fz a6 en hC;clear fz a6 en hC bk
   go_wp2
   rw[←b2];clear b2
   go_loopw [6] (od 39 24 5 co B b0 b1 c0 D w) (fun i _=>N-(intOf i).toNat)
   case atStart=>exact⟨_,0,Z,Fi _,Z,ga.o,dv,fT.o,C,gb.o,HC.o.trans HN.o.symm,fun j v n h=>absurd h (Nat.not_lt_zero _)⟩
   case round =>
    obtain⟨W4,k,rfl,hL,rfl,gf,gg,gm,gD⟩:=hrel;rw[HN.o]at hL;have ih:(0:Int)≤k:=by omega
    obtain⟨X,cV,b7⟩:=zz3 gm gf gD;clear gm gf gD fT ga gb HM HB HF
    by_cases t:k<N
    ·obtain⟨⟨v,n⟩,P⟩:∃d,D[k]?=A d:=⟨_,EX (by rw[HN.o];exact t)⟩;have hn:=HI.o.n k v n P;obtain⟨xs,b,hq⟩:=X.o.2 k v n P;obtain rfl:xs=aI co k n:=hq;obtain⟨p,c,rfl⟩:=aC b;have hv:W4.cell? ⟨b0,k,V⟩=A (O p n c):=by rw[FR _ _ _ _ _ _ X.o.1];exact HI.o.b k _ n P
     obtain⟨HD,T⟩:=zz2 P b;have ct:(k:Int)<N:=by omega
     have cu:(0:Int)≤n:=by omega
     have cv:(n:Int)≤20000:=by omega
     clear P b
     go_wp2
     go_loopw [7,8] (nV 39 24 5 co B b0 c0 D w W4 k n (O p n c)) (fun _ i _=>64-(intOf i).toNat)
     case atStart=>exact⟨_,0,Z,Fi _,Z,cV.o,gg,X.o.1,Chg.y _ _,T.o,T.o,tE Z⟩
     case round =>
      obtain⟨W5,i,rfl,hi,rfl,b8,cW,eo⟩:=hrel;have cT:(0:Int)≤i:=by omega
      have gE:(i:Int)≤64:=by omega
      obtain⟨aq,bl⟩:=zz2 b8 eo;have ka:W5.cell? ⟨b0,k,V⟩=A (O p n c):=by rw[FR _ _ _ _ _ _ eo.b0];exact HI.o.b k _ n HD.o
      clear b8 eo hv
      by_cases gF:i<64
      ·have bR:(i:Int)<64:=by omega
       have bd:∀W,r9 r6 131 #[I Y k,I Y ((n:Int)+i)] W fun e w'=>e=tF (s3 #[p9 ⟨#[]⟩,I Y 0,I Y (mkA k (n+i)),O V 0 0,O V 0 0])∧FS W w':=fun W=>by
        have h:=mK k (n+i) W (by omega) (by omega)
        rwa [Int.natCast_add]at h
       have a8:=Hd bd;clear bd;go_wp2_with fail
       refine (a8.o W5).mono ?_;rintro e z ⟨rfl,l⟩;obtain⟨W7,ba⟩:=zzx (z.alloc (p8 (co k (n+i)).toArray 39));have E:FS W5 W7:=by rw[ba];exact l.alloc l.size _
       have gH:=bl.o.C E;have ad:∀j u,(co k (n+i))[j]?=A u→W7.cell? ((⟨z.heap.size,0,V⟩:Addr).add j)=A u:=by rw[ba];exact dp z _ _
       have er:B≤W7.heap.size:=EZ cW E.size;have c8:z.alloc (p8 #[p9 ⟨#[]⟩,I Y 0,I Y (mkA k (n+i)),O V 0 0,O V 0 0] 39)=W7:=ba.symm;obtain⟨et,ev,af,hO⟩:=zz4 gH ad (aq.o.h (Chg.b E)) c8;clear l E gH ad ba c8;go_wp2_with (at_builtin;go_must (rw[hO.o];refine aA _ Z (.tmp 57) (.tmp 67) 24 Z B 39 ti _ 5 80 Tryz.underlying24 e5 e6 e7 e8 Z (by decide) u7 (n+i) (aI co k (n+i)) Z et.o.ri ⟨z.heap.size,0,V⟩ 1 1 (co k (n+i)) Z Z ev.o (by simp[Value.oneCell',co]) (by unfold maxLen;omega) (by omega) er (by decide) ?_);intro v8 W8 G ar)
       have bn:=Gr4.h (by decide) (by decide) et.o G ar
       have r:=gk af.o (fun g hg=>by
        rcases et.o.or with h|⟨g',h,h2⟩
        ·exact tE ⟨k,_,n,HD.o,h.symm.trans hg⟩
        ·rw[hg]at h;injection h with h;have:=cV.o.u;exact tS (by omega)) ar
       have c3:B≤W8.heap.size:=by
        rcases ar with ⟨_,_,_,_,h⟩|⟨_,_,h⟩
        ·exact EZ er h.size
        ·exact EZ er h.size
       refine⟨⟨W8,i+1,Z,by omega,by go_num,r,c3,⟨bn.1,bn.2.1,?_,bn.2.2.1,bn.2.2.2⟩⟩,by simp[intOf];omega⟩;rw[←Nat.add_assoc,dR];exact G
      ·obtain rfl:i=64:=by omega
       clear gF;obtain⟨q,cq,rfl⟩:=aC bl.o.ri;obtain⟨c1,K,L,_⟩:=b7.o;have gL:(O p n c).ownBlock≠A b1:=eA (by decide) T.o K;have bk:W5.heap[b1]?=A (p8 c1 24 (0,0)):=(bl.o.chg.q b1 (ES.1 K).1 gL).trans K;have z0:=ae bk k;obtain⟨a0,y0⟩:∃a,W5.cell? ⟨b1,k,V⟩=A a:=⟨_,(FR _ _ _ _ _ _ bk).trans (Array.getElem?_eq_getElem (by rw[L,HN.o];exact t))⟩;have bn:=jc (mk:=co) (by decide) (k:=k) (q:=fun j n ys=>ys=aI co j (n+64)) HI.o fI X.o b7.o HD.o bl.o.chg bl.o.rv bl.o.ri Z bl.o.or;have gM:=aq.o.t (p:=⟨b1,k,V⟩) (tS c7) (O q (n+64) cq);have hP:B≤(W5.setCell ⟨b1,k,V⟩ (O q (n+64) cq)).heap.size:=by simpa [xD]using cW
       obtain⟨bq,hQ⟩:=zz2 bn gM;clear bn gM K gL bk L;go_wp2_with fail
       exact⟨⟨_,k+1,Z,by rw[HN.o];omega,by go_num,hQ.o,hP,bq.o.1,bq.o.2⟩,by simp[intOf];omega⟩
    ·obtain rfl:N=k:=by omega
     clear t
     go_wp2
     go_loopw [9] (bJ N W4) (fun i _=>N-(intOf i).toNat)
     case atStart=>exact⟨_,0,Z,Fi _,Z,EU _ _⟩
     case round =>
      obtain⟨W5,k,rfl,kc,rfl,b8⟩:=hrel;have ix:(0:Int)≤k:=by omega
      have aq:=Hd b8;clear b8
      by_cases t:k<N
      ·obtain⟨⟨v,n⟩,P⟩:∃d,D[k]?=A d:=⟨_,EX (by rw[HN.o];exact t)⟩;have hn:=HI.o.n k v n P;obtain⟨xs,b,hq⟩:=X.o.2 k v n P;obtain rfl:xs=aI co k n:=hq;obtain⟨p,c,rfl⟩:=aC b;obtain⟨c1,K,L,b9⟩:=b7.o;obtain⟨v',ys,ca,H,rfl,_⟩:=b9 k _ n t P;obtain⟨g',c',rfl,hR⟩:=aU H (by omega);obtain⟨HD,T,ak,HV,cb⟩:=zz5 P b H ((FR _ b0 k _ _ _ X.o.1).trans (HI.o.b k _ n P)) ((FR _ b1 k _ _ _ K).trans ca);have ct:(k:Int)<N:=by omega
       have cu:(0:Int)≤n:=by omega
       have cv:(n:Int)≤20000:=by omega
       clear P b H K L b9 ca
       go_wp2
       go_loopw [10] (bJ (n+64) W4) (fun i _=>(n+64)-(intOf i).toNat)
       case atStart=>exact⟨_,0,Z,Fi _,Z,aq.o⟩
       case round =>
        obtain⟨z,i,rfl,kk,rfl,l⟩:=hrel;have cT:(0:Int)≤i:=by omega
        have e0:=(l.cell (p:=⟨b0,k,V⟩) (ES.1 X.o.1).1).trans HV.o;have ch:=(l.cell (p:=⟨b1,k,V⟩) (World.block_lt_of_cell? _ _ cb.o)).trans cb.o;have bb:=Hd l
        by_cases y:i<n+64
        ·have bR:(i:Int)<(n:Int)+64:=by omega
         have kn:decide ((i:Int)<(n:Int)+64)=true:=decide_eq_true bR;have m0:=ai bC (ab ak.o l) ⟨[],(List.append_nil _).symm⟩ y y (m:=0) Z;rw[Nat.add_zero]at m0;have m1:=ai bC (ab ak.o l) ⟨[],(List.append_nil _).symm⟩ y y (m:=1) Z;have m2:=ai bC (ab ak.o l) ⟨[],(List.append_nil _).symm⟩ y y (m:=2) Z;have m3:=ai bC (ab ak.o l) ⟨[],(List.append_nil _).symm⟩ y y (m:=3) Z;have m4:=ai bC (ab ak.o l) ⟨[],(List.append_nil _).symm⟩ y y (m:=4) Z;have a8:Hid (∀W:p7,r9 r6 131 #[I Y k,I Y i] W fun e w'=>e=tF (s3 #[p9 ⟨#[]⟩,I Y 0,I Y (mkA k i),O V 0 0,O V 0 0])∧FS W w'):=fun W=>mK k i W (by omega) (by omega)
         have c5:Hid (∀W:p7,r9 r6 26 #[s3 #[p9 ⟨#[]⟩,I Y 0,I Y (mkA k i),O V 0 0,O V 0 0],s3 #[p9 ⟨#[]⟩,I Y 0,I Y (mkA k i),O V 0 0,O V 0 0]] W fun e w'=>e=tF (ur true)∧FS W w'):=fun W=>Bj k i W (by omega) (by omega)
         have M0:=fun x:Wb z=>x.b m0
         have M1:=fun x:Wb z=>x.b m1
         have M2:=fun x:Wb z=>x.b m2
         have M3:=fun x:Wb z=>x.b m3
         have M4:=fun x:Wb z=>x.b m4
         have hy:=fun x:Wb z=>x.b e0
         have V':=fun x:Wb z=>x.b ch
         clear m0 m1 m2 m3 m4
         by_cases F:i<n
         ·have ck:(i:Int)<n:=by omega
          have hT:decide ((i:Int)<(n:Int))=true:=decide_eq_true ck;obtain⟨g,c2,b4,fp⟩:=aU T.o (by omega);injection b4 with h1 h2 h3
          subst h1;clear h2 h3;have m0:=ai bC (ab T.o l) ⟨[],(List.append_nil _).symm⟩ F F (m:=0) Z;rw[Nat.add_zero]at m0;have m1:=ai bC (ab T.o l) ⟨[],(List.append_nil _).symm⟩ F F (m:=1) Z;have m2:=ai bC (ab T.o l) ⟨[],(List.append_nil _).symm⟩ F F (m:=2) Z;have m3:=ai bC (ab T.o l) ⟨[],(List.append_nil _).symm⟩ F F (m:=3) Z;have m4:=ai bC (ab T.o l) ⟨[],(List.append_nil _).symm⟩ F F (m:=4) Z;have K0:=fun x:Wb z=>x.b m0
          have K1:=fun x:Wb z=>x.b m1
          have K2:=fun x:Wb z=>x.b m2
          have K3:=fun x:Wb z=>x.b m3
          have K4:=fun x:Wb z=>x.b m4
          clear m0 m1 m2 m3 m4 l;go_wp2_with fail
          refine aj (by kernel_rfl) (by kernel_rfl) ?_
          repeat (go_big_quiet_step (first|(go_at_call 131;exact Calls.b (a8.o _))|(go_at_call 26;exact Calls.b (c5.o _))))
          refine vk ?_;intro W7 bc;have E:=aE bc;have af:=Hd (bb.o.trans (E.mono bb.o.size));clear bc E M0 M1 M2 M3 M4 hy V' K0 K1 K2 K3 K4 e0 ch;go_wp2_with fail
          exact⟨⟨_,i+1,Z,by omega,by go_num,af.o⟩,by simp[intOf];omega⟩
         ·have ck:¬(i:Int)<n:=by omega
          have hT:decide ((i:Int)<(n:Int))=false:=oB ck;clear l;go_wp2_with fail
          refine aj (by kernel_rfl) (by kernel_rfl) ?_
          repeat (go_big_quiet_step (first|(go_at_call 131;exact Calls.b (a8.o _))|(go_at_call 26;exact Calls.b (c5.o _))))
          refine vk ?_;intro W7 bc;have E:=aE bc;have af:=Hd (bb.o.trans (E.mono bb.o.size));clear bc E M0 M1 M2 M3 M4 hy V' e0 ch;go_wp2_with fail
          exact⟨⟨_,i+1,Z,by omega,by go_num,af.o⟩,by simp[intOf];omega⟩
        ·obtain rfl:i=n+64:=by omega
         clear y l;go_wp2_with fail
         exact⟨⟨_,k+1,Z,by omega,by go_num,bb.o⟩,by simp[intOf];omega⟩
      ·obtain rfl:N=k:=by omega
       clear t;have gN:Hid (Fm 39 24 5 B b0 c0 D (qM co) W5):=⟨(aq.o.block b0 (ES.1 X.o.1).1).trans X.o.1,fun j v n h=>(X.o.2 j v n h).imp fun xs hx=>⟨ab hx.1 aq.o,hx.2⟩⟩;have c9:=cV.o.h (Chg.b aq.o);have cW:B≤W5.heap.size:=EZ gg aq.o.size;obtain⟨c1,K,L,_⟩:=b7.o;have gO:Hid (Gs 39 24 5 B b1 D 0 (fun j n ys=>∃zs,ys=aI co j n++zs) W5):=⟨c1,(aq.o.block b1 (ES.1 K).1).trans K,L,fun j v n h=>absurd h (Nat.not_lt_zero _)⟩;have da:=Hd c9;clear c9 K L
       go_wp2
       go_loopw [11] (lN 39 24 5 co B b0 b1 c0 D w) (fun i _=>N-(intOf i).toNat)
       case atStart=>exact⟨_,0,Z,Fi _,Z,da.o,cW,gN.o,gO.o⟩
       case round =>
        obtain⟨z,k,rfl,hU,rfl,l,hV,gS,gT⟩:=hrel;rw[HN.o]at hU;have iA:(0:Int)≤k:=by omega
        obtain⟨br,bb,ha⟩:=zz3 gS l gT;clear gS l gT gN da gO X cV b7
        by_cases t:k<N
        ·obtain⟨⟨v,n⟩,P⟩:∃d,D[k]?=A d:=⟨_,EX (by rw[HN.o];exact t)⟩;have hn:=HI.o.n k v n P;obtain⟨xs,b,hq⟩:=br.o.2 k v n P;obtain rfl:xs=aI co k n:=hq;obtain⟨p,c,rfl⟩:=aC b;obtain⟨HD,T⟩:=zz2 P b;have ct:(k:Int)<N:=by omega
         have cu:(0:Int)≤n:=by omega
         have cv:(n:Int)≤20000:=by omega
         obtain⟨C6,hc,dc,hf⟩:=CN z;obtain⟨W7,ba⟩:=zzx (z.alloc (p8 C6 39));have E:FS z W7:=by rw[ba];exact (EU _ _).alloc (ET _) _
         have cl:W7.ownsRow z.heap.size 39 5 (O (A ⟨z.heap.size,0,V⟩) 64 64) 64 C6.toList:=by rw[ba];exact World.ownsRow_lit z C6 64 (ET _) (by unfold maxLen;omega) hc
         obtain⟨af,hW,hX⟩:=zz3 E cl dc;obtain⟨M,hM⟩:=zzx (z.heap.size);rw[←hM]at hf;have hY:z.heap.size≤M:=by omega
         have hh:=Hd hM;clear P b E cl dc hc hM
         go_wp2
         rw[←ba]
         go_loopw [13] (lY 39 5 z) (fun i _=>64-(intOf i).toNat)
         case atStart=>exact⟨_,0,_,Z,Fi _,Z,af.o,hW.o,hX.o⟩
         case round =>
          obtain⟨W8,i,xs,rfl,h0,rfl,r,G,bt⟩:=hrel;have cT:(0:Int)≤i:=by omega
          have gE:(i:Int)≤64:=by omega
          rw[←hh.o]at G;obtain⟨av,e1,dd⟩:=zz3 r G bt
          by_cases f:i<64
          ·have bR:(i:Int)<64:=by omega
           have bd:∀W,r9 r6 131 #[I Y ((k:Int)+N),I Y i] W fun e w'=>e=tF (s3 #[p9 ⟨#[]⟩,I Y 0,I Y (mkA (k+N) i),O V 0 0,O V 0 0])∧FS W w':=fun W=>by
            have h:=mK (k+N) i W (by omega) (by omega)
            rwa [Int.natCast_add]at h
           have a8:=Hd bd;clear bd r G bt;go_wp2_with fail
           refine (a8.o W8).mono ?_;rintro e W9 ⟨rfl,b3⟩;have Q:=ab e1.o b3;have z0:=Q.frozenAt (i*5);have z1:=Q.frozenAt (i*5+1);have z2:=Q.frozenAt (i*5+2);have z3:=Q.frozenAt (i*5+3);have z4:=Q.frozenAt (i*5+4);obtain⟨a0,y0⟩:=am Q (i*5) (by omega);obtain⟨a1,y1⟩:=am Q (i*5+1) (by omega);obtain⟨a2,y2⟩:=am Q (i*5+2) (by omega);obtain⟨a3,y3⟩:=am Q (i*5+3) (by omega);obtain⟨a4,y4⟩:=am Q (i*5+4) (by omega);have b5:=dV (co (k+N) i) W9 xs (i*5) Q;have dg:=ia (co (k+N) i) xs (i*5) dd.o (by simp[co,Value.oneCell']);have b6:FS z W9:=av.o.trans (b3.mono av.o.size);have a7:FS z (di W9 M (i*5) (co (k+N) i)):=eF _ _ _ _ b6 hY;obtain⟨HS,h4,eg⟩:=zz3 b5.1 dg a7;clear b5 dg b6 a7 b3 Q;go_wp2_with fail
           refine⟨⟨_,i+1,_,Z,by omega,by go_num,eg.o,?_,h4.o⟩,by simp[intOf];omega⟩;rw[←hh.o];exact HS.o
          ·obtain rfl:i=64:=by omega
           clear f;have e2:Gr4 39 24 5 co B b0 c0 z k n (O p n c) (O p n c) 0 W8:=Gr4.C ⟨br.o.1,Chg.y _ _,T.o,T.o,tE Z⟩ av.o;have e3:W8.cell? ⟨b0,k,V⟩=A (O p n c):=by rw[FR _ _ _ _ _ _ e2.b0];exact HI.o.b k _ n HD.o
           have c3:B≤W8.heap.size:=EZ hV av.o.size;obtain⟨hl,hp⟩:=zz2 (bb.o.h (Chg.b av.o)) e2;have ad:∀j u,xs[j]?=A u→W8.cell? ((⟨M,0,V⟩:Addr).add j)=A u:=e1.o.cells Z;have ev:=Hd ad;have hr:xs.length=64*5:=e1.o.1;have h5:=Hd hr;clear r G bt e2 ad hr;go_wp2_with (at_builtin;go_must (refine aA _ Z (.tmp 148) (.tmp 149) 24 Z B 39 ti _ 5 80 Tryz.underlying24 e5 e6 e7 e8 Z (by decide) (O p n c) n (aI co k n) Z hp.o.rv ⟨M,0,V⟩ 64 64 xs Z h5.o ev.o dd.o (by unfold maxLen;omega) (by omega) c3 (by decide) ?_);intro v9 W9 cp bB;obtain⟨q9,kr,rfl,z9,⟨a9,y9⟩,bq⟩:=kH (by decide) (by decide) HI.o fI c7 br.o ha.o HD.o hp.o hl.o c3 cp bB;clear cp bB)
           exact⟨⟨_,k+1,Z,by rw[HN.o];omega,by go_num,bq.o.2.2.1,bq.o.2.2.2,bq.o.1,bq.o.2.1⟩,by simp[intOf];omega⟩
        ·obtain rfl:N=k:=by omega
         clear t
         go_wp2
         go_loopw [14] (bJ N z) (fun i _=>N-(intOf i).toNat)
         case atStart=>exact⟨_,0,Z,Fi _,Z,EU _ _⟩
         case round =>
          obtain⟨W7,k,rfl,ks,rfl,E⟩:=hrel;have iB:(0:Int)≤k:=by omega
          have af:=Hd E;clear E
          by_cases t:k<N
          ·obtain⟨⟨v,n⟩,P⟩:∃d,D[k]?=A d:=⟨_,EX (by rw[HN.o];exact t)⟩;have hn:=HI.o.n k v n P;obtain⟨xs,b,hq⟩:=br.o.2 k v n P;obtain rfl:xs=aI co k n:=hq;obtain⟨p,c,rfl⟩:=aC b;obtain⟨c1,K,L,b9⟩:=ha.o;obtain⟨v',ys,ca,H,ht,_⟩:=b9 k _ n t P;obtain⟨g',c',rfl,hR⟩:=aU H (by omega);obtain⟨HD,T,ak,cr,HV,cb⟩:=zz6 P b H ht ((FR _ b0 k _ _ _ br.o.1).trans (HI.o.b k _ n P)) ((FR _ b1 k _ _ _ K).trans ca);have ct:(k:Int)<N:=by omega
           have cu:(0:Int)≤n:=by omega
           have cv:(n:Int)≤20000:=by omega
           have h6:=(af.o.cell (p:=⟨b0,k,V⟩) (ES.1 br.o.1).1).trans HV.o;clear P b H K L b9 ca ht
           go_wp2
           go_loopw [15] (bJ n z) (fun i _=>n-(intOf i).toNat)
           case atStart=>exact⟨_,0,Z,Fi _,Z,af.o⟩
           case round =>
            obtain⟨W8,i,rfl,h0,rfl,r⟩:=hrel;have cT:(0:Int)≤i:=by omega
            have e3:=(r.cell (p:=⟨b0,k,V⟩) (ES.1 br.o.1).1).trans HV.o;have dr:=(r.cell (p:=⟨b1,k,V⟩) (World.block_lt_of_cell? _ _ cb.o)).trans cb.o;have av:=Hd r;clear h6
            by_cases f:i<n
            ·have bR:(i:Int)<n:=by omega
             have kv:decide ((i:Int)<(n:Int))=true:=decide_eq_true bR;have m0:=ai bC (ab ak.o r) cr.o f (by omega) (m:=0) Z;rw[Nat.add_zero]at m0;have m1:=ai bC (ab ak.o r) cr.o f (by omega) (m:=1) Z;have m2:=ai bC (ab ak.o r) cr.o f (by omega) (m:=2) Z;have m3:=ai bC (ab ak.o r) cr.o f (by omega) (m:=3) Z;have m4:=ai bC (ab ak.o r) cr.o f (by omega) (m:=4) Z;have a8:Hid (∀W:p7,r9 r6 131 #[I Y k,I Y i] W fun e w'=>e=tF (s3 #[p9 ⟨#[]⟩,I Y 0,I Y (mkA k i),O V 0 0,O V 0 0])∧FS W w'):=fun W=>mK k i W (by omega) (by omega)
             have c5:Hid (∀W:p7,r9 r6 26 #[s3 #[p9 ⟨#[]⟩,I Y 0,I Y (mkA k i),O V 0 0,O V 0 0],s3 #[p9 ⟨#[]⟩,I Y 0,I Y (mkA k i),O V 0 0,O V 0 0]] W fun e w'=>e=tF (ur true)∧FS W w'):=fun W=>Bj k i W (by omega) (by omega)
             have M0:=fun x:Wb W8=>x.b m0
             have M1:=fun x:Wb W8=>x.b m1
             have M2:=fun x:Wb W8=>x.b m2
             have M3:=fun x:Wb W8=>x.b m3
             have M4:=fun x:Wb W8=>x.b m4
             have hy:=fun x:Wb W8=>x.b e3
             have V':=fun x:Wb W8=>x.b dr
             clear m0 m1 m2 m3 m4;obtain⟨g,c2,b4,fp⟩:=aU T.o (by omega);injection b4 with h1 h2 h3
             subst h1;clear h2 h3;have m0:=ai bC (ab T.o r) ⟨[],(List.append_nil _).symm⟩ f f (m:=0) Z;rw[Nat.add_zero]at m0;have m1:=ai bC (ab T.o r) ⟨[],(List.append_nil _).symm⟩ f f (m:=1) Z;have m2:=ai bC (ab T.o r) ⟨[],(List.append_nil _).symm⟩ f f (m:=2) Z;have m3:=ai bC (ab T.o r) ⟨[],(List.append_nil _).symm⟩ f f (m:=3) Z;have m4:=ai bC (ab T.o r) ⟨[],(List.append_nil _).symm⟩ f f (m:=4) Z;have K0:=fun x:Wb W8=>x.b m0
             have K1:=fun x:Wb W8=>x.b m1
             have K2:=fun x:Wb W8=>x.b m2
             have K3:=fun x:Wb W8=>x.b m3
             have K4:=fun x:Wb W8=>x.b m4
             have h7:i<n+64:=by omega
             have h8:(i:Int)<(n:Int)+64:=by omega
             clear m0 m1 m2 m3 m4 r;go_wp2_with fail
             refine aj (by kernel_rfl) (by kernel_rfl) ?_
             repeat (go_big_quiet_step (first|(go_at_call 131;exact Calls.b (a8.o _))|(go_at_call 26;exact Calls.b (c5.o _))))
             refine vk ?_;intro W9 bc;have b3:=aE bc;have h9:=Hd (av.o.trans (b3.mono av.o.size));clear bc b3 M0 M1 M2 M3 M4 hy V' K0 K1 K2 K3 K4 e3 dr;go_wp2_with fail
             exact⟨⟨_,i+1,Z,by omega,by go_num,h9.o⟩,by simp[intOf];omega⟩
            ·obtain rfl:i=n:=by omega
             clear f r;go_wp2_with fail
             exact⟨⟨_,k+1,Z,by omega,by go_num,av.o⟩,by simp[intOf];omega⟩
          ·obtain rfl:N=k:=by omega
           clear t
           go_wp2
           go_ret;exact⟨Z,bb.o.h (Chg.b af.o)⟩
