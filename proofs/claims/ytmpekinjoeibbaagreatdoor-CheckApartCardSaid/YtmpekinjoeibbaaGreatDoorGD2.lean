/- Parts of one proof, joined; conditions stand in each theorem. -/
import Derived.Test.YtmpekinjoeibbaaGreatDoorGB
open Go renaming World→p7,Value→r3,Calls→r9,wpQuiet_nil→vk
open Go.Proofs.Tryz renaming prog→r6
open Go.Value renaming slice→O,agg→s3,int→I,string→p9,bool→ur
open Option renaming some→A,none→V
open Go.IntKind renaming u8→J,i64→Y
open Or renaming inl→tE,inr→tS
open Go.World renaming setCell→xD
open Go.Obj renaming cells→p8
open Go.Ending renaming returned→tF
namespace Go.Proofs.YtmpekinjoeibbaaGreatDoor
set_option maxHeartbeats 20000000
set_option maxRecDepth 100000
open Go.RowKit
theorem tw{w:p7}{B b0 e7:Nat}{c0:Array r3}{D:List (r3×Nat)}(hI:FIn B b0 c0 D)(hF:Fm 53 36 10 B b0 c0 D (fun _ _ _=>True) w)(hB:B≤w.heap.size) :
  r9 r6 68 #[O (A ⟨b0,0,V⟩) D.length e7] w (dZ D w):=by
 obtain⟨N,hN⟩:=zzy (D.length);have hE:N≤100000:=by rw[←hN];exact hI.N
 rw[hN];obtain⟨ti,e8,e9,fe,fm⟩:=info_parts vI;obtain⟨HI,HF,HN⟩:=zz3 hI hF hN;clear hI hF hN
 go_enter Tryz.func68,Tryz.ntmps68
 go_wp2
 go_loopw [3] (nY 53 36 10 cw B b0 c0 D w) (fun i _=>N-(intOf i).toNat)
 case atStart=>exact⟨_,0,Z,Fi _,Z,Chg.y _ _,hB,HF.o.1,fun k v n h=>(HF.o.2 k v n h).imp fun xs h=>⟨h.1,fun h=>absurd h (Nat.not_lt_zero _),fun _=>rfl⟩⟩
 case round =>
  obtain⟨W1,k,rfl,hk,rfl,hb,hs,hm⟩:=hrel;rw[HN.o]at hk;have ka:(0:Int)≤k:=by omega
  have kc:(N:Int)≤100000:=by omega
  obtain⟨HM,HB⟩:=zz2 hm hb;clear hm hb
  by_cases H:k<N
  ·obtain⟨⟨v,n⟩,hd⟩:∃d,D[k]?=A d:=⟨_,EX (by rw[HN.o];exact H)⟩;have hn:=HI.o.n k v n hd;have HD:=Hd hd;have cx:(k:Int)<N:=by omega
   have cT:(0:Int)≤n:=by omega
   have cV:(n:Int)≤20000:=by omega
   clear hd
   go_wp2
   go_loopw [4] (gJ 53 36 10 cw B b0 c0 D w k n) (fun i _=>n-(intOf i).toNat)
   case atStart=>exact⟨_,0,Z,Fi _,Z,HB.o,hs,HM.o⟩
   case round =>
    obtain⟨W2,i,rfl,hi,rfl,fp,fr,cW⟩:=hrel;have c3:(0:Int)≤i:=by omega
    obtain⟨xs,y,hq⟩:=cW.2 k v n HD.o;obtain⟨p,c,rfl⟩:=aC y;have hv:W2.cell? ⟨b0,k,V⟩=A (O p n c):=by rw[FR _ _ _ _ _ _ cW.1];exact HI.o.b k _ n HD.o
    obtain⟨en,fv,K,HQ⟩:=zz4 cW fp y hq;clear cW fp y hq
    by_cases c9:i<n
    ·have b5:(i:Int)<n:=by omega
     obtain⟨g,c',b8,fz⟩:=aU K.o (by omega);injection b8 with h1 h2 h3
     subst h1;clear h2 h3;have hG:i*10+10≤xs.length:=by rw[K.o.1];omega
     have HV:=fun x:Wb W2=>x.b hv
     have hH:k≤1000000:=by omega
     have hJ:i≤1000000:=by omega
     go_wp2
     refine RE.t (by kernel_rfl) 9 [7] [7] (fun _ W=>∃x:Wb W2,W=x.1) (fun _ _=>True) (fun _ _=>s3 #[I J 0,I Y (mkA k i),O V 0 0,I J 0,I J 0,I Y 0,p9 ⟨#[]⟩,I Y 0,I J 0,O V 0 0]) (fun _ _ _=>True) (by kernel_rfl) (fun i h1 h2=>by rw[h1]at h2;cases h2) (fun _ _ _ _ _ _ _=>trivial) ⟨⟨W2.drew,(EU _ _).drew⟩,Z⟩ ?_;simp only[Fg,Fu,Fh,Ft];have fI:∀(n s:Nat) (W:p7),s≤n→(∃x:Wb W2,W=x.1)→∃x:Wb W2,W=x.1:=fun _ _ _ _ h=>h
     have fT:=Hd fI;clear fI
     repeat (refine RE.h (fun W=>∃x:Wb W2,W=x.1) (fT.o _) Z Z Z ⟨⟨W2.drew,(EU _ _).drew⟩,Z⟩ ?_;go_big_quiet_step (fail);refine vk ?_)
     refine RE.b Z Z ?_ (fun kk=>?_)
     ·intro W _ hS _;obtain⟨x,rfl⟩:=hS Z;refine RE.u 128 _ _ Z (enters_of Tryz.func128 (by kernel_rfl) Z) #[I Y k,I Y i] (by simp[Act.eval]) ((ny k i x.1 hH hJ).mono ?_);rintro e W' ⟨rfl,hK⟩;exact⟨_,Z,[],Z,⟨⟨W',x.2.trans (hK.mono x.2.size)⟩,Z⟩,trivial,trivial⟩
     simp only[Act.put,EV,Fe,Fc]
     repeat (refine RE.h (fun W=>∃x:Wb W2,W=x.1) (fT.o _) Z Z Z ⟨⟨W2.drew,(EU _ _).drew⟩,Z⟩ ?_;go_big_quiet_step (fail);refine vk ?_)
     refine RE.q ?_;rintro W3 ⟨⟨W3,bb⟩,rfl⟩ _;have b9:=gJ.step (by decide) aD HI.o HD.o c9 en.o bb;have E:=ab K.o bb;have z0:=E.frozenAt (i*10);have z1:=E.frozenAt (i*10+1);have z2:=E.frozenAt (i*10+2);have z3:=E.frozenAt (i*10+3);have z4:=E.frozenAt (i*10+4);have z5:=E.frozenAt (i*10+5);have z6:=E.frozenAt (i*10+6);have z7:=E.frozenAt (i*10+7);have z8:=E.frozenAt (i*10+8);have z9:=E.frozenAt (i*10+9);obtain⟨a0,y0⟩:=am E (i*10) (by omega);obtain⟨a1,y1⟩:=am E (i*10+1) (by omega);obtain⟨a2,y2⟩:=am E (i*10+2) (by omega);obtain⟨a3,y3⟩:=am E (i*10+3) (by omega);obtain⟨a4,y4⟩:=am E (i*10+4) (by omega);obtain⟨a5,y5⟩:=am E (i*10+5) (by omega);obtain⟨a6,y6⟩:=am E (i*10+6) (by omega);obtain⟨a7,y7⟩:=am E (i*10+7) (by omega);obtain⟨a8,y8⟩:=am E (i*10+8) (by omega);obtain⟨a9,y9⟩:=am E (i*10+9) (by omega);have HS:=Hd b9;have ca:Chg (Dg D) w W3:=fv.o.h (Chg.b bb);have hL:Dg D g∨w.heap.size≤g:=tE ⟨k,_,n,HD.o,Z⟩;have bc:Chg (Dg D) w (di W3 g (i*10) (cw k i)):=fy _ _ _ _ ca hL;have eo:B≤W3.heap.size:=EZ fr bb.size;have er:=Hd bc;clear b9 E ca bc bb HV hG
     go_wp2
     refine⟨⟨_,i+1,Z,by omega,by go_num,er.o,?_,HS.o⟩,by simp[intOf];omega⟩
     simpa [xD]using eo
    ·obtain rfl:i=n:=by omega
     clear c9
     go_wp2
     refine⟨⟨_,k+1,Z,by rw[HN.o];omega,by go_num,fv.o,fr,en.o.1,fun j u m hj=>?_⟩,by simp[intOf];omega⟩;obtain⟨ys,ho,hq⟩:=en.o.2 j u m hj;refine⟨ys,ho,fun h=>?_,fun _=>rfl⟩
     by_cases hO:j=k
     ·subst hO;have hP:m=i:=by have:=HD.o;rw[hj]at this;simp only[oF,o6]at this;exact this.2
      subst hP;have:=hq.2 Z
      rwa [Fq (by rw[ho.1];exact ET _)]at this
     ·exact hq.1 (by omega)
  ·obtain rfl:N=k:=by omega
   clear H;obtain⟨C,hC,bq⟩:=ie (R:=114) (S:=36) Tryz.underlying114 (by kernel_rfl) N hE W1;obtain⟨W3,b6⟩:=zzx (W1.alloc (p8 C 36));have ga:Fm 53 36 10 B b0 c0 D (fun j n xs=>xs=aI cw j n) W3:=by
    rw[b6];refine⟨(heap_alloc_old W1 _ (ES.1 HM.o.1).1).trans HM.o.1,fun j v n hj=>?_⟩;obtain⟨xs,ho,hq⟩:=HM.o.2 j v n hj;exact⟨xs,ho.alloc _,hq.1 (by have:=(Fo.1 hj).1;rw[HN.o]at this;exact this)⟩
   have bb:Chg (Dg D) w W3:=by rw[b6];exact HB.o.h (Chg.b ((EU _ W1).alloc (ET _) _))
   have eo:B≤W3.heap.size:=by rw[b6];simp;omega
   have et:W3.heap[W1.heap.size]?=A (p8 C 36 (0,0)):=by rw[b6];exact ot W1 _
   obtain⟨b1,br⟩:=zzy (W1.heap.size);have da:w.heap.size≤b1:=by rw[←br];exact HB.o.u
   have gb:b0≠b1:=by have:=(ES.1 HM.o.1).1;omega
   rw[br]at bq et;obtain⟨gf,gg,gm,HC⟩:=zz4 ga bb et hC;clear ga bb et hC br
   go_wp2
   rw[←b6];clear b6
   go_loopw [6] (od 53 36 10 cw B b0 b1 c0 D w) (fun i _=>N-(intOf i).toNat)
   case atStart=>exact⟨_,0,Z,Fi _,Z,gg.o,eo,gf.o,C,gm.o,HC.o.trans HN.o.symm,fun j v n h=>absurd h (Nat.not_lt_zero _)⟩
   case round =>
    obtain⟨W4,k,rfl,hQ,rfl,gD,gE,gF,gH⟩:=hrel;rw[HN.o]at hQ;have iB:(0:Int)≤k:=by omega
    obtain⟨ad,c5,cb⟩:=zz3 gF gD gH;clear gF gD gH gf gg gm HM HB HF
    by_cases H:k<N
    ·obtain⟨⟨v,n⟩,hd⟩:∃d,D[k]?=A d:=⟨_,EX (by rw[HN.o];exact H)⟩;have hn:=HI.o.n k v n hd;obtain⟨xs,y,hq⟩:=ad.o.2 k v n hd;obtain rfl:xs=aI cw k n:=hq;obtain⟨p,c,rfl⟩:=aC y;have hv:W4.cell? ⟨b0,k,V⟩=A (O p n c):=by rw[FR _ _ _ _ _ _ ad.o.1];exact HI.o.b k _ n hd
     obtain⟨HD,K⟩:=zz2 hd y;have cx:(k:Int)<N:=by omega
     have cT:(0:Int)≤n:=by omega
     have cV:(n:Int)≤20000:=by omega
     clear hd y
     go_wp2
     go_loopw [7,8] (nV 53 36 10 cw B b0 c0 D w W4 k n (O p n c)) (fun _ i _=>64-(intOf i).toNat)
     case atStart=>exact⟨_,0,Z,Fi _,Z,c5.o,gE,ad.o.1,Chg.y _ _,K.o,K.o,tE Z⟩
     case round =>
      obtain⟨W5,i,rfl,hi,rfl,ch,c6,ev⟩:=hrel;have c3:(0:Int)≤i:=by omega
      have gL:(i:Int)≤64:=by omega
      obtain⟨ar,bt⟩:=zz2 ch ev;have kn:W5.cell? ⟨b0,k,V⟩=A (O p n c):=by rw[FR _ _ _ _ _ _ ev.b0];exact HI.o.b k _ n HD.o
      clear ch ev hv
      by_cases gM:i<64
      ·have b5:(i:Int)<64:=by omega
       have bq:∀W,r9 r6 128 #[I Y k,I Y ((n:Int)+i)] W fun e w'=>e=tF (s3 #[I J 0,I Y (mkA k (n+i)),O V 0 0,I J 0,I J 0,I Y 0,p9 ⟨#[]⟩,I Y 0,I J 0,O V 0 0])∧FS W w':=fun W=>by
        have h:=ny k (n+i) W (by omega) (by omega)
        rwa [Int.natCast_add]at h
       have bd:=Hd bq;clear bq;go_wp2_with fail
       refine (bd.o W5).mono ?_;rintro e F ⟨rfl,f⟩;obtain⟨W7,bk⟩:=zzx (F.alloc (p8 (cw k (n+i)).toArray 53));have L:FS W5 W7:=by rw[bk];exact f.alloc f.size _
       have gN:=bt.o.C L;have af:∀j u,(cw k (n+i))[j]?=A u→W7.cell? ((⟨F.heap.size,0,V⟩:Addr).add j)=A u:=by rw[bk];exact dp F _ _
       have e0:B≤W7.heap.size:=EZ c6 L.size;have dc:F.alloc (p8 #[I J 0,I Y (mkA k (n+i)),O V 0 0,I J 0,I J 0,I Y 0,p9 ⟨#[]⟩,I Y 0,I J 0,O V 0 0] 53)=W7:=bk.symm;obtain⟨e1,e2,ak,hR⟩:=zz4 gN af (ar.o.h (Chg.b L)) dc;clear f L gN af bk dc;go_wp2_with (at_builtin;go_must (rw[hR.o];refine aA _ Z (.tmp 57) (.tmp 67) 36 Z B 53 ti _ 10 120 Tryz.underlying36 e8 e9 fe fm Z (by decide) u7 (n+i) (aI cw k (n+i)) Z e1.o.ri ⟨F.heap.size,0,V⟩ 1 1 (cw k (n+i)) Z Z e2.o (by simp[Value.oneCell',cw]) (by unfold maxLen;omega) (by omega) e0 (by decide) ?_);intro v8 P Q av)
       have bB:=Gr4.h (by decide) (by decide) e1.o Q av
       have r:=gk ak.o (fun g hg=>by
        rcases e1.o.or with h|⟨g',h,h2⟩
        ·exact tE ⟨k,_,n,HD.o,h.symm.trans hg⟩
        ·rw[hg]at h;injection h with h;have:=c5.o.u;exact tS (by omega)) av
       have c7:B≤P.heap.size:=by
        rcases av with ⟨_,_,_,_,h⟩|⟨_,_,h⟩
        ·exact EZ e0 h.size
        ·exact EZ e0 h.size
       refine⟨⟨P,i+1,Z,by omega,by go_num,r,c7,⟨bB.1,bB.2.1,?_,bB.2.2.1,bB.2.2.2⟩⟩,by simp[intOf];omega⟩;rw[←Nat.add_assoc,dR];exact Q
      ·obtain rfl:i=64:=by omega
       clear gM;obtain⟨q,cq,rfl⟩:=aC bt.o.ri;obtain⟨c1,U,X,_⟩:=cb.o;have gO:(O p n c).ownBlock≠A b1:=eA (by decide) K.o U;have br:W5.heap[b1]?=A (p8 c1 36 (0,0)):=(bt.o.chg.q b1 (ES.1 U).1 gO).trans U;have z0:=ae br k;obtain⟨a0,y0⟩:∃a,W5.cell? ⟨b1,k,V⟩=A a:=⟨_,(FR _ _ _ _ _ _ br).trans (Array.getElem?_eq_getElem (by rw[X,HN.o];exact H))⟩;have bB:=jc (mk:=cw) (by decide) (k:=k) (q:=fun j n ys=>ys=aI cw j (n+64)) HI.o gb ad.o cb.o HD.o bt.o.chg bt.o.rv bt.o.ri Z bt.o.or;have gS:=ar.o.t (p:=⟨b1,k,V⟩) (tS da) (O q (n+64) cq);have hT:B≤(W5.setCell ⟨b1,k,V⟩ (O q (n+64) cq)).heap.size:=by simpa [xD]using c6
       obtain⟨bR,hU⟩:=zz2 bB gS;clear bB gS U gO br X;go_wp2_with fail
       exact⟨⟨_,k+1,Z,by rw[HN.o];omega,by go_num,hU.o,hT,bR.o.1,bR.o.2⟩,by simp[intOf];omega⟩
    ·obtain rfl:N=k:=by omega
     clear H
     go_wp2
     go_loopw [9] (bJ N W4) (fun i _=>N-(intOf i).toNat)
     case atStart=>exact⟨_,0,Z,Fi _,Z,EU _ _⟩
     case round =>
      obtain⟨W5,k,rfl,kr,rfl,ch⟩:=hrel;have iX:(0:Int)≤k:=by omega
      have ar:=Hd ch;clear ch
      by_cases H:k<N
      ·obtain⟨⟨v,n⟩,hd⟩:∃d,D[k]?=A d:=⟨_,EX (by rw[HN.o];exact H)⟩;have hn:=HI.o.n k v n hd;obtain⟨xs,y,hq⟩:=ad.o.2 k v n hd;obtain rfl:xs=aI cw k n:=hq;obtain⟨p,c,rfl⟩:=aC y;obtain⟨c1,U,X,ck⟩:=cb.o;obtain⟨v',ys,cl,T,rfl,_⟩:=ck k _ n H hd;obtain⟨g',c',rfl,hV⟩:=aU T (by omega);obtain⟨HD,K,G,HV,cp⟩:=zz5 hd y T ((FR _ b0 k _ _ _ ad.o.1).trans (HI.o.b k _ n hd)) ((FR _ b1 k _ _ _ U).trans cl);have cx:(k:Int)<N:=by omega
       have cT:(0:Int)≤n:=by omega
       have cV:(n:Int)≤20000:=by omega
       clear hd y T U X ck cl
       go_wp2
       go_loopw [10] (bJ (n+64) W4) (fun i _=>(n+64)-(intOf i).toNat)
       case atStart=>exact⟨_,0,Z,Fi _,Z,ar.o⟩
       case round =>
        obtain⟨F,i,rfl,ks,rfl,f⟩:=hrel;have c3:(0:Int)≤i:=by omega
        have e3:=(f.cell (p:=⟨b0,k,V⟩) (ES.1 ad.o.1).1).trans HV.o;have cr:=(f.cell (p:=⟨b1,k,V⟩) (World.block_lt_of_cell? _ _ cp.o)).trans cp.o;have bl:=Hd f
        by_cases l:i<n+64
        ·have b5:(i:Int)<(n:Int)+64:=by omega
         have kv:decide ((i:Int)<(n:Int)+64)=true:=decide_eq_true b5;have m0:=ai aD (ab G.o f) ⟨[],(List.append_nil _).symm⟩ l l (m:=0) Z;rw[Nat.add_zero]at m0;have m1:=ai aD (ab G.o f) ⟨[],(List.append_nil _).symm⟩ l l (m:=1) Z;have m2:=ai aD (ab G.o f) ⟨[],(List.append_nil _).symm⟩ l l (m:=2) Z;have m3:=ai aD (ab G.o f) ⟨[],(List.append_nil _).symm⟩ l l (m:=3) Z;have m4:=ai aD (ab G.o f) ⟨[],(List.append_nil _).symm⟩ l l (m:=4) Z;have m5:=ai aD (ab G.o f) ⟨[],(List.append_nil _).symm⟩ l l (m:=5) Z;have m6:=ai aD (ab G.o f) ⟨[],(List.append_nil _).symm⟩ l l (m:=6) Z;have m7:=ai aD (ab G.o f) ⟨[],(List.append_nil _).symm⟩ l l (m:=7) Z;have m8:=ai aD (ab G.o f) ⟨[],(List.append_nil _).symm⟩ l l (m:=8) Z;have m9:=ai aD (ab G.o f) ⟨[],(List.append_nil _).symm⟩ l l (m:=9) Z;have bd:Hid (∀W:p7,r9 r6 128 #[I Y k,I Y i] W fun e w'=>e=tF (s3 #[I J 0,I Y (mkA k i),O V 0 0,I J 0,I J 0,I Y 0,p9 ⟨#[]⟩,I Y 0,I J 0,O V 0 0])∧FS W w'):=fun W=>ny k i W (by omega) (by omega)
         have c8:Hid (∀W:p7,r9 r6 112 #[s3 #[I J 0,I Y (mkA k i),O V 0 0,I J 0,I J 0,I Y 0,p9 ⟨#[]⟩,I Y 0,I J 0,O V 0 0],s3 #[I J 0,I Y (mkA k i),O V 0 0,I J 0,I J 0,I Y 0,p9 ⟨#[]⟩,I Y 0,I J 0,O V 0 0]] W fun e w'=>e=tF (ur true)∧FS W w'):=fun W=>A8 k i W (by omega) (by omega)
         have M0:=fun x:Wb F=>x.b m0
         have M1:=fun x:Wb F=>x.b m1
         have M2:=fun x:Wb F=>x.b m2
         have M3:=fun x:Wb F=>x.b m3
         have M4:=fun x:Wb F=>x.b m4
         have M5:=fun x:Wb F=>x.b m5
         have M6:=fun x:Wb F=>x.b m6
         have M7:=fun x:Wb F=>x.b m7
         have M8:=fun x:Wb F=>x.b m8
         have M9:=fun x:Wb F=>x.b m9
         have hD:=fun x:Wb F=>x.b e3
         have V':=fun x:Wb F=>x.b cr
         clear m0 m1 m2 m3 m4 m5 m6 m7 m8 m9
         by_cases t:i<n
         ·have ct:(i:Int)<n:=by omega
          have hW:decide ((i:Int)<(n:Int))=true:=decide_eq_true ct;obtain⟨g,c2,b8,fz⟩:=aU K.o (by omega);injection b8 with h1 h2 h3
          subst h1;clear h2 h3;have m0:=ai aD (ab K.o f) ⟨[],(List.append_nil _).symm⟩ t t (m:=0) Z;rw[Nat.add_zero]at m0;have m1:=ai aD (ab K.o f) ⟨[],(List.append_nil _).symm⟩ t t (m:=1) Z;have m2:=ai aD (ab K.o f) ⟨[],(List.append_nil _).symm⟩ t t (m:=2) Z;have m3:=ai aD (ab K.o f) ⟨[],(List.append_nil _).symm⟩ t t (m:=3) Z;have m4:=ai aD (ab K.o f) ⟨[],(List.append_nil _).symm⟩ t t (m:=4) Z;have m5:=ai aD (ab K.o f) ⟨[],(List.append_nil _).symm⟩ t t (m:=5) Z;have m6:=ai aD (ab K.o f) ⟨[],(List.append_nil _).symm⟩ t t (m:=6) Z;have m7:=ai aD (ab K.o f) ⟨[],(List.append_nil _).symm⟩ t t (m:=7) Z;have m8:=ai aD (ab K.o f) ⟨[],(List.append_nil _).symm⟩ t t (m:=8) Z;have m9:=ai aD (ab K.o f) ⟨[],(List.append_nil _).symm⟩ t t (m:=9) Z;have K0:=fun x:Wb F=>x.b m0
          have K1:=fun x:Wb F=>x.b m1
          have K2:=fun x:Wb F=>x.b m2
          have K3:=fun x:Wb F=>x.b m3
          have K4:=fun x:Wb F=>x.b m4
          have K5:=fun x:Wb F=>x.b m5
          have K6:=fun x:Wb F=>x.b m6
          have K7:=fun x:Wb F=>x.b m7
          have K8:=fun x:Wb F=>x.b m8
          have K9:=fun x:Wb F=>x.b m9
          clear m0 m1 m2 m3 m4 m5 m6 m7 m8 m9 f;go_wp2_with fail
          refine aj (by kernel_rfl) (by kernel_rfl) ?_
          repeat (go_big_quiet_step (first|(go_at_call 128;exact Calls.b (bd.o _))|(go_at_call 112;exact Calls.b (c8.o _))))
          refine vk ?_;intro W7 bn;have L:=aE bn;have ak:=Hd (bl.o.trans (L.mono bl.o.size));clear bn L M0 M1 M2 M3 M4 M5 M6 M7 M8 M9 hD V' K0 K1 K2 K3 K4 K5 K6 K7 K8 K9 e3 cr;go_wp2_with fail
          exact⟨⟨_,i+1,Z,by omega,by go_num,ak.o⟩,by simp[intOf];omega⟩
         ·have ct:¬(i:Int)<n:=by omega
          have hW:decide ((i:Int)<(n:Int))=false:=oB ct;clear f;go_wp2_with fail
          refine aj (by kernel_rfl) (by kernel_rfl) ?_
          repeat (go_big_quiet_step (first|(go_at_call 128;exact Calls.b (bd.o _))|(go_at_call 112;exact Calls.b (c8.o _))))
          refine vk ?_;intro W7 bn;have L:=aE bn;have ak:=Hd (bl.o.trans (L.mono bl.o.size));clear bn L M0 M1 M2 M3 M4 M5 M6 M7 M8 M9 hD V' e3 cr;go_wp2_with fail
          exact⟨⟨_,i+1,Z,by omega,by go_num,ak.o⟩,by simp[intOf];omega⟩
        ·obtain rfl:i=n+64:=by omega
         clear l f;go_wp2_with fail
         exact⟨⟨_,k+1,Z,by omega,by go_num,bl.o⟩,by simp[intOf];omega⟩
      ·obtain rfl:N=k:=by omega
       clear H;have gT:Hid (Fm 53 36 10 B b0 c0 D (qM cw) W5):=⟨(ar.o.block b0 (ES.1 ad.o.1).1).trans ad.o.1,fun j v n h=>(ad.o.2 j v n h).imp fun xs hx=>⟨ab hx.1 ar.o,hx.2⟩⟩;have dd:=c5.o.h (Chg.b ar.o);have c6:B≤W5.heap.size:=EZ gE ar.o.size;obtain⟨c1,U,X,_⟩:=cb.o;have ha:Hid (Gs 53 36 10 B b1 D 0 (fun j n ys=>∃zs,ys=aI cw j n++zs) W5):=⟨c1,(ar.o.block b1 (ES.1 U).1).trans U,X,fun j v n h=>absurd h (Nat.not_lt_zero _)⟩;have dg:=Hd dd;clear dd U X
       go_wp2
       go_loopw [11] (lN 53 36 10 cw B b0 b1 c0 D w) (fun i _=>N-(intOf i).toNat)
       case atStart=>exact⟨_,0,Z,Fi _,Z,dg.o,c6,gT.o,ha.o⟩
       case round =>
        obtain⟨F,k,rfl,hX,rfl,f,hY,hc,hf⟩:=hrel;rw[HN.o]at hX;have jj:(0:Int)≤k:=by omega
        obtain⟨b2,bl,hh⟩:=zz3 hc f hf;clear hc f hf gT dg ha ad c5 cb
        by_cases H:k<N
        ·obtain⟨⟨v,n⟩,hd⟩:∃d,D[k]?=A d:=⟨_,EX (by rw[HN.o];exact H)⟩;have hn:=HI.o.n k v n hd;obtain⟨xs,y,hq⟩:=b2.o.2 k v n hd;obtain rfl:xs=aI cw k n:=hq;obtain⟨p,c,rfl⟩:=aC y;obtain⟨HD,K⟩:=zz2 hd y;have cx:(k:Int)<N:=by omega
         have cT:(0:Int)≤n:=by omega
         have cV:(n:Int)≤20000:=by omega
         obtain⟨C6,hl,dr,hp⟩:=CJ F;obtain⟨W7,bk⟩:=zzx (F.alloc (p8 C6 53));have L:FS F W7:=by rw[bk];exact (EU _ _).alloc (ET _) _
         have cu:W7.ownsRow F.heap.size 53 10 (O (A ⟨F.heap.size,0,V⟩) 64 64) 64 C6.toList:=by rw[bk];exact World.ownsRow_lit F C6 64 (ET _) (by unfold maxLen;omega) hl
         obtain⟨ak,h0,h4⟩:=zz3 L cu dr;obtain⟨M,hM⟩:=zzx (F.heap.size);rw[←hM]at hp;have h5:F.heap.size≤M:=by omega
         have hr:=Hd hM;clear hd y L cu dr hl hM
         go_wp2
         rw[←bk]
         go_loopw [13] (lY 53 10 F) (fun i _=>64-(intOf i).toNat)
         case atStart=>exact⟨_,0,_,Z,Fi _,Z,ak.o,h0.o,h4.o⟩
         case round =>
          obtain⟨P,i,xs,rfl,h6,rfl,r,Q,b3⟩:=hrel;have c3:(0:Int)≤i:=by omega
          have gL:(i:Int)≤64:=by omega
          rw[←hr.o]at Q;obtain⟨ba,e4,ds⟩:=zz3 r Q b3
          by_cases b:i<64
          ·have b5:(i:Int)<64:=by omega
           have bq:∀W,r9 r6 128 #[I Y ((k:Int)+N),I Y i] W fun e w'=>e=tF (s3 #[I J 0,I Y (mkA (k+N) i),O V 0 0,I J 0,I J 0,I Y 0,p9 ⟨#[]⟩,I Y 0,I J 0,O V 0 0])∧FS W w':=fun W=>by
            have h:=ny (k+N) i W (by omega) (by omega)
            rwa [Int.natCast_add]at h
           have bd:=Hd bq;clear bq r Q b3;go_wp2_with fail
           refine (bd.o P).mono ?_;rintro e W9 ⟨rfl,b7⟩;have z:=ab e4.o b7;have z0:=z.frozenAt (i*10);have z1:=z.frozenAt (i*10+1);have z2:=z.frozenAt (i*10+2);have z3:=z.frozenAt (i*10+3);have z4:=z.frozenAt (i*10+4);have z5:=z.frozenAt (i*10+5);have z6:=z.frozenAt (i*10+6);have z7:=z.frozenAt (i*10+7);have z8:=z.frozenAt (i*10+8);have z9:=z.frozenAt (i*10+9);obtain⟨a0,y0⟩:=am z (i*10) (by omega);obtain⟨a1,y1⟩:=am z (i*10+1) (by omega);obtain⟨a2,y2⟩:=am z (i*10+2) (by omega);obtain⟨a3,y3⟩:=am z (i*10+3) (by omega);obtain⟨a4,y4⟩:=am z (i*10+4) (by omega);obtain⟨a5,y5⟩:=am z (i*10+5) (by omega);obtain⟨a6,y6⟩:=am z (i*10+6) (by omega);obtain⟨a7,y7⟩:=am z (i*10+7) (by omega);obtain⟨a8,y8⟩:=am z (i*10+8) (by omega);obtain⟨a9,y9⟩:=am z (i*10+9) (by omega);have b9:=dV (cw (k+N) i) W9 xs (i*10) z;have dv:=ia (cw (k+N) i) xs (i*10) ds.o (by simp[cw,Value.oneCell']);have ca:FS F W9:=ba.o.trans (b7.mono ba.o.size);have bc:FS F (di W9 M (i*10) (cw (k+N) i)):=eF _ _ _ _ ca h5;obtain⟨HS,h7,er⟩:=zz3 b9.1 dv bc;clear b9 dv ca bc b7 z;go_wp2_with fail
           refine⟨⟨_,i+1,_,Z,by omega,by go_num,er.o,?_,h7.o⟩,by simp[intOf];omega⟩;rw[←hr.o];exact HS.o
          ·obtain rfl:i=64:=by omega
           clear b;have e5:Gr4 53 36 10 cw B b0 c0 F k n (O p n c) (O p n c) 0 P:=Gr4.C ⟨b2.o.1,Chg.y _ _,K.o,K.o,tE Z⟩ ba.o;have e6:P.cell? ⟨b0,k,V⟩=A (O p n c):=by rw[FR _ _ _ _ _ _ e5.b0];exact HI.o.b k _ n HD.o
           have c7:B≤P.heap.size:=EZ hY ba.o.size;obtain⟨ht,hy⟩:=zz2 (bl.o.h (Chg.b ba.o)) e5;have af:∀j u,xs[j]?=A u→P.cell? ((⟨M,0,V⟩:Addr).add j)=A u:=e4.o.cells Z;have e2:=Hd af;have hz:xs.length=64*10:=e4.o.1;have h8:=Hd hz;clear r Q b3 e5 af hz;go_wp2_with (at_builtin;go_must (refine aA _ Z (.tmp 148) (.tmp 149) 36 Z B 53 ti _ 10 120 Tryz.underlying36 e8 e9 fe fm Z (by decide) (O p n c) n (aI cw k n) Z hy.o.rv ⟨M,0,V⟩ 64 64 xs Z h8.o e2.o ds.o (by unfold maxLen;omega) (by omega) c7 (by decide) ?_);intro v9 W9 cv b4;obtain⟨q9,kI,rfl,z9,⟨a9,y9⟩,bR⟩:=kH (by decide) (by decide) HI.o gb da b2.o hh.o HD.o hy.o ht.o c7 cv b4;clear cv b4)
           exact⟨⟨_,k+1,Z,by rw[HN.o];omega,by go_num,bR.o.2.2.1,bR.o.2.2.2,bR.o.1,bR.o.2.1⟩,by simp[intOf];omega⟩
        ·obtain rfl:N=k:=by omega
         clear H
         go_wp2
         go_loopw [14] (bJ N F) (fun i _=>N-(intOf i).toNat)
         case atStart=>exact⟨_,0,Z,Fi _,Z,EU _ _⟩
         case round =>
          obtain⟨W7,k,rfl,k0,rfl,L⟩:=hrel;have j2:(0:Int)≤k:=by omega
          have ak:=Hd L;clear L
          by_cases H:k<N
          ·obtain⟨⟨v,n⟩,hd⟩:∃d,D[k]?=A d:=⟨_,EX (by rw[HN.o];exact H)⟩;have hn:=HI.o.n k v n hd;obtain⟨xs,y,hq⟩:=b2.o.2 k v n hd;obtain rfl:xs=aI cw k n:=hq;obtain⟨p,c,rfl⟩:=aC y;obtain⟨c1,U,X,ck⟩:=hh.o;obtain⟨v',ys,cl,T,hA,_⟩:=ck k _ n H hd;obtain⟨g',c',rfl,hV⟩:=aU T (by omega);obtain⟨HD,K,G,aq,HV,cp⟩:=zz6 hd y T hA ((FR _ b0 k _ _ _ b2.o.1).trans (HI.o.b k _ n hd)) ((FR _ b1 k _ _ _ U).trans cl);have cx:(k:Int)<N:=by omega
           have cT:(0:Int)≤n:=by omega
           have cV:(n:Int)≤20000:=by omega
           have h9:=(ak.o.cell (p:=⟨b0,k,V⟩) (ES.1 b2.o.1).1).trans HV.o;clear hd y T U X ck cl hA
           go_wp2
           go_loopw [15] (bJ n F) (fun i _=>n-(intOf i).toNat)
           case atStart=>exact⟨_,0,Z,Fi _,Z,ak.o⟩
           case round =>
            obtain⟨P,i,rfl,h6,rfl,r⟩:=hrel;have c3:(0:Int)≤i:=by omega
            have e6:=(r.cell (p:=⟨b0,k,V⟩) (ES.1 b2.o.1).1).trans HV.o;have eg:=(r.cell (p:=⟨b1,k,V⟩) (World.block_lt_of_cell? _ _ cp.o)).trans cp.o;have ba:=Hd r;clear h9
            by_cases b:i<n
            ·have b5:(i:Int)<n:=by omega
             have k1:decide ((i:Int)<(n:Int))=true:=decide_eq_true b5;have m0:=ai aD (ab G.o r) aq.o b (by omega) (m:=0) Z;rw[Nat.add_zero]at m0;have m1:=ai aD (ab G.o r) aq.o b (by omega) (m:=1) Z;have m2:=ai aD (ab G.o r) aq.o b (by omega) (m:=2) Z;have m3:=ai aD (ab G.o r) aq.o b (by omega) (m:=3) Z;have m4:=ai aD (ab G.o r) aq.o b (by omega) (m:=4) Z;have m5:=ai aD (ab G.o r) aq.o b (by omega) (m:=5) Z;have m6:=ai aD (ab G.o r) aq.o b (by omega) (m:=6) Z;have m7:=ai aD (ab G.o r) aq.o b (by omega) (m:=7) Z;have m8:=ai aD (ab G.o r) aq.o b (by omega) (m:=8) Z;have m9:=ai aD (ab G.o r) aq.o b (by omega) (m:=9) Z;have bd:Hid (∀W:p7,r9 r6 128 #[I Y k,I Y i] W fun e w'=>e=tF (s3 #[I J 0,I Y (mkA k i),O V 0 0,I J 0,I J 0,I Y 0,p9 ⟨#[]⟩,I Y 0,I J 0,O V 0 0])∧FS W w'):=fun W=>ny k i W (by omega) (by omega)
             have c8:Hid (∀W:p7,r9 r6 112 #[s3 #[I J 0,I Y (mkA k i),O V 0 0,I J 0,I J 0,I Y 0,p9 ⟨#[]⟩,I Y 0,I J 0,O V 0 0],s3 #[I J 0,I Y (mkA k i),O V 0 0,I J 0,I J 0,I Y 0,p9 ⟨#[]⟩,I Y 0,I J 0,O V 0 0]] W fun e w'=>e=tF (ur true)∧FS W w'):=fun W=>A8 k i W (by omega) (by omega)
             have M0:=fun x:Wb P=>x.b m0
             have M1:=fun x:Wb P=>x.b m1
             have M2:=fun x:Wb P=>x.b m2
             have M3:=fun x:Wb P=>x.b m3
             have M4:=fun x:Wb P=>x.b m4
             have M5:=fun x:Wb P=>x.b m5
             have M6:=fun x:Wb P=>x.b m6
             have M7:=fun x:Wb P=>x.b m7
             have M8:=fun x:Wb P=>x.b m8
             have M9:=fun x:Wb P=>x.b m9
             have hD:=fun x:Wb P=>x.b e6
             have V':=fun x:Wb P=>x.b eg
             clear m0 m1 m2 m3 m4 m5 m6 m7 m8 m9;obtain⟨g,c2,b8,fz⟩:=aU K.o (by omega);injection b8 with h1 h2 h3
             subst h1;clear h2 h3;have m0:=ai aD (ab K.o r) ⟨[],(List.append_nil _).symm⟩ b b (m:=0) Z;rw[Nat.add_zero]at m0;have m1:=ai aD (ab K.o r) ⟨[],(List.append_nil _).symm⟩ b b (m:=1) Z;have m2:=ai aD (ab K.o r) ⟨[],(List.append_nil _).symm⟩ b b (m:=2) Z;have m3:=ai aD (ab K.o r) ⟨[],(List.append_nil _).symm⟩ b b (m:=3) Z;have m4:=ai aD (ab K.o r) ⟨[],(List.append_nil _).symm⟩ b b (m:=4) Z;have m5:=ai aD (ab K.o r) ⟨[],(List.append_nil _).symm⟩ b b (m:=5) Z;have m6:=ai aD (ab K.o r) ⟨[],(List.append_nil _).symm⟩ b b (m:=6) Z;have m7:=ai aD (ab K.o r) ⟨[],(List.append_nil _).symm⟩ b b (m:=7) Z;have m8:=ai aD (ab K.o r) ⟨[],(List.append_nil _).symm⟩ b b (m:=8) Z;have m9:=ai aD (ab K.o r) ⟨[],(List.append_nil _).symm⟩ b b (m:=9) Z;have K0:=fun x:Wb P=>x.b m0
             have K1:=fun x:Wb P=>x.b m1
             have K2:=fun x:Wb P=>x.b m2
             have K3:=fun x:Wb P=>x.b m3
             have K4:=fun x:Wb P=>x.b m4
             have K5:=fun x:Wb P=>x.b m5
             have K6:=fun x:Wb P=>x.b m6
             have K7:=fun x:Wb P=>x.b m7
             have K8:=fun x:Wb P=>x.b m8
             have K9:=fun x:Wb P=>x.b m9
             have ih:i<n+64:=by omega
             have ix:(i:Int)<(n:Int)+64:=by omega
             clear m0 m1 m2 m3 m4 m5 m6 m7 m8 m9 r;go_wp2_with fail
             refine aj (by kernel_rfl) (by kernel_rfl) ?_
             repeat (go_big_quiet_step (first|(go_at_call 128;exact Calls.b (bd.o _))|(go_at_call 112;exact Calls.b (c8.o _))))
             refine vk ?_;intro W9 bn;have b7:=aE bn;have iA:=Hd (ba.o.trans (b7.mono ba.o.size));clear bn b7 M0 M1 M2 M3 M4 M5 M6 M7 M8 M9 hD V' K0 K1 K2 K3 K4 K5 K6 K7 K8 K9 e6 eg;go_wp2_with fail
             exact⟨⟨_,i+1,Z,by omega,by go_num,iA.o⟩,by simp[intOf];omega⟩
            ·obtain rfl:i=n:=by omega
             clear b r;go_wp2_with fail
             exact⟨⟨_,k+1,Z,by omega,by go_num,ba.o⟩,by simp[intOf];omega⟩
          ·obtain rfl:N=k:=by omega
           clear H
           go_wp2
           go_ret;exact⟨Z,bl.o.h (Chg.b ak.o)⟩
theorem uQ{w:p7}{B b0 e4:Nat}{c0:Array r3}{D:List (r3×Nat)}(hI:FIn B b0 c0 D)(hF:Fm 59 37 4 B b0 c0 D (fun _ _ _=>True) w)(hB:B≤w.heap.size) :
  r9 r6 69 #[O (A ⟨b0,0,V⟩) D.length e4] w (dZ D w):=by
 obtain⟨N,hN⟩:=zzy (D.length);have hz:N≤100000:=by rw[←hN];exact hI.N
 rw[hN];obtain⟨ti,e5,e6,e7,e8⟩:=info_parts xG;obtain⟨HI,HF,HN⟩:=zz3 hI hF hN;clear hI hF hN
 go_enter Tryz.func69,Tryz.ntmps69
 go_wp2
 go_loopw [3] (nY 59 37 4 dw B b0 c0 D w) (fun i _=>N-(intOf i).toNat)
 case atStart=>exact⟨_,0,Z,Fi _,Z,Chg.y _ _,hB,HF.o.1,fun k v n h=>(HF.o.2 k v n h).imp fun xs h=>⟨h.1,fun h=>absurd h (Nat.not_lt_zero _),fun _=>rfl⟩⟩
 case round =>
  obtain⟨W1,k,rfl,hk,rfl,hb,hs,hm⟩:=hrel;rw[HN.o]at hk;have iX:(0:Int)≤k:=by omega
  have jj:(N:Int)≤100000:=by omega
  obtain⟨HM,HB⟩:=zz2 hm hb;clear hm hb
  by_cases t:k<N
  ·obtain⟨⟨v,n⟩,L⟩:∃d,D[k]?=A d:=⟨_,EX (by rw[HN.o];exact t)⟩;have hn:=HI.o.n k v n L;have HD:=Hd L;have cr:(k:Int)<N:=by omega
   have ct:(0:Int)≤n:=by omega
   have cu:(n:Int)≤20000:=by omega
   clear L
   go_wp2
   go_loopw [4] (gJ 59 37 4 dw B b0 c0 D w k n) (fun i _=>n-(intOf i).toNat)
   case atStart=>exact⟨_,0,Z,Fi _,Z,HB.o,hs,HM.o⟩
   case round =>
    obtain⟨W2,i,rfl,hi,rfl,e9,fe,cv⟩:=hrel;have cx:(0:Int)≤i:=by omega
    obtain⟨xs,b,hq⟩:=cv.2 k v n HD.o;obtain⟨p,c,rfl⟩:=aC b;have hv:W2.cell? ⟨b0,k,V⟩=A (O p n c):=by rw[FR _ _ _ _ _ _ cv.1];exact HI.o.b k _ n HD.o
    obtain⟨ds,fm,X,HQ⟩:=zz4 cv e9 b hq;clear cv e9 b hq
    by_cases c6:i<n
    ·have bR:(i:Int)<n:=by omega
     obtain⟨g,c',b4,fp⟩:=aU X.o (by omega);injection b4 with h1 h2 h3
     subst h1;clear h2 h3;have hA:i*4+4≤xs.length:=by rw[X.o.1];omega
     have HV:=fun x:Wb W2=>x.b hv
     have hD:k≤1000000:=by omega
     have hE:i≤1000000:=by omega
     go_wp2
     refine RE.t (by kernel_rfl) 9 [7] [7] (fun _ W=>∃x:Wb W2,W=x.1) (fun _ _=>True) (fun _ _=>s3 #[I J 0,I Y (mkA k i),I Y 0,O V 0 0]) (fun _ _ _=>True) (by kernel_rfl) (fun i h1 h2=>by rw[h1]at h2;cases h2) (fun _ _ _ _ _ _ _=>trivial) ⟨⟨W2.drew,(EU _ _).drew⟩,Z⟩ ?_;simp only[Fg,Fu,Fh,Ft];have fr:∀(n s:Nat) (W:p7),s≤n→(∃x:Wb W2,W=x.1)→∃x:Wb W2,W=x.1:=fun _ _ _ _ h=>h
     have fv:=Hd fr;clear fr
     repeat (refine RE.h (fun W=>∃x:Wb W2,W=x.1) (fv.o _) Z Z Z ⟨⟨W2.drew,(EU _ _).drew⟩,Z⟩ ?_;go_big_quiet_step (fail);refine vk ?_)
     refine RE.b Z Z ?_ (fun j2=>?_)
     ·intro W _ hS _;obtain⟨x,rfl⟩:=hS Z;refine RE.u 129 _ _ Z (enters_of Tryz.func129 (by kernel_rfl) Z) #[I Y k,I Y i] (by simp[Act.eval]) ((qF k i x.1 hD hE).mono ?_);rintro e W' ⟨rfl,hG⟩;exact⟨_,Z,[],Z,⟨⟨W',x.2.trans (hG.mono x.2.size)⟩,Z⟩,trivial,trivial⟩
     simp only[Act.put,EV,Fe,Fc]
     repeat (refine RE.h (fun W=>∃x:Wb W2,W=x.1) (fv.o _) Z Z Z ⟨⟨W2.drew,(EU _ _).drew⟩,Z⟩ ?_;go_big_quiet_step (fail);refine vk ?_)
     refine RE.q ?_;rintro W3 ⟨⟨W3,a6⟩,rfl⟩ _;have b5:=gJ.step (by decide) cG HI.o HD.o c6 ds.o a6;have af:=ab X.o a6;have z0:=af.frozenAt (i*4);have z1:=af.frozenAt (i*4+1);have z2:=af.frozenAt (i*4+2);have z3:=af.frozenAt (i*4+3);obtain⟨a0,y0⟩:=am af (i*4) (by omega);obtain⟨a1,y1⟩:=am af (i*4+1) (by omega);obtain⟨a2,y2⟩:=am af (i*4+2) (by omega);obtain⟨a3,y3⟩:=am af (i*4+3) (by omega);have HS:=Hd b5;have b6:Chg (Dg D) w W3:=fm.o.h (Chg.b a6);have hH:Dg D g∨w.heap.size≤g:=tE ⟨k,_,n,HD.o,Z⟩;have a7:Chg (Dg D) w (di W3 g (i*4) (dw k i)):=fy _ _ _ _ b6 hH;have dv:B≤W3.heap.size:=EZ fe a6.size;have eg:=Hd a7;clear b5 af b6 a7 a6 HV hA
     go_wp2
     refine⟨⟨_,i+1,Z,by omega,by go_num,eg.o,?_,HS.o⟩,by simp[intOf];omega⟩
     simpa [xD]using dv
    ·obtain rfl:i=n:=by omega
     clear c6
     go_wp2
     refine⟨⟨_,k+1,Z,by rw[HN.o];omega,by go_num,fm.o,fe,ds.o.1,fun j u m hj=>?_⟩,by simp[intOf];omega⟩;obtain⟨ys,ho,hq⟩:=ds.o.2 j u m hj;refine⟨ys,ho,fun h=>?_,fun _=>rfl⟩
     by_cases hJ:j=k
     ·subst hJ;have hK:m=i:=by have:=HD.o;rw[hj]at this;simp only[oF,o6]at this;exact this.2
      subst hK;have:=hq.2 Z
      rwa [Fq (by rw[ho.1];exact ET _)]at this
     ·exact hq.1 (by omega)
  ·obtain rfl:N=k:=by omega
   clear t;obtain⟨C,hC,bd⟩:=ie (R:=115) (S:=37) Tryz.underlying115 (by kernel_rfl) N hz W1;obtain⟨W3,b2⟩:=zzx (W1.alloc (p8 C 37));have fz:Fm 59 37 4 B b0 c0 D (fun j n xs=>xs=aI dw j n) W3:=by
    rw[b2];refine⟨(heap_alloc_old W1 _ (ES.1 HM.o.1).1).trans HM.o.1,fun j v n hj=>?_⟩;obtain⟨xs,ho,hq⟩:=HM.o.2 j v n hj;exact⟨xs,ho.alloc _,hq.1 (by have:=(Fo.1 hj).1;rw[HN.o]at this;exact this)⟩
   have a6:Chg (Dg D) w W3:=by rw[b2];exact HB.o.h (Chg.b ((EU _ W1).alloc (ET _) _))
   have dv:B≤W3.heap.size:=by rw[b2];simp;omega
   have en:W3.heap[W1.heap.size]?=A (p8 C 37 (0,0)):=by rw[b2];exact ot W1 _
   obtain⟨b1,bk⟩:=zzy (W1.heap.size);have c7:w.heap.size≤b1:=by rw[←bk];exact HB.o.u
   have fI:b0≠b1:=by have:=(ES.1 HM.o.1).1;omega
   rw[bk]at bd en;obtain⟨fT,ga,gb,HC⟩:=zz4 fz a6 en hC;clear fz a6 en hC bk
   go_wp2
   rw[←b2];clear b2
   go_loopw [6] (od 59 37 4 dw B b0 b1 c0 D w) (fun i _=>N-(intOf i).toNat)
   case atStart=>exact⟨_,0,Z,Fi _,Z,ga.o,dv,fT.o,C,gb.o,HC.o.trans HN.o.symm,fun j v n h=>absurd h (Nat.not_lt_zero _)⟩
   case round =>
    obtain⟨W4,k,rfl,hL,rfl,gf,gg,gm,gD⟩:=hrel;rw[HN.o]at hL;have ih:(0:Int)≤k:=by omega
    obtain⟨Q,cT,b7⟩:=zz3 gm gf gD;clear gm gf gD fT ga gb HM HB HF
    by_cases t:k<N
    ·obtain⟨⟨v,n⟩,L⟩:∃d,D[k]?=A d:=⟨_,EX (by rw[HN.o];exact t)⟩;have hn:=HI.o.n k v n L;obtain⟨xs,b,hq⟩:=Q.o.2 k v n L;obtain rfl:xs=aI dw k n:=hq;obtain⟨p,c,rfl⟩:=aC b;have hv:W4.cell? ⟨b0,k,V⟩=A (O p n c):=by rw[FR _ _ _ _ _ _ Q.o.1];exact HI.o.b k _ n L
     obtain⟨HD,X⟩:=zz2 L b;have cr:(k:Int)<N:=by omega
     have ct:(0:Int)≤n:=by omega
     have cu:(n:Int)≤20000:=by omega
     clear L b
     go_wp2
     go_loopw [7,8] (nV 59 37 4 dw B b0 c0 D w W4 k n (O p n c)) (fun _ i _=>64-(intOf i).toNat)
     case atStart=>exact⟨_,0,Z,Fi _,Z,cT.o,gg,Q.o.1,Chg.y _ _,X.o,X.o,tE Z⟩
     case round =>
      obtain⟨W5,i,rfl,hi,rfl,b8,cV,eo⟩:=hrel;have cx:(0:Int)≤i:=by omega
      have gE:(i:Int)≤64:=by omega
      obtain⟨ak,bl⟩:=zz2 b8 eo;have ka:W5.cell? ⟨b0,k,V⟩=A (O p n c):=by rw[FR _ _ _ _ _ _ eo.b0];exact HI.o.b k _ n HD.o
      clear b8 eo hv
      by_cases gF:i<64
      ·have bR:(i:Int)<64:=by omega
       have bd:∀W,r9 r6 129 #[I Y k,I Y ((n:Int)+i)] W fun e w'=>e=tF (s3 #[I J 0,I Y (mkA k (n+i)),I Y 0,O V 0 0])∧FS W w':=fun W=>by
        have h:=qF k (n+i) W (by omega) (by omega)
        rwa [Int.natCast_add]at h
       have a8:=Hd bd;clear bd;go_wp2_with fail
       refine (a8.o W5).mono ?_;rintro e z ⟨rfl,l⟩;obtain⟨W7,ba⟩:=zzx (z.alloc (p8 (dw k (n+i)).toArray 59));have y:FS W5 W7:=by rw[ba];exact l.alloc l.size _
       have gH:=bl.o.C y;have T:∀j u,(dw k (n+i))[j]?=A u→W7.cell? ((⟨z.heap.size,0,V⟩:Addr).add j)=A u:=by rw[ba];exact dp z _ _
       have er:B≤W7.heap.size:=EZ cV y.size;have c8:z.alloc (p8 #[I J 0,I Y (mkA k (n+i)),I Y 0,O V 0 0] 59)=W7:=ba.symm;obtain⟨et,ev,U,hO⟩:=zz4 gH T (ak.o.h (Chg.b y)) c8;clear l y gH T ba c8;go_wp2_with (at_builtin;go_must (rw[hO.o];refine aA _ Z (.tmp 57) (.tmp 67) 37 Z B 59 ti _ 4 48 Tryz.underlying37 e5 e6 e7 e8 Z (by decide) u7 (n+i) (aI dw k (n+i)) Z et.o.ri ⟨z.heap.size,0,V⟩ 1 1 (dw k (n+i)) Z Z ev.o (by simp[Value.oneCell',dw]) (by unfold maxLen;omega) (by omega) er (by decide) ?_);intro v8 W8 E aq)
       have bn:=Gr4.h (by decide) (by decide) et.o E aq
       have r:=gk U.o (fun g hg=>by
        rcases et.o.or with h|⟨g',h,h2⟩
        ·exact tE ⟨k,_,n,HD.o,h.symm.trans hg⟩
        ·rw[hg]at h;injection h with h;have:=cT.o.u;exact tS (by omega)) aq
       have cW:B≤W8.heap.size:=by
        rcases aq with ⟨_,_,_,_,h⟩|⟨_,_,h⟩
        ·exact EZ er h.size
        ·exact EZ er h.size
       refine⟨⟨W8,i+1,Z,by omega,by go_num,r,cW,⟨bn.1,bn.2.1,?_,bn.2.2.1,bn.2.2.2⟩⟩,by simp[intOf];omega⟩;rw[←Nat.add_assoc,dR];exact E
      ·obtain rfl:i=64:=by omega
       clear gF;obtain⟨q,cq,rfl⟩:=aC bl.o.ri;obtain⟨c1,G,H,_⟩:=b7.o;have gL:(O p n c).ownBlock≠A b1:=eA (by decide) X.o G;have bk:W5.heap[b1]?=A (p8 c1 37 (0,0)):=(bl.o.chg.q b1 (ES.1 G).1 gL).trans G;have z0:=ae bk k;obtain⟨a0,y0⟩:∃a,W5.cell? ⟨b1,k,V⟩=A a:=⟨_,(FR _ _ _ _ _ _ bk).trans (Array.getElem?_eq_getElem (by rw[H,HN.o];exact t))⟩;have bn:=jc (mk:=dw) (by decide) (k:=k) (q:=fun j n ys=>ys=aI dw j (n+64)) HI.o fI Q.o b7.o HD.o bl.o.chg bl.o.rv bl.o.ri Z bl.o.or;have gM:=ak.o.t (p:=⟨b1,k,V⟩) (tS c7) (O q (n+64) cq);have hP:B≤(W5.setCell ⟨b1,k,V⟩ (O q (n+64) cq)).heap.size:=by simpa [xD]using cV
       obtain⟨bq,hQ⟩:=zz2 bn gM;clear bn gM G gL bk H;go_wp2_with fail
       exact⟨⟨_,k+1,Z,by rw[HN.o];omega,by go_num,hQ.o,hP,bq.o.1,bq.o.2⟩,by simp[intOf];omega⟩
    ·obtain rfl:N=k:=by omega
     clear t
     go_wp2
     go_loopw [9] (bJ N W4) (fun i _=>N-(intOf i).toNat)
     case atStart=>exact⟨_,0,Z,Fi _,Z,EU _ _⟩
     case round =>
      obtain⟨W5,k,rfl,kc,rfl,b8⟩:=hrel;have ix:(0:Int)≤k:=by omega
      have ak:=Hd b8;clear b8
      by_cases t:k<N
      ·obtain⟨⟨v,n⟩,L⟩:∃d,D[k]?=A d:=⟨_,EX (by rw[HN.o];exact t)⟩;have hn:=HI.o.n k v n L;obtain⟨xs,b,hq⟩:=Q.o.2 k v n L;obtain rfl:xs=aI dw k n:=hq;obtain⟨p,c,rfl⟩:=aC b;obtain⟨c1,G,H,b9⟩:=b7.o;obtain⟨v',ys,ca,F,rfl,_⟩:=b9 k _ n t L;obtain⟨g',c',rfl,hR⟩:=aU F (by omega);obtain⟨HD,X,ar,HV,cb⟩:=zz5 L b F ((FR _ b0 k _ _ _ Q.o.1).trans (HI.o.b k _ n L)) ((FR _ b1 k _ _ _ G).trans ca);have cr:(k:Int)<N:=by omega
       have ct:(0:Int)≤n:=by omega
       have cu:(n:Int)≤20000:=by omega
       clear L b F G H b9 ca
       go_wp2
       go_loopw [10] (bJ (n+64) W4) (fun i _=>(n+64)-(intOf i).toNat)
       case atStart=>exact⟨_,0,Z,Fi _,Z,ak.o⟩
       case round =>
        obtain⟨z,i,rfl,kk,rfl,l⟩:=hrel;have cx:(0:Int)≤i:=by omega
        have e0:=(l.cell (p:=⟨b0,k,V⟩) (ES.1 Q.o.1).1).trans HV.o;have ch:=(l.cell (p:=⟨b1,k,V⟩) (World.block_lt_of_cell? _ _ cb.o)).trans cb.o;have bb:=Hd l
        by_cases K:i<n+64
        ·have bR:(i:Int)<(n:Int)+64:=by omega
         have kn:decide ((i:Int)<(n:Int)+64)=true:=decide_eq_true bR;have m0:=ai cG (ab ar.o l) ⟨[],(List.append_nil _).symm⟩ K K (m:=0) Z;rw[Nat.add_zero]at m0;have m1:=ai cG (ab ar.o l) ⟨[],(List.append_nil _).symm⟩ K K (m:=1) Z;have m2:=ai cG (ab ar.o l) ⟨[],(List.append_nil _).symm⟩ K K (m:=2) Z;have m3:=ai cG (ab ar.o l) ⟨[],(List.append_nil _).symm⟩ K K (m:=3) Z;have a8:Hid (∀W:p7,r9 r6 129 #[I Y k,I Y i] W fun e w'=>e=tF (s3 #[I J 0,I Y (mkA k i),I Y 0,O V 0 0])∧FS W w'):=fun W=>qF k i W (by omega) (by omega)
         have c3:Hid (∀W:p7,r9 r6 113 #[s3 #[I J 0,I Y (mkA k i),I Y 0,O V 0 0],s3 #[I J 0,I Y (mkA k i),I Y 0,O V 0 0]] W fun e w'=>e=tF (ur true)∧FS W w'):=fun W=>Dk k i W (by omega) (by omega)
         have M0:=fun x:Wb z=>x.b m0
         have M1:=fun x:Wb z=>x.b m1
         have M2:=fun x:Wb z=>x.b m2
         have M3:=fun x:Wb z=>x.b m3
         have hy:=fun x:Wb z=>x.b e0
         have V':=fun x:Wb z=>x.b ch
         clear m0 m1 m2 m3
         by_cases P:i<n
         ·have ck:(i:Int)<n:=by omega
          have hT:decide ((i:Int)<(n:Int))=true:=decide_eq_true ck;obtain⟨g,c2,b4,fp⟩:=aU X.o (by omega);injection b4 with h1 h2 h3
          subst h1;clear h2 h3;have m0:=ai cG (ab X.o l) ⟨[],(List.append_nil _).symm⟩ P P (m:=0) Z;rw[Nat.add_zero]at m0;have m1:=ai cG (ab X.o l) ⟨[],(List.append_nil _).symm⟩ P P (m:=1) Z;have m2:=ai cG (ab X.o l) ⟨[],(List.append_nil _).symm⟩ P P (m:=2) Z;have m3:=ai cG (ab X.o l) ⟨[],(List.append_nil _).symm⟩ P P (m:=3) Z;have K0:=fun x:Wb z=>x.b m0
          have K1:=fun x:Wb z=>x.b m1
          have K2:=fun x:Wb z=>x.b m2
          have K3:=fun x:Wb z=>x.b m3
          clear m0 m1 m2 m3 l;go_wp2_with fail
          refine aj (by kernel_rfl) (by kernel_rfl) ?_
          repeat (go_big_quiet_step (first|(go_at_call 129;exact Calls.b (a8.o _))|(go_at_call 113;exact Calls.b (c3.o _))))
          refine vk ?_;intro W7 bc;have y:=aE bc;have U:=Hd (bb.o.trans (y.mono bb.o.size));clear bc y M0 M1 M2 M3 hy V' K0 K1 K2 K3 e0 ch;go_wp2_with fail
          exact⟨⟨_,i+1,Z,by omega,by go_num,U.o⟩,by simp[intOf];omega⟩
         ·have ck:¬(i:Int)<n:=by omega
          have hT:decide ((i:Int)<(n:Int))=false:=oB ck;clear l;go_wp2_with fail
          refine aj (by kernel_rfl) (by kernel_rfl) ?_
          repeat (go_big_quiet_step (first|(go_at_call 129;exact Calls.b (a8.o _))|(go_at_call 113;exact Calls.b (c3.o _))))
          refine vk ?_;intro W7 bc;have y:=aE bc;have U:=Hd (bb.o.trans (y.mono bb.o.size));clear bc y M0 M1 M2 M3 hy V' e0 ch;go_wp2_with fail
          exact⟨⟨_,i+1,Z,by omega,by go_num,U.o⟩,by simp[intOf];omega⟩
        ·obtain rfl:i=n+64:=by omega
         clear K l;go_wp2_with fail
         exact⟨⟨_,k+1,Z,by omega,by go_num,bb.o⟩,by simp[intOf];omega⟩
      ·obtain rfl:N=k:=by omega
       clear t;have gN:Hid (Fm 59 37 4 B b0 c0 D (qM dw) W5):=⟨(ak.o.block b0 (ES.1 Q.o.1).1).trans Q.o.1,fun j v n h=>(Q.o.2 j v n h).imp fun xs hx=>⟨ab hx.1 ak.o,hx.2⟩⟩;have c9:=cT.o.h (Chg.b ak.o);have cV:B≤W5.heap.size:=EZ gg ak.o.size;obtain⟨c1,G,H,_⟩:=b7.o;have gO:Hid (Gs 59 37 4 B b1 D 0 (fun j n ys=>∃zs,ys=aI dw j n++zs) W5):=⟨c1,(ak.o.block b1 (ES.1 G).1).trans G,H,fun j v n h=>absurd h (Nat.not_lt_zero _)⟩;have da:=Hd c9;clear c9 G H
       go_wp2
       go_loopw [11] (lN 59 37 4 dw B b0 b1 c0 D w) (fun i _=>N-(intOf i).toNat)
       case atStart=>exact⟨_,0,Z,Fi _,Z,da.o,cV,gN.o,gO.o⟩
       case round =>
        obtain⟨z,k,rfl,hU,rfl,l,hV,gS,gT⟩:=hrel;rw[HN.o]at hU;have iA:(0:Int)≤k:=by omega
        obtain⟨br,bb,ha⟩:=zz3 gS l gT;clear gS l gT gN da gO Q cT b7
        by_cases t:k<N
        ·obtain⟨⟨v,n⟩,L⟩:∃d,D[k]?=A d:=⟨_,EX (by rw[HN.o];exact t)⟩;have hn:=HI.o.n k v n L;obtain⟨xs,b,hq⟩:=br.o.2 k v n L;obtain rfl:xs=aI dw k n:=hq;obtain⟨p,c,rfl⟩:=aC b;obtain⟨HD,X⟩:=zz2 L b;have cr:(k:Int)<N:=by omega
         have ct:(0:Int)≤n:=by omega
         have cu:(n:Int)≤20000:=by omega
         obtain⟨C6,hc,dc,hf⟩:=DY z;obtain⟨W7,ba⟩:=zzx (z.alloc (p8 C6 59));have y:FS z W7:=by rw[ba];exact (EU _ _).alloc (ET _) _
         have cl:W7.ownsRow z.heap.size 59 4 (O (A ⟨z.heap.size,0,V⟩) 64 64) 64 C6.toList:=by rw[ba];exact World.ownsRow_lit z C6 64 (ET _) (by unfold maxLen;omega) hc
         obtain⟨U,hW,hX⟩:=zz3 y cl dc;obtain⟨M,hM⟩:=zzx (z.heap.size);rw[←hM]at hf;have hY:z.heap.size≤M:=by omega
         have hh:=Hd hM;clear L b y cl dc hc hM
         go_wp2
         rw[←ba]
         go_loopw [13] (lY 59 4 z) (fun i _=>64-(intOf i).toNat)
         case atStart=>exact⟨_,0,_,Z,Fi _,Z,U.o,hW.o,hX.o⟩
         case round =>
          obtain⟨W8,i,xs,rfl,h0,rfl,r,E,bt⟩:=hrel;have cx:(0:Int)≤i:=by omega
          have gE:(i:Int)≤64:=by omega
          rw[←hh.o]at E;obtain⟨av,e1,dd⟩:=zz3 r E bt
          by_cases f:i<64
          ·have bR:(i:Int)<64:=by omega
           have bd:∀W,r9 r6 129 #[I Y ((k:Int)+N),I Y i] W fun e w'=>e=tF (s3 #[I J 0,I Y (mkA (k+N) i),I Y 0,O V 0 0])∧FS W w':=fun W=>by
            have h:=qF (k+N) i W (by omega) (by omega)
            rwa [Int.natCast_add]at h
           have a8:=Hd bd;clear bd r E bt;go_wp2_with fail
           refine (a8.o W8).mono ?_;rintro e W9 ⟨rfl,b3⟩;have ad:=ab e1.o b3;have z0:=ad.frozenAt (i*4);have z1:=ad.frozenAt (i*4+1);have z2:=ad.frozenAt (i*4+2);have z3:=ad.frozenAt (i*4+3);obtain⟨a0,y0⟩:=am ad (i*4) (by omega);obtain⟨a1,y1⟩:=am ad (i*4+1) (by omega);obtain⟨a2,y2⟩:=am ad (i*4+2) (by omega);obtain⟨a3,y3⟩:=am ad (i*4+3) (by omega);have b5:=dV (dw (k+N) i) W9 xs (i*4) ad;have dg:=ia (dw (k+N) i) xs (i*4) dd.o (by simp[dw,Value.oneCell']);have b6:FS z W9:=av.o.trans (b3.mono av.o.size);have a7:FS z (di W9 M (i*4) (dw (k+N) i)):=eF _ _ _ _ b6 hY;obtain⟨HS,h4,eg⟩:=zz3 b5.1 dg a7;clear b5 dg b6 a7 b3 ad;go_wp2_with fail
           refine⟨⟨_,i+1,_,Z,by omega,by go_num,eg.o,?_,h4.o⟩,by simp[intOf];omega⟩;rw[←hh.o];exact HS.o
          ·obtain rfl:i=64:=by omega
           clear f;have e2:Gr4 59 37 4 dw B b0 c0 z k n (O p n c) (O p n c) 0 W8:=Gr4.C ⟨br.o.1,Chg.y _ _,X.o,X.o,tE Z⟩ av.o;have e3:W8.cell? ⟨b0,k,V⟩=A (O p n c):=by rw[FR _ _ _ _ _ _ e2.b0];exact HI.o.b k _ n HD.o
           have cW:B≤W8.heap.size:=EZ hV av.o.size;obtain⟨hl,hp⟩:=zz2 (bb.o.h (Chg.b av.o)) e2;have T:∀j u,xs[j]?=A u→W8.cell? ((⟨M,0,V⟩:Addr).add j)=A u:=e1.o.cells Z;have ev:=Hd T;have hr:xs.length=64*4:=e1.o.1;have h5:=Hd hr;clear r E bt e2 T hr;go_wp2_with (at_builtin;go_must (refine aA _ Z (.tmp 148) (.tmp 149) 37 Z B 59 ti _ 4 48 Tryz.underlying37 e5 e6 e7 e8 Z (by decide) (O p n c) n (aI dw k n) Z hp.o.rv ⟨M,0,V⟩ 64 64 xs Z h5.o ev.o dd.o (by unfold maxLen;omega) (by omega) cW (by decide) ?_);intro v9 W9 cp bB;obtain⟨q9,kr,rfl,z9,⟨a9,y9⟩,bq⟩:=kH (by decide) (by decide) HI.o fI c7 br.o ha.o HD.o hp.o hl.o cW cp bB;clear cp bB)
           exact⟨⟨_,k+1,Z,by rw[HN.o];omega,by go_num,bq.o.2.2.1,bq.o.2.2.2,bq.o.1,bq.o.2.1⟩,by simp[intOf];omega⟩
        ·obtain rfl:N=k:=by omega
         clear t
         go_wp2
         go_loopw [14] (bJ N z) (fun i _=>N-(intOf i).toNat)
         case atStart=>exact⟨_,0,Z,Fi _,Z,EU _ _⟩
         case round =>
          obtain⟨W7,k,rfl,ks,rfl,y⟩:=hrel;have iB:(0:Int)≤k:=by omega
          have U:=Hd y;clear y
          by_cases t:k<N
          ·obtain⟨⟨v,n⟩,L⟩:∃d,D[k]?=A d:=⟨_,EX (by rw[HN.o];exact t)⟩;have hn:=HI.o.n k v n L;obtain⟨xs,b,hq⟩:=br.o.2 k v n L;obtain rfl:xs=aI dw k n:=hq;obtain⟨p,c,rfl⟩:=aC b;obtain⟨c1,G,H,b9⟩:=ha.o;obtain⟨v',ys,ca,F,ht,_⟩:=b9 k _ n t L;obtain⟨g',c',rfl,hR⟩:=aU F (by omega);obtain⟨HD,X,ar,c5,HV,cb⟩:=zz6 L b F ht ((FR _ b0 k _ _ _ br.o.1).trans (HI.o.b k _ n L)) ((FR _ b1 k _ _ _ G).trans ca);have cr:(k:Int)<N:=by omega
           have ct:(0:Int)≤n:=by omega
           have cu:(n:Int)≤20000:=by omega
           have h6:=(U.o.cell (p:=⟨b0,k,V⟩) (ES.1 br.o.1).1).trans HV.o;clear L b F G H b9 ca ht
           go_wp2
           go_loopw [15] (bJ n z) (fun i _=>n-(intOf i).toNat)
           case atStart=>exact⟨_,0,Z,Fi _,Z,U.o⟩
           case round =>
            obtain⟨W8,i,rfl,h0,rfl,r⟩:=hrel;have cx:(0:Int)≤i:=by omega
            have e3:=(r.cell (p:=⟨b0,k,V⟩) (ES.1 br.o.1).1).trans HV.o;have dr:=(r.cell (p:=⟨b1,k,V⟩) (World.block_lt_of_cell? _ _ cb.o)).trans cb.o;have av:=Hd r;clear h6
            by_cases f:i<n
            ·have bR:(i:Int)<n:=by omega
             have kv:decide ((i:Int)<(n:Int))=true:=decide_eq_true bR;have m0:=ai cG (ab ar.o r) c5.o f (by omega) (m:=0) Z;rw[Nat.add_zero]at m0;have m1:=ai cG (ab ar.o r) c5.o f (by omega) (m:=1) Z;have m2:=ai cG (ab ar.o r) c5.o f (by omega) (m:=2) Z;have m3:=ai cG (ab ar.o r) c5.o f (by omega) (m:=3) Z;have a8:Hid (∀W:p7,r9 r6 129 #[I Y k,I Y i] W fun e w'=>e=tF (s3 #[I J 0,I Y (mkA k i),I Y 0,O V 0 0])∧FS W w'):=fun W=>qF k i W (by omega) (by omega)
             have c3:Hid (∀W:p7,r9 r6 113 #[s3 #[I J 0,I Y (mkA k i),I Y 0,O V 0 0],s3 #[I J 0,I Y (mkA k i),I Y 0,O V 0 0]] W fun e w'=>e=tF (ur true)∧FS W w'):=fun W=>Dk k i W (by omega) (by omega)
             have M0:=fun x:Wb W8=>x.b m0
             have M1:=fun x:Wb W8=>x.b m1
             have M2:=fun x:Wb W8=>x.b m2
             have M3:=fun x:Wb W8=>x.b m3
             have hy:=fun x:Wb W8=>x.b e3
             have V':=fun x:Wb W8=>x.b dr
             clear m0 m1 m2 m3;obtain⟨g,c2,b4,fp⟩:=aU X.o (by omega);injection b4 with h1 h2 h3
             subst h1;clear h2 h3;have m0:=ai cG (ab X.o r) ⟨[],(List.append_nil _).symm⟩ f f (m:=0) Z;rw[Nat.add_zero]at m0;have m1:=ai cG (ab X.o r) ⟨[],(List.append_nil _).symm⟩ f f (m:=1) Z;have m2:=ai cG (ab X.o r) ⟨[],(List.append_nil _).symm⟩ f f (m:=2) Z;have m3:=ai cG (ab X.o r) ⟨[],(List.append_nil _).symm⟩ f f (m:=3) Z;have K0:=fun x:Wb W8=>x.b m0
             have K1:=fun x:Wb W8=>x.b m1
             have K2:=fun x:Wb W8=>x.b m2
             have K3:=fun x:Wb W8=>x.b m3
             have h7:i<n+64:=by omega
             have h8:(i:Int)<(n:Int)+64:=by omega
             clear m0 m1 m2 m3 r;go_wp2_with fail
             refine aj (by kernel_rfl) (by kernel_rfl) ?_
             repeat (go_big_quiet_step (first|(go_at_call 129;exact Calls.b (a8.o _))|(go_at_call 113;exact Calls.b (c3.o _))))
             refine vk ?_;intro W9 bc;have b3:=aE bc;have h9:=Hd (av.o.trans (b3.mono av.o.size));clear bc b3 M0 M1 M2 M3 hy V' K0 K1 K2 K3 e3 dr;go_wp2_with fail
             exact⟨⟨_,i+1,Z,by omega,by go_num,h9.o⟩,by simp[intOf];omega⟩
            ·obtain rfl:i=n:=by omega
             clear f r;go_wp2_with fail
             exact⟨⟨_,k+1,Z,by omega,by go_num,av.o⟩,by simp[intOf];omega⟩
          ·obtain rfl:N=k:=by omega
           clear t
           go_wp2
           go_ret;exact⟨Z,bb.o.h (Chg.b U.o)⟩
