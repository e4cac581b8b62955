/- Parts of one proof, joined; conditions stand in each theorem. -/
import Derived.Test.YtmpekinjoeibbaaGreatDoorGB
open Go renaming World→p7,Value→r3,Calls→r9,wpQuiet_nil→vk
open Go.Proofs.Tryz renaming prog→r6
open Go.Value renaming slice→O,agg→s3,int→I,string→p9,bool→ur
open Option renaming some→A,none→V
open Go.IntKind renaming u8→J,i64→Y
open Or renaming inl→tE,inr→tS
open Go.World renaming setCell→xD
open Go.Obj renaming cells→p8
open Go.Ending renaming returned→tF
namespace Go.Proofs.YtmpekinjoeibbaaGreatDoor
set_option maxHeartbeats 20000000
set_option maxRecDepth 100000
open Go.RowKit
theorem s8{w:p7}{B b0 e5:Nat}{c0:Array r3}{D:List (r3×Nat)}(hI:FIn B b0 c0 D)(hF:Fm 51 49 7 B b0 c0 D (fun _ _ _=>True) w)(hB:B≤w.heap.size) :
  r9 r6 66 #[O (A ⟨b0,0,V⟩) D.length e5] w (dZ D w):=by
 obtain⟨N,hN⟩:=zzy (D.length);have hA:N≤100000:=by rw[←hN];exact hI.N
 rw[hN];obtain⟨ti,e6,e7,e8,e9⟩:=info_parts vE;obtain⟨HI,HF,HN⟩:=zz3 hI hF hN;clear hI hF hN
 go_enter Tryz.func66,Tryz.ntmps66
 go_wp2
 go_loopw [3] (nY 51 49 7 cj B b0 c0 D w) (fun i _=>N-(intOf i).toNat)
 case atStart=>exact⟨_,0,Z,Fi _,Z,Chg.y _ _,hB,HF.o.1,fun k v n h=>(HF.o.2 k v n h).imp fun xs h=>⟨h.1,fun h=>absurd h (Nat.not_lt_zero _),fun _=>rfl⟩⟩
 case round =>
  obtain⟨W1,k,rfl,hk,rfl,hb,hs,hm⟩:=hrel;rw[HN.o]at hk;have jj:(0:Int)≤k:=by omega
  have j2:(N:Int)≤100000:=by omega
  obtain⟨HM,HB⟩:=zz2 hm hb;clear hm hb
  by_cases E:k<N
  ·obtain⟨⟨v,n⟩,U⟩:∃d,D[k]?=A d:=⟨_,EX (by rw[HN.o];exact E)⟩;have hn:=HI.o.n k v n U;have HD:=Hd U;have cu:(k:Int)<N:=by omega
   have cv:(0:Int)≤n:=by omega
   have cx:(n:Int)≤20000:=by omega
   clear U
   go_wp2
   go_loopw [4] (gJ 51 49 7 cj B b0 c0 D w k n) (fun i _=>n-(intOf i).toNat)
   case atStart=>exact⟨_,0,Z,Fi _,Z,HB.o,hs,HM.o⟩
   case round =>
    obtain⟨W2,i,rfl,hi,rfl,fe,fm,cT⟩:=hrel;have cV:(0:Int)≤i:=by omega
    obtain⟨xs,f,hq⟩:=cT.2 k v n HD.o;obtain⟨p,c,rfl⟩:=aC f;have hv:W2.cell? ⟨b0,k,V⟩=A (O p n c):=by rw[FR _ _ _ _ _ _ cT.1];exact HI.o.b k _ n HD.o
    obtain⟨dv,fp,X,HQ⟩:=zz4 cT fe f hq;clear cT fe f hq
    by_cases c7:i<n
    ·have b3:(i:Int)<n:=by omega
     obtain⟨g,c',b6,fr⟩:=aU X.o (by omega);injection b6 with h1 h2 h3
     subst h1;clear h2 h3;have hD:i*7+7≤xs.length:=by rw[X.o.1];omega
     have HV:=fun x:Wb W2=>x.b hv
     have hE:k≤1000000:=by omega
     have hG:i≤1000000:=by omega
     go_wp2
     refine RE.t (by kernel_rfl) 9 [7] [7] (fun _ W=>∃x:Wb W2,W=x.1) (fun _ _=>True) (fun _ _=>s3 #[I J 0,I J 0,I Y 0,p9 ⟨#[]⟩,I Y (mkA k i),I J 0,O V 0 0]) (fun _ _ _=>True) (by kernel_rfl) (fun i h1 h2=>by rw[h1]at h2;cases h2) (fun _ _ _ _ _ _ _=>trivial) ⟨⟨W2.drew,(EU _ _).drew⟩,Z⟩ ?_;simp only[Fg,Fu,Fh,Ft];have fv:∀(n s:Nat) (W:p7),s≤n→(∃x:Wb W2,W=x.1)→∃x:Wb W2,W=x.1:=fun _ _ _ _ h=>h
     have fz:=Hd fv;clear fv
     repeat (refine RE.h (fun W=>∃x:Wb W2,W=x.1) (fz.o _) Z Z Z ⟨⟨W2.drew,(EU _ _).drew⟩,Z⟩ ?_;go_big_quiet_step (fail);refine vk ?_)
     refine RE.b Z Z ?_ (fun ka=>?_)
     ·intro W _ hS _;obtain⟨x,rfl⟩:=hS Z;refine RE.u 125 _ _ Z (enters_of Tryz.func125 (by kernel_rfl) Z) #[I Y k,I Y i] (by simp[Act.eval]) ((nh k i x.1 hE hG).mono ?_);rintro e W' ⟨rfl,hH⟩;exact⟨_,Z,[],Z,⟨⟨W',x.2.trans (hH.mono x.2.size)⟩,Z⟩,trivial,trivial⟩
     simp only[Act.put,EV,Fe,Fc]
     repeat (refine RE.h (fun W=>∃x:Wb W2,W=x.1) (fz.o _) Z Z Z ⟨⟨W2.drew,(EU _ _).drew⟩,Z⟩ ?_;go_big_quiet_step (fail);refine vk ?_)
     refine RE.q ?_;rintro W3 ⟨⟨W3,a7⟩,rfl⟩ _;have b7:=gJ.step (by decide) aS HI.o HD.o c7 dv.o a7;have H:=ab X.o a7;have z0:=H.frozenAt (i*7);have z1:=H.frozenAt (i*7+1);have z2:=H.frozenAt (i*7+2);have z3:=H.frozenAt (i*7+3);have z4:=H.frozenAt (i*7+4);have z5:=H.frozenAt (i*7+5);have z6:=H.frozenAt (i*7+6);obtain⟨a0,y0⟩:=am H (i*7) (by omega);obtain⟨a1,y1⟩:=am H (i*7+1) (by omega);obtain⟨a2,y2⟩:=am H (i*7+2) (by omega);obtain⟨a3,y3⟩:=am H (i*7+3) (by omega);obtain⟨a4,y4⟩:=am H (i*7+4) (by omega);obtain⟨a5,y5⟩:=am H (i*7+5) (by omega);obtain⟨a6,y6⟩:=am H (i*7+6) (by omega);have HS:=Hd b7;have b8:Chg (Dg D) w W3:=fp.o.h (Chg.b a7);have hJ:Dg D g∨w.heap.size≤g:=tE ⟨k,_,n,HD.o,Z⟩;have a8:Chg (Dg D) w (di W3 g (i*7) (cj k i)):=fy _ _ _ _ b8 hJ;have eg:B≤W3.heap.size:=EZ fm a7.size;have en:=Hd a8;clear b7 H b8 a8 a7 HV hD
     go_wp2
     refine⟨⟨_,i+1,Z,by omega,by go_num,en.o,?_,HS.o⟩,by simp[intOf];omega⟩
     simpa [xD]using eg
    ·obtain rfl:i=n:=by omega
     clear c7
     go_wp2
     refine⟨⟨_,k+1,Z,by rw[HN.o];omega,by go_num,fp.o,fm,dv.o.1,fun j u m hj=>?_⟩,by simp[intOf];omega⟩;obtain⟨ys,ho,hq⟩:=dv.o.2 j u m hj;refine⟨ys,ho,fun h=>?_,fun _=>rfl⟩
     by_cases hK:j=k
     ·subst hK;have hL:m=i:=by have:=HD.o;rw[hj]at this;simp only[oF,o6]at this;exact this.2
      subst hL;have:=hq.2 Z
      rwa [Fq (by rw[ho.1];exact ET _)]at this
     ·exact hq.1 (by omega)
  ·obtain rfl:N=k:=by omega
   clear E;obtain⟨C,hC,bk⟩:=ie (R:=112) (S:=49) Tryz.underlying112 (by kernel_rfl) N hA W1;obtain⟨W3,b4⟩:=zzx (W1.alloc (p8 C 49));have fI:Fm 51 49 7 B b0 c0 D (fun j n xs=>xs=aI cj j n) W3:=by
    rw[b4];refine⟨(heap_alloc_old W1 _ (ES.1 HM.o.1).1).trans HM.o.1,fun j v n hj=>?_⟩;obtain⟨xs,ho,hq⟩:=HM.o.2 j v n hj;exact⟨xs,ho.alloc _,hq.1 (by have:=(Fo.1 hj).1;rw[HN.o]at this;exact this)⟩
   have a7:Chg (Dg D) w W3:=by rw[b4];exact HB.o.h (Chg.b ((EU _ W1).alloc (ET _) _))
   have eg:B≤W3.heap.size:=by rw[b4];simp;omega
   have eo:W3.heap[W1.heap.size]?=A (p8 C 49 (0,0)):=by rw[b4];exact ot W1 _
   obtain⟨b1,bl⟩:=zzy (W1.heap.size);have c8:w.heap.size≤b1:=by rw[←bl];exact HB.o.u
   have fT:b0≠b1:=by have:=(ES.1 HM.o.1).1;omega
   rw[bl]at bk eo;obtain⟨ga,gb,gf,HC⟩:=zz4 fI a7 eo hC;clear fI a7 eo hC bl
   go_wp2
   rw[←b4];clear b4
   go_loopw [6] (od 51 49 7 cj B b0 b1 c0 D w) (fun i _=>N-(intOf i).toNat)
   case atStart=>exact⟨_,0,Z,Fi _,Z,gb.o,eg,ga.o,C,gf.o,HC.o.trans HN.o.symm,fun j v n h=>absurd h (Nat.not_lt_zero _)⟩
   case round =>
    obtain⟨W4,k,rfl,hO,rfl,gg,gm,gD,gE⟩:=hrel;rw[HN.o]at hO;have ix:(0:Int)≤k:=by omega
    obtain⟨ad,cW,b9⟩:=zz3 gD gg gE;clear gD gg gE ga gb gf HM HB HF
    by_cases E:k<N
    ·obtain⟨⟨v,n⟩,U⟩:∃d,D[k]?=A d:=⟨_,EX (by rw[HN.o];exact E)⟩;have hn:=HI.o.n k v n U;obtain⟨xs,f,hq⟩:=ad.o.2 k v n U;obtain rfl:xs=aI cj k n:=hq;obtain⟨p,c,rfl⟩:=aC f;have hv:W4.cell? ⟨b0,k,V⟩=A (O p n c):=by rw[FR _ _ _ _ _ _ ad.o.1];exact HI.o.b k _ n U
     obtain⟨HD,X⟩:=zz2 U f;have cu:(k:Int)<N:=by omega
     have cv:(0:Int)≤n:=by omega
     have cx:(n:Int)≤20000:=by omega
     clear U f
     go_wp2
     go_loopw [7,8] (nV 51 49 7 cj B b0 c0 D w W4 k n (O p n c)) (fun _ i _=>64-(intOf i).toNat)
     case atStart=>exact⟨_,0,Z,Fi _,Z,cW.o,gm,ad.o.1,Chg.y _ _,X.o,X.o,tE Z⟩
     case round =>
      obtain⟨W5,i,rfl,hi,rfl,ca,c3,er⟩:=hrel;have cV:(0:Int)≤i:=by omega
      have gF:(i:Int)≤64:=by omega
      obtain⟨aq,bn⟩:=zz2 ca er;have kc:W5.cell? ⟨b0,k,V⟩=A (O p n c):=by rw[FR _ _ _ _ _ _ er.b0];exact HI.o.b k _ n HD.o
      clear ca er hv
      by_cases gH:i<64
      ·have b3:(i:Int)<64:=by omega
       have bk:∀W,r9 r6 125 #[I Y k,I Y ((n:Int)+i)] W fun e w'=>e=tF (s3 #[I J 0,I J 0,I Y 0,p9 ⟨#[]⟩,I Y (mkA k (n+i)),I J 0,O V 0 0])∧FS W w':=fun W=>by
        have h:=nh k (n+i) W (by omega) (by omega)
        rwa [Int.natCast_add]at h
       have ba:=Hd bk;clear bk;go_wp2_with fail
       refine (ba.o W5).mono ?_;rintro e z ⟨rfl,l⟩;obtain⟨W7,bb⟩:=zzx (z.alloc (p8 (cj k (n+i)).toArray 51));have F:FS W5 W7:=by rw[bb];exact l.alloc l.size _
       have gL:=bn.o.C F;have af:∀j u,(cj k (n+i))[j]?=A u→W7.cell? ((⟨z.heap.size,0,V⟩:Addr).add j)=A u:=by rw[bb];exact dp z _ _
       have et:B≤W7.heap.size:=EZ c3 F.size;have c9:z.alloc (p8 #[I J 0,I J 0,I Y 0,p9 ⟨#[]⟩,I Y (mkA k (n+i)),I J 0,O V 0 0] 51)=W7:=bb.symm;obtain⟨ev,e0,ak,hP⟩:=zz4 gL af (aq.o.h (Chg.b F)) c9;clear l F gL af bb c9;go_wp2_with (at_builtin;go_must (rw[hP.o];refine aA _ Z (.tmp 57) (.tmp 67) 49 Z B 51 ti _ 7 80 Tryz.underlying49 e6 e7 e8 e9 Z (by decide) u7 (n+i) (aI cj k (n+i)) Z ev.o.ri ⟨z.heap.size,0,V⟩ 1 1 (cj k (n+i)) Z Z e0.o (by simp[Value.oneCell',cj]) (by unfold maxLen;omega) (by omega) et (by decide) ?_);intro v8 W8 K ar)
       have bq:=Gr4.h (by decide) (by decide) ev.o K ar
       have r:=gk ak.o (fun g hg=>by
        rcases ev.o.or with h|⟨g',h,h2⟩
        ·exact tE ⟨k,_,n,HD.o,h.symm.trans hg⟩
        ·rw[hg]at h;injection h with h;have:=cW.o.u;exact tS (by omega)) ar
       have c5:B≤W8.heap.size:=by
        rcases ar with ⟨_,_,_,_,h⟩|⟨_,_,h⟩
        ·exact EZ et h.size
        ·exact EZ et h.size
       refine⟨⟨W8,i+1,Z,by omega,by go_num,r,c5,⟨bq.1,bq.2.1,?_,bq.2.2.1,bq.2.2.2⟩⟩,by simp[intOf];omega⟩;rw[←Nat.add_assoc,dR];exact K
      ·obtain rfl:i=64:=by omega
       clear gH;obtain⟨q,cq,rfl⟩:=aC bn.o.ri;obtain⟨c1,Q,T,_⟩:=b9.o;have gM:(O p n c).ownBlock≠A b1:=eA (by decide) X.o Q;have bl:W5.heap[b1]?=A (p8 c1 49 (0,0)):=(bn.o.chg.q b1 (ES.1 Q).1 gM).trans Q;have z0:=ae bl k;obtain⟨a0,y0⟩:∃a,W5.cell? ⟨b1,k,V⟩=A a:=⟨_,(FR _ _ _ _ _ _ bl).trans (Array.getElem?_eq_getElem (by rw[T,HN.o];exact E))⟩;have bq:=jc (mk:=cj) (by decide) (k:=k) (q:=fun j n ys=>ys=aI cj j (n+64)) HI.o fT ad.o b9.o HD.o bn.o.chg bn.o.rv bn.o.ri Z bn.o.or;have gN:=aq.o.t (p:=⟨b1,k,V⟩) (tS c8) (O q (n+64) cq);have hQ:B≤(W5.setCell ⟨b1,k,V⟩ (O q (n+64) cq)).heap.size:=by simpa [xD]using c3
       obtain⟨br,hR⟩:=zz2 bq gN;clear bq gN Q gM bl T;go_wp2_with fail
       exact⟨⟨_,k+1,Z,by rw[HN.o];omega,by go_num,hR.o,hQ,br.o.1,br.o.2⟩,by simp[intOf];omega⟩
    ·obtain rfl:N=k:=by omega
     clear E
     go_wp2
     go_loopw [9] (bJ N W4) (fun i _=>N-(intOf i).toNat)
     case atStart=>exact⟨_,0,Z,Fi _,Z,EU _ _⟩
     case round =>
      obtain⟨W5,k,rfl,kk,rfl,ca⟩:=hrel;have iA:(0:Int)≤k:=by omega
      have aq:=Hd ca;clear ca
      by_cases E:k<N
      ·obtain⟨⟨v,n⟩,U⟩:∃d,D[k]?=A d:=⟨_,EX (by rw[HN.o];exact E)⟩;have hn:=HI.o.n k v n U;obtain⟨xs,f,hq⟩:=ad.o.2 k v n U;obtain rfl:xs=aI cj k n:=hq;obtain⟨p,c,rfl⟩:=aC f;obtain⟨c1,Q,T,cb⟩:=b9.o;obtain⟨v',ys,ch,L,rfl,_⟩:=cb k _ n E U;obtain⟨g',c',rfl,hT⟩:=aU L (by omega);obtain⟨HD,X,P,HV,ck⟩:=zz5 U f L ((FR _ b0 k _ _ _ ad.o.1).trans (HI.o.b k _ n U)) ((FR _ b1 k _ _ _ Q).trans ch);have cu:(k:Int)<N:=by omega
       have cv:(0:Int)≤n:=by omega
       have cx:(n:Int)≤20000:=by omega
       clear U f L Q T cb ch
       go_wp2
       go_loopw [10] (bJ (n+64) W4) (fun i _=>(n+64)-(intOf i).toNat)
       case atStart=>exact⟨_,0,Z,Fi _,Z,aq.o⟩
       case round =>
        obtain⟨z,i,rfl,kn,rfl,l⟩:=hrel;have cV:(0:Int)≤i:=by omega
        have e1:=(l.cell (p:=⟨b0,k,V⟩) (ES.1 ad.o.1).1).trans HV.o;have cl:=(l.cell (p:=⟨b1,k,V⟩) (World.block_lt_of_cell? _ _ ck.o)).trans ck.o;have bc:=Hd l
        by_cases t:i<n+64
        ·have b3:(i:Int)<(n:Int)+64:=by omega
         have kr:decide ((i:Int)<(n:Int)+64)=true:=decide_eq_true b3;have m0:=ai aS (ab P.o l) ⟨[],(List.append_nil _).symm⟩ t t (m:=0) Z;rw[Nat.add_zero]at m0;have m1:=ai aS (ab P.o l) ⟨[],(List.append_nil _).symm⟩ t t (m:=1) Z;have m2:=ai aS (ab P.o l) ⟨[],(List.append_nil _).symm⟩ t t (m:=2) Z;have m3:=ai aS (ab P.o l) ⟨[],(List.append_nil _).symm⟩ t t (m:=3) Z;have m4:=ai aS (ab P.o l) ⟨[],(List.append_nil _).symm⟩ t t (m:=4) Z;have m5:=ai aS (ab P.o l) ⟨[],(List.append_nil _).symm⟩ t t (m:=5) Z;have m6:=ai aS (ab P.o l) ⟨[],(List.append_nil _).symm⟩ t t (m:=6) Z;have ba:Hid (∀W:p7,r9 r6 125 #[I Y k,I Y i] W fun e w'=>e=tF (s3 #[I J 0,I J 0,I Y 0,p9 ⟨#[]⟩,I Y (mkA k i),I J 0,O V 0 0])∧FS W w'):=fun W=>nh k i W (by omega) (by omega)
         have c6:Hid (∀W:p7,r9 r6 126 #[s3 #[I J 0,I J 0,I Y 0,p9 ⟨#[]⟩,I Y (mkA k i),I J 0,O V 0 0],s3 #[I J 0,I J 0,I Y 0,p9 ⟨#[]⟩,I Y (mkA k i),I J 0,O V 0 0]] W fun e w'=>e=tF (ur true)∧FS W w'):=fun W=>AN k i W (by omega) (by omega)
         have M0:=fun x:Wb z=>x.b m0
         have M1:=fun x:Wb z=>x.b m1
         have M2:=fun x:Wb z=>x.b m2
         have M3:=fun x:Wb z=>x.b m3
         have M4:=fun x:Wb z=>x.b m4
         have M5:=fun x:Wb z=>x.b m5
         have M6:=fun x:Wb z=>x.b m6
         have hz:=fun x:Wb z=>x.b e1
         have V':=fun x:Wb z=>x.b cl
         clear m0 m1 m2 m3 m4 m5 m6
         by_cases y:i<n
         ·have cp:(i:Int)<n:=by omega
          have hU:decide ((i:Int)<(n:Int))=true:=decide_eq_true cp;obtain⟨g,c2,b6,fr⟩:=aU X.o (by omega);injection b6 with h1 h2 h3
          subst h1;clear h2 h3;have m0:=ai aS (ab X.o l) ⟨[],(List.append_nil _).symm⟩ y y (m:=0) Z;rw[Nat.add_zero]at m0;have m1:=ai aS (ab X.o l) ⟨[],(List.append_nil _).symm⟩ y y (m:=1) Z;have m2:=ai aS (ab X.o l) ⟨[],(List.append_nil _).symm⟩ y y (m:=2) Z;have m3:=ai aS (ab X.o l) ⟨[],(List.append_nil _).symm⟩ y y (m:=3) Z;have m4:=ai aS (ab X.o l) ⟨[],(List.append_nil _).symm⟩ y y (m:=4) Z;have m5:=ai aS (ab X.o l) ⟨[],(List.append_nil _).symm⟩ y y (m:=5) Z;have m6:=ai aS (ab X.o l) ⟨[],(List.append_nil _).symm⟩ y y (m:=6) Z;have K0:=fun x:Wb z=>x.b m0
          have K1:=fun x:Wb z=>x.b m1
          have K2:=fun x:Wb z=>x.b m2
          have K3:=fun x:Wb z=>x.b m3
          have K4:=fun x:Wb z=>x.b m4
          have K5:=fun x:Wb z=>x.b m5
          have K6:=fun x:Wb z=>x.b m6
          clear m0 m1 m2 m3 m4 m5 m6 l;go_wp2_with fail
          refine aj (by kernel_rfl) (by kernel_rfl) ?_
          repeat (go_big_quiet_step (first|(go_at_call 125;exact Calls.b (ba.o _))|(go_at_call 126;exact Calls.b (c6.o _))))
          refine vk ?_;intro W7 bd;have F:=aE bd;have ak:=Hd (bc.o.trans (F.mono bc.o.size));clear bd F M0 M1 M2 M3 M4 M5 M6 hz V' K0 K1 K2 K3 K4 K5 K6 e1 cl;go_wp2_with fail
          exact⟨⟨_,i+1,Z,by omega,by go_num,ak.o⟩,by simp[intOf];omega⟩
         ·have cp:¬(i:Int)<n:=by omega
          have hU:decide ((i:Int)<(n:Int))=false:=oB cp;clear l;go_wp2_with fail
          refine aj (by kernel_rfl) (by kernel_rfl) ?_
          repeat (go_big_quiet_step (first|(go_at_call 125;exact Calls.b (ba.o _))|(go_at_call 126;exact Calls.b (c6.o _))))
          refine vk ?_;intro W7 bd;have F:=aE bd;have ak:=Hd (bc.o.trans (F.mono bc.o.size));clear bd F M0 M1 M2 M3 M4 M5 M6 hz V' e1 cl;go_wp2_with fail
          exact⟨⟨_,i+1,Z,by omega,by go_num,ak.o⟩,by simp[intOf];omega⟩
        ·obtain rfl:i=n+64:=by omega
         clear t l;go_wp2_with fail
         exact⟨⟨_,k+1,Z,by omega,by go_num,bc.o⟩,by simp[intOf];omega⟩
      ·obtain rfl:N=k:=by omega
       clear E;have gO:Hid (Fm 51 49 7 B b0 c0 D (qM cj) W5):=⟨(aq.o.block b0 (ES.1 ad.o.1).1).trans ad.o.1,fun j v n h=>(ad.o.2 j v n h).imp fun xs hx=>⟨ab hx.1 aq.o,hx.2⟩⟩;have da:=cW.o.h (Chg.b aq.o);have c3:B≤W5.heap.size:=EZ gm aq.o.size;obtain⟨c1,Q,T,_⟩:=b9.o;have gS:Hid (Gs 51 49 7 B b1 D 0 (fun j n ys=>∃zs,ys=aI cj j n++zs) W5):=⟨c1,(aq.o.block b1 (ES.1 Q).1).trans Q,T,fun j v n h=>absurd h (Nat.not_lt_zero _)⟩;have dc:=Hd da;clear da Q T
       go_wp2
       go_loopw [11] (lN 51 49 7 cj B b0 b1 c0 D w) (fun i _=>N-(intOf i).toNat)
       case atStart=>exact⟨_,0,Z,Fi _,Z,dc.o,c3,gO.o,gS.o⟩
       case round =>
        obtain⟨z,k,rfl,hV,rfl,l,hW,gT,ha⟩:=hrel;rw[HN.o]at hV;have iB:(0:Int)≤k:=by omega
        obtain⟨bt,bc,hc⟩:=zz3 gT l ha;clear gT l ha gO dc gS ad cW b9
        by_cases E:k<N
        ·obtain⟨⟨v,n⟩,U⟩:∃d,D[k]?=A d:=⟨_,EX (by rw[HN.o];exact E)⟩;have hn:=HI.o.n k v n U;obtain⟨xs,f,hq⟩:=bt.o.2 k v n U;obtain rfl:xs=aI cj k n:=hq;obtain⟨p,c,rfl⟩:=aC f;obtain⟨HD,X⟩:=zz2 U f;have cu:(k:Int)<N:=by omega
         have cv:(0:Int)≤n:=by omega
         have cx:(n:Int)≤20000:=by omega
         obtain⟨C6,hf,dd,hh⟩:=Cd z;obtain⟨W7,bb⟩:=zzx (z.alloc (p8 C6 51));have F:FS z W7:=by rw[bb];exact (EU _ _).alloc (ET _) _
         have cr:W7.ownsRow z.heap.size 51 7 (O (A ⟨z.heap.size,0,V⟩) 64 64) 64 C6.toList:=by rw[bb];exact World.ownsRow_lit z C6 64 (ET _) (by unfold maxLen;omega) hf
         obtain⟨ak,hX,hY⟩:=zz3 F cr dd;obtain⟨M,hM⟩:=zzx (z.heap.size);rw[←hM]at hh;have h0:z.heap.size≤M:=by omega
         have hl:=Hd hM;clear U f F cr dd hf hM
         go_wp2
         rw[←bb]
         go_loopw [13] (lY 51 7 z) (fun i _=>64-(intOf i).toNat)
         case atStart=>exact⟨_,0,_,Z,Fi _,Z,ak.o,hX.o,hY.o⟩
         case round =>
          obtain⟨W8,i,xs,rfl,h4,rfl,r,K,bB⟩:=hrel;have cV:(0:Int)≤i:=by omega
          have gF:(i:Int)≤64:=by omega
          rw[←hl.o]at K;obtain⟨av,e2,dg⟩:=zz3 r K bB
          by_cases b:i<64
          ·have b3:(i:Int)<64:=by omega
           have bk:∀W,r9 r6 125 #[I Y ((k:Int)+N),I Y i] W fun e w'=>e=tF (s3 #[I J 0,I J 0,I Y 0,p9 ⟨#[]⟩,I Y (mkA (k+N) i),I J 0,O V 0 0])∧FS W w':=fun W=>by
            have h:=nh (k+N) i W (by omega) (by omega)
            rwa [Int.natCast_add]at h
           have ba:=Hd bk;clear bk r K bB;go_wp2_with fail
           refine (ba.o W8).mono ?_;rintro e W9 ⟨rfl,b5⟩;have G:=ab e2.o b5;have z0:=G.frozenAt (i*7);have z1:=G.frozenAt (i*7+1);have z2:=G.frozenAt (i*7+2);have z3:=G.frozenAt (i*7+3);have z4:=G.frozenAt (i*7+4);have z5:=G.frozenAt (i*7+5);have z6:=G.frozenAt (i*7+6);obtain⟨a0,y0⟩:=am G (i*7) (by omega);obtain⟨a1,y1⟩:=am G (i*7+1) (by omega);obtain⟨a2,y2⟩:=am G (i*7+2) (by omega);obtain⟨a3,y3⟩:=am G (i*7+3) (by omega);obtain⟨a4,y4⟩:=am G (i*7+4) (by omega);obtain⟨a5,y5⟩:=am G (i*7+5) (by omega);obtain⟨a6,y6⟩:=am G (i*7+6) (by omega);have b7:=dV (cj (k+N) i) W9 xs (i*7) G;have dr:=ia (cj (k+N) i) xs (i*7) dg.o (by simp[cj,Value.oneCell']);have b8:FS z W9:=av.o.trans (b5.mono av.o.size);have a8:FS z (di W9 M (i*7) (cj (k+N) i)):=eF _ _ _ _ b8 h0;obtain⟨HS,h5,en⟩:=zz3 b7.1 dr a8;clear b7 dr b8 a8 b5 G;go_wp2_with fail
           refine⟨⟨_,i+1,_,Z,by omega,by go_num,en.o,?_,h5.o⟩,by simp[intOf];omega⟩;rw[←hl.o];exact HS.o
          ·obtain rfl:i=64:=by omega
           clear b;have e3:Gr4 51 49 7 cj B b0 c0 z k n (O p n c) (O p n c) 0 W8:=Gr4.C ⟨bt.o.1,Chg.y _ _,X.o,X.o,tE Z⟩ av.o;have e4:W8.cell? ⟨b0,k,V⟩=A (O p n c):=by rw[FR _ _ _ _ _ _ e3.b0];exact HI.o.b k _ n HD.o
           have c5:B≤W8.heap.size:=EZ hW av.o.size;obtain⟨hp,hr⟩:=zz2 (bc.o.h (Chg.b av.o)) e3;have af:∀j u,xs[j]?=A u→W8.cell? ((⟨M,0,V⟩:Addr).add j)=A u:=e2.o.cells Z;have e0:=Hd af;have ht:xs.length=64*7:=e2.o.1;have h6:=Hd ht;clear r K bB e3 af ht;go_wp2_with (at_builtin;go_must (refine aA _ Z (.tmp 148) (.tmp 149) 49 Z B 51 ti _ 7 80 Tryz.underlying49 e6 e7 e8 e9 Z (by decide) (O p n c) n (aI cj k n) Z hr.o.rv ⟨M,0,V⟩ 64 64 xs Z h6.o e0.o dg.o (by unfold maxLen;omega) (by omega) c5 (by decide) ?_);intro v9 W9 ct b2;obtain⟨q9,ks,rfl,z9,⟨a9,y9⟩,br⟩:=kH (by decide) (by decide) HI.o fT c8 bt.o hc.o HD.o hr.o hp.o c5 ct b2;clear ct b2)
           exact⟨⟨_,k+1,Z,by rw[HN.o];omega,by go_num,br.o.2.2.1,br.o.2.2.2,br.o.1,br.o.2.1⟩,by simp[intOf];omega⟩
        ·obtain rfl:N=k:=by omega
         clear E
         go_wp2
         go_loopw [14] (bJ N z) (fun i _=>N-(intOf i).toNat)
         case atStart=>exact⟨_,0,Z,Fi _,Z,EU _ _⟩
         case round =>
          obtain⟨W7,k,rfl,kv,rfl,F⟩:=hrel;have iX:(0:Int)≤k:=by omega
          have ak:=Hd F;clear F
          by_cases E:k<N
          ·obtain⟨⟨v,n⟩,U⟩:∃d,D[k]?=A d:=⟨_,EX (by rw[HN.o];exact E)⟩;have hn:=HI.o.n k v n U;obtain⟨xs,f,hq⟩:=bt.o.2 k v n U;obtain rfl:xs=aI cj k n:=hq;obtain⟨p,c,rfl⟩:=aC f;obtain⟨c1,Q,T,cb⟩:=hc.o;obtain⟨v',ys,ch,L,hy,_⟩:=cb k _ n E U;obtain⟨g',c',rfl,hT⟩:=aU L (by omega);obtain⟨HD,X,P,bR,HV,ck⟩:=zz6 U f L hy ((FR _ b0 k _ _ _ bt.o.1).trans (HI.o.b k _ n U)) ((FR _ b1 k _ _ _ Q).trans ch);have cu:(k:Int)<N:=by omega
           have cv:(0:Int)≤n:=by omega
           have cx:(n:Int)≤20000:=by omega
           have h7:=(ak.o.cell (p:=⟨b0,k,V⟩) (ES.1 bt.o.1).1).trans HV.o;clear U f L Q T cb ch hy
           go_wp2
           go_loopw [15] (bJ n z) (fun i _=>n-(intOf i).toNat)
           case atStart=>exact⟨_,0,Z,Fi _,Z,ak.o⟩
           case round =>
            obtain⟨W8,i,rfl,h4,rfl,r⟩:=hrel;have cV:(0:Int)≤i:=by omega
            have e4:=(r.cell (p:=⟨b0,k,V⟩) (ES.1 bt.o.1).1).trans HV.o;have ds:=(r.cell (p:=⟨b1,k,V⟩) (World.block_lt_of_cell? _ _ ck.o)).trans ck.o;have av:=Hd r;clear h7
            by_cases b:i<n
            ·have b3:(i:Int)<n:=by omega
             have kI:decide ((i:Int)<(n:Int))=true:=decide_eq_true b3;have m0:=ai aS (ab P.o r) bR.o b (by omega) (m:=0) Z;rw[Nat.add_zero]at m0;have m1:=ai aS (ab P.o r) bR.o b (by omega) (m:=1) Z;have m2:=ai aS (ab P.o r) bR.o b (by omega) (m:=2) Z;have m3:=ai aS (ab P.o r) bR.o b (by omega) (m:=3) Z;have m4:=ai aS (ab P.o r) bR.o b (by omega) (m:=4) Z;have m5:=ai aS (ab P.o r) bR.o b (by omega) (m:=5) Z;have m6:=ai aS (ab P.o r) bR.o b (by omega) (m:=6) Z;have ba:Hid (∀W:p7,r9 r6 125 #[I Y k,I Y i] W fun e w'=>e=tF (s3 #[I J 0,I J 0,I Y 0,p9 ⟨#[]⟩,I Y (mkA k i),I J 0,O V 0 0])∧FS W w'):=fun W=>nh k i W (by omega) (by omega)
             have c6:Hid (∀W:p7,r9 r6 126 #[s3 #[I J 0,I J 0,I Y 0,p9 ⟨#[]⟩,I Y (mkA k i),I J 0,O V 0 0],s3 #[I J 0,I J 0,I Y 0,p9 ⟨#[]⟩,I Y (mkA k i),I J 0,O V 0 0]] W fun e w'=>e=tF (ur true)∧FS W w'):=fun W=>AN k i W (by omega) (by omega)
             have M0:=fun x:Wb W8=>x.b m0
             have M1:=fun x:Wb W8=>x.b m1
             have M2:=fun x:Wb W8=>x.b m2
             have M3:=fun x:Wb W8=>x.b m3
             have M4:=fun x:Wb W8=>x.b m4
             have M5:=fun x:Wb W8=>x.b m5
             have M6:=fun x:Wb W8=>x.b m6
             have hz:=fun x:Wb W8=>x.b e4
             have V':=fun x:Wb W8=>x.b ds
             clear m0 m1 m2 m3 m4 m5 m6;obtain⟨g,c2,b6,fr⟩:=aU X.o (by omega);injection b6 with h1 h2 h3
             subst h1;clear h2 h3;have m0:=ai aS (ab X.o r) ⟨[],(List.append_nil _).symm⟩ b b (m:=0) Z;rw[Nat.add_zero]at m0;have m1:=ai aS (ab X.o r) ⟨[],(List.append_nil _).symm⟩ b b (m:=1) Z;have m2:=ai aS (ab X.o r) ⟨[],(List.append_nil _).symm⟩ b b (m:=2) Z;have m3:=ai aS (ab X.o r) ⟨[],(List.append_nil _).symm⟩ b b (m:=3) Z;have m4:=ai aS (ab X.o r) ⟨[],(List.append_nil _).symm⟩ b b (m:=4) Z;have m5:=ai aS (ab X.o r) ⟨[],(List.append_nil _).symm⟩ b b (m:=5) Z;have m6:=ai aS (ab X.o r) ⟨[],(List.append_nil _).symm⟩ b b (m:=6) Z;have K0:=fun x:Wb W8=>x.b m0
             have K1:=fun x:Wb W8=>x.b m1
             have K2:=fun x:Wb W8=>x.b m2
             have K3:=fun x:Wb W8=>x.b m3
             have K4:=fun x:Wb W8=>x.b m4
             have K5:=fun x:Wb W8=>x.b m5
             have K6:=fun x:Wb W8=>x.b m6
             have h8:i<n+64:=by omega
             have h9:(i:Int)<(n:Int)+64:=by omega
             clear m0 m1 m2 m3 m4 m5 m6 r;go_wp2_with fail
             refine aj (by kernel_rfl) (by kernel_rfl) ?_
             repeat (go_big_quiet_step (first|(go_at_call 125;exact Calls.b (ba.o _))|(go_at_call 126;exact Calls.b (c6.o _))))
             refine vk ?_;intro W9 bd;have b5:=aE bd;have ih:=Hd (av.o.trans (b5.mono av.o.size));clear bd b5 M0 M1 M2 M3 M4 M5 M6 hz V' K0 K1 K2 K3 K4 K5 K6 e4 ds;go_wp2_with fail
             exact⟨⟨_,i+1,Z,by omega,by go_num,ih.o⟩,by simp[intOf];omega⟩
            ·obtain rfl:i=n:=by omega
             clear b r;go_wp2_with fail
             exact⟨⟨_,k+1,Z,by omega,by go_num,av.o⟩,by simp[intOf];omega⟩
          ·obtain rfl:N=k:=by omega
           clear E
           go_wp2
           go_ret;exact⟨Z,bc.o.h (Chg.b ak.o)⟩
theorem vG{w:p7}{B b0 e4:Nat}{c0:Array r3}{D:List (r3×Nat)}(hI:FIn B b0 c0 D)(hF:Fm 56 43 5 B b0 c0 D (fun _ _ _=>True) w)(hB:B≤w.heap.size) :
  r9 r6 67 #[O (A ⟨b0,0,V⟩) D.length e4] w (dZ D w):=by
 obtain⟨N,hN⟩:=zzy (D.length);have hz:N≤100000:=by rw[←hN];exact hI.N
 rw[hN];obtain⟨ti,e5,e6,e7,e8⟩:=info_parts xu;obtain⟨HI,HF,HN⟩:=zz3 hI hF hN;clear hI hF hN
 go_enter Tryz.func67,Tryz.ntmps67
 go_wp2
 go_loopw [3] (nY 56 43 5 dq B b0 c0 D w) (fun i _=>N-(intOf i).toNat)
 case atStart=>exact⟨_,0,Z,Fi _,Z,Chg.y _ _,hB,HF.o.1,fun k v n h=>(HF.o.2 k v n h).imp fun xs h=>⟨h.1,fun h=>absurd h (Nat.not_lt_zero _),fun _=>rfl⟩⟩
 case round =>
  obtain⟨W1,k,rfl,hk,rfl,hb,hs,hm⟩:=hrel;rw[HN.o]at hk;have jj:(0:Int)≤k:=by omega
  have j2:(N:Int)≤100000:=by omega
  obtain⟨HM,HB⟩:=zz2 hm hb;clear hm hb
  by_cases t:k<N
  ·obtain⟨⟨v,n⟩,P⟩:∃d,D[k]?=A d:=⟨_,EX (by rw[HN.o];exact t)⟩;have hn:=HI.o.n k v n P;have HD:=Hd P;have ct:(k:Int)<N:=by omega
   have cu:(0:Int)≤n:=by omega
   have cv:(n:Int)≤20000:=by omega
   clear P
   go_wp2
   go_loopw [4] (gJ 56 43 5 dq B b0 c0 D w k n) (fun i _=>n-(intOf i).toNat)
   case atStart=>exact⟨_,0,Z,Fi _,Z,HB.o,hs,HM.o⟩
   case round =>
    obtain⟨W2,i,rfl,hi,rfl,e9,fe,cx⟩:=hrel;have cT:(0:Int)≤i:=by omega
    obtain⟨xs,b,hq⟩:=cx.2 k v n HD.o;obtain⟨p,c,rfl⟩:=aC b;have hv:W2.cell? ⟨b0,k,V⟩=A (O p n c):=by rw[FR _ _ _ _ _ _ cx.1];exact HI.o.b k _ n HD.o
    obtain⟨ds,fm,T,HQ⟩:=zz4 cx e9 b hq;clear cx e9 b hq
    by_cases c5:i<n
    ·have bR:(i:Int)<n:=by omega
     obtain⟨g,c',b4,fp⟩:=aU T.o (by omega);injection b4 with h1 h2 h3
     subst h1;clear h2 h3;have hD:i*5+5≤xs.length:=by rw[T.o.1];omega
     have HV:=fun x:Wb W2=>x.b hv
     have hE:k≤1000000:=by omega
     have hG:i≤1000000:=by omega
     go_wp2
     refine RE.t (by kernel_rfl) 9 [7] [7] (fun _ W=>∃x:Wb W2,W=x.1) (fun _ _=>True) (fun _ _=>s3 #[I J 0,I Y (mkA k i),I J 0,I Y 0,p9 ⟨#[]⟩]) (fun _ _ _=>True) (by kernel_rfl) (fun i h1 h2=>by rw[h1]at h2;cases h2) (fun _ _ _ _ _ _ _=>trivial) ⟨⟨W2.drew,(EU _ _).drew⟩,Z⟩ ?_;simp only[Fg,Fu,Fh,Ft];have fr:∀(n s:Nat) (W:p7),s≤n→(∃x:Wb W2,W=x.1)→∃x:Wb W2,W=x.1:=fun _ _ _ _ h=>h
     have fv:=Hd fr;clear fr
     repeat (refine RE.h (fun W=>∃x:Wb W2,W=x.1) (fv.o _) Z Z Z ⟨⟨W2.drew,(EU _ _).drew⟩,Z⟩ ?_;go_big_quiet_step (fail);refine vk ?_)
     refine RE.b Z Z ?_ (fun ka=>?_)
     ·intro W _ hS _;obtain⟨x,rfl⟩:=hS Z;refine RE.u 127 _ _ Z (enters_of Tryz.func127 (by kernel_rfl) Z) #[I Y k,I Y i] (by simp[Act.eval]) ((qK k i x.1 hE hG).mono ?_);rintro e W' ⟨rfl,hH⟩;exact⟨_,Z,[],Z,⟨⟨W',x.2.trans (hH.mono x.2.size)⟩,Z⟩,trivial,trivial⟩
     simp only[Act.put,EV,Fe,Fc]
     repeat (refine RE.h (fun W=>∃x:Wb W2,W=x.1) (fv.o _) Z Z Z ⟨⟨W2.drew,(EU _ _).drew⟩,Z⟩ ?_;go_big_quiet_step (fail);refine vk ?_)
     refine RE.q ?_;rintro W3 ⟨⟨W3,a7⟩,rfl⟩ _;have b5:=gJ.step (by decide) bL HI.o HD.o c5 ds.o a7;have U:=ab T.o a7;have z0:=U.frozenAt (i*5);have z1:=U.frozenAt (i*5+1);have z2:=U.frozenAt (i*5+2);have z3:=U.frozenAt (i*5+3);have z4:=U.frozenAt (i*5+4);obtain⟨a0,y0⟩:=am U (i*5) (by omega);obtain⟨a1,y1⟩:=am U (i*5+1) (by omega);obtain⟨a2,y2⟩:=am U (i*5+2) (by omega);obtain⟨a3,y3⟩:=am U (i*5+3) (by omega);obtain⟨a4,y4⟩:=am U (i*5+4) (by omega);have HS:=Hd b5;have b6:Chg (Dg D) w W3:=fm.o.h (Chg.b a7);have hJ:Dg D g∨w.heap.size≤g:=tE ⟨k,_,n,HD.o,Z⟩;have a8:Chg (Dg D) w (di W3 g (i*5) (dq k i)):=fy _ _ _ _ b6 hJ;have dv:B≤W3.heap.size:=EZ fe a7.size;have eg:=Hd a8;clear b5 U b6 a8 a7 HV hD
     go_wp2
     refine⟨⟨_,i+1,Z,by omega,by go_num,eg.o,?_,HS.o⟩,by simp[intOf];omega⟩
     simpa [xD]using dv
    ·obtain rfl:i=n:=by omega
     clear c5
     go_wp2
     refine⟨⟨_,k+1,Z,by rw[HN.o];omega,by go_num,fm.o,fe,ds.o.1,fun j u m hj=>?_⟩,by simp[intOf];omega⟩;obtain⟨ys,ho,hq⟩:=ds.o.2 j u m hj;refine⟨ys,ho,fun h=>?_,fun _=>rfl⟩
     by_cases hK:j=k
     ·subst hK;have hL:m=i:=by have:=HD.o;rw[hj]at this;simp only[oF,o6]at this;exact this.2
      subst hL;have:=hq.2 Z
      rwa [Fq (by rw[ho.1];exact ET _)]at this
     ·exact hq.1 (by omega)
  ·obtain rfl:N=k:=by omega
   clear t;obtain⟨C,hC,bd⟩:=ie (R:=113) (S:=43) Tryz.underlying113 (by kernel_rfl) N hz W1;obtain⟨W3,b2⟩:=zzx (W1.alloc (p8 C 43));have fz:Fm 56 43 5 B b0 c0 D (fun j n xs=>xs=aI dq j n) W3:=by
    rw[b2];refine⟨(heap_alloc_old W1 _ (ES.1 HM.o.1).1).trans HM.o.1,fun j v n hj=>?_⟩;obtain⟨xs,ho,hq⟩:=HM.o.2 j v n hj;exact⟨xs,ho.alloc _,hq.1 (by have:=(Fo.1 hj).1;rw[HN.o]at this;exact this)⟩
   have a7:Chg (Dg D) w W3:=by rw[b2];exact HB.o.h (Chg.b ((EU _ W1).alloc (ET _) _))
   have dv:B≤W3.heap.size:=by rw[b2];simp;omega
   have en:W3.heap[W1.heap.size]?=A (p8 C 43 (0,0)):=by rw[b2];exact ot W1 _
   obtain⟨b1,bk⟩:=zzy (W1.heap.size);have c6:w.heap.size≤b1:=by rw[←bk];exact HB.o.u
   have fI:b0≠b1:=by have:=(ES.1 HM.o.1).1;omega
   rw[bk]at bd en;obtain⟨fT,ga,gb,HC⟩:=zz4 fz a7 en hC;clear fz a7 en hC bk
   go_wp2
   rw[←b2];clear b2
   go_loopw [6] (od 56 43 5 dq B b0 b1 c0 D w) (fun i _=>N-(intOf i).toNat)
   case atStart=>exact⟨_,0,Z,Fi _,Z,ga.o,dv,fT.o,C,gb.o,HC.o.trans HN.o.symm,fun j v n h=>absurd h (Nat.not_lt_zero _)⟩
   case round =>
    obtain⟨W4,k,rfl,hO,rfl,gf,gg,gm,gD⟩:=hrel;rw[HN.o]at hO;have ix:(0:Int)≤k:=by omega
    obtain⟨X,cV,b7⟩:=zz3 gm gf gD;clear gm gf gD fT ga gb HM HB HF
    by_cases t:k<N
    ·obtain⟨⟨v,n⟩,P⟩:∃d,D[k]?=A d:=⟨_,EX (by rw[HN.o];exact t)⟩;have hn:=HI.o.n k v n P;obtain⟨xs,b,hq⟩:=X.o.2 k v n P;obtain rfl:xs=aI dq k n:=hq;obtain⟨p,c,rfl⟩:=aC b;have hv:W4.cell? ⟨b0,k,V⟩=A (O p n c):=by rw[FR _ _ _ _ _ _ X.o.1];exact HI.o.b k _ n P
     obtain⟨HD,T⟩:=zz2 P b;have ct:(k:Int)<N:=by omega
     have cu:(0:Int)≤n:=by omega
     have cv:(n:Int)≤20000:=by omega
     clear P b
     go_wp2
     go_loopw [7,8] (nV 56 43 5 dq B b0 c0 D w W4 k n (O p n c)) (fun _ i _=>64-(intOf i).toNat)
     case atStart=>exact⟨_,0,Z,Fi _,Z,cV.o,gg,X.o.1,Chg.y _ _,T.o,T.o,tE Z⟩
     case round =>
      obtain⟨W5,i,rfl,hi,rfl,b8,cW,eo⟩:=hrel;have cT:(0:Int)≤i:=by omega
      have gE:(i:Int)≤64:=by omega
      obtain⟨ar,bl⟩:=zz2 b8 eo;have kc:W5.cell? ⟨b0,k,V⟩=A (O p n c):=by rw[FR _ _ _ _ _ _ eo.b0];exact HI.o.b k _ n HD.o
      clear b8 eo hv
      by_cases gF:i<64
      ·have bR:(i:Int)<64:=by omega
       have bd:∀W,r9 r6 127 #[I Y k,I Y ((n:Int)+i)] W fun e w'=>e=tF (s3 #[I J 0,I Y (mkA k (n+i)),I J 0,I Y 0,p9 ⟨#[]⟩])∧FS W w':=fun W=>by
        have h:=qK k (n+i) W (by omega) (by omega)
        rwa [Int.natCast_add]at h
       have ad:=Hd bd;clear bd;go_wp2_with fail
       refine (ad.o W5).mono ?_;rintro e z ⟨rfl,l⟩;obtain⟨W7,ba⟩:=zzx (z.alloc (p8 (dq k (n+i)).toArray 56));have E:FS W5 W7:=by rw[ba];exact l.alloc l.size _
       have gH:=bl.o.C E;have af:∀j u,(dq k (n+i))[j]?=A u→W7.cell? ((⟨z.heap.size,0,V⟩:Addr).add j)=A u:=by rw[ba];exact dp z _ _
       have er:B≤W7.heap.size:=EZ cW E.size;have c7:z.alloc (p8 #[I J 0,I Y (mkA k (n+i)),I J 0,I Y 0,p9 ⟨#[]⟩] 56)=W7:=ba.symm;obtain⟨et,ev,ak,hP⟩:=zz4 gH af (ar.o.h (Chg.b E)) c7;clear l E gH af ba c7;go_wp2_with (at_builtin;go_must (rw[hP.o];refine aA _ Z (.tmp 57) (.tmp 67) 43 Z B 56 ti _ 5 48 Tryz.underlying43 e5 e6 e7 e8 Z (by decide) u7 (n+i) (aI dq k (n+i)) Z et.o.ri ⟨z.heap.size,0,V⟩ 1 1 (dq k (n+i)) Z Z ev.o (by simp[Value.oneCell',dq]) (by unfold maxLen;omega) (by omega) er (by decide) ?_);intro v8 W8 G av)
       have bn:=Gr4.h (by decide) (by decide) et.o G av
       have r:=gk ak.o (fun g hg=>by
        rcases et.o.or with h|⟨g',h,h2⟩
        ·exact tE ⟨k,_,n,HD.o,h.symm.trans hg⟩
        ·rw[hg]at h;injection h with h;have:=cV.o.u;exact tS (by omega)) av
       have c3:B≤W8.heap.size:=by
        rcases av with ⟨_,_,_,_,h⟩|⟨_,_,h⟩
        ·exact EZ er h.size
        ·exact EZ er h.size
       refine⟨⟨W8,i+1,Z,by omega,by go_num,r,c3,⟨bn.1,bn.2.1,?_,bn.2.2.1,bn.2.2.2⟩⟩,by simp[intOf];omega⟩;rw[←Nat.add_assoc,dR];exact G
      ·obtain rfl:i=64:=by omega
       clear gF;obtain⟨q,cq,rfl⟩:=aC bl.o.ri;obtain⟨c1,K,L,_⟩:=b7.o;have gL:(O p n c).ownBlock≠A b1:=eA (by decide) T.o K;have bk:W5.heap[b1]?=A (p8 c1 43 (0,0)):=(bl.o.chg.q b1 (ES.1 K).1 gL).trans K;have z0:=ae bk k;obtain⟨a0,y0⟩:∃a,W5.cell? ⟨b1,k,V⟩=A a:=⟨_,(FR _ _ _ _ _ _ bk).trans (Array.getElem?_eq_getElem (by rw[L,HN.o];exact t))⟩;have bn:=jc (mk:=dq) (by decide) (k:=k) (q:=fun j n ys=>ys=aI dq j (n+64)) HI.o fI X.o b7.o HD.o bl.o.chg bl.o.rv bl.o.ri Z bl.o.or;have gM:=ar.o.t (p:=⟨b1,k,V⟩) (tS c6) (O q (n+64) cq);have hQ:B≤(W5.setCell ⟨b1,k,V⟩ (O q (n+64) cq)).heap.size:=by simpa [xD]using cW
       obtain⟨bq,hR⟩:=zz2 bn gM;clear bn gM K gL bk L;go_wp2_with fail
       exact⟨⟨_,k+1,Z,by rw[HN.o];omega,by go_num,hR.o,hQ,bq.o.1,bq.o.2⟩,by simp[intOf];omega⟩
    ·obtain rfl:N=k:=by omega
     clear t
     go_wp2
     go_loopw [9] (bJ N W4) (fun i _=>N-(intOf i).toNat)
     case atStart=>exact⟨_,0,Z,Fi _,Z,EU _ _⟩
     case round =>
      obtain⟨W5,k,rfl,kk,rfl,b8⟩:=hrel;have iA:(0:Int)≤k:=by omega
      have ar:=Hd b8;clear b8
      by_cases t:k<N
      ·obtain⟨⟨v,n⟩,P⟩:∃d,D[k]?=A d:=⟨_,EX (by rw[HN.o];exact t)⟩;have hn:=HI.o.n k v n P;obtain⟨xs,b,hq⟩:=X.o.2 k v n P;obtain rfl:xs=aI dq k n:=hq;obtain⟨p,c,rfl⟩:=aC b;obtain⟨c1,K,L,b9⟩:=b7.o;obtain⟨v',ys,ca,H,rfl,_⟩:=b9 k _ n t P;obtain⟨g',c',rfl,hT⟩:=aU H (by omega);obtain⟨HD,T,aq,HV,cb⟩:=zz5 P b H ((FR _ b0 k _ _ _ X.o.1).trans (HI.o.b k _ n P)) ((FR _ b1 k _ _ _ K).trans ca);have ct:(k:Int)<N:=by omega
       have cu:(0:Int)≤n:=by omega
       have cv:(n:Int)≤20000:=by omega
       clear P b H K L b9 ca
       go_wp2
       go_loopw [10] (bJ (n+64) W4) (fun i _=>(n+64)-(intOf i).toNat)
       case atStart=>exact⟨_,0,Z,Fi _,Z,ar.o⟩
       case round =>
        obtain⟨z,i,rfl,kn,rfl,l⟩:=hrel;have cT:(0:Int)≤i:=by omega
        have e0:=(l.cell (p:=⟨b0,k,V⟩) (ES.1 X.o.1).1).trans HV.o;have ch:=(l.cell (p:=⟨b1,k,V⟩) (World.block_lt_of_cell? _ _ cb.o)).trans cb.o;have bb:=Hd l
        by_cases y:i<n+64
        ·have bR:(i:Int)<(n:Int)+64:=by omega
         have kr:decide ((i:Int)<(n:Int)+64)=true:=decide_eq_true bR;have m0:=ai bL (ab aq.o l) ⟨[],(List.append_nil _).symm⟩ y y (m:=0) Z;rw[Nat.add_zero]at m0;have m1:=ai bL (ab aq.o l) ⟨[],(List.append_nil _).symm⟩ y y (m:=1) Z;have m2:=ai bL (ab aq.o l) ⟨[],(List.append_nil _).symm⟩ y y (m:=2) Z;have m3:=ai bL (ab aq.o l) ⟨[],(List.append_nil _).symm⟩ y y (m:=3) Z;have m4:=ai bL (ab aq.o l) ⟨[],(List.append_nil _).symm⟩ y y (m:=4) Z;have ad:Hid (∀W:p7,r9 r6 127 #[I Y k,I Y i] W fun e w'=>e=tF (s3 #[I J 0,I Y (mkA k i),I J 0,I Y 0,p9 ⟨#[]⟩])∧FS W w'):=fun W=>qK k i W (by omega) (by omega)
         have M0:=fun x:Wb z=>x.b m0
         have M1:=fun x:Wb z=>x.b m1
         have M2:=fun x:Wb z=>x.b m2
         have M3:=fun x:Wb z=>x.b m3
         have M4:=fun x:Wb z=>x.b m4
         have hy:=fun x:Wb z=>x.b e0
         have V':=fun x:Wb z=>x.b ch
         clear m0 m1 m2 m3 m4
         by_cases F:i<n
         ·have ck:(i:Int)<n:=by omega
          have hU:decide ((i:Int)<(n:Int))=true:=decide_eq_true ck;obtain⟨g,c2,b4,fp⟩:=aU T.o (by omega);injection b4 with h1 h2 h3
          subst h1;clear h2 h3;have m0:=ai bL (ab T.o l) ⟨[],(List.append_nil _).symm⟩ F F (m:=0) Z;rw[Nat.add_zero]at m0;have m1:=ai bL (ab T.o l) ⟨[],(List.append_nil _).symm⟩ F F (m:=1) Z;have m2:=ai bL (ab T.o l) ⟨[],(List.append_nil _).symm⟩ F F (m:=2) Z;have m3:=ai bL (ab T.o l) ⟨[],(List.append_nil _).symm⟩ F F (m:=3) Z;have m4:=ai bL (ab T.o l) ⟨[],(List.append_nil _).symm⟩ F F (m:=4) Z;have K0:=fun x:Wb z=>x.b m0
          have K1:=fun x:Wb z=>x.b m1
          have K2:=fun x:Wb z=>x.b m2
          have K3:=fun x:Wb z=>x.b m3
          have K4:=fun x:Wb z=>x.b m4
          clear m0 m1 m2 m3 m4 l;obtain⟨c8,hA⟩:=zzx (mkA k i);rw[←hA]at ad M1 K1;clear hA;go_wp2_with fail
          refine aj (by kernel_rfl) (by kernel_rfl) ?_
          repeat (go_big_quiet_step (first|(go_at_call 127;exact Calls.b (ad.o _))))
          refine vk ?_;intro W7 bc;have E:=aE bc;have ak:=Hd (bb.o.trans (E.mono bb.o.size));clear bc E M0 M1 M2 M3 M4 hy V' K0 K1 K2 K3 K4 e0 ch;go_wp2_with fail
          exact⟨⟨_,i+1,Z,by omega,by go_num,ak.o⟩,by simp[intOf];omega⟩
         ·have ck:¬(i:Int)<n:=by omega
          have hU:decide ((i:Int)<(n:Int))=false:=oB ck;clear l;obtain⟨c8,hA⟩:=zzx (mkA k i);rw[←hA]at ad M1;clear hA;go_wp2_with fail
          refine aj (by kernel_rfl) (by kernel_rfl) ?_
          repeat (go_big_quiet_step (first|(go_at_call 127;exact Calls.b (ad.o _))))
          refine vk ?_;intro W7 bc;have E:=aE bc;have ak:=Hd (bb.o.trans (E.mono bb.o.size));clear bc E M0 M1 M2 M3 M4 hy V' e0 ch;go_wp2_with fail
          exact⟨⟨_,i+1,Z,by omega,by go_num,ak.o⟩,by simp[intOf];omega⟩
        ·obtain rfl:i=n+64:=by omega
         clear y l;go_wp2_with fail
         exact⟨⟨_,k+1,Z,by omega,by go_num,bb.o⟩,by simp[intOf];omega⟩
      ·obtain rfl:N=k:=by omega
       clear t;have gN:Hid (Fm 56 43 5 B b0 c0 D (qM dq) W5):=⟨(ar.o.block b0 (ES.1 X.o.1).1).trans X.o.1,fun j v n h=>(X.o.2 j v n h).imp fun xs hx=>⟨ab hx.1 ar.o,hx.2⟩⟩;have c9:=cV.o.h (Chg.b ar.o);have cW:B≤W5.heap.size:=EZ gg ar.o.size;obtain⟨c1,K,L,_⟩:=b7.o;have gO:Hid (Gs 56 43 5 B b1 D 0 (fun j n ys=>∃zs,ys=aI dq j n++zs) W5):=⟨c1,(ar.o.block b1 (ES.1 K).1).trans K,L,fun j v n h=>absurd h (Nat.not_lt_zero _)⟩;have da:=Hd c9;clear c9 K L
       go_wp2
       go_loopw [11] (lN 56 43 5 dq B b0 b1 c0 D w) (fun i _=>N-(intOf i).toNat)
       case atStart=>exact⟨_,0,Z,Fi _,Z,da.o,cW,gN.o,gO.o⟩
       case round =>
        obtain⟨z,k,rfl,hV,rfl,l,hW,gS,gT⟩:=hrel;rw[HN.o]at hV;have iB:(0:Int)≤k:=by omega
        obtain⟨br,bb,ha⟩:=zz3 gS l gT;clear gS l gT gN da gO X cV b7
        by_cases t:k<N
        ·obtain⟨⟨v,n⟩,P⟩:∃d,D[k]?=A d:=⟨_,EX (by rw[HN.o];exact t)⟩;have hn:=HI.o.n k v n P;obtain⟨xs,b,hq⟩:=br.o.2 k v n P;obtain rfl:xs=aI dq k n:=hq;obtain⟨p,c,rfl⟩:=aC b;obtain⟨HD,T⟩:=zz2 P b;have ct:(k:Int)<N:=by omega
         have cu:(0:Int)≤n:=by omega
         have cv:(n:Int)≤20000:=by omega
         obtain⟨C6,hc,dc,hf⟩:=Dt z;obtain⟨W7,ba⟩:=zzx (z.alloc (p8 C6 56));have E:FS z W7:=by rw[ba];exact (EU _ _).alloc (ET _) _
         have cl:W7.ownsRow z.heap.size 56 5 (O (A ⟨z.heap.size,0,V⟩) 64 64) 64 C6.toList:=by rw[ba];exact World.ownsRow_lit z C6 64 (ET _) (by unfold maxLen;omega) hc
         obtain⟨ak,hX,hY⟩:=zz3 E cl dc;obtain⟨M,hM⟩:=zzx (z.heap.size);rw[←hM]at hf;have h0:z.heap.size≤M:=by omega
         have hh:=Hd hM;clear P b E cl dc hc hM
         go_wp2
         rw[←ba]
         go_loopw [13] (lY 56 5 z) (fun i _=>64-(intOf i).toNat)
         case atStart=>exact⟨_,0,_,Z,Fi _,Z,ak.o,hX.o,hY.o⟩
         case round =>
          obtain⟨W8,i,xs,rfl,h4,rfl,r,G,bt⟩:=hrel;have cT:(0:Int)≤i:=by omega
          have gE:(i:Int)≤64:=by omega
          rw[←hh.o]at G;obtain⟨a6,e1,dd⟩:=zz3 r G bt
          by_cases f:i<64
          ·have bR:(i:Int)<64:=by omega
           have bd:∀W,r9 r6 127 #[I Y ((k:Int)+N),I Y i] W fun e w'=>e=tF (s3 #[I J 0,I Y (mkA (k+N) i),I J 0,I Y 0,p9 ⟨#[]⟩])∧FS W w':=fun W=>by
            have h:=qK (k+N) i W (by omega) (by omega)
            rwa [Int.natCast_add]at h
           have ad:=Hd bd;clear bd r G bt;go_wp2_with fail
           refine (ad.o W8).mono ?_;rintro e W9 ⟨rfl,b3⟩;have Q:=ab e1.o b3;have z0:=Q.frozenAt (i*5);have z1:=Q.frozenAt (i*5+1);have z2:=Q.frozenAt (i*5+2);have z3:=Q.frozenAt (i*5+3);have z4:=Q.frozenAt (i*5+4);obtain⟨a0,y0⟩:=am Q (i*5) (by omega);obtain⟨a1,y1⟩:=am Q (i*5+1) (by omega);obtain⟨a2,y2⟩:=am Q (i*5+2) (by omega);obtain⟨a3,y3⟩:=am Q (i*5+3) (by omega);obtain⟨a4,y4⟩:=am Q (i*5+4) (by omega);have b5:=dV (dq (k+N) i) W9 xs (i*5) Q;have dg:=ia (dq (k+N) i) xs (i*5) dd.o (by simp[dq,Value.oneCell']);have b6:FS z W9:=a6.o.trans (b3.mono a6.o.size);have a8:FS z (di W9 M (i*5) (dq (k+N) i)):=eF _ _ _ _ b6 h0;obtain⟨HS,h5,eg⟩:=zz3 b5.1 dg a8;clear b5 dg b6 a8 b3 Q;go_wp2_with fail
           refine⟨⟨_,i+1,_,Z,by omega,by go_num,eg.o,?_,h5.o⟩,by simp[intOf];omega⟩;rw[←hh.o];exact HS.o
          ·obtain rfl:i=64:=by omega
           clear f;have e2:Gr4 56 43 5 dq B b0 c0 z k n (O p n c) (O p n c) 0 W8:=Gr4.C ⟨br.o.1,Chg.y _ _,T.o,T.o,tE Z⟩ a6.o;have e3:W8.cell? ⟨b0,k,V⟩=A (O p n c):=by rw[FR _ _ _ _ _ _ e2.b0];exact HI.o.b k _ n HD.o
           have c3:B≤W8.heap.size:=EZ hW a6.o.size;obtain⟨hl,hp⟩:=zz2 (bb.o.h (Chg.b a6.o)) e2;have af:∀j u,xs[j]?=A u→W8.cell? ((⟨M,0,V⟩:Addr).add j)=A u:=e1.o.cells Z;have ev:=Hd af;have hr:xs.length=64*5:=e1.o.1;have h6:=Hd hr;clear r G bt e2 af hr;go_wp2_with (at_builtin;go_must (refine aA _ Z (.tmp 148) (.tmp 149) 43 Z B 56 ti _ 5 48 Tryz.underlying43 e5 e6 e7 e8 Z (by decide) (O p n c) n (aI dq k n) Z hp.o.rv ⟨M,0,V⟩ 64 64 xs Z h6.o ev.o dd.o (by unfold maxLen;omega) (by omega) c3 (by decide) ?_);intro v9 W9 cp bB;obtain⟨q9,ks,rfl,z9,⟨a9,y9⟩,bq⟩:=kH (by decide) (by decide) HI.o fI c6 br.o ha.o HD.o hp.o hl.o c3 cp bB;clear cp bB)
           exact⟨⟨_,k+1,Z,by rw[HN.o];omega,by go_num,bq.o.2.2.1,bq.o.2.2.2,bq.o.1,bq.o.2.1⟩,by simp[intOf];omega⟩
        ·obtain rfl:N=k:=by omega
         clear t
         go_wp2
         go_loopw [14] (bJ N z) (fun i _=>N-(intOf i).toNat)
         case atStart=>exact⟨_,0,Z,Fi _,Z,EU _ _⟩
         case round =>
          obtain⟨W7,k,rfl,kv,rfl,E⟩:=hrel;have iX:(0:Int)≤k:=by omega
          have ak:=Hd E;clear E
          by_cases t:k<N
          ·obtain⟨⟨v,n⟩,P⟩:∃d,D[k]?=A d:=⟨_,EX (by rw[HN.o];exact t)⟩;have hn:=HI.o.n k v n P;obtain⟨xs,b,hq⟩:=br.o.2 k v n P;obtain rfl:xs=aI dq k n:=hq;obtain⟨p,c,rfl⟩:=aC b;obtain⟨c1,K,L,b9⟩:=ha.o;obtain⟨v',ys,ca,H,ht,_⟩:=b9 k _ n t P;obtain⟨g',c',rfl,hT⟩:=aU H (by omega);obtain⟨HD,T,aq,cr,HV,cb⟩:=zz6 P b H ht ((FR _ b0 k _ _ _ br.o.1).trans (HI.o.b k _ n P)) ((FR _ b1 k _ _ _ K).trans ca);have ct:(k:Int)<N:=by omega
           have cu:(0:Int)≤n:=by omega
           have cv:(n:Int)≤20000:=by omega
           have h7:=(ak.o.cell (p:=⟨b0,k,V⟩) (ES.1 br.o.1).1).trans HV.o;clear P b H K L b9 ca ht
           go_wp2
           go_loopw [15] (bJ n z) (fun i _=>n-(intOf i).toNat)
           case atStart=>exact⟨_,0,Z,Fi _,Z,ak.o⟩
           case round =>
            obtain⟨W8,i,rfl,h4,rfl,r⟩:=hrel;have cT:(0:Int)≤i:=by omega
            have e3:=(r.cell (p:=⟨b0,k,V⟩) (ES.1 br.o.1).1).trans HV.o;have dr:=(r.cell (p:=⟨b1,k,V⟩) (World.block_lt_of_cell? _ _ cb.o)).trans cb.o;have a6:=Hd r;clear h7
            by_cases f:i<n
            ·have bR:(i:Int)<n:=by omega
             have kI:decide ((i:Int)<(n:Int))=true:=decide_eq_true bR;have m0:=ai bL (ab aq.o r) cr.o f (by omega) (m:=0) Z;rw[Nat.add_zero]at m0;have m1:=ai bL (ab aq.o r) cr.o f (by omega) (m:=1) Z;have m2:=ai bL (ab aq.o r) cr.o f (by omega) (m:=2) Z;have m3:=ai bL (ab aq.o r) cr.o f (by omega) (m:=3) Z;have m4:=ai bL (ab aq.o r) cr.o f (by omega) (m:=4) Z;have ad:Hid (∀W:p7,r9 r6 127 #[I Y k,I Y i] W fun e w'=>e=tF (s3 #[I J 0,I Y (mkA k i),I J 0,I Y 0,p9 ⟨#[]⟩])∧FS W w'):=fun W=>qK k i W (by omega) (by omega)
             have M0:=fun x:Wb W8=>x.b m0
             have M1:=fun x:Wb W8=>x.b m1
             have M2:=fun x:Wb W8=>x.b m2
             have M3:=fun x:Wb W8=>x.b m3
             have M4:=fun x:Wb W8=>x.b m4
             have hy:=fun x:Wb W8=>x.b e3
             have V':=fun x:Wb W8=>x.b dr
             clear m0 m1 m2 m3 m4;obtain⟨g,c2,b4,fp⟩:=aU T.o (by omega);injection b4 with h1 h2 h3
             subst h1;clear h2 h3;have m0:=ai bL (ab T.o r) ⟨[],(List.append_nil _).symm⟩ f f (m:=0) Z;rw[Nat.add_zero]at m0;have m1:=ai bL (ab T.o r) ⟨[],(List.append_nil _).symm⟩ f f (m:=1) Z;have m2:=ai bL (ab T.o r) ⟨[],(List.append_nil _).symm⟩ f f (m:=2) Z;have m3:=ai bL (ab T.o r) ⟨[],(List.append_nil _).symm⟩ f f (m:=3) Z;have m4:=ai bL (ab T.o r) ⟨[],(List.append_nil _).symm⟩ f f (m:=4) Z;have K0:=fun x:Wb W8=>x.b m0
             have K1:=fun x:Wb W8=>x.b m1
             have K2:=fun x:Wb W8=>x.b m2
             have K3:=fun x:Wb W8=>x.b m3
             have K4:=fun x:Wb W8=>x.b m4
             have h8:i<n+64:=by omega
             have h9:(i:Int)<(n:Int)+64:=by omega
             clear m0 m1 m2 m3 m4 r;obtain⟨c8,hA⟩:=zzx (mkA k i);rw[←hA]at ad M1 K1;clear hA;go_wp2_with fail
             refine aj (by kernel_rfl) (by kernel_rfl) ?_
             repeat (go_big_quiet_step (first|(go_at_call 127;exact Calls.b (ad.o _))))
             refine vk ?_;intro W9 bc;have b3:=aE bc;have ih:=Hd (a6.o.trans (b3.mono a6.o.size));clear bc b3 M0 M1 M2 M3 M4 hy V' K0 K1 K2 K3 K4 e3 dr;go_wp2_with fail
             exact⟨⟨_,i+1,Z,by omega,by go_num,ih.o⟩,by simp[intOf];omega⟩
            ·obtain rfl:i=n:=by omega
             clear f r;go_wp2_with fail
             exact⟨⟨_,k+1,Z,by omega,by go_num,a6.o⟩,by simp[intOf];omega⟩
          ·obtain rfl:N=k:=by omega
           clear t
           go_wp2
           go_ret;exact⟨Z,bb.o.h (Chg.b ak.o)⟩
