/- Machines put as bytes; by contract. Condition: image.Right by contract; at most 140737488355328 bytes. -/
import Derived.Test.YtoahnjkclckodaaGreatDoorIJ
open Go renaming World→J,Value→tT,undef→wF,wpQuiet_nil→xL
open Go.Value renaming int→I,agg→xk,tuple→y9,string→tS,slice→O,pointer→vv
open Go.IntKind renaming i64→U
open Go.Ending renaming returned→wj
open Option renaming some→A,none→Y
open Go.Obj renaming cells→r9
open Or renaming inl→wD,inr→wP
open Go.Act renaming put→xS
namespace Go.Proofs.YtoahnjkclckodaaGreatDoor
set_option maxHeartbeats 4000000
set_option maxRecDepth 100000
open Go.RowKit
def gI(okF:aQ→Bool) (m:aQ):List UInt8×Int:=if okF m then (dW m,0) else ([],4)
def yT{α:Type} (W0:J) (B b:Nat) (a:List α) (f:α→List UInt8) (l:List UInt8) (i:tT) (W:J):Prop:=
 ∃(c:J) (k:Nat),c=W∧i=I U k∧k≤a.length∧dF W0 B b (l++(a.take k).flatMap f) c
theorem lA{okF:aQ→Bool}{m:aQ}{vs:List tT}{W:J}(hm:bG.at_ W (fun b=>b<W.heap.size) m vs)(cm:szM m≤140737488355328)
  (hq:∀(V:J) (m:aQ) (vs:List tT),Gl W V→bG.at_ V (fun b=>b<V.heap.size) m vs→szM m≤140737488355328→Calls Tryz.prog 8 #[xk vs.toArray] V (fun e W2=>e=wj (Value.bool (okF m))∧Gl V W2)) :
  Calls Tryz.prog 7 #[xk vs.toArray] W fun e W'=>Gl W W'∧∃v,e=wj (y9 #[v,I U (gI okF m).2])∧Lib.HoldsBytes W' v (gI okF m).1∧∀g,v.ownBlock=A g→W.heap.size≤g∧g<W'.heap.size:=by
 obtain⟨ht,aq,ft,sf,st,ss,rfl,dg,dn,cn⟩:=eY.1 hm;obtain⟨pf,cf,hv⟩:=Rd.q dg;obtain⟨pt,ct,hy⟩:=Rd.q dn;obtain⟨ps,cs,hA⟩:=Rd.q cn;have fv:=Rd.N dg;have ar:=Rd.N dn;have fz:=Rd.N cn;obtain⟨nf,fI⟩:=zzy (m.a.length);obtain⟨nt,fT⟩:=zzy (m.e.length);obtain⟨ns,gf⟩:=zzy (m.g.length);rw[fI]at hv fv;rw[fT]at hy ar;rw[gf]at hA fz;subst hv;subst hy;subst hA;obtain⟨tx,gg⟩:=zzy (m.c);obtain⟨nx,gD⟩:=zzy (m.d);obtain⟨mn,gE⟩:=zzy (m.f);rw[gg]at ht hm ⊢;rw[gD]at aq hm ⊢;rw[gE]at ft hm ⊢;obtain⟨C,hC⟩:∃C:Array tT,C=#[tS tx,I U nx,O pf nf cf,O pt nt ct,O ps ns cs,I U mn]:=⟨_,rfl⟩;obtain⟨W1,ds⟩:=zzx (W.alloc (r9 C 28));have cA:Gl W W1:=by rw[ds];exact (Fz _ W).alloc (Fy _) _
 have cp:W1.heap[W.heap.size]?=A (r9 C 28 (0,0)):=by rw[ds];exact oA W _
 have gF:=Hd (hq W1 m _ cA (bG.t (fun x M o r=>(cA.block x (FG M (Fy _))).trans r) (bG.D (fun x M=>M) hm) |> bG.D (fun x M=>FG M cA.size)) cm)
 have iB:=Hd (fun V (hV:Gl W V)=>Rd.sb (fun x M o r=>(hV.block x M).trans r) dg);have iX:=Hd (fun V (hV:Gl W V)=>Rd.sb (fun x M o r=>(hV.block x M).trans r) dn);have jj:=Hd (fun V (hV:Gl W V)=>Rd.sb (fun x M o r=>(hV.block x M).trans r) cn);obtain⟨gH,hD,dt,HC,bd,HI,HF⟩:=zz7 cA ds cp hC cm (And.intro aq ft) fI;obtain⟨HT,HS,bm,j2,kc⟩:=zz5 fT gf gg gD gE;have k7:nf≤9223372036854775807:=fv;have cq:nt≤9223372036854775807:=ar;have cr:ns≤9223372036854775807:=fz;obtain⟨ok,gL⟩:=zzy (okF m);rw[gL]at gF;have hG:=Hd gL;clear hm cm hq ht aq ft dg dn cn fv ar fz fI fT gf gg gD gE cA ds cp hC gL
 go_enter Tryz.func7,Tryz.ntmps7
 go_upto_region 1 with fail
 change Code.wp _ _ _ _ (W.alloc (r9 #[tS tx,I U nx,O pf nf cf,O pt nt ct,O ps ns cs,I U mn] 28));rw[←HC.o,←hD.o];clear hD;have cp:=dt.o;rw[HC.o]at cp;obtain⟨⟨a0,a1,a2,a3,a4,a5⟩,_⟩:=aH cp;clear cp;go_wp2_with fail
 refine gF.o.mono ?_;rintro e W2 ⟨rfl,gM⟩;have hI:=aa gM dt.o (Fx.1 dt.o).1;have hJ:=gH.o.trans (gM.mono gH.o.size);obtain⟨dv,cu⟩:=zz2 hI hJ;clear a0 a1 a2 a3 a4 a5 gF dt gH gM hI hJ
 cases ok with
 | false =>
  have HR:Hid (∀V,Gl W V→Gl W V∧∃v,wj (y9 #[O Y 0 0,I U 4])=wj (y9 #[v,I U (gI okF m).2])∧Lib.HoldsBytes V v (gI okF m).1∧∀g,v.ownBlock=A g→W.heap.size≤g∧g<V.heap.size):=by
   intro V hV;have hp:gI okF m=([],4):=by unfold gI;rw[hG.o];rfl
   rw[hp];exact⟨hV,_,Z,⟨Y,0,Z,fun _=>rfl,fun a ha=>by cases ha⟩,fun g hg=>by cases hg⟩
  go_wp2_with fail
  go_returns
  exact HR.o _ cu.o
 | true =>
  obtain⟨W3,eg⟩:=zzx (W2.alloc (r9 #[O Y 0 0,I U 0,I .i8 0] 60));have en:Gl W2 W3:=by rw[eg];exact (Fz _ W2).alloc (Fy _) _
  have hK:W3.heap[W2.heap.size]?=A (r9 #[O Y 0 0,I U 0,I .i8 0] 60 (0,0)):=by rw[eg];exact oA W2 _
  have cv:=aa en dv.o (Fx.1 dv.o).1;have hL:lW W3 W.heap.size W2.heap.size []:=⟨LibA.zero_isBuffer cu.o.size (LibA.three_whole hK),FH cu.o.size en.size⟩;have kk:W.heap.size<W2.heap.size:=(Fx.1 dv.o).1;obtain⟨cy,cC,bn,hM⟩:=zz4 (cu.o.trans (en.mono cu.o.size)) hL cv eg;clear eg en hK cv hL dv cu;go_upto_region 4 with fail
  change Code.wp _ _ _ _ (W2.alloc (r9 #[O Y 0 0,I U 0,I .i8 0] 60));rw[←hM.o];clear hM;have ad:W.heap.size≠W2.heap.size:=Nat.ne_of_lt kk;have hN:∀(l l2:List UInt8) (s:Nat) (w:J),MpS W3 W.heap.size W2.heap.size l l2 s w→∃x:Ks W3 (fun b=>b=W.heap.size),w=x.1:=fun l l2 s w h=>h.ks bn.o ad (by decide)
  have cv:=bn.o;rw[HC.o]at cv;obtain⟨⟨a0,a1,a2,a3,a4,a5⟩,_⟩:=aH cv;have D0:=fun x:Ks W3 (fun b=>b=W.heap.size)=>x.h Z a0
  have D1:=fun x:Ks W3 (fun b=>b=W.heap.size)=>x.h Z a1
  have D2:=fun x:Ks W3 (fun b=>b=W.heap.size)=>x.h Z a2
  have hO:=Hd hN;have h4:0<(bW tx++[nx,(nf:Int)].flatMap (beB 8)).length:=by rw[FT,bX];simp
  have hP:([]:List UInt8).length+(bW tx++[nx,(nf:Int)].flatMap (beB 8)).length≤140737488355328:=by
   have:=bd.o;unfold szM at this;rw[bm.o]at this;rw[FT,bX];unfold bW;rw[FT,aU];have e:tx.data.toList.length=tx.size:=rfl;simp only[F9,List.length_nil];omega
  have H4:=Hd (And.intro h4 hP);clear a0 a1 a2 a3 a4 a5 cv hN h4 hP;refine RE.u (by kernel_rfl) 15 [3,11,12,13,14] [3,12,14] (MpS W3 W.heap.size W2.heap.size [] (bW tx++[nx,(nf:Int)].flatMap (beB 8))) (MpR W3 W.heap.size W2.heap.size [] (bW tx++[nx,(nf:Int)].flatMap (beB 8))) (fun _ ys=>ys.getD 0 wF) (MpP W3 W.heap.size W2.heap.size [] (bW tx++[nx,(nf:Int)].flatMap (beB 8)) (PG 11 3 12 [nx,(nf:Int)] (bW tx) ([nx,(nf:Int)].flatMap (beB 8)))) (by kernel_rfl) (fun _ _ _ _ _ _ h F=>h.t F) (fun _ _ _ _ h _ hr=>h.t (fun _ _ _ _ h F=>h.t F) hr) (MpS.of (by decide) (Fz _ _).drew) ?_;simp only[FO,FY,FQ,FX]
  repeat (refine RE.q (fun w=>∃x:Ks W3 (fun b=>b=W.heap.size),w=x.1) (fun _ _ _ h=>hO.o _ _ _ _ h) Z Z Z (MpS.of (by decide) (Fz _ _).drew) ?_;go_big_quiet_step (fail);refine xL ?_)
  refine RE.h Z Z ?_ (fun x3=>?_)
  ·intro w _ N _;have D:=MpS.lo (N Z) (by decide);refine RE.z 18 _ _ Z (enters_of Tryz.func18 (by kernel_rfl) Z) #[tS tx] (by simp[Act.eval]) ((yI tx w (by have:=bd.o;unfold szM at this;rw[bm.o]at this;omega)).mono ?_);intro e U' r;obtain⟨v,rfl,r⟩:=r;obtain⟨h1,G⟩:=ao.fb (v:=v) ⟨v,Z,r⟩;exact⟨v,Z,[v],Z,MpS.of (s:=1) (by decide) (D.trans (G.mono D.size)),wD G,wP h1⟩
  simp only[xS,FA,FM,FK]
  repeat (refine RE.q (fun w=>∃x:Ks W3 (fun b=>b=W.heap.size),w=x.1) (fun _ _ _ h=>hO.o _ _ _ _ h) Z Z Z (MpS.of (by decide) (Fz _ _).drew) ?_;go_big_quiet_step (fail);refine xL ?_)
  refine RE.h Z Z ?_ (fun eo=>?_)
  ·intro w _ _ _;refine ja qk (u:=I U nx) (v:=I U nf) _ _ Z (by simp[Act.eval]) (by simp[Act.eval]) (nM _ _) (fun U' F M=>?_);exact⟨[_],Z,F,wD F,wP (FI.two M HI.o.1 (by unfold I64;omega))⟩
  simp only[xS,FA,FM,FK];refine RE.h Z Z ?_ (fun gN=>?_)
  ·intro w _ N X;have D:=MpS.lo (N Z) (by decide);have cR:FI [nx,(nf:Int)] w (eo.getD 0 wF):=MpP.get (X 11 eo (by kernel_rfl) Z) cC.o H4.o.1 D;refine RE.z 19 _ _ Z (enters_of Tryz.func19 (by kernel_rfl) Z) #[eo.getD 0 wF] (by simp[Act.eval]) ((iw cR (by simp)).mono ?_);intro e U' r;obtain⟨v,rfl,r⟩:=r;obtain⟨h1,G⟩:=ao.fb (v:=v) ⟨v,Z,r⟩;exact⟨v,Z,[v],Z,MpS.of (s:=2) (by decide) (D.trans (G.mono D.size)),wD G,wP h1⟩
  simp only[xS,FA,FM,FK];refine RE.h Z Z ?_ (fun gO=>?_)
  ·intro w cT _ X;obtain⟨s,hs,N⟩:=cT;have hQ:s≤2:=FH hs (Nat.le_of_eq (by kernel_rfl));have D:=MpS.lo N (by omega);have h3:FB (bW tx) w (x3.getD 0 wF):=MpP.get (X 3 x3 (by kernel_rfl) Z) cC.o H4.o.1 D;have bR:FB ([nx,(nf:Int)].flatMap (beB 8)) w (gN.getD 0 wF):=MpP.get (X 12 gN (by kernel_rfl) Z) cC.o H4.o.1 D;refine ja mr (u:=x3.getD 0 wF) (v:=gN.getD 0 wF) _ _ Z (by simp[Act.eval]) (by simp[Act.eval]) (nY h3 bR) (fun U' F M=>?_);exact⟨[_],Z,F,wD F,wP (FP.of M (h3.t F) (bR.t F) (by unfold bW;rw[FT,aU];omega))⟩
  simp only[xS,FA,FM,FK];refine RE.h Z Z ?_ (fun k8=>?_)
  ·intro w _ N X;have D:=MpS.lo (N Z) (by decide);have cV:FP (bW tx++[nx,(nf:Int)].flatMap (beB 8)) w (gO.getD 0 wF):=MpP.get (X 13 gO (by kernel_rfl) Z) cC.o H4.o.1 D;refine RE.z 17 _ _ Z (enters_of Tryz.func17 (by kernel_rfl) Z) #[vv (A ⟨W2.heap.size,0,Y⟩),gO.getD 0 wF] (by simp[Act.eval]) ((qa cC.o D cV H4.o.1 H4.o.2).mono ?_);rintro e U' ⟨rfl,G⟩;exact⟨_,Z,[y9 #[]],Z,MpS.done (s:=3) (by decide) G,wP G,wD G⟩
  simp only[xS,FA,FM,FK];refine RE.t ?_;intro W4 N X;have K:=MpS.hi N (by decide);rw[List.nil_append]at K;have e4:=Hd K;have gS:=K.q bn.o ad (by decide);rw[HC.o]at gS;obtain⟨⟨a0,a1,a2,a3,a4,a5⟩,_⟩:=aH gS;clear K X N D0 D1 D2 H4 gS;go_wp2_with fail
  clear a0 a1 a2 a3 a4 a5
  go_loopw [33] (yT W3 W.heap.size W2.heap.size m.a bJ (bW tx++[nx,(nf:Int)].flatMap (beB 8))) (fun i _=>nf-(intOf i).toNat)
  case atStart=>exact⟨_,0,Z,Z,FR _,by simpa using e4.o⟩
  case round =>
   clear e4;obtain⟨B,k,rfl,rfl,hk,K⟩:=hrel;rw[HF.o]at hk;have c:=K;have b0:=Hd K;clear K
   by_cases ar:k<nf
   ·have e5:(k:Int)<nf:=by omega
    obtain⟨f,et⟩:∃v,m.a[k]?=A v:=⟨m.a[k]'(by rw[HF.o];exact ar),FD (by rw[HF.o];exact ar)⟩;have a6:=cy.o.trans c.2.1;obtain⟨bb,off,cap,us,b1,_,_,_,cW,bq,d⟩:=Rd.K (iB.o _ a6) et;injection b1 with hp c0 c1
    subst hp;clear c0 c1;obtain⟨ca,e0,sl,rfl,P⟩:=bY.1 bq;obtain⟨p6,c6,af⟩:=Rd.q P;obtain⟨R,bt⟩:=zzy (f.a.length);rw[bt]at af;subst af;have d0:B.cell? ⟨bb,off+k*3,Y⟩=A (I U f.id):=d 0 _ Z;have d1:B.cell? ⟨bb,off+k*3+1,Y⟩=A (I U f.u):=d 1 _ Z;have d2:B.cell? ⟨bb,off+k*3+2,Y⟩=A (O p6 R c6):=d 2 _ Z;obtain⟨E,S⟩:=zzx (B.alloc (r9 #[I U f.id,I U f.u,O p6 R c6] 47));have T:Gl B E:=by rw[S];exact (Fz _ B).alloc (Fy _) _
    have bk:E.heap[B.heap.size]?=A (r9 #[I U f.id,I U f.u,O p6 R c6] 47 (0,0)):=by rw[S];exact oA B _
    have Q:=c.C T;have hle:=a6.size;have c3:=T.size;have hz:=kP szF m.a k f et;have hV:=zv (W:=E) (f:=f) (aC.D (fun x M=>(by omega:x<E.heap.size)) (aC.t (fun x M o r=>(T.block x (FG M hle)).trans r) bq)) (by have:=bd.o;unfold szM at this;omega);have cm:(bW tx++[nx,(nf:Int)].flatMap (beB 8)++(m.a.take k).flatMap bJ).length+(bJ f).length≤140737488355328:=by
     have h3:=jc jb (m.a.take k);have h4:=bd.o;have h5:=jb f;unfold szM at h4;rw[bm.o]at h4;unfold bW;rw[FT,FT,FT,bX,aU];have e:tx.data.toList.length=tx.size:=rfl;simp only[F9,List.length_nil];omega
    have b2:0<(bJ f).length:=by unfold bJ;rw[FT,FT,aU];omega
    obtain⟨HV,p,kn,b3,kv,HZ⟩:=zz6 hV Q bk S et (And.intro b2 cm);clear T bk Q S d bq cW cm c et a6 P ca e0 bt hV hz b2 hle c3;go_upto_region 8 with fail
    change Code.wp _ _ _ _ (B.alloc (r9 #[I U f.id,I U f.u,O p6 R c6] 47));rw[←b3.o];clear b3 d0 d1 d2;obtain⟨d0,d1,d2,_⟩:=aE kn.o;go_wp2_with fail
    refine HV.o.mono ?_;intro e W7 r;obtain⟨v,rfl,r⟩:=r;obtain⟨h1,G⟩:=ao.fb (v:=v) ⟨v,Z,r⟩;have q:=p.o.C G;obtain⟨HP,k6⟩:=zz2 (mP q h1 HZ.o.1 HZ.o.2) q;obtain⟨p7,c7,b4,_⟩:=h1;obtain⟨n7,b5⟩:=zzy ((bJ f).length);rw[b5]at b4;subst b4;clear G q r b5 HV;go_wp2_with fail
    refine HP.o.mono ?_;rintro e W8 ⟨rfl,H⟩;have aq:dF W3 W.heap.size W2.heap.size (bW tx++[nx,(nf:Int)].flatMap (beB 8)++(m.a.take (k+1)).flatMap bJ) W8:=by
     rw[Gd,kv.o,List.flatMap_append];simp only[Option.toList,List.flatMap_cons,List.flatMap_nil,List.append_nil]at H ⊢;rw[←List.append_assoc];exact H
    have b6:=Hd aq;clear H aq HP;go_wp2_with fail
    refine⟨⟨_,k+1,Z,by go_num,by rw[HF.o];omega,b6.o⟩,by simp[intOf];omega⟩
   ·obtain rfl:k=nf:=by omega
    have bl:(m.a.take k).flatMap bJ=m.a.flatMap bJ:=by rw[←HF.o,List.take_length]
    rw[bl]at c;have cb:=c.q bn.o ad (by decide);rw[HC.o]at cb;obtain⟨⟨a0,a1,a2,a3,a4,a5⟩,_⟩:=aH cb;obtain⟨HN,p⟩:=zz2 (Cf (x:=(nt:Int)) (by unfold I64;omega) B) c;clear cb c b0 bl;go_wp2_with fail
    refine HN.o.mono ?_;intro e W7 r;obtain⟨v,rfl,r⟩:=r;obtain⟨h1,G⟩:=ao.fb (v:=v) ⟨v,Z,r⟩;have q:=p.o.C G;have hz:(bW tx++[nx,(k:Int)].flatMap (beB 8)++m.a.flatMap bJ).length+([(nt:Int)].flatMap (beB 8)).length≤140737488355328:=by
     have h3:=jc jb m.a;have h4:=bd.o;unfold szM at h4;rw[bm.o]at h4;unfold bW;rw[FT,FT,FT,bX,bX,aU];have e:tx.data.toList.length=tx.size:=rfl;simp only[F9,List.length_nil];omega
    have HP:=Hd (mP q h1 (by rw[bX];simp) hz);have cc:=q.q bn.o ad (by decide);rw[HC.o]at cc;obtain⟨p7,c7,b4,_⟩:=h1;obtain⟨n7,b5⟩:=zzy (([(nt:Int)].flatMap (beB 8)).length);rw[b5]at b4;subst b4;clear G q r b5 HN hz a0 a1 a2 a3 a4 a5;obtain⟨⟨a0,a1,a2,a3,a4,a5⟩,_⟩:=aH cc;clear cc;go_wp2_with fail
    refine HP.o.mono ?_;rintro e W8 ⟨rfl,H⟩;have ch:=H.q bn.o ad (by decide);rw[HC.o]at ch;have ba:=Hd H;clear a0 a1 a2 a3 a4 a5 HP H p;obtain⟨⟨a0,a1,a2,a3,a4,a5⟩,_⟩:=aH ch;clear ch;go_wp2_with fail
    clear a0 a1 a2 a3 a4 a5;obtain⟨L2,e1⟩:=zzy (bW tx++[nx,(k:Int)].flatMap (beB 8)++m.a.flatMap bJ++[(nt:Int)].flatMap (beB 8));have e6:L2.length≤28+tx.size+(m.a.map szF).sum:=by
     have h3:=jc jb m.a;rw[←e1];unfold bW;rw[FT,FT,FT,FT,bX,bX,aU];have e:tx.data.toList.length=tx.size:=rfl;simp only[F9,List.length_nil];omega
    rw[e1]at ba;obtain⟨hR,e7⟩:=zz2 e1 e6;clear e1 e6
    go_loopw [54] (yT W3 W.heap.size W2.heap.size m.e fR L2) (fun i _=>nt-(intOf i).toNat)
    case atStart=>exact⟨_,0,Z,Z,FR _,by simpa using ba.o⟩
    case round =>
     clear ba;obtain⟨B,j,rfl,rfl,hj,K⟩:=hrel;rw[HT.o]at hj;have c:=K;have b0:=Hd K;clear K
     by_cases ar:j<nt
     ·have e5:(j:Int)<nt:=by omega
      obtain⟨t,bB⟩:∃v,m.e[j]?=A v:=⟨m.e[j]'(by rw[HT.o];exact ar),FD (by rw[HT.o];exact ar)⟩;have a6:=cy.o.trans c.2.1;obtain⟨bb,off,cap,us,b1,_,_,_,cW,bq,d⟩:=Rd.K (iX.o _ a6) bB;injection b1 with hp c0 c1
      subst hp;clear c0 c1;obtain⟨ca,sl,rfl,P⟩:=hH.1 bq;obtain⟨p6,c6,af⟩:=Rd.q P;have c5:=Rd.N P;obtain⟨R,bt⟩:=zzy (t.b.length);rw[bt]at af c5;subst af;have d0:B.cell? ⟨bb,off+j*2,Y⟩=A (I U t.a):=d 0 _ Z;have d1:B.cell? ⟨bb,off+j*2+1,Y⟩=A (O p6 R c6):=d 1 _ Z;obtain⟨E,S⟩:=zzx (B.alloc (r9 #[I U t.a,O p6 R c6] 50));have T:Gl B E:=by rw[S];exact (Fz _ B).alloc (Fy _) _
      have bk:E.heap[B.heap.size]?=A (r9 #[I U t.a,O p6 R c6] 50 (0,0)):=by rw[S];exact oA B _
      have Q:=c.C T;have hle:=a6.size;have c3:=T.size;have gT:=cy.o.trans Q.2.1;have hz:=kP szT m.e j t bB;have hT:∀V,Gl E V→FI t.b V (O p6 R c6):=fun V hV=>FI.t (Rd.sv (fun x M=>(by omega:x<E.heap.size)) (Rd.sb (fun x M o r=>(T.block x (FG M hle)).trans r) P)) hV
      have ck:[t.a,(R:Int)].flatMap (beB 8)++t.b.flatMap (beB 8)=fR t:=by unfold fR;rw[bt,List.flatMap_cons,List.flatMap_cons,List.flatMap_nil,List.append_nil]
      have cq:0<([t.a,(R:Int)].flatMap (beB 8)++t.b.flatMap (beB 8)).length:=by rw[FT,bX];simp only[F9,List.length_nil];omega
      have cr:(L2++(m.e.take j).flatMap fR).length+([t.a,(R:Int)].flatMap (beB 8)++t.b.flatMap (beB 8)).length≤140737488355328:=by
       have h3:=jc (z:=szT) (fun t=>Nat.le_of_eq (mo t)) (m.e.take j);have h4:=bd.o;have h5:=e7.o;unfold szM at h4;rw[bm.o]at h4;rw[ck,mo,FT];omega
      have e8:t.b.length*8≤140737488355328:=by
       have h4:=bd.o;unfold szM at h4;have h5:szT t=16+t.b.length*8:=rfl;omega
      have b7:B.heap.size≠W2.heap.size:=by have:=c.1.lt;omega
      obtain⟨d2,d3,_⟩:=bP bk;have D0:=fun x:Ks E (fun b=>b=B.heap.size)=>x.h Z d2
      have D1:=fun x:Ks E (fun b=>b=B.heap.size)=>x.h Z d3
      obtain⟨b8,c8,p,b3,hf,HZ,hh⟩:=zz7 (fun (l l2:List UInt8) (s:Nat) (w:J) (h:MpS E W.heap.size W2.heap.size l l2 s w)=>h.ks bk b7 (by decide)) (And.intro ca (show I64 (R:Int) by unfold I64;unfold maxLen at c5;omega)) Q S bB (And.intro cq cr) ck;obtain⟨kI,hU⟩:=zz2 hT e8;clear T bk Q S d bq cW c bB a6 P ca bt hz hle c3 gT hT ck cq cr e8 b7 d2 d3 c5;go_upto_region 14 with fail
      change Code.wp _ _ _ _ (B.alloc (r9 #[I U t.a,O p6 R c6] 50));rw[←b3.o];clear b3 d0 d1;refine RE.u (by kernel_rfl) 12 [5,6,9,10,11] [6,9,11] (MpS E W.heap.size W2.heap.size (L2++(m.e.take j).flatMap fR) ([t.a,(R:Int)].flatMap (beB 8)++t.b.flatMap (beB 8))) (MpR E W.heap.size W2.heap.size (L2++(m.e.take j).flatMap fR) ([t.a,(R:Int)].flatMap (beB 8)++t.b.flatMap (beB 8))) (fun _ ys=>ys.getD 0 wF) (MpP E W.heap.size W2.heap.size (L2++(m.e.take j).flatMap fR) ([t.a,(R:Int)].flatMap (beB 8)++t.b.flatMap (beB 8)) (PG 5 6 9 [t.a,(R:Int)] ([t.a,(R:Int)].flatMap (beB 8)) (t.b.flatMap (beB 8)))) (by kernel_rfl) (fun _ _ _ _ _ _ h F=>h.t F) (fun _ _ _ _ h _ hr=>h.t (fun _ _ _ _ h F=>h.t F) hr) (MpS.of (by decide) (Fz _ _).drew) ?_;simp only[FO,FY,FQ,FX]
      repeat (refine RE.q (fun w=>∃x:Ks E (fun b=>b=B.heap.size),w=x.1) (fun _ _ _ h=>b8.o _ _ _ _ h) Z Z Z (MpS.of (by decide) (Fz _ _).drew) ?_;go_big_quiet_step (fail);refine xL ?_)
      refine RE.h Z Z ?_ (fun x5=>?_)
      ·intro w _ _ _;refine ja qk (u:=I U t.a) (v:=I U R) _ _ Z (by simp[Act.eval]) (by simp[Act.eval]) (nM _ _) (fun U' F M=>?_);exact⟨[_],Z,F,wD F,wP (FI.two M c8.o.1 c8.o.2)⟩
      simp only[xS,FA,FM,FK];refine RE.h Z Z ?_ (fun x6=>?_)
      ·intro w _ N X;have D:=MpS.lo (N Z) (by decide);have cR:FI [t.a,(R:Int)] w (x5.getD 0 wF):=MpP.get (X 5 x5 (by kernel_rfl) Z) p.o.1 HZ.o.1 D;refine RE.z 19 _ _ Z (enters_of Tryz.func19 (by kernel_rfl) Z) #[x5.getD 0 wF] (by simp[Act.eval]) ((iw cR (by simp)).mono ?_);intro e U' r;obtain⟨v,rfl,r⟩:=r;obtain⟨h1,G⟩:=ao.fb (v:=v) ⟨v,Z,r⟩;exact⟨v,Z,[v],Z,MpS.of (s:=1) (by decide) (D.trans (G.mono D.size)),wD G,wP h1⟩
      simp only[xS,FA,FM,FK]
      repeat (refine RE.q (fun w=>∃x:Ks E (fun b=>b=B.heap.size),w=x.1) (fun _ _ _ h=>b8.o _ _ _ _ h) Z Z Z (MpS.of (by decide) (Fz _ _).drew) ?_;go_big_quiet_step (fail);refine xL ?_)
      refine RE.h Z Z ?_ (fun x9=>?_)
      ·intro w _ N X;have D:=MpS.lo (N Z) (by decide);refine RE.z 19 _ _ Z (enters_of Tryz.func19 (by kernel_rfl) Z) #[O p6 R c6] (by simp[Act.eval]) ((iw (kI.o w D) hU.o).mono ?_);intro e U' r;obtain⟨v,rfl,r⟩:=r;obtain⟨h1,G⟩:=ao.fb (v:=v) ⟨v,Z,r⟩;exact⟨v,Z,[v],Z,MpS.of (s:=2) (by decide) (D.trans (G.mono D.size)),wD G,wP h1⟩
      simp only[xS,FA,FM,FK];refine RE.h Z Z ?_ (fun e2=>?_)
      ·intro w cT _ X;obtain⟨s,hs,N⟩:=cT;have hQ:s≤2:=FH hs (Nat.le_of_eq (by kernel_rfl));have D:=MpS.lo N (by omega);have h3:FB ([t.a,(R:Int)].flatMap (beB 8)) w (x6.getD 0 wF):=MpP.get (X 6 x6 (by kernel_rfl) Z) p.o.1 HZ.o.1 D;have bR:FB (t.b.flatMap (beB 8)) w (x9.getD 0 wF):=MpP.get (X 9 x9 (by kernel_rfl) Z) p.o.1 HZ.o.1 D;refine ja mr (u:=x6.getD 0 wF) (v:=x9.getD 0 wF) _ _ Z (by simp[Act.eval]) (by simp[Act.eval]) (nY h3 bR) (fun U' F M=>?_);exact⟨[_],Z,F,wD F,wP (FP.of M (h3.t F) (bR.t F) (by rw[bX];simp))⟩
      simp only[xS,FA,FM,FK];refine RE.h Z Z ?_ (fun eo=>?_)
      ·intro w _ N X;have D:=MpS.lo (N Z) (by decide);have cV:FP ([t.a,(R:Int)].flatMap (beB 8)++t.b.flatMap (beB 8)) w (e2.getD 0 wF):=MpP.get (X 10 e2 (by kernel_rfl) Z) p.o.1 HZ.o.1 D;refine RE.z 17 _ _ Z (enters_of Tryz.func17 (by kernel_rfl) Z) #[vv (A ⟨W2.heap.size,0,Y⟩),e2.getD 0 wF] (by simp[Act.eval]) ((qa p.o.1 D cV HZ.o.1 HZ.o.2).mono ?_);rintro e U' ⟨rfl,G⟩;exact⟨_,Z,[y9 #[]],Z,MpS.done (s:=3) (by decide) G,wP G,wD G⟩
      simp only[xS,FA,FM,FK];refine RE.t ?_;intro W7 N X;have q:=p.o.h (MpS.hi N (by decide));have aq:dF W3 W.heap.size W2.heap.size (L2++(m.e.take (j+1)).flatMap fR) W7:=by
       rw[hh.o]at q;rw[Gd,hf.o,List.flatMap_append];simp only[Option.toList,List.flatMap_cons,List.flatMap_nil,List.append_nil];rw[←List.append_assoc];exact q
      have b6:=Hd aq;clear q aq X N D0 D1;go_wp2_with fail
      refine⟨⟨_,j+1,Z,by go_num,by rw[HT.o];omega,b6.o⟩,by simp[intOf];omega⟩
     ·obtain rfl:j=nt:=by omega
      have bl:(m.e.take j).flatMap fR=m.e.flatMap fR:=by rw[←HT.o,List.take_length]
      rw[bl]at c;have cb:=c.q bn.o ad (by decide);rw[HC.o]at cb;obtain⟨⟨a0,a1,a2,a3,a4,a5⟩,_⟩:=aH cb;obtain⟨HN,p⟩:=zz2 (Cr (x:=mn) (y:=(ns:Int)) HI.o.2 (by unfold I64;omega) B) c;clear cb c b0 bl;go_wp2_with fail
      refine HN.o.mono ?_;intro e W7 r;obtain⟨v,rfl,r⟩:=r;obtain⟨h1,G⟩:=ao.fb (v:=v) ⟨v,Z,r⟩;have q:=p.o.C G;have hW:(L2++m.e.flatMap fR).length≤28+tx.size+(m.a.map szF).sum+(m.e.map szT).sum:=by
       have h3:=jc (z:=szT) (fun t=>Nat.le_of_eq (mo t)) m.e;have h5:=e7.o;rw[FT];omega
      have hz:(L2++m.e.flatMap fR).length+([mn,(ns:Int)].flatMap (beB 8)).length≤140737488355328:=by
       have h4:=bd.o;unfold szM at h4;rw[bm.o]at h4;rw[bX];simp only[F9,List.length_nil];omega
      have HP:=Hd (mP q h1 (by rw[bX];simp) hz);have cc:=q.q bn.o ad (by decide);rw[HC.o]at cc;obtain⟨p7,c7,b4,_⟩:=h1;obtain⟨n7,b5⟩:=zzy (([mn,(ns:Int)].flatMap (beB 8)).length);rw[b5]at b4;subst b4;have hX:=Hd hW;clear G q r b5 HN hz a0 a1 a2 a3 a4 a5 hW;obtain⟨⟨a0,a1,a2,a3,a4,a5⟩,_⟩:=aH cc;clear cc;go_wp2_with fail
      refine HP.o.mono ?_;rintro e W8 ⟨rfl,H⟩;have ch:=H.q bn.o ad (by decide);rw[HC.o]at ch;have ba:=Hd H;clear a0 a1 a2 a3 a4 a5 HP H p;obtain⟨⟨a0,a1,a2,a3,a4,a5⟩,_⟩:=aH ch;clear ch;go_wp2_with fail
      clear a0 a1 a2 a3 a4 a5;obtain⟨L3,e3⟩:=zzy (L2++m.e.flatMap fR++[mn,(ns:Int)].flatMap (beB 8));have e9:L3.length≤44+tx.size+(m.a.map szF).sum+(m.e.map szT).sum:=by
       have h5:=hX.o;rw[←e3,FT,bX];simp only[F9,List.length_nil];omega
      rw[e3]at ba;obtain⟨hY,fm⟩:=zz2 e3 e9;clear e3 e9 hX
      go_loopw [83] (yT W3 W.heap.size W2.heap.size m.g fH L3) (fun i _=>ns-(intOf i).toNat)
      case atStart=>exact⟨_,0,Z,Z,FR _,by simpa using ba.o⟩
      case round =>
       clear ba;obtain⟨B,i,rfl,rfl,hi,K⟩:=hrel;rw[HS.o]at hi;have c:=K;have b0:=Hd K;clear K
       by_cases ar:i<ns
       ·have e5:(i:Int)<ns:=by omega
        obtain⟨t,bB⟩:∃v,m.g[i]?=A v:=⟨m.g[i]'(by rw[HS.o];exact ar),FD (by rw[HS.o];exact ar)⟩;have a6:=cy.o.trans c.2.1;obtain⟨bb,off,cap,us,b1,_,_,_,cW,bq,d⟩:=Rd.K (jj.o _ a6) bB;injection b1 with hp c0 c1
        subst hp;clear c0 c1;obtain⟨ca,e0,rs,rfl,cl⟩:=iv.1 bq;obtain⟨k0,k1,sf,ss,cn,P,c9⟩:=db.1 cl;subst cn;obtain⟨p6,c6,af⟩:=Rd.q P;obtain⟨p7,c7,fr⟩:=Rd.q c9;obtain⟨R,bt⟩:=zzy (t.a.a.length);obtain⟨m7,h7⟩:=zzy (t.a.b.length);rw[bt]at af;rw[h7]at fr;subst af;subst fr;obtain⟨er,h8⟩:=zzy (t.a.h);obtain⟨nu,h9⟩:=zzy (t.a.u);rw[h8,h9]at cl d;have d0:B.cell? ⟨bb,off+i*6,Y⟩=A (I U t.id):=d 0 _ Z;have d1:B.cell? ⟨bb,off+i*6+1,Y⟩=A (I U t.b):=d 1 _ Z;have d2:B.cell? ⟨bb,off+i*6+2,Y⟩=A (I U er):=d 2 _ Z;have d3:B.cell? ⟨bb,off+i*6+3,Y⟩=A (I U nu):=d 3 _ Z;have d4:B.cell? ⟨bb,off+i*6+4,Y⟩=A (O p6 R c6):=d 4 _ Z;have d5:B.cell? ⟨bb,off+i*6+5,Y⟩=A (O p7 m7 c7):=d 5 _ Z;obtain⟨E,S⟩:=zzx (B.alloc (r9 #[I U t.id,I U t.b,I U er,I U nu,O p6 R c6,O p7 m7 c7] 54));have T:Gl B E:=by rw[S];exact (Fz _ B).alloc (Fy _) _
        have bk:E.heap[B.heap.size]?=A (r9 #[I U t.id,I U t.b,I U er,I U nu,O p6 R c6,O p7 m7 c7] 54 (0,0)):=by rw[S];exact oA B _
        have Q:=c.C T;have hle:=a6.size;have c3:=T.size;have gT:=cy.o.trans Q.2.1;have hz:=kP szS m.g i t bB;have ih:∀V,Gl E V→bH.at_ V (fun x=>x<V.heap.size) t.a [I U er,I U nu,O p6 R c6,O p7 m7 c7]:=fun V hV=>bH.D (fun x M=>(by have:=hV.size;omega:x<V.heap.size)) (bH.t (fun x M o r=>(hV.block x (by omega)).trans ((T.block x (FG M hle)).trans r)) cl)
        have ck:[t.id,t.b].flatMap (beB 8)++dq t.a=fH t:=by unfold fH;rw[List.flatMap_cons,List.flatMap_cons,List.flatMap_nil,List.append_nil]
        have cq:0<([t.id,t.b].flatMap (beB 8)++dq t.a).length:=by rw[FT,bX];simp only[F9,List.length_nil];omega
        have h4:=bd.o;unfold szM at h4;rw[bm.o]at h4;have cr:(L3++(m.g.take i).flatMap fH).length+([t.id,t.b].flatMap (beB 8)++dq t.a).length≤140737488355328:=by
         have h3:=jc oM (m.g.take i);have h5:=fm.o;have h6:=oM t;rw[ck,FT];omega
        have fs:szR t.a≤140737488355328:=by
         have h5:szS t=16+szR t.a:=rfl;omega
        have b7:B.heap.size≠W2.heap.size:=by have:=c.1.lt;omega
        obtain⟨⟨x0,x1,x2,x3,x4,x5⟩,_⟩:=aH bk;have D0:=fun x:Ks E (fun b=>b=B.heap.size)=>x.h Z x0
        have D1:=fun x:Ks E (fun b=>b=B.heap.size)=>x.h Z x1
        have D2:=fun x:Ks E (fun b=>b=B.heap.size)=>x.h Z x2
        have D3:=fun x:Ks E (fun b=>b=B.heap.size)=>x.h Z x3
        have D4:=fun x:Ks E (fun b=>b=B.heap.size)=>x.h Z x4
        have D5:=fun x:Ks E (fun b=>b=B.heap.size)=>x.h Z x5
        obtain⟨b8,c8,p,b3,hf,HZ,hh⟩:=zz7 (fun (l l2:List UInt8) (s:Nat) (w:J) (h:MpS E W.heap.size W2.heap.size l l2 s w)=>h.ks bk b7 (by decide)) (And.intro ca e0) Q S bB (And.intro cq cr) ck;obtain⟨k2,k3⟩:=zz2 ih fs;clear T bk Q S d bq cW c bB a6 P c9 cl ca e0 k0 k1 bt h7 h8 h9 hz hle c3 gT ih ck cq cr fs b7 x0 x1 x2 x3 x4 x5 h4;go_upto_region 20 with fail
        change Code.wp _ _ _ _ (B.alloc (r9 #[I U t.id,I U t.b,I U er,I U nu,O p6 R c6,O p7 m7 c7] 54));rw[←b3.o];clear b3 d0 d1 d2 d3 d4 d5;refine RE.u (by kernel_rfl) 11 [4,5,8,9,10] [5,8,10] (MpS E W.heap.size W2.heap.size (L3++(m.g.take i).flatMap fH) ([t.id,t.b].flatMap (beB 8)++dq t.a)) (MpR E W.heap.size W2.heap.size (L3++(m.g.take i).flatMap fH) ([t.id,t.b].flatMap (beB 8)++dq t.a)) (fun _ ys=>ys.getD 0 wF) (MpP E W.heap.size W2.heap.size (L3++(m.g.take i).flatMap fH) ([t.id,t.b].flatMap (beB 8)++dq t.a) (PG 4 5 8 [t.id,t.b] ([t.id,t.b].flatMap (beB 8)) (dq t.a))) (by kernel_rfl) (fun _ _ _ _ _ _ h F=>h.t F) (fun _ _ _ _ h _ hr=>h.t (fun _ _ _ _ h F=>h.t F) hr) (MpS.of (by decide) (Fz _ _).drew) ?_;simp only[FO,FY,FQ,FX]
        repeat (refine RE.q (fun w=>∃x:Ks E (fun b=>b=B.heap.size),w=x.1) (fun _ _ _ h=>b8.o _ _ _ _ h) Z Z Z (MpS.of (by decide) (Fz _ _).drew) ?_;go_big_quiet_step (fail);refine xL ?_)
        refine RE.h Z Z ?_ (fun x4=>?_)
        ·intro w _ _ _;refine ja qk (u:=I U t.id) (v:=I U t.b) _ _ Z (by simp[Act.eval]) (by simp[Act.eval]) (nM _ _) (fun U' F M=>?_);exact⟨[_],Z,F,wD F,wP (FI.two M c8.o.1 c8.o.2)⟩
        simp only[xS,FA,FM,FK];refine RE.h Z Z ?_ (fun x5=>?_)
        ·intro w _ N X;have D:=MpS.lo (N Z) (by decide);have cR:FI [t.id,t.b] w (x4.getD 0 wF):=MpP.get (X 4 x4 (by kernel_rfl) Z) p.o.1 HZ.o.1 D;refine RE.z 19 _ _ Z (enters_of Tryz.func19 (by kernel_rfl) Z) #[x4.getD 0 wF] (by simp[Act.eval]) ((iw cR (by simp)).mono ?_);intro e U' r;obtain⟨v,rfl,r⟩:=r;obtain⟨h1,G⟩:=ao.fb (v:=v) ⟨v,Z,r⟩;exact⟨v,Z,[v],Z,MpS.of (s:=1) (by decide) (D.trans (G.mono D.size)),wD G,wP h1⟩
        simp only[xS,FA,FM,FK]
        repeat (refine RE.q (fun w=>∃x:Ks E (fun b=>b=B.heap.size),w=x.1) (fun _ _ _ h=>b8.o _ _ _ _ h) Z Z Z (MpS.of (by decide) (Fz _ _).drew) ?_;go_big_quiet_step (fail);refine xL ?_)
        refine RE.h Z Z ?_ (fun x8=>?_)
        ·intro w _ N X;have D:=MpS.lo (N Z) (by decide);refine RE.z 21 _ _ Z (enters_of Tryz.func21 (by kernel_rfl) Z) #[xk #[I U er,I U nu,O p6 R c6,O p7 m7 c7]] (by simp[Act.eval]) ((pn (k2.o w D) k3.o).mono ?_);intro e U' r;obtain⟨v,rfl,r⟩:=r;obtain⟨h1,G⟩:=ao.fb (v:=v) ⟨v,Z,r⟩;exact⟨v,Z,[v],Z,MpS.of (s:=2) (by decide) (D.trans (G.mono D.size)),wD G,wP h1⟩
        simp only[xS,FA,FM,FK];refine RE.h Z Z ?_ (fun x9=>?_)
        ·intro w cT _ X;obtain⟨s,hs,N⟩:=cT;have hQ:s≤2:=FH hs (Nat.le_of_eq (by kernel_rfl));have D:=MpS.lo N (by omega);have h3:FB ([t.id,t.b].flatMap (beB 8)) w (x5.getD 0 wF):=MpP.get (X 5 x5 (by kernel_rfl) Z) p.o.1 HZ.o.1 D;have bR:FB (dq t.a) w (x8.getD 0 wF):=MpP.get (X 8 x8 (by kernel_rfl) Z) p.o.1 HZ.o.1 D;refine ja mr (u:=x5.getD 0 wF) (v:=x8.getD 0 wF) _ _ Z (by simp[Act.eval]) (by simp[Act.eval]) (nY h3 bR) (fun U' F M=>?_);exact⟨[_],Z,F,wD F,wP (FP.of M (h3.t F) (bR.t F) (by rw[bX];simp))⟩
        simp only[xS,FA,FM,FK];refine RE.h Z Z ?_ (fun e2=>?_)
        ·intro w _ N X;have D:=MpS.lo (N Z) (by decide);have cV:FP ([t.id,t.b].flatMap (beB 8)++dq t.a) w (x9.getD 0 wF):=MpP.get (X 9 x9 (by kernel_rfl) Z) p.o.1 HZ.o.1 D;refine RE.z 17 _ _ Z (enters_of Tryz.func17 (by kernel_rfl) Z) #[vv (A ⟨W2.heap.size,0,Y⟩),x9.getD 0 wF] (by simp[Act.eval]) ((qa p.o.1 D cV HZ.o.1 HZ.o.2).mono ?_);rintro e U' ⟨rfl,G⟩;exact⟨_,Z,[y9 #[]],Z,MpS.done (s:=3) (by decide) G,wP G,wD G⟩
        simp only[xS,FA,FM,FK];refine RE.t ?_;intro W7 N X;have q:=p.o.h (MpS.hi N (by decide));have aq:dF W3 W.heap.size W2.heap.size (L3++(m.g.take (i+1)).flatMap fH) W7:=by
         rw[hh.o]at q;rw[Gd,hf.o,List.flatMap_append];simp only[Option.toList,List.flatMap_cons,List.flatMap_nil,List.append_nil];rw[←List.append_assoc];exact q
        have b6:=Hd aq;clear q aq X N D0 D1 D2 D3 D4 D5;go_wp2_with fail
        refine⟨⟨_,i+1,Z,by go_num,by rw[HS.o];omega,b6.o⟩,by simp[intOf];omega⟩
       ·obtain rfl:i=ns:=by omega
        have bl:L3++(m.g.take i).flatMap fH=dW m:=by
         rw[←hY.o,←hR.o];unfold dW;rw[HF.o,HT.o,HS.o,bm.o,j2.o,kc.o,←HS.o,List.take_length];simp
        have b2:0<(dW m).length:=by rw[←bl,←hY.o,←hR.o];simp only[FT,bX,F9,List.length_nil];omega
        have hlen:(dW m).length≤140737488355328:=by
         have h3:=jc oM (m.g.take i);have h5:=fm.o;have h4:=bd.o;have h6:((m.g.take i).map szS).sum=(m.g.map szS).sum:=by rw[←HS.o,List.take_length]
         unfold szM at h4;rw[bm.o]at h4;rw[←bl,FT];omega
        rw[bl]at c;obtain⟨hl,k4,k5⟩:=zz3 (ov c.1.1 b2) (cy.o.trans c.2.1) hlen;obtain⟨nb,hn⟩:=zzy ((dW m).length);rw[hn]at hl;have dd:=Hd hn;have ix:Hid (gI okF m=(dW m,0)):=by show _=_;unfold gI;rw[hG.o];rfl
        clear c b0 bl b2 hlen hn;go_wp2_with fail
        refine hl.o.mono ?_;rintro e W7 ⟨rfl,g,cap,rfl,hc⟩
        have iA:=Hd (Tryz.bytes_Clone_at ⟨g,0,Y⟩ nb cap ((dW m).map fun b=>(b.toNat:Int)) B.drew (by simp[dd.o]) (by rw[←dd.o];exact k5.o) (fun i hi=>by
         rw[rN (dW m) i (by rw[dd.o];exact hi),Addr.add_mid,Nat.zero_add]
         exact hc i _ (FD (by rw[dd.o];exact hi))))
        clear hc hl;go_wp2_with fail
        refine iA.o.mono ?_;rintro e W8 ⟨v',rfl,b9,_,F⟩;rw[mY,←dd.o]at b9;have HO:Hid (Gl W W8∧∃v,wj (y9 #[v',I U 0])=wj (y9 #[v,I U (gI okF m).2])∧Lib.HoldsBytes W8 v (gI okF m).1∧∀g,v.ownBlock=A g→W.heap.size≤g∧g<W8.heap.size):=by
         have hd:Gl W B.drew:=k4.o.drew;rw[ix.o];exact⟨hd.trans (F.mono hd.size),v',Z,om b9,fun g hg=>⟨FH hd.size (aL b9 g hg).1,(aL b9 g hg).2⟩⟩
        clear b9 F iA;go_wp2_with fail
        go_returns
        exact HO.o
