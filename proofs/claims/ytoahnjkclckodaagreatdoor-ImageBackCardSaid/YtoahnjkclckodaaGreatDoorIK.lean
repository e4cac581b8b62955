/- Machines put as bytes; by contract. Condition: image.Right by contract; at most 140737488355328 bytes. -/
import Derived.Test.YtoahnjkclckodaaGreatDoorIJ
open Go renaming World→J,Value→tS,undef→xk,wpQuiet_nil→xL
open Go.Value renaming int→I,slice→O,agg→wP,tuple→y9,string→r9,pointer→vo
open Go.IntKind renaming i64→U
open Go.Ending renaming returned→wg
open Option renaming some→A,none→Y
open Go.Obj renaming cells→r7
open Or renaming inl→wD,inr→wF
open Go.Act renaming put→xS
namespace Go.Proofs.YtoahnjkclckodaaGreatDoor
set_option maxHeartbeats 4000000
set_option maxRecDepth 100000
open Go.RowKit
def it(okF:au→Bool) (m:au):List UInt8×Int:=if okF m then (bV m,0) else ([],4)
def BS{α:Type} (W0:J) (B b:Nat) (a:List α) (f:α→List UInt8) (l:List UInt8) (i:tS) (W:J):Prop:=
 ∃(c:J) (k:Nat),c=W∧i=I U k∧k≤a.length∧dS W0 B b (l++(a.take k).flatMap f) c
theorem uU{w:J}{B n s:Nat}{e:TypeId}{v:tS}{xs:List tS}(h:w.ownsRow B e s v n xs):∃p n c,v=O p n c∧n≤c:=by
 rcases h.2 with ⟨a,_⟩|⟨g,cap,_,a,_,_,b,_⟩
 ·exact⟨_,_,_,a,JM _⟩
 ·exact⟨_,_,_,a,b⟩
theorem mq{okF:au→Bool}{m:au}{vs:List tS}{W:J}(hm:bG.at_ W (fun b=>b<W.heap.size) m vs)(cm:szM m≤140737488355328)
  (hl:∀(V:J) (m:au) (vs:List tS),Kr W V→bG.at_ V (fun b=>b<V.heap.size) m vs→szM m≤140737488355328→Calls Tryz.prog 8 #[wP vs.toArray] V (fun e W2=>e=wg (Value.bool (okF m))∧Kr V W2)) :
  Calls Tryz.prog 7 #[wP vs.toArray] W fun e W'=>Kr W W'∧∃v,e=wg (y9 #[v,I U (it okF m).2])∧Lib.HoldsBytes W' v (it okF m).1∧(∃p n c,v=O p n c∧n≤c)∧∀g,v.ownBlock=A g→W.heap.size≤g∧g<W'.heap.size:=by
 obtain⟨hn,ar,fs,sf,st,ss,rfl,dg,dn,cn⟩:=fC.1 hm;obtain⟨pf,cf,hq⟩:=Rd.q dg;obtain⟨pt,ct,ht⟩:=Rd.q dn;obtain⟨ps,cs,hv⟩:=Rd.q cn;have ft:=Rd.sb dg;have a6:=Rd.sb dn;have fv:=Rd.sb cn;obtain⟨nf,fz⟩:=zzy (m.a.length);obtain⟨nt,fI⟩:=zzy (m.d.length);obtain⟨ns,fT⟩:=zzy (m.e.length);rw[fz]at hq ft;rw[fI]at ht a6;rw[fT]at hv fv;subst hq;subst ht;subst hv;obtain⟨tx,gf⟩:=zzy (m.c);obtain⟨nx,gg⟩:=zzy (m.g);obtain⟨mn,gr⟩:=zzy (m.h);rw[gf]at hn hm ⊢;rw[gg]at ar hm ⊢;rw[gr]at fs hm ⊢;obtain⟨C,hC⟩:∃C:Array tS,C=#[r9 tx,I U nx,O pf nf cf,O pt nt ct,O ps ns cs,I U mn]:=⟨_,rfl⟩;obtain⟨W1,ds⟩:=zzx (W.alloc (r7 C 28));have cA:Kr W W1:=by rw[ds];exact (JO _ W).alloc (JM _) _
 have cp:W1.heap[W.heap.size]?=A (r7 C 28 (0,0)):=by rw[ds];exact oc W _
 have gD:=Hd (hl W1 m _ cA (bG.K (fun x P o B=>(cA.block x (JS P (JM _))).trans B) (bG.N (fun x P=>P) hm) |> bG.N (fun x P=>JS P cA.size)) cm)
 have ix:=Hd (fun V (hV:Kr W V)=>Rd.sv (fun x P o B=>(hV.block x P).trans B) dg);have iA:=Hd (fun V (hV:Kr W V)=>Rd.sv (fun x P o B=>(hV.block x P).trans B) dn);have iB:=Hd (fun V (hV:Kr W V)=>Rd.sv (fun x P o B=>(hV.block x P).trans B) cn);obtain⟨gE,hy,dt,HC,bg,HI,HF⟩:=zz7 cA ds cp hC cm (And.intro ar fs) fz;obtain⟨HT,HS,bn,iX,jj⟩:=zz5 fI fT gf gg gr;have k5:nf≤9223372036854775807:=ft;have cq:nt≤9223372036854775807:=a6;have cr:ns≤9223372036854775807:=fv;obtain⟨ok,gF⟩:=zzy (okF m);rw[gF]at gD;have hA:=Hd gF;clear hm cm hl hn ar fs dg dn cn ft a6 fv fz fI fT gf gg gr cA ds cp hC gF
 go_enter Tryz.func7,Tryz.ntmps7
 go_upto_region 1 with fail
 change Code.wp _ _ _ _ (W.alloc (r7 #[r9 tx,I U nx,O pf nf cf,O pt nt ct,O ps ns cs,I U mn] 28));rw[←HC.o,←hy.o];clear hy;have cp:=dt.o;rw[HC.o]at cp;obtain⟨⟨a0,a1,a2,a3,a4,a5⟩,_⟩:=aC cp;clear cp;go_wp2_with fail
 refine gD.o.mono ?_;rintro e W2 ⟨rfl,gH⟩;have hD:=aa gH dt.o (JL.1 dt.o).1;have hG:=gE.o.trans (gH.mono gE.o.size);obtain⟨dv,cu⟩:=zz2 hD hG;clear a0 a1 a2 a3 a4 a5 gD dt gE gH hD hG
 cases ok with
 | false =>
  have HR:Hid (∀V,Kr W V→Kr W V∧∃v,wg (y9 #[O Y 0 0,I U 4])=wg (y9 #[v,I U (it okF m).2])∧Lib.HoldsBytes V v (it okF m).1∧(∃p n c,v=O p n c∧n≤c)∧∀g,v.ownBlock=A g→W.heap.size≤g∧g<V.heap.size):=by
   intro V hV;have hp:it okF m=([],4):=by unfold it;rw[hA.o];rfl
   rw[hp];exact⟨hV,_,Z,⟨Y,0,Z,fun _=>rfl,fun a ha=>by cases ha⟩,⟨Y,0,0,Z,JM _⟩,fun g hg=>by cases hg⟩
  go_wp2_with fail
  go_returns
  exact HR.o _ cu.o
 | true =>
  obtain⟨W3,ef⟩:=zzx (W2.alloc (r7 #[O Y 0 0,I U 0,I .i8 0] 60));have eg:Kr W2 W3:=by rw[ef];exact (JO _ W2).alloc (JM _) _
  have hI:W3.heap[W2.heap.size]?=A (r7 #[O Y 0 0,I U 0,I .i8 0] 60 (0,0)):=by rw[ef];exact oc W2 _
  have cv:=aa eg dv.o (JL.1 dv.o).1;have hJ:mR W3 W.heap.size W2.heap.size []:=⟨LibA.zero_isBuffer cu.o.size (LibA.three_whole hI),JU cu.o.size eg.size⟩;have j2:W.heap.size<W2.heap.size:=(JL.1 dv.o).1;obtain⟨cy,cC,bq,hK⟩:=zz4 (cu.o.trans (eg.mono cu.o.size)) hJ cv ef;clear ef eg hI cv hJ dv cu;go_upto_region 4 with fail
  change Code.wp _ _ _ _ (W2.alloc (r7 #[O Y 0 0,I U 0,I .i8 0] 60));rw[←hK.o];clear hK;have af:W.heap.size≠W2.heap.size:=Nat.ne_of_lt j2;have hL:∀(l l2:List UInt8) (s:Nat) (D:J),MpS W3 W.heap.size W2.heap.size l l2 s D→∃x:Ks W3 (fun b=>b=W.heap.size),D=x.1:=fun l l2 s D h=>h.ks bq.o af (by decide)
  have cv:=bq.o;rw[HC.o]at cv;obtain⟨⟨a0,a1,a2,a3,a4,a5⟩,_⟩:=aC cv;have D0:=fun x:Ks W3 (fun b=>b=W.heap.size)=>x.h Z a0
  have D1:=fun x:Ks W3 (fun b=>b=W.heap.size)=>x.h Z a1
  have D2:=fun x:Ks W3 (fun b=>b=W.heap.size)=>x.h Z a2
  have hM:=Hd hL;have h4:0<(cz tx++[nx,(nf:Int)].flatMap (beB 8)).length:=by rw[J2,cG];simp
  have hN:([]:List UInt8).length+(cz tx++[nx,(nf:Int)].flatMap (beB 8)).length≤140737488355328:=by
   have:=bg.o;unfold szM at this;rw[bn.o]at this;rw[J2,cG];unfold cz;rw[J2,aO];have e:tx.data.toList.length=tx.size:=rfl;simp only[Kf,List.length_nil];omega
  have H4:=Hd (And.intro h4 hN);clear a0 a1 a2 a3 a4 a5 cv hL h4 hN;refine RE.z (by kernel_rfl) 15 [3,11,12,13,14] [3,12,14] (MpS W3 W.heap.size W2.heap.size [] (cz tx++[nx,(nf:Int)].flatMap (beB 8))) (MpR W3 W.heap.size W2.heap.size [] (cz tx++[nx,(nf:Int)].flatMap (beB 8))) (fun _ ys=>ys.getD 0 xk) (MpP W3 W.heap.size W2.heap.size [] (cz tx++[nx,(nf:Int)].flatMap (beB 8)) (PG 11 3 12 [nx,(nf:Int)] (cz tx) ([nx,(nf:Int)].flatMap (beB 8)))) (by kernel_rfl) (fun _ _ _ _ _ _ h H=>h.K H) (fun _ _ _ _ h _ hr=>h.K (fun _ _ _ _ h H=>h.K H) hr) (MpS.of (by decide) (JO _ _).drew) ?_;simp only[JY,J7,JZ,J6]
  repeat (refine RE.q (fun D=>∃x:Ks W3 (fun b=>b=W.heap.size),D=x.1) (fun _ _ _ h=>hM.o _ _ _ _ h) Z Z Z (MpS.of (by decide) (JO _ _).drew) ?_;go_big_quiet_step (fail);refine xL ?_)
  refine RE.h Z Z ?_ (fun x3=>?_)
  ·intro D _ Q _;have F:=MpS.lo (Q Z) (by decide);refine RE.C 18 _ _ Z (enters_of Tryz.func18 (by kernel_rfl) Z) #[r9 tx] (by simp[Act.eval]) ((BE tx D (by have:=bg.o;unfold szM at this;rw[bn.o]at this;omega)).mono ?_);intro e U' B;obtain⟨v,rfl,B⟩:=B;obtain⟨h1,K⟩:=av.fb (v:=v) ⟨v,Z,B⟩;exact⟨v,Z,[v],Z,MpS.of (s:=1) (by decide) (F.trans (K.mono F.size)),wD K,wF h1⟩
  simp only[xS,JP,JW,JV]
  repeat (refine RE.q (fun D=>∃x:Ks W3 (fun b=>b=W.heap.size),D=x.1) (fun _ _ _ h=>hM.o _ _ _ _ h) Z Z Z (MpS.of (by decide) (JO _ _).drew) ?_;go_big_quiet_step (fail);refine xL ?_)
  refine RE.h Z Z ?_ (fun en=>?_)
  ·intro D _ _ _;refine jC rZ (u:=I U nx) (v:=I U nf) _ _ Z (by simp[Act.eval]) (by simp[Act.eval]) (pI _ _) (fun U' H P=>?_);exact⟨[_],Z,H,wD H,wF (FI.two P HI.o.1 (by unfold I64;omega))⟩
  simp only[xS,JP,JW,JV];refine RE.h Z Z ?_ (fun gL=>?_)
  ·intro D _ Q hE;have F:=MpS.lo (Q Z) (by decide);have cR:FI [nx,(nf:Int)] D (en.getD 0 xk):=MpP.get (hE 11 en (by kernel_rfl) Z) cC.o H4.o.1 F;refine RE.C 19 _ _ Z (enters_of Tryz.func19 (by kernel_rfl) Z) #[en.getD 0 xk] (by simp[Act.eval]) ((iW cR (by simp)).mono ?_);intro e U' B;obtain⟨v,rfl,B⟩:=B;obtain⟨h1,K⟩:=av.fb (v:=v) ⟨v,Z,B⟩;exact⟨v,Z,[v],Z,MpS.of (s:=2) (by decide) (F.trans (K.mono F.size)),wD K,wF h1⟩
  simp only[xS,JP,JW,JV];refine RE.h Z Z ?_ (fun gM=>?_)
  ·intro D cT _ hE;obtain⟨s,hs,Q⟩:=cT;have hO:s≤2:=JU hs (Nat.le_of_eq (by kernel_rfl));have F:=MpS.lo Q (by omega);have h3:FB (cz tx) D (x3.getD 0 xk):=MpP.get (hE 3 x3 (by kernel_rfl) Z) cC.o H4.o.1 F;have b0:FB ([nx,(nf:Int)].flatMap (beB 8)) D (gL.getD 0 xk):=MpP.get (hE 12 gL (by kernel_rfl) Z) cC.o H4.o.1 F;refine jC nW (u:=x3.getD 0 xk) (v:=gL.getD 0 xk) _ _ Z (by simp[Act.eval]) (by simp[Act.eval]) (pS h3 b0) (fun U' H P=>?_);exact⟨[_],Z,H,wD H,wF (FP.of P (h3.K H) (b0.K H) (by unfold cz;rw[J2,aO];omega))⟩
  simp only[xS,JP,JW,JV];refine RE.h Z Z ?_ (fun k6=>?_)
  ·intro D _ Q hE;have F:=MpS.lo (Q Z) (by decide);have cV:FP (cz tx++[nx,(nf:Int)].flatMap (beB 8)) D (gM.getD 0 xk):=MpP.get (hE 13 gM (by kernel_rfl) Z) cC.o H4.o.1 F;refine RE.C 17 _ _ Z (enters_of Tryz.func17 (by kernel_rfl) Z) #[vo (A ⟨W2.heap.size,0,Y⟩),gM.getD 0 xk] (by simp[Act.eval]) ((rQ cC.o F cV H4.o.1 H4.o.2).mono ?_);rintro e U' ⟨rfl,K⟩;exact⟨_,Z,[y9 #[]],Z,MpS.done (s:=3) (by decide) K,wF K,wD K⟩
  simp only[xS,JP,JW,JV];refine RE.u ?_;intro W4 Q hE;have N:=MpS.hi Q (by decide);rw[List.nil_append]at N;have e3:=Hd N;have gN:=N.q bq.o af (by decide);rw[HC.o]at gN;obtain⟨⟨a0,a1,a2,a3,a4,a5⟩,_⟩:=aC gN;clear N hE Q D0 D1 D2 H4 gN;go_wp2_with fail
  clear a0 a1 a2 a3 a4 a5
  go_loopw [33] (BS W3 W.heap.size W2.heap.size m.a bD (cz tx++[nx,(nf:Int)].flatMap (beB 8))) (fun i _=>nf-(intOf i).toNat)
  case atStart=>exact⟨_,0,Z,Z,J0 _,by simpa using e3.o⟩
  case round =>
   clear e3;obtain⟨E,k,rfl,rfl,hk,N⟩:=hrel;rw[HF.o]at hk;have d:=N;have b1:=Hd N;clear N
   by_cases a6:k<nf
   ·have e4:(k:Int)<nf:=by omega
    obtain⟨f,eo⟩:∃v,m.a[k]?=A v:=⟨m.a[k]'(by rw[HF.o];exact a6),JR (by rw[HF.o];exact a6)⟩;have ba:=cy.o.trans d.2.1;obtain⟨bb,off,cap,us,b2,_,_,_,cW,bt,q⟩:=Rd.X (ix.o _ ba) eo;injection b2 with hp c0 c1
    subst hp;clear c0 c1;obtain⟨ca,et,sl,rfl,R⟩:=bW.1 bt;obtain⟨p6,c6,aq⟩:=Rd.q R;obtain⟨T,bB⟩:=zzy (f.c.length);rw[bB]at aq;subst aq;have d0:E.cell? ⟨bb,off+k*3,Y⟩=A (I U f.id):=q 0 _ Z;have d1:E.cell? ⟨bb,off+k*3+1,Y⟩=A (I U f.u):=q 1 _ Z;have d2:E.cell? ⟨bb,off+k*3+2,Y⟩=A (O p6 T c6):=q 2 _ Z;obtain⟨G,X⟩:=zzx (E.alloc (r7 #[I U f.id,I U f.u,O p6 T c6] 47));have ad:Kr E G:=by rw[X];exact (JO _ E).alloc (JM _) _
    have bk:G.heap[E.heap.size]?=A (r7 #[I U f.id,I U f.u,O p6 T c6] 47 (0,0)):=by rw[X];exact oc E _
    have S:=d.C ad;have hle:=ba.size;have c3:=ad.size;have hz:=lG szF m.a k f eo;have hV:=Ct (W:=G) (f:=f) (aG.N (fun x P=>(by omega:x<G.heap.size)) (aG.K (fun x P o B=>(ad.block x (JS P hle)).trans B) bt)) (by have:=bg.o;unfold szM at this;omega);have cm:(cz tx++[nx,(nf:Int)].flatMap (beB 8)++(m.a.take k).flatMap bD).length+(bD f).length≤140737488355328:=by
     have h3:=ii jD (m.a.take k);have h4:=bg.o;have h5:=jD f;unfold szM at h4;rw[bn.o]at h4;unfold cz;rw[J2,J2,J2,cG,aO];have e:tx.data.toList.length=tx.size:=rfl;simp only[Kf,List.length_nil];omega
    have b3:0<(bD f).length:=by unfold bD;rw[J2,J2,aO];omega
    obtain⟨HV,r,kc,b4,kk,HZ⟩:=zz6 hV S bk X eo (And.intro b3 cm);clear ad bk S X q bt cW cm d eo ba R ca et bB hV hz b3 hle c3;go_upto_region 8 with fail
    change Code.wp _ _ _ _ (E.alloc (r7 #[I U f.id,I U f.u,O p6 T c6] 47));rw[←b4.o];clear b4 d0 d1 d2;obtain⟨d0,d1,d2,_⟩:=aL kc.o;go_wp2_with fail
    refine HV.o.mono ?_;intro e W7 B;obtain⟨v,rfl,B⟩:=B;obtain⟨h1,K⟩:=av.fb (v:=v) ⟨v,Z,B⟩;have w:=r.o.C K;obtain⟨HP,k4⟩:=zz2 (oL w h1 HZ.o.1 HZ.o.2) w;obtain⟨p7,c7,b5,_⟩:=h1;obtain⟨n7,b6⟩:=zzy ((bD f).length);rw[b6]at b5;subst b5;clear K w B b6 HV;go_wp2_with fail
    refine HP.o.mono ?_;rintro e W8 ⟨rfl,M⟩;have ar:dS W3 W.heap.size W2.heap.size (cz tx++[nx,(nf:Int)].flatMap (beB 8)++(m.a.take (k+1)).flatMap bD) W8:=by
     rw[Kj,kk.o,List.flatMap_append];simp only[Option.toList,List.flatMap_cons,List.flatMap_nil,List.append_nil]at M ⊢;rw[←List.append_assoc];exact M
    have b7:=Hd ar;clear M ar HP;go_wp2_with fail
    refine⟨⟨_,k+1,Z,by go_num,by rw[HF.o];omega,b7.o⟩,by simp[intOf];omega⟩
   ·obtain rfl:k=nf:=by omega
    have bl:(m.a.take k).flatMap bD=m.a.flatMap bD:=by rw[←HF.o,List.take_length]
    rw[bl]at d;have cb:=d.q bq.o af (by decide);rw[HC.o]at cb;obtain⟨⟨a0,a1,a2,a3,a4,a5⟩,_⟩:=aC cb;obtain⟨HN,r⟩:=zz2 (FX (x:=(nt:Int)) (by unfold I64;omega) E) d;clear cb d b1 bl;go_wp2_with fail
    refine HN.o.mono ?_;intro e W7 B;obtain⟨v,rfl,B⟩:=B;obtain⟨h1,K⟩:=av.fb (v:=v) ⟨v,Z,B⟩;have w:=r.o.C K;have hz:(cz tx++[nx,(k:Int)].flatMap (beB 8)++m.a.flatMap bD).length+([(nt:Int)].flatMap (beB 8)).length≤140737488355328:=by
     have h3:=ii jD m.a;have h4:=bg.o;unfold szM at h4;rw[bn.o]at h4;unfold cz;rw[J2,J2,J2,cG,cG,aO];have e:tx.data.toList.length=tx.size:=rfl;simp only[Kf,List.length_nil];omega
    have HP:=Hd (oL w h1 (by rw[cG];simp) hz);have cc:=w.q bq.o af (by decide);rw[HC.o]at cc;obtain⟨p7,c7,b5,_⟩:=h1;obtain⟨n7,b6⟩:=zzy (([(nt:Int)].flatMap (beB 8)).length);rw[b6]at b5;subst b5;clear K w B b6 HN hz a0 a1 a2 a3 a4 a5;obtain⟨⟨a0,a1,a2,a3,a4,a5⟩,_⟩:=aC cc;clear cc;go_wp2_with fail
    refine HP.o.mono ?_;rintro e W8 ⟨rfl,M⟩;have ch:=M.q bq.o af (by decide);rw[HC.o]at ch;have bd:=Hd M;clear a0 a1 a2 a3 a4 a5 HP M r;obtain⟨⟨a0,a1,a2,a3,a4,a5⟩,_⟩:=aC ch;clear ch;go_wp2_with fail
    clear a0 a1 a2 a3 a4 a5;obtain⟨L2,e0⟩:=zzy (cz tx++[nx,(k:Int)].flatMap (beB 8)++m.a.flatMap bD++[(nt:Int)].flatMap (beB 8));have e5:L2.length≤28+tx.size+(m.a.map szF).sum:=by
     have h3:=ii jD m.a;rw[←e0];unfold cz;rw[J2,J2,J2,J2,cG,cG,aO];have e:tx.data.toList.length=tx.size:=rfl;simp only[Kf,List.length_nil];omega
    rw[e0]at bd;obtain⟨hP,e6⟩:=zz2 e0 e5;clear e0 e5
    go_loopw [54] (BS W3 W.heap.size W2.heap.size m.d fu L2) (fun i _=>nt-(intOf i).toNat)
    case atStart=>exact⟨_,0,Z,Z,J0 _,by simpa using bd.o⟩
    case round =>
     clear bd;obtain⟨E,j,rfl,rfl,hj,N⟩:=hrel;rw[HT.o]at hj;have d:=N;have b1:=Hd N;clear N
     by_cases a6:j<nt
     ·have e4:(j:Int)<nt:=by omega
      obtain⟨t,bR⟩:∃v,m.d[j]?=A v:=⟨m.d[j]'(by rw[HT.o];exact a6),JR (by rw[HT.o];exact a6)⟩;have ba:=cy.o.trans d.2.1;obtain⟨bb,off,cap,us,b2,_,_,_,cW,bt,q⟩:=Rd.X (iA.o _ ba) bR;injection b2 with hp c0 c1
      subst hp;clear c0 c1;obtain⟨ca,sl,rfl,R⟩:=gz.1 bt;obtain⟨p6,c6,aq⟩:=Rd.q R;have c5:=Rd.sb R;obtain⟨T,bB⟩:=zzy (t.b.length);rw[bB]at aq c5;subst aq;have d0:E.cell? ⟨bb,off+j*2,Y⟩=A (I U t.a):=q 0 _ Z;have d1:E.cell? ⟨bb,off+j*2+1,Y⟩=A (O p6 T c6):=q 1 _ Z;obtain⟨G,X⟩:=zzx (E.alloc (r7 #[I U t.a,O p6 T c6] 50));have ad:Kr E G:=by rw[X];exact (JO _ E).alloc (JM _) _
      have bk:G.heap[E.heap.size]?=A (r7 #[I U t.a,O p6 T c6] 50 (0,0)):=by rw[X];exact oc E _
      have S:=d.C ad;have hle:=ba.size;have c3:=ad.size;have gO:=cy.o.trans S.2.1;have hz:=lG szT m.d j t bR;have hQ:∀V,Kr G V→FI t.b V (O p6 T c6):=fun V hV=>FI.K (Rd.sI (fun x P=>(by omega:x<G.heap.size)) (Rd.sv (fun x P o B=>(ad.block x (JS P hle)).trans B) R)) hV
      have ck:[t.a,(T:Int)].flatMap (beB 8)++t.b.flatMap (beB 8)=fu t:=by unfold fu;rw[bB,List.flatMap_cons,List.flatMap_cons,List.flatMap_nil,List.append_nil]
      have cq:0<([t.a,(T:Int)].flatMap (beB 8)++t.b.flatMap (beB 8)).length:=by rw[J2,cG];simp only[Kf,List.length_nil];omega
      have cr:(L2++(m.d.take j).flatMap fu).length+([t.a,(T:Int)].flatMap (beB 8)++t.b.flatMap (beB 8)).length≤140737488355328:=by
       have h3:=ii (z:=szT) (fun t=>Nat.le_of_eq (lH t)) (m.d.take j);have h4:=bg.o;have h5:=e6.o;unfold szM at h4;rw[bn.o]at h4;rw[ck,lH,J2];omega
      have e7:t.b.length*8≤140737488355328:=by
       have h4:=bg.o;unfold szM at h4;have h5:szT t=16+t.b.length*8:=rfl;omega
      have b8:E.heap.size≠W2.heap.size:=by have:=d.1.lt;omega
      obtain⟨d2,d3,_⟩:=cj bk;have D0:=fun x:Ks G (fun b=>b=E.heap.size)=>x.h Z d2
      have D1:=fun x:Ks G (fun b=>b=E.heap.size)=>x.h Z d3
      obtain⟨b9,c8,r,b4,gS,HZ,gT⟩:=zz7 (fun (l l2:List UInt8) (s:Nat) (D:J) (h:MpS G W.heap.size W2.heap.size l l2 s D)=>h.ks bk b8 (by decide)) (And.intro ca (show I64 (T:Int) by unfold I64;unfold maxLen at c5;omega)) S X bR (And.intro cq cr) ck;obtain⟨kn,hR⟩:=zz2 hQ e7;clear ad bk S X q bt cW d bR ba R ca bB hz hle c3 gO hQ ck cq cr e7 b8 d2 d3 c5;go_upto_region 14 with fail
      change Code.wp _ _ _ _ (E.alloc (r7 #[I U t.a,O p6 T c6] 50));rw[←b4.o];clear b4 d0 d1;refine RE.z (by kernel_rfl) 12 [5,6,9,10,11] [6,9,11] (MpS G W.heap.size W2.heap.size (L2++(m.d.take j).flatMap fu) ([t.a,(T:Int)].flatMap (beB 8)++t.b.flatMap (beB 8))) (MpR G W.heap.size W2.heap.size (L2++(m.d.take j).flatMap fu) ([t.a,(T:Int)].flatMap (beB 8)++t.b.flatMap (beB 8))) (fun _ ys=>ys.getD 0 xk) (MpP G W.heap.size W2.heap.size (L2++(m.d.take j).flatMap fu) ([t.a,(T:Int)].flatMap (beB 8)++t.b.flatMap (beB 8)) (PG 5 6 9 [t.a,(T:Int)] ([t.a,(T:Int)].flatMap (beB 8)) (t.b.flatMap (beB 8)))) (by kernel_rfl) (fun _ _ _ _ _ _ h H=>h.K H) (fun _ _ _ _ h _ hr=>h.K (fun _ _ _ _ h H=>h.K H) hr) (MpS.of (by decide) (JO _ _).drew) ?_;simp only[JY,J7,JZ,J6]
      repeat (refine RE.q (fun D=>∃x:Ks G (fun b=>b=E.heap.size),D=x.1) (fun _ _ _ h=>b9.o _ _ _ _ h) Z Z Z (MpS.of (by decide) (JO _ _).drew) ?_;go_big_quiet_step (fail);refine xL ?_)
      refine RE.h Z Z ?_ (fun x5=>?_)
      ·intro D _ _ _;refine jC rZ (u:=I U t.a) (v:=I U T) _ _ Z (by simp[Act.eval]) (by simp[Act.eval]) (pI _ _) (fun U' H P=>?_);exact⟨[_],Z,H,wD H,wF (FI.two P c8.o.1 c8.o.2)⟩
      simp only[xS,JP,JW,JV];refine RE.h Z Z ?_ (fun x6=>?_)
      ·intro D _ Q hE;have F:=MpS.lo (Q Z) (by decide);have cR:FI [t.a,(T:Int)] D (x5.getD 0 xk):=MpP.get (hE 5 x5 (by kernel_rfl) Z) r.o.1 HZ.o.1 F;refine RE.C 19 _ _ Z (enters_of Tryz.func19 (by kernel_rfl) Z) #[x5.getD 0 xk] (by simp[Act.eval]) ((iW cR (by simp)).mono ?_);intro e U' B;obtain⟨v,rfl,B⟩:=B;obtain⟨h1,K⟩:=av.fb (v:=v) ⟨v,Z,B⟩;exact⟨v,Z,[v],Z,MpS.of (s:=1) (by decide) (F.trans (K.mono F.size)),wD K,wF h1⟩
      simp only[xS,JP,JW,JV]
      repeat (refine RE.q (fun D=>∃x:Ks G (fun b=>b=E.heap.size),D=x.1) (fun _ _ _ h=>b9.o _ _ _ _ h) Z Z Z (MpS.of (by decide) (JO _ _).drew) ?_;go_big_quiet_step (fail);refine xL ?_)
      refine RE.h Z Z ?_ (fun x9=>?_)
      ·intro D _ Q hE;have F:=MpS.lo (Q Z) (by decide);refine RE.C 19 _ _ Z (enters_of Tryz.func19 (by kernel_rfl) Z) #[O p6 T c6] (by simp[Act.eval]) ((iW (kn.o D F) hR.o).mono ?_);intro e U' B;obtain⟨v,rfl,B⟩:=B;obtain⟨h1,K⟩:=av.fb (v:=v) ⟨v,Z,B⟩;exact⟨v,Z,[v],Z,MpS.of (s:=2) (by decide) (F.trans (K.mono F.size)),wD K,wF h1⟩
      simp only[xS,JP,JW,JV];refine RE.h Z Z ?_ (fun e1=>?_)
      ·intro D cT _ hE;obtain⟨s,hs,Q⟩:=cT;have hO:s≤2:=JU hs (Nat.le_of_eq (by kernel_rfl));have F:=MpS.lo Q (by omega);have h3:FB ([t.a,(T:Int)].flatMap (beB 8)) D (x6.getD 0 xk):=MpP.get (hE 6 x6 (by kernel_rfl) Z) r.o.1 HZ.o.1 F;have b0:FB (t.b.flatMap (beB 8)) D (x9.getD 0 xk):=MpP.get (hE 9 x9 (by kernel_rfl) Z) r.o.1 HZ.o.1 F;refine jC nW (u:=x6.getD 0 xk) (v:=x9.getD 0 xk) _ _ Z (by simp[Act.eval]) (by simp[Act.eval]) (pS h3 b0) (fun U' H P=>?_);exact⟨[_],Z,H,wD H,wF (FP.of P (h3.K H) (b0.K H) (by rw[cG];simp))⟩
      simp only[xS,JP,JW,JV];refine RE.h Z Z ?_ (fun en=>?_)
      ·intro D _ Q hE;have F:=MpS.lo (Q Z) (by decide);have cV:FP ([t.a,(T:Int)].flatMap (beB 8)++t.b.flatMap (beB 8)) D (e1.getD 0 xk):=MpP.get (hE 10 e1 (by kernel_rfl) Z) r.o.1 HZ.o.1 F;refine RE.C 17 _ _ Z (enters_of Tryz.func17 (by kernel_rfl) Z) #[vo (A ⟨W2.heap.size,0,Y⟩),e1.getD 0 xk] (by simp[Act.eval]) ((rQ r.o.1 F cV HZ.o.1 HZ.o.2).mono ?_);rintro e U' ⟨rfl,K⟩;exact⟨_,Z,[y9 #[]],Z,MpS.done (s:=3) (by decide) K,wF K,wD K⟩
      simp only[xS,JP,JW,JV];refine RE.u ?_;intro W7 Q hE;have w:=r.o.h (MpS.hi Q (by decide));have ar:dS W3 W.heap.size W2.heap.size (L2++(m.d.take (j+1)).flatMap fu) W7:=by
       rw[gT.o]at w;rw[Kj,gS.o,List.flatMap_append];simp only[Option.toList,List.flatMap_cons,List.flatMap_nil,List.append_nil];rw[←List.append_assoc];exact w
      have b7:=Hd ar;clear w ar hE Q D0 D1;go_wp2_with fail
      refine⟨⟨_,j+1,Z,by go_num,by rw[HT.o];omega,b7.o⟩,by simp[intOf];omega⟩
     ·obtain rfl:j=nt:=by omega
      have bl:(m.d.take j).flatMap fu=m.d.flatMap fu:=by rw[←HT.o,List.take_length]
      rw[bl]at d;have cb:=d.q bq.o af (by decide);rw[HC.o]at cb;obtain⟨⟨a0,a1,a2,a3,a4,a5⟩,_⟩:=aC cb;obtain⟨HN,r⟩:=zz2 (Gc (x:=mn) (y:=(ns:Int)) HI.o.2 (by unfold I64;omega) E) d;clear cb d b1 bl;go_wp2_with fail
      refine HN.o.mono ?_;intro e W7 B;obtain⟨v,rfl,B⟩:=B;obtain⟨h1,K⟩:=av.fb (v:=v) ⟨v,Z,B⟩;have w:=r.o.C K;have hT:(L2++m.d.flatMap fu).length≤28+tx.size+(m.a.map szF).sum+(m.d.map szT).sum:=by
       have h3:=ii (z:=szT) (fun t=>Nat.le_of_eq (lH t)) m.d;have h5:=e6.o;rw[J2];omega
      have hz:(L2++m.d.flatMap fu).length+([mn,(ns:Int)].flatMap (beB 8)).length≤140737488355328:=by
       have h4:=bg.o;unfold szM at h4;rw[bn.o]at h4;rw[cG];simp only[Kf,List.length_nil];omega
      have HP:=Hd (oL w h1 (by rw[cG];simp) hz);have cc:=w.q bq.o af (by decide);rw[HC.o]at cc;obtain⟨p7,c7,b5,_⟩:=h1;obtain⟨n7,b6⟩:=zzy (([mn,(ns:Int)].flatMap (beB 8)).length);rw[b6]at b5;subst b5;have hU:=Hd hT;clear K w B b6 HN hz a0 a1 a2 a3 a4 a5 hT;obtain⟨⟨a0,a1,a2,a3,a4,a5⟩,_⟩:=aC cc;clear cc;go_wp2_with fail
      refine HP.o.mono ?_;rintro e W8 ⟨rfl,M⟩;have ch:=M.q bq.o af (by decide);rw[HC.o]at ch;have bd:=Hd M;clear a0 a1 a2 a3 a4 a5 HP M r;obtain⟨⟨a0,a1,a2,a3,a4,a5⟩,_⟩:=aC ch;clear ch;go_wp2_with fail
      clear a0 a1 a2 a3 a4 a5;obtain⟨L3,e2⟩:=zzy (L2++m.d.flatMap fu++[mn,(ns:Int)].flatMap (beB 8));have e8:L3.length≤44+tx.size+(m.a.map szF).sum+(m.d.map szT).sum:=by
       have h5:=hU.o;rw[←e2,J2,cG];simp only[Kf,List.length_nil];omega
      rw[e2]at bd;obtain⟨hW,e9⟩:=zz2 e2 e8;clear e2 e8 hU
      go_loopw [83] (BS W3 W.heap.size W2.heap.size m.e fc L3) (fun i _=>ns-(intOf i).toNat)
      case atStart=>exact⟨_,0,Z,Z,J0 _,by simpa using bd.o⟩
      case round =>
       clear bd;obtain⟨E,i,rfl,rfl,hi,N⟩:=hrel;rw[HS.o]at hi;have d:=N;have b1:=Hd N;clear N
       by_cases a6:i<ns
       ·have e4:(i:Int)<ns:=by omega
        obtain⟨t,bR⟩:∃v,m.e[i]?=A v:=⟨m.e[i]'(by rw[HS.o];exact a6),JR (by rw[HS.o];exact a6)⟩;have ba:=cy.o.trans d.2.1;obtain⟨bb,off,cap,us,b2,_,_,_,cW,bt,q⟩:=Rd.X (iB.o _ ba) bR;injection b2 with hp c0 c1
        subst hp;clear c0 c1;obtain⟨ca,et,rs,rfl,cl⟩:=gx.1 bt;obtain⟨kv,kI,sf,ss,cn,R,c9⟩:=cY.1 cl;subst cn;obtain⟨p6,c6,aq⟩:=Rd.q R;obtain⟨p7,c7,fm⟩:=Rd.q c9;obtain⟨T,bB⟩:=zzy (t.a.a.length);obtain⟨m7,hX⟩:=zzy (t.a.b.length);rw[bB]at aq;rw[hX]at fm;subst aq;subst fm;obtain⟨er,hY⟩:=zzy (t.a.h);obtain⟨nu,h7⟩:=zzy (t.a.u);rw[hY,h7]at cl q;have d0:E.cell? ⟨bb,off+i*6,Y⟩=A (I U t.id):=q 0 _ Z;have d1:E.cell? ⟨bb,off+i*6+1,Y⟩=A (I U t.b):=q 1 _ Z;have d2:E.cell? ⟨bb,off+i*6+2,Y⟩=A (I U er):=q 2 _ Z;have d3:E.cell? ⟨bb,off+i*6+3,Y⟩=A (I U nu):=q 3 _ Z;have d4:E.cell? ⟨bb,off+i*6+4,Y⟩=A (O p6 T c6):=q 4 _ Z;have d5:E.cell? ⟨bb,off+i*6+5,Y⟩=A (O p7 m7 c7):=q 5 _ Z;obtain⟨G,X⟩:=zzx (E.alloc (r7 #[I U t.id,I U t.b,I U er,I U nu,O p6 T c6,O p7 m7 c7] 54));have ad:Kr E G:=by rw[X];exact (JO _ E).alloc (JM _) _
        have bk:G.heap[E.heap.size]?=A (r7 #[I U t.id,I U t.b,I U er,I U nu,O p6 T c6,O p7 m7 c7] 54 (0,0)):=by rw[X];exact oc E _
        have S:=d.C ad;have hle:=ba.size;have c3:=ad.size;have gO:=cy.o.trans S.2.1;have hz:=lG szS m.e i t bR;have h8:∀V,Kr G V→bJ.at_ V (fun x=>x<V.heap.size) t.a [I U er,I U nu,O p6 T c6,O p7 m7 c7]:=fun V hV=>bJ.N (fun x P=>(by have:=hV.size;omega:x<V.heap.size)) (bJ.K (fun x P o B=>(hV.block x (by omega)).trans ((ad.block x (JS P hle)).trans B)) cl)
        have ck:[t.id,t.b].flatMap (beB 8)++cQ t.a=fc t:=by unfold fc;rw[List.flatMap_cons,List.flatMap_cons,List.flatMap_nil,List.append_nil]
        have cq:0<([t.id,t.b].flatMap (beB 8)++cQ t.a).length:=by rw[J2,cG];simp only[Kf,List.length_nil];omega
        have h4:=bg.o;unfold szM at h4;rw[bn.o]at h4;have cr:(L3++(m.e.take i).flatMap fc).length+([t.id,t.b].flatMap (beB 8)++cQ t.a).length≤140737488355328:=by
         have h3:=ii mC (m.e.take i);have h5:=e9.o;have h6:=mC t;rw[ck,J2];omega
        have fr:szR t.a≤140737488355328:=by
         have h5:szS t=16+szR t.a:=rfl;omega
        have b8:E.heap.size≠W2.heap.size:=by have:=d.1.lt;omega
        obtain⟨⟨x0,x1,x2,x3,x4,x5⟩,_⟩:=aC bk;have D0:=fun x:Ks G (fun b=>b=E.heap.size)=>x.h Z x0
        have D1:=fun x:Ks G (fun b=>b=E.heap.size)=>x.h Z x1
        have D2:=fun x:Ks G (fun b=>b=E.heap.size)=>x.h Z x2
        have D3:=fun x:Ks G (fun b=>b=E.heap.size)=>x.h Z x3
        have D4:=fun x:Ks G (fun b=>b=E.heap.size)=>x.h Z x4
        have D5:=fun x:Ks G (fun b=>b=E.heap.size)=>x.h Z x5
        obtain⟨b9,c8,r,b4,gS,HZ,gT⟩:=zz7 (fun (l l2:List UInt8) (s:Nat) (D:J) (h:MpS G W.heap.size W2.heap.size l l2 s D)=>h.ks bk b8 (by decide)) (And.intro ca et) S X bR (And.intro cq cr) ck;obtain⟨k0,k1⟩:=zz2 h8 fr;clear ad bk S X q bt cW d bR ba R c9 cl ca et kv kI bB hX hY h7 hz hle c3 gO h8 ck cq cr fr b8 x0 x1 x2 x3 x4 x5 h4;go_upto_region 20 with fail
        change Code.wp _ _ _ _ (E.alloc (r7 #[I U t.id,I U t.b,I U er,I U nu,O p6 T c6,O p7 m7 c7] 54));rw[←b4.o];clear b4 d0 d1 d2 d3 d4 d5;refine RE.z (by kernel_rfl) 11 [4,5,8,9,10] [5,8,10] (MpS G W.heap.size W2.heap.size (L3++(m.e.take i).flatMap fc) ([t.id,t.b].flatMap (beB 8)++cQ t.a)) (MpR G W.heap.size W2.heap.size (L3++(m.e.take i).flatMap fc) ([t.id,t.b].flatMap (beB 8)++cQ t.a)) (fun _ ys=>ys.getD 0 xk) (MpP G W.heap.size W2.heap.size (L3++(m.e.take i).flatMap fc) ([t.id,t.b].flatMap (beB 8)++cQ t.a) (PG 4 5 8 [t.id,t.b] ([t.id,t.b].flatMap (beB 8)) (cQ t.a))) (by kernel_rfl) (fun _ _ _ _ _ _ h H=>h.K H) (fun _ _ _ _ h _ hr=>h.K (fun _ _ _ _ h H=>h.K H) hr) (MpS.of (by decide) (JO _ _).drew) ?_;simp only[JY,J7,JZ,J6]
        repeat (refine RE.q (fun D=>∃x:Ks G (fun b=>b=E.heap.size),D=x.1) (fun _ _ _ h=>b9.o _ _ _ _ h) Z Z Z (MpS.of (by decide) (JO _ _).drew) ?_;go_big_quiet_step (fail);refine xL ?_)
        refine RE.h Z Z ?_ (fun x4=>?_)
        ·intro D _ _ _;refine jC rZ (u:=I U t.id) (v:=I U t.b) _ _ Z (by simp[Act.eval]) (by simp[Act.eval]) (pI _ _) (fun U' H P=>?_);exact⟨[_],Z,H,wD H,wF (FI.two P c8.o.1 c8.o.2)⟩
        simp only[xS,JP,JW,JV];refine RE.h Z Z ?_ (fun x5=>?_)
        ·intro D _ Q hE;have F:=MpS.lo (Q Z) (by decide);have cR:FI [t.id,t.b] D (x4.getD 0 xk):=MpP.get (hE 4 x4 (by kernel_rfl) Z) r.o.1 HZ.o.1 F;refine RE.C 19 _ _ Z (enters_of Tryz.func19 (by kernel_rfl) Z) #[x4.getD 0 xk] (by simp[Act.eval]) ((iW cR (by simp)).mono ?_);intro e U' B;obtain⟨v,rfl,B⟩:=B;obtain⟨h1,K⟩:=av.fb (v:=v) ⟨v,Z,B⟩;exact⟨v,Z,[v],Z,MpS.of (s:=1) (by decide) (F.trans (K.mono F.size)),wD K,wF h1⟩
        simp only[xS,JP,JW,JV]
        repeat (refine RE.q (fun D=>∃x:Ks G (fun b=>b=E.heap.size),D=x.1) (fun _ _ _ h=>b9.o _ _ _ _ h) Z Z Z (MpS.of (by decide) (JO _ _).drew) ?_;go_big_quiet_step (fail);refine xL ?_)
        refine RE.h Z Z ?_ (fun x8=>?_)
        ·intro D _ Q hE;have F:=MpS.lo (Q Z) (by decide);refine RE.C 21 _ _ Z (enters_of Tryz.func21 (by kernel_rfl) Z) #[wP #[I U er,I U nu,O p6 T c6,O p7 m7 c7]] (by simp[Act.eval]) ((qX (k0.o D F) k1.o).mono ?_);intro e U' B;obtain⟨v,rfl,B⟩:=B;obtain⟨h1,K⟩:=av.fb (v:=v) ⟨v,Z,B⟩;exact⟨v,Z,[v],Z,MpS.of (s:=2) (by decide) (F.trans (K.mono F.size)),wD K,wF h1⟩
        simp only[xS,JP,JW,JV];refine RE.h Z Z ?_ (fun x9=>?_)
        ·intro D cT _ hE;obtain⟨s,hs,Q⟩:=cT;have hO:s≤2:=JU hs (Nat.le_of_eq (by kernel_rfl));have F:=MpS.lo Q (by omega);have h3:FB ([t.id,t.b].flatMap (beB 8)) D (x5.getD 0 xk):=MpP.get (hE 5 x5 (by kernel_rfl) Z) r.o.1 HZ.o.1 F;have b0:FB (cQ t.a) D (x8.getD 0 xk):=MpP.get (hE 8 x8 (by kernel_rfl) Z) r.o.1 HZ.o.1 F;refine jC nW (u:=x5.getD 0 xk) (v:=x8.getD 0 xk) _ _ Z (by simp[Act.eval]) (by simp[Act.eval]) (pS h3 b0) (fun U' H P=>?_);exact⟨[_],Z,H,wD H,wF (FP.of P (h3.K H) (b0.K H) (by rw[cG];simp))⟩
        simp only[xS,JP,JW,JV];refine RE.h Z Z ?_ (fun e1=>?_)
        ·intro D _ Q hE;have F:=MpS.lo (Q Z) (by decide);have cV:FP ([t.id,t.b].flatMap (beB 8)++cQ t.a) D (x9.getD 0 xk):=MpP.get (hE 9 x9 (by kernel_rfl) Z) r.o.1 HZ.o.1 F;refine RE.C 17 _ _ Z (enters_of Tryz.func17 (by kernel_rfl) Z) #[vo (A ⟨W2.heap.size,0,Y⟩),x9.getD 0 xk] (by simp[Act.eval]) ((rQ r.o.1 F cV HZ.o.1 HZ.o.2).mono ?_);rintro e U' ⟨rfl,K⟩;exact⟨_,Z,[y9 #[]],Z,MpS.done (s:=3) (by decide) K,wF K,wD K⟩
        simp only[xS,JP,JW,JV];refine RE.u ?_;intro W7 Q hE;have w:=r.o.h (MpS.hi Q (by decide));have ar:dS W3 W.heap.size W2.heap.size (L3++(m.e.take (i+1)).flatMap fc) W7:=by
         rw[gT.o]at w;rw[Kj,gS.o,List.flatMap_append];simp only[Option.toList,List.flatMap_cons,List.flatMap_nil,List.append_nil];rw[←List.append_assoc];exact w
        have b7:=Hd ar;clear w ar hE Q D0 D1 D2 D3 D4 D5;go_wp2_with fail
        refine⟨⟨_,i+1,Z,by go_num,by rw[HS.o];omega,b7.o⟩,by simp[intOf];omega⟩
       ·obtain rfl:i=ns:=by omega
        have bl:L3++(m.e.take i).flatMap fc=bV m:=by
         rw[←hW.o,←hP.o];unfold bV;rw[HF.o,HT.o,HS.o,bn.o,iX.o,jj.o,←HS.o,List.take_length];simp
        have b3:0<(bV m).length:=by rw[←bl,←hW.o,←hP.o];simp only[J2,cG,Kf,List.length_nil];omega
        have hlen:(bV m).length≤140737488355328:=by
         have h3:=ii mC (m.e.take i);have h5:=e9.o;have h4:=bg.o;have h6:((m.e.take i).map szS).sum=(m.e.map szS).sum:=by rw[←HS.o,List.take_length]
         unfold szM at h4;rw[bn.o]at h4;rw[←bl,J2];omega
        rw[bl]at d;obtain⟨hf,k2,k3⟩:=zz3 (ql d.1.1 b3) (cy.o.trans d.2.1) hlen;obtain⟨nb,hh⟩:=zzy ((bV m).length);rw[hh]at hf;have dd:=Hd hh;have h9:Hid (it okF m=(bV m,0)):=by show _=_;unfold it;rw[hA.o];rfl
        clear d b1 bl b3 hlen hh;go_wp2_with fail
        refine hf.o.mono ?_;rintro e W7 ⟨rfl,g,cap,rfl,hc⟩
        have ih:=Hd (Tryz.bytes_Clone_at ⟨g,0,Y⟩ nb cap ((bV m).map fun b=>(b.toNat:Int)) E.drew (by simp[dd.o]) (by rw[←dd.o];exact k3.o) (fun i hi=>by
         rw[ul (bV m) i (by rw[dd.o];exact hi),Addr.add_mid,Nat.zero_add]
         exact hc i _ (JR (by rw[dd.o];exact hi))))
        clear hc hf;go_wp2_with fail
        refine ih.o.mono ?_;rintro e W8 ⟨v',rfl,bm,_,H⟩;rw[oU,←dd.o]at bm;have HO:Hid (Kr W W8∧∃v,wg (y9 #[v',I U 0])=wg (y9 #[v,I U (it okF m).2])∧Lib.HoldsBytes W8 v (it okF m).1∧(∃p n c,v=O p n c∧n≤c)∧∀g,v.ownBlock=A g→W.heap.size≤g∧g<W8.heap.size):=by
         have hd:Kr W E.drew:=k2.o.drew;rw[h9.o];exact⟨hd.trans (H.mono hd.size),v',Z,mr bm,uU bm,fun g hg=>⟨JU hd.size (aP bm g hg).1,(aP bm g hg).2⟩⟩
        clear bm H ih;go_wp2_with fail
        go_returns
        exact HO.o
