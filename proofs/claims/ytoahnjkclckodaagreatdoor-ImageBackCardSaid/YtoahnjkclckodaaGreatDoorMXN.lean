/- The parser: rules, behind their word; by contract. Condition: at most 16385 tokens, each of at most 16384 bytes. -/
import Derived.Test.YtoahnjkclckodaaGreatDoorMX
open Go renaming World→J,wpQuiet_nil→xL
open Option renaming some→A,none→Y
open Go.Obj renaming cells→r7
open Go.Value renaming int→I,string→r9,slice→O,bool→xt,agg→wP,pointer→vo
open Go.IntKind renaming u8→r8,i64→U
open Bool renaming true→tT
namespace Go.Proofs.YtoahnjkclckodaaGreatDoor
set_option maxHeartbeats 4000000
set_option maxRecDepth 100000
open Go.RowKit
def Jd(w:J) (P L cap:Nat) (ts:List Tok) (tx:ByteArray) (a:Int) (r:Int×PS) (b c:Nat) (W:J):Prop:=
 ah w P L cap ts r.2.1 r.2.2 W∧W.heap[b]?=A (r7 #[I r8 4,r9 tx,I U r.1,I U a,O Y 0 0] 145 (0,0))∧W.heap[c]?=A (r7 bM 145 (0,0))
def nw(w:J) (P L cap:Nat) (ts:List Tok) (one:PS→ac×PS) (stop:ByteArray) (R:List ac×PS) (tx:ByteArray) (num a:Int) (c b:Nat) (W:J):Prop:=
 ∃(g:Nat) (ks:List ac) (σ:PS) (d:Nat) (rows:List (List Value)) (e:Nat→Nat→Prop) (o:Value),upTo ts one stop g ks σ=R∧(σ.2=tT∨ts.length-σ.1+1≤g)∧ks.length≤σ.1+(if σ.2=tT then 1 else 0)∧
  ah w P L cap ts σ.1 σ.2 W∧W.heap[b]?=A (r7 bM 145 (0,0))∧W.heap[c]?=A (r7 #[I r8 4,r9 tx,I U num,I U a,o] 145 (0,0))∧
  W.ownsRow (b+1) 145 5 o ks.length rows.flatten∧cI W (b+1) d ks ks.length o.ownBlock rows e
def gB(P:Nat) (W:J):Nat:=leftOf P W*2+(match W.cell? ⟨P,1,Y⟩ with|some (xt tT)=>0|_=>1)
theorem PAt.steps{w:J}{P L cap:Nat}{ts:List Tok}{k:Nat}{bad:Bool}(h:PAt w P L cap ts k bad):gB P w=(ts.length-k)*2+(if bad=tT then 0 else 1):=by
 obtain⟨_,_,_,_,_,a,_⟩:=h.z;unfold gB;rw[h.left,a]
 cases bad<;>rfl
theorem BV(ts:List Tok)(σ:PS):-2147483647≤(iC ts σ).1∧(iC ts σ).1≤2147483647:=by
 unfold iC;have a:=jM ts (ae ts σ);have b:=jM ts (ae ts (ae ts σ))
 (repeat' split)<;>dsimp only<;>omega
theorem EY{ts:List Tok}(bn:cJ ts):Dv ts (dT ts):=by
 intro a σ w P L cap la lb h;have K:=h.lt.1;have hL:=h.lt.2;obtain⟨cf,e8,hs⟩:=zz3 bn (Fx bn (GB bn) (jE ts)) (FA bn);obtain⟨i0,hv,hy,hz,hA⟩:=info_parts sq;obtain⟨wA,cp⟩:=zzx ((w.alloc (r7 #[I r8 0,r9 ⟨#[]⟩,I U 0,I U a,O Y 0 0] 145)).alloc (r7 bM 145));obtain⟨y,hC⟩:=zzy (w.heap.size);obtain⟨l,hD⟩:=zzy (w.heap.size+1);have hG:Kr w wA:=by rw[cp];exact mw w _ _
 have hI:=Hd (h.h hG);obtain⟨X1,X2,_⟩:=bc w (r7 #[I r8 0,r9 ⟨#[]⟩,I U 0,I U a,O Y 0 0] 145) (r7 bM 145);rw[←cp,hC]at X1;rw[←cp,hD]at X2;obtain⟨ih,hJ,ix⟩:=zz3 X1 X2 (jy bn hI.o.2 4 (by omega));have cb:(ofM ts σ 2 4).1.h.size≤16384:=(de bn _).2.1;obtain⟨R,hR⟩:=zzy (dT ts a σ);rw[hR];unfold dT at hR;dsimp only at hR;generalize ofM ts σ 2 4=nm at *;obtain⟨HR,hK⟩:=zz2 hR cb;clear X1 X2 hR bn h hG cb
 go_enter Tryz.func122,Tryz.ntmps122
 go_upto_region 1 with fail
 change Code.wp _ _ _ _ ((w.alloc (r7 #[I r8 0,r9 ⟨#[]⟩,I U 0,I U a,O Y 0 0] 145)).alloc (r7 bM 145));rw[←cp];have e1:y+1=l:=by omega
 rw[e1];have hM:w.heap.size≤y:=by omega
 have ld:y<l:=by omega
 have lf:l<wA.heap.size:=(JL.1 hJ.o).1;have HL:Hid (L<w.heap.size):=hL;clear cp hC hD e1;go_wp2_with fail
 refine JX ix.o ?_;rintro e w4 ⟨d,s,rfl,cq,ho,hf⟩;obtain⟨iA,hN,er⟩:=zz3 (hI.o.h cq) (cq.q hJ.o K (by omega)) (cq.q ih.o K (by omega));have lg:l<w4.heap.size:=(JL.1 hN.o).1;have lr:wA.heap.size≤w4.heap.size:=cq.1.size;obtain⟨p,c,rfl⟩:=ho.q;have iB:=iP nm.1.q nm.1.h nm.1.u nm.1.C nm.1.z.length p c w4;clear cq ho hf;obtain⟨w5,ch⟩:=zzx (((w4.setCell ⟨y,0,Y⟩ (I r8 4)).setCell ⟨y,1,Y⟩ (r9 nm.1.h)));have iX:w5.heap.size=w4.heap.size:=by rw[ch];simp[World.setCell]
 have l0:y<w5.heap.size:=by omega
 have hQ:Hid (ah w P L cap ts nm.2.1 nm.2.2 w5):=by rw[ch];exact ((iA.o.K K HL.o (by omega) 0 _).K K HL.o (by omega) 1 _)
 have jj:Hid (w5.heap[l]?=A (r7 bM 145 (0,0))):=by rw[ch];exact ((JQ _ _ _ _ (show l≠y by omega)).trans ((JQ _ _ _ _ (show l≠y by omega)).trans hN.o))
 have j2:Hid (w5.heap[y]?=A (r7 #[I r8 4,r9 nm.1.h,I U 0,I U a,O Y 0 0] 145 (0,0))):=by rw[ch];exact (heap_set (heap_set er.o 0 _) 1 _)
 have f0:=ab er.o 0;have f1:=ab er.o 1;obtain⟨n0,n1,n2,n3,n4⟩:=cells5 er.o;have H5:=Hd ch;clear ch;go_upto_region 2 with fail
 change Code.wp _ _ _ _ ((w4.setCell ⟨y,0,Y⟩ (I r8 4)).setCell ⟨y,1,Y⟩ (r9 nm.1.h));rw[←H5.o];clear n0 n1 n2 n3 n4 f0 f1;clear iB;have l1:w4.heap.size≤w5.heap.size:=by omega
 clear iX;obtain⟨ar,hU⟩:=zzy (nm.2);rw[hU]at hQ HR;obtain⟨sa,cr⟩:=zzy (iC ts ar);rw[cr]at HR;have kc:Hid (-2147483647≤sa.1∧sa.1≤2147483647):=by rw[←cr];exact BV ts ar
 unfold iC at cr;have hV:=Hd cr;clear cr;obtain⟨bq,ct,cu⟩:=zz3 (hQ.o.N (r7 #[r9 lV] 9)) ((Kp w5 (r7 #[r9 lV] 9) y (by omega)).trans j2.o) ((Kp w5 (r7 #[r9 lV] 9) l (by omega)).trans jj.o);have cv:=Hd (dK bq.o.2 w5.heap.size 0 1 1 [lV] (bU [lV]) Z (by omega));go_wp2_with fail
 refine JX cv.o ?_;rintro e w6 ⟨rfl,ht⟩;obtain⟨cy,e9,hW⟩:=zz3 (bq.o.h ht) (ht.q cu.o K (by omega)) (ht.q ct.o K (by omega));have l3:l<w6.heap.size:=(JL.1 e9.o).1;clear ht bq ct cu cv
 go_upto_if 15 with fail
 go_cut [] from 5 to 27 (fun wx=>Jd w P L cap ts nm.1.h a sa y l wx)
 case rest =>
  obtain⟨fm,hX,fr⟩:=hcut;obtain⟨kk,kn,kv⟩:=zz3 fm hX fr;have l4:l<wc.heap.size:=(JL.1 fr).1;have HW:=Hd (di fm.2 lm);clear fm hX fr;go_wp2_with fail
  refine JX HW.o ?_;rintro e wd ⟨rfl,et⟩;obtain⟨hY,h0,kI⟩:=zz3 (kk.o.h et) (et.q kv.o K (by omega)) (et.q kn.o K (by omega));have mb:l<wd.heap.size:=(JL.1 h0.o).1;obtain⟨h4,e2⟩:=zzy (aQ ts sa.2 lm);rw[e2]at hY HR;obtain⟨Rc,fs⟩:=zzy (upTo ts (dL ts (eA ts)) tTo (ts.length+1) [] h4);rw[fs]at HR;have h5:Hid (nw w P L cap ts (dL ts (eA ts)) tTo Rc nm.1.h sa.1 a y l wd):=
   ⟨ts.length+1,[],h4,0,[],fun _ _=>False,O Y 0 0,fs,Or.inr (by omega),J0 _,hY.o,h0.o,kI.o,World.ownsRow_nil _ _ _ _,ml _ _ _ _⟩
  clear et e2 fs;go_wp2_with fail
  go_loopw [32] (fun _ wr=>nw w P L cap ts (dL ts (eA ts)) tTo Rc nm.1.h sa.1 a y l wr) (fun _ wr=>gB P wr)
  case atStart=>exact h5.o
  case round =>
   obtain⟨g,ks,f,dd,rows,Fs,o,cA,hg,hlen,hT,hx,hn,H,q⟩:=hrel;obtain⟨M,ck,HG,bb,bt,b0,bd⟩:=zz7 hT cA hg hlen hx hn H;obtain⟨Q,ft⟩:=zz2 q hT.2.steps;have e3:Hid (f.1≤(dL ts (eA ts) f).2.1):=rH (jE ts) f;clear cA hg hlen hT hx hn H q;go_upto_region 8 with fail
   go_cut [45] from 32 to 45 (fun v wx=>v=xt (!f.2&&!isM ts f [tTo])∧Kr wr wx)
   case rest =>
    obtain⟨rfl,m⟩:=hcut;obtain⟨C,bg,bk⟩:=zz3 (M.o.u m) (aa m bt.o (JL.1 bt.o).1) (aa m b0.o (JL.1 b0.o).1);have a6:P<l+1:=by omega
    obtain⟨t,z⟩:=zz2 (dC bd.o (aF m (A P)) a6) (Q.o.turn (aF m (A P)) a6);have h6:l<wc.heap.size:=(JL.1 bg.o).1;clear m M bt b0 bd Q;obtain⟨b,D⟩:=zzy ((!f.2&&!isM ts f [tTo]));rw[D];have HB:=Hd D;clear D
    cases b with
    | true =>
     have E:f.2=false:=by have:=HB.o;cases h:f.2<;>simp[h]at this ⊢
     have cC:isM ts f [tTo]=false:=by have:=HB.o;rw[E]at this;simpa using this
     have cR:=C.o.2.k;have k0:=C.o.2.n;have cT:=bb.o;rw[E]at cT;simp only[Ka,oF,Nat.add_zero]at cT;obtain⟨g',cV,cW⟩:∃g',(((dL ts (eA ts)) f).2.2=tT∨ts.length-((dL ts (eA ts)) f).2.1+1≤g')∧upTo ts (dL ts (eA ts)) tTo g' (ks++[((dL ts (eA ts)) f).1]) ((dL ts (eA ts)) f).2=Rc:=by
      have h1:=ck.o;have h2:=HG.o;rw[E]at h2;have k1:ts.length-f.1+1≤g:=by rcases h2 with h|h;cases h;exact h
      cases g with
      | zero=>omega
      | succ g =>
       unfold upTo at h1;rw[oe (by rw[E];decide),oe (by rw[cC];decide)]at h1;refine⟨g,?_,h1⟩;rcases (sn cf.o (jE ts) (fun _ h=>rD h) cR) with h|h
       ·exact Or.inl h
       ·exact Or.inr (by omega)
     have c0:=(sn cf.o (jE ts) (fun _ h=>rD h) cR);obtain⟨b1,fv,fz,c3,fI⟩:=zz5 (e8.o f wc.drew P L cap C.o.2.drew) cV cW c0 E;clear cV cW c0 cC E;generalize (dL ts (eA ts)) f=r at *;obtain⟨d0,c5,c6,d3,d4⟩:=cells5 bk.o;have fT:y≠P:=by omega
     have C4:=fun x:RE.Gr wc P=>x.h d4 fT
     have c7:P<wc.heap.size:=C.o.2.lt.1;clear d0 c5 c6 d3 d4;go_wp2_with fail
     refine RE.z (by kernel_rfl) 5 [3,4] [3,4] (fun s W=>if s=0 then W=wc.drew else ah wc P L cap ts r.2.1 r.2.2 W) (fun W W'=>W.grownBy W' (A P))
      (fun i xs=>if i=3 then wP #[I r8 r.1.q,r9 r.1.h,I U r.1.u,I U r.1.C,xs.getD 0 undef] else O (A ⟨RE.natOf xs,0,Y⟩) 1 1)
      (fun i W xs=>if i=3 then gj wc.heap.size r.1 W xs else ip wc.heap.size r.1 W xs) (by kernel_rfl) (fun i h1 h2=>by rw[h1]at h2;cases h2) ?_ Z ?_
     ·intro k W W' xs h _ hg
      split at h
      ·rw[oj (by assumption)];exact h.u c7 hg
      ·rw[oe (by assumption)];exact h.u c7 hg
     simp only[JY,J7,JZ,J6,Kf,List.length_nil,Nat.reduceAdd];have c8:∀(n s:Nat) (W:J),s≤n→(if s=0 then W=wc.drew else ah wc P L cap ts r.2.1 r.2.2 W)→∃x:RE.Gr wc P,W=x.1:=fun n s W _ h=>by
      split at h
      ·exact⟨⟨W,by rw[h];exact grown_drewN (oT wc _) 1⟩,Z⟩
      ·exact⟨⟨W,h.1⟩,Z⟩
     have gf:=Hd c8;clear c8
     repeat (refine RE.q (fun W=>∃x:RE.Gr wc P,W=x.1) (gf.o _) Z Z Z Z ?_;go_big_quiet_step (fail);refine xL ?_)
     refine RE.h Z Z ?_ (fun c9=>?_)
     ·intro W _ hS _;obtain rfl:W=wc.drew:=hS Z;refine RE.C 146 _ _ Z (enters_of Tryz.func146 (by kernel_rfl) Z) #[vo (A ⟨P,0,Y⟩)] (by simp[Act.eval]) (b1.o.mono ?_);rintro e W' ⟨d,s,rfl,hT,ho,hf⟩;exact⟨_,Z,[s],Z,hT.z,hT.1,⟨d,s,Z,ho,hf⟩⟩
     simp only[Act.put,JP,JW,JV];refine RE.h Z Z ?_ (fun dg=>?_)
     ·intro W _ hS gr;have hT:ah wc P L cap ts r.2.1 r.2.2 W:=hS Z;obtain⟨d,s,rfl,ho,hf⟩:gj wc.heap.size r.1 W c9:=gr 3 c9 (by kernel_rfl) Z;obtain⟨p,c,rfl⟩:=ho.q;refine RE.Upon.told (v:=O (A ⟨W.heap.size,0,Y⟩) 1 1) (w':=W.alloc (r7 (aj r.1 (O p r.1.z.length c)).toArray 145)) ?_ ⟨[I U W.heap.size],Z,hT.N _,?_,?_⟩
      ·unfold RE.Upon
       go_simp
       rfl
      ·exact aF ((JO _ W).alloc (JM _) _) _
      ·refine⟨d,W.heap.size,W.heap.size,_,Z,oc W _,?_,hf,hT.1.size,JM _⟩;exact ho.C (fun b D=>D.2) ((JO _ W).alloc (JM _) _)
     simp only[Act.put,JP,JW,JV];refine RE.u ?_;intro W3 hS hE;have ba:ah wc P L cap ts r.2.1 r.2.2 W3:=hS;obtain⟨d2,gg,N,s2,rfl,b2,b3,gD,gE,gF⟩:=(show ip wc.heap.size r.1 W3 dg from hE 4 dg Z);have k2:wc.heap.size≤W3.heap.size:=ba.1.size;have S:=dC t.o ba.1 (by omega);refine wpList_append_lies W3 Z (.tmp 47) (.tmp 50) 143 Z (l+1) 145 i0 _ 5 64 Tryz.underlying143 hv hy hz hA Z (by decide) o ks.length rows.flatten Z S ⟨gg,0,Y⟩ 1 1 (aj r.1 s2) Z Z
      (fun j u hu=>by rw[Addr.add_mid,Kq _ _ _ _ _ _ b2,Nat.zero_add];simpa using hu) (by have:=b3.q;obtain⟨p,c,rfl⟩:=this;simp[Value.oneCell',aj]) (by decide) (by unfold maxLen;omega) (by omega) (by omega) _ Z ?_
     intro g7 dn w7 bl T V _;obtain⟨d',b4,gH,u1,u2,u3,u4,u5,u6⟩:=uB (w:=w) K HL.o hM (show y<(l+1) by omega) (by omega) C.o bk.o t.o z.o ba b2 b3 gD gE gF bl T V;have x4:=ab u6 4;obtain⟨d0,c5,c6,d3,d4⟩:=cells5 u6;obtain⟨Wn,ds⟩:=zzx (w7.setCell ⟨y,4,Y⟩ (O (A ⟨g7,0,Y⟩) (ks.length+1) dn));rw[←ds]at u1 u2 u3 u4 u5;have X:(ks++[r.1]).length≤r.2.1+(if r.2.2=tT then 1 else 0):=by
      have h1:=u1.2.k;rw[J2,Ko];rcases c3.o with h|h
      ·rw[oj h];have:=e3.o;omega
      ·split<;>omega
     have b5:Hid (nw w P L cap ts (dL ts (eA ts)) tTo Rc nm.1.h sa.1 a y l Wn):=
      ⟨g',_,r.2,d',b4,gH,_,fz.o,fv.o,X,u1,(u2 l (by omega) (by omega) (by omega)).trans bg.o,u3,u4,u5⟩
     have b6:Hid (gB P Wn<gB P wr):=by
      show _<_
      rw[u1.2.steps,ft.o,oe (show ¬f.2=tT by rw[fI.o];decide)];have h1:=u1.2.k;have h3:=e3.o;rcases c3.o with h|h
      ·rw[oj h];omega
      ·split<;>omega
     have gL:=Hd ds;clear u1 u2 u3 u4 u5 X V T bl hE hS ba S b2 b3 C4;go_wp2_with fail
     rw[←gL.o];exact⟨b5.o,b6.o⟩
    | false =>
     have gM:(ks,f)=Rc:=by
      rw[←ck.o];have h2:=HB.o
      cases g with
      | zero=>rfl
      | succ g =>
       unfold upTo
       by_cases b7:f.2=tT
       ·rw[oj b7]
       ·rw[oe b7,oj (by simpa [b7]using h2)]
     subst gM;have gN:=Hd (di C.o.2 tTo);dsimp only at HR;go_wp2_with fail
     refine JX gN.o ?_;rintro e we ⟨rfl,cl⟩;obtain⟨gO,gS,h7,dt,cc⟩:=zz5 (C.o.h cl) (cl.q bg.o K (by omega)) (cl.q bk.o K (by omega)) (dC t.o cl.1 a6) (z.o.turn cl.1 a6);have hle:l<we.heap.size:=(JL.1 gS.o).1;have e4:=bH ts f tTo;have gT:f.2=tT→(aQ ts f tTo).2=true:=fun h=>ez h tTo
     clear cl;obtain⟨e0,e5⟩:=zzy (aQ ts f tTo);rw[e5]at gO HR e4 gT;obtain⟨Rz,ha⟩:=zzy (upTo ts (fh ts) dA (ts.length+1) ks e0);rw[ha]at HR;have dv:ks.length≤e0.1+(if e0.2=tT then 1 else 0):=by
      have h1:=bb.o
      by_cases h:f.2=tT
      ·rw[oj h]at h1;rw[oj (gT h)];omega
      ·rw[oe h]at h1;omega
     have hc:Hid (nw w P L cap ts (fh ts) dA Rz nm.1.h sa.1 a y l we):=
      ⟨ts.length+1,ks,e0,dd,rows,Fs,o,ha,Or.inr (by omega),dv,gO.o,gS.o,h7.o,dt.o,cc.o⟩
     clear e5 ha dv e4 gT ck HG bb HB dt cc t z bk bg C h7 gS gO;clear h6 a6;go_wp2_with fail
     go_loopw [57] (fun _ wr=>nw w P L cap ts (fh ts) dA Rz nm.1.h sa.1 a y l wr) (fun _ wr=>gB P wr)
     case atStart=>exact hc.o
     case round =>
      obtain⟨g,ks,f,dd,rows,Fs,o,cA,hg,hlen,hT,hx,hn,H,q⟩:=hrel;obtain⟨M,ck,HG,bb,bt,b0,bd⟩:=zz7 hT cA hg hlen hx hn H;obtain⟨Q,ft⟩:=zz2 q hT.2.steps;have e6:Hid (f.1≤(fh ts f).2.1):=ug ts f;clear cA hg hlen hT hx hn H q;go_upto_region 11 with fail
      go_cut [70] from 57 to 70 (fun v wx=>v=xt (!f.2&&!isM ts f [dA])∧Kr wr wx)
      case rest =>
       obtain⟨rfl,m⟩:=hcut;obtain⟨C,bg,bk⟩:=zz3 (M.o.u m) (aa m bt.o (JL.1 bt.o).1) (aa m b0.o (JL.1 b0.o).1);have a6:P<l+1:=by omega
       obtain⟨t,z⟩:=zz2 (dC bd.o (aF m (A P)) a6) (Q.o.turn (aF m (A P)) a6);have h6:l<wc.heap.size:=(JL.1 bg.o).1;clear m M bt b0 bd Q;obtain⟨b,D⟩:=zzy ((!f.2&&!isM ts f [dA]));rw[D];have HB:=Hd D;clear D
       cases b with
       | true =>
        have E:f.2=false:=by have:=HB.o;cases h:f.2<;>simp[h]at this ⊢
        have cC:isM ts f [dA]=false:=by have:=HB.o;rw[E]at this;simpa using this
        have cR:=C.o.2.k;have k0:=C.o.2.n;have cT:=bb.o;rw[E]at cT;simp only[Ka,oF,Nat.add_zero]at cT;obtain⟨g',cV,cW⟩:∃g',(((fh ts) f).2.2=tT∨ts.length-((fh ts) f).2.1+1≤g')∧upTo ts (fh ts) dA g' (ks++[((fh ts) f).1]) ((fh ts) f).2=Rz:=by
         have h1:=ck.o;have h2:=HG.o;rw[E]at h2;have k1:ts.length-f.1+1≤g:=by rcases h2 with h|h;cases h;exact h
         cases g with
         | zero=>omega
         | succ g =>
          unfold upTo at h1;rw[oe (by rw[E];decide),oe (by rw[cC];decide)]at h1;refine⟨g,?_,h1⟩;rcases (ud cf.o cR) with h|h
          ·exact Or.inl h
          ·exact Or.inr (by omega)
        have c0:=(ud cf.o cR);obtain⟨b1,fv,fz,c3,fI⟩:=zz5 (hs.o f wc.drew P L cap C.o.2.drew) cV cW c0 E;clear cV cW c0 cC E;generalize (fh ts) f=r at *;obtain⟨d0,c5,c6,d3,d4⟩:=cells5 bk.o;have fT:y≠P:=by omega
        have C4:=fun x:RE.Gr wc P=>x.h d4 fT
        have c7:P<wc.heap.size:=C.o.2.lt.1;clear d0 c5 c6 d3 d4;go_wp2_with fail
        refine RE.z (by kernel_rfl) 5 [3,4] [3,4] (fun s W=>if s=0 then W=wc.drew else ah wc P L cap ts r.2.1 r.2.2 W) (fun W W'=>W.grownBy W' (A P))
         (fun i xs=>if i=3 then wP #[I r8 r.1.q,r9 r.1.h,I U r.1.u,I U r.1.C,xs.getD 0 undef] else O (A ⟨RE.natOf xs,0,Y⟩) 1 1)
         (fun i W xs=>if i=3 then gj wc.heap.size r.1 W xs else ip wc.heap.size r.1 W xs) (by kernel_rfl) (fun i h1 h2=>by rw[h1]at h2;cases h2) ?_ Z ?_
        ·intro k W W' xs h _ hg
         split at h
         ·rw[oj (by assumption)];exact h.u c7 hg
         ·rw[oe (by assumption)];exact h.u c7 hg
        simp only[JY,J7,JZ,J6,Kf,List.length_nil,Nat.reduceAdd];have c8:∀(n s:Nat) (W:J),s≤n→(if s=0 then W=wc.drew else ah wc P L cap ts r.2.1 r.2.2 W)→∃x:RE.Gr wc P,W=x.1:=fun n s W _ h=>by
         split at h
         ·exact⟨⟨W,by rw[h];exact grown_drewN (oT wc _) 1⟩,Z⟩
         ·exact⟨⟨W,h.1⟩,Z⟩
        have gf:=Hd c8;clear c8
        repeat (refine RE.q (fun W=>∃x:RE.Gr wc P,W=x.1) (gf.o _) Z Z Z Z ?_;go_big_quiet_step (fail);refine xL ?_)
        refine RE.h Z Z ?_ (fun c9=>?_)
        ·intro W _ hS _;obtain rfl:W=wc.drew:=hS Z;refine RE.C 147 _ _ Z (enters_of Tryz.func147 (by kernel_rfl) Z) #[vo (A ⟨P,0,Y⟩)] (by simp[Act.eval]) (b1.o.mono ?_);rintro e W' ⟨d,s,rfl,hT,ho,hf⟩;exact⟨_,Z,[s],Z,hT.z,hT.1,⟨d,s,Z,ho,hf⟩⟩
        simp only[Act.put,JP,JW,JV];refine RE.h Z Z ?_ (fun dg=>?_)
        ·intro W _ hS gr;have hT:ah wc P L cap ts r.2.1 r.2.2 W:=hS Z;obtain⟨d,s,rfl,ho,hf⟩:gj wc.heap.size r.1 W c9:=gr 3 c9 (by kernel_rfl) Z;obtain⟨p,c,rfl⟩:=ho.q;refine RE.Upon.told (v:=O (A ⟨W.heap.size,0,Y⟩) 1 1) (w':=W.alloc (r7 (aj r.1 (O p r.1.z.length c)).toArray 145)) ?_ ⟨[I U W.heap.size],Z,hT.N _,?_,?_⟩
         ·unfold RE.Upon
          go_simp
          rfl
         ·exact aF ((JO _ W).alloc (JM _) _) _
         ·refine⟨d,W.heap.size,W.heap.size,_,Z,oc W _,?_,hf,hT.1.size,JM _⟩;exact ho.C (fun b D=>D.2) ((JO _ W).alloc (JM _) _)
        simp only[Act.put,JP,JW,JV];refine RE.u ?_;intro W3 hS hE;have ba:ah wc P L cap ts r.2.1 r.2.2 W3:=hS;obtain⟨d2,gg,N,s2,rfl,b2,b3,gD,gE,gF⟩:=(show ip wc.heap.size r.1 W3 dg from hE 4 dg Z);have k2:wc.heap.size≤W3.heap.size:=ba.1.size;have S:=dC t.o ba.1 (by omega);refine wpList_append_lies W3 Z (.tmp 72) (.tmp 75) 143 Z (l+1) 145 i0 _ 5 64 Tryz.underlying143 hv hy hz hA Z (by decide) o ks.length rows.flatten Z S ⟨gg,0,Y⟩ 1 1 (aj r.1 s2) Z Z
         (fun j u hu=>by rw[Addr.add_mid,Kq _ _ _ _ _ _ b2,Nat.zero_add];simpa using hu) (by have:=b3.q;obtain⟨p,c,rfl⟩:=this;simp[Value.oneCell',aj]) (by decide) (by unfold maxLen;omega) (by omega) (by omega) _ Z ?_
        intro g7 dn w7 bl T V _;obtain⟨d',b4,gH,u1,u2,u3,u4,u5,u6⟩:=uB (w:=w) K HL.o hM (show y<(l+1) by omega) (by omega) C.o bk.o t.o z.o ba b2 b3 gD gE gF bl T V;have x4:=ab u6 4;obtain⟨d0,c5,c6,d3,d4⟩:=cells5 u6;obtain⟨Wn,ds⟩:=zzx (w7.setCell ⟨y,4,Y⟩ (O (A ⟨g7,0,Y⟩) (ks.length+1) dn));rw[←ds]at u1 u2 u3 u4 u5;have X:(ks++[r.1]).length≤r.2.1+(if r.2.2=tT then 1 else 0):=by
         have h1:=u1.2.k;rw[J2,Ko];rcases c3.o with h|h
         ·rw[oj h];have:=e6.o;omega
         ·split<;>omega
        have b5:Hid (nw w P L cap ts (fh ts) dA Rz nm.1.h sa.1 a y l Wn):=
         ⟨g',_,r.2,d',b4,gH,_,fz.o,fv.o,X,u1,(u2 l (by omega) (by omega) (by omega)).trans bg.o,u3,u4,u5⟩
        have b6:Hid (gB P Wn<gB P wr):=by
         show _<_
         rw[u1.2.steps,ft.o,oe (show ¬f.2=tT by rw[fI.o];decide)];have h1:=u1.2.k;have h3:=e6.o;rcases c3.o with h|h
         ·rw[oj h];omega
         ·split<;>omega
        have gL:=Hd ds;clear u1 u2 u3 u4 u5 X V T bl hE hS ba S b2 b3 C4;go_wp2_with fail
        rw[←gL.o];exact⟨b5.o,b6.o⟩
       | false =>
        have gM:(ks,f)=Rz:=by
         rw[←ck.o];have h2:=HB.o
         cases g with
         | zero=>rfl
         | succ g =>
          unfold upTo
          by_cases b7:f.2=tT
          ·rw[oj b7]
          ·rw[oe b7,oj (by simpa [b7]using h2)]
        subst gM;have gN:=Hd (di C.o.2 dA);dsimp only at HR;go_wp2_with fail
        refine JX gN.o ?_;rintro e wz ⟨rfl,cm⟩;obtain⟨k3,bm,k4⟩:=zz3 (C.o.h cm) (cm.q bg.o K (by omega)) (cm.q bk.o K (by omega));have H:=dC t.o cm.1 a6;have q:=z.o.turn cm.1 a6;have hO:=uC (d:=dd+1) Z H q (fun h=>by omega);obtain⟨p,c,rfl⟩:=hO.q;have HO:=Hd hO;have mf:l<wz.heap.size:=(JL.1 bm.o).1;clear cm hO H q;obtain⟨n0,n1,n2,n3,n4⟩:=cells5 k4.o;obtain⟨a0,a1,a2,a3,a4⟩:=cells5 bm.o;have z0:=ab bm.o 0;have z1:=ab bm.o 1;have z2:=ab bm.o 2;have z3:=ab bm.o 3;have z4:=ab bm.o 4;go_wp2_with fail
        refine bw Tryz.results122 Z (aX bm.o _ _ _ _ _) Z ?_;rw[←HR.o];have cb:Fits (.mk 4 nm.1.h sa.1 a ks):=by
         have h1:=hK.o;have h2:=kc.o;refine⟨by show 4<256;omega,by show nm.1.h.size≤maxLen;unfold maxLen;omega,by show (-9223372036854775808:Int)≤sa.1;omega,by show sa.1<9223372036854775808;omega,by show (-9223372036854775808:Int)≤a;omega,by show a<9223372036854775808;omega⟩
        exact a7.z (r:=(.mk 4 nm.1.h sa.1 a ks,aQ ts f dA)) (B:=l+1) K HL.o k3.o HO.o cb (by omega) (by omega) _ _ _ _ _
      case first =>
       obtain⟨_,_,_,_,_,c1,_,_⟩:=M.o.2.z;have b8:Kr wr (wr.alloc (r7 #[r9 dA] 9)):=(JO _ wr).alloc (JM _) _;obtain⟨ef,eg⟩:=zz2 (qP (M.o.2.C b8) (gC M.o.2.k) wr.heap.size 0 1 1 [dA] (bU [dA]) Z (by omega)) b8;clear b8
       cases D:f.2 with
       | true =>
        rw[D]at c1;have b9:=Hd D;clear D;go_wp2_with fail
        go_meet
        case rel=>exact⟨by rw[b9.o];rfl,JO _ _⟩
       | false =>
        rw[D]at c1 ef;have hi:isM ts f [dA]=(!false&&isT (dk ts f.1) [dA]):=by unfold isM;rw[D]
        generalize (!false&&isT (dk ts f.1) [dA])=bi at *;obtain⟨b9,HI⟩:=zz2 D hi;clear D hi;go_wp2_with fail
        refine JX ef.o ?_;rintro e wx ⟨rfl,m⟩;have hd:=Hd m;clear m;go_wp2_with fail
        go_meet
        case rel=>exact⟨by rw[b9.o,HI.o];cases bi<;>rfl,eg.o.trans (hd.o.mono eg.o.size)⟩
   case first =>
    obtain⟨_,_,_,_,_,c1,_,_⟩:=M.o.2.z;have b8:Kr wr (wr.alloc (r7 #[r9 tTo] 9)):=(JO _ wr).alloc (JM _) _;obtain⟨ef,eg⟩:=zz2 (qP (M.o.2.C b8) (gC M.o.2.k) wr.heap.size 0 1 1 [tTo] (bU [tTo]) Z (by omega)) b8;clear b8
    cases D:f.2 with
    | true =>
     rw[D]at c1;have b9:=Hd D;clear D;go_wp2_with fail
     go_meet
     case rel=>exact⟨by rw[b9.o];rfl,JO _ _⟩
    | false =>
     rw[D]at c1 ef;have hi:isM ts f [tTo]=(!false&&isT (dk ts f.1) [tTo]):=by unfold isM;rw[D]
     generalize (!false&&isT (dk ts f.1) [tTo])=bi at *;obtain⟨b9,HI⟩:=zz2 D hi;clear D hi;go_wp2_with fail
     refine JX ef.o ?_;rintro e wx ⟨rfl,m⟩;have hd:=Hd m;clear m;go_wp2_with fail
     go_meet
     case rel=>exact⟨by rw[b9.o,HI.o];cases bi<;>rfl,eg.o.trans (hd.o.mono eg.o.size)⟩
 case first =>
  by_cases hm:isM ts ar [lV]=tT
  ·have hR:=hV.o;rw[oj hm]at hR;have ad:aM ts ar [lV]=ae ts ar:=by unfold aM;rw[oj hm]
   rw[ad]at cy;have af:isM ts ar [lV]=true:=by simpa using hm
   rw[af];have en:=Hd hR;clear hR ad hm af;obtain⟨F,e7⟩:=zzy (ae ts ar);rw[e7]at cy en;clear e7;obtain⟨bq,ct,cu⟩:=zz3 (cy.o.N (r7 #[r9 bo] 9)) ((Kp w6 (r7 #[r9 bo] 9) y (by omega)).trans hW.o) ((Kp w6 (r7 #[r9 bo] 9) l (by omega)).trans e9.o);have cv:=Hd (dK bq.o.2 w6.heap.size 0 1 1 [bo] (bU [bo]) Z (by omega));go_wp2_with fail
   refine JX cv.o ?_;rintro e w7 ⟨rfl,ht⟩;obtain⟨cn,hh,h8⟩:=zz3 (bq.o.h ht) (ht.q cu.o K (by omega)) (ht.q ct.o K (by omega));have mi:l<w7.heap.size:=(JL.1 hh.o).1;clear ht bq ct cu cv
   by_cases hm:isM ts F [bo]=tT
   ·have hR:=en.o;rw[oj hm]at hR;have ad:aM ts F [bo]=ae ts F:=by unfold aM;rw[oj hm]
    rw[ad]at cn;have af:isM ts F [bo]=true:=by simpa using hm
    rw[af];have hj:=Hd hR;clear hR ad hm af;have hk:=Hd (mI cf.o (σ:=(ae ts F)) cn.o.2);have k5:=jM ts (ae ts F);generalize gq ts (ae ts F)=nu at *;have h9:(nu.1:Int)≤2147483647:=by omega
    go_wp2_with fail
    refine JX hk.o ?_;rintro e w8 ⟨rfl,aq⟩;obtain⟨hl,eo,ca⟩:=zz3 (cn.o.h aq) (aq.q hh.o K (by omega)) (aq.q h8.o K (by omega));have k6:l<w8.heap.size:=(JL.1 eo.o).1;have k7:w7.heap.size≤w8.heap.size:=aq.1.size;clear aq;obtain⟨w9,G⟩:=zzx ((w8.setCell ⟨y,2,Y⟩ (I U (-(nu.1:Int)))));have k8:w9.heap.size=w8.heap.size:=by rw[G];simp[World.setCell]
    have k9:y<w9.heap.size:=by omega
    have hp:Hid (ah w P L cap ts nu.2.1 nu.2.2 w9):=by rw[G];exact (hl.o.K K HL.o (by omega) 2 _)
    have hq:Hid (w9.heap[l]?=A (r7 bM 145 (0,0))):=by rw[G];exact ((JQ _ _ _ _ (show l≠y by omega)).trans eo.o)
    have hr:Hid (w9.heap[y]?=A (r7 #[I r8 4,r9 nm.1.h,I U (-(nu.1:Int)),I U a,O Y 0 0] 145 (0,0))):=by rw[G];exact (heap_set ca.o 2 _)
    have f2:=ab ca.o 2;obtain⟨n0,n1,n2,n3,n4⟩:=cells5 ca.o;have H9:=Hd G;clear G;go_wp2_with fail
    go_meet
    case rel =>
    rw[←H9.o];clear n0 n1 n2 n3 n4 f2;rw[←hj.o];exact⟨hp.o,hr.o,hq.o⟩
   ·have hR:=en.o;rw[oe hm]at hR;have ad:aM ts F [bo]=F:=by unfold aM;rw[oe hm]
    rw[ad]at cn;have af:isM ts F [bo]=false:=by simpa using hm
    rw[af];have hj:=Hd hR;clear hR ad hm af;have hk:=Hd (mI cf.o (σ:=F) cn.o.2);have k5:=jM ts F;generalize gq ts F=nu at *;have h9:(nu.1:Int)≤2147483647:=by omega
    go_wp2_with fail
    refine JX hk.o ?_;rintro e w8 ⟨rfl,aq⟩;obtain⟨hl,eo,ca⟩:=zz3 (cn.o.h aq) (aq.q hh.o K (by omega)) (aq.q h8.o K (by omega));have k6:l<w8.heap.size:=(JL.1 eo.o).1;have k7:w7.heap.size≤w8.heap.size:=aq.1.size;clear aq;obtain⟨w9,G⟩:=zzx ((w8.setCell ⟨y,2,Y⟩ (I U nu.1)));have k8:w9.heap.size=w8.heap.size:=by rw[G];simp[World.setCell]
    have k9:y<w9.heap.size:=by omega
    have hp:Hid (ah w P L cap ts nu.2.1 nu.2.2 w9):=by rw[G];exact (hl.o.K K HL.o (by omega) 2 _)
    have hq:Hid (w9.heap[l]?=A (r7 bM 145 (0,0))):=by rw[G];exact ((JQ _ _ _ _ (show l≠y by omega)).trans eo.o)
    have hr:Hid (w9.heap[y]?=A (r7 #[I r8 4,r9 nm.1.h,I U nu.1,I U a,O Y 0 0] 145 (0,0))):=by rw[G];exact (heap_set ca.o 2 _)
    have f2:=ab ca.o 2;obtain⟨n0,n1,n2,n3,n4⟩:=cells5 ca.o;have H9:=Hd G;clear G;go_wp2_with fail
    go_meet
    case rel =>
    rw[←H9.o];clear n0 n1 n2 n3 n4 f2;rw[←hj.o];exact⟨hp.o,hr.o,hq.o⟩
  ·have hR:=hV.o;rw[oe hm]at hR;have ad:aM ts ar [lV]=ar:=by unfold aM;rw[oe hm]
   rw[ad]at cy;have af:isM ts ar [lV]=false:=by simpa using hm
   rw[af];have en:=Hd hR;clear hR ad hm af;go_wp2_with fail
   go_meet
   case rel =>
   rw[←en.o];exact⟨cy.o,hW.o,e9.o⟩
