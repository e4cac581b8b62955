/- The parser: rules, behind their word; by contract. Condition: at most 16385 tokens, each of at most 16384 bytes. -/
import Derived.Test.YtoahnjkclckodaaGreatDoorMX
open Go renaming World→J,wpQuiet_nil→xL
open Option renaming some→A,none→Y
open Go.Obj renaming cells→r9
open Go.Value renaming int→I,string→tS,slice→O,bool→xv,agg→xk,pointer→vv
open Go.IntKind renaming u8→tF,i64→U
open Bool renaming true→ur
namespace Go.Proofs.YtoahnjkclckodaaGreatDoor
set_option maxHeartbeats 4000000
set_option maxRecDepth 100000
open Go.RowKit
def EM(w:J) (P L cap:Nat) (ts:List Tok) (tx:ByteArray) (a:Int) (r:Int×PS) (b c:Nat) (W:J):Prop:=
 ah w P L cap ts r.2.1 r.2.2 W∧W.heap[b]?=A (r9 #[I tF 4,tS tx,I U r.1,I U a,O Y 0 0] 145 (0,0))∧W.heap[c]?=A (r9 bE 145 (0,0))
def mc(w:J) (P L cap:Nat) (ts:List Tok) (one:PS→ac×PS) (stop:ByteArray) (R:List ac×PS) (tx:ByteArray) (num a:Int) (c b:Nat) (W:J):Prop:=
 ∃(g:Nat) (ks:List ac) (σ:PS) (d:Nat) (rows:List (List Value)) (e:Nat→Nat→Prop) (o:Value),upTo ts one stop g ks σ=R∧(σ.2=ur∨ts.length-σ.1+1≤g)∧ks.length≤σ.1+(if σ.2=ur then 1 else 0)∧
  ah w P L cap ts σ.1 σ.2 W∧W.heap[b]?=A (r9 bE 145 (0,0))∧W.heap[c]?=A (r9 #[I tF 4,tS tx,I U num,I U a,o] 145 (0,0))∧
  W.ownsRow (b+1) 145 5 o ks.length rows.flatten∧cd W (b+1) d ks ks.length o.ownBlock rows e
def f8(P:Nat) (W:J):Nat:=leftOf P W*2+(match W.cell? ⟨P,1,Y⟩ with|some (xv ur)=>0|_=>1)
theorem PAt.steps{w:J}{P L cap:Nat}{ts:List Tok}{k:Nat}{bad:Bool}(h:PAt w P L cap ts k bad):f8 P w=(ts.length-k)*2+(if bad=ur then 0 else 1):=by
 obtain⟨_,_,_,_,_,a,_⟩:=h.z;unfold f8;rw[h.left,a]
 cases bad<;>rfl
theorem yV(ts:List Tok)(σ:PS):-2147483647≤(gV ts σ).1∧(gV ts σ).1≤2147483647:=by
 unfold gV;have a:=jl ts (ae ts σ);have b:=jl ts (ae ts (ae ts σ))
 (repeat' split)<;>dsimp only<;>omega
theorem BD{ts:List Tok}(bq:cg ts):An ts (dG ts):=by
 intro a σ w P L cap lf lg h;have K:=h.lt.1;have hL:=h.lt.2;obtain⟨ch,fm,hz⟩:=zz3 bq (BU bq (CS bq) (jd ts)) (BW bq);obtain⟨i0,hA,hC,hD,hG⟩:=info_parts qq;obtain⟨wA,cq⟩:=zzx ((w.alloc (r9 #[I tF 0,tS ⟨#[]⟩,I U 0,I U a,O Y 0 0] 145)).alloc (r9 bE 145));obtain⟨y,hI⟩:=zzy (w.heap.size);obtain⟨l,hJ⟩:=zzy (w.heap.size+1);have hK:Gl w wA:=by rw[cq];exact lB w _ _
 have hM:=Hd (h.h hK);obtain⟨X1,X2,_⟩:=aW w (r9 #[I tF 0,tS ⟨#[]⟩,I U 0,I U a,O Y 0 0] 145) (r9 bE 145);rw[←cq,hI]at X1;rw[←cq,hJ]at X2;obtain⟨iB,hN,iX⟩:=zz3 X1 X2 (i6 bq hM.o.2 4 (by omega));have cc:(ofM ts σ 2 4).1.h.size≤16384:=(cM bq _).2.1;obtain⟨R,hR⟩:=zzy (dG ts a σ);rw[hR];unfold dG at hR;dsimp only at hR;generalize ofM ts σ 2 4=nm at *;obtain⟨HR,hQ⟩:=zz2 hR cc;clear X1 X2 hR bq h hK cc
 go_enter Tryz.func122,Tryz.ntmps122
 go_upto_region 1 with fail
 change Code.wp _ _ _ _ ((w.alloc (r9 #[I tF 0,tS ⟨#[]⟩,I U 0,I U a,O Y 0 0] 145)).alloc (r9 bE 145));rw[←cq];have e3:y+1=l:=by omega
 rw[e3];have hU:w.heap.size≤y:=by omega
 have lr:y<l:=by omega
 have l0:l<wA.heap.size:=(Fx.1 hN.o).1;have HL:Hid (L<w.heap.size):=hL;clear cq hI hJ e3;go_wp2_with fail
 refine FN iX.o ?_;rintro e w4 ⟨d,s,rfl,cr,ho,hf⟩;obtain⟨jj,hV,e0⟩:=zz3 (hM.o.h cr) (cr.q hN.o K (by omega)) (cr.q iB.o K (by omega));have l1:l<w4.heap.size:=(Fx.1 hV.o).1;have l3:wA.heap.size≤w4.heap.size:=cr.1.size;obtain⟨p,c,rfl⟩:=ho.q;have j2:=ik nm.1.q nm.1.h nm.1.u nm.1.t nm.1.z.length p c w4;clear cr ho hf;obtain⟨w5,ck⟩:=zzx (((w4.setCell ⟨y,0,Y⟩ (I tF 4)).setCell ⟨y,1,Y⟩ (tS nm.1.h)));have kc:w5.heap.size=w4.heap.size:=by rw[ck];simp[World.setCell]
 have l4:y<w5.heap.size:=by omega
 have hW:Hid (ah w P L cap ts nm.2.1 nm.2.2 w5):=by rw[ck];exact ((jj.o.z K HL.o (by omega) 0 _).z K HL.o (by omega) 1 _)
 have kk:Hid (w5.heap[l]?=A (r9 bE 145 (0,0))):=by rw[ck];exact ((FC _ _ _ _ (show l≠y by omega)).trans ((FC _ _ _ _ (show l≠y by omega)).trans hV.o))
 have kn:Hid (w5.heap[y]?=A (r9 #[I tF 4,tS nm.1.h,I U 0,I U a,O Y 0 0] 145 (0,0))):=by rw[ck];exact (heap_set (heap_set e0.o 0 _) 1 _)
 have f0:=ab e0.o 0;have f1:=ab e0.o 1;obtain⟨n0,n1,n2,n3,n4⟩:=cells5 e0.o;have H5:=Hd ck;clear ck;go_upto_region 2 with fail
 change Code.wp _ _ _ _ ((w4.setCell ⟨y,0,Y⟩ (I tF 4)).setCell ⟨y,1,Y⟩ (tS nm.1.h));rw[←H5.o];clear n0 n1 n2 n3 n4 f0 f1;clear j2;have mb:w4.heap.size≤w5.heap.size:=by omega
 clear kc;obtain⟨ar,hX⟩:=zzy (nm.2);rw[hX]at hW HR;obtain⟨sa,ct⟩:=zzy (gV ts ar);rw[ct]at HR;have kv:Hid (-2147483647≤sa.1∧sa.1≤2147483647):=by rw[←ct];exact yV ts ar
 unfold gV at ct;have hY:=Hd ct;clear ct;obtain⟨bt,cu,cv⟩:=zz3 (hW.o.D (r9 #[tS kZ] 9)) ((Gj w5 (r9 #[tS kZ] 9) y (by omega)).trans kn.o) ((Gj w5 (r9 #[tS kZ] 9) l (by omega)).trans kk.o);have cy:=Hd (dy bt.o.2 w5.heap.size 0 1 1 [kZ] (bK [kZ]) Z (by omega));go_wp2_with fail
 refine FN cy.o ?_;rintro e w6 ⟨rfl,ht⟩;obtain⟨cA,fr,h0⟩:=zz3 (bt.o.h ht) (ht.q cv.o K (by omega)) (ht.q cu.o K (by omega));have mf:l<w6.heap.size:=(Fx.1 fr.o).1;clear ht bt cu cv cy
 go_upto_if 15 with fail
 go_cut [] from 5 to 27 (fun wx=>EM w P L cap ts nm.1.h a sa y l wx)
 case rest =>
  obtain⟨fs,h4,ft⟩:=hcut;obtain⟨kI,k0,k1⟩:=zz3 fs h4 ft;have mi:l<wc.heap.size:=(Fx.1 ft).1;have HW:=Hd (cN fs.2 kB);clear fs h4 ft;go_wp2_with fail
  refine FN HW.o ?_;rintro e wd ⟨rfl,e1⟩;obtain⟨h5,h6,k2⟩:=zz3 (kI.o.h e1) (e1.q k1.o K (by omega)) (e1.q k0.o K (by omega));have mn:l<wd.heap.size:=(Fx.1 h6.o).1;obtain⟨h7,e4⟩:=zzy (aI ts sa.2 kB);rw[e4]at h5 HR;obtain⟨Rc,fv⟩:=zzy (upTo ts (dz ts (ec ts)) tTo (ts.length+1) [] h7);rw[fv]at HR;have h8:Hid (mc w P L cap ts (dz ts (ec ts)) tTo Rc nm.1.h sa.1 a y l wd):=
   ⟨ts.length+1,[],h7,0,[],fun _ _=>False,O Y 0 0,fv,Or.inr (by omega),FR _,h5.o,h6.o,k2.o,World.ownsRow_nil _ _ _ _,lw _ _ _ _⟩
  clear e1 e4 fv;go_wp2_with fail
  go_loopw [32] (fun _ wr=>mc w P L cap ts (dz ts (ec ts)) tTo Rc nm.1.h sa.1 a y l wr) (fun _ wr=>f8 P wr)
  case atStart=>exact h8.o
  case round =>
   obtain⟨g,ks,f,dd,rows,Fs,o,cC,hg,hlen,hT,hx,hn,H,q⟩:=hrel;obtain⟨M,cl,HG,bb,b0,b1,bd⟩:=zz7 hT cC hg hlen hx hn H;obtain⟨Q,fz⟩:=zz2 q hT.2.steps;have e5:Hid (f.1≤(dz ts (ec ts) f).2.1):=pQ (jd ts) f;clear cC hg hlen hT hx hn H q;go_upto_region 8 with fail
   go_cut [45] from 32 to 45 (fun v wx=>v=xv (!f.2&&!isM ts f [tTo])∧Gl wr wx)
   case rest =>
    obtain⟨rfl,m⟩:=hcut;obtain⟨C,bk,bl⟩:=zz3 (M.o.t m) (aa m b0.o (Fx.1 b0.o).1) (aa m b1.o (Fx.1 b1.o).1);have a6:P<l+1:=by omega
    obtain⟨t,z⟩:=zz2 (dj bd.o (az m (A P)) a6) (Q.o.turn (az m (A P)) a6);have h9:l<wc.heap.size:=(Fx.1 bk.o).1;clear m M b0 b1 bd Q;obtain⟨b,D⟩:=zzy ((!f.2&&!isM ts f [tTo]));rw[D];have HB:=Hd D;clear D
    cases b with
    | true =>
     have E:f.2=false:=by have:=HB.o;cases h:f.2<;>simp[h]at this ⊢
     have cR:isM ts f [tTo]=false:=by have:=HB.o;rw[E]at this;simpa using this
     have cT:=C.o.2.k;have k3:=C.o.2.n;have cV:=bb.o;rw[E]at cV;simp only[F4,o1,Nat.add_zero]at cV;obtain⟨g',cW,c0⟩:∃g',(((dz ts (ec ts)) f).2.2=ur∨ts.length-((dz ts (ec ts)) f).2.1+1≤g')∧upTo ts (dz ts (ec ts)) tTo g' (ks++[((dz ts (ec ts)) f).1]) ((dz ts (ec ts)) f).2=Rc:=by
      have h1:=cl.o;have h2:=HG.o;rw[E]at h2;have k4:ts.length-f.1+1≤g:=by rcases h2 with h|h;cases h;exact h
      cases g with
      | zero=>omega
      | succ g =>
       unfold upTo at h1;rw[oB (by rw[E];decide),oB (by rw[cR];decide)]at h1;refine⟨g,?_,h1⟩;rcases (qp ch.o (jd ts) (fun _ h=>pM h) cT) with h|h
       ·exact Or.inl h
       ·exact Or.inr (by omega)
     have c3:=(qp ch.o (jd ts) (fun _ h=>pM h) cT);obtain⟨b2,fI,fT,c5,gf⟩:=zz5 (fm.o f wc.drew P L cap C.o.2.drew) cW c0 c3 E;clear cW c0 c3 cR E;generalize (dz ts (ec ts)) f=r at *;obtain⟨d0,c6,c7,d3,d4⟩:=cells5 bl.o;have gD:y≠P:=by omega
     have C4:=fun x:RE.Gr wc P=>x.h d4 gD
     have c8:P<wc.heap.size:=C.o.2.lt.1;clear d0 c6 c7 d3 d4;go_wp2_with fail
     refine RE.u (by kernel_rfl) 5 [3,4] [3,4] (fun s W=>if s=0 then W=wc.drew else ah wc P L cap ts r.2.1 r.2.2 W) (fun W W'=>W.grownBy W' (A P))
      (fun i xs=>if i=3 then xk #[I tF r.1.q,tS r.1.h,I U r.1.u,I U r.1.t,xs.getD 0 undef] else O (A ⟨RE.natOf xs,0,Y⟩) 1 1)
      (fun i W xs=>if i=3 then fN wc.heap.size r.1 W xs else gA wc.heap.size r.1 W xs) (by kernel_rfl) (fun i h1 h2=>by rw[h1]at h2;cases h2) ?_ Z ?_
     ·intro k W W' xs h _ hg
      split at h
      ·rw[oE (by assumption)];exact h.u c8 hg
      ·rw[oB (by assumption)];exact h.u c8 hg
     simp only[FO,FY,FQ,FX,F9,List.length_nil,Nat.reduceAdd];have c9:∀(n s:Nat) (W:J),s≤n→(if s=0 then W=wc.drew else ah wc P L cap ts r.2.1 r.2.2 W)→∃x:RE.Gr wc P,W=x.1:=fun n s W _ h=>by
      split at h
      ·exact⟨⟨W,by rw[h];exact grown_drewN (o3 wc _) 1⟩,Z⟩
      ·exact⟨⟨W,h.1⟩,Z⟩
     have gE:=Hd c9;clear c9
     repeat (refine RE.q (fun W=>∃x:RE.Gr wc P,W=x.1) (gE.o _) Z Z Z Z ?_;go_big_quiet_step (fail);refine xL ?_)
     refine RE.h Z Z ?_ (fun dg=>?_)
     ·intro W _ hS _;obtain rfl:W=wc.drew:=hS Z;refine RE.z 146 _ _ Z (enters_of Tryz.func146 (by kernel_rfl) Z) #[vv (A ⟨P,0,Y⟩)] (by simp[Act.eval]) (b2.o.mono ?_);rintro e W' ⟨d,s,rfl,hT,ho,hf⟩;exact⟨_,Z,[s],Z,hT.u,hT.1,⟨d,s,Z,ho,hf⟩⟩
     simp only[Act.put,FA,FM,FK];refine RE.h Z Z ?_ (fun dn=>?_)
     ·intro W _ hS gF;have hT:ah wc P L cap ts r.2.1 r.2.2 W:=hS Z;obtain⟨d,s,rfl,ho,hf⟩:fN wc.heap.size r.1 W dg:=gF 3 dg (by kernel_rfl) Z;obtain⟨p,c,rfl⟩:=ho.q;refine RE.Upon.told (v:=O (A ⟨W.heap.size,0,Y⟩) 1 1) (w':=W.alloc (r9 (ai r.1 (O p r.1.z.length c)).toArray 145)) ?_ ⟨[I U W.heap.size],Z,hT.D _,?_,?_⟩
      ·unfold RE.Upon
       go_simp
       rfl
      ·exact az ((Fz _ W).alloc (Fy _) _) _
      ·refine⟨d,W.heap.size,W.heap.size,_,Z,oA W _,?_,hf,hT.1.size,Fy _⟩;exact ho.C (fun b D=>D.2) ((Fz _ W).alloc (Fy _) _)
     simp only[Act.put,FA,FM,FK];refine RE.t ?_;intro W3 hS hE;have ba:ah wc P L cap ts r.2.1 r.2.2 W3:=hS;obtain⟨d2,gg,N,s2,rfl,b3,b4,gH,gL,gM⟩:=(show gA wc.heap.size r.1 W3 dn from hE 4 dn Z);have k5:wc.heap.size≤W3.heap.size:=ba.1.size;have S:=dj t.o ba.1 (by omega);refine wpList_append_lies W3 Z (.tmp 47) (.tmp 50) 143 Z (l+1) 145 i0 _ 5 64 Tryz.underlying143 hA hC hD hG Z (by decide) o ks.length rows.flatten Z S ⟨gg,0,Y⟩ 1 1 (ai r.1 s2) Z Z
      (fun j u hu=>by rw[Addr.add_mid,Gk _ _ _ _ _ _ b3,Nat.zero_add];simpa using hu) (by have:=b4.q;obtain⟨p,c,rfl⟩:=this;simp[Value.oneCell',ai]) (by decide) (by unfold maxLen;omega) (by omega) (by omega) _ Z ?_
     intro g7 ds w7 bm T V _;obtain⟨d',b5,gN,u1,u2,u3,u4,u5,u6⟩:=sd (w:=w) K HL.o hU (show y<(l+1) by omega) (by omega) C.o bl.o t.o z.o ba b3 b4 gH gL gM bm T V;have x4:=ab u6 4;obtain⟨d0,c6,c7,d3,d4⟩:=cells5 u6;obtain⟨Wn,dt⟩:=zzx (w7.setCell ⟨y,4,Y⟩ (O (A ⟨g7,0,Y⟩) (ks.length+1) ds));rw[←dt]at u1 u2 u3 u4 u5;have X:(ks++[r.1]).length≤r.2.1+(if r.2.2=ur then 1 else 0):=by
      have h1:=u1.2.k;rw[FT,Gi];rcases c5.o with h|h
      ·rw[oE h];have:=e5.o;omega
      ·split<;>omega
     have b6:Hid (mc w P L cap ts (dz ts (ec ts)) tTo Rc nm.1.h sa.1 a y l Wn):=
      ⟨g',_,r.2,d',b5,gN,_,fT.o,fI.o,X,u1,(u2 l (by omega) (by omega) (by omega)).trans bk.o,u3,u4,u5⟩
     have b7:Hid (f8 P Wn<f8 P wr):=by
      show _<_
      rw[u1.2.steps,fz.o,oB (show ¬f.2=ur by rw[gf.o];decide)];have h1:=u1.2.k;have h3:=e5.o;rcases c5.o with h|h
      ·rw[oE h];omega
      ·split<;>omega
     have gO:=Hd dt;clear u1 u2 u3 u4 u5 X V T bm hE hS ba S b3 b4 C4;go_wp2_with fail
     rw[←gO.o];exact⟨b6.o,b7.o⟩
    | false =>
     have gS:(ks,f)=Rc:=by
      rw[←cl.o];have h2:=HB.o
      cases g with
      | zero=>rfl
      | succ g =>
       unfold upTo
       by_cases b8:f.2=ur
       ·rw[oE b8]
       ·rw[oB b8,oE (by simpa [b8]using h2)]
     subst gS;have gT:=Hd (cN C.o.2 tTo);dsimp only at HR;go_wp2_with fail
     refine FN gT.o ?_;rintro e we ⟨rfl,cm⟩;obtain⟨ha,hc,ih,dv,cf⟩:=zz5 (C.o.h cm) (cm.q bk.o K (by omega)) (cm.q bl.o K (by omega)) (dj t.o cm.1 a6) (z.o.turn cm.1 a6);have hle:l<we.heap.size:=(Fx.1 hc.o).1;have e6:=bz ts f tTo;have hd:f.2=ur→(aI ts f tTo).2=true:=fun h=>eb h tTo
     clear cm;obtain⟨e2,e7⟩:=zzy (aI ts f tTo);rw[e7]at ha HR e6 hd;obtain⟨Rz,hh⟩:=zzy (upTo ts (eJ ts) dc (ts.length+1) ks e2);rw[hh]at HR;have eg:ks.length≤e2.1+(if e2.2=ur then 1 else 0):=by
      have h1:=bb.o
      by_cases h:f.2=ur
      ·rw[oE h]at h1;rw[oE (hd h)];omega
      ·rw[oB h]at h1;omega
     have hj:Hid (mc w P L cap ts (eJ ts) dc Rz nm.1.h sa.1 a y l we):=
      ⟨ts.length+1,ks,e2,dd,rows,Fs,o,hh,Or.inr (by omega),eg,ha.o,hc.o,ih.o,dv.o,cf.o⟩
     clear e7 hh eg e6 hd cl HG bb HB dv cf t z bl bk C ih hc ha;clear h9 a6;go_wp2_with fail
     go_loopw [57] (fun _ wr=>mc w P L cap ts (eJ ts) dc Rz nm.1.h sa.1 a y l wr) (fun _ wr=>f8 P wr)
     case atStart=>exact hj.o
     case round =>
      obtain⟨g,ks,f,dd,rows,Fs,o,cC,hg,hlen,hT,hx,hn,H,q⟩:=hrel;obtain⟨M,cl,HG,bb,b0,b1,bd⟩:=zz7 hT cC hg hlen hx hn H;obtain⟨Q,fz⟩:=zz2 q hT.2.steps;have e8:Hid (f.1≤(eJ ts f).2.1):=rH ts f;clear cC hg hlen hT hx hn H q;go_upto_region 11 with fail
      go_cut [70] from 57 to 70 (fun v wx=>v=xv (!f.2&&!isM ts f [dc])∧Gl wr wx)
      case rest =>
       obtain⟨rfl,m⟩:=hcut;obtain⟨C,bk,bl⟩:=zz3 (M.o.t m) (aa m b0.o (Fx.1 b0.o).1) (aa m b1.o (Fx.1 b1.o).1);have a6:P<l+1:=by omega
       obtain⟨t,z⟩:=zz2 (dj bd.o (az m (A P)) a6) (Q.o.turn (az m (A P)) a6);have h9:l<wc.heap.size:=(Fx.1 bk.o).1;clear m M b0 b1 bd Q;obtain⟨b,D⟩:=zzy ((!f.2&&!isM ts f [dc]));rw[D];have HB:=Hd D;clear D
       cases b with
       | true =>
        have E:f.2=false:=by have:=HB.o;cases h:f.2<;>simp[h]at this ⊢
        have cR:isM ts f [dc]=false:=by have:=HB.o;rw[E]at this;simpa using this
        have cT:=C.o.2.k;have k3:=C.o.2.n;have cV:=bb.o;rw[E]at cV;simp only[F4,o1,Nat.add_zero]at cV;obtain⟨g',cW,c0⟩:∃g',(((eJ ts) f).2.2=ur∨ts.length-((eJ ts) f).2.1+1≤g')∧upTo ts (eJ ts) dc g' (ks++[((eJ ts) f).1]) ((eJ ts) f).2=Rz:=by
         have h1:=cl.o;have h2:=HG.o;rw[E]at h2;have k4:ts.length-f.1+1≤g:=by rcases h2 with h|h;cases h;exact h
         cases g with
         | zero=>omega
         | succ g =>
          unfold upTo at h1;rw[oB (by rw[E];decide),oB (by rw[cR];decide)]at h1;refine⟨g,?_,h1⟩;rcases (rE ch.o cT) with h|h
          ·exact Or.inl h
          ·exact Or.inr (by omega)
        have c3:=(rE ch.o cT);obtain⟨b2,fI,fT,c5,gf⟩:=zz5 (hz.o f wc.drew P L cap C.o.2.drew) cW c0 c3 E;clear cW c0 c3 cR E;generalize (eJ ts) f=r at *;obtain⟨d0,c6,c7,d3,d4⟩:=cells5 bl.o;have gD:y≠P:=by omega
        have C4:=fun x:RE.Gr wc P=>x.h d4 gD
        have c8:P<wc.heap.size:=C.o.2.lt.1;clear d0 c6 c7 d3 d4;go_wp2_with fail
        refine RE.u (by kernel_rfl) 5 [3,4] [3,4] (fun s W=>if s=0 then W=wc.drew else ah wc P L cap ts r.2.1 r.2.2 W) (fun W W'=>W.grownBy W' (A P))
         (fun i xs=>if i=3 then xk #[I tF r.1.q,tS r.1.h,I U r.1.u,I U r.1.t,xs.getD 0 undef] else O (A ⟨RE.natOf xs,0,Y⟩) 1 1)
         (fun i W xs=>if i=3 then fN wc.heap.size r.1 W xs else gA wc.heap.size r.1 W xs) (by kernel_rfl) (fun i h1 h2=>by rw[h1]at h2;cases h2) ?_ Z ?_
        ·intro k W W' xs h _ hg
         split at h
         ·rw[oE (by assumption)];exact h.u c8 hg
         ·rw[oB (by assumption)];exact h.u c8 hg
        simp only[FO,FY,FQ,FX,F9,List.length_nil,Nat.reduceAdd];have c9:∀(n s:Nat) (W:J),s≤n→(if s=0 then W=wc.drew else ah wc P L cap ts r.2.1 r.2.2 W)→∃x:RE.Gr wc P,W=x.1:=fun n s W _ h=>by
         split at h
         ·exact⟨⟨W,by rw[h];exact grown_drewN (o3 wc _) 1⟩,Z⟩
         ·exact⟨⟨W,h.1⟩,Z⟩
        have gE:=Hd c9;clear c9
        repeat (refine RE.q (fun W=>∃x:RE.Gr wc P,W=x.1) (gE.o _) Z Z Z Z ?_;go_big_quiet_step (fail);refine xL ?_)
        refine RE.h Z Z ?_ (fun dg=>?_)
        ·intro W _ hS _;obtain rfl:W=wc.drew:=hS Z;refine RE.z 147 _ _ Z (enters_of Tryz.func147 (by kernel_rfl) Z) #[vv (A ⟨P,0,Y⟩)] (by simp[Act.eval]) (b2.o.mono ?_);rintro e W' ⟨d,s,rfl,hT,ho,hf⟩;exact⟨_,Z,[s],Z,hT.u,hT.1,⟨d,s,Z,ho,hf⟩⟩
        simp only[Act.put,FA,FM,FK];refine RE.h Z Z ?_ (fun dn=>?_)
        ·intro W _ hS gF;have hT:ah wc P L cap ts r.2.1 r.2.2 W:=hS Z;obtain⟨d,s,rfl,ho,hf⟩:fN wc.heap.size r.1 W dg:=gF 3 dg (by kernel_rfl) Z;obtain⟨p,c,rfl⟩:=ho.q;refine RE.Upon.told (v:=O (A ⟨W.heap.size,0,Y⟩) 1 1) (w':=W.alloc (r9 (ai r.1 (O p r.1.z.length c)).toArray 145)) ?_ ⟨[I U W.heap.size],Z,hT.D _,?_,?_⟩
         ·unfold RE.Upon
          go_simp
          rfl
         ·exact az ((Fz _ W).alloc (Fy _) _) _
         ·refine⟨d,W.heap.size,W.heap.size,_,Z,oA W _,?_,hf,hT.1.size,Fy _⟩;exact ho.C (fun b D=>D.2) ((Fz _ W).alloc (Fy _) _)
        simp only[Act.put,FA,FM,FK];refine RE.t ?_;intro W3 hS hE;have ba:ah wc P L cap ts r.2.1 r.2.2 W3:=hS;obtain⟨d2,gg,N,s2,rfl,b3,b4,gH,gL,gM⟩:=(show gA wc.heap.size r.1 W3 dn from hE 4 dn Z);have k5:wc.heap.size≤W3.heap.size:=ba.1.size;have S:=dj t.o ba.1 (by omega);refine wpList_append_lies W3 Z (.tmp 72) (.tmp 75) 143 Z (l+1) 145 i0 _ 5 64 Tryz.underlying143 hA hC hD hG Z (by decide) o ks.length rows.flatten Z S ⟨gg,0,Y⟩ 1 1 (ai r.1 s2) Z Z
         (fun j u hu=>by rw[Addr.add_mid,Gk _ _ _ _ _ _ b3,Nat.zero_add];simpa using hu) (by have:=b4.q;obtain⟨p,c,rfl⟩:=this;simp[Value.oneCell',ai]) (by decide) (by unfold maxLen;omega) (by omega) (by omega) _ Z ?_
        intro g7 ds w7 bm T V _;obtain⟨d',b5,gN,u1,u2,u3,u4,u5,u6⟩:=sd (w:=w) K HL.o hU (show y<(l+1) by omega) (by omega) C.o bl.o t.o z.o ba b3 b4 gH gL gM bm T V;have x4:=ab u6 4;obtain⟨d0,c6,c7,d3,d4⟩:=cells5 u6;obtain⟨Wn,dt⟩:=zzx (w7.setCell ⟨y,4,Y⟩ (O (A ⟨g7,0,Y⟩) (ks.length+1) ds));rw[←dt]at u1 u2 u3 u4 u5;have X:(ks++[r.1]).length≤r.2.1+(if r.2.2=ur then 1 else 0):=by
         have h1:=u1.2.k;rw[FT,Gi];rcases c5.o with h|h
         ·rw[oE h];have:=e8.o;omega
         ·split<;>omega
        have b6:Hid (mc w P L cap ts (eJ ts) dc Rz nm.1.h sa.1 a y l Wn):=
         ⟨g',_,r.2,d',b5,gN,_,fT.o,fI.o,X,u1,(u2 l (by omega) (by omega) (by omega)).trans bk.o,u3,u4,u5⟩
        have b7:Hid (f8 P Wn<f8 P wr):=by
         show _<_
         rw[u1.2.steps,fz.o,oB (show ¬f.2=ur by rw[gf.o];decide)];have h1:=u1.2.k;have h3:=e8.o;rcases c5.o with h|h
         ·rw[oE h];omega
         ·split<;>omega
        have gO:=Hd dt;clear u1 u2 u3 u4 u5 X V T bm hE hS ba S b3 b4 C4;go_wp2_with fail
        rw[←gO.o];exact⟨b6.o,b7.o⟩
       | false =>
        have gS:(ks,f)=Rz:=by
         rw[←cl.o];have h2:=HB.o
         cases g with
         | zero=>rfl
         | succ g =>
          unfold upTo
          by_cases b8:f.2=ur
          ·rw[oE b8]
          ·rw[oB b8,oE (by simpa [b8]using h2)]
        subst gS;have gT:=Hd (cN C.o.2 dc);dsimp only at HR;go_wp2_with fail
        refine FN gT.o ?_;rintro e wz ⟨rfl,cn⟩;obtain⟨k6,bn,k7⟩:=zz3 (C.o.h cn) (cn.q bk.o K (by omega)) (cn.q bl.o K (by omega));have H:=dj t.o cn.1 a6;have q:=z.o.turn cn.1 a6;have hO:=sh (d:=dd+1) Z H q (fun h=>by omega);obtain⟨p,c,rfl⟩:=hO.q;have HO:=Hd hO;have mu:l<wz.heap.size:=(Fx.1 bn.o).1;clear cn hO H q;obtain⟨n0,n1,n2,n3,n4⟩:=cells5 k7.o;obtain⟨a0,a1,a2,a3,a4⟩:=cells5 bn.o;have z0:=ab bn.o 0;have z1:=ab bn.o 1;have z2:=ab bn.o 2;have z3:=ab bn.o 3;have z4:=ab bn.o 4;go_wp2_with fail
        refine bh Tryz.results122 Z (aO bn.o _ _ _ _ _) Z ?_;rw[←HR.o];have cc:Fits (.mk 4 nm.1.h sa.1 a ks):=by
         have h1:=hQ.o;have h2:=kv.o;refine⟨by show 4<256;omega,by show nm.1.h.size≤maxLen;unfold maxLen;omega,by show (-9223372036854775808:Int)≤sa.1;omega,by show sa.1<9223372036854775808;omega,by show (-9223372036854775808:Int)≤a;omega,by show a<9223372036854775808;omega⟩
        exact aR.z (r:=(.mk 4 nm.1.h sa.1 a ks,aI ts f dc)) (B:=l+1) K HL.o k6.o HO.o cc (by omega) (by omega) _ _ _ _ _
      case first =>
       obtain⟨_,_,_,_,_,c1,_,_⟩:=M.o.2.z;have b9:Gl wr (wr.alloc (r9 #[tS dc] 9)):=(Fz _ wr).alloc (Fy _) _;obtain⟨en,eo⟩:=zz2 (oY (M.o.2.C b9) (f9 M.o.2.k) wr.heap.size 0 1 1 [dc] (bK [dc]) Z (by omega)) b9;clear b9
       cases D:f.2 with
       | true =>
        rw[D]at c1;have ca:=Hd D;clear D;go_wp2_with fail
        go_meet
        case rel=>exact⟨by rw[ca.o];rfl,Fz _ _⟩
       | false =>
        rw[D]at c1 en;have hi:isM ts f [dc]=(!false&&isT (cP ts f.1) [dc]):=by unfold isM;rw[D]
        generalize (!false&&isT (cP ts f.1) [dc])=bi at *;obtain⟨ca,HI⟩:=zz2 D hi;clear D hi;go_wp2_with fail
        refine FN en.o ?_;rintro e wx ⟨rfl,m⟩;have hk:=Hd m;clear m;go_wp2_with fail
        go_meet
        case rel=>exact⟨by rw[ca.o,HI.o];cases bi<;>rfl,eo.o.trans (hk.o.mono eo.o.size)⟩
   case first =>
    obtain⟨_,_,_,_,_,c1,_,_⟩:=M.o.2.z;have b9:Gl wr (wr.alloc (r9 #[tS tTo] 9)):=(Fz _ wr).alloc (Fy _) _;obtain⟨en,eo⟩:=zz2 (oY (M.o.2.C b9) (f9 M.o.2.k) wr.heap.size 0 1 1 [tTo] (bK [tTo]) Z (by omega)) b9;clear b9
    cases D:f.2 with
    | true =>
     rw[D]at c1;have ca:=Hd D;clear D;go_wp2_with fail
     go_meet
     case rel=>exact⟨by rw[ca.o];rfl,Fz _ _⟩
    | false =>
     rw[D]at c1 en;have hi:isM ts f [tTo]=(!false&&isT (cP ts f.1) [tTo]):=by unfold isM;rw[D]
     generalize (!false&&isT (cP ts f.1) [tTo])=bi at *;obtain⟨ca,HI⟩:=zz2 D hi;clear D hi;go_wp2_with fail
     refine FN en.o ?_;rintro e wx ⟨rfl,m⟩;have hk:=Hd m;clear m;go_wp2_with fail
     go_meet
     case rel=>exact⟨by rw[ca.o,HI.o];cases bi<;>rfl,eo.o.trans (hk.o.mono eo.o.size)⟩
 case first =>
  by_cases hm:isM ts ar [kZ]=ur
  ·have hR:=hY.o;rw[oE hm]at hR;have ad:aF ts ar [kZ]=ae ts ar:=by unfold aF;rw[oE hm]
   rw[ad]at cA;have af:isM ts ar [kZ]=true:=by simpa using hm
   rw[af];have er:=Hd hR;clear hR ad hm af;obtain⟨F,e9⟩:=zzy (ae ts ar);rw[e9]at cA er;clear e9;obtain⟨bt,cu,cv⟩:=zz3 (cA.o.D (r9 #[tS a7] 9)) ((Gj w6 (r9 #[tS a7] 9) y (by omega)).trans h0.o) ((Gj w6 (r9 #[tS a7] 9) l (by omega)).trans fr.o);have cy:=Hd (dy bt.o.2 w6.heap.size 0 1 1 [a7] (bK [a7]) Z (by omega));go_wp2_with fail
   refine FN cy.o ?_;rintro e w7 ⟨rfl,ht⟩;obtain⟨cp,hl,ix⟩:=zz3 (bt.o.h ht) (ht.q cv.o K (by omega)) (ht.q cu.o K (by omega));have mv:l<w7.heap.size:=(Fx.1 hl.o).1;clear ht bt cu cv cy
   by_cases hm:isM ts F [a7]=ur
   ·have hR:=er.o;rw[oE hm]at hR;have ad:aF ts F [a7]=ae ts F:=by unfold aF;rw[oE hm]
    rw[ad]at cp;have af:isM ts F [a7]=true:=by simpa using hm
    rw[af];have hp:=Hd hR;clear hR ad hm af;have hq:=Hd (lO ch.o (σ:=(ae ts F)) cp.o.2);have k8:=jl ts (ae ts F);generalize fU ts (ae ts F)=nu at *;have iA:(nu.1:Int)≤2147483647:=by omega
    go_wp2_with fail
    refine FN hq.o ?_;rintro e w8 ⟨rfl,aq⟩;obtain⟨hr,et,cb⟩:=zz3 (cp.o.h aq) (aq.q hl.o K (by omega)) (aq.q ix.o K (by omega));have k9:l<w8.heap.size:=(Fx.1 et.o).1;have la:w7.heap.size≤w8.heap.size:=aq.1.size;clear aq;obtain⟨w9,G⟩:=zzx ((w8.setCell ⟨y,2,Y⟩ (I U (-(nu.1:Int)))));have lb:w9.heap.size=w8.heap.size:=by rw[G];simp[World.setCell]
    have ld:y<w9.heap.size:=by omega
    have hs:Hid (ah w P L cap ts nu.2.1 nu.2.2 w9):=by rw[G];exact (hr.o.z K HL.o (by omega) 2 _)
    have hv:Hid (w9.heap[l]?=A (r9 bE 145 (0,0))):=by rw[G];exact ((FC _ _ _ _ (show l≠y by omega)).trans et.o)
    have hy:Hid (w9.heap[y]?=A (r9 #[I tF 4,tS nm.1.h,I U (-(nu.1:Int)),I U a,O Y 0 0] 145 (0,0))):=by rw[G];exact (heap_set cb.o 2 _)
    have f2:=ab cb.o 2;obtain⟨n0,n1,n2,n3,n4⟩:=cells5 cb.o;have H9:=Hd G;clear G;go_wp2_with fail
    go_meet
    case rel =>
    rw[←H9.o];clear n0 n1 n2 n3 n4 f2;rw[←hp.o];exact⟨hs.o,hy.o,hv.o⟩
   ·have hR:=er.o;rw[oB hm]at hR;have ad:aF ts F [a7]=F:=by unfold aF;rw[oB hm]
    rw[ad]at cp;have af:isM ts F [a7]=false:=by simpa using hm
    rw[af];have hp:=Hd hR;clear hR ad hm af;have hq:=Hd (lO ch.o (σ:=F) cp.o.2);have k8:=jl ts F;generalize fU ts F=nu at *;have iA:(nu.1:Int)≤2147483647:=by omega
    go_wp2_with fail
    refine FN hq.o ?_;rintro e w8 ⟨rfl,aq⟩;obtain⟨hr,et,cb⟩:=zz3 (cp.o.h aq) (aq.q hl.o K (by omega)) (aq.q ix.o K (by omega));have k9:l<w8.heap.size:=(Fx.1 et.o).1;have la:w7.heap.size≤w8.heap.size:=aq.1.size;clear aq;obtain⟨w9,G⟩:=zzx ((w8.setCell ⟨y,2,Y⟩ (I U nu.1)));have lb:w9.heap.size=w8.heap.size:=by rw[G];simp[World.setCell]
    have ld:y<w9.heap.size:=by omega
    have hs:Hid (ah w P L cap ts nu.2.1 nu.2.2 w9):=by rw[G];exact (hr.o.z K HL.o (by omega) 2 _)
    have hv:Hid (w9.heap[l]?=A (r9 bE 145 (0,0))):=by rw[G];exact ((FC _ _ _ _ (show l≠y by omega)).trans et.o)
    have hy:Hid (w9.heap[y]?=A (r9 #[I tF 4,tS nm.1.h,I U nu.1,I U a,O Y 0 0] 145 (0,0))):=by rw[G];exact (heap_set cb.o 2 _)
    have f2:=ab cb.o 2;obtain⟨n0,n1,n2,n3,n4⟩:=cells5 cb.o;have H9:=Hd G;clear G;go_wp2_with fail
    go_meet
    case rel =>
    rw[←H9.o];clear n0 n1 n2 n3 n4 f2;rw[←hp.o];exact⟨hs.o,hy.o,hv.o⟩
  ·have hR:=hY.o;rw[oB hm]at hR;have ad:aF ts ar [kZ]=ar:=by unfold aF;rw[oB hm]
   rw[ad]at cA;have af:isM ts ar [kZ]=false:=by simpa using hm
   rw[af];have er:=Hd hR;clear hR ad hm af;go_wp2_with fail
   go_meet
   case rel =>
   rw[←er.o];exact⟨cA.o,h0.o,fr.o⟩
