/- The parser: rules, behind their word; by contract. Condition: at most 16385 tokens, each of at most 16384 bytes. -/
import Derived.Test.YtmpekinjoeibbaaGreatDoorMX
open Option renaming some→A,none→V
open Go.Obj renaming cells→p8
open Go.Value renaming int→I,string→p9,slice→O,bool→ur,agg→s3,pointer→tv
open Go.IntKind renaming u8→J,i64→Y
open Bool renaming true→r5
namespace Go.Proofs.YtmpekinjoeibbaaGreatDoor
set_option maxHeartbeats 4000000
set_option maxRecDepth 100000
open Go.RowKit
def Eo(w:World) (P L cap:Nat) (ts:List Tok) (tx:ByteArray) (a:Int) (r:Int×PS) (b c:Nat) (W:World):Prop:=
 ax w P L cap ts r.2.1 r.2.2 W∧W.heap[b]?=A (p8 #[I J 4,p9 tx,I Y r.1,I Y a,O V 0 0] 64 (0,0))∧W.heap[c]?=A (p8 bH 64 (0,0))
def lC(w:World) (P L cap:Nat) (ts:List Tok) (one:PS→ah×PS) (stop:ByteArray) (R:List ah×PS) (tx:ByteArray) (num a:Int) (e c:Nat) (W:World):Prop:=
 ∃(g:Nat) (b:List ah) (σ:PS) (d:Nat) (rows:List (List Value)) (f:Nat→Nat→Prop) (o:Value),upTo ts one stop g b σ=R∧(σ.2=r5∨ts.length-σ.1+1≤g)∧b.length≤σ.1+(if σ.2=r5 then 1 else 0)∧
  ax w P L cap ts σ.1 σ.2 W∧W.heap[c]?=A (p8 bH 64 (0,0))∧W.heap[e]?=A (p8 #[I J 4,p9 tx,I Y num,I Y a,o] 64 (0,0))∧
  W.ownsRow (c+1) 64 5 o b.length rows.flatten∧cy W (c+1) d b b.length o.ownBlock rows f
def f8(P:Nat) (W:World):Nat:=leftOf P W*2+(match W.cell? ⟨P,1,V⟩ with|some (ur r5)=>0|_=>1)
theorem PAt.steps{w:World}{P L cap:Nat}{ts:List Tok}{k:Nat}{bad:Bool}(h:PAt w P L cap ts k bad):f8 P w=(ts.length-k)*2+(if bad=r5 then 0 else 1):=by
 obtain⟨_,_,_,_,_,c1,_⟩:=h.h;unfold f8;rw[h.left,c1]
 cases bad<;>rfl
theorem yN(ts:List Tok)(σ:PS):-2147483647≤(gV ts σ).1∧(gV ts σ).1≤2147483647:=by
 unfold gV;have a:=jh ts (al ts σ);have b:=jh ts (al ts (al ts σ))
 (repeat' split)<;>dsimp only<;>omega
theorem Bl{ts:List Tok}(bd:cz ts):zZ ts (dJ ts):=by
 intro a σ w P L cap k9 la h;have K:=h.lt.1;have hL:=h.lt.2;obtain⟨ca,fp,hy⟩:=zz3 bd (BE bd (Cw bd) (jd ts)) (BG bd);obtain⟨i0,hz,hA,hC,hD⟩:=info_parts pN;obtain⟨wA,cq⟩:=zzx ((w.alloc (p8 #[I J 0,p9 ⟨#[]⟩,I Y 0,I Y a,O V 0 0] 64)).alloc (p8 bH 64));obtain⟨y,hG⟩:=zzy (w.heap.size);obtain⟨l,hH⟩:=zzy (w.heap.size+1);have hI:FS w wA:=by rw[cq];exact gi w _ _
 have hJ:=Hd (h.b hI);obtain⟨X1,X2,_⟩:=ay w (p8 #[I J 0,p9 ⟨#[]⟩,I Y 0,I Y a,O V 0 0] 64) (p8 bH 64);rw[←cq,hG]at X1;rw[←cq,hH]at X2;obtain⟨ix,hK,iA⟩:=zz3 X1 X2 (i8 bd hJ.o.2 4 (by omega));have b8:(ofM ts σ 2 4).1.h.size≤16384:=(cQ bd _).2.1;obtain⟨R,hR⟩:=zzy (dJ ts a σ);rw[hR];unfold dJ at hR;dsimp only at hR;generalize ofM ts σ 2 4=nm at *;obtain⟨HR,hM⟩:=zz2 hR b8;clear X1 X2 hR bd h hI b8
 go_enter Tryz.func45,Tryz.ntmps45
 go_upto_region 1 with fail
 change Code.wp _ _ _ _ ((w.alloc (p8 #[I J 0,p9 ⟨#[]⟩,I Y 0,I Y a,O V 0 0] 64)).alloc (p8 bH 64));rw[←cq];have e5:y+1=l:=by omega
 rw[e5];have hN:w.heap.size≤y:=by omega
 have lb:y<l:=by omega
 have ld:l<wA.heap.size:=(ES.1 hK.o).1;have HL:Hid (L<w.heap.size):=hL;clear cq hG hH e5;go_wp2_with fail
 refine Ff iA.o ?_;rintro e w4 ⟨d,s,rfl,cr,ho,hf⟩;obtain⟨iB,hQ,e2⟩:=zz3 (hJ.o.h cr) (cr.q hK.o K (by omega)) (cr.q ix.o K (by omega));have lf:l<w4.heap.size:=(ES.1 hQ.o).1;have lg:wA.heap.size≤w4.heap.size:=cr.1.size;obtain⟨p,c,rfl⟩:=ho.b;have iX:=im nm.1.b nm.1.h nm.1.q nm.1.t nm.1.u.length p c w4;clear cr ho hf;obtain⟨w5,cb⟩:=zzx (((w4.setCell ⟨y,0,V⟩ (I J 4)).setCell ⟨y,1,V⟩ (p9 nm.1.h)));have jj:w5.heap.size=w4.heap.size:=by rw[cb];simp[World.setCell]
 have lo:y<w5.heap.size:=by omega
 have hU:Hid (ax w P L cap ts nm.2.1 nm.2.2 w5):=by rw[cb];exact ((iB.o.t K HL.o (by omega) 0 _).t K HL.o (by omega) 1 _)
 have j2:Hid (w5.heap[l]?=A (p8 bH 64 (0,0))):=by rw[cb];exact ((EW _ _ _ _ (show l≠y by omega)).trans ((EW _ _ _ _ (show l≠y by omega)).trans hQ.o))
 have ka:Hid (w5.heap[y]?=A (p8 #[I J 4,p9 nm.1.h,I Y 0,I Y a,O V 0 0] 64 (0,0))):=by rw[cb];exact (heap_set (heap_set e2.o 0 _) 1 _)
 have f0:=ae e2.o 0;have f1:=ae e2.o 1;obtain⟨n0,n1,n2,n3,n4⟩:=cells5 e2.o;have H5:=Hd cb;clear cb;go_upto_region 2 with fail
 change Code.wp _ _ _ _ ((w4.setCell ⟨y,0,V⟩ (I J 4)).setCell ⟨y,1,V⟩ (p9 nm.1.h));rw[←H5.o];clear n0 n1 n2 n3 n4 f0 f1;clear iX;have l0:w4.heap.size≤w5.heap.size:=by omega
 clear jj;obtain⟨aq,hV⟩:=zzy (nm.2);rw[hV]at hU HR;obtain⟨sa,ct⟩:=zzy (gV ts aq);rw[ct]at HR;have kc:Hid (-2147483647≤sa.1∧sa.1≤2147483647):=by rw[←ct];exact yN ts aq
 unfold gV at ct;have hW:=Hd ct;clear ct;obtain⟨bk,cu,cv⟩:=zz3 (hU.o.y (p8 #[p9 kF] 9)) ((FQ w5 (p8 #[p9 kF] 9) y (by omega)).trans ka.o) ((FQ w5 (p8 #[p9 kF] 9) l (by omega)).trans j2.o);have cx:=Hd (dA bk.o.2 w5.heap.size 0 1 1 [kF] (bN [kF]) Z (by omega));go_wp2_with fail
 refine Ff cx.o ?_;rintro e w6 ⟨rfl,ht⟩;obtain⟨cT,fr,hX⟩:=zz3 (bk.o.h ht) (ht.q cv.o K (by omega)) (ht.q cu.o K (by omega));have l1:l<w6.heap.size:=(ES.1 fr.o).1;clear ht bk cu cv cx
 go_upto_if 15 with fail
 go_cut [] from 5 to 27 (fun wx=>Eo w P L cap ts nm.1.h a sa y l wx)
 case rest =>
  obtain⟨fv,hY,fz⟩:=hcut;obtain⟨kk,kn,kr⟩:=zz3 fv hY fz;have l2:l<wc.heap.size:=(ES.1 fz).1;have HW:=Hd (cU fv.2 kg);clear fv hY fz;go_wp2_with fail
  refine Ff HW.o ?_;rintro e wd ⟨rfl,e3⟩;obtain⟨h0,h4,kv⟩:=zz3 (kk.o.h e3) (e3.q kr.o K (by omega)) (e3.q kn.o K (by omega));have l3:l<wd.heap.size:=(ES.1 h4.o).1;obtain⟨h5,e6⟩:=zzy (aP ts sa.2 kg);rw[e6]at h0 HR;obtain⟨Rc,fI⟩:=zzy (upTo ts (dB ts (ei ts)) tTo (ts.length+1) [] h5);rw[fI]at HR;have h6:Hid (lC w P L cap ts (dB ts (ei ts)) tTo Rc nm.1.h sa.1 a y l wd):=
   ⟨ts.length+1,[],h5,0,[],fun _ _=>False,O V 0 0,fI,Or.inr (by omega),Fi _,h0.o,h4.o,kv.o,World.ownsRow_nil _ _ _ _,kS _ _ _ _⟩
  clear e3 e6 fI;go_wp2_with fail
  go_loopw [32] (fun _ wr=>lC w P L cap ts (dB ts (ei ts)) tTo Rc nm.1.h sa.1 a y l wr) (fun _ wr=>f8 P wr)
  case atStart=>exact h6.o
  case round =>
   obtain⟨g,ks,f,dd,rows,Fs,o,cV,hg,hlen,hT,hx,hn,H,q⟩:=hrel;obtain⟨M,ch,HG,a6,bl,bn,a7⟩:=zz7 hT cV hg hlen hx hn H;obtain⟨Q,fT⟩:=zz2 q hT.2.steps;have e7:Hid (f.1≤(dB ts (ei ts) f).2.1):=pd (jd ts) f;clear cV hg hlen hT hx hn H q;go_upto_region 8 with fail
   go_cut [45] from 32 to 45 (fun v wx=>v=ur (!f.2&&!isM ts f [tTo])∧FS wr wx)
   case rest =>
    obtain⟨rfl,m⟩:=hcut;obtain⟨C,a8,ba⟩:=zz3 (M.o.b m) (ag m bl.o (ES.1 bl.o).1) (ag m bn.o (ES.1 bn.o).1);have ar:P<l+1:=by omega
    obtain⟨t,z⟩:=zz2 (dm a7.o (aL m (A P)) ar) (Q.o.turn (aL m (A P)) ar);have h7:l<wc.heap.size:=(ES.1 a8.o).1;clear m M bl bn a7 Q;obtain⟨b,D⟩:=zzy ((!f.2&&!isM ts f [tTo]));rw[D];have HB:=Hd D;clear D
    cases b with
    | true =>
     have E:f.2=false:=by have:=HB.o;cases h:f.2<;>simp[h]at this ⊢
     have cW:isM ts f [tTo]=false:=by have:=HB.o;rw[E]at this;simpa using this
     have c3:=C.o.2.k;have kI:=C.o.2.n;have c5:=a6.o;rw[E]at c5;simp only[Fx,oX,Nat.add_zero]at c5;obtain⟨g',c6,c7⟩:∃g',(((dB ts (ei ts)) f).2.2=r5∨ts.length-((dB ts (ei ts)) f).2.1+1≤g')∧upTo ts (dB ts (ei ts)) tTo g' (ks++[((dB ts (ei ts)) f).1]) ((dB ts (ei ts)) f).2=Rc:=by
      have h1:=ch.o;have h2:=HG.o;rw[E]at h2;have k0:ts.length-f.1+1≤g:=by rcases h2 with h|h;cases h;exact h
      cases g with
      | zero=>omega
      | succ g =>
       unfold upTo at h1;rw[ox (by rw[E];decide),ox (by rw[cW];decide)]at h1;refine⟨g,?_,h1⟩;rcases (pK ca.o (jd ts) (fun _ h=>oZ h) c3) with h|h
       ·exact Or.inl h
       ·exact Or.inr (by omega)
     have c8:=(pK ca.o (jd ts) (fun _ h=>oZ h) c3);obtain⟨bq,ga,gb,c9,gf⟩:=zz5 (fp.o f wc.drew P L cap C.o.2.drew) c6 c7 c8 E;clear c6 c7 c8 cW E;generalize (dB ts (ei ts)) f=r at *;obtain⟨d0,da,dc,d3,d4⟩:=cells5 ba.o;have gm:y≠P:=by omega
     have C4:=fun x:RE.Gr wc P=>x.b d4 gm
     have dg:P<wc.heap.size:=C.o.2.lt.1;clear d0 da dc d3 d4;go_wp2_with fail
     refine RE.t (by kernel_rfl) 5 [3,4] [3,4] (fun s W=>if s=0 then W=wc.drew else ax wc P L cap ts r.2.1 r.2.2 W) (fun W W'=>W.grownBy W' (A P))
      (fun i xs=>if i=3 then s3 #[I J r.1.b,p9 r.1.h,I Y r.1.q,I Y r.1.t,xs.getD 0 undef] else O (A ⟨RE.natOf xs,0,V⟩) 1 1)
      (fun i W xs=>if i=3 then fK wc.heap.size r.1 W xs else gG wc.heap.size r.1 W xs) (by kernel_rfl) (fun i h1 h2=>by rw[h1]at h2;cases h2) ?_ Z ?_
     ·intro k W W' xs h _ hg
      split at h
      ·rw[oA (by assumption)];exact h.N dg hg
      ·rw[ox (by assumption)];exact h.N dg hg
     simp only[Fg,Fu,Fh,Ft,FC,List.length_nil,Nat.reduceAdd];have dr:∀(n s:Nat) (W:World),s≤n→(if s=0 then W=wc.drew else ax wc P L cap ts r.2.1 r.2.2 W)→∃x:RE.Gr wc P,W=x.1:=fun n s W _ h=>by
      split at h
      ·exact⟨⟨W,by rw[h];exact grown_drewN (oT wc _) 1⟩,Z⟩
      ·exact⟨⟨W,h.1⟩,Z⟩
     have gD:=Hd dr;clear dr
     repeat (refine RE.h (fun W=>∃x:RE.Gr wc P,W=x.1) (gD.o _) Z Z Z Z ?_;go_big_quiet_step (fail);refine wpQuiet_nil ?_)
     refine RE.b Z Z ?_ (fun ds=>?_)
     ·intro W _ hS _;obtain rfl:W=wc.drew:=hS Z;refine RE.u 101 _ _ Z (enters_of Tryz.func101 (by kernel_rfl) Z) #[tv (A ⟨P,0,V⟩)] (by simp[Act.eval]) (bq.o.mono ?_);rintro e W' ⟨d,s,rfl,hT,ho,hf⟩;exact⟨_,Z,[s],Z,hT.u,hT.1,⟨d,s,Z,ho,hf⟩⟩
     simp only[Act.put,EV,Fe,Fc];refine RE.b Z Z ?_ (fun dv=>?_)
     ·intro W _ hS gE;have hT:ax wc P L cap ts r.2.1 r.2.2 W:=hS Z;obtain⟨d,s,rfl,ho,hf⟩:fK wc.heap.size r.1 W ds:=gE 3 ds (by kernel_rfl) Z;obtain⟨p,c,rfl⟩:=ho.b;refine RE.Upon.told (v:=O (A ⟨W.heap.size,0,V⟩) 1 1) (w':=W.alloc (p8 (az r.1 (O p r.1.u.length c)).toArray 64)) ?_ ⟨[I Y W.heap.size],Z,hT.y _,?_,?_⟩
      ·unfold RE.Upon
       go_simp
       rfl
      ·exact aL ((EU _ W).alloc (ET _) _) _
      ·refine⟨d,W.heap.size,W.heap.size,_,Z,ot W _,?_,hf,hT.1.size,ET _⟩;exact ho.C (fun b D=>D.2) ((EU _ W).alloc (ET _) _)
     simp only[Act.put,EV,Fe,Fc];refine RE.q ?_;intro W3 hS hE;have av:ax wc P L cap ts r.2.1 r.2.2 W3:=hS;obtain⟨d2,gg,N,s2,rfl,br,bt,gF,gH,gL⟩:=(show gG wc.heap.size r.1 W3 dv from hE 4 dv Z);have k1:wc.heap.size≤W3.heap.size:=av.1.size;have S:=dm t.o av.1 (by omega);refine wpList_append_lies W3 Z (.tmp 47) (.tmp 50) 62 Z (l+1) 64 i0 _ 5 64 Tryz.underlying62 hz hA hC hD Z (by decide) o ks.length rows.flatten Z S ⟨gg,0,V⟩ 1 1 (az r.1 s2) Z Z
      (fun j u hu=>by rw[Addr.add_mid,FR _ _ _ _ _ _ br,Nat.zero_add];simpa using hu) (by have:=bt.b;obtain⟨p,c,rfl⟩:=this;simp[Value.oneCell',az]) (by decide) (by unfold maxLen;omega) (by omega) (by omega) _ Z ?_
     intro g7 eg w7 bb T U _;obtain⟨d',b1,gM,u1,u2,u3,u4,u5,u6⟩:=rz (w:=w) K HL.o hN (show y<(l+1) by omega) (by omega) C.o ba.o t.o z.o av br bt gF gH gL bb T U;have x4:=ae u6 4;obtain⟨d0,da,dc,d3,d4⟩:=cells5 u6;obtain⟨Wn,en⟩:=zzx (w7.setCell ⟨y,4,V⟩ (O (A ⟨g7,0,V⟩) (ks.length+1) eg));rw[←en]at u1 u2 u3 u4 u5;have X:(ks++[r.1]).length≤r.2.1+(if r.2.2=r5 then 1 else 0):=by
      have h1:=u1.2.k;rw[Fl,FP];rcases c9.o with h|h
      ·rw[oA h];have:=e7.o;omega
      ·split<;>omega
     have b2:Hid (lC w P L cap ts (dB ts (ei ts)) tTo Rc nm.1.h sa.1 a y l Wn):=
      ⟨g',_,r.2,d',b1,gM,_,gb.o,ga.o,X,u1,(u2 l (by omega) (by omega) (by omega)).trans a8.o,u3,u4,u5⟩
     have b3:Hid (f8 P Wn<f8 P wr):=by
      show _<_
      rw[u1.2.steps,fT.o,ox (show ¬f.2=r5 by rw[gf.o];decide)];have h1:=u1.2.k;have h3:=e7.o;rcases c9.o with h|h
      ·rw[oA h];omega
      ·split<;>omega
     have gN:=Hd en;clear u1 u2 u3 u4 u5 X U T bb hE hS av S br bt C4;go_wp2_with fail
     rw[←gN.o];exact⟨b2.o,b3.o⟩
    | false =>
     have gO:(ks,f)=Rc:=by
      rw[←ch.o];have h2:=HB.o
      cases g with
      | zero=>rfl
      | succ g =>
       unfold upTo
       by_cases b4:f.2=r5
       ·rw[oA b4]
       ·rw[ox b4,oA (by simpa [b4]using h2)]
     subst gO;have gS:=Hd (cU C.o.2 tTo);dsimp only at HR;go_wp2_with fail
     refine Ff gS.o ?_;rintro e we ⟨rfl,ck⟩;obtain⟨gT,ha,h8,eo,b9⟩:=zz5 (C.o.h ck) (ck.q a8.o K (by omega)) (ck.q ba.o K (by omega)) (dm t.o ck.1 ar) (z.o.turn ck.1 ar);have hle:l<we.heap.size:=(ES.1 ha.o).1;have e8:=bD ts f tTo;have hc:f.2=r5→(aP ts f tTo).2=true:=fun h=>ef h tTo
     clear ck;obtain⟨e4,e9⟩:=zzy (aP ts f tTo);rw[e9]at gT HR e8 hc;obtain⟨Rz,hd⟩:=zzy (upTo ts (eO ts) dk (ts.length+1) ks e4);rw[hd]at HR;have er:ks.length≤e4.1+(if e4.2=r5 then 1 else 0):=by
      have h1:=a6.o
      by_cases h:f.2=r5
      ·rw[oA h]at h1;rw[oA (hc h)];omega
      ·rw[ox h]at h1;omega
     have hh:Hid (lC w P L cap ts (eO ts) dk Rz nm.1.h sa.1 a y l we):=
      ⟨ts.length+1,ks,e4,dd,rows,Fs,o,hd,Or.inr (by omega),er,gT.o,ha.o,h8.o,eo.o,b9.o⟩
     clear e9 hd er e8 hc ch HG a6 HB eo b9 t z ba a8 C h8 ha gT;clear h7 ar;go_wp2_with fail
     go_loopw [57] (fun _ wr=>lC w P L cap ts (eO ts) dk Rz nm.1.h sa.1 a y l wr) (fun _ wr=>f8 P wr)
     case atStart=>exact hh.o
     case round =>
      obtain⟨g,ks,f,dd,rows,Fs,o,cV,hg,hlen,hT,hx,hn,H,q⟩:=hrel;obtain⟨M,ch,HG,a6,bl,bn,a7⟩:=zz7 hT cV hg hlen hx hn H;obtain⟨Q,fT⟩:=zz2 q hT.2.steps;have fe:Hid (f.1≤(eO ts f).2.1):=qU ts f;clear cV hg hlen hT hx hn H q;go_upto_region 11 with fail
      go_cut [70] from 57 to 70 (fun v wx=>v=ur (!f.2&&!isM ts f [dk])∧FS wr wx)
      case rest =>
       obtain⟨rfl,m⟩:=hcut;obtain⟨C,a8,ba⟩:=zz3 (M.o.b m) (ag m bl.o (ES.1 bl.o).1) (ag m bn.o (ES.1 bn.o).1);have ar:P<l+1:=by omega
       obtain⟨t,z⟩:=zz2 (dm a7.o (aL m (A P)) ar) (Q.o.turn (aL m (A P)) ar);have h7:l<wc.heap.size:=(ES.1 a8.o).1;clear m M bl bn a7 Q;obtain⟨b,D⟩:=zzy ((!f.2&&!isM ts f [dk]));rw[D];have HB:=Hd D;clear D
       cases b with
       | true =>
        have E:f.2=false:=by have:=HB.o;cases h:f.2<;>simp[h]at this ⊢
        have cW:isM ts f [dk]=false:=by have:=HB.o;rw[E]at this;simpa using this
        have c3:=C.o.2.k;have kI:=C.o.2.n;have c5:=a6.o;rw[E]at c5;simp only[Fx,oX,Nat.add_zero]at c5;obtain⟨g',c6,c7⟩:∃g',(((eO ts) f).2.2=r5∨ts.length-((eO ts) f).2.1+1≤g')∧upTo ts (eO ts) dk g' (ks++[((eO ts) f).1]) ((eO ts) f).2=Rz:=by
         have h1:=ch.o;have h2:=HG.o;rw[E]at h2;have k0:ts.length-f.1+1≤g:=by rcases h2 with h|h;cases h;exact h
         cases g with
         | zero=>omega
         | succ g =>
          unfold upTo at h1;rw[ox (by rw[E];decide),ox (by rw[cW];decide)]at h1;refine⟨g,?_,h1⟩;rcases (qT ca.o c3) with h|h
          ·exact Or.inl h
          ·exact Or.inr (by omega)
        have c8:=(qT ca.o c3);obtain⟨bq,ga,gb,c9,gf⟩:=zz5 (hy.o f wc.drew P L cap C.o.2.drew) c6 c7 c8 E;clear c6 c7 c8 cW E;generalize (eO ts) f=r at *;obtain⟨d0,da,dc,d3,d4⟩:=cells5 ba.o;have gm:y≠P:=by omega
        have C4:=fun x:RE.Gr wc P=>x.b d4 gm
        have dg:P<wc.heap.size:=C.o.2.lt.1;clear d0 da dc d3 d4;go_wp2_with fail
        refine RE.t (by kernel_rfl) 5 [3,4] [3,4] (fun s W=>if s=0 then W=wc.drew else ax wc P L cap ts r.2.1 r.2.2 W) (fun W W'=>W.grownBy W' (A P))
         (fun i xs=>if i=3 then s3 #[I J r.1.b,p9 r.1.h,I Y r.1.q,I Y r.1.t,xs.getD 0 undef] else O (A ⟨RE.natOf xs,0,V⟩) 1 1)
         (fun i W xs=>if i=3 then fK wc.heap.size r.1 W xs else gG wc.heap.size r.1 W xs) (by kernel_rfl) (fun i h1 h2=>by rw[h1]at h2;cases h2) ?_ Z ?_
        ·intro k W W' xs h _ hg
         split at h
         ·rw[oA (by assumption)];exact h.N dg hg
         ·rw[ox (by assumption)];exact h.N dg hg
        simp only[Fg,Fu,Fh,Ft,FC,List.length_nil,Nat.reduceAdd];have dr:∀(n s:Nat) (W:World),s≤n→(if s=0 then W=wc.drew else ax wc P L cap ts r.2.1 r.2.2 W)→∃x:RE.Gr wc P,W=x.1:=fun n s W _ h=>by
         split at h
         ·exact⟨⟨W,by rw[h];exact grown_drewN (oT wc _) 1⟩,Z⟩
         ·exact⟨⟨W,h.1⟩,Z⟩
        have gD:=Hd dr;clear dr
        repeat (refine RE.h (fun W=>∃x:RE.Gr wc P,W=x.1) (gD.o _) Z Z Z Z ?_;go_big_quiet_step (fail);refine wpQuiet_nil ?_)
        refine RE.b Z Z ?_ (fun ds=>?_)
        ·intro W _ hS _;obtain rfl:W=wc.drew:=hS Z;refine RE.u 102 _ _ Z (enters_of Tryz.func102 (by kernel_rfl) Z) #[tv (A ⟨P,0,V⟩)] (by simp[Act.eval]) (bq.o.mono ?_);rintro e W' ⟨d,s,rfl,hT,ho,hf⟩;exact⟨_,Z,[s],Z,hT.u,hT.1,⟨d,s,Z,ho,hf⟩⟩
        simp only[Act.put,EV,Fe,Fc];refine RE.b Z Z ?_ (fun dv=>?_)
        ·intro W _ hS gE;have hT:ax wc P L cap ts r.2.1 r.2.2 W:=hS Z;obtain⟨d,s,rfl,ho,hf⟩:fK wc.heap.size r.1 W ds:=gE 3 ds (by kernel_rfl) Z;obtain⟨p,c,rfl⟩:=ho.b;refine RE.Upon.told (v:=O (A ⟨W.heap.size,0,V⟩) 1 1) (w':=W.alloc (p8 (az r.1 (O p r.1.u.length c)).toArray 64)) ?_ ⟨[I Y W.heap.size],Z,hT.y _,?_,?_⟩
         ·unfold RE.Upon
          go_simp
          rfl
         ·exact aL ((EU _ W).alloc (ET _) _) _
         ·refine⟨d,W.heap.size,W.heap.size,_,Z,ot W _,?_,hf,hT.1.size,ET _⟩;exact ho.C (fun b D=>D.2) ((EU _ W).alloc (ET _) _)
        simp only[Act.put,EV,Fe,Fc];refine RE.q ?_;intro W3 hS hE;have av:ax wc P L cap ts r.2.1 r.2.2 W3:=hS;obtain⟨d2,gg,N,s2,rfl,br,bt,gF,gH,gL⟩:=(show gG wc.heap.size r.1 W3 dv from hE 4 dv Z);have k1:wc.heap.size≤W3.heap.size:=av.1.size;have S:=dm t.o av.1 (by omega);refine wpList_append_lies W3 Z (.tmp 72) (.tmp 75) 62 Z (l+1) 64 i0 _ 5 64 Tryz.underlying62 hz hA hC hD Z (by decide) o ks.length rows.flatten Z S ⟨gg,0,V⟩ 1 1 (az r.1 s2) Z Z
         (fun j u hu=>by rw[Addr.add_mid,FR _ _ _ _ _ _ br,Nat.zero_add];simpa using hu) (by have:=bt.b;obtain⟨p,c,rfl⟩:=this;simp[Value.oneCell',az]) (by decide) (by unfold maxLen;omega) (by omega) (by omega) _ Z ?_
        intro g7 eg w7 bb T U _;obtain⟨d',b1,gM,u1,u2,u3,u4,u5,u6⟩:=rz (w:=w) K HL.o hN (show y<(l+1) by omega) (by omega) C.o ba.o t.o z.o av br bt gF gH gL bb T U;have x4:=ae u6 4;obtain⟨d0,da,dc,d3,d4⟩:=cells5 u6;obtain⟨Wn,en⟩:=zzx (w7.setCell ⟨y,4,V⟩ (O (A ⟨g7,0,V⟩) (ks.length+1) eg));rw[←en]at u1 u2 u3 u4 u5;have X:(ks++[r.1]).length≤r.2.1+(if r.2.2=r5 then 1 else 0):=by
         have h1:=u1.2.k;rw[Fl,FP];rcases c9.o with h|h
         ·rw[oA h];have:=fe.o;omega
         ·split<;>omega
        have b2:Hid (lC w P L cap ts (eO ts) dk Rz nm.1.h sa.1 a y l Wn):=
         ⟨g',_,r.2,d',b1,gM,_,gb.o,ga.o,X,u1,(u2 l (by omega) (by omega) (by omega)).trans a8.o,u3,u4,u5⟩
        have b3:Hid (f8 P Wn<f8 P wr):=by
         show _<_
         rw[u1.2.steps,fT.o,ox (show ¬f.2=r5 by rw[gf.o];decide)];have h1:=u1.2.k;have h3:=fe.o;rcases c9.o with h|h
         ·rw[oA h];omega
         ·split<;>omega
        have gN:=Hd en;clear u1 u2 u3 u4 u5 X U T bb hE hS av S br bt C4;go_wp2_with fail
        rw[←gN.o];exact⟨b2.o,b3.o⟩
       | false =>
        have gO:(ks,f)=Rz:=by
         rw[←ch.o];have h2:=HB.o
         cases g with
         | zero=>rfl
         | succ g =>
          unfold upTo
          by_cases b4:f.2=r5
          ·rw[oA b4]
          ·rw[ox b4,oA (by simpa [b4]using h2)]
        subst gO;have gS:=Hd (cU C.o.2 dk);dsimp only at HR;go_wp2_with fail
        refine Ff gS.o ?_;rintro e wz ⟨rfl,cl⟩;obtain⟨k2,bc,k3⟩:=zz3 (C.o.h cl) (cl.q a8.o K (by omega)) (cl.q ba.o K (by omega));have H:=dm t.o cl.1 ar;have q:=z.o.turn cl.1 ar;have hO:=rA (d:=dd+1) Z H q (fun h=>by omega);obtain⟨p,c,rfl⟩:=hO.b;have HO:=Hd hO;have l4:l<wz.heap.size:=(ES.1 bc.o).1;clear cl hO H q;obtain⟨n0,n1,n2,n3,n4⟩:=cells5 k3.o;obtain⟨a0,a1,a2,a3,a4⟩:=cells5 bc.o;have z0:=ae bc.o 0;have z1:=ae bc.o 1;have z2:=ae bc.o 2;have z3:=ae bc.o 3;have z4:=ae bc.o 4;go_wp2_with fail
        refine bp Tryz.results45 Z (aV bc.o _ _ _ _ _) Z ?_;rw[←HR.o];have b8:Fits (.mk 4 nm.1.h sa.1 a ks):=by
         have h1:=hM.o;have h2:=kc.o;refine⟨by show 4<256;omega,by show nm.1.h.size≤maxLen;unfold maxLen;omega,by show (-9223372036854775808:Int)≤sa.1;omega,by show sa.1<9223372036854775808;omega,by show (-9223372036854775808:Int)≤a;omega,by show a<9223372036854775808;omega⟩
        exact aY.q (r:=(.mk 4 nm.1.h sa.1 a ks,aP ts f dk)) (B:=l+1) K HL.o k2.o HO.o b8 (by omega) (by omega) _ _ _ _ _
      case first =>
       obtain⟨_,_,_,_,_,c1,_,_⟩:=M.o.2.h;have b5:FS wr (wr.alloc (p8 #[p9 dk] 9)):=(EU _ wr).alloc (ET _) _;obtain⟨et,ev⟩:=zz2 (nX (M.o.2.C b5) (gd M.o.2.k) wr.heap.size 0 1 1 [dk] (bN [dk]) Z (by omega)) b5;clear b5
       cases D:f.2 with
       | true =>
        rw[D]at c1;have b6:=Hd D;clear D;go_wp2_with fail
        go_meet
        case rel=>exact⟨by rw[b6.o];rfl,EU _ _⟩
       | false =>
        rw[D]at c1 et;have hi:isM ts f [dk]=(!false&&isT (cX ts f.1) [dk]):=by unfold isM;rw[D]
        generalize (!false&&isT (cX ts f.1) [dk])=bi at *;obtain⟨b6,HI⟩:=zz2 D hi;clear D hi;go_wp2_with fail
        refine Ff et.o ?_;rintro e wx ⟨rfl,m⟩;have hj:=Hd m;clear m;go_wp2_with fail
        go_meet
        case rel=>exact⟨by rw[b6.o,HI.o];cases bi<;>rfl,ev.o.trans (hj.o.mono ev.o.size)⟩
   case first =>
    obtain⟨_,_,_,_,_,c1,_,_⟩:=M.o.2.h;have b5:FS wr (wr.alloc (p8 #[p9 tTo] 9)):=(EU _ wr).alloc (ET _) _;obtain⟨et,ev⟩:=zz2 (nX (M.o.2.C b5) (gd M.o.2.k) wr.heap.size 0 1 1 [tTo] (bN [tTo]) Z (by omega)) b5;clear b5
    cases D:f.2 with
    | true =>
     rw[D]at c1;have b6:=Hd D;clear D;go_wp2_with fail
     go_meet
     case rel=>exact⟨by rw[b6.o];rfl,EU _ _⟩
    | false =>
     rw[D]at c1 et;have hi:isM ts f [tTo]=(!false&&isT (cX ts f.1) [tTo]):=by unfold isM;rw[D]
     generalize (!false&&isT (cX ts f.1) [tTo])=bi at *;obtain⟨b6,HI⟩:=zz2 D hi;clear D hi;go_wp2_with fail
     refine Ff et.o ?_;rintro e wx ⟨rfl,m⟩;have hj:=Hd m;clear m;go_wp2_with fail
     go_meet
     case rel=>exact⟨by rw[b6.o,HI.o];cases bi<;>rfl,ev.o.trans (hj.o.mono ev.o.size)⟩
 case first =>
  by_cases hm:isM ts aq [kF]=r5
  ·have hR:=hW.o;rw[oA hm]at hR;have ad:aN ts aq [kF]=al ts aq:=by unfold aN;rw[oA hm]
   rw[ad]at cT;have af:isM ts aq [kF]=true:=by simpa using hm
   rw[af];have e0:=Hd hR;clear hR ad hm af;obtain⟨F,fm⟩:=zzy (al ts aq);rw[fm]at cT e0;clear fm;obtain⟨bk,cu,cv⟩:=zz3 (cT.o.y (p8 #[p9 bg] 9)) ((FQ w6 (p8 #[p9 bg] 9) y (by omega)).trans hX.o) ((FQ w6 (p8 #[p9 bg] 9) l (by omega)).trans fr.o);have cx:=Hd (dA bk.o.2 w6.heap.size 0 1 1 [bg] (bN [bg]) Z (by omega));go_wp2_with fail
   refine Ff cx.o ?_;rintro e w7 ⟨rfl,ht⟩;obtain⟨cp,hk,h9⟩:=zz3 (bk.o.h ht) (ht.q cv.o K (by omega)) (ht.q cu.o K (by omega));have ma:l<w7.heap.size:=(ES.1 hk.o).1;clear ht bk cu cv cx
   by_cases hm:isM ts F [bg]=r5
   ·have hR:=e0.o;rw[oA hm]at hR;have ad:aN ts F [bg]=al ts F:=by unfold aN;rw[oA hm]
    rw[ad]at cp;have af:isM ts F [bg]=true:=by simpa using hm
    rw[af];have hl:=Hd hR;clear hR ad hm af;have hp:=Hd (lk ca.o (σ:=(al ts F)) cp.o.2);have k4:=jh ts (al ts F);generalize fU ts (al ts F)=nu at *;have ih:(nu.1:Int)≤2147483647:=by omega
    go_wp2_with fail
    refine Ff hp.o ?_;rintro e w8 ⟨rfl,ak⟩;obtain⟨hq,e1,b7⟩:=zz3 (cp.o.h ak) (ak.q hk.o K (by omega)) (ak.q h9.o K (by omega));have k5:l<w8.heap.size:=(ES.1 e1.o).1;have k6:w7.heap.size≤w8.heap.size:=ak.1.size;clear ak;obtain⟨w9,G⟩:=zzx ((w8.setCell ⟨y,2,V⟩ (I Y (-(nu.1:Int)))));have k7:w9.heap.size=w8.heap.size:=by rw[G];simp[World.setCell]
    have k8:y<w9.heap.size:=by omega
    have hr:Hid (ax w P L cap ts nu.2.1 nu.2.2 w9):=by rw[G];exact (hq.o.t K HL.o (by omega) 2 _)
    have hs:Hid (w9.heap[l]?=A (p8 bH 64 (0,0))):=by rw[G];exact ((EW _ _ _ _ (show l≠y by omega)).trans e1.o)
    have hv:Hid (w9.heap[y]?=A (p8 #[I J 4,p9 nm.1.h,I Y (-(nu.1:Int)),I Y a,O V 0 0] 64 (0,0))):=by rw[G];exact (heap_set b7.o 2 _)
    have f2:=ae b7.o 2;obtain⟨n0,n1,n2,n3,n4⟩:=cells5 b7.o;have H9:=Hd G;clear G;go_wp2_with fail
    go_meet
    case rel =>
    rw[←H9.o];clear n0 n1 n2 n3 n4 f2;rw[←hl.o];exact⟨hr.o,hv.o,hs.o⟩
   ·have hR:=e0.o;rw[ox hm]at hR;have ad:aN ts F [bg]=F:=by unfold aN;rw[ox hm]
    rw[ad]at cp;have af:isM ts F [bg]=false:=by simpa using hm
    rw[af];have hl:=Hd hR;clear hR ad hm af;have hp:=Hd (lk ca.o (σ:=F) cp.o.2);have k4:=jh ts F;generalize fU ts F=nu at *;have ih:(nu.1:Int)≤2147483647:=by omega
    go_wp2_with fail
    refine Ff hp.o ?_;rintro e w8 ⟨rfl,ak⟩;obtain⟨hq,e1,b7⟩:=zz3 (cp.o.h ak) (ak.q hk.o K (by omega)) (ak.q h9.o K (by omega));have k5:l<w8.heap.size:=(ES.1 e1.o).1;have k6:w7.heap.size≤w8.heap.size:=ak.1.size;clear ak;obtain⟨w9,G⟩:=zzx ((w8.setCell ⟨y,2,V⟩ (I Y nu.1)));have k7:w9.heap.size=w8.heap.size:=by rw[G];simp[World.setCell]
    have k8:y<w9.heap.size:=by omega
    have hr:Hid (ax w P L cap ts nu.2.1 nu.2.2 w9):=by rw[G];exact (hq.o.t K HL.o (by omega) 2 _)
    have hs:Hid (w9.heap[l]?=A (p8 bH 64 (0,0))):=by rw[G];exact ((EW _ _ _ _ (show l≠y by omega)).trans e1.o)
    have hv:Hid (w9.heap[y]?=A (p8 #[I J 4,p9 nm.1.h,I Y nu.1,I Y a,O V 0 0] 64 (0,0))):=by rw[G];exact (heap_set b7.o 2 _)
    have f2:=ae b7.o 2;obtain⟨n0,n1,n2,n3,n4⟩:=cells5 b7.o;have H9:=Hd G;clear G;go_wp2_with fail
    go_meet
    case rel =>
    rw[←H9.o];clear n0 n1 n2 n3 n4 f2;rw[←hl.o];exact⟨hr.o,hv.o,hs.o⟩
  ·have hR:=hW.o;rw[ox hm]at hR;have ad:aN ts aq [kF]=aq:=by unfold aN;rw[ox hm]
   rw[ad]at cT;have af:isM ts aq [kF]=false:=by simpa using hm
   rw[af];have e0:=Hd hR;clear hR ad hm af;go_wp2_with fail
   go_meet
   case rel =>
   rw[←e0.o];exact⟨cT.o,hX.o,fr.o⟩
