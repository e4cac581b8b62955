/- The parser: rules, behind their word; by contract. Condition: at most 16385 tokens, each of at most 16384 bytes. -/
import Derived.Test.YtoonjedifockoaaGreatDoorMX
namespace Go.Proofs.YtoonjedifockoaaGreatDoor
open Go.IntKind(i64)
open Go.Value(int string slice)
set_option maxHeartbeats 4000000
set_option maxRecDepth 100000
open Go.RowKit
def Ec(w:World) (P L cap:Nat) (ts:List Tok) (tx:ByteArray) (a:Int) (r:Int×PS) (b c:Nat) (W:World):Prop:=
 au w P L cap ts r.2.1 r.2.2 W∧W.heap[b]?=some (.cells #[int .u8 4,.string tx,int i64 r.1,int i64 a,slice none 0 0] 76 (0,0))∧W.heap[c]?=some (.cells bM 76 (0,0))
def lc(w:World) (P L cap:Nat) (ts:List Tok) (one:PS→ac×PS) (stop:ByteArray) (R:List ac×PS) (tx:ByteArray) (num a:Int) (e c:Nat) (W:World):Prop:=
 ∃(g:Nat) (b:List ac) (σ:PS) (d:Nat) (rows:List (List Value)) (f:Nat→Nat→Prop) (o:Value),upTo ts one stop g b σ=R∧(σ.2=true∨ts.length-σ.1+1≤g)∧b.length≤σ.1+(if σ.2=true then 1 else 0)∧
  au w P L cap ts σ.1 σ.2 W∧W.heap[c]?=some (.cells bM 76 (0,0))∧W.heap[e]?=some (.cells #[int .u8 4,.string tx,int i64 num,int i64 a,o] 76 (0,0))∧
  W.ownsRow (c+1) 76 5 o b.length rows.flatten∧cn W (c+1) d b b.length o.ownBlock rows f
def fC(P:Nat) (W:World):Nat:=leftOf P W*2+(match W.cell? ⟨P,1,none⟩ with|some (.bool true)=>0|_=>1)
theorem PAt.steps{w:World}{P L cap:Nat}{ts:List Tok}{k:Nat}{bad:Bool}(h:PAt w P L cap ts k bad):fC P w=(ts.length-k)*2+(if bad=true then 0 else 1):=by
 obtain⟨_,_,_,_,_,a,_⟩:=h.cells;unfold fC;rw[h.left,a]
 cases bad<;>rfl
theorem yo(ts:List Tok)(σ:PS):-2147483647≤(gk ts σ).1∧(gk ts σ).1≤2147483647:=by
 unfold gk;have a:=iF ts (ah ts σ);have b:=iF ts (ah ts (ah ts σ))
 (repeat' split)<;>dsimp only<;>omega
theorem A5{ts:List Tok}(a6:co ts):zJ ts (dx ts):=by
 intro a σ w P L cap k3 k4 h;have H:=h.lt.1;have hL:=h.lt.2;have b3:=Hd a6;have e1:=Hd (Bi a6 (B9 a6) (iw ts));have hk:=Hd (Bj a6);obtain⟨i0,hl,hp,hq,hr⟩:=info_parts pp;obtain⟨wA,b9⟩:=zzx ((w.alloc (.cells #[int .u8 0,string ⟨#[]⟩,int i64 0,int i64 a,slice none 0 0] 76)).alloc (.cells bM 76));obtain⟨y,hs⟩:=zzy (w.heap.size);obtain⟨l,hv⟩:=zzy (w.heap.size+1);have hy:Ft w wA:=by rw[b9];exact bz w _ _
 have hz:=Hd (h.turns hy);obtain⟨X1,X2,_⟩:=am w (.cells #[int .u8 0,string ⟨#[]⟩,int i64 0,int i64 a,slice none 0 0] 76) (.cells bM 76);rw[←b9,hs]at X1;rw[←b9,hv]at X2;have h5:=Hd X1;have hA:=Hd X2;have h6:=Hd (iq a6 hz.o.2 4 (by omega));have b1:(ofM ts σ 2 4).1.text.size≤16384:=(cE a6 _).2.1;obtain⟨R,V⟩:=zzy (dx ts a σ);rw[V];unfold dx at V;dsimp only at V;generalize ofM ts σ 2 4=nm at *;have HR:=Hd V;have hC:=Hd b1;clear X1 X2 V a6 h hy b1
 go_enter Tryz.func76,Tryz.ntmps76
 go_upto_region 1 with fail
 change Code.wp _ _ _ _ ((w.alloc (.cells #[int .u8 0,string ⟨#[]⟩,int i64 0,int i64 a,slice none 0 0] 76)).alloc (.cells bM 76));rw[←b9];have el:y+1=l:=by omega
 rw[el];have hD:w.heap.size≤y:=by omega
 have k5:y<l:=by omega
 have k6:l<wA.heap.size:=(Ez.1 hA.o).1;have HL:Hid (L<w.heap.size):=hL;clear b9 hs hv el;go_wp2_with fail
 refine EJ h6.o ?_;rintro e w4 ⟨d,s,rfl,ca,ho,hf⟩;have h7:=Hd (hz.o.trans ca);have hG:=Hd (ca.box hA.o H (by omega));have ec:=Hd (ca.box h5.o H (by omega));have k7:l<w4.heap.size:=(Ez.1 hG.o).1;have k8:wA.heap.size≤w4.heap.size:=ca.1.size;obtain⟨p,c,rfl⟩:=ho.shape;have h8:=gw nm.1.kind nm.1.text nm.1.num nm.1.place nm.1.kids.length p c w4;clear ca ho hf;obtain⟨w5,b4⟩:=zzx (((w4.setCell ⟨y,0,none⟩ (int .u8 4)).setCell ⟨y,1,none⟩ (.string nm.1.text)));have h9:w5.heap.size=w4.heap.size:=by rw[b4];simp[World.setCell]
 have k9:y<w5.heap.size:=by omega
 have hI:Hid (au w P L cap ts nm.2.1 nm.2.2 w5):=by rw[b4];exact ((h7.o.setCell H HL.o (by omega) 0 _).setCell H HL.o (by omega) 1 _)
 have ih:Hid (w5.heap[l]?=some (.cells bM 76 (0,0))):=by rw[b4];exact ((ED _ _ _ _ (show l≠y by omega)).trans ((ED _ _ _ _ (show l≠y by omega)).trans hG.o))
 have ix:Hid (w5.heap[y]?=some (.cells #[int .u8 4,.string nm.1.text,int i64 0,int i64 a,slice none 0 0] 76 (0,0))):=by rw[b4];exact (heap_set (heap_set ec.o 0 _) 1 _)
 have f0:=ab ec.o 0;have f1:=ab ec.o 1;obtain⟨n0,n1,n2,n3,n4⟩:=cells5 ec.o;have H5:=Hd b4;clear b4;go_upto_region 2 with fail
 change Code.wp _ _ _ _ ((w4.setCell ⟨y,0,none⟩ (int .u8 4)).setCell ⟨y,1,none⟩ (.string nm.1.text));rw[←H5.o];clear n0 n1 n2 n3 n4 f0 f1;clear h8;have la:w4.heap.size≤w5.heap.size:=by omega
 clear h9;obtain⟨X,hJ⟩:=zzy (nm.2);rw[hJ]at hI HR;obtain⟨sa,cc⟩:=zzy (gk ts X);rw[cc]at HR;have iA:Hid (-2147483647≤sa.1∧sa.1≤2147483647):=by rw[←cc];exact yo ts X
 unfold gk at cc;have hK:=Hd cc;clear cc;have a7:=Hd (hI.o.alloc (.cells #[.string ke] 9));have ch:=Hd ((Fp w5 (.cells #[.string ke] 9) y (by omega)).trans ix.o);have ck:=Hd ((Fp w5 (.cells #[.string ke] 9) l (by omega)).trans ih.o);have cl:=Hd (dj a7.o.2 w5.heap.size 0 1 1 [ke] (bP [ke]) rfl (by omega));go_wp2_with fail
 refine EJ cl.o ?_;rintro e w6 ⟨rfl,ht⟩;have cq:=Hd (a7.o.trans ht);have e2:=Hd (ht.box ck.o H (by omega));have hM:=Hd (ht.box ch.o H (by omega));have lb:l<w6.heap.size:=(Ez.1 e2.o).1;clear ht a7 ch ck cl
 go_upto_if 15 with fail
 go_cut [] from 5 to 27 (fun wx=>Ec w P L cap ts nm.1.text a sa y l wx)
 case rest =>
  obtain⟨e3,hN,e4⟩:=hcut;have iB:=Hd e3;have iX:=Hd hN;have i1:=Hd e4;have ld:l<wc.heap.size:=(Ez.1 e4).1;have HW:=Hd (cF e3.2 jN);clear e3 hN e4;go_wp2_with fail
  refine EJ HW.o ?_;rintro e wd ⟨rfl,eg⟩;have hQ:=Hd (iB.o.trans eg);have hV:=Hd (eg.box i1.o H (by omega));have jj:=Hd (eg.box iX.o H (by omega));have lf:l<wd.heap.size:=(Ez.1 hV.o).1;obtain⟨hW,en⟩:=zzy (aO ts sa.2 jN);rw[en]at hQ HR;obtain⟨Rc,e5⟩:=zzy (upTo ts (dk ts (dS ts)) tTo (ts.length+1) [] hW);rw[e5]at HR;have hX:Hid (lc w P L cap ts (dk ts (dS ts)) tTo Rc nm.1.text sa.1 a y l wd):=
   ⟨ts.length+1,[],hW,0,[],fun _ _=>False,slice none 0 0,e5,Or.inr (by omega),EM _,hQ.o,hV.o,jj.o,World.ownsRow_nil _ _ _ _,kz _ _ _ _⟩
  clear eg en e5;go_wp2_with fail
  go_loopw [32] (fun _ wr=>lc w P L cap ts (dk ts (dS ts)) tTo Rc nm.1.text sa.1 a y l wr) (fun _ wr=>fC P wr)
  case atStart=>exact hX.o
  case round =>
   obtain⟨g,ks,f,dd,rows,Fs,o,cr,hg,hlen,Z,hx,hn,G,q⟩:=hrel;have I:=Hd Z;have b5:=Hd cr;have HG:=Hd hg;have af:=Hd hlen;have a8:=Hd hx;have ba:=Hd hn;have ak:=Hd G;have J:=Hd q;have e6:=Hd Z.2.steps;have eo:Hid (f.1≤(dk ts (dS ts) f).2.1):=oI (iw ts) f;clear cr hg hlen Z hx hn G q;go_upto_region 8 with fail
   go_cut [45] from 32 to 45 (fun v wx=>v=.bool (!f.2&&!isM ts f [tTo])∧Ft wr wx)
   case rest =>
    obtain⟨rfl,m⟩:=hcut;have A:=Hd (I.o.of_below m);have an:=Hd (aa m a8.o (Ez.1 a8.o).1);have aq:=Hd (aa m ba.o (Ez.1 ba.o).1);have Y:P<l+1:=by omega
    have t:=Hd (cS ak.o (aH m (some P)) Y);have z:=Hd (J.o.turn (aH m (some P)) Y);have hY:l<wc.heap.size:=(Ez.1 an.o).1;clear m I a8 ba ak J;obtain⟨b,C⟩:=zzy ((!f.2&&!isM ts f [tTo]));rw[C];have HB:=Hd C;clear C
    cases b with
    | true =>
     have D:f.2=false:=by have:=HB.o;cases h:f.2<;>simp[h]at this ⊢
     have ct:isM ts f [tTo]=false:=by have:=HB.o;rw[D]at this;simpa using this
     have cv:=A.o.2.k;have j2:=A.o.2.n;have cx:=af.o;rw[D]at cx;simp only[EW,oi,Nat.add_zero]at cx;obtain⟨g',cA,cC⟩:∃g',(((dk ts (dS ts)) f).2.2=true∨ts.length-((dk ts (dS ts)) f).2.1+1≤g')∧upTo ts (dk ts (dS ts)) tTo g' (ks++[((dk ts (dS ts)) f).1]) ((dk ts (dS ts)) f).2=Rc:=by
      have h1:=b5.o;have h2:=HG.o;rw[D]at h2;have kc:ts.length-f.1+1≤g:=by rcases h2 with h|h;cases h;exact h
      cases g with
      | zero=>omega
      | succ g =>
       unfold upTo at h1;rw[n8 (by rw[D];decide),n8 (by rw[ct];decide)]at h1;refine⟨g,?_,h1⟩;rcases (pj b3.o (iw ts) (fun _ h=>oD h) cv) with h|h
       ·exact Or.inl h
       ·exact Or.inr (by omega)
     have cR:=(pj b3.o (iw ts) (fun _ h=>oD h) cv);have bb:=Hd (e1.o f wc.drew P L cap A.o.2.drew);have e7:=Hd cA;have e8:=Hd cC;have cT:=Hd cR;have e9:=Hd D;clear cA cC cR ct D;generalize (dk ts (dS ts)) f=r at *;obtain⟨d0,cV,cW,d3,d4⟩:=cells5 aq.o;have fm:y≠P:=by omega
     have C4:=fun x:RE.Gr wc P=>x.cell d4 fm
     have c0:P<wc.heap.size:=A.o.2.lt.1;clear d0 cV cW d3 d4;go_wp2_with fail
     refine RE.wp_region_eff (by kernel_rfl) 5 [3,4] [3,4] (fun s W=>if s=0 then W=wc.drew else au wc P L cap ts r.2.1 r.2.2 W) (fun W W'=>W.grownBy W' (some P))
      (fun i xs=>if i=3 then .agg #[int .u8 r.1.kind,.string r.1.text,int i64 r.1.num,int i64 r.1.place,xs.getD 0 undef] else slice (some ⟨RE.natOf xs,0,none⟩) 1 1)
      (fun i W xs=>if i=3 then fh wc.heap.size r.1 W xs else gb wc.heap.size r.1 W xs) (by kernel_rfl) (fun i h1 h2=>by rw[h1]at h2;cases h2) ?_ rfl ?_
     ·intro k W W' xs h _ hg
      split at h
      ·rw[n9 (by assumption)];exact h.grown c0 hg
      ·rw[n8 (by assumption)];exact h.grown c0 hg
     simp only[EK,ET,EL,ES,Fb,List.length_nil,Nat.reduceAdd];have c3:∀(n s:Nat) (W:World),s≤n→(if s=0 then W=wc.drew else au wc P L cap ts r.2.1 r.2.2 W)→∃x:RE.Gr wc P,W=x.1:=fun n s W _ h=>by
      split at h
      ·exact⟨⟨W,by rw[h];exact grown_drewN (World.grownBy.refl wc _) 1⟩,rfl⟩
      ·exact⟨⟨W,h.1⟩,rfl⟩
     have fr:=Hd c3;clear c3
     repeat (refine RE.wpE_read (fun W=>∃x:RE.Gr wc P,W=x.1) (fr.o _) rfl rfl rfl rfl ?_;go_big_quiet_step (fail);refine wpQuiet_nil ?_)
     refine RE.wpE_turn rfl rfl ?_ (fun c5=>?_)
     ·intro W _ hS _;obtain rfl:W=wc.drew:=hS rfl;refine RE.upon_call 105 _ _ rfl (enters_of Tryz.func105 (by kernel_rfl) rfl) #[.pointer (some ⟨P,0,none⟩)] (by simp[Act.eval]) (bb.o.mono ?_);rintro e W' ⟨d,s,rfl,Z,ho,hf⟩;exact⟨_,rfl,[s],rfl,Z.of_drew,Z.1,⟨d,s,rfl,ho,hf⟩⟩
     simp only[Act.put,EC,EI,EH];refine RE.wpE_turn rfl rfl ?_ (fun c6=>?_)
     ·intro W _ hS fs;have Z:au wc P L cap ts r.2.1 r.2.2 W:=hS rfl;obtain⟨d,s,rfl,ho,hf⟩:fh wc.heap.size r.1 W c5:=fs 3 c5 (by kernel_rfl) rfl;obtain⟨p,c,rfl⟩:=ho.shape;refine RE.Upon.told (v:=slice (some ⟨W.heap.size,0,none⟩) 1 1) (w':=W.alloc (.cells (aw r.1 (.slice p r.1.kids.length c)).toArray 76)) ?_ ⟨[int i64 W.heap.size],rfl,Z.alloc _,?_,?_⟩
      ·unfold RE.Upon
       go_simp
       rfl
      ·exact aH ((EB _ W).alloc (EA _) _) _
      ·refine⟨d,W.heap.size,W.heap.size,_,rfl,n7 W _,?_,hf,Z.1.size,EA _⟩;exact ho.below (fun b C=>C.2) ((EB _ W).alloc (EA _) _)
     simp only[Act.put,EC,EI,EH];refine RE.wpE_nil ?_;intro W3 hS hE;have ad:au wc P L cap ts r.2.1 r.2.2 W3:=hS;obtain⟨d2,gg,N,s2,rfl,bc,bd,fv,fz,fI⟩:=(show gb wc.heap.size r.1 W3 c6 from hE 4 c6 rfl);have kk:wc.heap.size≤W3.heap.size:=ad.1.size;have K:=cS t.o ad.1 (by omega);refine wpList_append_lies W3 rfl (.tmp 47) (.tmp 50) 74 rfl (l+1) 76 i0 _ 5 64 Tryz.underlying74 hl hp hq hr rfl (by decide) o ks.length rows.flatten rfl K ⟨gg,0,none⟩ 1 1 (aw r.1 s2) rfl rfl
      (fun j u hu=>by rw[Addr.add_mid,Fq _ _ _ _ _ _ bc,Nat.zero_add];simpa using hu) (by have:=bd.shape;obtain⟨p,c,rfl⟩:=this;simp[Value.oneCell',aw]) (by decide) (by unfold maxLen;omega) (by omega) (by omega) _ rfl ?_
     intro g7 c7 w7 ar M O _;obtain⟨d',bk,fT,u1,u2,u3,u4,u5,u6⟩:=qS (w:=w) H HL.o hD (show y<(l+1) by omega) (by omega) A.o aq.o t.o z.o ad bc bd fv fz fI ar M O;have x4:=ab u6 4;obtain⟨d0,cV,cW,d3,d4⟩:=cells5 u6;obtain⟨Wn,c8⟩:=zzx (w7.setCell ⟨y,4,none⟩ (slice (some ⟨g7,0,none⟩) (ks.length+1) c7));rw[←c8]at u1 u2 u3 u4 u5;have Q:(ks++[r.1]).length≤r.2.1+(if r.2.2=true then 1 else 0):=by
      have h1:=u1.2.k;rw[EO,Fo];rcases cT.o with h|h
      ·rw[n9 h];have:=eo.o;omega
      ·split<;>omega
     have bl:Hid (lc w P L cap ts (dk ts (dS ts)) tTo Rc nm.1.text sa.1 a y l Wn):=
      ⟨g',_,r.2,d',bk,fT,_,e8.o,e7.o,Q,u1,(u2 l (by omega) (by omega) (by omega)).trans an.o,u3,u4,u5⟩
     have bn:Hid (fC P Wn<fC P wr):=by
      show _<_
      rw[u1.2.steps,e6.o,n8 (show ¬f.2=true by rw[e9.o];decide)];have h1:=u1.2.k;have h3:=eo.o;rcases cT.o with h|h
      ·rw[n9 h];omega
      ·split<;>omega
     have gf:=Hd c8;clear u1 u2 u3 u4 u5 Q O M ar hE hS ad K bc bd C4;go_wp2_with fail
     rw[←gf.o];exact⟨bl.o,bn.o⟩
    | false =>
     have gD:(ks,f)=Rc:=by
      rw[←b5.o];have h2:=HB.o
      cases g with
      | zero=>rfl
      | succ g =>
       unfold upTo
       by_cases bq:f.2=true
       ·rw[n9 bq]
       ·rw[n8 bq,n9 (by simpa [bq]using h2)]
     subst gD;have gE:=Hd (cF A.o.2 tTo);dsimp only at HR;go_wp2_with fail
     refine EJ gE.o ?_;rintro e we ⟨rfl,b6⟩;have gF:=Hd (A.o.trans b6);have gH:=Hd (b6.box an.o H (by omega));have hZ:=Hd (b6.box aq.o H (by omega));have c9:=Hd (cS t.o b6.1 Y);have b2:=Hd (z.o.turn b6.1 Y);have hle:l<we.heap.size:=(Ez.1 gH.o).1;have er:=bH ts f tTo;have gL:f.2=true→(aO ts f tTo).2=true:=fun h=>dP h tTo
     clear b6;obtain⟨ek,et⟩:=zzy (aO ts f tTo);rw[et]at gF HR er gL;obtain⟨Rz,gM⟩:=zzy (upTo ts (ew ts) cP (ts.length+1) ks ek);rw[gM]at HR;have da:ks.length≤ek.1+(if ek.2=true then 1 else 0):=by
      have h1:=af.o
      by_cases h:f.2=true
      ·rw[n9 h]at h1;rw[n9 (gL h)];omega
      ·rw[n8 h]at h1;omega
     have gN:Hid (lc w P L cap ts (ew ts) cP Rz nm.1.text sa.1 a y l we):=
      ⟨ts.length+1,ks,ek,dd,rows,Fs,o,gM,Or.inr (by omega),da,gF.o,gH.o,hZ.o,c9.o,b2.o⟩
     clear et gM da er gL b5 HG af HB c9 b2 t z aq an A hZ gH gF;clear hY Y;go_wp2_with fail
     go_loopw [57] (fun _ wr=>lc w P L cap ts (ew ts) cP Rz nm.1.text sa.1 a y l wr) (fun _ wr=>fC P wr)
     case atStart=>exact gN.o
     case round =>
      obtain⟨g,ks,f,dd,rows,Fs,o,cr,hg,hlen,Z,hx,hn,G,q⟩:=hrel;have I:=Hd Z;have b5:=Hd cr;have HG:=Hd hg;have af:=Hd hlen;have a8:=Hd hx;have ba:=Hd hn;have ak:=Hd G;have J:=Hd q;have e6:=Hd Z.2.steps;have ev:Hid (f.1≤(ew ts f).2.1):=qB ts f;clear cr hg hlen Z hx hn G q;go_upto_region 11 with fail
      go_cut [70] from 57 to 70 (fun v wx=>v=.bool (!f.2&&!isM ts f [cP])∧Ft wr wx)
      case rest =>
       obtain⟨rfl,m⟩:=hcut;have A:=Hd (I.o.of_below m);have an:=Hd (aa m a8.o (Ez.1 a8.o).1);have aq:=Hd (aa m ba.o (Ez.1 ba.o).1);have Y:P<l+1:=by omega
       have t:=Hd (cS ak.o (aH m (some P)) Y);have z:=Hd (J.o.turn (aH m (some P)) Y);have hY:l<wc.heap.size:=(Ez.1 an.o).1;clear m I a8 ba ak J;obtain⟨b,C⟩:=zzy ((!f.2&&!isM ts f [cP]));rw[C];have HB:=Hd C;clear C
       cases b with
       | true =>
        have D:f.2=false:=by have:=HB.o;cases h:f.2<;>simp[h]at this ⊢
        have ct:isM ts f [cP]=false:=by have:=HB.o;rw[D]at this;simpa using this
        have cv:=A.o.2.k;have j2:=A.o.2.n;have cx:=af.o;rw[D]at cx;simp only[EW,oi,Nat.add_zero]at cx;obtain⟨g',cA,cC⟩:∃g',(((ew ts) f).2.2=true∨ts.length-((ew ts) f).2.1+1≤g')∧upTo ts (ew ts) cP g' (ks++[((ew ts) f).1]) ((ew ts) f).2=Rz:=by
         have h1:=b5.o;have h2:=HG.o;rw[D]at h2;have kc:ts.length-f.1+1≤g:=by rcases h2 with h|h;cases h;exact h
         cases g with
         | zero=>omega
         | succ g =>
          unfold upTo at h1;rw[n8 (by rw[D];decide),n8 (by rw[ct];decide)]at h1;refine⟨g,?_,h1⟩;rcases (qA b3.o cv) with h|h
          ·exact Or.inl h
          ·exact Or.inr (by omega)
        have cR:=(qA b3.o cv);have bb:=Hd (hk.o f wc.drew P L cap A.o.2.drew);have e7:=Hd cA;have e8:=Hd cC;have cT:=Hd cR;have e9:=Hd D;clear cA cC cR ct D;generalize (ew ts) f=r at *;obtain⟨d0,cV,cW,d3,d4⟩:=cells5 aq.o;have fm:y≠P:=by omega
        have C4:=fun x:RE.Gr wc P=>x.cell d4 fm
        have c0:P<wc.heap.size:=A.o.2.lt.1;clear d0 cV cW d3 d4;go_wp2_with fail
        refine RE.wp_region_eff (by kernel_rfl) 5 [3,4] [3,4] (fun s W=>if s=0 then W=wc.drew else au wc P L cap ts r.2.1 r.2.2 W) (fun W W'=>W.grownBy W' (some P))
         (fun i xs=>if i=3 then .agg #[int .u8 r.1.kind,.string r.1.text,int i64 r.1.num,int i64 r.1.place,xs.getD 0 undef] else slice (some ⟨RE.natOf xs,0,none⟩) 1 1)
         (fun i W xs=>if i=3 then fh wc.heap.size r.1 W xs else gb wc.heap.size r.1 W xs) (by kernel_rfl) (fun i h1 h2=>by rw[h1]at h2;cases h2) ?_ rfl ?_
        ·intro k W W' xs h _ hg
         split at h
         ·rw[n9 (by assumption)];exact h.grown c0 hg
         ·rw[n8 (by assumption)];exact h.grown c0 hg
        simp only[EK,ET,EL,ES,Fb,List.length_nil,Nat.reduceAdd];have c3:∀(n s:Nat) (W:World),s≤n→(if s=0 then W=wc.drew else au wc P L cap ts r.2.1 r.2.2 W)→∃x:RE.Gr wc P,W=x.1:=fun n s W _ h=>by
         split at h
         ·exact⟨⟨W,by rw[h];exact grown_drewN (World.grownBy.refl wc _) 1⟩,rfl⟩
         ·exact⟨⟨W,h.1⟩,rfl⟩
        have fr:=Hd c3;clear c3
        repeat (refine RE.wpE_read (fun W=>∃x:RE.Gr wc P,W=x.1) (fr.o _) rfl rfl rfl rfl ?_;go_big_quiet_step (fail);refine wpQuiet_nil ?_)
        refine RE.wpE_turn rfl rfl ?_ (fun c5=>?_)
        ·intro W _ hS _;obtain rfl:W=wc.drew:=hS rfl;refine RE.upon_call 106 _ _ rfl (enters_of Tryz.func106 (by kernel_rfl) rfl) #[.pointer (some ⟨P,0,none⟩)] (by simp[Act.eval]) (bb.o.mono ?_);rintro e W' ⟨d,s,rfl,Z,ho,hf⟩;exact⟨_,rfl,[s],rfl,Z.of_drew,Z.1,⟨d,s,rfl,ho,hf⟩⟩
        simp only[Act.put,EC,EI,EH];refine RE.wpE_turn rfl rfl ?_ (fun c6=>?_)
        ·intro W _ hS fs;have Z:au wc P L cap ts r.2.1 r.2.2 W:=hS rfl;obtain⟨d,s,rfl,ho,hf⟩:fh wc.heap.size r.1 W c5:=fs 3 c5 (by kernel_rfl) rfl;obtain⟨p,c,rfl⟩:=ho.shape;refine RE.Upon.told (v:=slice (some ⟨W.heap.size,0,none⟩) 1 1) (w':=W.alloc (.cells (aw r.1 (.slice p r.1.kids.length c)).toArray 76)) ?_ ⟨[int i64 W.heap.size],rfl,Z.alloc _,?_,?_⟩
         ·unfold RE.Upon
          go_simp
          rfl
         ·exact aH ((EB _ W).alloc (EA _) _) _
         ·refine⟨d,W.heap.size,W.heap.size,_,rfl,n7 W _,?_,hf,Z.1.size,EA _⟩;exact ho.below (fun b C=>C.2) ((EB _ W).alloc (EA _) _)
        simp only[Act.put,EC,EI,EH];refine RE.wpE_nil ?_;intro W3 hS hE;have ad:au wc P L cap ts r.2.1 r.2.2 W3:=hS;obtain⟨d2,gg,N,s2,rfl,bc,bd,fv,fz,fI⟩:=(show gb wc.heap.size r.1 W3 c6 from hE 4 c6 rfl);have kk:wc.heap.size≤W3.heap.size:=ad.1.size;have K:=cS t.o ad.1 (by omega);refine wpList_append_lies W3 rfl (.tmp 72) (.tmp 75) 74 rfl (l+1) 76 i0 _ 5 64 Tryz.underlying74 hl hp hq hr rfl (by decide) o ks.length rows.flatten rfl K ⟨gg,0,none⟩ 1 1 (aw r.1 s2) rfl rfl
         (fun j u hu=>by rw[Addr.add_mid,Fq _ _ _ _ _ _ bc,Nat.zero_add];simpa using hu) (by have:=bd.shape;obtain⟨p,c,rfl⟩:=this;simp[Value.oneCell',aw]) (by decide) (by unfold maxLen;omega) (by omega) (by omega) _ rfl ?_
        intro g7 c7 w7 ar M O _;obtain⟨d',bk,fT,u1,u2,u3,u4,u5,u6⟩:=qS (w:=w) H HL.o hD (show y<(l+1) by omega) (by omega) A.o aq.o t.o z.o ad bc bd fv fz fI ar M O;have x4:=ab u6 4;obtain⟨d0,cV,cW,d3,d4⟩:=cells5 u6;obtain⟨Wn,c8⟩:=zzx (w7.setCell ⟨y,4,none⟩ (slice (some ⟨g7,0,none⟩) (ks.length+1) c7));rw[←c8]at u1 u2 u3 u4 u5;have Q:(ks++[r.1]).length≤r.2.1+(if r.2.2=true then 1 else 0):=by
         have h1:=u1.2.k;rw[EO,Fo];rcases cT.o with h|h
         ·rw[n9 h];have:=ev.o;omega
         ·split<;>omega
        have bl:Hid (lc w P L cap ts (ew ts) cP Rz nm.1.text sa.1 a y l Wn):=
         ⟨g',_,r.2,d',bk,fT,_,e8.o,e7.o,Q,u1,(u2 l (by omega) (by omega) (by omega)).trans an.o,u3,u4,u5⟩
        have bn:Hid (fC P Wn<fC P wr):=by
         show _<_
         rw[u1.2.steps,e6.o,n8 (show ¬f.2=true by rw[e9.o];decide)];have h1:=u1.2.k;have h3:=ev.o;rcases cT.o with h|h
         ·rw[n9 h];omega
         ·split<;>omega
        have gf:=Hd c8;clear u1 u2 u3 u4 u5 Q O M ar hE hS ad K bc bd C4;go_wp2_with fail
        rw[←gf.o];exact⟨bl.o,bn.o⟩
       | false =>
        have gD:(ks,f)=Rz:=by
         rw[←b5.o];have h2:=HB.o
         cases g with
         | zero=>rfl
         | succ g =>
          unfold upTo
          by_cases bq:f.2=true
          ·rw[n9 bq]
          ·rw[n8 bq,n9 (by simpa [bq]using h2)]
        subst gD;have gE:=Hd (cF A.o.2 cP);dsimp only at HR;go_wp2_with fail
        refine EJ gE.o ?_;rintro e wz ⟨rfl,b7⟩;have kn:=Hd (A.o.trans b7);have av:=Hd (b7.box an.o H (by omega));have kr:=Hd (b7.box aq.o H (by omega));have G:=cS t.o b7.1 Y;have q:=z.o.turn b7.1 Y;have hO:=qT (d:=dd+1) rfl G q (fun h=>by omega);obtain⟨p,c,rfl⟩:=hO.shape;have HO:=Hd hO;have lg:l<wz.heap.size:=(Ez.1 av.o).1;clear b7 hO G q;obtain⟨n0,n1,n2,n3,n4⟩:=cells5 kr.o;obtain⟨a0,a1,a2,a3,a4⟩:=cells5 av.o;have z0:=ab av.o 0;have z1:=ab av.o 1;have z2:=ab av.o 2;have z3:=ab av.o 3;have z4:=ab av.o 4;go_wp2_with fail
        refine bs Tryz.results76 rfl (aU av.o _ _ _ _ _) rfl ?_;rw[←HR.o];have b1:Fits (.mk 4 nm.1.text sa.1 a ks):=by
         have h1:=hC.o;have h2:=iA.o;refine⟨by show 4<256;omega,by show nm.1.text.size≤maxLen;unfold maxLen;omega,by show (-9223372036854775808:Int)≤sa.1;omega,by show sa.1<9223372036854775808;omega,by show (-9223372036854775808:Int)≤a;omega,by show a<9223372036854775808;omega⟩
        exact aV.stored (r:=(.mk 4 nm.1.text sa.1 a ks,aO ts f cP)) (B:=l+1) H HL.o kn.o HO.o b1 (by omega) (by omega) _ _ _ _ _
      case first =>
       obtain⟨_,_,_,_,_,c1,_,_⟩:=I.o.2.cells;have br:Ft wr (wr.alloc (.cells #[.string cP] 9)):=(EB _ wr).alloc (EA _) _;have dc:=Hd (nB (I.o.2.below br) (fD I.o.2.k) wr.heap.size 0 1 1 [cP] (bP [cP]) rfl (by omega));have dg:=Hd br;clear br
       cases C:f.2 with
       | true =>
        rw[C]at c1;have bt:=Hd C;clear C;go_wp2_with fail
        go_meet
        case rel=>exact⟨by rw[bt.o];rfl,EB _ _⟩
       | false =>
        rw[C]at c1 dc;have hi:isM ts f [cP]=(!false&&isT (cH ts f.1) [cP]):=by unfold isM;rw[C]
        generalize (!false&&isT (cH ts f.1) [cP])=bi at *;have bt:=Hd C;have HI:=Hd hi;clear C hi;go_wp2_with fail
        refine EJ dc.o ?_;rintro e wx ⟨rfl,m⟩;have gO:=Hd m;clear m;go_wp2_with fail
        go_meet
        case rel=>exact⟨by rw[bt.o,HI.o];cases bi<;>rfl,dg.o.trans (gO.o.mono dg.o.size)⟩
   case first =>
    obtain⟨_,_,_,_,_,c1,_,_⟩:=I.o.2.cells;have br:Ft wr (wr.alloc (.cells #[.string tTo] 9)):=(EB _ wr).alloc (EA _) _;have dc:=Hd (nB (I.o.2.below br) (fD I.o.2.k) wr.heap.size 0 1 1 [tTo] (bP [tTo]) rfl (by omega));have dg:=Hd br;clear br
    cases C:f.2 with
    | true =>
     rw[C]at c1;have bt:=Hd C;clear C;go_wp2_with fail
     go_meet
     case rel=>exact⟨by rw[bt.o];rfl,EB _ _⟩
    | false =>
     rw[C]at c1 dc;have hi:isM ts f [tTo]=(!false&&isT (cH ts f.1) [tTo]):=by unfold isM;rw[C]
     generalize (!false&&isT (cH ts f.1) [tTo])=bi at *;have bt:=Hd C;have HI:=Hd hi;clear C hi;go_wp2_with fail
     refine EJ dc.o ?_;rintro e wx ⟨rfl,m⟩;have gO:=Hd m;clear m;go_wp2_with fail
     go_meet
     case rel=>exact⟨by rw[bt.o,HI.o];cases bi<;>rfl,dg.o.trans (gO.o.mono dg.o.size)⟩
 case first =>
  by_cases hm:isM ts X [ke]=true
  ·have V:=hK.o;rw[n9 hm]at V;have S:aK ts X [ke]=ah ts X:=by unfold aK;rw[n9 hm]
   rw[S]at cq;have T:isM ts X [ke]=true:=by simpa using hm
   rw[T];have ds:=Hd V;clear V S hm T;obtain⟨E,e0⟩:=zzy (ah ts X);rw[e0]at cq ds;clear e0;have a7:=Hd (cq.o.alloc (.cells #[.string be] 9));have ch:=Hd ((Fp w6 (.cells #[.string be] 9) y (by omega)).trans hM.o);have ck:=Hd ((Fp w6 (.cells #[.string be] 9) l (by omega)).trans e2.o);have cl:=Hd (dj a7.o.2 w6.heap.size 0 1 1 [be] (bP [be]) rfl (by omega));go_wp2_with fail
   refine EJ cl.o ?_;rintro e w7 ⟨rfl,ht⟩;have b8:=Hd (a7.o.trans ht);have gS:=Hd (ht.box ck.o H (by omega));have h0:=Hd (ht.box ch.o H (by omega));have lo:l<w7.heap.size:=(Ez.1 gS.o).1;clear ht a7 ch ck cl
   by_cases hm:isM ts E [be]=true
   ·have V:=ds.o;rw[n9 hm]at V;have S:aK ts E [be]=ah ts E:=by unfold aK;rw[n9 hm]
    rw[S]at b8;have T:isM ts E [be]=true:=by simpa using hm
    rw[T];have gT:=Hd V;clear V S hm T;have ha:=Hd (kM b3.o (σ:=(ah ts E)) b8.o.2);have kv:=iF ts (ah ts E);generalize fq ts (ah ts E)=nu at *;have h4:(nu.1:Int)≤2147483647:=by omega
    go_wp2_with fail
    refine EJ ha.o ?_;rintro e w8 ⟨rfl,U⟩;have hc:=Hd (b8.o.trans U);have dv:=Hd (U.box gS.o H (by omega));have b0:=Hd (U.box h0.o H (by omega));have kI:l<w8.heap.size:=(Ez.1 dv.o).1;have k0:w7.heap.size≤w8.heap.size:=U.1.size;clear U;obtain⟨w9,F⟩:=zzx ((w8.setCell ⟨y,2,none⟩ (int i64 (-(nu.1:Int)))));have k1:w9.heap.size=w8.heap.size:=by rw[F];simp[World.setCell]
    have k2:y<w9.heap.size:=by omega
    have hd:Hid (au w P L cap ts nu.2.1 nu.2.2 w9):=by rw[F];exact (hc.o.setCell H HL.o (by omega) 2 _)
    have hh:Hid (w9.heap[l]?=some (.cells bM 76 (0,0))):=by rw[F];exact ((ED _ _ _ _ (show l≠y by omega)).trans dv.o)
    have hj:Hid (w9.heap[y]?=some (.cells #[int .u8 4,.string nm.1.text,int i64 (-(nu.1:Int)),int i64 a,slice none 0 0] 76 (0,0))):=by rw[F];exact (heap_set b0.o 2 _)
    have f2:=ab b0.o 2;obtain⟨n0,n1,n2,n3,n4⟩:=cells5 b0.o;have H9:=Hd F;clear F;go_wp2_with fail
    go_meet
    case rel =>
    rw[←H9.o];clear n0 n1 n2 n3 n4 f2;rw[←gT.o];exact⟨hd.o,hj.o,hh.o⟩
   ·have V:=ds.o;rw[n8 hm]at V;have S:aK ts E [be]=E:=by unfold aK;rw[n8 hm]
    rw[S]at b8;have T:isM ts E [be]=false:=by simpa using hm
    rw[T];have gT:=Hd V;clear V S hm T;have ha:=Hd (kM b3.o (σ:=E) b8.o.2);have kv:=iF ts E;generalize fq ts E=nu at *;have h4:(nu.1:Int)≤2147483647:=by omega
    go_wp2_with fail
    refine EJ ha.o ?_;rintro e w8 ⟨rfl,U⟩;have hc:=Hd (b8.o.trans U);have dv:=Hd (U.box gS.o H (by omega));have b0:=Hd (U.box h0.o H (by omega));have kI:l<w8.heap.size:=(Ez.1 dv.o).1;have k0:w7.heap.size≤w8.heap.size:=U.1.size;clear U;obtain⟨w9,F⟩:=zzx ((w8.setCell ⟨y,2,none⟩ (int i64 nu.1)));have k1:w9.heap.size=w8.heap.size:=by rw[F];simp[World.setCell]
    have k2:y<w9.heap.size:=by omega
    have hd:Hid (au w P L cap ts nu.2.1 nu.2.2 w9):=by rw[F];exact (hc.o.setCell H HL.o (by omega) 2 _)
    have hh:Hid (w9.heap[l]?=some (.cells bM 76 (0,0))):=by rw[F];exact ((ED _ _ _ _ (show l≠y by omega)).trans dv.o)
    have hj:Hid (w9.heap[y]?=some (.cells #[int .u8 4,.string nm.1.text,int i64 nu.1,int i64 a,slice none 0 0] 76 (0,0))):=by rw[F];exact (heap_set b0.o 2 _)
    have f2:=ab b0.o 2;obtain⟨n0,n1,n2,n3,n4⟩:=cells5 b0.o;have H9:=Hd F;clear F;go_wp2_with fail
    go_meet
    case rel =>
    rw[←H9.o];clear n0 n1 n2 n3 n4 f2;rw[←gT.o];exact⟨hd.o,hj.o,hh.o⟩
  ·have V:=hK.o;rw[n8 hm]at V;have S:aK ts X [ke]=X:=by unfold aK;rw[n8 hm]
   rw[S]at cq;have T:isM ts X [ke]=false:=by simpa using hm
   rw[T];have ds:=Hd V;clear V S hm T;go_wp2_with fail
   go_meet
   case rel =>
   rw[←ds.o];exact⟨cq.o,hM.o,e2.o⟩
