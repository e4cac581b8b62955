/- The parser: rules, behind their word; by contract. Condition: at most 16385 tokens, each of at most 16384 bytes. -/
import Derived.Test.YtkhfjgjjhlnnnaaGreatDoorYMX
open Option renaming some→Y,none→U
open Go.Obj renaming cells→wq
open Go.Value renaming int→I,string→J,slice→A,bool→AJ,agg→xS,pointer→xV
open Go.IntKind renaming u8→O,i64→Z
open Bool renaming true→wP
namespace Go.Proofs.YtkhfjgjjhlnnnaaGreatDoor
set_option maxHeartbeats 4000000
set_option maxRecDepth 100000
open Go.RowKit
def Eu(w:World) (P L cap:Nat) (ts:List Tok) (tx:ByteArray) (a:Int) (r:Int×PS) (b c:Nat) (W:World):Prop:=
 ax w P L cap ts r.2.1 r.2.2 W∧W.heap[b]?=Y (wq #[I O 4,J tx,I Z r.1,I Z a,A U 0 0] 25 (0,0))∧W.heap[c]?=Y (wq bO 25 (0,0))
def lU(w:World) (P L cap:Nat) (ts:List Tok) (one:PS→ab×PS) (stop:ByteArray) (R:List ab×PS) (tx:ByteArray) (num a:Int) (e c:Nat) (W:World):Prop:=
 ∃(g:Nat) (b:List ab) (σ:PS) (d:Nat) (rows:List (List Value)) (f:Nat→Nat→Prop) (o:Value),upTo ts one stop g b σ=R∧(σ.2=wP∨ts.length-σ.1+1≤g)∧b.length≤σ.1+(if σ.2=wP then 1 else 0)∧
  ax w P L cap ts σ.1 σ.2 W∧W.heap[c]?=Y (wq bO 25 (0,0))∧W.heap[e]?=Y (wq #[I O 4,J tx,I Z num,I Z a,o] 25 (0,0))∧
  W.ownsRow (c+1) 25 5 o b.length rows.flatten∧cD W (c+1) d b b.length o.ownBlock rows f
def gv(P:Nat) (W:World):Nat:=leftOf P W*2+(match W.cell? ⟨P,1,U⟩ with|some (AJ wP)=>0|_=>1)
theorem PAt.steps{w:World}{P L cap:Nat}{ts:List Tok}{k:Nat}{bad:Bool}(h:PAt w P L cap ts k bad):gv P w=(ts.length-k)*2+(if bad=wP then 0 else 1):=by
 obtain⟨_,_,_,_,_,a,_⟩:=h.u;unfold gv;rw[h.left,a]
 cases bad<;>rfl
theorem yq(ts:List Tok)(σ:PS):-2147483647≤(ij ts σ).1∧(ij ts σ).1≤2147483647:=by
 unfold ij;have a:=jr ts (ag ts σ);have b:=jr ts (ag ts (ag ts σ))
 (repeat' split)<;>dsimp only<;>omega
theorem Be{ts:List Tok}(bl:cE ts):zQ ts (dJ ts):=by
 intro a σ w P L cap k1 k2 h;have K:=h.lt.1;have hL:=h.lt.2;obtain⟨cb,e3,hl⟩:=zz3 bl (Bt bl (Cn bl) (jm ts)) (Bu bl);obtain⟨i0,hp,hq,hr,hs⟩:=info_parts qh;obtain⟨wA,cr⟩:=zzx ((w.alloc (wq #[I O 0,J ⟨#[]⟩,I Z 0,I Z a,A U 0 0] 25)).alloc (wq bO 25));obtain⟨y,hv⟩:=zzy (w.heap.size);obtain⟨l,hy⟩:=zzy (w.heap.size+1);have hz:FK w wA:=by rw[cr];exact fU w _ _
 have hA:=Hd (h.b hz);obtain⟨X1,X2,_⟩:=ap w (wq #[I O 0,J ⟨#[]⟩,I Z 0,I Z a,A U 0 0] 25) (wq bO 25);rw[←cr,hv]at X1;rw[←cr,hy]at X2;obtain⟨h7,hC,h8⟩:=zz3 X1 X2 (jh bl hA.o.2 4 (by omega));have b9:(ofM ts σ 2 4).1.f.size≤16384:=(cK bl _).2.1;obtain⟨R,hR⟩:=zzy (dJ ts a σ);rw[hR];unfold dJ at hR;dsimp only at hR;generalize ofM ts σ 2 4=nm at *;obtain⟨HR,hD⟩:=zz2 hR b9;clear X1 X2 hR bl h hz b9
 go_enter Tryz.func93,Tryz.ntmps93
 go_upto_region 1 with fail
 change Code.wp _ _ _ _ ((w.alloc (wq #[I O 0,J ⟨#[]⟩,I Z 0,I Z a,A U 0 0] 25)).alloc (wq bO 25));rw[←cr];have ep:y+1=l:=by omega
 rw[ep];have hG:w.heap.size≤y:=by omega
 have k3:y<l:=by omega
 have k4:l<wA.heap.size:=(EN.1 hC.o).1;have HL:Hid (L<w.heap.size):=hL;clear cr hv hy ep;go_wp2_with fail
 refine EX h8.o ?_;rintro e w4 ⟨d,s,rfl,ct,ho,hf⟩;obtain⟨h9,hI,el⟩:=zz3 (hA.o.b ct) (ct.h hC.o K (by omega)) (ct.h h7.o K (by omega));have k5:l<w4.heap.size:=(EN.1 hI.o).1;have k6:wA.heap.size≤w4.heap.size:=ct.1.size;obtain⟨p,c,rfl⟩:=ho.b;have ih:=iu nm.1.b nm.1.f nm.1.h nm.1.y nm.1.u.length p c w4;clear ct ho hf;obtain⟨w5,cc⟩:=zzx (((w4.setCell ⟨y,0,U⟩ (I O 4)).setCell ⟨y,1,U⟩ (J nm.1.f)));have iv:w5.heap.size=w4.heap.size:=by rw[cc];simp[World.setCell]
 have k7:y<w5.heap.size:=by omega
 have hJ:Hid (ax w P L cap ts nm.2.1 nm.2.2 w5):=by rw[cc];exact ((h9.o.y K HL.o (by omega) 0 _).y K HL.o (by omega) 1 _)
 have ix:Hid (w5.heap[l]?=Y (wq bO 25 (0,0))):=by rw[cc];exact ((ER _ _ _ _ (show l≠y by omega)).trans ((ER _ _ _ _ (show l≠y by omega)).trans hI.o))
 have iA:Hid (w5.heap[y]?=Y (wq #[I O 4,J nm.1.f,I Z 0,I Z a,A U 0 0] 25 (0,0))):=by rw[cc];exact (heap_set (heap_set el.o 0 _) 1 _)
 have f0:=ac el.o 0;have f1:=ac el.o 1;obtain⟨n0,n1,n2,n3,n4⟩:=cells5 el.o;have H5:=Hd cc;clear cc;go_upto_region 2 with fail
 change Code.wp _ _ _ _ ((w4.setCell ⟨y,0,U⟩ (I O 4)).setCell ⟨y,1,U⟩ (J nm.1.f));rw[←H5.o];clear n0 n1 n2 n3 n4 f0 f1;clear ih;have k8:w4.heap.size≤w5.heap.size:=by omega
 clear iv;obtain⟨aq,hK⟩:=zzy (nm.2);rw[hK]at hJ HR;obtain⟨sa,cu⟩:=zzy (ij ts aq);rw[cu]at HR;have iB:Hid (-2147483647≤sa.1∧sa.1≤2147483647):=by rw[←cu];exact yq ts aq
 unfold ij at cu;have hM:=Hd cu;clear cu;obtain⟨bn,cv,cx⟩:=zz3 (hJ.o.u (wq #[J lc] 9)) ((FH w5 (wq #[J lc] 9) y (by omega)).trans iA.o) ((FH w5 (wq #[J lc] 9) l (by omega)).trans ix.o);have cA:=Hd (dy bn.o.2 w5.heap.size 0 1 1 [lc] (bT [lc]) V (by omega));go_wp2_with fail
 refine EX cA.o ?_;rintro e w6 ⟨rfl,ht⟩;obtain⟨cC,e4,hN⟩:=zz3 (bn.o.b ht) (ht.h cx.o K (by omega)) (ht.h cv.o K (by omega));have k9:l<w6.heap.size:=(EN.1 e4.o).1;clear ht bn cv cx cA
 go_upto_if 15 with fail
 go_cut [] from 5 to 27 (fun wx=>Eu w P L cap ts nm.1.f a sa y l wx)
 case rest =>
  obtain⟨e5,hQ,e6⟩:=hcut;obtain⟨iX,i1,jj⟩:=zz3 e5 hQ e6;have la:l<wc.heap.size:=(EN.1 e6).1;have HW:=Hd (cM e5.2 kB);clear e5 hQ e6;go_wp2_with fail
  refine EX HW.o ?_;rintro e wd ⟨rfl,en⟩;obtain⟨hV,hW,jo⟩:=zz3 (iX.o.b en) (en.h jj.o K (by omega)) (en.h i1.o K (by omega));have lb:l<wd.heap.size:=(EN.1 hW.o).1;obtain⟨hX,er⟩:=zzy (aT ts sa.2 kB);rw[er]at hV HR;obtain⟨Rc,e7⟩:=zzy (upTo ts (dz ts (em ts)) tTo (ts.length+1) [] hX);rw[e7]at HR;have hY:Hid (lU w P L cap ts (dz ts (em ts)) tTo Rc nm.1.f sa.1 a y l wd):=
   ⟨ts.length+1,[],hX,0,[],fun _ _=>False,A U 0 0,e7,Or.inr (by omega),Fa _,hV.o,hW.o,jo.o,World.ownsRow_nil _ _ _ _,lr _ _ _ _⟩
  clear en er e7;go_wp2_with fail
  go_loopw [32] (fun _ wr=>lU w P L cap ts (dz ts (em ts)) tTo Rc nm.1.f sa.1 a y l wr) (fun _ wr=>gv P wr)
  case atStart=>exact hY.o
  case round =>
   obtain⟨g,ks,f,dd,rows,Fs,o,cR,hg,hlen,hT,hx,hn,H,q⟩:=hrel;obtain⟨M,ch,HG,a6,bq,br,ba⟩:=zz7 hT cR hg hlen hx hn H;obtain⟨Q,e8⟩:=zz2 q hT.2.steps;have et:Hid (f.1≤(dz ts (em ts) f).2.1):=pK (jm ts) f;clear cR hg hlen hT hx hn H q;go_upto_region 8 with fail
   go_cut [45] from 32 to 45 (fun v wx=>v=AJ (!f.2&&!isM ts f [tTo])∧FK wr wx)
   case rest =>
    obtain⟨rfl,m⟩:=hcut;obtain⟨C,bb,bc⟩:=zz3 (M.o.f m) (aa m bq.o (EN.1 bq.o).1) (aa m br.o (EN.1 br.o).1);have ar:P<l+1:=by omega
    obtain⟨t,z⟩:=zz2 (dq ba.o (aP m (Y P)) ar) (Q.o.turn (aP m (Y P)) ar);have h0:l<wc.heap.size:=(EN.1 bb.o).1;clear m M bq br ba Q;obtain⟨b,D⟩:=zzy ((!f.2&&!isM ts f [tTo]));rw[D];have HB:=Hd D;clear D
    cases b with
    | true =>
     have E:f.2=false:=by have:=HB.o;cases h:f.2<;>simp[h]at this ⊢
     have cT:isM ts f [tTo]=false:=by have:=HB.o;rw[E]at this;simpa using this
     have cV:=C.o.2.k;have jv:=C.o.2.n;have cW:=a6.o;rw[E]at cW;simp only[Fo,sm,Nat.add_zero]at cW;obtain⟨g',c0,c3⟩:∃g',(((dz ts (em ts)) f).2.2=wP∨ts.length-((dz ts (em ts)) f).2.1+1≤g')∧upTo ts (dz ts (em ts)) tTo g' (ks++[((dz ts (em ts)) f).1]) ((dz ts (em ts)) f).2=Rc:=by
      have h1:=ch.o;have h2:=HG.o;rw[E]at h2;have j2:ts.length-f.1+1≤g:=by rcases h2 with h|h;cases h;exact h
      cases g with
      | zero=>omega
      | succ g =>
       unfold upTo at h1;rw[qv (by rw[E];decide),qv (by rw[cT];decide)]at h1;refine⟨g,?_,h1⟩;rcases (qg cb.o (jm ts) (fun _ h=>pI h) cV) with h|h
       ·exact Or.inl h
       ·exact Or.inr (by omega)
     have c5:=(qg cb.o (jm ts) (fun _ h=>pI h) cV);obtain⟨bt,e9,fe,c6,fm⟩:=zz5 (e3.o f wc.drew P L cap C.o.2.drew) c0 c3 c5 E;clear c0 c3 c5 cT E;generalize (dz ts (em ts)) f=r at *;obtain⟨d0,c7,c8,d3,d4⟩:=cells5 bc.o;have fp:y≠P:=by omega
     have C4:=fun x:RE.Gr wc P=>x.b d4 fp
     have c9:P<wc.heap.size:=C.o.2.lt.1;clear d0 c7 c8 d3 d4;go_wp2_with fail
     refine RE.u (by kernel_rfl) 5 [3,4] [3,4] (fun s W=>if s=0 then W=wc.drew else ax wc P L cap ts r.2.1 r.2.2 W) (fun W W'=>W.grownBy W' (Y P))
      (fun i xs=>if i=3 then xS #[I O r.1.b,J r.1.f,I Z r.1.h,I Z r.1.y,xs.getD 0 undef] else A (Y ⟨RE.natOf xs,0,U⟩) 1 1)
      (fun i W xs=>if i=3 then f8 wc.heap.size r.1 W xs else hU wc.heap.size r.1 W xs) (by kernel_rfl) (fun i h1 h2=>by rw[h1]at h2;cases h2) ?_ V ?_
     ·intro k W W' xs h _ hg
      split at h
      ·rw[rv (by assumption)];exact h.h c9 hg
      ·rw[qv (by assumption)];exact h.h c9 hg
     simp only[EY,Fi,EZ,Fh,Fv,List.length_nil,Nat.reduceAdd];have da:∀(n s:Nat) (W:World),s≤n→(if s=0 then W=wc.drew else ax wc P L cap ts r.2.1 r.2.2 W)→∃x:RE.Gr wc P,W=x.1:=fun n s W _ h=>by
      split at h
      ·exact⟨⟨W,by rw[h];exact grown_drewN (r8 wc _) 1⟩,V⟩
      ·exact⟨⟨W,h.1⟩,V⟩
     have fv:=Hd da;clear da
     repeat (refine RE.b (fun W=>∃x:RE.Gr wc P,W=x.1) (fv.o _) V V V V ?_;go_big_quiet_step (fail);refine wpQuiet_nil ?_)
     refine RE.f V V ?_ (fun dc=>?_)
     ·intro W _ hS _;obtain rfl:W=wc.drew:=hS V;refine RE.y 164 _ _ V (enters_of Tryz.func164 (by kernel_rfl) V) #[xV (Y ⟨P,0,U⟩)] (by simp[Act.eval]) (bt.o.mono ?_);rintro e W' ⟨d,s,rfl,hT,ho,hf⟩;exact⟨_,V,[s],V,hT.z,hT.1,⟨d,s,V,ho,hf⟩⟩
     simp only[Act.put,EQ,EW,EV];refine RE.f V V ?_ (fun dg=>?_)
     ·intro W _ hS fz;have hT:ax wc P L cap ts r.2.1 r.2.2 W:=hS V;obtain⟨d,s,rfl,ho,hf⟩:f8 wc.heap.size r.1 W dc:=fz 3 dc (by kernel_rfl) V;obtain⟨p,c,rfl⟩:=ho.b;refine RE.Upon.told (v:=A (Y ⟨W.heap.size,0,U⟩) 1 1) (w':=W.alloc (wq (ay r.1 (A p r.1.u.length c)).toArray 25)) ?_ ⟨[I Z W.heap.size],V,hT.u _,?_,?_⟩
      ·unfold RE.Upon
       go_simp
       rfl
      ·exact aP ((EP _ W).alloc (EO _) _) _
      ·refine⟨d,W.heap.size,W.heap.size,_,V,p9 W _,?_,hf,hT.1.size,EO _⟩;exact ho.z (fun b D=>D.2) ((EP _ W).alloc (EO _) _)
     simp only[Act.put,EQ,EW,EV];refine RE.h ?_;intro W3 hS hE;have av:ax wc P L cap ts r.2.1 r.2.2 W3:=hS;obtain⟨d2,gg,N,s2,rfl,b0,b1,fI,fM,fT⟩:=(show hU wc.heap.size r.1 W3 dg from hE 4 dg V);have kc:wc.heap.size≤W3.heap.size:=av.1.size;have S:=dq t.o av.1 (by omega);refine wpList_append_lies W3 V (.tmp 47) (.tmp 50) 23 V (l+1) 25 i0 _ 5 64 Tryz.underlying23 hp hq hr hs V (by decide) o ks.length rows.flatten V S ⟨gg,0,U⟩ 1 1 (ay r.1 s2) V V
      (fun j u hu=>by rw[Addr.add_mid,FI _ _ _ _ _ _ b0,Nat.zero_add];simpa using hu) (by have:=b1.b;obtain⟨p,c,rfl⟩:=this;simp[Value.oneCell',ay]) (by decide) (by unfold maxLen;omega) (by omega) (by omega) _ V ?_
     intro g7 dp w7 bd T X _;obtain⟨d',b2,gf,u1,u2,u3,u4,u5,u6⟩:=rI (w:=w) K HL.o hG (show y<(l+1) by omega) (by omega) C.o bc.o t.o z.o av b0 b1 fI fM fT bd T X;have x4:=ac u6 4;obtain⟨d0,c7,c8,d3,d4⟩:=cells5 u6;obtain⟨Wn,ds⟩:=zzx (w7.setCell ⟨y,4,U⟩ (A (Y ⟨g7,0,U⟩) (ks.length+1) dp));rw[←ds]at u1 u2 u3 u4 u5;have ad:(ks++[r.1]).length≤r.2.1+(if r.2.2=wP then 1 else 0):=by
      have h1:=u1.2.k;rw[Fc,FG];rcases c6.o with h|h
      ·rw[rv h];have:=et.o;omega
      ·split<;>omega
     have b3:Hid (lU w P L cap ts (dz ts (em ts)) tTo Rc nm.1.f sa.1 a y l Wn):=
      ⟨g',_,r.2,d',b2,gf,_,fe.o,e9.o,ad,u1,(u2 l (by omega) (by omega) (by omega)).trans bb.o,u3,u4,u5⟩
     have b4:Hid (gv P Wn<gv P wr):=by
      show _<_
      rw[u1.2.steps,e8.o,qv (show ¬f.2=wP by rw[fm.o];decide)];have h1:=u1.2.k;have h3:=et.o;rcases c6.o with h|h
      ·rw[rv h];omega
      ·split<;>omega
     have gD:=Hd ds;clear u1 u2 u3 u4 u5 ad X T bd hE hS av S b0 b1 C4;go_wp2_with fail
     rw[←gD.o];exact⟨b3.o,b4.o⟩
    | false =>
     have gE:(ks,f)=Rc:=by
      rw[←ch.o];have h2:=HB.o
      cases g with
      | zero=>rfl
      | succ g =>
       unfold upTo
       by_cases b5:f.2=wP
       ·rw[rv b5]
       ·rw[qv b5,rv (by simpa [b5]using h2)]
     subst gE;have gF:=Hd (cM C.o.2 tTo);dsimp only at HR;go_wp2_with fail
     refine EX gF.o ?_;rintro e we ⟨rfl,ck⟩;obtain⟨gH,gL,h4,dv,ca⟩:=zz5 (C.o.b ck) (ck.h bb.o K (by omega)) (ck.h bc.o K (by omega)) (dq t.o ck.1 ar) (z.o.turn ck.1 ar);have hle:l<we.heap.size:=(EN.1 gL.o).1;have ev:=bJ ts f tTo;have gM:f.2=wP→(aT ts f tTo).2=true:=fun h=>ei h tTo
     clear ck;obtain⟨eo,e0⟩:=zzy (aT ts f tTo);rw[e0]at gH HR ev gM;obtain⟨Rz,gN⟩:=zzy (upTo ts (eS ts) dl (ts.length+1) ks eo);rw[gN]at HR;have ea:ks.length≤eo.1+(if eo.2=wP then 1 else 0):=by
      have h1:=a6.o
      by_cases h:f.2=wP
      ·rw[rv h]at h1;rw[rv (gM h)];omega
      ·rw[qv h]at h1;omega
     have gO:Hid (lU w P L cap ts (eS ts) dl Rz nm.1.f sa.1 a y l we):=
      ⟨ts.length+1,ks,eo,dd,rows,Fs,o,gN,Or.inr (by omega),ea,gH.o,gL.o,h4.o,dv.o,ca.o⟩
     clear e0 gN ea ev gM ch HG a6 HB dv ca t z bc bb C h4 gL gH;clear h0 ar;go_wp2_with fail
     go_loopw [57] (fun _ wr=>lU w P L cap ts (eS ts) dl Rz nm.1.f sa.1 a y l wr) (fun _ wr=>gv P wr)
     case atStart=>exact gO.o
     case round =>
      obtain⟨g,ks,f,dd,rows,Fs,o,cR,hg,hlen,hT,hx,hn,H,q⟩:=hrel;obtain⟨M,ch,HG,a6,bq,br,ba⟩:=zz7 hT cR hg hlen hx hn H;obtain⟨Q,e8⟩:=zz2 q hT.2.steps;have e1:Hid (f.1≤(eS ts f).2.1):=rl ts f;clear cR hg hlen hT hx hn H q;go_upto_region 11 with fail
      go_cut [70] from 57 to 70 (fun v wx=>v=AJ (!f.2&&!isM ts f [dl])∧FK wr wx)
      case rest =>
       obtain⟨rfl,m⟩:=hcut;obtain⟨C,bb,bc⟩:=zz3 (M.o.f m) (aa m bq.o (EN.1 bq.o).1) (aa m br.o (EN.1 br.o).1);have ar:P<l+1:=by omega
       obtain⟨t,z⟩:=zz2 (dq ba.o (aP m (Y P)) ar) (Q.o.turn (aP m (Y P)) ar);have h0:l<wc.heap.size:=(EN.1 bb.o).1;clear m M bq br ba Q;obtain⟨b,D⟩:=zzy ((!f.2&&!isM ts f [dl]));rw[D];have HB:=Hd D;clear D
       cases b with
       | true =>
        have E:f.2=false:=by have:=HB.o;cases h:f.2<;>simp[h]at this ⊢
        have cT:isM ts f [dl]=false:=by have:=HB.o;rw[E]at this;simpa using this
        have cV:=C.o.2.k;have jv:=C.o.2.n;have cW:=a6.o;rw[E]at cW;simp only[Fo,sm,Nat.add_zero]at cW;obtain⟨g',c0,c3⟩:∃g',(((eS ts) f).2.2=wP∨ts.length-((eS ts) f).2.1+1≤g')∧upTo ts (eS ts) dl g' (ks++[((eS ts) f).1]) ((eS ts) f).2=Rz:=by
         have h1:=ch.o;have h2:=HG.o;rw[E]at h2;have j2:ts.length-f.1+1≤g:=by rcases h2 with h|h;cases h;exact h
         cases g with
         | zero=>omega
         | succ g =>
          unfold upTo at h1;rw[qv (by rw[E];decide),qv (by rw[cT];decide)]at h1;refine⟨g,?_,h1⟩;rcases (rj cb.o cV) with h|h
          ·exact Or.inl h
          ·exact Or.inr (by omega)
        have c5:=(rj cb.o cV);obtain⟨bt,e9,fe,c6,fm⟩:=zz5 (hl.o f wc.drew P L cap C.o.2.drew) c0 c3 c5 E;clear c0 c3 c5 cT E;generalize (eS ts) f=r at *;obtain⟨d0,c7,c8,d3,d4⟩:=cells5 bc.o;have fp:y≠P:=by omega
        have C4:=fun x:RE.Gr wc P=>x.b d4 fp
        have c9:P<wc.heap.size:=C.o.2.lt.1;clear d0 c7 c8 d3 d4;go_wp2_with fail
        refine RE.u (by kernel_rfl) 5 [3,4] [3,4] (fun s W=>if s=0 then W=wc.drew else ax wc P L cap ts r.2.1 r.2.2 W) (fun W W'=>W.grownBy W' (Y P))
         (fun i xs=>if i=3 then xS #[I O r.1.b,J r.1.f,I Z r.1.h,I Z r.1.y,xs.getD 0 undef] else A (Y ⟨RE.natOf xs,0,U⟩) 1 1)
         (fun i W xs=>if i=3 then f8 wc.heap.size r.1 W xs else hU wc.heap.size r.1 W xs) (by kernel_rfl) (fun i h1 h2=>by rw[h1]at h2;cases h2) ?_ V ?_
        ·intro k W W' xs h _ hg
         split at h
         ·rw[rv (by assumption)];exact h.h c9 hg
         ·rw[qv (by assumption)];exact h.h c9 hg
        simp only[EY,Fi,EZ,Fh,Fv,List.length_nil,Nat.reduceAdd];have da:∀(n s:Nat) (W:World),s≤n→(if s=0 then W=wc.drew else ax wc P L cap ts r.2.1 r.2.2 W)→∃x:RE.Gr wc P,W=x.1:=fun n s W _ h=>by
         split at h
         ·exact⟨⟨W,by rw[h];exact grown_drewN (r8 wc _) 1⟩,V⟩
         ·exact⟨⟨W,h.1⟩,V⟩
        have fv:=Hd da;clear da
        repeat (refine RE.b (fun W=>∃x:RE.Gr wc P,W=x.1) (fv.o _) V V V V ?_;go_big_quiet_step (fail);refine wpQuiet_nil ?_)
        refine RE.f V V ?_ (fun dc=>?_)
        ·intro W _ hS _;obtain rfl:W=wc.drew:=hS V;refine RE.y 165 _ _ V (enters_of Tryz.func165 (by kernel_rfl) V) #[xV (Y ⟨P,0,U⟩)] (by simp[Act.eval]) (bt.o.mono ?_);rintro e W' ⟨d,s,rfl,hT,ho,hf⟩;exact⟨_,V,[s],V,hT.z,hT.1,⟨d,s,V,ho,hf⟩⟩
        simp only[Act.put,EQ,EW,EV];refine RE.f V V ?_ (fun dg=>?_)
        ·intro W _ hS fz;have hT:ax wc P L cap ts r.2.1 r.2.2 W:=hS V;obtain⟨d,s,rfl,ho,hf⟩:f8 wc.heap.size r.1 W dc:=fz 3 dc (by kernel_rfl) V;obtain⟨p,c,rfl⟩:=ho.b;refine RE.Upon.told (v:=A (Y ⟨W.heap.size,0,U⟩) 1 1) (w':=W.alloc (wq (ay r.1 (A p r.1.u.length c)).toArray 25)) ?_ ⟨[I Z W.heap.size],V,hT.u _,?_,?_⟩
         ·unfold RE.Upon
          go_simp
          rfl
         ·exact aP ((EP _ W).alloc (EO _) _) _
         ·refine⟨d,W.heap.size,W.heap.size,_,V,p9 W _,?_,hf,hT.1.size,EO _⟩;exact ho.z (fun b D=>D.2) ((EP _ W).alloc (EO _) _)
        simp only[Act.put,EQ,EW,EV];refine RE.h ?_;intro W3 hS hE;have av:ax wc P L cap ts r.2.1 r.2.2 W3:=hS;obtain⟨d2,gg,N,s2,rfl,b0,b1,fI,fM,fT⟩:=(show hU wc.heap.size r.1 W3 dg from hE 4 dg V);have kc:wc.heap.size≤W3.heap.size:=av.1.size;have S:=dq t.o av.1 (by omega);refine wpList_append_lies W3 V (.tmp 72) (.tmp 75) 23 V (l+1) 25 i0 _ 5 64 Tryz.underlying23 hp hq hr hs V (by decide) o ks.length rows.flatten V S ⟨gg,0,U⟩ 1 1 (ay r.1 s2) V V
         (fun j u hu=>by rw[Addr.add_mid,FI _ _ _ _ _ _ b0,Nat.zero_add];simpa using hu) (by have:=b1.b;obtain⟨p,c,rfl⟩:=this;simp[Value.oneCell',ay]) (by decide) (by unfold maxLen;omega) (by omega) (by omega) _ V ?_
        intro g7 dp w7 bd T X _;obtain⟨d',b2,gf,u1,u2,u3,u4,u5,u6⟩:=rI (w:=w) K HL.o hG (show y<(l+1) by omega) (by omega) C.o bc.o t.o z.o av b0 b1 fI fM fT bd T X;have x4:=ac u6 4;obtain⟨d0,c7,c8,d3,d4⟩:=cells5 u6;obtain⟨Wn,ds⟩:=zzx (w7.setCell ⟨y,4,U⟩ (A (Y ⟨g7,0,U⟩) (ks.length+1) dp));rw[←ds]at u1 u2 u3 u4 u5;have ad:(ks++[r.1]).length≤r.2.1+(if r.2.2=wP then 1 else 0):=by
         have h1:=u1.2.k;rw[Fc,FG];rcases c6.o with h|h
         ·rw[rv h];have:=e1.o;omega
         ·split<;>omega
        have b3:Hid (lU w P L cap ts (eS ts) dl Rz nm.1.f sa.1 a y l Wn):=
         ⟨g',_,r.2,d',b2,gf,_,fe.o,e9.o,ad,u1,(u2 l (by omega) (by omega) (by omega)).trans bb.o,u3,u4,u5⟩
        have b4:Hid (gv P Wn<gv P wr):=by
         show _<_
         rw[u1.2.steps,e8.o,qv (show ¬f.2=wP by rw[fm.o];decide)];have h1:=u1.2.k;have h3:=e1.o;rcases c6.o with h|h
         ·rw[rv h];omega
         ·split<;>omega
        have gD:=Hd ds;clear u1 u2 u3 u4 u5 ad X T bd hE hS av S b0 b1 C4;go_wp2_with fail
        rw[←gD.o];exact⟨b3.o,b4.o⟩
       | false =>
        have gE:(ks,f)=Rz:=by
         rw[←ch.o];have h2:=HB.o
         cases g with
         | zero=>rfl
         | succ g =>
          unfold upTo
          by_cases b5:f.2=wP
          ·rw[rv b5]
          ·rw[qv b5,rv (by simpa [b5]using h2)]
        subst gE;have gF:=Hd (cM C.o.2 dl);dsimp only at HR;go_wp2_with fail
        refine EX gF.o ?_;rintro e wz ⟨rfl,cl⟩;obtain⟨kf,bk,kk⟩:=zz3 (C.o.b cl) (cl.h bb.o K (by omega)) (cl.h bc.o K (by omega));have H:=dq t.o cl.1 ar;have q:=z.o.turn cl.1 ar;have hO:=rJ (d:=dd+1) V H q (fun h=>by omega);obtain⟨p,c,rfl⟩:=hO.b;have HO:=Hd hO;have ld:l<wz.heap.size:=(EN.1 bk.o).1;clear cl hO H q;obtain⟨n0,n1,n2,n3,n4⟩:=cells5 kk.o;obtain⟨a0,a1,a2,a3,a4⟩:=cells5 bk.o;have z0:=ac bk.o 0;have z1:=ac bk.o 1;have z2:=ac bk.o 2;have z3:=ac bk.o 3;have z4:=ac bk.o 4;go_wp2_with fail
        refine bw Tryz.results93 V (aZ bk.o _ _ _ _ _) V ?_;rw[←HR.o];have b9:Fits (.mk 4 nm.1.f sa.1 a ks):=by
         have h1:=hD.o;have h2:=iB.o;refine⟨by show 4<256;omega,by show nm.1.f.size≤maxLen;unfold maxLen;omega,by show (-9223372036854775808:Int)≤sa.1;omega,by show sa.1<9223372036854775808;omega,by show (-9223372036854775808:Int)≤a;omega,by show a<9223372036854775808;omega⟩
        exact a9.h (r:=(.mk 4 nm.1.f sa.1 a ks,aT ts f dl)) (B:=l+1) K HL.o kf.o HO.o b9 (by omega) (by omega) _ _ _ _ _
      case first =>
       obtain⟨_,_,_,_,_,c1,_,_⟩:=M.o.2.u;have b6:FK wr (wr.alloc (wq #[J dl] 9)):=(EP _ wr).alloc (EO _) _;obtain⟨eb,ec⟩:=zz2 (oM (M.o.2.z b6) (gw M.o.2.k) wr.heap.size 0 1 1 [dl] (bT [dl]) V (by omega)) b6;clear b6
       cases D:f.2 with
       | true =>
        rw[D]at c1;have b7:=Hd D;clear D;go_wp2_with fail
        go_meet
        case rel=>exact⟨by rw[b7.o];rfl,EP _ _⟩
       | false =>
        rw[D]at c1 eb;have hi:isM ts f [dl]=(!false&&isT (cO ts f.1) [dl]):=by unfold isM;rw[D]
        generalize (!false&&isT (cO ts f.1) [dl])=bi at *;obtain⟨b7,HI⟩:=zz2 D hi;clear D hi;go_wp2_with fail
        refine EX eb.o ?_;rintro e wx ⟨rfl,m⟩;have gS:=Hd m;clear m;go_wp2_with fail
        go_meet
        case rel=>exact⟨by rw[b7.o,HI.o];cases bi<;>rfl,ec.o.trans (gS.o.mono ec.o.size)⟩
   case first =>
    obtain⟨_,_,_,_,_,c1,_,_⟩:=M.o.2.u;have b6:FK wr (wr.alloc (wq #[J tTo] 9)):=(EP _ wr).alloc (EO _) _;obtain⟨eb,ec⟩:=zz2 (oM (M.o.2.z b6) (gw M.o.2.k) wr.heap.size 0 1 1 [tTo] (bT [tTo]) V (by omega)) b6;clear b6
    cases D:f.2 with
    | true =>
     rw[D]at c1;have b7:=Hd D;clear D;go_wp2_with fail
     go_meet
     case rel=>exact⟨by rw[b7.o];rfl,EP _ _⟩
    | false =>
     rw[D]at c1 eb;have hi:isM ts f [tTo]=(!false&&isT (cO ts f.1) [tTo]):=by unfold isM;rw[D]
     generalize (!false&&isT (cO ts f.1) [tTo])=bi at *;obtain⟨b7,HI⟩:=zz2 D hi;clear D hi;go_wp2_with fail
     refine EX eb.o ?_;rintro e wx ⟨rfl,m⟩;have gS:=Hd m;clear m;go_wp2_with fail
     go_meet
     case rel=>exact⟨by rw[b7.o,HI.o];cases bi<;>rfl,ec.o.trans (gS.o.mono ec.o.size)⟩
 case first =>
  by_cases hm:isM ts aq [lc]=wP
  ·have hR:=hM.o;rw[rv hm]at hR;have af:aQ ts aq [lc]=ag ts aq:=by unfold aQ;rw[rv hm]
   rw[af]at cC;have ak:isM ts aq [lc]=true:=by simpa using hm
   rw[ak];have eg:=Hd hR;clear hR af hm ak;obtain⟨F,e2⟩:=zzy (ag ts aq);rw[e2]at cC eg;clear e2;obtain⟨bn,cv,cx⟩:=zz3 (cC.o.u (wq #[J bm] 9)) ((FH w6 (wq #[J bm] 9) y (by omega)).trans hN.o) ((FH w6 (wq #[J bm] 9) l (by omega)).trans e4.o);have cA:=Hd (dy bn.o.2 w6.heap.size 0 1 1 [bm] (bT [bm]) V (by omega));go_wp2_with fail
   refine EX cA.o ?_;rintro e w7 ⟨rfl,ht⟩;obtain⟨cq,gT,h5⟩:=zz3 (bn.o.b ht) (ht.h cx.o K (by omega)) (ht.h cv.o K (by omega));have lf:l<w7.heap.size:=(EN.1 gT.o).1;clear ht bn cv cx cA
   by_cases hm:isM ts F [bm]=wP
   ·have hR:=eg.o;rw[rv hm]at hR;have af:aQ ts F [bm]=ag ts F:=by unfold aQ;rw[rv hm]
    rw[af]at cq;have ak:isM ts F [bm]=true:=by simpa using hm
    rw[ak];have ha:=Hd hR;clear hR af hm ak;have hc:=Hd (lI cb.o (σ:=(ag ts F)) cq.o.2);have kn:=jr ts (ag ts F);generalize gk ts (ag ts F)=nu at *;have h6:(nu.1:Int)≤2147483647:=by omega
    go_wp2_with fail
    refine EX hc.o ?_;rintro e w8 ⟨rfl,al⟩;obtain⟨hd,ek,b8⟩:=zz3 (cq.o.b al) (al.h gT.o K (by omega)) (al.h h5.o K (by omega));have kp:l<w8.heap.size:=(EN.1 ek.o).1;have kv:w7.heap.size≤w8.heap.size:=al.1.size;clear al;obtain⟨w9,G⟩:=zzx ((w8.setCell ⟨y,2,U⟩ (I Z (-(nu.1:Int)))));have kI:w9.heap.size=w8.heap.size:=by rw[G];simp[World.setCell]
    have k0:y<w9.heap.size:=by omega
    have hh:Hid (ax w P L cap ts nu.2.1 nu.2.2 w9):=by rw[G];exact (hd.o.y K HL.o (by omega) 2 _)
    have hj:Hid (w9.heap[l]?=Y (wq bO 25 (0,0))):=by rw[G];exact ((ER _ _ _ _ (show l≠y by omega)).trans ek.o)
    have hk:Hid (w9.heap[y]?=Y (wq #[I O 4,J nm.1.f,I Z (-(nu.1:Int)),I Z a,A U 0 0] 25 (0,0))):=by rw[G];exact (heap_set b8.o 2 _)
    have f2:=ac b8.o 2;obtain⟨n0,n1,n2,n3,n4⟩:=cells5 b8.o;have H9:=Hd G;clear G;go_wp2_with fail
    go_meet
    case rel =>
    rw[←H9.o];clear n0 n1 n2 n3 n4 f2;rw[←ha.o];exact⟨hh.o,hk.o,hj.o⟩
   ·have hR:=eg.o;rw[qv hm]at hR;have af:aQ ts F [bm]=F:=by unfold aQ;rw[qv hm]
    rw[af]at cq;have ak:isM ts F [bm]=false:=by simpa using hm
    rw[ak];have ha:=Hd hR;clear hR af hm ak;have hc:=Hd (lI cb.o (σ:=F) cq.o.2);have kn:=jr ts F;generalize gk ts F=nu at *;have h6:(nu.1:Int)≤2147483647:=by omega
    go_wp2_with fail
    refine EX hc.o ?_;rintro e w8 ⟨rfl,al⟩;obtain⟨hd,ek,b8⟩:=zz3 (cq.o.b al) (al.h gT.o K (by omega)) (al.h h5.o K (by omega));have kp:l<w8.heap.size:=(EN.1 ek.o).1;have kv:w7.heap.size≤w8.heap.size:=al.1.size;clear al;obtain⟨w9,G⟩:=zzx ((w8.setCell ⟨y,2,U⟩ (I Z nu.1)));have kI:w9.heap.size=w8.heap.size:=by rw[G];simp[World.setCell]
    have k0:y<w9.heap.size:=by omega
    have hh:Hid (ax w P L cap ts nu.2.1 nu.2.2 w9):=by rw[G];exact (hd.o.y K HL.o (by omega) 2 _)
    have hj:Hid (w9.heap[l]?=Y (wq bO 25 (0,0))):=by rw[G];exact ((ER _ _ _ _ (show l≠y by omega)).trans ek.o)
    have hk:Hid (w9.heap[y]?=Y (wq #[I O 4,J nm.1.f,I Z nu.1,I Z a,A U 0 0] 25 (0,0))):=by rw[G];exact (heap_set b8.o 2 _)
    have f2:=ac b8.o 2;obtain⟨n0,n1,n2,n3,n4⟩:=cells5 b8.o;have H9:=Hd G;clear G;go_wp2_with fail
    go_meet
    case rel =>
    rw[←H9.o];clear n0 n1 n2 n3 n4 f2;rw[←ha.o];exact⟨hh.o,hk.o,hj.o⟩
  ·have hR:=hM.o;rw[qv hm]at hR;have af:aQ ts aq [lc]=aq:=by unfold aQ;rw[qv hm]
   rw[af]at cC;have ak:isM ts aq [lc]=false:=by simpa using hm
   rw[ak];have eg:=Hd hR;clear hR af hm ak;go_wp2_with fail
   go_meet
   case rel =>
   rw[←eg.o];exact⟨cC.o,hN.o,e4.o⟩
