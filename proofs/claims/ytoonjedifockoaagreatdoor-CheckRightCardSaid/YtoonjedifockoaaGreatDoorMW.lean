/- Parts of one proof, joined; conditions stand in each theorem. -/
import Derived.Test.YtoonjedifockoaaGreatDoorMV
namespace Go.Proofs.YtoonjedifockoaaGreatDoor
open Go.IntKind(i64)
open Go.Value(int string slice)
set_option maxHeartbeats 2000000
set_option maxRecDepth 100000
open Go.RowKit
theorem OwnAt.mores{w:World}{d:Nat}{a:List ac}{b:Value}{F:Nat→Prop}(h:OwnAt w d a b F):∀n,OwnAt w (d+n) a b F:=by
 intro n
 induction n with
 | zero=>exact h
 | succ n c=>exact c.more
theorem lX{a T2:ac}{s1 s2:Value}{m:Nat}{u:Value}:((aw a s1)[m]?=some u→(aw a s1++aw T2 s2).toArray[0*5+m]?=some u)∧((aw T2 s2)[m]?=some u→(aw a s1++aw T2 s2).toArray[1*5+m]?=some u):=by
 refine⟨fun h=>?_,fun h=>?_⟩
 ·have hm:m<(aw a s1).length:=(EP.1 h).1;rw[List.getElem?_toArray,Nat.zero_mul,Nat.zero_add,Fi hm];exact h
 ·have b:(aw a s1).length=5:=by simp[aw]
  rw[List.getElem?_toArray,EZ (by omega),b];rw[show 1*5+m-5=m by omega];exact h
theorem Dt{W:World}{d1 d2 g:Nat}{f T2:ac}{s1 s2:Value}{l n F:Nat→Prop}(r:OwnAt W d1 f.kids s1 l)(s:OwnAt W d2 T2.kids s2 n)(f1:Fits f)(f2:Fits T2)
  (t:W.heap[g]?=some (.cells (aw f s1++aw T2 s2).toArray 76 (0,0))) (hF:F g) (o:∀b,l b→F b∧b≠g) (p:∀b,n b→F b∧b≠g) (h:∀b,l b→¬n b) :
  OwnAt W (d1+d2+1) [f,T2] (slice (some ⟨g,0,none⟩) 2 2) F:=by
 have v:=r.mores d2;have q:=s.mores d1;rw[Nat.add_comm d2 d1]at q;refine Or.inr ⟨g,2,(aw f s1++aw T2 s2).toArray,fun i b=>(i=0∧l b)∨(i=1∧n b),by simp,hF,EA _,by unfold maxLen;omega,rfl,t,by simp[aw],fun i x c=>?_,fun i b d=>?_,fun i j b w k e=>?_⟩
 ·cases i with
  | zero =>
   simp at c;subst c;exact⟨f1,s1,fun m u hu=>lX.1 hu,v.sub fun b d=>Or.inl ⟨rfl,d⟩⟩
  | succ i =>
   cases i with
   | zero =>
    simp at c;subst c;exact⟨f2,s2,fun m u hu=>lX.2 hu,q.sub fun b d=>Or.inr ⟨rfl,d⟩⟩
   | succ i=>simp at c
 ·rcases d with ⟨_,d⟩|⟨_,d⟩
  ·exact o b d
  ·exact p b d
 ·rcases k with ⟨a,k⟩|⟨a,k⟩
  ·rcases e with ⟨b',e⟩|⟨b',e⟩
   ·omega
   ·exact h b k e
  ·rcases e with ⟨b',e⟩|⟨b',e⟩
   ·exact h b e k
   ·omega
def mX(a:Nat) (b:ac) (s1:Value) (T2:ac) (W:World) (xs:List Value):Prop:=∃(d g N:Nat) (s:Value),xs=[int i64 g]∧W.heap[g]?=some (.cells (aw b s1++aw T2 s).toArray 76 (0,0))∧OwnAt W d T2.kids s (bL a N)∧Fits T2∧a≤N∧N≤g
theorem mX.grown{a Q:Nat}{c T2:ac}{s1:Value}{W W':World}{xs:List Value}(h:mX a c s1 T2 W xs)(q:Q<a)(e:W.grownBy W' (some Q)):mX a c s1 T2 W' xs:=by
 obtain⟨d,g,N,s,f,i,j,k,l,m⟩:=h;exact⟨d,g,N,s,f,bE e i (by omega),j.keep fun b o n p=>bE e p (by have:=n.1;omega),k,l,m⟩
def leftOf(P:Nat) (w:World):Nat:=match w.cell? ⟨P,0,none⟩ with|some (.slice _ m _)=>m|_=>0
theorem PAt.left{w:World}{P L cap:Nat}{ts:List Tok}{k:Nat}{bad:Bool}(h:PAt w P L cap ts k bad):leftOf P w=ts.length-k:=by
 obtain⟨m,c,b,d,a,_⟩:=h.cells;unfold leftOf;rw[a]
 show m=_
 omega
theorem Dj{lvl:Nat}(h:lvl<5){i:Nat}{s:ByteArray}(a:(gX lvl)[i]?=some s):(jE.map string)[lvl*6+i]?=some (.string s):=by
 have b:i<6:=by
  have:=(EP.1 a).1;have e:(gX lvl).length=6:=by
   match lvl,h with
   | 0,_=>rfl
   | 1,_=>rfl
   | 2,_=>rfl
   | 3,_=>rfl
   | 4,_=>rfl
  omega
 match lvl,h,i,b with
 | 0,_,0,_|0,_,1,_|0,_,2,_|0,_,3,_|0,_,4,_|0,_,5,_
 | 1,_,0,_|1,_,1,_|1,_,2,_|1,_,3,_|1,_,4,_|1,_,5,_
 | 2,_,0,_|2,_,1,_|2,_,2,_|2,_,3,_|2,_,4,_|2,_,5,_
 | 3,_,0,_|3,_,1,_|3,_,2,_|3,_,3,_|3,_,4,_|3,_,5,_
 | 4,_,0,_|4,_,1,_|4,_,2,_|4,_,3,_|4,_,4,_|4,_,5,_ =>first|(injection a with a;subst a;rfl)
theorem BL{lvl:Nat}(h:lvl<5):(gX lvl).length=6:=by
 match lvl,h with
 | 0,_=>rfl
 | 1,_=>rfl
 | 2,_=>rfl
 | 3,_=>rfl
 | 4,_=>rfl
theorem v5{w:World}{b lvl:Nat}(a:w.heap[b]?=some (.cells (jE.map string).toArray 245 (0,0)))(h:lvl<5):jV w b (lvl*6) (gX lvl):=
 ⟨(Ez.1 a).1,fun i s c=>by
  rw[Fq _ _ _ _ _ _ a,List.getElem?_toArray]
  exact Dj h c⟩
theorem uY(a:Int)(x:ByteArray)(p:Int)(W:World):(Instr.field 108 (.agg #[int .u8 a,.string x,int i64 p]) 1).run Tryz.prog W=.ok (.string x) W:=by kernel_rfl
theorem jv(a:Int)(x:ByteArray)(p:Int)(W:World):(Instr.field 108 (.agg #[int .u8 a,.string x,int i64 p]) 2).run Tryz.prog W=.ok (int i64 p) W:=by kernel_rfl
def uE(w:World) (P L cap:Nat) (ts:List Tok) (ex:PS→ac×PS) (lvl:Nat) (pl:Int) (R:ac×PS) (e a c f:Nat) (wr:World):Prop:=
 ∃(g:Nat) (T:ac) (σ:PS) (d:Nat) (s:Value),gi ts ex lvl pl g T σ=R∧ts.length-σ.1≤g∧f≤σ.1∧au w P L cap ts σ.1 σ.2 wr∧wr.heap[e]?=some (.cells bM 76 (0,0))∧wr.heap[a]?=some (.cells (jE.map string).toArray 245 (0,0))∧
  wr.heap[c]?=some (.cells (aw T s).toArray 76 (0,0))∧OwnAt wr d T.kids s (fun b=>a<b∧b<wr.heap.size∧b≠c)∧Fits T
theorem DN{ts:List Tok}(cT:co ts){f:Nat}(h1:sS ts (f+1))(hE:uX ts f):uX ts (f+1):=by
 intro lvl σ w P L cap b1 h V;have cV:Ft w (w.alloc (.cells bM 76)):=(EB _ w).alloc (EA _) _;have H0:=Hd (h.turns cV);have hc:=Hd h;have Q:=h.lt.1;have HL:=Hd h.lt.2;have HX:=Hd (n7 w (.cells bM 76));have ca:=Hd cT;have cW:=Hd h1;have cc:=Hd hE;have bl:=Hd V;obtain⟨R,ad⟩:=zzy (exM ts (f+1) lvl σ);rw[ad];have HR:=Hd ad;clear h cV cT h1 hE V ad;have bn:=Hd (wq (w.alloc (.cells bM 76)))
 go_enter Tryz.func173,Tryz.ntmps173
 go_wp2_with fail
 refine EJ bn.o ?_;rintro e w1 ⟨rfl,ch⟩;have c3:=Hd (H0.o.of_below ch);have af:=Hd (aa ch HX.o (by simp));have K:w.heap.size<w1.heap.size:=(Ez.1 af.o).1;clear ch;obtain⟨vs,aq⟩:=zzy (jE.map string);rw[aq];have hlen:vs.length=30:=by rw[←aq];rfl
 have b2:vs.toArray.all (·.oneCell')=true:=by rw[←aq];exact uS
 dsimp only
 iterate 4 (first|go_step|go_back)
 have hN:=n7 w1 (.cells fX 245);have hB:=(EB _ w1).alloc (EA _) (.cells fX 245);change wpList _ _ _ _ _ (w1.alloc (.cells fX 245));generalize w1.alloc (.cells fX 245)=bq at *;refine wpList_store_mid rfl 245 _ _ rfl w1.heap.size 0 vs.toArray rfl rfl (ob hN (by simp[hlen,fX])) (by simp only[List.size_toArray,hlen];kernel_rfl) b2 ?_;have ar:=mN (vs:=vs) hN (by simp[hlen,fX]);have ck:=mb (EA _) vs 0 bq hB;change wpList _ _ _ _ _ (bq.setCells w1.heap.size 0 vs);generalize bq.setCells w1.heap.size 0 vs=w2 at *;rw[←aq]at ar;have c5:=Hd ar;have A:=Hd (c3.o.of_below ck);have F:=Hd (aa ck af.o K);have G:w1.heap.size<w2.heap.size:=(Ez.1 ar).1;have bn:Hid (lvl≤5):=b1;obtain⟨m,c,e1,e2,c0,c1,f0,f1⟩:=A.o.2.cells;clear hN hB ck ar b2 aq hlen e1 e2 c0 f0 f1 bq b1
 cases q:σ.2 with
 | true =>
  rw[q]at c1;have hR:(eY,σ)=R:=by rw[←HR.o];unfold exM;rw[n9 q]
  have b3:=Hd q;obtain⟨a0,a1,a2,a3,a4⟩:=cells5 F.o;have z0:=ab F.o 0;have z1:=ab F.o 1;have z2:=ab F.o 2;have z3:=ab F.o 3;have z4:=ab F.o 4;clear q;go_wp2_with fail
  refine bs Tryz.results173 rfl (aU F.o _ _ _ _ _) rfl ?_;rw[←hR];exact aV.stored (r:=(eY,σ)) Q HL.o A.o (jc _ _) (eK (by omega) (by show (0:Nat)≤16384;omega) (by omega) (by omega)) (EA _) (Nat.lt_trans K G) _ _ _ _ _
 | false =>
  rw[q]at c1;have b3:=Hd q
  by_cases br:lvl=5
  ·subst br;have HO:=Hd (cW.o σ w2 P L cap q A.o.2 (by have:=bl.o;omega));rw[HR.o]at HO;clear q;go_wp2_with fail
   refine EJ HO.o ?_;rintro e w4 ⟨d,s,rfl,M,E,V⟩;obtain⟨p,c,rfl⟩:=E.shape;have hd:=Hd (A.o.trans M);have y0:=M.box F.o Q (EA _);have H:=Hd y0;obtain⟨a0,a1,a2,a3,a4⟩:=cells5 y0;have z0:=ab y0 0;have z1:=ab y0 1;have z2:=ab y0 2;have z3:=ab y0 3;have z4:=ab y0 4;have HO:=Hd E;have HF:=Hd V;clear M y0 E V c1;go_wp2_with fail
   refine bs Tryz.results173 rfl (aU H.o _ _ _ _ _) rfl ?_;exact aV.stored Q HL.o hd.o HO.o HF.o (EA _) (Nat.lt_trans K G) _ _ _ _ _
  have hR:gi ts (exM ts f (lvl+1)) lvl (atM ts σ) ts.length (exM ts f (lvl+1) σ).1 (exM ts f (lvl+1) σ).2=R:=by
   rw[←HR.o]
   conv=>rhs;unfold exM
   rw[n8 (by rw[q];decide),n8 br]
  have cl:lvl<5:=by have:=bn.o;omega
  have b4:((lvl:Int)==5)=false:=by simp;omega
  have Y:=Hd (fo A.o.2);have hZ:=Hd cl;have cq:0≤atM ts σ∧atM ts σ≤16384:=by
   obtain⟨_,_,g3⟩:=cE ca.o σ.1;unfold atM;omega
  obtain⟨at_,b5⟩:=zzy (atM ts σ);rw[b5]at cq hR Y;have c6:=Hd cq;generalize kdM ts σ=kd at Y;generalize txM ts σ=tx at Y;have c7:=Hd hR;clear HR hR cq b5 q br;go_wp2_with fail
  refine EJ Y.o ?_;rintro e w3 ⟨rfl,av⟩;have a6:=Hd (A.o.of_below av);have bt:=Hd (aa av F.o (Nat.lt_trans K G));have a7:=Hd (aa av c5.o G);have hh:w2.heap.size≤w3.heap.size:=av.size;have C:=Hd (cc.o (lvl+1) σ w3 P L cap (by omega) a6.o.2 (by have:=bl.o;omega));rw[Int.natCast_succ]at C;clear av c1;have hi:=jv kd tx at_ w3;go_wp2_with fail
  refine EJ C.o ?_;rintro e w4 ⟨d,s,rfl,M,E,V⟩;clear hi C bn hc H0 HX af c3 b4 b3 m c;obtain⟨p,c,rfl⟩:=E.shape;have C:Hid (∀(σ:PS) (W:World),PAt W P L cap ts σ.1 σ.2→(ts.length-σ.1)*7+(6-(lvl+1))≤f→Calls Tryz.prog 173 #[.pointer (some ⟨P,0,none⟩),int i64 (lvl+1)] W (aV W P L cap ts (exM ts f (lvl+1) σ))):=by
   intro σ W h1 h2;have:=cc.o (lvl+1) σ W P L cap (by omega) h1 h2;rw[Int.natCast_succ]at this;exact this
  have c8:Hid (∀σ,σ.1≤(exM ts f (lvl+1) σ).2.1):=fun σ=>Bd ts f (lvl+1) σ
  have c9:Hid ((ts.length-σ.1)*7+(6-(lvl+1))≤f):=by show _≤_;have:=bl.o;omega
  have hj:Hid (σ.1≤(exM ts f (lvl+1) σ).2.1):=c8.o σ;generalize exM ts f (lvl+1)=ex at *;generalize ex σ=r at *;obtain⟨W0,bB⟩:=zzx (w4.alloc (.cells (aw r.1 (.slice p r.1.kids.length c)).toArray 76));have a8:Ft w4 W0:=by rw[bB];exact (EB _ w4).alloc (EA _) _
  have cr:W0.heap[w4.heap.size]?=some (.cells (aw r.1 (.slice p r.1.kids.length c)).toArray 76 (0,0)):=by rw[bB];exact n7 w4 _
  have hk:w3.heap.size≤w4.heap.size:=M.1.size;have da:=M.box bt.o Q (EA _);have dc:=M.box a7.o Q (Fa K);have Z:Hid (uE w P L cap ts ex lvl at_ R w.heap.size w1.heap.size w4.heap.size σ.1 W0):=by
   refine⟨ts.length,r.1,r.2,d,.slice p r.1.kids.length c,c7.o,Nat.sub_le _ _,hj.o,(a6.o.trans M).of_below a8,aa a8 da (by omega),aa a8 dc (by omega),cr,?_,V⟩;refine (E.below (fun b j=>j.2) a8).sub fun b j=>?_
   have h1:=j.1;have h2:=j.2;have h3:w4.heap.size<W0.heap.size:=(Ez.1 cr).1;exact⟨by omega,by omega,by omega⟩
  have hX:w1.heap.size<w4.heap.size:=by omega
  clear a8 cr da dc M E V hk bl cc c7 bt a7 a6 F c5 A G hh;go_wp2_with fail
  change Code.wp _ _ _ _ (w4.alloc (.cells (aw r.1 (.slice p r.1.kids.length c)).toArray 76));rw[←bB];clear bB
  go_loopw [8] (fun _ wr=>uE w P L cap ts ex lvl at_ R w.heap.size w1.heap.size w4.heap.size σ.1 wr) (fun _ wr=>leftOf P wr)
  case atStart=>exact Z.o
  case round =>
   clear Z W0;obtain⟨g,T,l,d1,s1,ba,hg,dd,hT,dg,ds,ct,E,V⟩:=hrel;obtain⟨p1,c1,rfl⟩:=E.shape;have HT:=Hd hT;have HO:=Hd E;have HF:=Hd V;have hl:=Hd dg;have af:=Hd ds;have bt:=Hd ct;have bb:=Hd ba;have HG:=Hd hg;have dv:=Hd dd;have ec:w4.heap.size<wr.heap.size:=(Ez.1 ct).1;clear hT E V dg ds ct ba hg dd;have h0:(0:Int)≤lvl:=by omega
   have br:(lvl:Int)<5:=by omega
   have eg:∀x:Wb wr,Calls Tryz.prog 100 #[.pointer (some ⟨P,0,none⟩),slice (some ⟨w1.heap.size,lvl*6,none⟩) 6 6] x.1 fun e w'=>e=.returned (.bool (isM ts l (gX lvl)))∧Below x.1.heap.size x.1 w':=fun x =>nB (HT.o.2.below x.2) (fD HT.o.2.k) w1.heap.size (lvl*6) 6 6 (gX lvl) (v5 (aa x.2 af.o (by omega)) cl) (BL cl) (by omega)
   have ek:=Hd eg;have HM:Hid (isM ts l (gX lvl)=isM ts l (gX lvl)):=rfl;obtain⟨b,j⟩:=zzy (isM ts l (gX lvl));rw[j]at ek;have HB:=Hd j;clear eg HM j;go_wp2_with fail
   refine ae (by kernel_rfl) (by kernel_rfl) ?_
   repeat (go_big_quiet_step ((go_at_call 100;exact Calls.below_of (ek.o _))))
   refine wpQuiet_nil ?_;intro W2 hn;obtain⟨⟨_,I⟩,rfl⟩:=hn;have h4:=Hd I;have el:wr.heap.size≤W2.heap.size:=I.size;have A:=Hd (HT.o.of_below I);have H:=Hd (aa I hl.o (by omega));have hp:=Hd (aa I af.o (by omega));have en:=Hd (aa I bt.o ec);have eo:=Hd (HO.o.below (fun b j=>j.2.1) I);clear I
   cases b with
   | false =>
    have ad:(T,l)=R:=by
     rw[←bb.o]
     cases g with
     | zero=>rfl
     | succ g=>unfold gi;rw[n8 (by rw[HB.o];decide)]
    have cv:=Hd ad;obtain⟨a0,a1,a2,a3,a4⟩:=cells5 H.o;have z0:=ab H.o 0;have z1:=ab H.o 1;have z2:=ab H.o 2;have z3:=ab H.o 3;have z4:=ab H.o 4;obtain⟨d0,ak,d2,d3,d4⟩:=cells5 en.o;clear ad;go_wp2_with fail
    refine bs Tryz.results173 rfl (aU H.o _ _ _ _ _) rfl ?_;rw[←cv.o];exact aV.stored (r:=(T,l)) (B:=w1.heap.size) Q HL.o A.o (eo.o.sub (fun b j=>⟨Fa j.1,EF j.2.1 el⟩)) HF.o (EA _) K _ _ _ _ _
   | true =>
    have O:=Hd (fo A.o.2);obtain⟨D,bc⟩:=zzy (txM ts l);rw[bc]at O;have er:=Hd bc;generalize kdM ts l=hq at O;generalize atM ts l=at2 at O;clear bc;go_wp2_with fail
    refine EJ O.o ?_;rintro e X ⟨rfl,bR⟩;have hr:=uY hq D at2 X;have b4:W2.heap.size≤X.heap.size:=bR.size;obtain⟨w6,cx⟩:=zzx (X.alloc (.cells #[int .u8 16,.string D,int i64 0,int i64 at_,slice none 0 0] 76));have et:Ft X w6:=by rw[cx];exact (EB _ X).alloc (EA _) _
    have ev:Hid (w6.heap[X.heap.size]?=some (.cells #[int .u8 16,.string D,int i64 0,int i64 at_,slice none 0 0] 76 (0,0))):=by show _=_;rw[cx];exact n7 X _
    have J:Ft W2 w6:=bR.trans (et.mono bR.size);have h5:X.heap.size<w6.heap.size:=(Ez.1 ev.o).1;have e5:=Hd (A.o.of_below J);have hs:=Hd (aa J H.o (by omega));have ht:=Hd (aa J hp.o (by omega));have hv:=Hd (aa J en.o (by omega));have hx:=Hd (eo.o.below (fun b j=>EF j.2.1 el) J);have hy:=Hd (jB e5.o.2);clear bR et J;go_wp2_with fail
    rw[←cx];refine EJ hy.o ?_;rintro e y ⟨rfl,b6⟩;have S:au w6 P L cap ts (ah ts l).1 (ah ts l).2 y:=b6;have e6:=Hd (e5.o.trans S);have h6:w6.heap.size≤y.heap.size:=S.1.size;have hz:=Hd (S.box hs.o Q (EA _));have hA:=Hd (S.box ht.o Q (Fa K));have e7:=Hd (S.box hv.o Q (by omega));have hC:=Hd (S.box ev.o Q (by omega));have hD:=Hd (hx.o.keep fun b o j E=>bE S.1 E (by have:=j.1;omega));obtain⟨q1,q2,q3⟩:=eI ca.o HT.o.2.k HB.o;have hG:=Hd (C.o (ah ts l) y.drew e6.o.2.drew (by rw[q1];have:=c9.o;have:=dv.o;omega));have cA:=c8.o (ah ts l);rw[q1]at cA;have hI:=Hd cA;have hJ:=Hd (show σ.1≤(ex (ah ts l)).2.1 by have:=dv.o;omega);obtain⟨g',e8,e9⟩:∃g',ts.length-(ex (ah ts l)).2.1≤g'∧(if lvl=2 then (.mk 16 D 0 at_ [T,(ex (ah ts l)).1],(ex (ah ts l)).2) else gi ts ex lvl at_ g' (.mk 16 D 0 at_ [T,(ex (ah ts l)).1]) (ex (ah ts l)).2)=R:=by
     have h1:=bb.o;have h2:=HG.o
     cases g with
     | zero=>omega
     | succ g =>
      refine⟨g,by omega,?_⟩;unfold gi at h1;rw[n9 HB.o,er.o]at h1;exact h1
    have hK:=Hd e8;have fm:=Hd e9;clear e8 e9 cA q1 q2 q3 b6 S;generalize ex (ah ts l)=r2 at *;have fr:Hid (D.size≤16384):=by show _≤_;rw[←er.o];exact (cE ca.o l.1).2.1
    obtain⟨d0,ak,d2,d3,d4⟩:=cells5 e7.o;have bd:w4.heap.size≠P:=by omega
    have C0:=fun x:RE.Gr y P=>x.cell d0 bd
    have C1:=fun x:RE.Gr y P=>x.cell ak bd
    have C2:=fun x:RE.Gr y P=>x.cell d2 bd
    have C3:=fun x:RE.Gr y P=>x.cell d3 bd
    have C4:=fun x:RE.Gr y P=>x.cell d4 bd
    have fs:P<y.heap.size:=by omega
    clear d0 ak d2 d3 d4 hr;go_wp2_with fail
    refine RE.wp_region_eff (by kernel_rfl) 6 [4,5] [4,5] (fun s W=>if s=0 then W=y.drew else au y P L cap ts r2.2.1 r2.2.2 W) (fun W W'=>W.grownBy W' (some P))
     (fun i xs=>if i=4 then .agg #[int .u8 r2.1.kind,.string r2.1.text,int i64 r2.1.num,int i64 r2.1.place,xs.getD 0 undef] else slice (some ⟨RE.natOf xs,0,none⟩) 2 2)
     (fun i W xs=>if i=4 then fh y.heap.size r2.1 W xs else mX y.heap.size T (.slice p1 T.kids.length c1) r2.1 W xs) (by kernel_rfl) (fun i h1 h2=>by rw[h1]at h2;cases h2) ?_ rfl ?_
    ·intro k W W' xs h _ hg
     split at h
     ·rw[n9 (by assumption)];exact h.grown fs hg
     ·rw[n8 (by assumption)];exact h.grown fs hg
    simp only[EK,ET,EL,ES,Fb,List.length_nil,Nat.reduceAdd];have fv:∀(n s:Nat) (W:World),s≤n→(if s=0 then W=y.drew else au y P L cap ts r2.2.1 r2.2.2 W)→∃x:RE.Gr y P,W=x.1:=fun n s W _ h=>by
     split at h
     ·exact⟨⟨W,by rw[h];exact grown_drewN (World.grownBy.refl y _) 1⟩,rfl⟩
     ·exact⟨⟨W,h.1⟩,rfl⟩
    have hL:=Hd fv;clear fv
    repeat (refine RE.wpE_read (fun W=>∃x:RE.Gr y P,W=x.1) (hL.o _) rfl rfl rfl rfl ?_;go_big_quiet_step (fail);refine wpQuiet_nil ?_)
    refine RE.wpE_turn rfl rfl ?_ (fun fz=>?_)
    ·intro W _ hS _;obtain rfl:W=y.drew:=hS rfl;refine RE.upon_call 173 _ _ rfl (enters_of Tryz.func173 (by kernel_rfl) rfl) #[.pointer (some ⟨P,0,none⟩),int i64 (lvl+1)] (by simp[Act.eval]) (hG.o.mono ?_);rintro e W' ⟨d,s,rfl,hT,E,V⟩;exact⟨_,rfl,[s],rfl,hT.of_drew,hT.1,⟨d,s,rfl,E,V⟩⟩
    simp only[Act.put,EC,EI,EH];refine RE.wpE_turn rfl rfl ?_ (fun fI=>?_)
    ·intro W _ hS hM;have hT:au y P L cap ts r2.2.1 r2.2.2 W:=hS rfl;obtain⟨d,s,rfl,E,V⟩:fh y.heap.size r2.1 W fz:=hM 4 fz (by kernel_rfl) rfl;obtain⟨p,c,rfl⟩:=E.shape;refine RE.Upon.told (v:=slice (some ⟨W.heap.size,0,none⟩) 2 2) (w':=W.alloc (.cells (aw T (.slice p1 T.kids.length c1)++aw r2.1 (.slice p r2.1.kids.length c)).toArray 76)) ?_ ⟨[int i64 W.heap.size],rfl,hT.alloc _,?_,?_⟩
     ·unfold RE.Upon
      go_simp
      rfl
     ·exact aH ((EB _ W).alloc (EA _) _) _
     ·refine⟨d,W.heap.size,W.heap.size,_,rfl,n7 W _,?_,V,hT.1.size,EA _⟩;exact E.below (fun b j=>j.2) ((EB _ W).alloc (EA _) _)
    simp only[Act.put,EC,EI,EH];refine RE.wpE_nil ?_;intro W3 hS hE;have U:au y P L cap ts r2.2.1 r2.2.2 W3:=hS;obtain⟨d,gg,N,s2,rfl,cC,fT,gf,h7,ar⟩:=(show mX y.heap.size T (.slice p1 T.kids.length c1) r2.1 W3 fI from hE 5 fI rfl);have gD:gg<W3.heap.size:=(Ez.1 cC).1;have hY:y.heap.size≤W3.heap.size:=U.1.size;have a6:=Hd (e6.o.trans U);have hO:=Hd (U.box hz.o Q (EA _));have hQ:=Hd (U.box hA.o Q (Fa K));have a7:=Hd (U.box e7.o Q (by omega));have hV:=Hd (U.box hC.o Q (by omega));have gE:=hD.o.keep fun b o j E=>bE U.1 E (by have:=j.1;omega)
    have gF:Hid (OwnAt W3 (d1+d+1) [T,r2.1] (slice (some ⟨gg,0,none⟩) 2 2) (fun b=>w1.heap.size<b∧b<W3.heap.size∧b≠w4.heap.size∧b≠X.heap.size)):=by
     refine Dt gE fT HF.o gf cC ⟨by omega,gD,by omega,by omega⟩ (fun b j=>?_) (fun b j=>?_) (fun b j I=>?_)
     ·exact⟨⟨j.1,by have:=j.2.1;omega,j.2.2,by have:=j.2.1;omega⟩,by have:=j.2.1;omega⟩
     ·exact⟨⟨by have:=j.1;omega,by have:=j.2;omega,by have:=j.1;omega,by have:=j.1;omega⟩,by have:=j.2;omega⟩
     ·have:=j.2.1;have:=I.1;omega
    obtain⟨sl,gH⟩:=zzx (slice (some ⟨gg,0,none⟩) 2 2);obtain⟨Wn,an⟩:=zzx (set5 (W3.setCell ⟨X.heap.size,4,none⟩ sl) w4.heap.size (int .u8 16) (.string D) (int i64 0) (int i64 at_) sl);have b7:Wn.heap.size=W3.heap.size:=by rw[an,rG];simp[World.setCell]
    have z:∀b,b≠w4.heap.size→b≠X.heap.size→Wn.heap[b]?=W3.heap[b]?:=fun b h1 h2=>by rw[an,jJ h1];exact ED _ _ _ b h2
    have b0:=Hd (show au w P L cap ts r2.2.1 r2.2.2 Wn by rw[an];exact (a6.o.setCell Q HL.o (by omega) 4 sl).set5 Q HL.o (by omega) _ _ _ _ _);have u:=Hd ((z w.heap.size (by omega) (by omega)).trans hO.o);have gL:=Hd ((z w1.heap.size (by omega) (by omega)).trans hQ.o);have b8:Hid (Wn.heap[w4.heap.size]?=some (.cells (aw (.mk 16 D 0 at_ [T,r2.1]) sl).toArray 76 (0,0))):=by
     show _=_
     rw[an];exact aU ((ED _ _ _ _ (show w4.heap.size≠X.heap.size by omega)).trans a7.o) _ _ _ _ _
    have gM:Hid (OwnAt Wn (d1+d+1) [T,r2.1] sl (fun b=>w1.heap.size<b∧b<Wn.heap.size∧b≠w4.heap.size)):=by
     rw[gH];exact (gF.o.keep fun b o j E=>(z b j.2.2.1 j.2.2.2).trans E).sub fun b j=>⟨j.1,by rw[b7];exact j.2.1,j.2.2.1⟩
    have gN:Fits (.mk 16 D 0 at_ [T,r2.1]):=eK (by omega) fr.o c6.o.1 c6.o.2;have gO:=Hd gN;have bk:leftOf P Wn<leftOf P wr:=by
     rw[b0.o.2.left,HT.o.2.left];have:=hI.o;have:=b0.o.2.k;omega
    have cR:=Hd bk;have y3:=a7.o;have y8:=hV.o;obtain⟨d0,ak,d2,d3,d4⟩:=cells5 y3;have z0:=ab y3 0;have z1:=ab y3 1;have z2:=ab y3 2;have z3:=ab y3 3;have z4:=ab y3 4;obtain⟨e0,e1,e2,e3,e4⟩:=cells5 y8;have x4:=ab y8 4;have hW:(w4.heap.size=X.heap.size)=False:=by simp;omega
    have gS:(X.heap.size=w4.heap.size)=False:=by simp;omega
    clear C0 C1 C2 C3 C4 hE hS U gE fT gf cC y3 y8 z bk gN b7;subst gH;have gT:=Hd an;clear an hW gS;go_upto_region 13 with fail
    change Code.wp _ _ _ _ (set5 (W3.setCell ⟨X.heap.size,4,none⟩ (slice (some ⟨gg,0,none⟩) 2 2)) w4.heap.size (int .u8 16) (.string D) (int i64 0) (int i64 at_) (slice (some ⟨gg,0,none⟩) 2 2));rw[←gT.o];clear gT d0 ak d2 d3 d4 z0 z1 z2 z3 z4 e0 e1 e2 e3 e4 x4
    by_cases G:lvl=2
    ·have hR:=fm.o;rw[n9 G]at hR;have cv:=Hd hR;have ha:((lvl:Int)==2)=true:=by simp;omega
     obtain⟨a0,a1,a2,a3,a4⟩:=cells5 u.o;have z0:=ab u.o 0;have z1:=ab u.o 1;have z2:=ab u.o 2;have z3:=ab u.o 3;have z4:=ab u.o 4;obtain⟨d0,ak,d2,d3,d4⟩:=cells5 b8.o;clear hR G;go_wp2_with fail
     refine bs Tryz.results173 rfl (aU u.o _ _ _ _ _) rfl ?_;rw[←cv.o];exact aV.stored (r:=(.mk 16 D 0 at_ [T,r2.1],r2.2)) (B:=w1.heap.size) Q HL.o b0.o (gM.o.sub (fun b j=>⟨Fa j.1,j.2.1⟩)) gO.o (EA _) K _ _ _ _ _
    ·have hR:=fm.o;rw[n8 G]at hR;have b9:uE w P L cap ts ex lvl at_ R w.heap.size w1.heap.size w4.heap.size σ.1 Wn:=
      ⟨g',_,r2.2,_,_,hR,hK.o,hJ.o,b0.o,u.o,gL.o,b8.o,gM.o,gO.o⟩
     have Z:=Hd b9;have ha:((lvl:Int)==2)=false:=by simp;omega
     clear hR G b9;go_wp2_with fail
     exact⟨Z.o,cR.o⟩
theorem Eg{ts:List Tok}(a:co ts):∀f,sS ts f∧uX ts f:=by
 intro f
 induction f with
 | zero=>exact⟨fun σ w P L cap _ _ d=>by omega,fun lvl σ w P L cap e _ d=>by omega⟩
 | succ f b =>
  have c:=Dq a b.1 b.2;exact⟨c,DN a c b.2⟩
def ed(ts:List Tok) (σ:PS):ac×PS:=exM ts (ts.length*7+6) 0 σ
theorem fk(ts:List Tok)(σ:PS):σ.1≤(ed ts σ).2.1:=Bd ts _ 0 σ
theorem rU{w:World}{P L cap:Nat}{ts:List Tok}(a:co ts){σ:PS}(h:PAt w P L cap ts σ.1 σ.2):Calls Tryz.prog 146 #[.pointer (some ⟨P,0,none⟩)] w (aV w P L cap ts (ed ts σ)):=
 rH (Eg a _).2 σ w P L cap h (by have:(ts.length-σ.1)*7≤ts.length*7:=Nat.mul_le_mul_right _ (Nat.sub_le _ _);omega)
def iL:ByteArray:=⟨#[44]⟩
def em(ts:List Tok) (one:PS→ac×PS):Nat→List ac→PS→List ac×PS
 | 0,a,σ=>(a,σ)
 | g+1,a,σ=>if isM ts σ [iL]=true then em ts one g (a++[(one (ah ts σ)).1]) (one (ah ts σ)).2 else (a,σ)
def ip(ts:List Tok) (one:PS→ac×PS) (σ:PS):List ac×PS:=em ts one ts.length [(one σ).1] (one σ).2
def cb(ts:List Tok) (one:PS→ac×PS) (σ:PS):List ac×PS:=
 if isM ts (aO ts σ eT) [gh]=true then ([],ah ts (aO ts σ eT))
 else ((ip ts one (aO ts σ eT)).1,aO ts (ip ts one (aO ts σ eT)).2 gh)
theorem xQ{ts:List Tok}{one:PS→ac×PS}(b:∀σ,σ.1≤(one σ).2.1):∀(g:Nat) (a:List ac) (σ:PS),σ.1≤(em ts one g a σ).2.1:=by
 intro g
 induction g with
 | zero=>intro a σ;exact EA _
 | succ g c =>
  intro a σ;unfold em
  split
  ·exact EG (EG (eq ts σ).1 (b _)) (c _ _)
  ·exact EA _
theorem qz{ts:List Tok}{one:PS→ac×PS}(a:∀σ,σ.1≤(one σ).2.1)(σ:PS):σ.1≤(ip ts one σ).2.1:=EG (a σ) (xQ a _ _ _)
theorem gq{ts:List Tok}{one:PS→ac×PS}(b:∀σ,σ.1≤(one σ).2.1)(σ:PS):σ.1≤(cb ts one σ).2.1:=by
 unfold cb;have a:=bH ts σ eT
 split
 ·exact EG a (eq ts _).1
 ·exact EG (EG a (qz b _)) (bH ts _ _)
def wX(w:World) (P L cap:Nat) (ts:List Tok) (r:List ac×PS) (e:Ending) (w':World):Prop:=
 ∃(d:Nat) (s:Value),e=.returned s∧au w P L cap ts r.2.1 r.2.2 w'∧OwnAt w' d r.1 s (bL w.heap.size w'.heap.size)
theorem BH(w:World)(l:List Value)(t:TypeId):∀(j:Nat) (u:Value),l[j]?=some u→(w.alloc (.cells l.toArray t)).cell? ((⟨w.heap.size,0,none⟩:Addr).add j)=some u:=by
 intro j u hu;rw[Addr.add_mid,Fq _ _ _ _ _ _ (n7 w _),Nat.zero_add]
 simpa using hu
theorem cn.deeper{W:World}{L d k:Nat}{e:List ac}{own:Option Nat}{rows:List (List Value)}{f:Nat→Nat→Prop}(h:cn W L d e k own rows f)(n:Nat):cn W L (d+n) e k own rows f:=by
 obtain⟨g,j,l,m⟩:=h;exact⟨g,j,fun i T o p=>by obtain⟨a,s,b,c⟩:=l i T o p;exact⟨a,s,b,c.mores n⟩,m⟩
theorem cn.longer{W:World}{L d k:Nat}{a:List ac}{own:Option Nat}{rows:List (List Value)}{b:Nat→Nat→Prop}(h:cn W L d a k own rows b)(n:a.length=k)(l:List ac):cn W L d (a++l) k own rows b:=by
 obtain⟨e,f,g,j⟩:=h;exact⟨e,f,fun i T m c=>g i T m (by rw[Fi (by omega)]at c;exact c),j⟩
theorem cn.nextT{W W':World}{L d k N:Nat}{v:List ac}{own own':Option Nat}{rows:List (List Value)}{x:Nat→Nat→Prop}{t:ac}{s:Value}(h:cn W L d v k own rows x)
  (A:v[k]?=some t) (B:Fits t) (C:OwnAt W' d t.kids s (bL W.heap.size N)) (D:W.heap.size≤N) (P:N≤W'.heap.size) (Q:L≤W.heap.size) (E:W.heap.size≤W'.heap.size)
  (m:∀b,L≤b→b<W.heap.size→own≠some b→W'.heap[b]?=W.heap[b]?) (l:∀b,own'=some b→(own=some b∧b<W.heap.size)∨N≤b) :
  ∃w,cn W' L d v (k+1) own' (rows++[aw t s]) w:=by
 obtain⟨y,F,G,n,H,I⟩:=h;refine⟨fun i b=>if i=k then bL W.heap.size N b else x i b,by simp[y],fun r p=>?_,fun i T R q=>?_,fun i b c=>?_,fun i j b u c f=>?_,fun i b c=>?_⟩
 ·rcases List.mem_append.1 p with p|p
  ·exact F r p
  ·simp at p;subst p;rfl
 ·by_cases a:i=k
  ·subst a;rw[A]at q;injection q with q
   subst q;refine⟨B,s,?_,?_⟩
   ·rw[EZ (by omega),y];simp
   ·simp only[oA];exact C
  ·obtain⟨a1,J,a2,a3⟩:=G i T (by omega) q;refine⟨a1,J,?_,?_⟩
   ·rw[Fi (by omega)];exact a2
   ·simp only[n8 a];exact a3.keep fun b o c K=>(m b (n i b c).1 (n i b c).2.1 (n i b c).2.2).trans K
 ·by_cases a:i=k
  ·simp only[n9 a]at c;obtain⟨z,M⟩:=c;refine⟨by omega,by omega,fun e=>?_⟩;rcases l b e with h|h<;>omega
  ·simp only[n8 a]at c;obtain⟨z,M,O⟩:=n i b c;refine⟨z,by omega,fun e=>?_⟩;rcases l b e with h|h
   ·exact O h.1
   ·omega
 ·by_cases a:i=k
  ·have g:j≠k:=fun e=>u (a.trans e.symm)
   simp only[n9 a]at c;simp only[n8 g]at f;have:=(n j b f).2.1;have:=c.1;omega
  ·simp only[n8 a]at c
   by_cases g:j=k
   ·simp only[n9 g]at f;have:=(n i b c).2.1;have:=f.1;omega
   ·simp only[n8 g]at f;exact H i j b u c f
 ·by_cases a:i=k
  ·omega
  ·simp only[n8 a]at c;have:=I i b c;omega
theorem kz(W:World)(L d:Nat)(a:List ac):cn W L d a 0 none [] (fun _ _=>False):=
 ⟨rfl,fun _ h=>absurd h Ff,fun _ _ b _=>absurd b (Nat.not_lt_zero _),fun _ _ h=>h.elim,fun _ _ _ _ h=>h.elim,fun _ _ h=>h.elim⟩
theorem cn.turn{W W':World}{L d k Q:Nat}{g:List ac}{own:Option Nat}{rows:List (List Value)}{j:Nat→Nat→Prop}(h:cn W L d g k own rows j)(l:W.grownBy W' (some Q))(y:Q<L):cn W' L d g k own rows j:=by
 obtain⟨m,n,p,e,q,r⟩:=h;refine⟨m,n,fun i T t u=>?_,fun i b f=>⟨(e i b f).1,EF (e i b f).2.1 l.size,(e i b f).2.2⟩,q,r⟩;obtain⟨a,s,b,c⟩:=p i T t u;exact⟨a,s,b,c.keep fun x o v w=>bE l w (by have:=(e i x v).1;omega)⟩
theorem cS{w w':World}{b Q:Nat}{e:TypeId}{size n:Nat}{v:Value}{xs:List Value}(h:w.ownsRow b e size v n xs)(a:w.grownBy w' (some Q))(d:Q<b):w'.ownsRow b e size v n xs:=by
 refine h.kept a ?_
 cases c:v.ownBlock with
 | none=>exact .inl rfl
 | some k=>exact .inr (fun e=>by injection e with e;have:=(gy h k c).1;omega)
theorem vD(W:World){L:Nat}(a:L≤W.heap.size)(T:ac)(s:Value):(W.alloc (.cells (aw T s).toArray 76)).ownsRow L 76 5 (slice (some ⟨W.heap.size,0,none⟩) 1 1) 1 (aw T s):=by refine⟨by simp[aw],Or.inr ⟨W.heap.size,1,(aw T s).toArray,rfl,a,n7 W _,EA _,by unfold maxLen;omega,by simp[aw],by simp[aw]⟩⟩
theorem au.grownO{w W W':World}{P L cap:Nat}{ts:List Tok}{k:Nat}{bad:Bool}(h:au w P L cap ts k bad W)(j:P<w.heap.size)(l:L<w.heap.size){row:Option Nat}(a:W.grownBy W' row)(b:∀g,row=some g→w.heap.size≤g):au w P L cap ts k bad W':=by
 have d:∀i,i<w.heap.size→W'.heap[i]?=W.heap[i]?:=fun i c=>a.block i (EF c h.1.size) (fun e=>by have:=b i e.symm;omega)
 exact⟨⟨a.os.trans h.1.os,a.tape.trans h.1.tape,a.output.trans h.1.output,EG h.1.size a.size,fun i c f=>(d i c).trans (h.1.block i c f)⟩,h.2.keep (d P j) (d L l)⟩
def wL(w:World) (P L cap:Nat) (ts:List Tok) (one:PS→ac×PS) (R:List ac×PS) (o:Value) (W:World):Prop:=
 ∃(g:Nat) (a:List ac) (σ:PS) (d:Nat) (rows:List (List Value)) (b:Nat→Nat→Prop),em ts one g a σ=R∧ts.length-σ.1≤g∧a.length≤σ.1+1∧a≠[]∧au w P L cap ts σ.1 σ.2 W∧
  W.ownsRow w.heap.size 76 5 o a.length rows.flatten∧cn W w.heap.size d a a.length o.ownBlock rows b
def iG(ts:List Tok) (g:FuncId) (one:PS→ac×PS):Prop:=∀(σ:PS) (w:World) (P L cap:Nat),PAt w P L cap ts σ.1 σ.2→Calls Tryz.prog g #[.pointer (some ⟨P,0,none⟩)] w (aV w P L cap ts (one σ))
theorem tZ{ts:List Tok}(av:co ts){gf:FuncId}{one:PS→ac×PS}(ch:∀(xs:Array Value)(w:World),(callFunc gf xs).run Tryz.prog w=.ok (.enter gf xs) w)(l:iG ts gf one)(f:∀σ,σ.1≤(one σ).2.1)
  (σ:PS) (w:World) (P L cap:Nat) (h:PAt w P L cap ts σ.1 σ.2):Calls Tryz.prog 103 #[.pointer (some ⟨P,0,none⟩),.func (.func gf) #[.pointer (some ⟨P,0,none⟩)] #[]] w (wX w P L cap ts (ip ts one σ)):=by
 have bn:=Hd av;have a1:=Hd l;have a6:=Hd f;have HC:=Hd (l σ w P L cap h);have hP:=h.lt.1;have hn:=h.n;have bq:=Hd h;obtain⟨R,hR⟩:=zzy (ip ts one σ);rw[hR];have HR:=Hd hR;obtain⟨i0,br,bt,bB,bR⟩:=info_parts pp;clear av l f h hR
 go_enter Tryz.func103,Tryz.ntmps103
 go_wp2_with fail
 refine EJ HC.o ?_;rintro e w1 ⟨d,s,rfl,Q,ho,hf⟩;obtain⟨p,c,rfl⟩:=ho.shape;obtain⟨S,m⟩:=zzx (w1.alloc (.cells (aw (one σ).1 (.slice p (one σ).1.kids.length c)).toArray 76));have G:wL w P L cap ts one R (slice (some ⟨w1.heap.size,0,none⟩) 1 1) S:=by
  have i:Ft w1 S:=by rw[m];exact (EB _ w1).alloc (EA _) _
  have a7:=Q.1.size;have f:=a6.o σ;have b0:=ho.below (fun b i=>i.2) i;have cr:S.heap.size=w1.heap.size+1:=by rw[m];simp
  obtain⟨Fs,hr⟩:=cn.nextT (W':=S) (N:=w1.heap.size) (own':=some w1.heap.size) (t:=(one σ).1) (kz w w.heap.size d [(one σ).1]) rfl hf (b0.sub fun b i=>i) a7 (by omega) (EA _) (by omega)
   (fun b T h2 _=>by omega) (fun b i=>by injection i with i;right;omega)
  refine⟨ts.length,[(one σ).1],(one σ).2,d,_,Fs,HR.o,Nat.sub_le _ _,by simp,by simp,Q.of_below i,?_,hr⟩;rw[m]
  simpa using vD w1 a7 (one σ).1 (.slice p (one σ).1.kids.length c)
 have H:=Hd G;clear G Q ho hf HC HR;generalize one σ=r at *;go_wp2_with fail
 change Code.wp _ _ _ _ (w1.alloc (.cells (aw r.1 (.slice p r.1.kids.length c)).toArray 76));rw[←m];clear m
 go_loopw [5] (fun o wr=>wL w P L cap ts one R o wr) (fun _ wr=>leftOf P wr)
 case atStart=>exact H.o
 case round =>
  clear H S;obtain⟨g,ks,a,d1,rows,Fs,q,hg,hlen,E,hT,I,u⟩:=hrel;have v:=Hd q;have HG:=Hd hg;have J:=Hd hlen;have ct:=Hd E;have HT:=Hd hT;have K:=Hd I;have y:=Hd u;have cv:w.heap.size≤wr.heap.size:=hT.1.size;have U:Ft wr (wr.alloc (.cells #[.string iL] 9)):=(EB _ wr).alloc (EA _) _;have a8:=Hd (dj (hT.2.below U) wr.heap.size 0 1 1 [iL] (bP [iL]) rfl (by omega));have V:=Hd U;obtain⟨b,i⟩:=zzy (isM ts a [iL]);rw[i]at a8;have HB:=Hd i;clear q hg hlen E hT I u U i;go_wp2_with fail
  refine EJ a8.o ?_;rintro e w2 ⟨rfl,F⟩;have z:=Hd ((HT.o.of_below V.o).trans F);have cx:wr.heap.size≤w2.heap.size:=by have:=F.1.size;have:=V.o.size;omega
  have A:=World.grownBy.trans (aH V.o (some P)) F.1;have M:=Hd A;have B:=Hd (cS K.o A hP);clear F A
  cases b with
  | false =>
   have ba:(ks,a)=R:=by
    rw[←v.o]
    cases g with
    | zero=>rfl
    | succ g=>unfold em;rw[n8 (by rw[HB.o];decide)]
   have C:aK ts a [iL]=a:=by unfold aK;rw[n8 (by rw[HB.o];decide)]
   rw[C]at z;have b1:=Hd ba;clear ba C;go_wp2_with fail
   go_ret;rw[←b1.o];exact⟨d1+1,u5,rfl,z.o,qT (d:=d1+1) rfl B.o (y.o.turn M.o hP) (fun h=>by omega)⟩
  | true =>
   obtain⟨q1,q2,q3⟩:=eI bn.o HT.o.2.k HB.o;have C:aK ts a [iL]=ah ts a:=by unfold aK;rw[n9 HB.o]
   rw[C]at z;have b2:=Hd (a1.o (ah ts a) w2 P L cap z.o.2);have f:=a6.o (ah ts a);rw[q1]at f;have b3:=Hd f;obtain⟨g',bb,bc⟩:∃g',ts.length-(one (ah ts a)).2.1≤g'∧em ts one g' (ks++[(one (ah ts a)).1]) (one (ah ts a)).2=R:=by
    have T:=v.o;have h2:=HG.o
    cases g with
    | zero=>omega
    | succ g =>
     refine⟨g,by omega,?_⟩;unfold em at T;rw[n9 HB.o]at T;exact T
   have b4:=Hd bb;have b5:=Hd bc;clear bb bc f C q1 q2;generalize one (ah ts a)=r2 at *;go_wp2_with fail
   refine EJ b2.o ?_;rintro e j ⟨d2,s2,rfl,D,W,bd⟩;obtain⟨p2,c2,rfl⟩:=W.shape;have b6:=Hd (z.o.trans D);have b7:=Hd D.1;have b8:=Hd W;have b9:=Hd bd;have X:=cS B.o D.1 hP;have ca:w2.heap.size≤j.heap.size:=D.1.size;have cA:ks.length+1≤16385:=by have:=J.o;omega
   clear D W bd;go_wp2_with (at_builtin;go_must (refine wpList_append_lies _ rfl (.tmp 14) (.tmp 17) 74 rfl w.heap.size 76 i0 _ 5 64 Tryz.underlying74 br bt bB bR rfl (by decide) u5 ks.length rows.flatten rfl (ownsRow_below X ((EB _ j).alloc (EA _) _)) ⟨j.heap.size,0,none⟩ 1 1 (aw r2.1 (.slice p2 r2.1.kids.length c2)) rfl rfl (by exact BH j (aw r2.1 (.slice p2 r2.1.kids.length c2)) 76) (by simp[Value.oneCell',aw]) (by decide) (by unfold maxLen;omega) (by omega) (by simp;omega) (j.heap.size+1) (by simp) ?_);intro g7 ck w7 Y Z ad cl)
   have af:=gy K.o;obtain⟨w4,ak⟩:=zzx (j.alloc (.cells (aw r2.1 (.slice p2 r2.1.kids.length c2)).toArray 76));have an:w4.grownBy w7 u5.ownBlock:=by rw[ak];exact Z
   have bk:Ft j w4:=by rw[ak];exact (EB _ j).alloc (EA _) _
   have cq:w4.heap.size=j.heap.size+1:=by rw[ak];simp
   have cC:=an.size;have aq:=(b6.o.of_below bk).grownO hP bq.o.lt.2 an (fun x O=>(af x O).1);have bl:∀b,b<j.heap.size→u5.ownBlock≠some b→w7.heap[b]?=j.heap[b]?:=fun b T h2=>(an.block b (by omega) (fun e=>h2 e.symm)).trans (bk.block b T)
   have e2:=b8.o.mores d1;rw[Nat.add_comm d2 d1]at e2;obtain⟨cc,ar⟩:=cn.nextT (W':=w7) (N:=j.heap.size) (own':=some g7) (t:=r2.1) (((y.o.turn M.o hP).deeper d2).longer rfl [r2.1]) (by simp) b9.o
    (e2.keep fun x o O ho=>(bl x O.2 (fun e=>by have:=(af x e).2;have:=O.1;omega)).trans ho) ca (by omega) (by omega) (by omega)
    (fun x T h2 E=>(bl x (by omega) E).trans (b7.o.block x h2 (fun e=>by injection e with e;omega))) (fun x O=>by
     injection O with O
     subst O;rcases ad with h|h
     ·exact Or.inl ⟨h,by have:=(af _ h).2;omega⟩
     ·right;omega)
   have cR:=b3.o;have cT:=aq.2.k;refine⟨⟨g',ks++[r2.1],r2.2,d1+d2,rows++[aw r2.1 (.slice p2 r2.1.kids.length c2)],cc,b5.o,b4.o,?_,by simp,aq,?_,?_⟩,?_⟩
   ·have:=J.o;rw[EO,Fo];omega
   ·rw[List.flatten_append]
    simpa using Y
   ·rw[EO,Fo];exact ar
   ·rw[aq.2.left,HT.o.2.left];omega
theorem my{ts:List Tok}(G:co ts){E:FuncId}{one:PS→ac×PS}(k:∀(xs:Array Value)(w:World),(callFunc E xs).run Tryz.prog w=.ok (.enter E xs) w)(l:iG ts E one)(x:∀σ,σ.1≤(one σ).2.1)
  (σ:PS) (w:World) (P L cap:Nat) (h:PAt w P L cap ts σ.1 σ.2):Calls Tryz.prog 73 #[.pointer (some ⟨P,0,none⟩),.func (.func E) #[.pointer (some ⟨P,0,none⟩)] #[]] w (wX w P L cap ts (cb ts one σ)):=by
 have M:=Hd (cF h eT);have y:=Hd (fun σ w P L cap h=>tZ G k l x σ w P L cap h);have V:=h.lt.1;have W:=Hd h;obtain⟨R,z⟩:=zzy (cb ts one σ);rw[z];unfold cb at z;obtain⟨a,m⟩:=zzy (aO ts σ eT);rw[m]at z M;have N:=Hd z;clear h z m k l x
 go_enter Tryz.func73,Tryz.ntmps73
 go_wp2_with fail
 refine EJ M.o ?_;rintro e w1 ⟨rfl,j⟩;have q:Ft w1 (w1.alloc (.cells #[.string gh] 9)):=(EB _ w1).alloc (EA _) _;have H:=Hd (j.of_below q);have A:=Hd (dj (j.2.below q) w1.heap.size 0 1 1 [gh] (bP [gh]) rfl (by omega));obtain⟨b,n⟩:=zzy (isM ts a [gh]);rw[n]at A;have F:=Hd n;have Q:w.heap.size≤w1.heap.size:=j.1.size;clear j q n;go_wp2_with fail
 refine EJ A.o ?_;rintro e O ⟨rfl,B⟩;have g:=Hd (H.o.trans B);clear B
 cases b with
 | true =>
  have i:aK ts a [gh]=ah ts a:=by unfold aK;rw[n9 F.o]
  have f:=N.o;rw[n9 F.o]at f;rw[i]at g;have t:=Hd f;clear f i;go_wp2_with fail
  go_ret;rw[←t.o];exact⟨0,slice none 0 0,rfl,g.o,jc _ _⟩
 | false =>
  have i:aK ts a [gh]=a:=by unfold aK;rw[n8 (by rw[F.o];decide)]
  have f:=N.o;rw[n8 (by rw[F.o];decide)]at f;rw[i]at g;have t:=Hd f;have S:=Hd (y.o a O P L cap g.o.2);clear f i;generalize ip ts one a=r at *;go_wp2_with fail
  refine EJ S.o ?_;rintro e X ⟨d,s,rfl,u,C⟩;obtain⟨p,c,rfl⟩:=C.shape;have I:=Hd (g.o.trans u);have T:=Hd C;have J:=Hd (cF u.2 gh);have U:w.heap.size≤O.heap.size:=g.o.1.size;clear u C;go_wp2_with fail
  refine EJ J.o ?_;rintro e w4 ⟨rfl,v⟩;have K:=Hd (I.o.trans v);have D:=Hd v.1;clear v;go_wp2_with fail
  go_ret;rw[←t.o];exact⟨d,_,rfl,K.o,(T.o.keep fun b o n C=>bE D.o C (by have:=n.1;omega)).sub fun b n=>⟨by have:=n.1;omega,EF n.2 D.o.size⟩⟩
def ig:ByteArray:=⟨#[116,101,115,116]⟩
def bY:ByteArray:=⟨#[59]⟩
def dk(ts:List Tok) (a:PS→ac×PS) (σ:PS):ac×PS:=
 if isM ts σ [ig]=true then (.mk 7 ⟨#[]⟩ 0 (atM ts σ) [(ed ts (ah ts σ)).1],aO ts (ed ts (ah ts σ)).2 bY)
 else if isM ts σ [eE]=true then (.mk 6 (ofM ts (ah ts σ) 2 6).1.text 0 (atM ts σ) (cb ts a (ofM ts (ah ts σ) 2 6).2).1,aO ts (cb ts a (ofM ts (ah ts σ) 2 6).2).2 bY)
 else (.mk 5 (ofM ts σ 2 5).1.text 0 (atM ts σ) (cb ts a (ofM ts σ 2 5).2).1,aO ts (cb ts a (ofM ts σ 2 5).2).2 bY)
theorem oI{ts:List Tok}{a:PS→ac×PS}(b:∀σ,σ.1≤(a σ).2.1)(σ:PS):σ.1≤(dk ts a σ).2.1:=by
 unfold dk;have c:=(eq ts σ).1
 (repeat' split)
 ·exact EG c (EG (fk ts _) (bH ts _ _))
 ·exact EG c (EG (dM ts _ 2 6) (EG (gq b _) (bH ts _ _)))
 ·exact EG (dM ts _ 2 5) (EG (gq b _) (bH ts _ _))
theorem gw(a:Int)(x:ByteArray)(n p:Int)(l:Nat)(q:Option Addr)(c:Nat)(W:World):(Instr.field 76 (.agg #[int .u8 a,.string x,int i64 n,int i64 p,.slice q l c]) 1).run Tryz.prog W=.ok (.string x) W:=by kernel_rfl
theorem ye{ts:List Tok}(f:co ts):iG ts 74 (fun σ=>ofM ts σ 2 3):=by
 intro σ w P L cap h;have b:Ft w (w.alloc (.cells #[int .u8 0,string ⟨#[]⟩,int i64 0,int i64 0,slice none 0 0] 76)):=(EB _ w).alloc (EA _) _;have m:=Hd (iq f (h.below b) 3 (by omega));have n:=Hd (h.turns b);have k:=h.lt.1;have q:=Hd h.lt.2;have t:=Hd (n7 w (.cells #[int .u8 0,string ⟨#[]⟩,int i64 0,int i64 0,slice none 0 0] 76));clear h b
 show Calls _ _ _ _ (aV w P L cap ts (ofM ts σ 2 3))
 generalize ofM ts σ 2 3=r at *
 go_enter Tryz.func74,Tryz.ntmps74
 go_wp2_with fail
 refine EJ m.o ?_;rintro e w1 ⟨d,s,rfl,g,i,l⟩;obtain⟨p,c,rfl⟩:=i.shape;have a:=g.box t.o k (EA _);have j:=Hd a;obtain⟨a0,a1,a2,a3,a4⟩:=cells5 a;have z0:=ab a 0;have y:=ab a 1;have z2:=ab a 2;have z3:=ab a 3;have z4:=ab a 4;have u:=Hd (n.o.trans g);have v:=Hd i;have x:=Hd l;clear a g i l;go_wp2_with fail
 exact bs Tryz.results74 rfl (aU j.o _ _ _ _ _) rfl (aV.stored k q.o u.o v.o x.o (EA _) (by simp) _ _ _ _ _)
theorem gb.keep{a:Nat}{T:ac}{W W':World}{xs:List Value}(h:gb a T W xs)(c:∀b o,a≤b→W.heap[b]?=some o→W'.heap[b]?=some o):gb a T W' xs:=by
 obtain⟨d,g,N,s,e,f,i,j,k,l⟩:=h;exact⟨d,g,N,s,e,c g _ (by omega) f,i.keep fun b o m n=>c b o m.1 n,j,k,l⟩
theorem Bi{ts:List Tok}(bR:co ts){W:PS→ac×PS}(bB:iG ts 147 W)(cr:∀σ,σ.1≤(W σ).2.1):iG ts 105 (dk ts W):=by
 intro σ w P L cap h;have b0:Ft w (w.alloc (.cells bM 76)):=(EB _ w).alloc (EA _) _;have HC:=Hd (fo (h.below b0));have H0:=Hd (h.turns b0);have m:=h.lt.1;have HL:=Hd h.lt.2;have HX:=Hd (n7 w (.cells bM 76));have N:=Hd bR;have X:=Hd (fun σ w P L cap h=>my bR (enters_of Tryz.func147 (by kernel_rfl) rfl) bB cr σ w P L cap h)
 have v:dk ts W σ=(if isM ts σ [ig]=true then (.mk 7 ⟨#[]⟩ 0 (atM ts σ) [(ed ts (ah ts σ)).1],aO ts (ed ts (ah ts σ)).2 bY)
   else if isM ts σ [eE]=true then (.mk 6 (ofM ts (ah ts σ) 2 6).1.text 0 (atM ts σ) (cb ts W (ofM ts (ah ts σ) 2 6).2).1,aO ts (cb ts W (ofM ts (ah ts σ) 2 6).2).2 bY)
   else (.mk 5 (ofM ts σ 2 5).1.text 0 (atM ts σ) (cb ts W (ofM ts σ 2 5).2).1,aO ts (cb ts W (ofM ts σ 2 5).2).2 bY)):=rfl
 obtain⟨R,b1⟩:=zzy (dk ts W σ);rw[b1];rw[b1]at v;obtain⟨at_,b2⟩:=zzy (atM ts σ);rw[b2]at HC v;have HR:=Hd v;have O:Hid (0≤at_∧at_≤16384):=by
  show _∧_
  obtain⟨_,_,g3⟩:=cE N.o σ.1;rw[←b2];unfold atM;omega
 clear h b0 bR bB cr b1 v b2;generalize kdM ts σ=kd at HC;generalize txM ts σ=tx at HC
 go_enter Tryz.func105,Tryz.ntmps105
 go_wp2_with fail
 refine EJ HC.o ?_;rintro e w1 ⟨rfl,b3⟩;have c3:=jv kd tx at_ w1;have c5:=Hd (H0.o.of_below b3);have ct:=Hd (aa b3 HX.o (by simp));have z:w.heap.size<w1.heap.size:=(Ez.1 ct.o).1;clear b3;obtain⟨wA,I⟩:=zzx (w1.alloc (.cells #[int .u8 7,string ⟨#[]⟩,int i64 0,int i64 at_,slice none 0 0] 76));have cv:wA.heap.size=w1.heap.size+1:=by rw[I];simp
 have cx:Hid (au w P L cap ts σ.1 σ.2 wA):=by rw[I];exact c5.o.alloc _
 have cA:Hid (wA.heap[w1.heap.size]?=some (.cells #[int .u8 7,string ⟨#[]⟩,int i64 0,int i64 at_,slice none 0 0] 76 (0,0))):=by rw[I];exact n7 w1 _
 have cC:Hid (wA.heap[w.heap.size]?=some (.cells bM 76 (0,0))):=by rw[I];exact (Fp w1 _ _ z).trans ct.o
 have J:=Hd (cx.o.alloc (.cells #[.string ig] 9));have Y:=Hd ((Fp wA (.cells #[.string ig] 9) w1.heap.size (by omega)).trans cA.o);have Z:=Hd ((Fp wA (.cells #[.string ig] 9) w.heap.size (by omega)).trans cC.o);have j:=dj J.o.2 wA.heap.size 0 1 1 [ig] (bP [ig]) rfl (by omega);rw[I,World.size_alloc]at j;have ad:=Hd j;clear j;go_wp2_with fail
 refine EJ ad.o ?_;rintro e w2 ⟨rfl,af⟩;rw[←I]at af;have ak:=Hd (J.o.trans af);have cR:=Hd (af.box Z.o m (EA _));have b4:=Hd (af.box Y.o m (Fa z));have c6:w1.heap.size<w2.heap.size:=(Ez.1 b4.o).1;clear af c3 cx cA cC J Y Z I cv ad
 by_cases hm:isM ts σ [ig]=true
 ·have v:=HR.o;rw[n9 hm]at v;have j:aK ts σ [ig]=ah ts σ:=by unfold aK;rw[n9 hm]
  rw[j]at ak;rw[hm];have HE:=Hd (rU N.o ak.o.2);generalize ed ts (ah ts σ)=r at *;have bq:=Hd v;clear v j hm HR;go_wp2_with fail
  refine EJ HE.o ?_;rintro e y ⟨d,s,rfl,an,ho,hf⟩;obtain⟨p,c,rfl⟩:=ho.shape;have A:=Hd (ak.o.trans an);have br:=Hd (an.box cR.o m (EA _));have bt:=Hd (an.box b4.o m (Fa z));have cT:w2.heap.size≤y.heap.size:=an.1.size;obtain⟨w4,aq⟩:=zzx (y.alloc (.cells #[int .u8 r.1.kind,.string r.1.text,int i64 r.1.num,int i64 r.1.place,.slice p r.1.kids.length c] 76));have av:Ft y w4:=by rw[aq];exact (EB _ y).alloc (EA _) _
  have cV:gb w2.heap.size r.1 w4 [int i64 y.heap.size]:=⟨d,y.heap.size,y.heap.size,_,rfl,by rw[aq];exact n7 y _,ho.below (fun b H=>H.2) av,hf,cT,EA _⟩;have C:=aa av br.o (by omega);have g:=aa av bt.o (by omega);have cW:=A.o.of_below av;have f4:=ab g 4;obtain⟨S,T,n2,U,n4⟩:=cells5 g;obtain⟨n,f⟩:=zzx (w4.setCell ⟨w1.heap.size,4,none⟩ (slice (some ⟨y.heap.size,0,none⟩) 1 1));have V:Hid (au w P L cap ts r.2.1 r.2.2 n):=by rw[f];exact cW.setCell m HL.o (by omega) 4 _
  have a6:Hid (n.heap[w.heap.size]?=some (.cells bM 76 (0,0))):=by rw[f];exact (ED _ _ _ _ (show w.heap.size≠w1.heap.size by omega)).trans C
  have a7:Hid (n.heap[w1.heap.size]?=some (.cells #[int .u8 7,string ⟨#[]⟩,int i64 0,int i64 at_,slice (some ⟨y.heap.size,0,none⟩) 1 1] 76 (0,0))):=by rw[f];exact heap_set g 4 _
  have c7:Hid (gb w2.heap.size r.1 n [int i64 y.heap.size]):=by rw[f];exact cV.keep fun b o H hx=>(ED _ _ _ _ (show b≠w1.heap.size by omega)).trans hx
  have HW:=Hd (cF V.o.2 bY);have H4:=Hd aq;have H5:=Hd f;have c0:=Hd g;clear an ho hf av cV C g cW f;rw[aq]at S T n2 U n4 f4;clear aq;go_upto_region 4 with fail
  change Code.wp _ _ _ _ ((y.alloc (.cells #[int .u8 r.1.kind,.string r.1.text,int i64 r.1.num,int i64 r.1.place,.slice p r.1.kids.length c] 76)).setCell ⟨w1.heap.size,4,none⟩ (slice (some ⟨y.heap.size,0,none⟩) 1 1));rw[←H4.o,←H5.o];clear S T n2 U n4 f4 H4 H5 c0;go_wp2_with fail
  refine EJ HW.o ?_;rintro e w6 ⟨rfl,i⟩;have a8:=Hd (V.o.trans i);have t:=i.box a6.o m (EA _);have ba:=Hd t;obtain⟨S,T,n2,U,n4⟩:=cells5 (i.box a7.o m (by omega));obtain⟨d',g',c1,hO⟩:=(c7.o.grown (Q:=P) (by omega) i.1).own;obtain rfl:y.heap.size=g':=by injection c1 with h1;injection h1 with _ h2;omega
  have HO:=Hd hO;obtain⟨a0,a1,a2,a3,a4⟩:=cells5 t;have z0:=ab t 0;have z1:=ab t 1;have z2:=ab t 2;have z3:=ab t 3;have z4:=ab t 4;clear i t c1 hO;go_wp2_with fail
  refine bs Tryz.results105 rfl (aU ba.o _ _ _ _ _) rfl ?_;rw[bq.o];exact aV.stored (r:=(.mk 7 ⟨#[]⟩ 0 at_ [r.1],aO ts r.2 bY)) (B:=w2.heap.size) m HL.o a8.o HO.o (eK (by omega) (by show (0:Nat)≤16384;omega) O.o.1 O.o.2) (EA _) (by omega) _ _ _ _ _
 ·have v:=HR.o;rw[n8 hm]at v;have j:aK ts σ [ig]=σ:=by unfold aK;rw[n8 hm]
  rw[j]at ak;have D:isM ts σ [ig]=false:=by simpa using hm
  rw[D];have bq:=Hd v;have J:=Hd (ak.o.alloc (.cells #[.string eE] 9));have Y:=Hd ((Fp w2 (.cells #[.string eE] 9) w1.heap.size c6).trans b4.o);have Z:=Hd ((Fp w2 (.cells #[.string eE] 9) w.heap.size (by omega)).trans cR.o);have ad:=Hd (dj J.o.2 w2.heap.size 0 1 1 [eE] (bP [eE]) rfl (by omega));clear v j hm D HR;go_wp2_with fail
  refine EJ ad.o ?_;rintro e y ⟨rfl,bb⟩;have A:=Hd (J.o.trans bb);have br:=Hd (bb.box Z.o m (EA _));have bt:=Hd (bb.box Y.o m (Fa z));have cT:w2.heap.size≤y.heap.size:=by have:=bb.1.size;rw[World.size_alloc]at this;omega
  clear bb J Y Z ad
  by_cases hm:isM ts σ [eE]=true
  ·have v:=bq.o;rw[n9 hm]at v;have j:aK ts σ [eE]=ah ts σ:=by unfold aK;rw[n9 hm]
   rw[j]at A;have D:isM ts σ [eE]=true:=by simpa using hm
   rw[D];have b5:=Hd (iq N.o A.o.2 6 (by omega));have E:(ofM ts (ah ts σ) 2 6).1.text.size≤16384:=(cE N.o _).2.1;generalize ofM ts (ah ts σ) 2 6=nm at *;have bc:=Hd E;have b6:=Hd v;clear v j hm D E;go_wp2_with fail
   refine EJ b5.o ?_;rintro e w4 ⟨d,s,rfl,u,ho,hf⟩;obtain⟨p,c,rfl⟩:=ho.shape;have b7:=Hd (A.o.trans u);have C:=u.box br.o m (EA _);have g:=u.box bt.o m (Fa z);have c8:y.heap.size≤w4.heap.size:=u.1.size;obtain⟨n,f⟩:=zzx ((w4.setCell ⟨w1.heap.size,0,none⟩ (int .u8 6)).setCell ⟨w1.heap.size,1,none⟩ (.string nm.1.text));have K:au w P L cap ts nm.2.1 nm.2.2 n:=by rw[f];exact (b7.o.setCell m HL.o (by omega) 0 _).setCell m HL.o (by omega) 1 _
   have bd:n.heap[w.heap.size]?=some (.cells bM 76 (0,0)):=by rw[f];exact (ED _ _ _ _ (show w.heap.size≠w1.heap.size by omega)).trans ((ED _ _ _ _ (show w.heap.size≠w1.heap.size by omega)).trans C)
   have bk:n.heap[w1.heap.size]?=some (.cells #[int .u8 6,.string nm.1.text,int i64 0,int i64 at_,slice none 0 0] 76 (0,0)):=by rw[f];exact heap_set (heap_set g 0 _) 1 _
   have c9:n.heap.size=w4.heap.size:=by rw[f];simp[World.setCell]
   have V:=Hd K;have a6:=Hd bd;have a7:=Hd bk;have b8:=Hd (X.o nm.2 n P L cap K.2);have f0:=ab g 0;have f1:=ab g 1;obtain⟨S,T,n2,U,n4⟩:=cells5 g;have H5:=Hd f;have b9:=gw nm.1.kind nm.1.text nm.1.num nm.1.place nm.1.kids.length p c w4;generalize cb ts W nm.2=l at *;clear u ho hf C g K bd bk f;go_upto_region 9 with fail
   change Code.wp _ _ _ _ ((w4.setCell ⟨w1.heap.size,0,none⟩ (int .u8 6)).setCell ⟨w1.heap.size,1,none⟩ (.string nm.1.text));rw[←H5.o];clear S T n2 U n4 f0 f1 H5 b9;go_wp2_with fail
   refine EJ b8.o ?_;rintro e w6 ⟨d2,s2,rfl,i,M⟩;obtain⟨p2,c2,rfl⟩:=M.shape;have a8:=Hd (V.o.trans i);have bl:=i.box a6.o m (EA _);have x:=i.box a7.o m (Fa z);have da:n.heap.size≤w6.heap.size:=i.1.size;obtain⟨F,k⟩:=zzx (w6.setCell ⟨w1.heap.size,4,none⟩ (.slice p2 l.1.length c2));have ca:F.heap.size=w6.heap.size:=by rw[k];simp[World.setCell]
   have bn:Hid (au w P L cap ts l.2.1 l.2.2 F):=by rw[k];exact a8.o.setCell m HL.o (by omega) 4 _
   have cc:Hid (F.heap[w.heap.size]?=some (.cells bM 76 (0,0))):=by rw[k];exact (ED _ _ _ _ (show w.heap.size≠w1.heap.size by omega)).trans bl
   have ch:Hid (F.heap[w1.heap.size]?=some (.cells #[int .u8 6,.string nm.1.text,int i64 0,int i64 at_,.slice p2 l.1.length c2] 76 (0,0))):=by rw[k];exact heap_set x 4 _
   have ck:Hid (OwnAt F d2 l.1 (.slice p2 l.1.length c2) (bL n.heap.size F.heap.size)):=by rw[ca,k];exact M.keep fun b o H hx=>(ED _ _ _ _ (show b≠w1.heap.size by have:=H.1;omega)).trans hx
   have HW:=Hd (cF bn.o.2 bY);have f4:=ab x 4;obtain⟨S,T,n2,U,n4⟩:=cells5 x;have H7:=Hd k;clear i M bl x k;go_upto_region 10 with fail
   change Code.wp _ _ _ _ (w6.setCell ⟨w1.heap.size,4,none⟩ (.slice p2 l.1.length c2));rw[←H7.o];clear S T n2 U n4 f4 H7;go_wp2_with fail
   refine EJ HW.o ?_;rintro e w8 ⟨rfl,q⟩;have cl:=Hd (bn.o.trans q);have t:=q.box cc.o m (EA _);have ba:=Hd t;obtain⟨S,T,n2,U,n4⟩:=cells5 (q.box ch.o m (by omega));have cq:=Hd ((ck.o.keep fun b o H hx=>bE q.1 hx (by have:=H.1;omega)).sub (G:=bL n.heap.size w8.heap.size) fun b H=>⟨H.1,EF H.2 q.1.size⟩);obtain⟨a0,a1,a2,a3,a4⟩:=cells5 t;have z0:=ab t 0;have z1:=ab t 1;have z2:=ab t 2;have z3:=ab t 3;have z4:=ab t 4;clear q t;go_wp2_with fail
   refine bs Tryz.results105 rfl (aU ba.o _ _ _ _ _) rfl ?_;rw[b6.o];exact aV.stored (r:=(.mk 6 nm.1.text 0 at_ l.1,aO ts l.2 bY)) (B:=n.heap.size) m HL.o cl.o cq.o (eK (by omega) bc.o O.o.1 O.o.2) (EA _) (by omega) _ _ _ _ _
  ·have v:=bq.o;rw[n8 hm]at v;have j:aK ts σ [eE]=σ:=by unfold aK;rw[n8 hm]
   rw[j]at A;have D:isM ts σ [eE]=false:=by simpa using hm
   rw[D];have b5:=Hd (iq N.o A.o.2 5 (by omega));have E:(ofM ts σ 2 5).1.text.size≤16384:=(cE N.o _).2.1;generalize ofM ts σ 2 5=nm at *;have bc:=Hd E;have b6:=Hd v;clear v j hm D E;go_wp2_with fail
   refine EJ b5.o ?_;rintro e w4 ⟨d,s,rfl,u,ho,hf⟩;obtain⟨p,c,rfl⟩:=ho.shape;have b7:=Hd (A.o.trans u);have C:=u.box br.o m (EA _);have g:=u.box bt.o m (Fa z);have c8:y.heap.size≤w4.heap.size:=u.1.size;obtain⟨n,f⟩:=zzx ((w4.setCell ⟨w1.heap.size,0,none⟩ (int .u8 5)).setCell ⟨w1.heap.size,1,none⟩ (.string nm.1.text));have K:au w P L cap ts nm.2.1 nm.2.2 n:=by rw[f];exact (b7.o.setCell m HL.o (by omega) 0 _).setCell m HL.o (by omega) 1 _
   have bd:n.heap[w.heap.size]?=some (.cells bM 76 (0,0)):=by rw[f];exact (ED _ _ _ _ (show w.heap.size≠w1.heap.size by omega)).trans ((ED _ _ _ _ (show w.heap.size≠w1.heap.size by omega)).trans C)
   have bk:n.heap[w1.heap.size]?=some (.cells #[int .u8 5,.string nm.1.text,int i64 0,int i64 at_,slice none 0 0] 76 (0,0)):=by rw[f];exact heap_set (heap_set g 0 _) 1 _
   have c9:n.heap.size=w4.heap.size:=by rw[f];simp[World.setCell]
   have V:=Hd K;have a6:=Hd bd;have a7:=Hd bk;have b8:=Hd (X.o nm.2 n P L cap K.2);have f0:=ab g 0;have f1:=ab g 1;obtain⟨S,T,n2,U,n4⟩:=cells5 g;have H5:=Hd f;have b9:=gw nm.1.kind nm.1.text nm.1.num nm.1.place nm.1.kids.length p c w4;generalize cb ts W nm.2=l at *;clear u ho hf C g K bd bk f;go_upto_region 9 with fail
   change Code.wp _ _ _ _ ((w4.setCell ⟨w1.heap.size,0,none⟩ (int .u8 5)).setCell ⟨w1.heap.size,1,none⟩ (.string nm.1.text));rw[←H5.o];clear S T n2 U n4 f0 f1 H5 b9;go_wp2_with fail
   refine EJ b8.o ?_;rintro e w6 ⟨d2,s2,rfl,i,M⟩;obtain⟨p2,c2,rfl⟩:=M.shape;have a8:=Hd (V.o.trans i);have bl:=i.box a6.o m (EA _);have x:=i.box a7.o m (Fa z);have da:n.heap.size≤w6.heap.size:=i.1.size;obtain⟨F,k⟩:=zzx (w6.setCell ⟨w1.heap.size,4,none⟩ (.slice p2 l.1.length c2));have ca:F.heap.size=w6.heap.size:=by rw[k];simp[World.setCell]
   have bn:Hid (au w P L cap ts l.2.1 l.2.2 F):=by rw[k];exact a8.o.setCell m HL.o (by omega) 4 _
   have cc:Hid (F.heap[w.heap.size]?=some (.cells bM 76 (0,0))):=by rw[k];exact (ED _ _ _ _ (show w.heap.size≠w1.heap.size by omega)).trans bl
   have ch:Hid (F.heap[w1.heap.size]?=some (.cells #[int .u8 5,.string nm.1.text,int i64 0,int i64 at_,.slice p2 l.1.length c2] 76 (0,0))):=by rw[k];exact heap_set x 4 _
   have ck:Hid (OwnAt F d2 l.1 (.slice p2 l.1.length c2) (bL n.heap.size F.heap.size)):=by rw[ca,k];exact M.keep fun b o H hx=>(ED _ _ _ _ (show b≠w1.heap.size by have:=H.1;omega)).trans hx
   have HW:=Hd (cF bn.o.2 bY);have f4:=ab x 4;obtain⟨S,T,n2,U,n4⟩:=cells5 x;have H7:=Hd k;clear i M bl x k;go_upto_region 10 with fail
   change Code.wp _ _ _ _ (w6.setCell ⟨w1.heap.size,4,none⟩ (.slice p2 l.1.length c2));rw[←H7.o];clear S T n2 U n4 f4 H7;go_wp2_with fail
   refine EJ HW.o ?_;rintro e w8 ⟨rfl,q⟩;have cl:=Hd (bn.o.trans q);have t:=q.box cc.o m (EA _);have ba:=Hd t;obtain⟨S,T,n2,U,n4⟩:=cells5 (q.box ch.o m (by omega));have cq:=Hd ((ck.o.keep fun b o H hx=>bE q.1 hx (by have:=H.1;omega)).sub (G:=bL n.heap.size w8.heap.size) fun b H=>⟨H.1,EF H.2 q.1.size⟩);obtain⟨a0,a1,a2,a3,a4⟩:=cells5 t;have z0:=ab t 0;have z1:=ab t 1;have z2:=ab t 2;have z3:=ab t 3;have z4:=ab t 4;clear q t;go_wp2_with fail
   refine bs Tryz.results105 rfl (aU ba.o _ _ _ _ _) rfl ?_;rw[b6.o];exact aV.stored (r:=(.mk 5 nm.1.text 0 at_ l.1,aO ts l.2 bY)) (B:=n.heap.size) m HL.o cl.o cq.o (eK (by omega) bc.o O.o.1 O.o.2) (EA _) (by omega) _ _ _ _ _
def qW(ts:List Tok) (σ:PS):Bool:=kdM ts σ==4&&((number (txM ts σ).data.toList).isSome&&decide ((number (txM ts σ).data.toList).getD 0≤2147483647))
def fq(ts:List Tok) (σ:PS):Nat×PS:=if qW ts σ=true then ((number (txM ts σ).data.toList).getD 0,ah ts σ) else (0,(σ.1,true))
theorem ns(ts:List Tok)(σ:PS):σ.1≤(fq ts σ).2.1:=by
 unfold fq;split
 ·exact (eq ts σ).1
 ·exact EA _
theorem iF(ts:List Tok)(σ:PS):(fq ts σ).1≤2147483647:=by
 unfold fq;split
 ·rename_i h
  unfold qW at h;simp only[EQ,oe]at h;exact h.2.2
 ·exact EM _
theorem kM{ts:List Tok}(q:co ts){w:World}{P L cap:Nat}{σ:PS}(h:PAt w P L cap ts σ.1 σ.2) :
  Calls Tryz.prog 104 #[.pointer (some ⟨P,0,none⟩)] w fun e w'=>e=.returned (int i64 (fq ts σ).1)∧au w P L cap ts (fq ts σ).2.1 (fq ts σ).2.2 w':=by
 have x:=Hd (fo h);have H:=Hd h;have D:=h.lt.1;obtain⟨R,l⟩:=zzy (fq ts σ);rw[l];unfold fq qW at l;have r:(txM ts σ).size≤16384:=(cE q σ.1).2.1;generalize kdM ts σ=kd at *;generalize txM ts σ=tx at *;generalize atM ts σ=at_ at *;have p:=Hd l;clear h l
 go_enter Tryz.func104,Tryz.ntmps104
 go_wp2_with fail
 refine EJ x.o ?_;rintro e w1 ⟨rfl,g⟩;have j:Ft w1 (w1.alloc (.cells #[int .u8 kd,.string tx,int i64 at_] 108)):=(EB _ w1).alloc (EA _) _;have y:=Hd (pQ tx (w1.alloc (.cells #[int .u8 kd,.string tx,int i64 at_] 108)) r);have z:=Hd (n7 w1 (.cells #[int .u8 kd,.string tx,int i64 at_] 108));have A:=Hd (H.o.turns (g.trans (j.mono g.size)));have B:=Hd (show P<w1.heap.size by have:=g.size;omega);clear g j;generalize number tx.data.toList=n at *;go_wp2_with fail
 refine EJ y.o ?_;rintro e E ⟨rfl,i⟩;have b:=Hd (A.o.of_below i);obtain⟨F,G,x2,_,_,_⟩:=cells3 (aa i z.o (by simp));obtain⟨m,c,_,_,C,I,f0,f1⟩:=b.o.2.cells;have f:=Hd (b.o.2.setBad true);have s:=Hd (jB b.o.2);clear i C
 by_cases u:kd=4
 ·subst u
  cases n with
  | none =>
   have a:(0,(σ.1,true))=R:=by rw[←p.o];rfl
   have d:=Hd a;clear a;go_wp2_with fail
   go_ret;rw[←d.o];exact⟨rfl,b.o.trans f.o⟩
  | some n =>
   by_cases J:n≤2147483647
   ·have a:(n,ah ts σ)=R:=by
     rw[←p.o,n9 (by simp;omega)];rfl
    have d:=Hd a;have v:decide ((2147483647:Int)<n)=false:=by simp;omega
    clear a;go_wp2_with fail
    refine EJ s.o ?_;rintro e K ⟨rfl,k⟩;have t:=Hd (b.o.trans k);clear k;go_wp2_with fail
    go_ret;rw[←d.o];exact⟨rfl,t.o⟩
   ·have a:(0,(σ.1,true))=R:=by
     rw[←p.o,n8 (by simp;omega)]
    have d:=Hd a;have v:decide ((2147483647:Int)<n)=true:=by simp;omega
    clear a;go_wp2_with fail
    go_ret;rw[←d.o];exact⟨rfl,b.o.trans f.o⟩
 ·have a:(0,(σ.1,true))=R:=by
   rw[←p.o,n8 (by simp[u])]
  have d:=Hd a;have v:((kd:Int)==4)=false:=by simp;omega
  have M:((kd:Int) != 4)=true:=by simp;omega
  clear a;go_wp2_with fail
  go_ret;rw[←d.o];exact⟨rfl,b.o.trans f.o⟩
