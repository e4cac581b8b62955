/- Parts of one proof, joined; conditions stand in each theorem. -/
import Derived.Test.YtkhfjgjjhlnnnaaGreatDoorYMV
open Go renaming World→wD,Value→wF,Calls→xL,wpQuiet_nil→Bk
open Option renaming some→Y,none→U
open Go.Obj renaming cells→wq
open Go.Value renaming slice→A,int→I,string→J,agg→xS,pointer→xV,func→CF
open Go.IntKind renaming i64→Z,u8→O
open Go.Proofs.Tryz renaming prog→xD
open Go.Code renaming wp→AR
open Go.World renaming setCell→CK
namespace Go.Proofs.YtkhfjgjjhlnnnaaGreatDoor
set_option maxHeartbeats 2000000
set_option maxRecDepth 100000
open Go.RowKit
theorem OwnAt.mores{w:wD}{d:Nat}{a:List ab}{b:wF}{F:Nat→Prop}(h:OwnAt w d a b F):∀n,OwnAt w (d+n) a b F:=by
 intro n
 induction n with
 | zero=>exact h
 | succ n c=>exact c.more
theorem mN{a T2:ab}{s1 s2:wF}{m:Nat}{u:wF}:((ay a s1)[m]?=Y u→(ay a s1++ay T2 s2).toArray[0*5+m]?=Y u)∧((ay T2 s2)[m]?=Y u→(ay a s1++ay T2 s2).toArray[1*5+m]?=Y u):=by
 refine⟨fun h=>?_,fun h=>?_⟩
 ·have hm:m<(ay a s1).length:=(Fe.1 h).1;rw[List.getElem?_toArray,Nat.zero_mul,Nat.zero_add,FB hm];exact h
 ·have b:(ay a s1).length=5:=by simp[ay]
  rw[List.getElem?_toArray,Ft (by omega),b];rw[show 1*5+m-5=m by omega];exact h
theorem D1{W:wD}{d1 d2 g:Nat}{f T2:ab}{s1 s2:wF}{l n F:Nat→Prop}(r:OwnAt W d1 f.u s1 l)(s:OwnAt W d2 T2.u s2 n)(f1:Fits f)(f2:Fits T2)
  (t:W.heap[g]?=Y (wq (ay f s1++ay T2 s2).toArray 25 (0,0))) (hF:F g) (o:∀b,l b→F b∧b≠g) (p:∀b,n b→F b∧b≠g) (h:∀b,l b→¬n b) :
  OwnAt W (d1+d2+1) [f,T2] (A (Y ⟨g,0,U⟩) 2 2) F:=by
 have v:=r.mores d2;have q:=s.mores d1;rw[Nat.add_comm d2 d1]at q;refine Or.inr ⟨g,2,(ay f s1++ay T2 s2).toArray,fun i b=>(i=0∧l b)∨(i=1∧n b),by simp,hF,EO _,by unfold maxLen;omega,V,t,by simp[ay],fun i x c=>?_,fun i b d=>?_,fun i j b w k e=>?_⟩
 ·cases i with
  | zero =>
   simp at c;subst c;exact⟨f1,s1,fun m u hu=>mN.1 hu,v.N fun b d=>Or.inl ⟨V,d⟩⟩
  | succ i =>
   cases i with
   | zero =>
    simp at c;subst c;exact⟨f2,s2,fun m u hu=>mN.2 hu,q.N fun b d=>Or.inr ⟨V,d⟩⟩
   | succ i=>simp at c
 ·rcases d with ⟨_,d⟩|⟨_,d⟩
  ·exact o b d
  ·exact p b d
 ·rcases k with ⟨a,k⟩|⟨a,k⟩
  ·rcases e with ⟨b',e⟩|⟨b',e⟩
   ·omega
   ·exact h b k e
  ·rcases e with ⟨b',e⟩|⟨b',e⟩
   ·exact h b e k
   ·omega
def ob(a:Nat) (b:ab) (s1:wF) (T2:ab) (W:wD) (xs:List wF):Prop:=∃(d g N:Nat) (s:wF),xs=[I Z g]∧W.heap[g]?=Y (wq (ay b s1++ay T2 s).toArray 25 (0,0))∧OwnAt W d T2.u s (bM a N)∧Fits T2∧a≤N∧N≤g
theorem ob.h{a Q:Nat}{c T2:ab}{s1:wF}{W W':wD}{xs:List wF}(h:ob a c s1 T2 W xs)(q:Q<a)(e:W.grownBy W' (Y Q)):ob a c s1 T2 W' xs:=by
 obtain⟨d,g,N,s,f,i,j,k,l,m⟩:=h;exact⟨d,g,N,s,f,bF e i (by omega),j.C fun b o n p=>bF e p (by have:=n.1;omega),k,l,m⟩
def leftOf(P:Nat) (w:wD):Nat:=match w.cell? ⟨P,0,U⟩ with|some (A _ m _)=>m|_=>0
theorem PAt.left{w:wD}{P L cap:Nat}{ts:List Tok}{k:Nat}{bad:Bool}(h:PAt w P L cap ts k bad):leftOf P w=ts.length-k:=by
 obtain⟨m,c,b,d,a,_⟩:=h.u;unfold leftOf;rw[a]
 show m=_
 omega
theorem DJ{lvl:Nat}(h:lvl<5){i:Nat}{s:ByteArray}(a:(iR lvl)[i]?=Y s):(kq.map J)[lvl*6+i]?=Y (J s):=by
 have b:i<6:=by
  have:=(Fe.1 a).1;have e:(iR lvl).length=6:=by
   match lvl,h with
   | 0,_=>rfl
   | 1,_=>rfl
   | 2,_=>rfl
   | 3,_=>rfl
   | 4,_=>rfl
  omega
 match lvl,h,i,b with
 | 0,_,0,_|0,_,1,_|0,_,2,_|0,_,3,_|0,_,4,_|0,_,5,_
 | 1,_,0,_|1,_,1,_|1,_,2,_|1,_,3,_|1,_,4,_|1,_,5,_
 | 2,_,0,_|2,_,1,_|2,_,2,_|2,_,3,_|2,_,4,_|2,_,5,_
 | 3,_,0,_|3,_,1,_|3,_,2,_|3,_,3,_|3,_,4,_|3,_,5,_
 | 4,_,0,_|4,_,1,_|4,_,2,_|4,_,3,_|4,_,4,_|4,_,5,_ =>first|(injection a with a;subst a;rfl)
theorem B5{lvl:Nat}(h:lvl<5):(iR lvl).length=6:=by
 match lvl,h with
 | 0,_=>rfl
 | 1,_=>rfl
 | 2,_=>rfl
 | 3,_=>rfl
 | 4,_=>rfl
theorem wm{w:wD}{b lvl:Nat}(a:w.heap[b]?=Y (wq (kq.map J).toArray 407 (0,0)))(h:lvl<5):kO w b (lvl*6) (iR lvl):=
 ⟨(EN.1 a).1,fun i s c=>by
  rw[FI _ _ _ _ _ _ a,List.getElem?_toArray]
  exact DJ h c⟩
theorem vu(a:Int)(x:ByteArray)(p:Int)(W:wD):(Instr.field 122 (xS #[I O a,J x,I Z p]) 1).run xD W=.ok (J x) W:=by kernel_rfl
theorem j8(a:Int)(x:ByteArray)(p:Int)(W:wD):(Instr.field 122 (xS #[I O a,J x,I Z p]) 2).run xD W=.ok (I Z p) W:=by kernel_rfl
def uS(w:wD) (P L cap:Nat) (ts:List Tok) (ex:PS→ab×PS) (lvl:Nat) (pl:Int) (R:ab×PS) (e a c f:Nat) (wr:wD):Prop:=
 ∃(g:Nat) (T:ab) (σ:PS) (d:Nat) (s:wF),ig ts ex lvl pl g T σ=R∧ts.length-σ.1≤g∧f≤σ.1∧ax w P L cap ts σ.1 σ.2 wr∧wr.heap[e]?=Y (wq bO 25 (0,0))∧wr.heap[a]?=Y (wq (kq.map J).toArray 407 (0,0))∧
  wr.heap[c]?=Y (wq (ay T s).toArray 25 (0,0))∧OwnAt wr d T.u s (fun b=>a<b∧b<wr.heap.size∧b≠c)∧Fits T
theorem Eh{ts:List Tok}(c6:cE ts){f:Nat}(h1:tD ts (f+1))(hE:vp ts f):vp ts (f+1):=by
 intro lvl σ w P L cap b8 h hf;have c7:FK w (w.alloc (wq bO 25)):=(EP _ w).alloc (EO _) _;obtain⟨H0,hc⟩:=zz2 (h.b c7) h;have hP:=h.lt.1;obtain⟨HL,HX,cr,c8,ct,b0⟩:=zz6 h.lt.2 (p9 w (wq bO 25)) c6 h1 hE hf;obtain⟨R,ar⟩:=zzy (exM ts (f+1) lvl σ);rw[ar];have HR:=Hd ar;clear h c7 c6 h1 hE hf ar;have b1:=Hd (wH (w.alloc (wq bO 25)))
 go_enter Tryz.func260,Tryz.ntmps260
 go_wp2_with fail
 refine EX b1.o ?_;rintro e w1 ⟨rfl,cu⟩;obtain⟨c9,av⟩:=zz2 (H0.o.f cu) (aa cu HX.o (by simp));have S:w.heap.size<w1.heap.size:=(EN.1 av.o).1;clear cu;obtain⟨vs,bb⟩:=zzy (kq.map J);rw[bb];have hlen:vs.length=30:=by rw[←bb];rfl
 have b9:vs.toArray.all (·.oneCell')=true:=by rw[←bb];exact vd
 dsimp only
 iterate 4 (first|go_step|go_back)
 have hN:=p9 w1 (wq gX 407);have hB:=(EP _ w1).alloc (EO _) (wq gX 407);change wpList _ _ _ _ _ (w1.alloc (wq gX 407));generalize w1.alloc (wq gX 407)=b2 at *;refine wpList_store_mid V 407 _ _ V w1.heap.size 0 vs.toArray V V (pi hN (by simp[hlen,gX])) (by simp only[List.size_toArray,hlen];kernel_rfl) b9 ?_;have bc:=nH (vs:=vs) hN (by simp[hlen,gX]);have cv:=mV (EO _) vs 0 b2 hB;change wpList _ _ _ _ _ (b2.setCells w1.heap.size 0 vs);generalize b2.setCells w1.heap.size 0 vs=w2 at *;rw[←bb]at bc;obtain⟨da,C,G⟩:=zz3 bc (c9.o.f cv) (aa cv av.o S);have H:w1.heap.size<w2.heap.size:=(EN.1 bc).1;have b1:Hid (lvl≤5):=b8;obtain⟨m,c,e1,e2,c0,c1,f0,f1⟩:=C.o.2.u;clear hN hB cv bc b9 bb hlen e1 e2 c0 f0 f1 b2 b8
 cases q:σ.2 with
 | true =>
  rw[q]at c1;have hR:(fV,σ)=R:=by rw[←HR.o];unfold exM;rw[rv q]
  have ca:=Hd q;obtain⟨a0,a1,a2,a3,a4⟩:=cells5 G.o;have z0:=ac G.o 0;have z1:=ac G.o 1;have z2:=ac G.o 2;have z3:=ac G.o 3;have z4:=ac G.o 4;clear q;go_wp2_with fail
  refine bw Tryz.results260 V (aZ G.o _ _ _ _ _) V ?_;rw[←hR];exact a9.h (r:=(fV,σ)) hP HL.o C.o (jQ _ _) (fu (by omega) (by show (0:Nat)≤16384;omega) (by omega) (by omega)) (EO _) (Nat.lt_trans S H) _ _ _ _ _
 | false =>
  rw[q]at c1;have ca:=Hd q
  by_cases b3:lvl=5
  ·subst b3;have HO:=Hd (c8.o σ w2 P L cap q C.o.2 (by have:=b0.o;omega));rw[HR.o]at HO;clear q;go_wp2_with fail
   refine EX HO.o ?_;rintro e w4 ⟨d,s,rfl,X,F,hf⟩;obtain⟨p,c,rfl⟩:=F.b;have hd:=Hd (C.o.b X);have y0:=X.h G.o hP (EO _);have K:=Hd y0;obtain⟨a0,a1,a2,a3,a4⟩:=cells5 y0;have z0:=ac y0 0;have z1:=ac y0 1;have z2:=ac y0 2;have z3:=ac y0 3;have z4:=ac y0 4;obtain⟨HO,HF⟩:=zz2 F hf;clear X y0 F hf c1;go_wp2_with fail
   refine bw Tryz.results260 V (aZ K.o _ _ _ _ _) V ?_;exact a9.h hP HL.o hd.o HO.o HF.o (EO _) (Nat.lt_trans S H) _ _ _ _ _
  have hR:ig ts (exM ts f (lvl+1)) lvl (atM ts σ) ts.length (exM ts f (lvl+1) σ).1 (exM ts f (lvl+1) σ).2=R:=by
   rw[←HR.o]
   conv=>rhs;unfold exM
   rw[qv (by rw[q];decide),qv b3]
  have cx:lvl<5:=by have:=b1.o;omega
  have cb:((lvl:Int)==5)=false:=by simp;omega
  obtain⟨al,h0⟩:=zz2 (gi C.o.2) cx;have cA:0≤atM ts σ∧atM ts σ≤16384:=by
   obtain⟨_,_,g3⟩:=cK cr.o σ.1;unfold atM;omega
  obtain⟨at_,cc⟩:=zzy (atM ts σ);rw[cc]at cA hR al;have dc:=Hd cA;generalize kdM ts σ=kd at al;generalize txM ts σ=tx at al;have dd:=Hd hR;clear HR hR cA cc q b3;go_wp2_with fail
  refine EX al.o ?_;rintro e w3 ⟨rfl,bd⟩;obtain⟨bk,b4,bl⟩:=zz3 (C.o.f bd) (aa bd G.o (Nat.lt_trans S H)) (aa bd da.o H);have hh:w2.heap.size≤w3.heap.size:=bd.size;have D:=Hd (ct.o (lvl+1) σ w3 P L cap (by omega) bk.o.2 (by have:=b0.o;omega));rw[Int.natCast_succ]at D;clear bd c1;have hi:=j8 kd tx at_ w3;go_wp2_with fail
  refine EX D.o ?_;rintro e w4 ⟨d,s,rfl,X,F,hf⟩;clear hi D b1 hc H0 HX av c9 cb ca m c;obtain⟨p,c,rfl⟩:=F.b;have D:Hid (∀(σ:PS) (W:wD),PAt W P L cap ts σ.1 σ.2→(ts.length-σ.1)*7+(6-(lvl+1))≤f→xL xD 260 #[xV (Y ⟨P,0,U⟩),I Z (lvl+1)] W (a9 W P L cap ts (exM ts f (lvl+1) σ))):=by
   intro σ W h1 h2;have:=ct.o (lvl+1) σ W P L cap (by omega) h1 h2;rw[Int.natCast_succ]at this;exact this
  have dg:Hid (∀σ,σ.1≤(exM ts f (lvl+1) σ).2.1):=fun σ=>Bo ts f (lvl+1) σ
  have dp:Hid ((ts.length-σ.1)*7+(6-(lvl+1))≤f):=by show _≤_;have:=b0.o;omega
  have hj:Hid (σ.1≤(exM ts f (lvl+1) σ).2.1):=dg.o σ;generalize exM ts f (lvl+1)=ex at *;generalize ex σ=r at *;obtain⟨W0,b5⟩:=zzx (w4.alloc (wq (ay r.1 (A p r.1.u.length c)).toArray 25));have bn:FK w4 W0:=by rw[b5];exact (EP _ w4).alloc (EO _) _
  have cC:W0.heap[w4.heap.size]?=Y (wq (ay r.1 (A p r.1.u.length c)).toArray 25 (0,0)):=by rw[b5];exact p9 w4 _
  have hk:w3.heap.size≤w4.heap.size:=X.1.size;have ds:=X.h b4.o hP (EO _);have dv:=X.h bl.o hP (Fu S);have aq:Hid (uS w P L cap ts ex lvl at_ R w.heap.size w1.heap.size w4.heap.size σ.1 W0):=by
   refine⟨ts.length,r.1,r.2,d,A p r.1.u.length c,dd.o,Nat.sub_le _ _,hj.o,(bk.o.b X).f bn,aa bn ds (by omega),aa bn dv (by omega),cC,?_,hf⟩;refine (F.z (fun b j=>j.2) bn).N fun b j=>?_
   have h1:=j.1;have h2:=j.2;have h3:w4.heap.size<W0.heap.size:=(EN.1 cC).1;exact⟨by omega,by omega,by omega⟩
  have hX:w1.heap.size<w4.heap.size:=by omega
  clear bn cC ds dv X F hf hk b0 ct dd b4 bl bk G da C H hh;go_wp2_with fail
  change AR _ _ _ _ (w4.alloc (wq (ay r.1 (A p r.1.u.length c)).toArray 25));rw[←b5];clear b5
  go_loopw [8] (fun _ wr=>uS w P L cap ts ex lvl at_ R w.heap.size w1.heap.size w4.heap.size σ.1 wr) (fun _ wr=>leftOf P wr)
  case atStart=>exact aq.o
  case round =>
   clear aq W0;obtain⟨g,T,l,d1,s1,bq,hg,ea,hT,eb,ec,cR,F,hf⟩:=hrel;obtain⟨p1,c1,rfl⟩:=F.b;obtain⟨HT,HO,HF,hl,av,b4,br⟩:=zz7 hT F hf eb ec cR bq;obtain⟨HG,eg⟩:=zz2 hg ea;have ek:w4.heap.size<wr.heap.size:=(EN.1 cR).1;clear hT F hf eb ec cR bq hg ea;have h4:(0:Int)≤lvl:=by omega
   have b3:(lvl:Int)<5:=by omega
   have el:∀x:Wb wr,xL xD 159 #[xV (Y ⟨P,0,U⟩),A (Y ⟨w1.heap.size,lvl*6,U⟩) 6 6] x.1 fun e w'=>e=Ending.returned (Value.bool (isM ts l (iR lvl)))∧Below x.1.heap.size x.1 w':=fun x =>oM (HT.o.2.z x.2) (gw HT.o.2.k) w1.heap.size (lvl*6) 6 6 (iR lvl) (wm (aa x.2 av.o (by omega)) cx) (B5 cx) (by omega)
   have en:=Hd el;have HM:Hid (isM ts l (iR lvl)=isM ts l (iR lvl)):=rfl;obtain⟨b,j⟩:=zzy (isM ts l (iR lvl));rw[j]at en;have HB:=Hd j;clear el HM j;go_wp2_with fail
   refine au (by kernel_rfl) (by kernel_rfl) ?_
   repeat (go_big_quiet_step ((go_at_call 159;exact Calls.b (en.o _))))
   refine Bk ?_;intro W2 hn;obtain⟨⟨_,M⟩,rfl⟩:=hn;have h5:=Hd M;have eo:wr.heap.size≤W2.heap.size:=M.size;obtain⟨C,K,hp,ep,er⟩:=zz5 (HT.o.f M) (aa M hl.o (by omega)) (aa M av.o (by omega)) (aa M b4.o ek) (HO.o.z (fun b j=>j.2.1) M);clear M
   cases b with
   | false =>
    have ar:(T,l)=R:=by
     rw[←br.o]
     cases g with
     | zero=>rfl
     | succ g=>unfold ig;rw[qv (by rw[HB.o];decide)]
    have cT:=Hd ar;obtain⟨a0,a1,a2,a3,a4⟩:=cells5 K.o;have z0:=ac K.o 0;have z1:=ac K.o 1;have z2:=ac K.o 2;have z3:=ac K.o 3;have z4:=ac K.o 4;obtain⟨d0,a6,d2,d3,d4⟩:=cells5 ep.o;clear ar;go_wp2_with fail
    refine bw Tryz.results260 V (aZ K.o _ _ _ _ _) V ?_;rw[←cT.o];exact a9.h (r:=(T,l)) (B:=w1.heap.size) hP HL.o C.o (er.o.N (fun b j=>⟨Fu j.1,ET j.2.1 eo⟩)) HF.o (EO _) S _ _ _ _ _
   | true =>
    have ad:=Hd (gi C.o.2);obtain⟨E,bt⟩:=zzy (txM ts l);rw[bt]at ad;have et:=Hd bt;generalize kdM ts l=hq at ad;generalize atM ts l=at2 at ad;clear bt;go_wp2_with fail
    refine EX ad.o ?_;rintro e w5 ⟨rfl,b6⟩;have hr:=vu hq E at2 w5;have cb:W2.heap.size≤w5.heap.size:=b6.size;obtain⟨w6,cV⟩:=zzx (w5.alloc (wq #[I O 16,J E,I Z 0,I Z at_,A U 0 0] 25));have ev:FK w5 w6:=by rw[cV];exact (EP _ w5).alloc (EO _) _
    have e5:Hid (w6.heap[w5.heap.size]?=Y (wq #[I O 16,J E,I Z 0,I Z at_,A U 0 0] 25 (0,0))):=by show _=_;rw[cV];exact p9 w5 _
    have Q:FK W2 w6:=b6.trans (ev.mono b6.size);have h6:w5.heap.size<w6.heap.size:=(EN.1 e5.o).1;obtain⟨e6,hs,ht,hv,hx⟩:=zz5 (C.o.f Q) (aa Q K.o (by omega)) (aa Q hp.o (by omega)) (aa Q ep.o (by omega)) (er.o.z (fun b j=>ET j.2.1 eo) Q);have hy:=Hd (ki e6.o.2);clear b6 ev Q;go_wp2_with fail
    rw[←cV];refine EX hy.o ?_;rintro e y ⟨rfl,ch⟩;have af:ax w6 P L cap ts (ag ts l).1 (ag ts l).2 y:=ch;have e7:=Hd (e6.o.b af);have h7:w6.heap.size≤y.heap.size:=af.1.size;obtain⟨hz,hA,e8,hC,hD⟩:=zz5 (af.h hs.o hP (EO _)) (af.h ht.o hP (Fu S)) (af.h hv.o hP (by omega)) (af.h e5.o hP (by omega)) (hx.o.C fun b o j F=>bF af.1 F (by have:=j.1;omega));obtain⟨q1,q2,q3⟩:=fs cr.o HT.o.2.k HB.o;have hG:=Hd (D.o (ag ts l) y.drew e7.o.2.drew (by rw[q1];have:=dp.o;have:=eg.o;omega));have cW:=dg.o (ag ts l);rw[q1]at cW;have hI:=Hd cW;have hJ:=Hd (show σ.1≤(ex (ag ts l)).2.1 by have:=eg.o;omega);obtain⟨g',e9,fe⟩:∃g',ts.length-(ex (ag ts l)).2.1≤g'∧(if lvl=2 then (.mk 16 E 0 at_ [T,(ex (ag ts l)).1],(ex (ag ts l)).2) else ig ts ex lvl at_ g' (.mk 16 E 0 at_ [T,(ex (ag ts l)).1]) (ex (ag ts l)).2)=R:=by
     have h1:=br.o;have h2:=HG.o
     cases g with
     | zero=>omega
     | succ g =>
      refine⟨g,by omega,?_⟩;unfold ig at h1;rw[rv HB.o,et.o]at h1;exact h1
    obtain⟨hK,fm⟩:=zz2 e9 fe;clear e9 fe cW q1 q2 q3 ch af;generalize ex (ag ts l)=r2 at *;have fp:Hid (E.size≤16384):=by show _≤_;rw[←et.o];exact (cK cr.o l.1).2.1
    obtain⟨d0,a6,d2,d3,d4⟩:=cells5 e8.o;have bB:w4.heap.size≠P:=by omega
    have C0:=fun x:RE.Gr y P=>x.b d0 bB
    have C1:=fun x:RE.Gr y P=>x.b a6 bB
    have C2:=fun x:RE.Gr y P=>x.b d2 bB
    have C3:=fun x:RE.Gr y P=>x.b d3 bB
    have C4:=fun x:RE.Gr y P=>x.b d4 bB
    have fv:P<y.heap.size:=by omega
    clear d0 a6 d2 d3 d4 hr;go_wp2_with fail
    refine RE.u (by kernel_rfl) 6 [4,5] [4,5] (fun s W=>if s=0 then W=y.drew else ax y P L cap ts r2.2.1 r2.2.2 W) (fun W W'=>W.grownBy W' (Y P))
     (fun i xs=>if i=4 then xS #[I O r2.1.b,J r2.1.f,I Z r2.1.h,I Z r2.1.y,xs.getD 0 undef] else A (Y ⟨RE.natOf xs,0,U⟩) 2 2)
     (fun i W xs=>if i=4 then f8 y.heap.size r2.1 W xs else ob y.heap.size T (A p1 T.u.length c1) r2.1 W xs) (by kernel_rfl) (fun i h1 h2=>by rw[h1]at h2;cases h2) ?_ V ?_
    ·intro k W W' xs h _ hg
     split at h
     ·rw[rv (by assumption)];exact h.h fv hg
     ·rw[qv (by assumption)];exact h.h fv hg
    simp only[EY,Fi,EZ,Fh,Fv,List.length_nil,Nat.reduceAdd];have fz:∀(n s:Nat) (W:wD),s≤n→(if s=0 then W=y.drew else ax y P L cap ts r2.2.1 r2.2.2 W)→∃x:RE.Gr y P,W=x.1:=fun n s W _ h=>by
     split at h
     ·exact⟨⟨W,by rw[h];exact grown_drewN (r8 y _) 1⟩,V⟩
     ·exact⟨⟨W,h.1⟩,V⟩
    have hL:=Hd fz;clear fz
    repeat (refine RE.b (fun W=>∃x:RE.Gr y P,W=x.1) (hL.o _) V V V V ?_;go_big_quiet_step (fail);refine Bk ?_)
    refine RE.f V V ?_ (fun fI=>?_)
    ·intro W _ hS _;obtain rfl:W=y.drew:=hS V;refine RE.y 260 _ _ V (enters_of Tryz.func260 (by kernel_rfl) V) #[xV (Y ⟨P,0,U⟩),I Z (lvl+1)] (by simp[Act.eval]) (hG.o.mono ?_);rintro e W' ⟨d,s,rfl,hT,F,hf⟩;exact⟨_,V,[s],V,hT.z,hT.1,⟨d,s,V,F,hf⟩⟩
    simp only[Act.put,EQ,EW,EV];refine RE.f V V ?_ (fun fM=>?_)
    ·intro W _ hS hM;have hT:ax y P L cap ts r2.2.1 r2.2.2 W:=hS V;obtain⟨d,s,rfl,F,hf⟩:f8 y.heap.size r2.1 W fI:=hM 4 fI (by kernel_rfl) V;obtain⟨p,c,rfl⟩:=F.b;refine RE.Upon.told (v:=A (Y ⟨W.heap.size,0,U⟩) 2 2) (w':=W.alloc (wq (ay T (A p1 T.u.length c1)++ay r2.1 (A p r2.1.u.length c)).toArray 25)) ?_ ⟨[I Z W.heap.size],V,hT.u _,?_,?_⟩
     ·unfold RE.Upon
      go_simp
      rfl
     ·exact aP ((EP _ W).alloc (EO _) _) _
     ·refine⟨d,W.heap.size,W.heap.size,_,V,p9 W _,?_,hf,hT.1.size,EO _⟩;exact F.z (fun b j=>j.2) ((EP _ W).alloc (EO _) _)
    simp only[Act.put,EQ,EW,EV];refine RE.h ?_;intro W3 hS hE;have ak:ax y P L cap ts r2.2.1 r2.2.2 W3:=hS;obtain⟨d,gg,N,s2,rfl,c3,fT,gf,h8,bc⟩:=(show ob y.heap.size T (A p1 T.u.length c1) r2.1 W3 fM from hE 5 fM V);have gD:gg<W3.heap.size:=(EN.1 c3).1;have hY:y.heap.size≤W3.heap.size:=ak.1.size;obtain⟨bk,hO,hQ,bl,hV⟩:=zz5 (e7.o.b ak) (ak.h hz.o hP (EO _)) (ak.h hA.o hP (Fu S)) (ak.h e8.o hP (by omega)) (ak.h hC.o hP (by omega));have gE:=hD.o.C fun b o j F=>bF ak.1 F (by have:=j.1;omega)
    have gF:Hid (OwnAt W3 (d1+d+1) [T,r2.1] (A (Y ⟨gg,0,U⟩) 2 2) (fun b=>w1.heap.size<b∧b<W3.heap.size∧b≠w4.heap.size∧b≠w5.heap.size)):=by
     refine D1 gE fT HF.o gf c3 ⟨by omega,gD,by omega,by omega⟩ (fun b j=>?_) (fun b j=>?_) (fun b j M=>?_)
     ·exact⟨⟨j.1,by have:=j.2.1;omega,j.2.2,by have:=j.2.1;omega⟩,by have:=j.2.1;omega⟩
     ·exact⟨⟨by have:=j.1;omega,by have:=j.2;omega,by have:=j.1;omega,by have:=j.1;omega⟩,by have:=j.2;omega⟩
     ·have:=j.2.1;have:=M.1;omega
    obtain⟨sl,gH⟩:=zzx (A (Y ⟨gg,0,U⟩) 2 2);obtain⟨Wn,ba⟩:=zzx (set5 (W3.setCell ⟨w5.heap.size,4,U⟩ sl) w4.heap.size (I O 16) (J E) (I Z 0) (I Z at_) sl);have ck:Wn.heap.size=W3.heap.size:=by rw[ba,sG];simp[CK]
    have z:∀b,b≠w4.heap.size→b≠w5.heap.size→Wn.heap[b]?=W3.heap[b]?:=fun b h1 h2=>by rw[ba,ky h1];exact ER _ _ _ b h2
    obtain⟨b7,u,gL⟩:=zz3 (show ax w P L cap ts r2.2.1 r2.2.2 Wn by rw[ba];exact (bk.o.y hP HL.o (by omega) 4 sl).set5 hP HL.o (by omega) _ _ _ _ _) ((z w.heap.size (by omega) (by omega)).trans hO.o) ((z w1.heap.size (by omega) (by omega)).trans hQ.o);have cl:Hid (Wn.heap[w4.heap.size]?=Y (wq (ay (.mk 16 E 0 at_ [T,r2.1]) sl).toArray 25 (0,0))):=by
     show _=_
     rw[ba];exact aZ ((ER _ _ _ _ (show w4.heap.size≠w5.heap.size by omega)).trans bl.o) _ _ _ _ _
    have gM:Hid (OwnAt Wn (d1+d+1) [T,r2.1] sl (fun b=>w1.heap.size<b∧b<Wn.heap.size∧b≠w4.heap.size)):=by
     rw[gH];exact (gF.o.C fun b o j F=>(z b j.2.2.1 j.2.2.2).trans F).N fun b j=>⟨j.1,by rw[ck];exact j.2.1,j.2.2.1⟩
    have gN:Fits (.mk 16 E 0 at_ [T,r2.1]):=fu (by omega) fp.o dc.o.1 dc.o.2;have gO:=Hd gN;have bR:leftOf P Wn<leftOf P wr:=by
     rw[b7.o.2.left,HT.o.2.left];have:=hI.o;have:=b7.o.2.k;omega
    have c5:=Hd bR;have y3:=bl.o;have y8:=hV.o;obtain⟨d0,a6,d2,d3,d4⟩:=cells5 y3;have z0:=ac y3 0;have z1:=ac y3 1;have z2:=ac y3 2;have z3:=ac y3 3;have z4:=ac y3 4;obtain⟨e0,e1,e2,e3,e4⟩:=cells5 y8;have x4:=ac y8 4;have hW:(w4.heap.size=w5.heap.size)=False:=by simp;omega
    have gS:(w5.heap.size=w4.heap.size)=False:=by simp;omega
    clear C0 C1 C2 C3 C4 hE hS ak gE fT gf c3 y3 y8 z bR gN ck;subst gH;have gT:=Hd ba;clear ba hW gS;go_upto_region 13 with fail
    change AR _ _ _ _ (set5 (W3.setCell ⟨w5.heap.size,4,U⟩ (A (Y ⟨gg,0,U⟩) 2 2)) w4.heap.size (I O 16) (J E) (I Z 0) (I Z at_) (A (Y ⟨gg,0,U⟩) 2 2));rw[←gT.o];clear gT d0 a6 d2 d3 d4 z0 z1 z2 z3 z4 e0 e1 e2 e3 e4 x4
    by_cases H:lvl=2
    ·have hR:=fm.o;rw[rv H]at hR;have cT:=Hd hR;have ha:((lvl:Int)==2)=true:=by simp;omega
     obtain⟨a0,a1,a2,a3,a4⟩:=cells5 u.o;have z0:=ac u.o 0;have z1:=ac u.o 1;have z2:=ac u.o 2;have z3:=ac u.o 3;have z4:=ac u.o 4;obtain⟨d0,a6,d2,d3,d4⟩:=cells5 cl.o;clear hR H;go_wp2_with fail
     refine bw Tryz.results260 V (aZ u.o _ _ _ _ _) V ?_;rw[←cT.o];exact a9.h (r:=(.mk 16 E 0 at_ [T,r2.1],r2.2)) (B:=w1.heap.size) hP HL.o b7.o (gM.o.N (fun b j=>⟨Fu j.1,j.2.1⟩)) gO.o (EO _) S _ _ _ _ _
    ·have hR:=fm.o;rw[qv H]at hR;have cq:uS w P L cap ts ex lvl at_ R w.heap.size w1.heap.size w4.heap.size σ.1 Wn:=
      ⟨g',_,r2.2,_,_,hR,hK.o,hJ.o,b7.o,u.o,gL.o,cl.o,gM.o,gO.o⟩
     have aq:=Hd cq;have ha:((lvl:Int)==2)=false:=by simp;omega
     clear hR H cq;go_wp2_with fail
     exact⟨aq.o,c5.o⟩
theorem Ey{ts:List Tok}(a:cE ts):∀f,tD ts f∧vp ts f:=by
 intro f
 induction f with
 | zero=>exact⟨fun σ w P L cap _ _ d=>by omega,fun lvl σ w P L cap e _ d=>by omega⟩
 | succ f b =>
  have c:=DZ a b.1 b.2;exact⟨c,Eh a c b.2⟩
def eH(ts:List Tok) (σ:PS):ab×PS:=exM ts (ts.length*7+6) 0 σ
theorem ge(ts:List Tok)(σ:PS):σ.1≤(eH ts σ).2.1:=Bo ts _ 0 σ
theorem sV{w:wD}{P L cap:Nat}{ts:List Tok}(a:cE ts){σ:PS}(h:PAt w P L cap ts σ.1 σ.2):xL xD 232 #[xV (Y ⟨P,0,U⟩)] w (a9 w P L cap ts (eH ts σ)):=
 sH (Ey a _).2 σ w P L cap h (by have:(ts.length-σ.1)*7≤ts.length*7:=Nat.mul_le_mul_right _ (Nat.sub_le _ _);omega)
def jz:ByteArray:=⟨#[44]⟩
def eO(ts:List Tok) (one:PS→ab×PS):Nat→List ab→PS→List ab×PS
 | 0,a,σ=>(a,σ)
 | g+1,a,σ=>if isM ts σ [jz]=true then eO ts one g (a++[(one (ag ts σ)).1]) (one (ag ts σ)).2 else (a,σ)
def jc(ts:List Tok) (one:PS→ab×PS) (σ:PS):List ab×PS:=eO ts one ts.length [(one σ).1] (one σ).2
def cn(ts:List Tok) (one:PS→ab×PS) (σ:PS):List ab×PS:=
 if isM ts (aT ts σ fF) [ie]=true then ([],ag ts (aT ts σ fF))
 else ((jc ts one (aT ts σ fF)).1,aT ts (jc ts one (aT ts σ fF)).2 ie)
theorem xY{ts:List Tok}{one:PS→ab×PS}(b:∀σ,σ.1≤(one σ).2.1):∀(g:Nat) (a:List ab) (σ:PS),σ.1≤(eO ts one g a σ).2.1:=by
 intro g
 induction g with
 | zero=>intro a σ;exact EO _
 | succ g c =>
  intro a σ;unfold eO
  split
  ·exact EU (EU (eQ ts σ).1 (b _)) (c _ _)
  ·exact EO _
theorem ri{ts:List Tok}{one:PS→ab×PS}(a:∀σ,σ.1≤(one σ).2.1)(σ:PS):σ.1≤(jc ts one σ).2.1:=EU (a σ) (xY a _ _ _)
theorem io{ts:List Tok}{one:PS→ab×PS}(b:∀σ,σ.1≤(one σ).2.1)(σ:PS):σ.1≤(cn ts one σ).2.1:=by
 unfold cn;have a:=bJ ts σ fF
 split
 ·exact EU a (eQ ts _).1
 ·exact EU (EU a (ri b _)) (bJ ts _ _)
def xd(w:wD) (P L cap:Nat) (ts:List Tok) (r:List ab×PS) (e:Ending) (w':wD):Prop:=
 ∃(d:Nat) (s:wF),e=Ending.returned s∧ax w P L cap ts r.2.1 r.2.2 w'∧OwnAt w' d r.1 s (bM w.heap.size w'.heap.size)
theorem BV(w:wD)(l:List wF)(t:TypeId):∀(j:Nat) (u:wF),l[j]?=Y u→(w.alloc (wq l.toArray t)).cell? ((⟨w.heap.size,0,U⟩:Addr).add j)=Y u:=by
 intro j u hu;rw[Addr.add_mid,FI _ _ _ _ _ _ (p9 w _),Nat.zero_add]
 simpa using hu
theorem cD.deeper{W:wD}{L d k:Nat}{e:List ab}{own:Option Nat}{rows:List (List wF)}{f:Nat→Nat→Prop}(h:cD W L d e k own rows f)(n:Nat):cD W L (d+n) e k own rows f:=by
 obtain⟨g,j,l,m⟩:=h;exact⟨g,j,fun i T o p=>by obtain⟨a,s,b,c⟩:=l i T o p;exact⟨a,s,b,c.mores n⟩,m⟩
theorem cD.longer{W:wD}{L d k:Nat}{a:List ab}{own:Option Nat}{rows:List (List wF)}{b:Nat→Nat→Prop}(h:cD W L d a k own rows b)(n:a.length=k)(l:List ab):cD W L d (a++l) k own rows b:=by
 obtain⟨e,f,g,j⟩:=h;exact⟨e,f,fun i T m c=>g i T m (by rw[FB (by omega)]at c;exact c),j⟩
theorem cD.nextT{W W':wD}{L d k N:Nat}{v:List ab}{own own':Option Nat}{rows:List (List wF)}{x:Nat→Nat→Prop}{t:ab}{s:wF}(h:cD W L d v k own rows x)
  (B:v[k]?=Y t) (C:Fits t) (D:OwnAt W' d t.u s (bM W.heap.size N)) (E:W.heap.size≤N) (X:N≤W'.heap.size) (hL:L≤W.heap.size) (F:W.heap.size≤W'.heap.size)
  (m:∀b,L≤b→b<W.heap.size→own≠Y b→W'.heap[b]?=W.heap[b]?) (l:∀b,own'=Y b→(own=Y b∧b<W.heap.size)∨N≤b) :
  ∃w,cD W' L d v (k+1) own' (rows++[ay t s]) w:=by
 obtain⟨y,G,H,n,K,M⟩:=h;refine⟨fun i b=>if i=k then bM W.heap.size N b else x i b,by simp[y],fun r p=>?_,fun i T hi q=>?_,fun i b c=>?_,fun i j b u c f=>?_,fun i b c=>?_⟩
 ·rcases List.mem_append.1 p with p|p
  ·exact G r p
  ·simp at p;subst p;rfl
 ·by_cases a:i=k
  ·subst a;rw[B]at q;injection q with q
   subst q;refine⟨C,s,?_,?_⟩
   ·rw[Ft (by omega),y];simp
   ·simp only[sx];exact D
  ·obtain⟨a1,P,a2,a3⟩:=H i T (by omega) q;refine⟨a1,P,?_,?_⟩
   ·rw[FB (by omega)];exact a2
   ·simp only[qv a];exact a3.C fun b o c Q=>(m b (n i b c).1 (n i b c).2.1 (n i b c).2.2).trans Q
 ·by_cases a:i=k
  ·simp only[rv a]at c;obtain⟨z,R⟩:=c;refine⟨by omega,by omega,fun e=>?_⟩;rcases l b e with h|h<;>omega
  ·simp only[qv a]at c;obtain⟨z,R,S⟩:=n i b c;refine⟨z,by omega,fun e=>?_⟩;rcases l b e with h|h
   ·exact S h.1
   ·omega
 ·by_cases a:i=k
  ·have g:j≠k:=fun e=>u (a.trans e.symm)
   simp only[rv a]at c;simp only[qv g]at f;have:=(n j b f).2.1;have:=c.1;omega
  ·simp only[qv a]at c
   by_cases g:j=k
   ·simp only[rv g]at f;have:=(n i b c).2.1;have:=f.1;omega
   ·simp only[qv g]at f;exact K i j b u c f
 ·by_cases a:i=k
  ·omega
  ·simp only[qv a]at c;have:=M i b c;omega
theorem lr(W:wD)(L d:Nat)(a:List ab):cD W L d a 0 U [] (fun _ _=>False):=
 ⟨V,fun _ h=>absurd h Fy,fun _ _ b _=>absurd b (Nat.not_lt_zero _),fun _ _ h=>h.elim,fun _ _ _ _ h=>h.elim,fun _ _ h=>h.elim⟩
theorem cD.turn{W W':wD}{L d k Q:Nat}{g:List ab}{own:Option Nat}{rows:List (List wF)}{j:Nat→Nat→Prop}(h:cD W L d g k own rows j)(l:W.grownBy W' (Y Q))(y:Q<L):cD W' L d g k own rows j:=by
 obtain⟨m,n,p,e,q,r⟩:=h;refine⟨m,n,fun i T t u=>?_,fun i b f=>⟨(e i b f).1,ET (e i b f).2.1 l.size,(e i b f).2.2⟩,q,r⟩;obtain⟨a,s,b,c⟩:=p i T t u;exact⟨a,s,b,c.C fun x o v w=>bF l w (by have:=(e i x v).1;omega)⟩
theorem dq{w w':wD}{b Q:Nat}{e:TypeId}{size n:Nat}{v:wF}{xs:List wF}(h:w.ownsRow b e size v n xs)(a:w.grownBy w' (Y Q))(d:Q<b):w'.ownsRow b e size v n xs:=by
 refine h.kept a ?_
 cases c:v.ownBlock with
 | none=>exact Or.inl V
 | some k=>exact Or.inr (fun e=>by injection e with e;have:=(eM h k c).1;omega)
theorem vP(W:wD){L:Nat}(a:L≤W.heap.size)(T:ab)(s:wF):(W.alloc (wq (ay T s).toArray 25)).ownsRow L 25 5 (A (Y ⟨W.heap.size,0,U⟩) 1 1) 1 (ay T s):=by refine⟨by simp[ay],Or.inr ⟨W.heap.size,1,(ay T s).toArray,V,a,p9 W _,EO _,by unfold maxLen;omega,by simp[ay],by simp[ay]⟩⟩
theorem ax.grownO{w W W':wD}{P L cap:Nat}{ts:List Tok}{k:Nat}{bad:Bool}(h:ax w P L cap ts k bad W)(j:P<w.heap.size)(l:L<w.heap.size){row:Option Nat}(a:W.grownBy W' row)(b:∀g,row=Y g→w.heap.size≤g):ax w P L cap ts k bad W':=by
 have d:∀i,i<w.heap.size→W'.heap[i]?=W.heap[i]?:=fun i c=>a.block i (ET c h.1.size) (fun e=>by have:=b i e.symm;omega)
 exact⟨⟨a.os.trans h.1.os,a.tape.trans h.1.tape,a.output.trans h.1.output,EU h.1.size a.size,fun i c f=>(d i c).trans (h.1.block i c f)⟩,h.2.C (d P j) (d L l)⟩
def wT(w:wD) (P L cap:Nat) (ts:List Tok) (one:PS→ab×PS) (R:List ab×PS) (o:wF) (W:wD):Prop:=
 ∃(g:Nat) (a:List ab) (σ:PS) (d:Nat) (rows:List (List wF)) (b:Nat→Nat→Prop),eO ts one g a σ=R∧ts.length-σ.1≤g∧a.length≤σ.1+1∧a≠[]∧ax w P L cap ts σ.1 σ.2 W∧
  W.ownsRow w.heap.size 25 5 o a.length rows.flatten∧cD W w.heap.size d a a.length o.ownBlock rows b
def js(ts:List Tok) (g:FuncId) (one:PS→ab×PS):Prop:=∀(σ:PS) (w:wD) (P L cap:Nat),PAt w P L cap ts σ.1 σ.2→xL xD g #[xV (Y ⟨P,0,U⟩)] w (a9 w P L cap ts (one σ))
theorem uz{ts:List Tok}(bd:cE ts){gf:FuncId}{one:PS→ab×PS}(cv:∀(xs:Array wF)(w:wD),(callFunc gf xs).run xD w=.ok (.enter gf xs) w)(l:js ts gf one)(f:∀σ,σ.1≤(one σ).2.1)
  (σ:PS) (w:wD) (P L cap:Nat) (h:PAt w P L cap ts σ.1 σ.2):xL xD 162 #[xV (Y ⟨P,0,U⟩),CF (.func gf) #[xV (Y ⟨P,0,U⟩)] #[]] w (xd w P L cap ts (jc ts one σ)):=by
 obtain⟨b2,bk,bl,HC⟩:=zz4 bd l f (l σ w P L cap h);have hP:=h.lt.1;have hn:=h.n;have b3:=Hd h;obtain⟨R,hR⟩:=zzy (jc ts one σ);rw[hR];have HR:=Hd hR;obtain⟨i0,b4,b5,b6,b7⟩:=info_parts qh;clear bd l f h hR
 go_enter Tryz.func162,Tryz.ntmps162
 go_wp2_with fail
 refine EX HC.o ?_;rintro e w1 ⟨d,s,rfl,X,ho,hf⟩;obtain⟨p,c,rfl⟩:=ho.b;obtain⟨W0,m⟩:=zzx (w1.alloc (wq (ay (one σ).1 (A p (one σ).1.u.length c)).toArray 25));have H:wT w P L cap ts one R (A (Y ⟨w1.heap.size,0,U⟩) 1 1) W0:=by
  have i:FK w1 W0:=by rw[m];exact (EP _ w1).alloc (EO _) _
  have bn:=X.1.size;have f:=bl.o σ;have b8:=ho.z (fun b i=>i.2) i;have cR:W0.heap.size=w1.heap.size+1:=by rw[m];simp
  obtain⟨Fs,hr⟩:=cD.nextT (W':=W0) (N:=w1.heap.size) (own':=Y w1.heap.size) (t:=(one σ).1) (lr w w.heap.size d [(one σ).1]) V hf (b8.N fun b i=>i) bn (by omega) (EO _) (by omega)
   (fun b h1 h2 _=>by omega) (fun b i=>by injection i with i;right;omega)
  refine⟨ts.length,[(one σ).1],(one σ).2,d,_,Fs,HR.o,Nat.sub_le _ _,by simp,by simp,X.f i,?_,hr⟩;rw[m]
  simpa using vP w1 bn (one σ).1 (A p (one σ).1.u.length c)
 have K:=Hd H;clear H X ho hf HC HR;generalize one σ=r at *;go_wp2_with fail
 change AR _ _ _ _ (w1.alloc (wq (ay r.1 (A p r.1.u.length c)).toArray 25));rw[←m];clear m
 go_loopw [5] (fun o wr=>wT w P L cap ts one R o wr) (fun _ wr=>leftOf P wr)
 case atStart=>exact K.o
 case round =>
  clear K W0;obtain⟨g,ks,a,d1,rows,Fs,q,hg,hlen,F,hT,M,u⟩:=hrel;obtain⟨v,HG,Q,cT,HT,S,y⟩:=zz7 q hg hlen F hT M u;have cV:w.heap.size≤wr.heap.size:=hT.1.size;have ad:FK wr (wr.alloc (wq #[J jz] 9)):=(EP _ wr).alloc (EO _) _;obtain⟨bq,af⟩:=zz2 (dy (hT.2.z ad) wr.heap.size 0 1 1 [jz] (bT [jz]) V (by omega)) ad;obtain⟨b,i⟩:=zzy (isM ts a [jz]);rw[i]at bq;have HB:=Hd i;clear q hg hlen F hT M u ad i;go_wp2_with fail
  refine EX bq.o ?_;rintro e w2 ⟨rfl,G⟩;have z:=Hd ((HT.o.f af.o).b G);have cW:wr.heap.size≤w2.heap.size:=by have:=G.1.size;have:=af.o.size;omega
  have B:=sn (aP af.o (Y P)) G.1;obtain⟨T,C⟩:=zz2 B (dq S.o B hP);clear G B
  cases b with
  | false =>
   have br:(ks,a)=R:=by
    rw[←v.o]
    cases g with
    | zero=>rfl
    | succ g=>unfold eO;rw[qv (by rw[HB.o];decide)]
   have D:aQ ts a [jz]=a:=by unfold aQ;rw[qv (by rw[HB.o];decide)]
   rw[D]at z;have b9:=Hd br;clear br D;go_wp2_with fail
   go_ret;rw[←b9.o];exact⟨d1+1,u5,V,z.o,rJ (d:=d1+1) V C.o (y.o.turn T.o hP) (fun h=>by omega)⟩
  | true =>
   obtain⟨q1,q2,q3⟩:=fs b2.o HT.o.2.k HB.o;have D:aQ ts a [jz]=ag ts a:=by unfold aQ;rw[rv HB.o]
   rw[D]at z;have ca:=Hd (bk.o (ag ts a) w2 P L cap z.o.2);have f:=bl.o (ag ts a);rw[q1]at f;have cb:=Hd f;obtain⟨g',bt,bB⟩:∃g',ts.length-(one (ag ts a)).2.1≤g'∧eO ts one g' (ks++[(one (ag ts a)).1]) (one (ag ts a)).2=R:=by
    have h1:=v.o;have h2:=HG.o
    cases g with
    | zero=>omega
    | succ g =>
     refine⟨g,by omega,?_⟩;unfold eO at h1;rw[rv HB.o]at h1;exact h1
   obtain⟨cc,ch⟩:=zz2 bt bB;clear bt bB f D q1 q2;generalize one (ag ts a)=r2 at *;go_wp2_with fail
   refine EX ca.o ?_;rintro e j ⟨d2,s2,rfl,E,ak,bR⟩;obtain⟨p2,c2,rfl⟩:=ak.b;obtain⟨ck,cl,cq,cr⟩:=zz4 (z.o.b E) E.1 ak bR;have al:=dq C.o E.1 hP;have ct:w2.heap.size≤j.heap.size:=E.1.size;have c0:ks.length+1≤16385:=by have:=Q.o;omega
   clear E ak bR;go_wp2_with (at_builtin;go_must (refine wpList_append_lies _ V (.tmp 14) (.tmp 17) 23 V w.heap.size 25 i0 _ 5 64 Tryz.underlying23 b4 b5 b6 b7 V (by decide) u5 ks.length rows.flatten V (ownsRow_below al ((EP _ j).alloc (EO _) _)) ⟨j.heap.size,0,U⟩ 1 1 (ay r2.1 (A p2 r2.1.u.length c2)) V V (by exact BV j (ay r2.1 (A p2 r2.1.u.length c2)) 25) (by simp[Value.oneCell',ay]) (by decide) (by unfold maxLen;omega) (by omega) (by simp;omega) (j.heap.size+1) (by simp) ?_);intro g7 cx w7 aq ar av cA)
   have a1:=eM S.o;obtain⟨w4,a6⟩:=zzx (j.alloc (wq (ay r2.1 (A p2 r2.1.u.length c2)).toArray 25));have ba:w4.grownBy w7 u5.ownBlock:=by rw[a6];exact ar
   have b0:FK j w4:=by rw[a6];exact (EP _ j).alloc (EO _) _
   have cC:w4.heap.size=j.heap.size+1:=by rw[a6];simp
   have c1:=ba.size;have bb:=(ck.o.f b0).grownO hP b3.o.lt.2 ba (fun x W=>(a1 x W).1);have b1:∀b,b<j.heap.size→u5.ownBlock≠Y b→w7.heap[b]?=j.heap[b]?:=fun b h1 h2=>(ba.block b (by omega) (fun e=>h2 e.symm)).trans (b0.block b h1)
   have e2:=cq.o.mores d1;rw[Nat.add_comm d2 d1]at e2;obtain⟨cu,bc⟩:=cD.nextT (W':=w7) (N:=j.heap.size) (own':=Y g7) (t:=r2.1) (((y.o.turn T.o hP).deeper d2).longer V [r2.1]) (by simp) cr.o
    (e2.C fun x o W ho=>(b1 x W.2 (fun e=>by have:=(a1 x e).2;have:=W.1;omega)).trans ho) ct (by omega) (by omega) (by omega)
    (fun x h1 h2 F=>(b1 x (by omega) F).trans (cl.o.block x h2 (fun e=>by injection e with e;omega))) (fun x W=>by
     injection W with W
     subst W;rcases av with h|h
     ·exact Or.inl ⟨h,by have:=(a1 _ h).2;omega⟩
     ·right;omega)
   have c3:=cb.o;have c5:=bb.2.k;refine⟨⟨g',ks++[r2.1],r2.2,d1+d2,rows++[ay r2.1 (A p2 r2.1.u.length c2)],cu,ch.o,cc.o,?_,by simp,bb,?_,?_⟩,?_⟩
   ·have:=Q.o;rw[Fc,FG];omega
   ·rw[List.flatten_append]
    simpa using aq
   ·rw[Fc,FG];exact bc
   ·rw[bb.2.left,HT.o.2.left];omega
theorem ns{ts:List Tok}(H:cE ts){F:FuncId}{one:PS→ab×PS}(k:∀(xs:Array wF)(w:wD),(callFunc F xs).run xD w=.ok (.enter F xs) w)(l:js ts F one)(x:∀σ,σ.1≤(one σ).2.1)
  (σ:PS) (w:wD) (P L cap:Nat) (h:PAt w P L cap ts σ.1 σ.2):xL xD 90 #[xV (Y ⟨P,0,U⟩),CF (.func F) #[xV (Y ⟨P,0,U⟩)] #[]] w (xd w P L cap ts (cn ts one σ)):=by
 have S:=Hd (cM h fF);have y:=Hd (fun σ w P L cap h=>uz H k l x σ w P L cap h);have hP:=h.lt.1;have HP:=Hd h;obtain⟨R,z⟩:=zzy (cn ts one σ);rw[z];unfold cn at z;obtain⟨a,m⟩:=zzy (aT ts σ fF);rw[m]at z S;have T:=Hd z;clear h z m k l x
 go_enter Tryz.func90,Tryz.ntmps90
 go_wp2_with fail
 refine EX S.o ?_;rintro e w1 ⟨rfl,j⟩;have q:FK w1 (w1.alloc (wq #[J ie] 9)):=(EP _ w1).alloc (EO _) _;obtain⟨K,B⟩:=zz2 (j.f q) (dy (j.2.z q) w1.heap.size 0 1 1 [ie] (bT [ie]) V (by omega));obtain⟨b,n⟩:=zzy (isM ts a [ie]);rw[n]at B;have G:=Hd n;have X:w.heap.size≤w1.heap.size:=j.1.size;clear j q n;go_wp2_with fail
 refine EX B.o ?_;rintro e W ⟨rfl,C⟩;have g:=Hd (K.o.b C);clear C
 cases b with
 | true =>
  have i:aQ ts a [ie]=ag ts a:=by unfold aQ;rw[rv G.o]
  have f:=T.o;rw[rv G.o]at f;rw[i]at g;have t:=Hd f;clear f i;go_wp2_with fail
  go_ret;rw[←t.o];exact⟨0,A U 0 0,V,g.o,jQ _ _⟩
 | false =>
  have i:aQ ts a [ie]=a:=by unfold aQ;rw[qv (by rw[G.o];decide)]
  have f:=T.o;rw[qv (by rw[G.o];decide)]at f;rw[i]at g;have t:=Hd f;have HC:=Hd (y.o a W P L cap g.o.2);clear f i;generalize jc ts one a=r at *;go_wp2_with fail
  refine EX HC.o ?_;rintro e w3 ⟨d,s,rfl,u,D⟩;obtain⟨p,c,rfl⟩:=D.b;obtain⟨M,HO,N⟩:=zz3 (g.o.b u) D (cM u.2 ie);have ad:w.heap.size≤W.heap.size:=g.o.1.size;clear u D;go_wp2_with fail
  refine EX N.o ?_;rintro e w4 ⟨rfl,v⟩;obtain⟨Q,E⟩:=zz2 (M.o.b v) v.1;clear v;go_wp2_with fail
  go_ret;rw[←t.o];exact⟨d,_,V,Q.o,(HO.o.C fun b o n D=>bF E.o D (by have:=n.1;omega)).N fun b n=>⟨by have:=n.1;omega,ET n.2 E.o.size⟩⟩
def i3:ByteArray:=⟨#[116,101,115,116]⟩
def ci:ByteArray:=⟨#[59]⟩
def dz(ts:List Tok) (a:PS→ab×PS) (σ:PS):ab×PS:=
 if isM ts σ [i3]=true then (.mk 7 ⟨#[]⟩ 0 (atM ts σ) [(eH ts (ag ts σ)).1],aT ts (eH ts (ag ts σ)).2 ci)
 else if isM ts σ [fh]=true then (.mk 6 (ofM ts (ag ts σ) 2 6).1.f 0 (atM ts σ) (cn ts a (ofM ts (ag ts σ) 2 6).2).1,aT ts (cn ts a (ofM ts (ag ts σ) 2 6).2).2 ci)
 else (.mk 5 (ofM ts σ 2 5).1.f 0 (atM ts σ) (cn ts a (ofM ts σ 2 5).2).1,aT ts (cn ts a (ofM ts σ 2 5).2).2 ci)
theorem pK{ts:List Tok}{a:PS→ab×PS}(b:∀σ,σ.1≤(a σ).2.1)(σ:PS):σ.1≤(dz ts a σ).2.1:=by
 unfold dz;have c:=(eQ ts σ).1
 (repeat' split)
 ·exact EU c (EU (ge ts _) (bJ ts _ _))
 ·exact EU c (EU (ed ts _ 2 6) (EU (io b _) (bJ ts _ _)))
 ·exact EU (ed ts _ 2 5) (EU (io b _) (bJ ts _ _))
theorem iu(a:Int)(x:ByteArray)(n p:Int)(l:Nat)(q:Option Addr)(c:Nat)(W:wD):(Instr.field 25 (xS #[I O a,J x,I Z n,I Z p,A q l c]) 1).run xD W=.ok (J x) W:=by kernel_rfl
theorem yg{ts:List Tok}(f:cE ts):js ts 91 (fun σ=>ofM ts σ 2 3):=by
 intro σ w P L cap h;have b:FK w (w.alloc (wq #[I O 0,J ⟨#[]⟩,I Z 0,I Z 0,A U 0 0] 25)):=(EP _ w).alloc (EO _) _;obtain⟨m,n⟩:=zz2 (jh f (h.z b) 3 (by omega)) (h.b b);have k:=h.lt.1;have q:=Hd h.lt.2;have t:=Hd (p9 w (wq #[I O 0,J ⟨#[]⟩,I Z 0,I Z 0,A U 0 0] 25));clear h b
 show xL _ _ _ _ (a9 w P L cap ts (ofM ts σ 2 3))
 generalize ofM ts σ 2 3=r at *
 go_enter Tryz.func91,Tryz.ntmps91
 go_wp2_with fail
 refine EX m.o ?_;rintro e w1 ⟨d,s,rfl,g,i,l⟩;obtain⟨p,c,rfl⟩:=i.b;have a:=g.h t.o k (EO _);have j:=Hd a;obtain⟨a0,a1,a2,a3,a4⟩:=cells5 a;have z0:=ac a 0;have y:=ac a 1;have z2:=ac a 2;have z3:=ac a 3;have z4:=ac a 4;obtain⟨u,v,x⟩:=zz3 (n.o.b g) i l;clear a g i l;go_wp2_with fail
 exact bw Tryz.results91 V (aZ j.o _ _ _ _ _) V (a9.h k q.o u.o v.o x.o (EO _) (by simp) _ _ _ _ _)
theorem hU.C{a:Nat}{T:ab}{W W':wD}{xs:List wF}(h:hU a T W xs)(c:∀b o,a≤b→W.heap[b]?=Y o→W'.heap[b]?=Y o):hU a T W' xs:=by
 obtain⟨d,g,N,s,e,f,i,j,k,l⟩:=h;exact⟨d,g,N,s,e,c g _ (by omega) f,i.C fun b o m n=>c b o m.1 n,j,k,l⟩
theorem Bt{ts:List Tok}(b5:cE ts){ar:PS→ab×PS}(b4:js ts 233 ar)(cA:∀σ,σ.1≤(ar σ).2.1):js ts 164 (dz ts ar):=by
 intro σ w P L cap h;have b6:FK w (w.alloc (wq bO 25)):=(EP _ w).alloc (EO _) _;obtain⟨HC,H0⟩:=zz2 (gi (h.z b6)) (h.b b6);have m:=h.lt.1;obtain⟨HL,HX,W,af⟩:=zz4 h.lt.2 (p9 w (wq bO 25)) b5 (fun σ w P L cap h=>ns b5 (enters_of Tryz.func233 (by kernel_rfl) V) b4 cA σ w P L cap h)
 have v:dz ts ar σ=(if isM ts σ [i3]=true then (.mk 7 ⟨#[]⟩ 0 (atM ts σ) [(eH ts (ag ts σ)).1],aT ts (eH ts (ag ts σ)).2 ci)
   else if isM ts σ [fh]=true then (.mk 6 (ofM ts (ag ts σ) 2 6).1.f 0 (atM ts σ) (cn ts ar (ofM ts (ag ts σ) 2 6).2).1,aT ts (cn ts ar (ofM ts (ag ts σ) 2 6).2).2 ci)
   else (.mk 5 (ofM ts σ 2 5).1.f 0 (atM ts σ) (cn ts ar (ofM ts σ 2 5).2).1,aT ts (cn ts ar (ofM ts σ 2 5).2).2 ci)):=rfl
 obtain⟨R,b7⟩:=zzy (dz ts ar σ);rw[b7];rw[b7]at v;obtain⟨at_,b8⟩:=zzy (atM ts σ);rw[b8]at HC v;have HR:=Hd v;have X:Hid (0≤at_∧at_≤16384):=by
  show _∧_
  obtain⟨_,_,g3⟩:=cK W.o σ.1;rw[←b8];unfold atM;omega
 clear h b6 b5 b4 cA b7 v b8;generalize kdM ts σ=kd at HC;generalize txM ts σ=tx at HC
 go_enter Tryz.func164,Tryz.ntmps164
 go_wp2_with fail
 refine EX HC.o ?_;rintro e w1 ⟨rfl,b9⟩;have c8:=j8 kd tx at_ w1;obtain⟨c9,cC⟩:=zz2 (H0.o.f b9) (aa b9 HX.o (by simp));have z:w.heap.size<w1.heap.size:=(EN.1 cC.o).1;clear b9;obtain⟨wA,M⟩:=zzx (w1.alloc (wq #[I O 7,J ⟨#[]⟩,I Z 0,I Z at_,A U 0 0] 25));have cR:wA.heap.size=w1.heap.size+1:=by rw[M];simp
 have cT:Hid (ax w P L cap ts σ.1 σ.2 wA):=by rw[M];exact c9.o.u _
 have cV:Hid (wA.heap[w1.heap.size]?=Y (wq #[I O 7,J ⟨#[]⟩,I Z 0,I Z at_,A U 0 0] 25 (0,0))):=by rw[M];exact p9 w1 _
 have cW:Hid (wA.heap[w.heap.size]?=Y (wq bO 25 (0,0))):=by rw[M];exact (FH w1 _ _ z).trans cC.o
 obtain⟨N,ak,al⟩:=zz3 (cT.o.u (wq #[J i3] 9)) ((FH wA (wq #[J i3] 9) w1.heap.size (by omega)).trans cV.o) ((FH wA (wq #[J i3] 9) w.heap.size (by omega)).trans cW.o);have j:=dy N.o.2 wA.heap.size 0 1 1 [i3] (bT [i3]) V (by omega);rw[M,r9]at j;have aq:=Hd j;clear j;go_wp2_with fail
 refine EX aq.o ?_;rintro e w2 ⟨rfl,av⟩;rw[←M]at av;obtain⟨a6,c0,ca⟩:=zz3 (N.o.b av) (av.h al.o m (EO _)) (av.h ak.o m (Fu z));have da:w1.heap.size<w2.heap.size:=(EN.1 ca.o).1;clear av c8 cT cV cW N ak al M cR aq
 by_cases hm:isM ts σ [i3]=true
 ·have v:=HR.o;rw[rv hm]at v;have j:aQ ts σ [i3]=ag ts σ:=by unfold aQ;rw[rv hm]
  rw[j]at a6;rw[hm];have HE:=Hd (sV W.o a6.o.2);generalize eH ts (ag ts σ)=r at *;have b1:=Hd v;clear v j hm HR;go_wp2_with fail
  refine EX HE.o ?_;rintro e y ⟨d,s,rfl,ba,ho,hf⟩;obtain⟨p,c,rfl⟩:=ho.b;obtain⟨C,b2,b3⟩:=zz3 (a6.o.b ba) (ba.h c0.o m (EO _)) (ba.h ca.o m (Fu z));have c1:w2.heap.size≤y.heap.size:=ba.1.size;obtain⟨w4,bb⟩:=zzx (y.alloc (wq #[I O r.1.b,J r.1.f,I Z r.1.h,I Z r.1.y,A p r.1.u.length c] 25));have bc:FK y w4:=by rw[bb];exact (EP _ y).alloc (EO _) _
  have c3:hU w2.heap.size r.1 w4 [I Z y.heap.size]:=⟨d,y.heap.size,y.heap.size,_,V,by rw[bb];exact p9 y _,ho.z (fun b K=>K.2) bc,hf,c1,EO _⟩;have D:=aa bc b2.o (by omega);have g:=aa bc b3.o (by omega);have c5:=C.o.f bc;have f4:=ac g 4;obtain⟨n0,n1,n2,n3,n4⟩:=cells5 g;obtain⟨n,f⟩:=zzx (w4.setCell ⟨w1.heap.size,4,U⟩ (A (Y ⟨y.heap.size,0,U⟩) 1 1));have ad:Hid (ax w P L cap ts r.2.1 r.2.2 n):=by rw[f];exact c5.y m HL.o (by omega) 4 _
  have bd:Hid (n.heap[w.heap.size]?=Y (wq bO 25 (0,0))):=by rw[f];exact (ER _ _ _ _ (show w.heap.size≠w1.heap.size by omega)).trans D
  have bk:Hid (n.heap[w1.heap.size]?=Y (wq #[I O 7,J ⟨#[]⟩,I Z 0,I Z at_,A (Y ⟨y.heap.size,0,U⟩) 1 1] 25 (0,0))):=by rw[f];exact heap_set g 4 _
  have dc:Hid (hU w2.heap.size r.1 n [I Z y.heap.size]):=by rw[f];exact c3.C fun b o K hx=>(ER _ _ _ _ (show b≠w1.heap.size by omega)).trans hx
  obtain⟨HW,H4,H5,c6⟩:=zz4 (cM ad.o.2 ci) bb f g;clear ba ho hf bc c3 D g c5 f;rw[bb]at n0 n1 n2 n3 n4 f4;clear bb;go_upto_region 4 with fail
  change AR _ _ _ _ ((y.alloc (wq #[I O r.1.b,J r.1.f,I Z r.1.h,I Z r.1.y,A p r.1.u.length c] 25)).setCell ⟨w1.heap.size,4,U⟩ (A (Y ⟨y.heap.size,0,U⟩) 1 1));rw[←H4.o,←H5.o];clear n0 n1 n2 n3 n4 f4 H4 H5 c6;go_wp2_with fail
  refine EX HW.o ?_;rintro e w6 ⟨rfl,i⟩;have bl:=Hd (ad.o.b i);have t:=i.h bd.o m (EO _);have bn:=Hd t;obtain⟨n0,n1,n2,n3,n4⟩:=cells5 (i.h bk.o m (by omega));obtain⟨d',g',c7,hO⟩:=(dc.o.h (Q:=P) (by omega) i.1).own;obtain rfl:y.heap.size=g':=by injection c7 with h1;injection h1 with _ h2;omega
  have HO:=Hd hO;obtain⟨a0,a1,a2,a3,a4⟩:=cells5 t;have z0:=ac t 0;have z1:=ac t 1;have z2:=ac t 2;have z3:=ac t 3;have z4:=ac t 4;clear i t c7 hO;go_wp2_with fail
  refine bw Tryz.results164 V (aZ bn.o _ _ _ _ _) V ?_;rw[b1.o];exact a9.h (r:=(.mk 7 ⟨#[]⟩ 0 at_ [r.1],aT ts r.2 ci)) (B:=w2.heap.size) m HL.o bl.o HO.o (fu (by omega) (by show (0:Nat)≤16384;omega) X.o.1 X.o.2) (EO _) (by omega) _ _ _ _ _
 ·have v:=HR.o;rw[qv hm]at v;have j:aQ ts σ [i3]=σ:=by unfold aQ;rw[qv hm]
  rw[j]at a6;have E:isM ts σ [i3]=false:=by simpa using hm
  rw[E];obtain⟨b1,N,ak,al⟩:=zz4 v (a6.o.u (wq #[J fh] 9)) ((FH w2 (wq #[J fh] 9) w1.heap.size da).trans ca.o) ((FH w2 (wq #[J fh] 9) w.heap.size (by omega)).trans c0.o);have aq:=Hd (dy N.o.2 w2.heap.size 0 1 1 [fh] (bT [fh]) V (by omega));clear v j hm E HR;go_wp2_with fail
  refine EX aq.o ?_;rintro e y ⟨rfl,bq⟩;obtain⟨C,b2,b3⟩:=zz3 (N.o.b bq) (bq.h al.o m (EO _)) (bq.h ak.o m (Fu z));have c1:w2.heap.size≤y.heap.size:=by have:=bq.1.size;rw[r9]at this;omega
  clear bq N ak al aq
  by_cases hm:isM ts σ [fh]=true
  ·have v:=b1.o;rw[rv hm]at v;have j:aQ ts σ [fh]=ag ts σ:=by unfold aQ;rw[rv hm]
   rw[j]at C;have E:isM ts σ [fh]=true:=by simpa using hm
   rw[E];have cb:=Hd (jh W.o C.o.2 6 (by omega));have F:(ofM ts (ag ts σ) 2 6).1.f.size≤16384:=(cK W.o _).2.1;generalize ofM ts (ag ts σ) 2 6=nm at *;obtain⟨br,cc⟩:=zz2 F v;clear v j hm E F;go_wp2_with fail
   refine EX cb.o ?_;rintro e w4 ⟨d,s,rfl,u,ho,hf⟩;obtain⟨p,c,rfl⟩:=ho.b;have ch:=Hd (C.o.b u);have D:=u.h b2.o m (EO _);have g:=u.h b3.o m (Fu z);have dd:y.heap.size≤w4.heap.size:=u.1.size;obtain⟨n,f⟩:=zzx ((w4.setCell ⟨w1.heap.size,0,U⟩ (I O 6)).setCell ⟨w1.heap.size,1,U⟩ (J nm.1.f));have S:ax w P L cap ts nm.2.1 nm.2.2 n:=by rw[f];exact (ch.o.y m HL.o (by omega) 0 _).y m HL.o (by omega) 1 _
   have bt:n.heap[w.heap.size]?=Y (wq bO 25 (0,0)):=by rw[f];exact (ER _ _ _ _ (show w.heap.size≠w1.heap.size by omega)).trans ((ER _ _ _ _ (show w.heap.size≠w1.heap.size by omega)).trans D)
   have bB:n.heap[w1.heap.size]?=Y (wq #[I O 6,J nm.1.f,I Z 0,I Z at_,A U 0 0] 25 (0,0)):=by rw[f];exact heap_set (heap_set g 0 _) 1 _
   have dg:n.heap.size=w4.heap.size:=by rw[f];simp[CK]
   obtain⟨ad,bd,bk,ck⟩:=zz4 S bt bB (af.o nm.2 n P L cap S.2);have f0:=ac g 0;have f1:=ac g 1;obtain⟨n0,n1,n2,n3,n4⟩:=cells5 g;have H5:=Hd f;have cl:=iu nm.1.b nm.1.f nm.1.h nm.1.y nm.1.u.length p c w4;generalize cn ts ar nm.2=l at *;clear u ho hf D g S bt bB f;go_upto_region 9 with fail
   change AR _ _ _ _ ((w4.setCell ⟨w1.heap.size,0,U⟩ (I O 6)).setCell ⟨w1.heap.size,1,U⟩ (J nm.1.f));rw[←H5.o];clear n0 n1 n2 n3 n4 f0 f1 H5 cl;go_wp2_with fail
   refine EX ck.o ?_;rintro e w6 ⟨d2,s2,rfl,i,T⟩;obtain⟨p2,c2,rfl⟩:=T.b;have bl:=Hd (ad.o.b i);have bR:=i.h bd.o m (EO _);have x:=i.h bk.o m (Fu z);have dp:n.heap.size≤w6.heap.size:=i.1.size;obtain⟨H,k⟩:=zzx (w6.setCell ⟨w1.heap.size,4,U⟩ (A p2 l.1.length c2));have cq:H.heap.size=w6.heap.size:=by rw[k];simp[CK]
   have b0:Hid (ax w P L cap ts l.2.1 l.2.2 H):=by rw[k];exact bl.o.y m HL.o (by omega) 4 _
   have cr:Hid (H.heap[w.heap.size]?=Y (wq bO 25 (0,0))):=by rw[k];exact (ER _ _ _ _ (show w.heap.size≠w1.heap.size by omega)).trans bR
   have ct:Hid (H.heap[w1.heap.size]?=Y (wq #[I O 6,J nm.1.f,I Z 0,I Z at_,A p2 l.1.length c2] 25 (0,0))):=by rw[k];exact heap_set x 4 _
   have cu:Hid (OwnAt H d2 l.1 (A p2 l.1.length c2) (bM n.heap.size H.heap.size)):=by rw[cq,k];exact T.C fun b o K hx=>(ER _ _ _ _ (show b≠w1.heap.size by have:=K.1;omega)).trans hx
   have HW:=Hd (cM b0.o.2 ci);have f4:=ac x 4;obtain⟨n0,n1,n2,n3,n4⟩:=cells5 x;have H7:=Hd k;clear i T bR x k;go_upto_region 10 with fail
   change AR _ _ _ _ (w6.setCell ⟨w1.heap.size,4,U⟩ (A p2 l.1.length c2));rw[←H7.o];clear n0 n1 n2 n3 n4 f4 H7;go_wp2_with fail
   refine EX HW.o ?_;rintro e w8 ⟨rfl,q⟩;have cv:=Hd (b0.o.b q);have t:=q.h cr.o m (EO _);have bn:=Hd t;obtain⟨n0,n1,n2,n3,n4⟩:=cells5 (q.h ct.o m (by omega));have cx:=Hd ((cu.o.C fun b o K hx=>bF q.1 hx (by have:=K.1;omega)).N (G:=bM n.heap.size w8.heap.size) fun b K=>⟨K.1,ET K.2 q.1.size⟩);obtain⟨a0,a1,a2,a3,a4⟩:=cells5 t;have z0:=ac t 0;have z1:=ac t 1;have z2:=ac t 2;have z3:=ac t 3;have z4:=ac t 4;clear q t;go_wp2_with fail
   refine bw Tryz.results164 V (aZ bn.o _ _ _ _ _) V ?_;rw[cc.o];exact a9.h (r:=(.mk 6 nm.1.f 0 at_ l.1,aT ts l.2 ci)) (B:=n.heap.size) m HL.o cv.o cx.o (fu (by omega) br.o X.o.1 X.o.2) (EO _) (by omega) _ _ _ _ _
  ·have v:=b1.o;rw[qv hm]at v;have j:aQ ts σ [fh]=σ:=by unfold aQ;rw[qv hm]
   rw[j]at C;have E:isM ts σ [fh]=false:=by simpa using hm
   rw[E];have cb:=Hd (jh W.o C.o.2 5 (by omega));have F:(ofM ts σ 2 5).1.f.size≤16384:=(cK W.o _).2.1;generalize ofM ts σ 2 5=nm at *;obtain⟨br,cc⟩:=zz2 F v;clear v j hm E F;go_wp2_with fail
   refine EX cb.o ?_;rintro e w4 ⟨d,s,rfl,u,ho,hf⟩;obtain⟨p,c,rfl⟩:=ho.b;have ch:=Hd (C.o.b u);have D:=u.h b2.o m (EO _);have g:=u.h b3.o m (Fu z);have dd:y.heap.size≤w4.heap.size:=u.1.size;obtain⟨n,f⟩:=zzx ((w4.setCell ⟨w1.heap.size,0,U⟩ (I O 5)).setCell ⟨w1.heap.size,1,U⟩ (J nm.1.f));have S:ax w P L cap ts nm.2.1 nm.2.2 n:=by rw[f];exact (ch.o.y m HL.o (by omega) 0 _).y m HL.o (by omega) 1 _
   have bt:n.heap[w.heap.size]?=Y (wq bO 25 (0,0)):=by rw[f];exact (ER _ _ _ _ (show w.heap.size≠w1.heap.size by omega)).trans ((ER _ _ _ _ (show w.heap.size≠w1.heap.size by omega)).trans D)
   have bB:n.heap[w1.heap.size]?=Y (wq #[I O 5,J nm.1.f,I Z 0,I Z at_,A U 0 0] 25 (0,0)):=by rw[f];exact heap_set (heap_set g 0 _) 1 _
   have dg:n.heap.size=w4.heap.size:=by rw[f];simp[CK]
   obtain⟨ad,bd,bk,ck⟩:=zz4 S bt bB (af.o nm.2 n P L cap S.2);have f0:=ac g 0;have f1:=ac g 1;obtain⟨n0,n1,n2,n3,n4⟩:=cells5 g;have H5:=Hd f;have cl:=iu nm.1.b nm.1.f nm.1.h nm.1.y nm.1.u.length p c w4;generalize cn ts ar nm.2=l at *;clear u ho hf D g S bt bB f;go_upto_region 9 with fail
   change AR _ _ _ _ ((w4.setCell ⟨w1.heap.size,0,U⟩ (I O 5)).setCell ⟨w1.heap.size,1,U⟩ (J nm.1.f));rw[←H5.o];clear n0 n1 n2 n3 n4 f0 f1 H5 cl;go_wp2_with fail
   refine EX ck.o ?_;rintro e w6 ⟨d2,s2,rfl,i,T⟩;obtain⟨p2,c2,rfl⟩:=T.b;have bl:=Hd (ad.o.b i);have bR:=i.h bd.o m (EO _);have x:=i.h bk.o m (Fu z);have dp:n.heap.size≤w6.heap.size:=i.1.size;obtain⟨H,k⟩:=zzx (w6.setCell ⟨w1.heap.size,4,U⟩ (A p2 l.1.length c2));have cq:H.heap.size=w6.heap.size:=by rw[k];simp[CK]
   have b0:Hid (ax w P L cap ts l.2.1 l.2.2 H):=by rw[k];exact bl.o.y m HL.o (by omega) 4 _
   have cr:Hid (H.heap[w.heap.size]?=Y (wq bO 25 (0,0))):=by rw[k];exact (ER _ _ _ _ (show w.heap.size≠w1.heap.size by omega)).trans bR
   have ct:Hid (H.heap[w1.heap.size]?=Y (wq #[I O 5,J nm.1.f,I Z 0,I Z at_,A p2 l.1.length c2] 25 (0,0))):=by rw[k];exact heap_set x 4 _
   have cu:Hid (OwnAt H d2 l.1 (A p2 l.1.length c2) (bM n.heap.size H.heap.size)):=by rw[cq,k];exact T.C fun b o K hx=>(ER _ _ _ _ (show b≠w1.heap.size by have:=K.1;omega)).trans hx
   have HW:=Hd (cM b0.o.2 ci);have f4:=ac x 4;obtain⟨n0,n1,n2,n3,n4⟩:=cells5 x;have H7:=Hd k;clear i T bR x k;go_upto_region 10 with fail
   change AR _ _ _ _ (w6.setCell ⟨w1.heap.size,4,U⟩ (A p2 l.1.length c2));rw[←H7.o];clear n0 n1 n2 n3 n4 f4 H7;go_wp2_with fail
   refine EX HW.o ?_;rintro e w8 ⟨rfl,q⟩;have cv:=Hd (b0.o.b q);have t:=q.h cr.o m (EO _);have bn:=Hd t;obtain⟨n0,n1,n2,n3,n4⟩:=cells5 (q.h ct.o m (by omega));have cx:=Hd ((cu.o.C fun b o K hx=>bF q.1 hx (by have:=K.1;omega)).N (G:=bM n.heap.size w8.heap.size) fun b K=>⟨K.1,ET K.2 q.1.size⟩);obtain⟨a0,a1,a2,a3,a4⟩:=cells5 t;have z0:=ac t 0;have z1:=ac t 1;have z2:=ac t 2;have z3:=ac t 3;have z4:=ac t 4;clear q t;go_wp2_with fail
   refine bw Tryz.results164 V (aZ bn.o _ _ _ _ _) V ?_;rw[cc.o];exact a9.h (r:=(.mk 5 nm.1.f 0 at_ l.1,aT ts l.2 ci)) (B:=n.heap.size) m HL.o cv.o cx.o (fu (by omega) br.o X.o.1 X.o.2) (EO _) (by omega) _ _ _ _ _
def rO(ts:List Tok) (σ:PS):Bool:=kdM ts σ==4&&((number (txM ts σ).data.toList).isSome&&decide ((number (txM ts σ).data.toList).getD 0≤2147483647))
def gk(ts:List Tok) (σ:PS):Nat×PS:=if rO ts σ=true then ((number (txM ts σ).data.toList).getD 0,ag ts σ) else (0,(σ.1,true))
theorem oz(ts:List Tok)(σ:PS):σ.1≤(gk ts σ).2.1:=by
 unfold gk;split
 ·exact (eQ ts σ).1
 ·exact EO _
theorem jr(ts:List Tok)(σ:PS):(gk ts σ).1≤2147483647:=by
 unfold gk;split
 ·rename_i h
  unfold rO at h;simp only[Ff,r7]at h;exact h.2.2
 ·exact Fa _
theorem lI{ts:List Tok}(q:cE ts){w:wD}{P L cap:Nat}{σ:PS}(h:PAt w P L cap ts σ.1 σ.2) :
  xL xD 163 #[xV (Y ⟨P,0,U⟩)] w fun e w'=>e=Ending.returned (I Z (gk ts σ).1)∧ax w P L cap ts (gk ts σ).2.1 (gk ts σ).2.2 w':=by
 obtain⟨x,H⟩:=zz2 (gi h) h;have E:=h.lt.1;obtain⟨R,l⟩:=zzy (gk ts σ);rw[l];unfold gk rO at l;have r:(txM ts σ).size≤16384:=(cK q σ.1).2.1;generalize kdM ts σ=kd at *;generalize txM ts σ=tx at *;generalize atM ts σ=at_ at *;have p:=Hd l;clear h l
 go_enter Tryz.func163,Tryz.ntmps163
 go_wp2_with fail
 refine EX x.o ?_;rintro e w1 ⟨rfl,g⟩;have j:FK w1 (w1.alloc (wq #[I O kd,J tx,I Z at_] 122)):=(EP _ w1).alloc (EO _) _;obtain⟨y,z,B,C⟩:=zz4 (qL tx (w1.alloc (wq #[I O kd,J tx,I Z at_] 122)) r) (p9 w1 (wq #[I O kd,J tx,I Z at_] 122)) (H.o.b (g.trans (j.mono g.size))) (show P<w1.heap.size by have:=g.size;omega);clear g j;generalize number tx.data.toList=n at *;go_wp2_with fail
 refine EX y.o ?_;rintro e F ⟨rfl,i⟩;have b:=Hd (B.o.f i);obtain⟨G,K,x2,_,_,_⟩:=cells3 (aa i z.o (by simp));obtain⟨m,c,_,_,D,M,f0,f1⟩:=b.o.2.u;obtain⟨f,s⟩:=zz2 (b.o.2.setBad true) (ki b.o.2);clear i D
 by_cases u:kd=4
 ·subst u
  cases n with
  | none =>
   have a:(0,(σ.1,true))=R:=by rw[←p.o];rfl
   have d:=Hd a;clear a;go_wp2_with fail
   go_ret;rw[←d.o];exact⟨V,b.o.b f.o⟩
  | some n =>
   by_cases N:n≤2147483647
   ·have a:(n,ag ts σ)=R:=by
     rw[←p.o,rv (by simp;omega)];rfl
    have d:=Hd a;have v:decide ((2147483647:Int)<n)=false:=by simp;omega
    clear a;go_wp2_with fail
    refine EX s.o ?_;rintro e Q ⟨rfl,k⟩;have t:=Hd (b.o.b k);clear k;go_wp2_with fail
    go_ret;rw[←d.o];exact⟨V,t.o⟩
   ·have a:(0,(σ.1,true))=R:=by
     rw[←p.o,qv (by simp;omega)]
    have d:=Hd a;have v:decide ((2147483647:Int)<n)=true:=by simp;omega
    clear a;go_wp2_with fail
    go_ret;rw[←d.o];exact⟨V,b.o.b f.o⟩
 ·have a:(0,(σ.1,true))=R:=by
   rw[←p.o,qv (by simp[u])]
  have d:=Hd a;have v:((kd:Int)==4)=false:=by simp;omega
  have S:((kd:Int) != 4)=true:=by simp;omega
  clear a;go_wp2_with fail
  go_ret;rw[←d.o];exact⟨V,b.o.b f.o⟩
