/- Parts of one proof, joined; conditions stand in each theorem. -/
import Derived.Test.YtoahnjkclckodaaGreatDoorMV
open Go renaming World→J,Value→tS,Calls→vv,wpQuiet_nil→xL
open Option renaming some→A,none→Y
open Go.Obj renaming cells→r7
open Go.Value renaming slice→O,int→I,string→r9,agg→wP,pointer→vo,func→z6
open Go.IntKind renaming i64→U,u8→r8
open Go.Proofs.Tryz renaming prog→va
open Go.Code renaming wp→xv
open Go.World renaming setCell→AF
namespace Go.Proofs.YtoahnjkclckodaaGreatDoor
set_option maxHeartbeats 2000000
set_option maxRecDepth 100000
open Go.RowKit
theorem OwnAt.mores{w:J}{d:Nat}{ks:List ac}{a:tS}{F:Nat→Prop}(h:OwnAt w d ks a F):∀n,OwnAt w (d+n) ks a F:=by
 intro n
 induction n with
 | zero=>exact h
 | succ n b=>exact b.more
theorem oV{a T2:ac}{s1 s2:tS}{m:Nat}{u:tS}:((aj a s1)[m]?=A u→(aj a s1++aj T2 s2).toArray[0*5+m]?=A u)∧((aj T2 s2)[m]?=A u→(aj a s1++aj T2 s2).toArray[1*5+m]?=A u):=by
 refine⟨fun h=>?_,fun h=>?_⟩
 ·have hm:m<(aj a s1).length:=(J3.1 h).1;rw[List.getElem?_toArray,Nat.zero_mul,Nat.zero_add,Kl hm];exact h
 ·have b:(aj a s1).length=5:=by simp[aj]
  rw[List.getElem?_toArray,Kd (by omega),b];rw[show 1*5+m-5=m by omega];exact h
theorem IE{W:J}{d1 d2 g:Nat}{f T2:ac}{s1 s2:tS}{k l F:Nat→Prop}(q:OwnAt W d1 f.z s1 k)(r:OwnAt W d2 T2.z s2 l)(f1:Fits f)(f2:Fits T2)
  (s:W.heap[g]?=A (r7 (aj f s1++aj T2 s2).toArray 145 (0,0))) (hF:F g) (n:∀b,k b→F b∧b≠g) (o:∀b,l b→F b∧b≠g) (h:∀b,k b→¬l b) :
  OwnAt W (d1+d2+1) [f,T2] (O (A ⟨g,0,Y⟩) 2 2) F:=by
 have t:=q.mores d2;have p:=r.mores d1;rw[Nat.add_comm d2 d1]at p;refine Or.inr ⟨g,2,(aj f s1++aj T2 s2).toArray,fun i b=>(i=0∧k b)∨(i=1∧l b),by simp,hF,JM _,by unfold maxLen;omega,Z,s,by simp[aj],fun i w c=>?_,fun i b d=>?_,fun i j b v hi e=>?_⟩
 ·cases i with
  | zero =>
   simp at c;subst c;exact⟨f1,s1,fun m u hu=>oV.1 hu,t.N fun b d=>Or.inl ⟨Z,d⟩⟩
  | succ i =>
   cases i with
   | zero =>
    simp at c;subst c;exact⟨f2,s2,fun m u hu=>oV.2 hu,p.N fun b d=>Or.inr ⟨Z,d⟩⟩
   | succ i=>simp at c
 ·rcases d with ⟨_,d⟩|⟨_,d⟩
  ·exact n b d
  ·exact o b d
 ·rcases hi with ⟨a,hi⟩|⟨a,hi⟩
  ·rcases e with ⟨b',e⟩|⟨b',e⟩
   ·omega
   ·exact h b hi e
  ·rcases e with ⟨b',e⟩|⟨b',e⟩
   ·exact h b e hi
   ·omega
def qy(a:Nat) (b:ac) (s1:tS) (T2:ac) (W:J) (xs:List tS):Prop:=∃(d g N:Nat) (s:tS),xs=[I U g]∧W.heap[g]?=A (r7 (aj b s1++aj T2 s).toArray 145 (0,0))∧OwnAt W d T2.z s (bI a N)∧Fits T2∧a≤N∧N≤g
theorem qy.u{a Q:Nat}{c T2:ac}{s1:tS}{W W':J}{xs:List tS}(h:qy a c s1 T2 W xs)(q:Q<a)(e:W.grownBy W' (A Q)):qy a c s1 T2 W' xs:=by
 obtain⟨d,g,N,s,f,i,j,k,l,m⟩:=h;exact⟨d,g,N,s,f,bE e i (by omega),j.K fun b o n p=>bE e p (by have:=n.1;omega),k,l,m⟩
def leftOf(P:Nat) (w:J):Nat:=match w.cell? ⟨P,0,Y⟩ with|some (O _ m _)=>m|_=>0
theorem PAt.left{w:J}{P L cap:Nat}{ts:List Tok}{k:Nat}{bad:Bool}(h:PAt w P L cap ts k bad):leftOf P w=ts.length-k:=by
 obtain⟨m,c,b,d,a,_⟩:=h.z;unfold leftOf;rw[a]
 show m=_
 omega
theorem It{lvl:Nat}(h:lvl<5){i:Nat}{s:ByteArray}(a:(jd lvl)[i]?=A s):(kV.map r9)[lvl*6+i]?=A (r9 s):=by
 have hi:i<6:=by
  have:=(J3.1 a).1;have e:(jd lvl).length=6:=by
   match lvl,h with
   | 0,_=>rfl
   | 1,_=>rfl
   | 2,_=>rfl
   | 3,_=>rfl
   | 4,_=>rfl
  omega
 match lvl,h,i,hi with
 | 0,_,0,_|0,_,1,_|0,_,2,_|0,_,3,_|0,_,4,_|0,_,5,_
 | 1,_,0,_|1,_,1,_|1,_,2,_|1,_,3,_|1,_,4,_|1,_,5,_
 | 2,_,0,_|2,_,1,_|2,_,2,_|2,_,3,_|2,_,4,_|2,_,5,_
 | 3,_,0,_|3,_,1,_|3,_,2,_|3,_,3,_|3,_,4,_|3,_,5,_
 | 4,_,0,_|4,_,1,_|4,_,2,_|4,_,3,_|4,_,4,_|4,_,5,_ =>first|(injection a with a;subst a;rfl)
theorem Gf{lvl:Nat}(h:lvl<5):(jd lvl).length=6:=by
 match lvl,h with
 | 0,_=>rfl
 | 1,_=>rfl
 | 2,_=>rfl
 | 3,_=>rfl
 | 4,_=>rfl
theorem zE{w:J}{b lvl:Nat}(a:w.heap[b]?=A (r7 (kV.map r9).toArray 327 (0,0)))(h:lvl<5):lF w b (lvl*6) (jd lvl):=
 ⟨(JL.1 a).1,fun i s c=>by
  rw[Kq _ _ _ _ _ _ a,List.getElem?_toArray]
  exact It h c⟩
theorem yW(a:Int)(x:ByteArray)(p:Int)(W:J):(Instr.field 192 (wP #[I r8 a,r9 x,I U p]) 1).run va W=.ok (r9 x) W:=by kernel_rfl
theorem kF(a:Int)(x:ByteArray)(p:Int)(W:J):(Instr.field 192 (wP #[I r8 a,r9 x,I U p]) 2).run va W=.ok (I U p) W:=by kernel_rfl
def yv(w:J) (P L cap:Nat) (ts:List Tok) (ex:PS→ac×PS) (lvl:Nat) (pl:Int) (R:ac×PS) (e a c f:Nat) (wr:J):Prop:=
 ∃(g:Nat) (T:ac) (σ:PS) (d:Nat) (s:tS),iv ts ex lvl pl g T σ=R∧ts.length-σ.1≤g∧f≤σ.1∧ah w P L cap ts σ.1 σ.2 wr∧wr.heap[e]?=A (r7 bM 145 (0,0))∧wr.heap[a]?=A (r7 (kV.map r9).toArray 327 (0,0))∧
  wr.heap[c]?=A (r7 (aj T s).toArray 145 (0,0))∧OwnAt wr d T.z s (fun b=>a<b∧b<wr.heap.size∧b≠c)∧Fits T
theorem IV{ts:List Tok}(c3:cJ ts){f:Nat}(h1:wT ts (f+1))(hE:yU ts f):yU ts (f+1):=by
 intro lvl σ w P L cap ca h hf;have c5:Kr w (w.alloc (r7 bM 145)):=(JO _ w).alloc (JM _) _;obtain⟨H0,hk⟩:=zz2 (h.h c5) h;have hP:=h.lt.1;obtain⟨HL,HX,cp,c6,cq,b2⟩:=zz6 h.lt.2 (oc w (r7 bM 145)) c3 h1 hE hf;obtain⟨R,a6⟩:=zzy (exM ts (f+1) lvl σ);rw[a6];have HR:=Hd a6;clear h c5 c3 h1 hE hf a6;have b3:=Hd (zU (w.alloc (r7 bM 145)))
 go_enter Tryz.func204,Tryz.ntmps204
 go_wp2_with fail
 refine JX b3.o ?_;rintro e w1 ⟨rfl,cr⟩;obtain⟨c7,ba⟩:=zz2 (H0.o.u cr) (aa cr HX.o (by simp));have S:w.heap.size<w1.heap.size:=(JL.1 ba.o).1;clear cr;obtain⟨vs,bg⟩:=zzy (kV.map r9);rw[bg];have hlen:vs.length=30:=by rw[←bg];rfl
 have cb:vs.toArray.all (·.oneCell')=true:=by rw[←bg];exact yJ
 dsimp only
 iterate 4 (first|go_step|go_back)
 have hN:=oc w1 (r7 ig 327);have hB:=(JO _ w1).alloc (JM _) (r7 ig 327);change wpList _ _ _ _ _ (w1.alloc (r7 ig 327));generalize w1.alloc (r7 ig 327)=b4 at *;refine wpList_store_mid Z 327 _ _ Z w1.heap.size 0 vs.toArray Z Z (rk hN (by simp[hlen,ig])) (by simp only[List.size_toArray,hlen];kernel_rfl) cb ?_;have bk:=pZ (vs:=vs) hN (by simp[hlen,ig]);have ct:=pj (JM _) vs 0 b4 hB;change wpList _ _ _ _ _ (b4.setCells w1.heap.size 0 vs);generalize b4.setCells w1.heap.size 0 vs=w2 at *;rw[←bg]at bk;obtain⟨c8,C,G⟩:=zz3 bk (c7.o.u ct) (aa ct ba.o S);have H:w1.heap.size<w2.heap.size:=(JL.1 bk).1;have b3:Hid (lvl≤5):=ca;obtain⟨m,c,e1,e2,c0,c1,f0,f1⟩:=C.o.2.z;clear hN hB ct bk cb bg hlen e1 e2 c0 f0 f1 b4 ca
 cases q:σ.2 with
 | true =>
  rw[q]at c1;have hR:(f7,σ)=R:=by rw[←HR.o];unfold exM;rw[oj q]
  have cc:=Hd q;obtain⟨a0,a1,a2,a3,a4⟩:=cells5 G.o;have z0:=ab G.o 0;have z1:=ab G.o 1;have z2:=ab G.o 2;have z3:=ab G.o 3;have z4:=ab G.o 4;clear q;go_wp2_with fail
  refine bw Tryz.results204 Z (aX G.o _ _ _ _ _) Z ?_;rw[←hR];exact a7.z (r:=(f7,σ)) hP HL.o C.o (km _ _) (fF (by omega) (by show (0:Nat)≤16384;omega) (by omega) (by omega)) (JM _) (Nat.lt_trans S H) _ _ _ _ _
 | false =>
  rw[q]at c1;have cc:=Hd q
  by_cases b5:lvl=5
  ·subst b5;have HO:=Hd (c6.o σ w2 P L cap q C.o.2 (by have:=b2.o;omega));rw[HR.o]at HO;clear q;go_wp2_with fail
   refine JX HO.o ?_;rintro e w4 ⟨d,s,rfl,V,F,hf⟩;obtain⟨p,c,rfl⟩:=F.q;have hl:=Hd (C.o.h V);have y0:=V.q G.o hP (JM _);have K:=Hd y0;obtain⟨a0,a1,a2,a3,a4⟩:=cells5 y0;have z0:=ab y0 0;have z1:=ab y0 1;have z2:=ab y0 2;have z3:=ab y0 3;have z4:=ab y0 4;obtain⟨HO,HF⟩:=zz2 F hf;clear V y0 F hf c1;go_wp2_with fail
   refine bw Tryz.results204 Z (aX K.o _ _ _ _ _) Z ?_;exact a7.z hP HL.o hl.o HO.o HF.o (JM _) (Nat.lt_trans S H) _ _ _ _ _
  have hR:iv ts (exM ts f (lvl+1)) lvl (atM ts σ) ts.length (exM ts f (lvl+1) σ).1 (exM ts f (lvl+1) σ).2=R:=by
   rw[←HR.o]
   conv=>rhs;unfold exM
   rw[oe (by rw[q];decide),oe b5]
  have cu:lvl<5:=by have:=b3.o;omega
  have cf:((lvl:Int)==5)=false:=by simp;omega
  obtain⟨aq,h8⟩:=zz2 (gm C.o.2) cu;have cv:0≤atM ts σ∧atM ts σ≤16384:=by
   obtain⟨_,_,g3⟩:=de cp.o σ.1;unfold atM;omega
  obtain⟨at_,ch⟩:=zzy (atM ts σ);rw[ch]at cv hR aq;have c9:=Hd cv;generalize kdM ts σ=kd at aq;generalize txM ts σ=tx at aq;have dd:=Hd hR;clear HR hR cv ch q b5;go_wp2_with fail
  refine JX aq.o ?_;rintro e w3 ⟨rfl,bl⟩;obtain⟨bm,b6,bn⟩:=zz3 (C.o.u bl) (aa bl G.o (Nat.lt_trans S H)) (aa bl c8.o H);have hn:w2.heap.size≤w3.heap.size:=bl.size;have D:=Hd (cq.o (lvl+1) σ w3 P L cap (by omega) bm.o.2 (by have:=b2.o;omega));rw[Int.natCast_succ]at D;clear bl c1;have hp:=kF kd tx at_ w3;go_wp2_with fail
  refine JX D.o ?_;rintro e w4 ⟨d,s,rfl,V,F,hf⟩;clear hp D b3 hk H0 HX ba c7 cf cc m c;obtain⟨p,c,rfl⟩:=F.q;have D:Hid (∀(σ:PS) (W:J),PAt W P L cap ts σ.1 σ.2→(ts.length-σ.1)*7+(6-(lvl+1))≤f→vv va 204 #[vo (A ⟨P,0,Y⟩),I U (lvl+1)] W (a7 W P L cap ts (exM ts f (lvl+1) σ))):=by
   intro σ W h1 h2;have:=cq.o (lvl+1) σ W P L cap (by omega) h1 h2;rw[Int.natCast_succ]at this;exact this
  have dg:Hid (∀σ,σ.1≤(exM ts f (lvl+1) σ).2.1):=fun σ=>Ft ts f (lvl+1) σ
  have dn:Hid ((ts.length-σ.1)*7+(6-(lvl+1))≤f):=by show _≤_;have:=b2.o;omega
  have hq:Hid (σ.1≤(exM ts f (lvl+1) σ).2.1):=dg.o σ;generalize exM ts f (lvl+1)=ex at *;generalize ex σ=r at *;obtain⟨W0,b7⟩:=zzx (w4.alloc (r7 (aj r.1 (O p r.1.z.length c)).toArray 145));have bq:Kr w4 W0:=by rw[b7];exact (JO _ w4).alloc (JM _) _
  have cy:W0.heap[w4.heap.size]?=A (r7 (aj r.1 (O p r.1.z.length c)).toArray 145 (0,0)):=by rw[b7];exact oc w4 _
  have hr:w3.heap.size≤w4.heap.size:=V.1.size;have ds:=V.q b6.o hP (JM _);have dt:=V.q bn.o hP (Ke S);have ar:Hid (yv w P L cap ts ex lvl at_ R w.heap.size w1.heap.size w4.heap.size σ.1 W0):=by
   refine⟨ts.length,r.1,r.2,d,O p r.1.z.length c,dd.o,Nat.sub_le _ _,hq.o,(bm.o.h V).u bq,aa bq ds (by omega),aa bq dt (by omega),cy,?_,hf⟩;refine (F.C (fun b j=>j.2) bq).N fun b j=>?_
   have h1:=j.1;have h2:=j.2;have h3:w4.heap.size<W0.heap.size:=(JL.1 cy).1;exact⟨by omega,by omega,by omega⟩
  have h6:w1.heap.size<w4.heap.size:=by omega
  clear bq cy ds dt V F hf hr b2 cq dd b6 bn bm G c8 C H hn;go_wp2_with fail
  change xv _ _ _ _ (w4.alloc (r7 (aj r.1 (O p r.1.z.length c)).toArray 145));rw[←b7];clear b7
  go_loopw [8] (fun _ wr=>yv w P L cap ts ex lvl at_ R w.heap.size w1.heap.size w4.heap.size σ.1 wr) (fun _ wr=>leftOf P wr)
  case atStart=>exact ar.o
  case round =>
   clear ar W0;obtain⟨g,T,l,d1,s1,bt,hg,dv,hT,ef,eg,cA,F,hf⟩:=hrel;obtain⟨p1,c1,rfl⟩:=F.q;obtain⟨HT,HO,HF,hs,ba,b6,bB⟩:=zz7 hT F hf ef eg cA bt;obtain⟨HG,en⟩:=zz2 hg dv;have eo:w4.heap.size<wr.heap.size:=(JL.1 cA).1;clear hT F hf ef eg cA bt hg dv;have h9:(0:Int)≤lvl:=by omega
   have b5:(lvl:Int)<5:=by omega
   have er:∀x:Wb wr,vv va 141 #[vo (A ⟨P,0,Y⟩),O (A ⟨w1.heap.size,lvl*6,Y⟩) 6 6] x.1 fun e w'=>e=Ending.returned (Value.bool (isM ts l (jd lvl)))∧Below x.1.heap.size x.1 w':=fun x =>qP (HT.o.2.C x.2) (gC HT.o.2.k) w1.heap.size (lvl*6) 6 6 (jd lvl) (zE (aa x.2 ba.o (by omega)) cu) (Gf cu) (by omega)
   have et:=Hd er;have HM:Hid (isM ts l (jd lvl)=isM ts l (jd lvl)):=rfl;obtain⟨b,j⟩:=zzy (isM ts l (jd lvl));rw[j]at et;have HB:=Hd j;clear er HM j;go_wp2_with fail
   refine ao (by kernel_rfl) (by kernel_rfl) ?_
   repeat (go_big_quiet_step ((go_at_call 141;exact Calls.h (et.o _))))
   refine xL ?_;intro W2 ht;obtain⟨⟨_,M⟩,rfl⟩:=ht;have ih:=Hd M;have e5:wr.heap.size≤W2.heap.size:=M.size;obtain⟨C,K,hv,e6,e7⟩:=zz5 (HT.o.u M) (aa M hs.o (by omega)) (aa M ba.o (by omega)) (aa M b6.o eo) (HO.o.C (fun b j=>j.2.1) M);clear M
   cases b with
   | false =>
    have a6:(T,l)=R:=by
     rw[←bB.o]
     cases g with
     | zero=>rfl
     | succ g=>unfold iv;rw[oe (by rw[HB.o];decide)]
    have cC:=Hd a6;obtain⟨a0,a1,a2,a3,a4⟩:=cells5 K.o;have z0:=ab K.o 0;have z1:=ab K.o 1;have z2:=ab K.o 2;have z3:=ab K.o 3;have z4:=ab K.o 4;obtain⟨d0,bb,d2,d3,d4⟩:=cells5 e6.o;clear a6;go_wp2_with fail
    refine bw Tryz.results204 Z (aX K.o _ _ _ _ _) Z ?_;rw[←cC.o];exact a7.z (r:=(T,l)) (B:=w1.heap.size) hP HL.o C.o (e7.o.N (fun b j=>⟨Ke j.1,JS j.2.1 e5⟩)) HF.o (JM _) S _ _ _ _ _
   | true =>
    have X:=Hd (gm C.o.2);obtain⟨E,bR⟩:=zzy (txM ts l);rw[bR]at X;have e8:=Hd bR;generalize kdM ts l=hx at X;generalize atM ts l=hy at X;clear bR;go_wp2_with fail
    refine JX X.o ?_;rintro e w5 ⟨rfl,b8⟩;have hz:=yW hx E hy w5;have cf:W2.heap.size≤w5.heap.size:=b8.size;obtain⟨w6,cR⟩:=zzx (w5.alloc (r7 #[I r8 16,r9 E,I U 0,I U at_,O Y 0 0] 145));have e9:Kr w5 w6:=by rw[cR];exact (JO _ w5).alloc (JM _) _
    have fm:Hid (w6.heap[w5.heap.size]?=A (r7 #[I r8 16,r9 E,I U 0,I U at_,O Y 0 0] 145 (0,0))):=by show _=_;rw[cR];exact oc w5 _
    have Q:Kr W2 w6:=b8.trans (e9.mono b8.size);have ix:w5.heap.size<w6.heap.size:=(JL.1 fm.o).1;obtain⟨fr,hA,hC,hD,hG⟩:=zz5 (C.o.u Q) (aa Q K.o (by omega)) (aa Q hv.o (by omega)) (aa Q e6.o (by omega)) (e7.o.C (fun b j=>JS j.2.1 e5) Q);have hI:=Hd (kR fr.o.2);clear b8 e9 Q;go_wp2_with fail
    rw[←cR];refine JX hI.o ?_;rintro e y ⟨rfl,ck⟩;have ad:ah w6 P L cap ts (ae ts l).1 (ae ts l).2 y:=ck;have fs:=Hd (fr.o.h ad);have iA:w6.heap.size≤y.heap.size:=ad.1.size;obtain⟨hJ,hK,ft,hL,hM⟩:=zz5 (ad.q hA.o hP (JM _)) (ad.q hC.o hP (Ke S)) (ad.q hD.o hP (by omega)) (ad.q fm.o hP (by omega)) (hG.o.K fun b o j F=>bE ad.1 F (by have:=j.1;omega));obtain⟨q1,q2,q3⟩:=fD cp.o HT.o.2.k HB.o;have hO:=Hd (D.o (ae ts l) y.drew fs.o.2.drew (by rw[q1];have:=dn.o;have:=en.o;omega));have cT:=dg.o (ae ts l);rw[q1]at cT;have hQ:=Hd cT;have hU:=Hd (show σ.1≤(ex (ae ts l)).2.1 by have:=en.o;omega);obtain⟨g',fv,fz⟩:∃g',ts.length-(ex (ae ts l)).2.1≤g'∧(if lvl=2 then (.mk 16 E 0 at_ [T,(ex (ae ts l)).1],(ex (ae ts l)).2) else iv ts ex lvl at_ g' (.mk 16 E 0 at_ [T,(ex (ae ts l)).1]) (ex (ae ts l)).2)=R:=by
     have h1:=bB.o;have h2:=HG.o
     cases g with
     | zero=>omega
     | succ g =>
      refine⟨g,by omega,?_⟩;unfold iv at h1;rw[oj HB.o,e8.o]at h1;exact h1
    obtain⟨hV,fI⟩:=zz2 fv fz;clear fv fz cT q1 q2 q3 ck ad;generalize ex (ae ts l)=r2 at *;have fT:Hid (E.size≤16384):=by show _≤_;rw[←e8.o];exact (de cp.o l.1).2.1
    obtain⟨d0,bb,d2,d3,d4⟩:=cells5 ft.o;have b0:w4.heap.size≠P:=by omega
    have C0:=fun x:RE.Gr y P=>x.h d0 b0
    have C1:=fun x:RE.Gr y P=>x.h bb b0
    have C2:=fun x:RE.Gr y P=>x.h d2 b0
    have C3:=fun x:RE.Gr y P=>x.h d3 b0
    have C4:=fun x:RE.Gr y P=>x.h d4 b0
    have gf:P<y.heap.size:=by omega
    clear d0 bb d2 d3 d4 hz;go_wp2_with fail
    refine RE.z (by kernel_rfl) 6 [4,5] [4,5] (fun s W=>if s=0 then W=y.drew else ah y P L cap ts r2.2.1 r2.2.2 W) (fun W W'=>W.grownBy W' (A P))
     (fun i xs=>if i=4 then wP #[I r8 r2.1.q,r9 r2.1.h,I U r2.1.u,I U r2.1.C,xs.getD 0 undef] else O (A ⟨RE.natOf xs,0,Y⟩) 2 2)
     (fun i W xs=>if i=4 then gj y.heap.size r2.1 W xs else qy y.heap.size T (O p1 T.z.length c1) r2.1 W xs) (by kernel_rfl) (fun i h1 h2=>by rw[h1]at h2;cases h2) ?_ Z ?_
    ·intro k W W' xs h _ hg
     split at h
     ·rw[oj (by assumption)];exact h.u gf hg
     ·rw[oe (by assumption)];exact h.u gf hg
    simp only[JY,J7,JZ,J6,Kf,List.length_nil,Nat.reduceAdd];have gr:∀(n s:Nat) (W:J),s≤n→(if s=0 then W=y.drew else ah y P L cap ts r2.2.1 r2.2.2 W)→∃x:RE.Gr y P,W=x.1:=fun n s W _ h=>by
     split at h
     ·exact⟨⟨W,by rw[h];exact grown_drewN (oT y _) 1⟩,Z⟩
     ·exact⟨⟨W,h.1⟩,Z⟩
    have hW:=Hd gr;clear gr
    repeat (refine RE.q (fun W=>∃x:RE.Gr y P,W=x.1) (hW.o _) Z Z Z Z ?_;go_big_quiet_step (fail);refine xL ?_)
    refine RE.h Z Z ?_ (fun gD=>?_)
    ·intro W _ hS _;obtain rfl:W=y.drew:=hS Z;refine RE.C 204 _ _ Z (enters_of Tryz.func204 (by kernel_rfl) Z) #[vo (A ⟨P,0,Y⟩),I U (lvl+1)] (by simp[Act.eval]) (hO.o.mono ?_);rintro e W' ⟨d,s,rfl,hT,F,hf⟩;exact⟨_,Z,[s],Z,hT.z,hT.1,⟨d,s,Z,F,hf⟩⟩
    simp only[Act.put,JP,JW,JV];refine RE.h Z Z ?_ (fun gE=>?_)
    ·intro W _ hS hX;have hT:ah y P L cap ts r2.2.1 r2.2.2 W:=hS Z;obtain⟨d,s,rfl,F,hf⟩:gj y.heap.size r2.1 W gD:=hX 4 gD (by kernel_rfl) Z;obtain⟨p,c,rfl⟩:=F.q;refine RE.Upon.told (v:=O (A ⟨W.heap.size,0,Y⟩) 2 2) (w':=W.alloc (r7 (aj T (O p1 T.z.length c1)++aj r2.1 (O p r2.1.z.length c)).toArray 145)) ?_ ⟨[I U W.heap.size],Z,hT.N _,?_,?_⟩
     ·unfold RE.Upon
      go_simp
      rfl
     ·exact aF ((JO _ W).alloc (JM _) _) _
     ·refine⟨d,W.heap.size,W.heap.size,_,Z,oc W _,?_,hf,hT.1.size,JM _⟩;exact F.C (fun b j=>j.2) ((JO _ W).alloc (JM _) _)
    simp only[Act.put,JP,JW,JV];refine RE.u ?_;intro W3 hS hE;have af:ah y P L cap ts r2.2.1 r2.2.2 W3:=hS;obtain⟨d,gg,N,s2,rfl,cV,gF,gH,iB,bk⟩:=(show qy y.heap.size T (O p1 T.z.length c1) r2.1 W3 gE from hE 5 gE Z);have gL:gg<W3.heap.size:=(JL.1 cV).1;have h7:y.heap.size≤W3.heap.size:=af.1.size;obtain⟨bm,hY,h0,bn,h4⟩:=zz5 (fs.o.h af) (af.q hJ.o hP (JM _)) (af.q hK.o hP (Ke S)) (af.q ft.o hP (by omega)) (af.q hL.o hP (by omega));have gM:=hM.o.K fun b o j F=>bE af.1 F (by have:=j.1;omega)
    have gN:Hid (OwnAt W3 (d1+d+1) [T,r2.1] (O (A ⟨gg,0,Y⟩) 2 2) (fun b=>w1.heap.size<b∧b<W3.heap.size∧b≠w4.heap.size∧b≠w5.heap.size)):=by
     refine IE gM gF HF.o gH cV ⟨by omega,gL,by omega,by omega⟩ (fun b j=>?_) (fun b j=>?_) (fun b j M=>?_)
     ·exact⟨⟨j.1,by have:=j.2.1;omega,j.2.2,by have:=j.2.1;omega⟩,by have:=j.2.1;omega⟩
     ·exact⟨⟨by have:=j.1;omega,by have:=j.2;omega,by have:=j.1;omega,by have:=j.1;omega⟩,by have:=j.2;omega⟩
     ·have:=j.2.1;have:=M.1;omega
    obtain⟨sl,gO⟩:=zzx (O (A ⟨gg,0,Y⟩) 2 2);obtain⟨Wn,bd⟩:=zzx (set5 (W3.setCell ⟨w5.heap.size,4,Y⟩ sl) w4.heap.size (I r8 16) (r9 E) (I U 0) (I U at_) sl);have cl:Wn.heap.size=W3.heap.size:=by rw[bd,vq];simp[AF]
    have z:∀b,b≠w4.heap.size→b≠w5.heap.size→Wn.heap[b]?=W3.heap[b]?:=fun b h1 h2=>by rw[bd,kZ h1];exact JQ _ _ _ b h2
    obtain⟨b9,u,gS⟩:=zz3 (show ah w P L cap ts r2.2.1 r2.2.2 Wn by rw[bd];exact (bm.o.K hP HL.o (by omega) 4 sl).set5 hP HL.o (by omega) _ _ _ _ _) ((z w.heap.size (by omega) (by omega)).trans hY.o) ((z w1.heap.size (by omega) (by omega)).trans h0.o);have cm:Hid (Wn.heap[w4.heap.size]?=A (r7 (aj (.mk 16 E 0 at_ [T,r2.1]) sl).toArray 145 (0,0))):=by
     show _=_
     rw[bd];exact aX ((JQ _ _ _ _ (show w4.heap.size≠w5.heap.size by omega)).trans bn.o) _ _ _ _ _
    have gT:Hid (OwnAt Wn (d1+d+1) [T,r2.1] sl (fun b=>w1.heap.size<b∧b<Wn.heap.size∧b≠w4.heap.size)):=by
     rw[gO];exact (gN.o.K fun b o j F=>(z b j.2.2.1 j.2.2.2).trans F).N fun b j=>⟨j.1,by rw[cl];exact j.2.1,j.2.2.1⟩
    have ha:Fits (.mk 16 E 0 at_ [T,r2.1]):=fF (by omega) fT.o c9.o.1 c9.o.2;have hc:=Hd ha;have b1:leftOf P Wn<leftOf P wr:=by
     rw[b9.o.2.left,HT.o.2.left];have:=hQ.o;have:=b9.o.2.k;omega
    have cW:=Hd b1;have y3:=bn.o;have y8:=h4.o;obtain⟨d0,bb,d2,d3,d4⟩:=cells5 y3;have z0:=ab y3 0;have z1:=ab y3 1;have z2:=ab y3 2;have z3:=ab y3 3;have z4:=ab y3 4;obtain⟨e0,e1,e2,e3,e4⟩:=cells5 y8;have x4:=ab y8 4;have h5:(w4.heap.size=w5.heap.size)=False:=by simp;omega
    have hd:(w5.heap.size=w4.heap.size)=False:=by simp;omega
    clear C0 C1 C2 C3 C4 hE hS af gM gF gH cV y3 y8 z b1 ha cl;subst gO;have hh:=Hd bd;clear bd h5 hd;go_upto_region 13 with fail
    change xv _ _ _ _ (set5 (W3.setCell ⟨w5.heap.size,4,Y⟩ (O (A ⟨gg,0,Y⟩) 2 2)) w4.heap.size (I r8 16) (r9 E) (I U 0) (I U at_) (O (A ⟨gg,0,Y⟩) 2 2));rw[←hh.o];clear hh d0 bb d2 d3 d4 z0 z1 z2 z3 z4 e0 e1 e2 e3 e4 x4
    by_cases H:lvl=2
    ·have hR:=fI.o;rw[oj H]at hR;have cC:=Hd hR;have hj:((lvl:Int)==2)=true:=by simp;omega
     obtain⟨a0,a1,a2,a3,a4⟩:=cells5 u.o;have z0:=ab u.o 0;have z1:=ab u.o 1;have z2:=ab u.o 2;have z3:=ab u.o 3;have z4:=ab u.o 4;obtain⟨d0,bb,d2,d3,d4⟩:=cells5 cm.o;clear hR H;go_wp2_with fail
     refine bw Tryz.results204 Z (aX u.o _ _ _ _ _) Z ?_;rw[←cC.o];exact a7.z (r:=(.mk 16 E 0 at_ [T,r2.1],r2.2)) (B:=w1.heap.size) hP HL.o b9.o (gT.o.N (fun b j=>⟨Ke j.1,j.2.1⟩)) hc.o (JM _) S _ _ _ _ _
    ·have hR:=fI.o;rw[oe H]at hR;have cn:yv w P L cap ts ex lvl at_ R w.heap.size w1.heap.size w4.heap.size σ.1 Wn:=
      ⟨g',_,r2.2,_,_,hR,hV.o,hU.o,b9.o,u.o,gS.o,cm.o,gT.o,hc.o⟩
     have ar:=Hd cn;have hj:((lvl:Int)==2)=false:=by simp;omega
     clear hR H cn;go_wp2_with fail
     exact⟨ar.o,cW.o⟩
theorem Jj{ts:List Tok}(a:cJ ts):∀f,wT ts f∧yU ts f:=by
 intro f
 induction f with
 | zero=>exact⟨fun σ w P L cap _ _ d=>by omega,fun lvl σ w P L cap e _ d=>by omega⟩
 | succ f b =>
  have c:=ID a b.1 b.2;exact⟨c,IV a c b.2⟩
def eP(ts:List Tok) (σ:PS):ac×PS:=exM ts (ts.length*7+6) 0 σ
theorem gk(ts:List Tok)(σ:PS):σ.1≤(eP ts σ).2.1:=Ft ts _ 0 σ
theorem vO{w:J}{P L cap:Nat}{ts:List Tok}(a:cJ ts){σ:PS}(h:PAt w P L cap ts σ.1 σ.2):vv va 176 #[vo (A ⟨P,0,Y⟩)] w (a7 w P L cap ts (eP ts σ)):=
 vu (Jj a _).2 σ w P L cap h (by have:(ts.length-σ.1)*7≤ts.length*7:=Nat.mul_le_mul_right _ (Nat.sub_le _ _);omega)
def jY:ByteArray:=⟨#[44]⟩
def eY(ts:List Tok) (one:PS→ac×PS):Nat→List ac→PS→List ac×PS
 | 0,ks,σ=>(ks,σ)
 | g+1,ks,σ=>if isM ts σ [jY]=true then eY ts one g (ks++[(one (ae ts σ)).1]) (one (ae ts σ)).2 else (ks,σ)
def jw(ts:List Tok) (one:PS→ac×PS) (σ:PS):List ac×PS:=eY ts one ts.length [(one σ).1] (one σ).2
def cD(ts:List Tok) (one:PS→ac×PS) (σ:PS):List ac×PS:=
 if isM ts (aQ ts σ fS) [iu]=true then ([],ae ts (aQ ts σ fS))
 else ((jw ts one (aQ ts σ fS)).1,aQ ts (jw ts one (aQ ts σ fS)).2 iu)
theorem Bu{ts:List Tok}{one:PS→ac×PS}(a:∀σ,σ.1≤(one σ).2.1):∀(g:Nat) (ks:List ac) (σ:PS),σ.1≤(eY ts one g ks σ).2.1:=by
 intro g
 induction g with
 | zero=>intro ks σ;exact JM _
 | succ g b =>
  intro ks σ;unfold eY
  split
  ·exact JU (JU (ff ts σ).1 (a _)) (b _ _)
  ·exact JM _
theorem uc{ts:List Tok}{one:PS→ac×PS}(a:∀σ,σ.1≤(one σ).2.1)(σ:PS):σ.1≤(jw ts one σ).2.1:=JU (a σ) (Bu a _ _ _)
theorem iG{ts:List Tok}{one:PS→ac×PS}(b:∀σ,σ.1≤(one σ).2.1)(σ:PS):σ.1≤(cD ts one σ).2.1:=by
 unfold cD;have a:=bH ts σ fS
 split
 ·exact JU a (ff ts _).1
 ·exact JU (JU a (uc b _)) (bH ts _ _)
def Av(w:J) (P L cap:Nat) (ts:List Tok) (r:List ac×PS) (e:Ending) (w':J):Prop:=
 ∃(d:Nat) (s:tS),e=Ending.returned s∧ah w P L cap ts r.2.1 r.2.2 w'∧OwnAt w' d r.1 s (bI w.heap.size w'.heap.size)
theorem F9(w:J)(l:List tS)(t:TypeId):∀(j:Nat) (u:tS),l[j]?=A u→(w.alloc (r7 l.toArray t)).cell? ((⟨w.heap.size,0,Y⟩:Addr).add j)=A u:=by
 intro j u hu;rw[Addr.add_mid,Kq _ _ _ _ _ _ (oc w _),Nat.zero_add]
 simpa using hu
theorem cI.deeper{W:J}{L d k:Nat}{ks:List ac}{own:Option Nat}{rows:List (List tS)}{e:Nat→Nat→Prop}(h:cI W L d ks k own rows e)(n:Nat):cI W L (d+n) ks k own rows e:=by
 obtain⟨f,g,j,l⟩:=h;exact⟨f,g,fun i T hi m=>by obtain⟨a,s,b,c⟩:=j i T hi m;exact⟨a,s,b,c.mores n⟩,l⟩
theorem cI.longer{W:J}{L d k:Nat}{ks:List ac}{own:Option Nat}{rows:List (List tS)}{a:Nat→Nat→Prop}(h:cI W L d ks k own rows a)(j:ks.length=k)(l:List ac):cI W L d (ks++l) k own rows a:=by
 obtain⟨c,e,f,g⟩:=h;exact⟨c,e,fun i T hi b=>f i T hi (by rw[Kl (by omega)]at b;exact b),g⟩
theorem cI.nextT{W W':J}{L d k N:Nat}{ks:List ac}{own own':Option Nat}{rows:List (List tS)}{w:Nat→Nat→Prop}{t:ac}{s:tS}(h:cI W L d ks k own rows w)
  (z:ks[k]?=A t) (B:Fits t) (C:OwnAt W' d t.z s (bI W.heap.size N)) (D:W.heap.size≤N) (R:N≤W'.heap.size) (S:L≤W.heap.size) (E:W.heap.size≤W'.heap.size)
  (m:∀b,L≤b→b<W.heap.size→own≠A b→W'.heap[b]?=W.heap[b]?) (l:∀b,own'=A b→(own=A b∧b<W.heap.size)∨N≤b) :
  ∃v,cI W' L d ks (k+1) own' (rows++[aj t s]) v:=by
 obtain⟨x,F,G,n,H,K⟩:=h;refine⟨fun i b=>if i=k then bI W.heap.size N b else w i b,by simp[x],fun r p=>?_,fun i T hi q=>?_,fun i b c=>?_,fun i j b u c f=>?_,fun i b c=>?_⟩
 ·rcases List.mem_append.1 p with p|p
  ·exact F r p
  ·simp at p;subst p;rfl
 ·by_cases a:i=k
  ·subst a;rw[z]at q;injection q with q
   subst q;refine⟨B,s,?_,?_⟩
   ·rw[Kd (by omega),x];simp
   ·simp only[oX];exact C
  ·obtain⟨a1,s',a2,a3⟩:=G i T (by omega) q;refine⟨a1,s',?_,?_⟩
   ·rw[Kl (by omega)];exact a2
   ·simp only[oe a];exact a3.K fun b o c M=>(m b (n i b c).1 (n i b c).2.1 (n i b c).2.2).trans M
 ·by_cases a:i=k
  ·simp only[oj a]at c;obtain⟨y,P⟩:=c;refine⟨by omega,by omega,fun e=>?_⟩;rcases l b e with h|h<;>omega
  ·simp only[oe a]at c;obtain⟨y,P,Q⟩:=n i b c;refine⟨y,by omega,fun e=>?_⟩;rcases l b e with h|h
   ·exact Q h.1
   ·omega
 ·by_cases a:i=k
  ·have g:j≠k:=fun e=>u (a.trans e.symm)
   simp only[oj a]at c;simp only[oe g]at f;have:=(n j b f).2.1;have:=c.1;omega
  ·simp only[oe a]at c
   by_cases g:j=k
   ·simp only[oj g]at f;have:=(n i b c).2.1;have:=f.1;omega
   ·simp only[oe g]at f;exact H i j b u c f
 ·by_cases a:i=k
  ·omega
  ·simp only[oe a]at c;have:=K i b c;omega
theorem ml(W:J)(L d:Nat)(ks:List ac):cI W L d ks 0 Y [] (fun _ _=>False):=
 ⟨Z,fun _ h=>absurd h Ki,fun _ _ hi _=>absurd hi (Nat.not_lt_zero _),fun _ _ h=>h.elim,fun _ _ _ _ h=>h.elim,fun _ _ h=>h.elim⟩
theorem cI.turn{W W':J}{L d k Q:Nat}{ks:List ac}{own:Option Nat}{rows:List (List tS)}{g:Nat→Nat→Prop}(h:cI W L d ks k own rows g)(j:W.grownBy W' (A Q))(v:Q<L):cI W' L d ks k own rows g:=by
 obtain⟨l,m,n,e,p,q⟩:=h;refine⟨l,m,fun i T hi r=>?_,fun i b f=>⟨(e i b f).1,JS (e i b f).2.1 j.size,(e i b f).2.2⟩,p,q⟩;obtain⟨a,s,b,c⟩:=n i T hi r;exact⟨a,s,b,c.K fun x o t u=>bE j u (by have:=(e i x t).1;omega)⟩
theorem dC{w w':J}{b Q:Nat}{e:TypeId}{size n:Nat}{v:tS}{xs:List tS}(h:w.ownsRow b e size v n xs)(a:w.grownBy w' (A Q))(d:Q<b):w'.ownsRow b e size v n xs:=by
 refine h.kept a ?_
 cases c:v.ownBlock with
 | none=>exact Or.inl Z
 | some k=>exact Or.inr (fun e=>by injection e with e;have:=(aP h k c).1;omega)
theorem zl(W:J){L:Nat}(a:L≤W.heap.size)(T:ac)(s:tS):(W.alloc (r7 (aj T s).toArray 145)).ownsRow L 145 5 (O (A ⟨W.heap.size,0,Y⟩) 1 1) 1 (aj T s):=by refine⟨by simp[aj],Or.inr ⟨W.heap.size,1,(aj T s).toArray,Z,a,oc W _,JM _,by unfold maxLen;omega,by simp[aj],by simp[aj]⟩⟩
theorem ah.grownO{w W W':J}{P L cap:Nat}{ts:List Tok}{k:Nat}{bad:Bool}(h:ah w P L cap ts k bad W)(f:P<w.heap.size)(j:L<w.heap.size){row:Option Nat}(a:W.grownBy W' row)(b:∀g,row=A g→w.heap.size≤g):ah w P L cap ts k bad W':=by
 have c:∀i,i<w.heap.size→W'.heap[i]?=W.heap[i]?:=fun i hi=>a.block i (JS hi h.1.size) (fun e=>by have:=b i e.symm;omega)
 exact⟨⟨a.os.trans h.1.os,a.tape.trans h.1.tape,a.output.trans h.1.output,JU h.1.size a.size,fun i hi d=>(c i hi).trans (h.1.block i hi d)⟩,h.2.K (c P f) (c L j)⟩
def Aj(w:J) (P L cap:Nat) (ts:List Tok) (one:PS→ac×PS) (R:List ac×PS) (o:tS) (W:J):Prop:=
 ∃(g:Nat) (ks:List ac) (σ:PS) (d:Nat) (rows:List (List tS)) (a:Nat→Nat→Prop),eY ts one g ks σ=R∧ts.length-σ.1≤g∧ks.length≤σ.1+1∧ks≠[]∧ah w P L cap ts σ.1 σ.2 W∧
  W.ownsRow w.heap.size 145 5 o ks.length rows.flatten∧cI W w.heap.size d ks ks.length o.ownBlock rows a
def jN(ts:List Tok) (g:FuncId) (one:PS→ac×PS):Prop:=∀(σ:PS) (w:J) (P L cap:Nat),PAt w P L cap ts σ.1 σ.2→vv va g #[vo (A ⟨P,0,Y⟩)] w (a7 w P L cap ts (one σ))
theorem yc{ts:List Tok}(bm:cJ ts){gf:FuncId}{one:PS→ac×PS}(cu:∀(xs:Array tS)(w:J),(callFunc gf xs).run va w=.ok (.enter gf xs) w)(l:jN ts gf one)(f:∀σ,σ.1≤(one σ).2.1)
  (σ:PS) (w:J) (P L cap:Nat) (h:PAt w P L cap ts σ.1 σ.2):vv va 144 #[vo (A ⟨P,0,Y⟩),z6 (.func gf) #[vo (A ⟨P,0,Y⟩)] #[]] w (Av w P L cap ts (jw ts one σ)):=by
 obtain⟨b5,bn,bq,HC⟩:=zz4 bm l f (l σ w P L cap h);have hP:=h.lt.1;have hn:=h.n;have b6:=Hd h;obtain⟨R,hR⟩:=zzy (jw ts one σ);rw[hR];have HR:=Hd hR;obtain⟨i0,b7,b8,b9,ca⟩:=info_parts sq;clear bm l f h hR
 go_enter Tryz.func144,Tryz.ntmps144
 go_wp2_with fail
 refine JX HC.o ?_;rintro e w1 ⟨d,s,rfl,W,ho,hf⟩;obtain⟨p,c,rfl⟩:=ho.q;obtain⟨W0,m⟩:=zzx (w1.alloc (r7 (aj (one σ).1 (O p (one σ).1.z.length c)).toArray 145));have H:Aj w P L cap ts one R (O (A ⟨w1.heap.size,0,Y⟩) 1 1) W0:=by
  have i:Kr w1 W0:=by rw[m];exact (JO _ w1).alloc (JM _) _
  have bt:=W.1.size;have f:=bq.o σ;have cb:=ho.C (fun b i=>i.2) i;have cC:W0.heap.size=w1.heap.size+1:=by rw[m];simp
  obtain⟨Fs,hr⟩:=cI.nextT (W':=W0) (N:=w1.heap.size) (own':=A w1.heap.size) (t:=(one σ).1) (ml w w.heap.size d [(one σ).1]) Z hf (cb.N fun b i=>i) bt (by omega) (JM _) (by omega)
   (fun b X h2 _=>by omega) (fun b i=>by injection i with i;right;omega)
  refine⟨ts.length,[(one σ).1],(one σ).2,d,_,Fs,HR.o,Nat.sub_le _ _,by simp,by simp,W.u i,?_,hr⟩;rw[m]
  simpa using zl w1 bt (one σ).1 (O p (one σ).1.z.length c)
 have K:=Hd H;clear H W ho hf HC HR;generalize one σ=r at *;go_wp2_with fail
 change xv _ _ _ _ (w1.alloc (r7 (aj r.1 (O p r.1.z.length c)).toArray 145));rw[←m];clear m
 go_loopw [5] (fun o wr=>Aj w P L cap ts one R o wr) (fun _ wr=>leftOf P wr)
 case atStart=>exact K.o
 case round =>
  clear K W0;obtain⟨g,ks,a,d1,rows,Fs,q,hg,hlen,F,hT,M,u⟩:=hrel;obtain⟨v,HG,Q,cR,HT,S,y⟩:=zz7 q hg hlen F hT M u;have cT:w.heap.size≤wr.heap.size:=hT.1.size;have ad:Kr wr (wr.alloc (r7 #[r9 jY] 9)):=(JO _ wr).alloc (JM _) _;obtain⟨bB,af⟩:=zz2 (dK (hT.2.C ad) wr.heap.size 0 1 1 [jY] (bU [jY]) Z (by omega)) ad;obtain⟨b,i⟩:=zzy (isM ts a [jY]);rw[i]at bB;have HB:=Hd i;clear q hg hlen F hT M u ad i;go_wp2_with fail
  refine JX bB.o ?_;rintro e w2 ⟨rfl,G⟩;have z:=Hd ((HT.o.u af.o).h G);have cV:wr.heap.size≤w2.heap.size:=by have:=G.1.size;have:=af.o.size;omega
  have B:=o5 (aF af.o (A P)) G.1;obtain⟨T,C⟩:=zz2 B (dC S.o B hP);clear G B
  cases b with
  | false =>
   have bR:(ks,a)=R:=by
    rw[←v.o]
    cases g with
    | zero=>rfl
    | succ g=>unfold eY;rw[oe (by rw[HB.o];decide)]
   have D:aM ts a [jY]=a:=by unfold aM;rw[oe (by rw[HB.o];decide)]
   rw[D]at z;have cc:=Hd bR;clear bR D;go_wp2_with fail
   go_ret;rw[←cc.o];exact⟨d1+1,u5,Z,z.o,uC (d:=d1+1) Z C.o (y.o.turn T.o hP) (fun h=>by omega)⟩
  | true =>
   obtain⟨q1,q2,q3⟩:=fD b5.o HT.o.2.k HB.o;have D:aM ts a [jY]=ae ts a:=by unfold aM;rw[oj HB.o]
   rw[D]at z;have cf:=Hd (bn.o (ae ts a) w2 P L cap z.o.2);have f:=bq.o (ae ts a);rw[q1]at f;have ch:=Hd f;obtain⟨g',b0,b1⟩:∃g',ts.length-(one (ae ts a)).2.1≤g'∧eY ts one g' (ks++[(one (ae ts a)).1]) (one (ae ts a)).2=R:=by
    have X:=v.o;have h2:=HG.o
    cases g with
    | zero=>omega
    | succ g =>
     refine⟨g,by omega,?_⟩;unfold eY at X;rw[oj HB.o]at X;exact X
   obtain⟨ck,cl⟩:=zz2 b0 b1;clear b0 b1 f D q1 q2;generalize one (ae ts a)=r2 at *;go_wp2_with fail
   refine JX cf.o ?_;rintro e j ⟨d2,s2,rfl,E,aq,b2⟩;obtain⟨p2,c2,rfl⟩:=aq.q;obtain⟨cm,cn,cp,cq⟩:=zz4 (z.o.h E) E.1 aq b2;have ar:=dC C.o E.1 hP;have cr:w2.heap.size≤j.heap.size:=E.1.size;have cW:ks.length+1≤16385:=by have:=Q.o;omega
   clear E aq b2;go_wp2_with (at_builtin;go_must (refine wpList_append_lies _ Z (.tmp 14) (.tmp 17) 143 Z w.heap.size 145 i0 _ 5 64 Tryz.underlying143 b7 b8 b9 ca Z (by decide) u5 ks.length rows.flatten Z (ownsRow_below ar ((JO _ j).alloc (JM _) _)) ⟨j.heap.size,0,Y⟩ 1 1 (aj r2.1 (O p2 r2.1.z.length c2)) Z Z (by exact F9 j (aj r2.1 (O p2 r2.1.z.length c2)) 145) (by simp[Value.oneCell',aj]) (by decide) (by unfold maxLen;omega) (by omega) (by simp;omega) (j.heap.size+1) (by simp) ?_);intro g7 cv w7 a1 a6 ba cy)
   have bb:=aP S.o;obtain⟨w4,bd⟩:=zzx (j.alloc (r7 (aj r2.1 (O p2 r2.1.z.length c2)).toArray 145));have bg:w4.grownBy w7 u5.ownBlock:=by rw[bd];exact a6
   have b3:Kr j w4:=by rw[bd];exact (JO _ j).alloc (JM _) _
   have cA:w4.heap.size=j.heap.size+1:=by rw[bd];simp
   have c0:=bg.size;have bk:=(cm.o.u b3).grownO hP b6.o.lt.2 bg (fun x V=>(bb x V).1);have b4:∀b,b<j.heap.size→u5.ownBlock≠A b→w7.heap[b]?=j.heap[b]?:=fun b X h2=>(bg.block b (by omega) (fun e=>h2 e.symm)).trans (b3.block b X)
   have e2:=cp.o.mores d1;rw[Nat.add_comm d2 d1]at e2;obtain⟨ct,bl⟩:=cI.nextT (W':=w7) (N:=j.heap.size) (own':=A g7) (t:=r2.1) (((y.o.turn T.o hP).deeper d2).longer Z [r2.1]) (by simp) cq.o
    (e2.K fun x o V ho=>(b4 x V.2 (fun e=>by have:=(bb x e).2;have:=V.1;omega)).trans ho) cr (by omega) (by omega) (by omega)
    (fun x X h2 F=>(b4 x (by omega) F).trans (cn.o.block x h2 (fun e=>by injection e with e;omega))) (fun x V=>by
     injection V with V
     subst V;rcases ba with h|h
     ·exact Or.inl ⟨h,by have:=(bb _ h).2;omega⟩
     ·right;omega)
   have c1:=ch.o;have c3:=bk.2.k;refine⟨⟨g',ks++[r2.1],r2.2,d1+d2,rows++[aj r2.1 (O p2 r2.1.z.length c2)],ct,cl.o,ck.o,?_,by simp,bk,?_,?_⟩,?_⟩
   ·have:=Q.o;rw[J2,Ko];omega
   ·rw[List.flatten_append]
    simpa using a1
   ·rw[J2,Ko];exact bl
   ·rw[bk.2.left,HT.o.2.left];omega
theorem pK{ts:List Tok}(H:cJ ts){F:FuncId}{one:PS→ac×PS}(k:∀(xs:Array tS)(w:J),(callFunc F xs).run va w=.ok (.enter F xs) w)(l:jN ts F one)(x:∀σ,σ.1≤(one σ).2.1)
  (σ:PS) (w:J) (P L cap:Nat) (h:PAt w P L cap ts σ.1 σ.2):vv va 119 #[vo (A ⟨P,0,Y⟩),z6 (.func F) #[vo (A ⟨P,0,Y⟩)] #[]] w (Av w P L cap ts (cD ts one σ)):=by
 have S:=Hd (di h fS);have y:=Hd (fun σ w P L cap h=>yc H k l x σ w P L cap h);have hP:=h.lt.1;have HP:=Hd h;obtain⟨R,z⟩:=zzy (cD ts one σ);rw[z];unfold cD at z;obtain⟨a,m⟩:=zzy (aQ ts σ fS);rw[m]at z S;have T:=Hd z;clear h z m k l x
 go_enter Tryz.func119,Tryz.ntmps119
 go_wp2_with fail
 refine JX S.o ?_;rintro e w1 ⟨rfl,j⟩;have q:Kr w1 (w1.alloc (r7 #[r9 iu] 9)):=(JO _ w1).alloc (JM _) _;obtain⟨K,B⟩:=zz2 (j.u q) (dK (j.2.C q) w1.heap.size 0 1 1 [iu] (bU [iu]) Z (by omega));obtain⟨b,n⟩:=zzy (isM ts a [iu]);rw[n]at B;have G:=Hd n;have W:w.heap.size≤w1.heap.size:=j.1.size;clear j q n;go_wp2_with fail
 refine JX B.o ?_;rintro e V ⟨rfl,C⟩;have g:=Hd (K.o.h C);clear C
 cases b with
 | true =>
  have i:aM ts a [iu]=ae ts a:=by unfold aM;rw[oj G.o]
  have f:=T.o;rw[oj G.o]at f;rw[i]at g;have t:=Hd f;clear f i;go_wp2_with fail
  go_ret;rw[←t.o];exact⟨0,O Y 0 0,Z,g.o,km _ _⟩
 | false =>
  have i:aM ts a [iu]=a:=by unfold aM;rw[oe (by rw[G.o];decide)]
  have f:=T.o;rw[oe (by rw[G.o];decide)]at f;rw[i]at g;have t:=Hd f;have X:=Hd (y.o a V P L cap g.o.2);clear f i;generalize jw ts one a=r at *;go_wp2_with fail
  refine JX X.o ?_;rintro e w3 ⟨d,s,rfl,u,D⟩;obtain⟨p,c,rfl⟩:=D.q;obtain⟨M,HO,N⟩:=zz3 (g.o.h u) D (di u.2 iu);have ad:w.heap.size≤V.heap.size:=g.o.1.size;clear u D;go_wp2_with fail
  refine JX N.o ?_;rintro e w4 ⟨rfl,v⟩;obtain⟨Q,E⟩:=zz2 (M.o.h v) v.1;clear v;go_wp2_with fail
  go_ret;rw[←t.o];exact⟨d,_,Z,Q.o,(HO.o.K fun b o n D=>bE E.o D (by have:=n.1;omega)).N fun b n=>⟨by have:=n.1;omega,JS n.2 E.o.size⟩⟩
def jl:ByteArray:=⟨#[116,101,115,116]⟩
def cB:ByteArray:=⟨#[59]⟩
def dL(ts:List Tok) (a:PS→ac×PS) (σ:PS):ac×PS:=
 if isM ts σ [jl]=true then (.mk 7 ⟨#[]⟩ 0 (atM ts σ) [(eP ts (ae ts σ)).1],aQ ts (eP ts (ae ts σ)).2 cB)
 else if isM ts σ [fw]=true then (.mk 6 (ofM ts (ae ts σ) 2 6).1.h 0 (atM ts σ) (cD ts a (ofM ts (ae ts σ) 2 6).2).1,aQ ts (cD ts a (ofM ts (ae ts σ) 2 6).2).2 cB)
 else (.mk 5 (ofM ts σ 2 5).1.h 0 (atM ts σ) (cD ts a (ofM ts σ 2 5).2).1,aQ ts (cD ts a (ofM ts σ 2 5).2).2 cB)
theorem rH{ts:List Tok}{a:PS→ac×PS}(b:∀σ,σ.1≤(a σ).2.1)(σ:PS):σ.1≤(dL ts a σ).2.1:=by
 unfold dL;have c:=(ff ts σ).1
 (repeat' split)
 ·exact JU c (JU (gk ts _) (bH ts _ _))
 ·exact JU c (JU (eu ts _ 2 6) (JU (iG b _) (bH ts _ _)))
 ·exact JU (eu ts _ 2 5) (JU (iG b _) (bH ts _ _))
theorem iP(a:Int)(x:ByteArray)(n p:Int)(l:Nat)(q:Option Addr)(c:Nat)(W:J):(Instr.field 145 (wP #[I r8 a,r9 x,I U n,I U p,O q l c]) 1).run va W=.ok (r9 x) W:=by kernel_rfl
theorem BF{ts:List Tok}(f:cJ ts):jN ts 120 (fun σ=>ofM ts σ 2 3):=by
 intro σ w P L cap h;have b:Kr w (w.alloc (r7 #[I r8 0,r9 ⟨#[]⟩,I U 0,I U 0,O Y 0 0] 145)):=(JO _ w).alloc (JM _) _;obtain⟨m,n⟩:=zz2 (jy f (h.C b) 3 (by omega)) (h.h b);have k:=h.lt.1;have q:=Hd h.lt.2;have t:=Hd (oc w (r7 #[I r8 0,r9 ⟨#[]⟩,I U 0,I U 0,O Y 0 0] 145));clear h b
 show vv _ _ _ _ (a7 w P L cap ts (ofM ts σ 2 3))
 generalize ofM ts σ 2 3=r at *
 go_enter Tryz.func120,Tryz.ntmps120
 go_wp2_with fail
 refine JX m.o ?_;rintro e w1 ⟨d,s,rfl,g,i,l⟩;obtain⟨p,c,rfl⟩:=i.q;have a:=g.q t.o k (JM _);have j:=Hd a;obtain⟨a0,a1,a2,a3,a4⟩:=cells5 a;have z0:=ab a 0;have y:=ab a 1;have z2:=ab a 2;have z3:=ab a 3;have z4:=ab a 4;obtain⟨u,v,x⟩:=zz3 (n.o.h g) i l;clear a g i l;go_wp2_with fail
 exact bw Tryz.results120 Z (aX j.o _ _ _ _ _) Z (a7.z k q.o u.o v.o x.o (JM _) (by simp) _ _ _ _ _)
theorem ip.K{a:Nat}{T:ac}{W W':J}{xs:List tS}(h:ip a T W xs)(c:∀b o,a≤b→W.heap[b]?=A o→W'.heap[b]?=A o):ip a T W' xs:=by
 obtain⟨d,g,N,s,e,f,i,j,k,l⟩:=h;exact⟨d,g,N,s,e,c g _ (by omega) f,i.K fun b o m n=>c b o m.1 n,j,k,l⟩
theorem Fx{ts:List Tok}(b8:cJ ts){ar:PS→ac×PS}(b7:jN ts 177 ar)(cy:∀σ,σ.1≤(ar σ).2.1):jN ts 146 (dL ts ar):=by
 intro σ w P L cap h;have b9:Kr w (w.alloc (r7 bM 145)):=(JO _ w).alloc (JM _) _;obtain⟨HC,H0⟩:=zz2 (gm (h.C b9)) (h.h b9);have m:=h.lt.1;obtain⟨HL,HX,V,af⟩:=zz4 h.lt.2 (oc w (r7 bM 145)) b8 (fun σ w P L cap h=>pK b8 (enters_of Tryz.func177 (by kernel_rfl) Z) b7 cy σ w P L cap h)
 have v:dL ts ar σ=(if isM ts σ [jl]=true then (.mk 7 ⟨#[]⟩ 0 (atM ts σ) [(eP ts (ae ts σ)).1],aQ ts (eP ts (ae ts σ)).2 cB)
   else if isM ts σ [fw]=true then (.mk 6 (ofM ts (ae ts σ) 2 6).1.h 0 (atM ts σ) (cD ts ar (ofM ts (ae ts σ) 2 6).2).1,aQ ts (cD ts ar (ofM ts (ae ts σ) 2 6).2).2 cB)
   else (.mk 5 (ofM ts σ 2 5).1.h 0 (atM ts σ) (cD ts ar (ofM ts σ 2 5).2).1,aQ ts (cD ts ar (ofM ts σ 2 5).2).2 cB)):=rfl
 obtain⟨R,ca⟩:=zzy (dL ts ar σ);rw[ca];rw[ca]at v;obtain⟨at_,cb⟩:=zzy (atM ts σ);rw[cb]at HC v;have HR:=Hd v;have W:Hid (0≤at_∧at_≤16384):=by
  show _∧_
  obtain⟨_,_,g3⟩:=de V.o σ.1;rw[←cb];unfold atM;omega
 clear h b9 b8 b7 cy ca v cb;generalize kdM ts σ=kd at HC;generalize txM ts σ=tx at HC
 go_enter Tryz.func146,Tryz.ntmps146
 go_wp2_with fail
 refine JX HC.o ?_;rintro e w1 ⟨rfl,cc⟩;have c7:=kF kd tx at_ w1;obtain⟨c8,cA⟩:=zz2 (H0.o.u cc) (aa cc HX.o (by simp));have z:w.heap.size<w1.heap.size:=(JL.1 cA.o).1;clear cc;obtain⟨wA,M⟩:=zzx (w1.alloc (r7 #[I r8 7,r9 ⟨#[]⟩,I U 0,I U at_,O Y 0 0] 145));have cC:wA.heap.size=w1.heap.size+1:=by rw[M];simp
 have cR:Hid (ah w P L cap ts σ.1 σ.2 wA):=by rw[M];exact c8.o.N _
 have cT:Hid (wA.heap[w1.heap.size]?=A (r7 #[I r8 7,r9 ⟨#[]⟩,I U 0,I U at_,O Y 0 0] 145 (0,0))):=by rw[M];exact oc w1 _
 have cV:Hid (wA.heap[w.heap.size]?=A (r7 bM 145 (0,0))):=by rw[M];exact (Kp w1 _ _ z).trans cA.o
 obtain⟨N,aq,a6⟩:=zz3 (cR.o.N (r7 #[r9 jl] 9)) ((Kp wA (r7 #[r9 jl] 9) w1.heap.size (by omega)).trans cT.o) ((Kp wA (r7 #[r9 jl] 9) w.heap.size (by omega)).trans cV.o);have j:=dK N.o.2 wA.heap.size 0 1 1 [jl] (bU [jl]) Z (by omega);rw[M,o3]at j;have ba:=Hd j;clear j;go_wp2_with fail
 refine JX ba.o ?_;rintro e w2 ⟨rfl,bb⟩;rw[←M]at bb;obtain⟨bd,cW,cf⟩:=zz3 (N.o.h bb) (bb.q a6.o m (JM _)) (bb.q aq.o m (Ke z));have c9:w1.heap.size<w2.heap.size:=(JL.1 cf.o).1;clear bb c7 cR cT cV N aq a6 M cC ba
 by_cases hm:isM ts σ [jl]=true
 ·have v:=HR.o;rw[oj hm]at v;have j:aM ts σ [jl]=ae ts σ:=by unfold aM;rw[oj hm]
  rw[j]at bd;rw[hm];have HE:=Hd (vO V.o bd.o.2);generalize eP ts (ae ts σ)=r at *;have b4:=Hd v;clear v j hm HR;go_wp2_with fail
  refine JX HE.o ?_;rintro e y ⟨d,s,rfl,bg,ho,hf⟩;obtain⟨p,c,rfl⟩:=ho.q;obtain⟨C,b5,b6⟩:=zz3 (bd.o.h bg) (bg.q cW.o m (JM _)) (bg.q cf.o m (Ke z));have c0:w2.heap.size≤y.heap.size:=bg.1.size;obtain⟨w4,bk⟩:=zzx (y.alloc (r7 #[I r8 r.1.q,r9 r.1.h,I U r.1.u,I U r.1.C,O p r.1.z.length c] 145));have bl:Kr y w4:=by rw[bk];exact (JO _ y).alloc (JM _) _
  have c1:ip w2.heap.size r.1 w4 [I U y.heap.size]:=⟨d,y.heap.size,y.heap.size,_,Z,by rw[bk];exact oc y _,ho.C (fun b K=>K.2) bl,hf,c0,JM _⟩;have D:=aa bl b5.o (by omega);have g:=aa bl b6.o (by omega);have c3:=C.o.u bl;have f4:=ab g 4;obtain⟨X,n1,n2,n3,n4⟩:=cells5 g;obtain⟨n,f⟩:=zzx (w4.setCell ⟨w1.heap.size,4,Y⟩ (O (A ⟨y.heap.size,0,Y⟩) 1 1));have ad:Hid (ah w P L cap ts r.2.1 r.2.2 n):=by rw[f];exact c3.K m HL.o (by omega) 4 _
  have bm:Hid (n.heap[w.heap.size]?=A (r7 bM 145 (0,0))):=by rw[f];exact (JQ _ _ _ _ (show w.heap.size≠w1.heap.size by omega)).trans D
  have bn:Hid (n.heap[w1.heap.size]?=A (r7 #[I r8 7,r9 ⟨#[]⟩,I U 0,I U at_,O (A ⟨y.heap.size,0,Y⟩) 1 1] 145 (0,0))):=by rw[f];exact heap_set g 4 _
  have dd:Hid (ip w2.heap.size r.1 n [I U y.heap.size]):=by rw[f];exact c1.K fun b o K hx=>(JQ _ _ _ _ (show b≠w1.heap.size by omega)).trans hx
  obtain⟨HW,H4,H5,c5⟩:=zz4 (di ad.o.2 cB) bk f g;clear bg ho hf bl c1 D g c3 f;rw[bk]at X n1 n2 n3 n4 f4;clear bk;go_upto_region 4 with fail
  change xv _ _ _ _ ((y.alloc (r7 #[I r8 r.1.q,r9 r.1.h,I U r.1.u,I U r.1.C,O p r.1.z.length c] 145)).setCell ⟨w1.heap.size,4,Y⟩ (O (A ⟨y.heap.size,0,Y⟩) 1 1));rw[←H4.o,←H5.o];clear X n1 n2 n3 n4 f4 H4 H5 c5;go_wp2_with fail
  refine JX HW.o ?_;rintro e w6 ⟨rfl,i⟩;have bq:=Hd (ad.o.h i);have t:=i.q bm.o m (JM _);have bt:=Hd t;obtain⟨X,n1,n2,n3,n4⟩:=cells5 (i.q bn.o m (by omega));obtain⟨d',g',c6,hO⟩:=(dd.o.u (Q:=P) (by omega) i.1).own;obtain rfl:y.heap.size=g':=by injection c6 with h1;injection h1 with _ h2;omega
  have HO:=Hd hO;obtain⟨a0,a1,a2,a3,a4⟩:=cells5 t;have z0:=ab t 0;have z1:=ab t 1;have z2:=ab t 2;have z3:=ab t 3;have z4:=ab t 4;clear i t c6 hO;go_wp2_with fail
  refine bw Tryz.results146 Z (aX bt.o _ _ _ _ _) Z ?_;rw[b4.o];exact a7.z (r:=(.mk 7 ⟨#[]⟩ 0 at_ [r.1],aQ ts r.2 cB)) (B:=w2.heap.size) m HL.o bq.o HO.o (fF (by omega) (by show (0:Nat)≤16384;omega) W.o.1 W.o.2) (JM _) (by omega) _ _ _ _ _
 ·have v:=HR.o;rw[oe hm]at v;have j:aM ts σ [jl]=σ:=by unfold aM;rw[oe hm]
  rw[j]at bd;have E:isM ts σ [jl]=false:=by simpa using hm
  rw[E];obtain⟨b4,N,aq,a6⟩:=zz4 v (bd.o.N (r7 #[r9 fw] 9)) ((Kp w2 (r7 #[r9 fw] 9) w1.heap.size c9).trans cf.o) ((Kp w2 (r7 #[r9 fw] 9) w.heap.size (by omega)).trans cW.o);have ba:=Hd (dK N.o.2 w2.heap.size 0 1 1 [fw] (bU [fw]) Z (by omega));clear v j hm E HR;go_wp2_with fail
  refine JX ba.o ?_;rintro e y ⟨rfl,bB⟩;obtain⟨C,b5,b6⟩:=zz3 (N.o.h bB) (bB.q a6.o m (JM _)) (bB.q aq.o m (Ke z));have c0:w2.heap.size≤y.heap.size:=by have:=bB.1.size;rw[o3]at this;omega
  clear bB N aq a6 ba
  by_cases hm:isM ts σ [fw]=true
  ·have v:=b4.o;rw[oj hm]at v;have j:aM ts σ [fw]=ae ts σ:=by unfold aM;rw[oj hm]
   rw[j]at C;have E:isM ts σ [fw]=true:=by simpa using hm
   rw[E];have ch:=Hd (jy V.o C.o.2 6 (by omega));have F:(ofM ts (ae ts σ) 2 6).1.h.size≤16384:=(de V.o _).2.1;generalize ofM ts (ae ts σ) 2 6=nm at *;obtain⟨bR,ck⟩:=zz2 F v;clear v j hm E F;go_wp2_with fail
   refine JX ch.o ?_;rintro e w4 ⟨d,s,rfl,u,ho,hf⟩;obtain⟨p,c,rfl⟩:=ho.q;have cl:=Hd (C.o.h u);have D:=u.q b5.o m (JM _);have g:=u.q b6.o m (Ke z);have dg:y.heap.size≤w4.heap.size:=u.1.size;obtain⟨n,f⟩:=zzx ((w4.setCell ⟨w1.heap.size,0,Y⟩ (I r8 6)).setCell ⟨w1.heap.size,1,Y⟩ (r9 nm.1.h));have S:ah w P L cap ts nm.2.1 nm.2.2 n:=by rw[f];exact (cl.o.K m HL.o (by omega) 0 _).K m HL.o (by omega) 1 _
   have b0:n.heap[w.heap.size]?=A (r7 bM 145 (0,0)):=by rw[f];exact (JQ _ _ _ _ (show w.heap.size≠w1.heap.size by omega)).trans ((JQ _ _ _ _ (show w.heap.size≠w1.heap.size by omega)).trans D)
   have b1:n.heap[w1.heap.size]?=A (r7 #[I r8 6,r9 nm.1.h,I U 0,I U at_,O Y 0 0] 145 (0,0)):=by rw[f];exact heap_set (heap_set g 0 _) 1 _
   have dn:n.heap.size=w4.heap.size:=by rw[f];simp[AF]
   obtain⟨ad,bm,bn,cm⟩:=zz4 S b0 b1 (af.o nm.2 n P L cap S.2);have f0:=ab g 0;have f1:=ab g 1;obtain⟨X,n1,n2,n3,n4⟩:=cells5 g;have H5:=Hd f;have cn:=iP nm.1.q nm.1.h nm.1.u nm.1.C nm.1.z.length p c w4;generalize cD ts ar nm.2=l at *;clear u ho hf D g S b0 b1 f;go_upto_region 9 with fail
   change xv _ _ _ _ ((w4.setCell ⟨w1.heap.size,0,Y⟩ (I r8 6)).setCell ⟨w1.heap.size,1,Y⟩ (r9 nm.1.h));rw[←H5.o];clear X n1 n2 n3 n4 f0 f1 H5 cn;go_wp2_with fail
   refine JX cm.o ?_;rintro e w6 ⟨d2,s2,rfl,i,T⟩;obtain⟨p2,c2,rfl⟩:=T.q;have bq:=Hd (ad.o.h i);have b2:=i.q bm.o m (JM _);have x:=i.q bn.o m (Ke z);have ds:n.heap.size≤w6.heap.size:=i.1.size;obtain⟨H,k⟩:=zzx (w6.setCell ⟨w1.heap.size,4,Y⟩ (O p2 l.1.length c2));have cp:H.heap.size=w6.heap.size:=by rw[k];simp[AF]
   have b3:Hid (ah w P L cap ts l.2.1 l.2.2 H):=by rw[k];exact bq.o.K m HL.o (by omega) 4 _
   have cq:Hid (H.heap[w.heap.size]?=A (r7 bM 145 (0,0))):=by rw[k];exact (JQ _ _ _ _ (show w.heap.size≠w1.heap.size by omega)).trans b2
   have cr:Hid (H.heap[w1.heap.size]?=A (r7 #[I r8 6,r9 nm.1.h,I U 0,I U at_,O p2 l.1.length c2] 145 (0,0))):=by rw[k];exact heap_set x 4 _
   have ct:Hid (OwnAt H d2 l.1 (O p2 l.1.length c2) (bI n.heap.size H.heap.size)):=by rw[cp,k];exact T.K fun b o K hx=>(JQ _ _ _ _ (show b≠w1.heap.size by have:=K.1;omega)).trans hx
   have HW:=Hd (di b3.o.2 cB);have f4:=ab x 4;obtain⟨X,n1,n2,n3,n4⟩:=cells5 x;have H7:=Hd k;clear i T b2 x k;go_upto_region 10 with fail
   change xv _ _ _ _ (w6.setCell ⟨w1.heap.size,4,Y⟩ (O p2 l.1.length c2));rw[←H7.o];clear X n1 n2 n3 n4 f4 H7;go_wp2_with fail
   refine JX HW.o ?_;rintro e w8 ⟨rfl,q⟩;have cu:=Hd (b3.o.h q);have t:=q.q cq.o m (JM _);have bt:=Hd t;obtain⟨X,n1,n2,n3,n4⟩:=cells5 (q.q cr.o m (by omega));have cv:=Hd ((ct.o.K fun b o K hx=>bE q.1 hx (by have:=K.1;omega)).N (G:=bI n.heap.size w8.heap.size) fun b K=>⟨K.1,JS K.2 q.1.size⟩);obtain⟨a0,a1,a2,a3,a4⟩:=cells5 t;have z0:=ab t 0;have z1:=ab t 1;have z2:=ab t 2;have z3:=ab t 3;have z4:=ab t 4;clear q t;go_wp2_with fail
   refine bw Tryz.results146 Z (aX bt.o _ _ _ _ _) Z ?_;rw[ck.o];exact a7.z (r:=(.mk 6 nm.1.h 0 at_ l.1,aQ ts l.2 cB)) (B:=n.heap.size) m HL.o cu.o cv.o (fF (by omega) bR.o W.o.1 W.o.2) (JM _) (by omega) _ _ _ _ _
  ·have v:=b4.o;rw[oe hm]at v;have j:aM ts σ [fw]=σ:=by unfold aM;rw[oe hm]
   rw[j]at C;have E:isM ts σ [fw]=false:=by simpa using hm
   rw[E];have ch:=Hd (jy V.o C.o.2 5 (by omega));have F:(ofM ts σ 2 5).1.h.size≤16384:=(de V.o _).2.1;generalize ofM ts σ 2 5=nm at *;obtain⟨bR,ck⟩:=zz2 F v;clear v j hm E F;go_wp2_with fail
   refine JX ch.o ?_;rintro e w4 ⟨d,s,rfl,u,ho,hf⟩;obtain⟨p,c,rfl⟩:=ho.q;have cl:=Hd (C.o.h u);have D:=u.q b5.o m (JM _);have g:=u.q b6.o m (Ke z);have dg:y.heap.size≤w4.heap.size:=u.1.size;obtain⟨n,f⟩:=zzx ((w4.setCell ⟨w1.heap.size,0,Y⟩ (I r8 5)).setCell ⟨w1.heap.size,1,Y⟩ (r9 nm.1.h));have S:ah w P L cap ts nm.2.1 nm.2.2 n:=by rw[f];exact (cl.o.K m HL.o (by omega) 0 _).K m HL.o (by omega) 1 _
   have b0:n.heap[w.heap.size]?=A (r7 bM 145 (0,0)):=by rw[f];exact (JQ _ _ _ _ (show w.heap.size≠w1.heap.size by omega)).trans ((JQ _ _ _ _ (show w.heap.size≠w1.heap.size by omega)).trans D)
   have b1:n.heap[w1.heap.size]?=A (r7 #[I r8 5,r9 nm.1.h,I U 0,I U at_,O Y 0 0] 145 (0,0)):=by rw[f];exact heap_set (heap_set g 0 _) 1 _
   have dn:n.heap.size=w4.heap.size:=by rw[f];simp[AF]
   obtain⟨ad,bm,bn,cm⟩:=zz4 S b0 b1 (af.o nm.2 n P L cap S.2);have f0:=ab g 0;have f1:=ab g 1;obtain⟨X,n1,n2,n3,n4⟩:=cells5 g;have H5:=Hd f;have cn:=iP nm.1.q nm.1.h nm.1.u nm.1.C nm.1.z.length p c w4;generalize cD ts ar nm.2=l at *;clear u ho hf D g S b0 b1 f;go_upto_region 9 with fail
   change xv _ _ _ _ ((w4.setCell ⟨w1.heap.size,0,Y⟩ (I r8 5)).setCell ⟨w1.heap.size,1,Y⟩ (r9 nm.1.h));rw[←H5.o];clear X n1 n2 n3 n4 f0 f1 H5 cn;go_wp2_with fail
   refine JX cm.o ?_;rintro e w6 ⟨d2,s2,rfl,i,T⟩;obtain⟨p2,c2,rfl⟩:=T.q;have bq:=Hd (ad.o.h i);have b2:=i.q bm.o m (JM _);have x:=i.q bn.o m (Ke z);have ds:n.heap.size≤w6.heap.size:=i.1.size;obtain⟨H,k⟩:=zzx (w6.setCell ⟨w1.heap.size,4,Y⟩ (O p2 l.1.length c2));have cp:H.heap.size=w6.heap.size:=by rw[k];simp[AF]
   have b3:Hid (ah w P L cap ts l.2.1 l.2.2 H):=by rw[k];exact bq.o.K m HL.o (by omega) 4 _
   have cq:Hid (H.heap[w.heap.size]?=A (r7 bM 145 (0,0))):=by rw[k];exact (JQ _ _ _ _ (show w.heap.size≠w1.heap.size by omega)).trans b2
   have cr:Hid (H.heap[w1.heap.size]?=A (r7 #[I r8 5,r9 nm.1.h,I U 0,I U at_,O p2 l.1.length c2] 145 (0,0))):=by rw[k];exact heap_set x 4 _
   have ct:Hid (OwnAt H d2 l.1 (O p2 l.1.length c2) (bI n.heap.size H.heap.size)):=by rw[cp,k];exact T.K fun b o K hx=>(JQ _ _ _ _ (show b≠w1.heap.size by have:=K.1;omega)).trans hx
   have HW:=Hd (di b3.o.2 cB);have f4:=ab x 4;obtain⟨X,n1,n2,n3,n4⟩:=cells5 x;have H7:=Hd k;clear i T b2 x k;go_upto_region 10 with fail
   change xv _ _ _ _ (w6.setCell ⟨w1.heap.size,4,Y⟩ (O p2 l.1.length c2));rw[←H7.o];clear X n1 n2 n3 n4 f4 H7;go_wp2_with fail
   refine JX HW.o ?_;rintro e w8 ⟨rfl,q⟩;have cu:=Hd (b3.o.h q);have t:=q.q cq.o m (JM _);have bt:=Hd t;obtain⟨X,n1,n2,n3,n4⟩:=cells5 (q.q cr.o m (by omega));have cv:=Hd ((ct.o.K fun b o K hx=>bE q.1 hx (by have:=K.1;omega)).N (G:=bI n.heap.size w8.heap.size) fun b K=>⟨K.1,JS K.2 q.1.size⟩);obtain⟨a0,a1,a2,a3,a4⟩:=cells5 t;have z0:=ab t 0;have z1:=ab t 1;have z2:=ab t 2;have z3:=ab t 3;have z4:=ab t 4;clear q t;go_wp2_with fail
   refine bw Tryz.results146 Z (aX bt.o _ _ _ _ _) Z ?_;rw[ck.o];exact a7.z (r:=(.mk 5 nm.1.h 0 at_ l.1,aQ ts l.2 cB)) (B:=n.heap.size) m HL.o cu.o cv.o (fF (by omega) bR.o W.o.1 W.o.2) (JM _) (by omega) _ _ _ _ _
def uI(ts:List Tok) (σ:PS):Bool:=kdM ts σ==4&&((number (txM ts σ).data.toList).isSome&&decide ((number (txM ts σ).data.toList).getD 0≤2147483647))
def gq(ts:List Tok) (σ:PS):Nat×PS:=if uI ts σ=true then ((number (txM ts σ).data.toList).getD 0,ae ts σ) else (0,(σ.1,true))
theorem qH(ts:List Tok)(σ:PS):σ.1≤(gq ts σ).2.1:=by
 unfold gq;split
 ·exact (ff ts σ).1
 ·exact JM _
theorem jM(ts:List Tok)(σ:PS):(gq ts σ).1≤2147483647:=by
 unfold gq;split
 ·rename_i h
  unfold uI at h;simp only[J4,oB]at h;exact h.2.2
 ·exact J0 _
theorem mI{ts:List Tok}(q:cJ ts){w:J}{P L cap:Nat}{σ:PS}(h:PAt w P L cap ts σ.1 σ.2) :
  vv va 145 #[vo (A ⟨P,0,Y⟩)] w fun e w'=>e=Ending.returned (I U (gq ts σ).1)∧ah w P L cap ts (gq ts σ).2.1 (gq ts σ).2.2 w':=by
 obtain⟨x,H⟩:=zz2 (gm h) h;have E:=h.lt.1;obtain⟨R,l⟩:=zzy (gq ts σ);rw[l];unfold gq uI at l;have r:(txM ts σ).size≤16384:=(de q σ.1).2.1;generalize kdM ts σ=kd at *;generalize txM ts σ=tx at *;generalize atM ts σ=at_ at *;have p:=Hd l;clear h l
 go_enter Tryz.func145,Tryz.ntmps145
 go_wp2_with fail
 refine JX x.o ?_;rintro e w1 ⟨rfl,g⟩;have j:Kr w1 (w1.alloc (r7 #[I r8 kd,r9 tx,I U at_] 192)):=(JO _ w1).alloc (JM _) _;obtain⟨y,z,B,C⟩:=zz4 (tq tx (w1.alloc (r7 #[I r8 kd,r9 tx,I U at_] 192)) r) (oc w1 (r7 #[I r8 kd,r9 tx,I U at_] 192)) (H.o.h (g.trans (j.mono g.size))) (show P<w1.heap.size by have:=g.size;omega);clear g j;generalize number tx.data.toList=n at *;go_wp2_with fail
 refine JX y.o ?_;rintro e F ⟨rfl,i⟩;have b:=Hd (B.o.u i);obtain⟨G,K,x2,_,_,_⟩:=cells3 (aa i z.o (by simp));obtain⟨m,c,_,_,D,M,f0,f1⟩:=b.o.2.z;obtain⟨f,s⟩:=zz2 (b.o.2.q true) (kR b.o.2);clear i D
 by_cases u:kd=4
 ·subst u
  cases n with
  | none =>
   have a:(0,(σ.1,true))=R:=by rw[←p.o];rfl
   have d:=Hd a;clear a;go_wp2_with fail
   go_ret;rw[←d.o];exact⟨Z,b.o.h f.o⟩
  | some n =>
   by_cases N:n≤2147483647
   ·have a:(n,ae ts σ)=R:=by
     rw[←p.o,oj (by simp;omega)];rfl
    have d:=Hd a;have v:decide ((2147483647:Int)<n)=false:=by simp;omega
    clear a;go_wp2_with fail
    refine JX s.o ?_;rintro e Q ⟨rfl,k⟩;have t:=Hd (b.o.h k);clear k;go_wp2_with fail
    go_ret;rw[←d.o];exact⟨Z,t.o⟩
   ·have a:(0,(σ.1,true))=R:=by
     rw[←p.o,oe (by simp;omega)]
    have d:=Hd a;have v:decide ((2147483647:Int)<n)=true:=by simp;omega
    clear a;go_wp2_with fail
    go_ret;rw[←d.o];exact⟨Z,b.o.h f.o⟩
 ·have a:(0,(σ.1,true))=R:=by
   rw[←p.o,oe (by simp[u])]
  have d:=Hd a;have v:((kd:Int)==4)=false:=by simp;omega
  have S:((kd:Int) != 4)=true:=by simp;omega
  clear a;go_wp2_with fail
  go_ret;rw[←d.o];exact⟨Z,b.o.h f.o⟩
