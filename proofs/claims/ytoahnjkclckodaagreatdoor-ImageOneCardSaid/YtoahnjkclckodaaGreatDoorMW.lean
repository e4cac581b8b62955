/- Parts of one proof, joined; conditions stand in each theorem. -/
import Derived.Test.YtoahnjkclckodaaGreatDoorMV
open Go renaming World→J,Value→tT,Calls→wg,wpQuiet_nil→xL
open Option renaming some→A,none→Y
open Go.Obj renaming cells→r9
open Go.Value renaming slice→O,int→I,string→tS,agg→xk,pointer→vv,func→z7
open Go.IntKind renaming i64→U,u8→tF
open Go.Proofs.Tryz renaming prog→vo
open Go.Code renaming wp→xD
open Go.World renaming setCell→AJ
namespace Go.Proofs.YtoahnjkclckodaaGreatDoor
set_option maxHeartbeats 2000000
set_option maxRecDepth 100000
open Go.RowKit
theorem OwnAt.mores{w:J}{d:Nat}{ks:List ac}{a:tT}{F:Nat→Prop}(h:OwnAt w d ks a F):∀n,OwnAt w (d+n) ks a F:=by
 intro n
 induction n with
 | zero=>exact h
 | succ n b=>exact b.more
theorem mZ{a T2:ac}{s1 s2:tT}{m:Nat}{u:tT}:((ai a s1)[m]?=A u→(ai a s1++ai T2 s2).toArray[0*5+m]?=A u)∧((ai T2 s2)[m]?=A u→(ai a s1++ai T2 s2).toArray[1*5+m]?=A u):=by
 refine⟨fun h=>?_,fun h=>?_⟩
 ·have hm:m<(ai a s1).length:=(FU.1 h).1;rw[List.getElem?_toArray,Nat.zero_mul,Nat.zero_add,Gf hm];exact h
 ·have b:(ai a s1).length=5:=by simp[ai]
  rw[List.getElem?_toArray,F7 (by omega),b];rw[show 1*5+m-5=m by omega];exact h
theorem Ej{W:J}{d1 d2 g:Nat}{f T2:ac}{s1 s2:tT}{k l F:Nat→Prop}(q:OwnAt W d1 f.z s1 k)(r:OwnAt W d2 T2.z s2 l)(f1:Fits f)(f2:Fits T2)
  (s:W.heap[g]?=A (r9 (ai f s1++ai T2 s2).toArray 145 (0,0))) (hF:F g) (n:∀b,k b→F b∧b≠g) (o:∀b,l b→F b∧b≠g) (h:∀b,k b→¬l b) :
  OwnAt W (d1+d2+1) [f,T2] (O (A ⟨g,0,Y⟩) 2 2) F:=by
 have t:=q.mores d2;have p:=r.mores d1;rw[Nat.add_comm d2 d1]at p;refine Or.inr ⟨g,2,(ai f s1++ai T2 s2).toArray,fun i b=>(i=0∧k b)∨(i=1∧l b),by simp,hF,Fy _,by unfold maxLen;omega,Z,s,by simp[ai],fun i w c=>?_,fun i b d=>?_,fun i j b v hi e=>?_⟩
 ·cases i with
  | zero =>
   simp at c;subst c;exact⟨f1,s1,fun m u hu=>mZ.1 hu,t.D fun b d=>Or.inl ⟨Z,d⟩⟩
  | succ i =>
   cases i with
   | zero =>
    simp at c;subst c;exact⟨f2,s2,fun m u hu=>mZ.2 hu,p.D fun b d=>Or.inr ⟨Z,d⟩⟩
   | succ i=>simp at c
 ·rcases d with ⟨_,d⟩|⟨_,d⟩
  ·exact n b d
  ·exact o b d
 ·rcases hi with ⟨a,hi⟩|⟨a,hi⟩
  ·rcases e with ⟨b',e⟩|⟨b',e⟩
   ·omega
   ·exact h b hi e
  ·rcases e with ⟨b',e⟩|⟨b',e⟩
   ·exact h b e hi
   ·omega
def oD(a:Nat) (b:ac) (s1:tT) (T2:ac) (W:J) (xs:List tT):Prop:=∃(d g N:Nat) (s:tT),xs=[I U g]∧W.heap[g]?=A (r9 (ai b s1++ai T2 s).toArray 145 (0,0))∧OwnAt W d T2.z s (bC a N)∧Fits T2∧a≤N∧N≤g
theorem oD.u{a Q:Nat}{c T2:ac}{s1:tT}{W W':J}{xs:List tT}(h:oD a c s1 T2 W xs)(q:Q<a)(e:W.grownBy W' (A Q)):oD a c s1 T2 W' xs:=by
 obtain⟨d,g,N,s,f,i,j,k,l,m⟩:=h;exact⟨d,g,N,s,f,bu e i (by omega),j.t fun b o n p=>bu e p (by have:=n.1;omega),k,l,m⟩
def leftOf(P:Nat) (w:J):Nat:=match w.cell? ⟨P,0,Y⟩ with|some (O _ m _)=>m|_=>0
theorem PAt.left{w:J}{P L cap:Nat}{ts:List Tok}{k:Nat}{bad:Bool}(h:PAt w P L cap ts k bad):leftOf P w=ts.length-k:=by
 obtain⟨m,c,b,d,a,_⟩:=h.z;unfold leftOf;rw[a]
 show m=_
 omega
theorem D9{lvl:Nat}(h:lvl<5){i:Nat}{s:ByteArray}(a:(iI lvl)[i]?=A s):(ki.map tS)[lvl*6+i]?=A (tS s):=by
 have hi:i<6:=by
  have:=(FU.1 a).1;have e:(iI lvl).length=6:=by
   match lvl,h with
   | 0,_=>rfl
   | 1,_=>rfl
   | 2,_=>rfl
   | 3,_=>rfl
   | 4,_=>rfl
  omega
 match lvl,h,i,hi with
 | 0,_,0,_|0,_,1,_|0,_,2,_|0,_,3,_|0,_,4,_|0,_,5,_
 | 1,_,0,_|1,_,1,_|1,_,2,_|1,_,3,_|1,_,4,_|1,_,5,_
 | 2,_,0,_|2,_,1,_|2,_,2,_|2,_,3,_|2,_,4,_|2,_,5,_
 | 3,_,0,_|3,_,1,_|3,_,2,_|3,_,3,_|3,_,4,_|3,_,5,_
 | 4,_,0,_|4,_,1,_|4,_,2,_|4,_,3,_|4,_,4,_|4,_,5,_ =>first|(injection a with a;subst a;rfl)
theorem Ct{lvl:Nat}(h:lvl<5):(iI lvl).length=6:=by
 match lvl,h with
 | 0,_=>rfl
 | 1,_=>rfl
 | 2,_=>rfl
 | 3,_=>rfl
 | 4,_=>rfl
theorem wI{w:J}{b lvl:Nat}(a:w.heap[b]?=A (r9 (ki.map tS).toArray 327 (0,0)))(h:lvl<5):kO w b (lvl*6) (iI lvl):=
 ⟨(Fx.1 a).1,fun i s c=>by
  rw[Gk _ _ _ _ _ _ a,List.getElem?_toArray]
  exact D9 h c⟩
theorem vL(a:Int)(x:ByteArray)(p:Int)(W:J):(Instr.field 192 (xk #[I tF a,tS x,I U p]) 1).run vo W=.ok (tS x) W:=by kernel_rfl
theorem j4(a:Int)(x:ByteArray)(p:Int)(W:J):(Instr.field 192 (xk #[I tF a,tS x,I U p]) 2).run vo W=.ok (I U p) W:=by kernel_rfl
def vh(w:J) (P L cap:Nat) (ts:List Tok) (ex:PS→ac×PS) (lvl:Nat) (pl:Int) (R:ac×PS) (e a c f:Nat) (wr:J):Prop:=
 ∃(g:Nat) (T:ac) (σ:PS) (d:Nat) (s:tT),gK ts ex lvl pl g T σ=R∧ts.length-σ.1≤g∧f≤σ.1∧ah w P L cap ts σ.1 σ.2 wr∧wr.heap[e]?=A (r9 bE 145 (0,0))∧wr.heap[a]?=A (r9 (ki.map tS).toArray 327 (0,0))∧
  wr.heap[c]?=A (r9 (ai T s).toArray 145 (0,0))∧OwnAt wr d T.z s (fun b=>a<b∧b<wr.heap.size∧b≠c)∧Fits T
theorem Ex{ts:List Tok}(c5:cg ts){f:Nat}(h1:t9 ts (f+1))(hE:vK ts f):vK ts (f+1):=by
 intro lvl σ w P L cap cb h hf;have c6:Gl w (w.alloc (r9 bE 145)):=(Fz _ w).alloc (Fy _) _;obtain⟨H0,hp⟩:=zz2 (h.h c6) h;have hP:=h.lt.1;obtain⟨HL,HX,cq,c7,cr,b3⟩:=zz6 h.lt.2 (oA w (r9 bE 145)) c5 h1 hE hf;obtain⟨R,a6⟩:=zzy (exM ts (f+1) lvl σ);rw[a6];have HR:=Hd a6;clear h c6 c5 h1 hE hf a6;have b4:=Hd (wZ (w.alloc (r9 bE 145)))
 go_enter Tryz.func204,Tryz.ntmps204
 go_wp2_with fail
 refine FN b4.o ?_;rintro e w1 ⟨rfl,ct⟩;obtain⟨c8,ba⟩:=zz2 (H0.o.t ct) (aa ct HX.o (by simp));have S:w.heap.size<w1.heap.size:=(Fx.1 ba.o).1;clear ct;obtain⟨vs,bk⟩:=zzy (ki.map tS);rw[bk];have hlen:vs.length=30:=by rw[←bk];rfl
 have cc:vs.toArray.all (·.oneCell')=true:=by rw[←bk];exact vz
 dsimp only
 iterate 4 (first|go_step|go_back)
 have hN:=oA w1 (r9 gw 327);have hB:=(Fz _ w1).alloc (Fy _) (r9 gw 327);change wpList _ _ _ _ _ (w1.alloc (r9 gw 327));generalize w1.alloc (r9 gw 327)=b5 at *;refine wpList_store_mid Z 327 _ _ Z w1.heap.size 0 vs.toArray Z Z (pD hN (by simp[hlen,gw])) (by simp only[List.size_toArray,hlen];kernel_rfl) cc ?_;have bl:=og (vs:=vs) hN (by simp[hlen,gw]);have cu:=nz (Fy _) vs 0 b5 hB;change wpList _ _ _ _ _ (b5.setCells w1.heap.size 0 vs);generalize b5.setCells w1.heap.size 0 vs=w2 at *;rw[←bk]at bl;obtain⟨c9,C,G⟩:=zz3 bl (c8.o.t cu) (aa cu ba.o S);have H:w1.heap.size<w2.heap.size:=(Fx.1 bl).1;have b4:Hid (lvl≤5):=cb;obtain⟨m,c,e1,e2,c0,c1,f0,f1⟩:=C.o.2.z;clear hN hB cu bl cc bk hlen e1 e2 c0 f0 f1 b5 cb
 cases q:σ.2 with
 | true =>
  rw[q]at c1;have hR:(fD,σ)=R:=by rw[←HR.o];unfold exM;rw[oE q]
  have cf:=Hd q;obtain⟨a0,a1,a2,a3,a4⟩:=cells5 G.o;have z0:=ab G.o 0;have z1:=ab G.o 1;have z2:=ab G.o 2;have z3:=ab G.o 3;have z4:=ab G.o 4;clear q;go_wp2_with fail
  refine bh Tryz.results204 Z (aO G.o _ _ _ _ _) Z ?_;rw[←hR];exact aR.z (r:=(fD,σ)) hP HL.o C.o (jO _ _) (fc (by omega) (by show (0:Nat)≤16384;omega) (by omega) (by omega)) (Fy _) (Nat.lt_trans S H) _ _ _ _ _
 | false =>
  rw[q]at c1;have cf:=Hd q
  by_cases b6:lvl=5
  ·subst b6;have HO:=Hd (c7.o σ w2 P L cap q C.o.2 (by have:=b3.o;omega));rw[HR.o]at HO;clear q;go_wp2_with fail
   refine FN HO.o ?_;rintro e w4 ⟨d,s,rfl,V,F,hf⟩;obtain⟨p,c,rfl⟩:=F.q;have hq:=Hd (C.o.h V);have y0:=V.q G.o hP (Fy _);have K:=Hd y0;obtain⟨a0,a1,a2,a3,a4⟩:=cells5 y0;have z0:=ab y0 0;have z1:=ab y0 1;have z2:=ab y0 2;have z3:=ab y0 3;have z4:=ab y0 4;obtain⟨HO,HF⟩:=zz2 F hf;clear V y0 F hf c1;go_wp2_with fail
   refine bh Tryz.results204 Z (aO K.o _ _ _ _ _) Z ?_;exact aR.z hP HL.o hq.o HO.o HF.o (Fy _) (Nat.lt_trans S H) _ _ _ _ _
  have hR:gK ts (exM ts f (lvl+1)) lvl (atM ts σ) ts.length (exM ts f (lvl+1) σ).1 (exM ts f (lvl+1) σ).2=R:=by
   rw[←HR.o]
   conv=>rhs;unfold exM
   rw[oB (by rw[q];decide),oB b6]
  have cv:lvl<5:=by have:=b4.o;omega
  have ch:((lvl:Int)==5)=false:=by simp;omega
  obtain⟨aq,ix⟩:=zz2 (fQ C.o.2) cv;have cy:0≤atM ts σ∧atM ts σ≤16384:=by
   obtain⟨_,_,g3⟩:=cM cq.o σ.1;unfold atM;omega
  obtain⟨at_,ck⟩:=zzy (atM ts σ);rw[ck]at cy hR aq;have dd:=Hd cy;generalize kdM ts σ=kd at aq;generalize txM ts σ=tx at aq;have dg:=Hd hR;clear HR hR cy ck q b6;go_wp2_with fail
  refine FN aq.o ?_;rintro e w3 ⟨rfl,bm⟩;obtain⟨bn,b7,bq⟩:=zz3 (C.o.t bm) (aa bm G.o (Nat.lt_trans S H)) (aa bm c9.o H);have hr:w2.heap.size≤w3.heap.size:=bm.size;have D:=Hd (cr.o (lvl+1) σ w3 P L cap (by omega) bn.o.2 (by have:=b3.o;omega));rw[Int.natCast_succ]at D;clear bm c1;have hs:=j4 kd tx at_ w3;go_wp2_with fail
  refine FN D.o ?_;rintro e w4 ⟨d,s,rfl,V,F,hf⟩;clear hs D b4 hp H0 HX ba c8 ch cf m c;obtain⟨p,c,rfl⟩:=F.q;have D:Hid (∀(σ:PS) (W:J),PAt W P L cap ts σ.1 σ.2→(ts.length-σ.1)*7+(6-(lvl+1))≤f→wg vo 204 #[vv (A ⟨P,0,Y⟩),I U (lvl+1)] W (aR W P L cap ts (exM ts f (lvl+1) σ))):=by
   intro σ W h1 h2;have:=cr.o (lvl+1) σ W P L cap (by omega) h1 h2;rw[Int.natCast_succ]at this;exact this
  have dn:Hid (∀σ,σ.1≤(exM ts f (lvl+1) σ).2.1):=fun σ=>BP ts f (lvl+1) σ
  have ds:Hid ((ts.length-σ.1)*7+(6-(lvl+1))≤f):=by show _≤_;have:=b3.o;omega
  have ht:Hid (σ.1≤(exM ts f (lvl+1) σ).2.1):=dn.o σ;generalize exM ts f (lvl+1)=ex at *;generalize ex σ=r at *;obtain⟨W0,b8⟩:=zzx (w4.alloc (r9 (ai r.1 (O p r.1.z.length c)).toArray 145));have bt:Gl w4 W0:=by rw[b8];exact (Fz _ w4).alloc (Fy _) _
  have cA:W0.heap[w4.heap.size]?=A (r9 (ai r.1 (O p r.1.z.length c)).toArray 145 (0,0)):=by rw[b8];exact oA w4 _
  have hv:w3.heap.size≤w4.heap.size:=V.1.size;have dt:=V.q b7.o hP (Fy _);have dv:=V.q bq.o hP (F8 S);have ar:Hid (vh w P L cap ts ex lvl at_ R w.heap.size w1.heap.size w4.heap.size σ.1 W0):=by
   refine⟨ts.length,r.1,r.2,d,O p r.1.z.length c,dg.o,Nat.sub_le _ _,ht.o,(bn.o.h V).t bt,aa bt dt (by omega),aa bt dv (by omega),cA,?_,hf⟩;refine (F.C (fun b j=>j.2) bt).D fun b j=>?_
   have h1:=j.1;have h2:=j.2;have h3:w4.heap.size<W0.heap.size:=(Fx.1 cA).1;exact⟨by omega,by omega,by omega⟩
  have h9:w1.heap.size<w4.heap.size:=by omega
  clear bt cA dt dv V F hf hv b3 cr dg b7 bq bn G c9 C H hr;go_wp2_with fail
  change xD _ _ _ _ (w4.alloc (r9 (ai r.1 (O p r.1.z.length c)).toArray 145));rw[←b8];clear b8
  go_loopw [8] (fun _ wr=>vh w P L cap ts ex lvl at_ R w.heap.size w1.heap.size w4.heap.size σ.1 wr) (fun _ wr=>leftOf P wr)
  case atStart=>exact ar.o
  case round =>
   clear ar W0;obtain⟨g,T,l,d1,s1,bB,hg,eg,hT,en,eo,cC,F,hf⟩:=hrel;obtain⟨p1,c1,rfl⟩:=F.q;obtain⟨HT,HO,HF,hx,ba,b7,bR⟩:=zz7 hT F hf en eo cC bB;obtain⟨HG,er⟩:=zz2 hg eg;have et:w4.heap.size<wr.heap.size:=(Fx.1 cC).1;clear hT F hf en eo cC bB hg eg;have iA:(0:Int)≤lvl:=by omega
   have b6:(lvl:Int)<5:=by omega
   have e5:∀x:Wb wr,wg vo 141 #[vv (A ⟨P,0,Y⟩),O (A ⟨w1.heap.size,lvl*6,Y⟩) 6 6] x.1 fun e w'=>e=Ending.returned (Value.bool (isM ts l (iI lvl)))∧Below x.1.heap.size x.1 w':=fun x =>oY (HT.o.2.C x.2) (f9 HT.o.2.k) w1.heap.size (lvl*6) 6 6 (iI lvl) (wI (aa x.2 ba.o (by omega)) cv) (Ct cv) (by omega)
   have e6:=Hd e5;have HM:Hid (isM ts l (iI lvl)=isM ts l (iI lvl)):=rfl;obtain⟨b,j⟩:=zzy (isM ts l (iI lvl));rw[j]at e6;have HB:=Hd j;clear e5 HM j;go_wp2_with fail
   refine al (by kernel_rfl) (by kernel_rfl) ?_
   repeat (go_big_quiet_step ((go_at_call 141;exact Calls.h (e6.o _))))
   refine xL ?_;intro W2 hy;obtain⟨⟨_,M⟩,rfl⟩:=hy;have iB:=Hd M;have e7:wr.heap.size≤W2.heap.size:=M.size;obtain⟨C,K,hz,e8,e9⟩:=zz5 (HT.o.t M) (aa M hx.o (by omega)) (aa M ba.o (by omega)) (aa M b7.o et) (HO.o.C (fun b j=>j.2.1) M);clear M
   cases b with
   | false =>
    have a6:(T,l)=R:=by
     rw[←bR.o]
     cases g with
     | zero=>rfl
     | succ g=>unfold gK;rw[oB (by rw[HB.o];decide)]
    have cR:=Hd a6;obtain⟨a0,a1,a2,a3,a4⟩:=cells5 K.o;have z0:=ab K.o 0;have z1:=ab K.o 1;have z2:=ab K.o 2;have z3:=ab K.o 3;have z4:=ab K.o 4;obtain⟨d0,bb,d2,d3,d4⟩:=cells5 e8.o;clear a6;go_wp2_with fail
    refine bh Tryz.results204 Z (aO K.o _ _ _ _ _) Z ?_;rw[←cR.o];exact aR.z (r:=(T,l)) (B:=w1.heap.size) hP HL.o C.o (e9.o.D (fun b j=>⟨F8 j.1,FG j.2.1 e7⟩)) HF.o (Fy _) S _ _ _ _ _
   | true =>
    have X:=Hd (fQ C.o.2);obtain⟨E,b0⟩:=zzy (txM ts l);rw[b0]at X;have fm:=Hd b0;generalize kdM ts l=hA at X;generalize atM ts l=hC at X;clear b0;go_wp2_with fail
    refine FN X.o ?_;rintro e w5 ⟨rfl,b9⟩;have hD:=vL hA E hC w5;have ch:W2.heap.size≤w5.heap.size:=b9.size;obtain⟨w6,cT⟩:=zzx (w5.alloc (r9 #[I tF 16,tS E,I U 0,I U at_,O Y 0 0] 145));have fr:Gl w5 w6:=by rw[cT];exact (Fz _ w5).alloc (Fy _) _
    have fs:Hid (w6.heap[w5.heap.size]?=A (r9 #[I tF 16,tS E,I U 0,I U at_,O Y 0 0] 145 (0,0))):=by show _=_;rw[cT];exact oA w5 _
    have Q:Gl W2 w6:=b9.trans (fr.mono b9.size);have iX:w5.heap.size<w6.heap.size:=(Fx.1 fs.o).1;obtain⟨ft,hG,hI,hJ,hK⟩:=zz5 (C.o.t Q) (aa Q K.o (by omega)) (aa Q hz.o (by omega)) (aa Q e8.o (by omega)) (e9.o.C (fun b j=>FG j.2.1 e7) Q);have hL:=Hd (kf ft.o.2);clear b9 fr Q;go_wp2_with fail
    rw[←cT];refine FN hL.o ?_;rintro e y ⟨rfl,cl⟩;have ad:ah w6 P L cap ts (ae ts l).1 (ae ts l).2 y:=cl;have fv:=Hd (ft.o.h ad);have jj:w6.heap.size≤y.heap.size:=ad.1.size;obtain⟨hM,hO,fz,hQ,hU⟩:=zz5 (ad.q hG.o hP (Fy _)) (ad.q hI.o hP (F8 S)) (ad.q hJ.o hP (by omega)) (ad.q fs.o hP (by omega)) (hK.o.t fun b o j F=>bu ad.1 F (by have:=j.1;omega));obtain⟨q1,q2,q3⟩:=eZ cq.o HT.o.2.k HB.o;have hV:=Hd (D.o (ae ts l) y.drew fv.o.2.drew (by rw[q1];have:=ds.o;have:=er.o;omega));have cV:=dn.o (ae ts l);rw[q1]at cV;have hW:=Hd cV;have hX:=Hd (show σ.1≤(ex (ae ts l)).2.1 by have:=er.o;omega);obtain⟨g',fI,fT⟩:∃g',ts.length-(ex (ae ts l)).2.1≤g'∧(if lvl=2 then (.mk 16 E 0 at_ [T,(ex (ae ts l)).1],(ex (ae ts l)).2) else gK ts ex lvl at_ g' (.mk 16 E 0 at_ [T,(ex (ae ts l)).1]) (ex (ae ts l)).2)=R:=by
     have h1:=bR.o;have h2:=HG.o
     cases g with
     | zero=>omega
     | succ g =>
      refine⟨g,by omega,?_⟩;unfold gK at h1;rw[oE HB.o,fm.o]at h1;exact h1
    obtain⟨hY,gf⟩:=zz2 fI fT;clear fI fT cV q1 q2 q3 cl ad;generalize ex (ae ts l)=r2 at *;have gD:Hid (E.size≤16384):=by show _≤_;rw[←fm.o];exact (cM cq.o l.1).2.1
    obtain⟨d0,bb,d2,d3,d4⟩:=cells5 fz.o;have b1:w4.heap.size≠P:=by omega
    have C0:=fun x:RE.Gr y P=>x.h d0 b1
    have C1:=fun x:RE.Gr y P=>x.h bb b1
    have C2:=fun x:RE.Gr y P=>x.h d2 b1
    have C3:=fun x:RE.Gr y P=>x.h d3 b1
    have C4:=fun x:RE.Gr y P=>x.h d4 b1
    have gE:P<y.heap.size:=by omega
    clear d0 bb d2 d3 d4 hD;go_wp2_with fail
    refine RE.u (by kernel_rfl) 6 [4,5] [4,5] (fun s W=>if s=0 then W=y.drew else ah y P L cap ts r2.2.1 r2.2.2 W) (fun W W'=>W.grownBy W' (A P))
     (fun i xs=>if i=4 then xk #[I tF r2.1.q,tS r2.1.h,I U r2.1.u,I U r2.1.t,xs.getD 0 undef] else O (A ⟨RE.natOf xs,0,Y⟩) 2 2)
     (fun i W xs=>if i=4 then fN y.heap.size r2.1 W xs else oD y.heap.size T (O p1 T.z.length c1) r2.1 W xs) (by kernel_rfl) (fun i h1 h2=>by rw[h1]at h2;cases h2) ?_ Z ?_
    ·intro k W W' xs h _ hg
     split at h
     ·rw[oE (by assumption)];exact h.u gE hg
     ·rw[oB (by assumption)];exact h.u gE hg
    simp only[FO,FY,FQ,FX,F9,List.length_nil,Nat.reduceAdd];have gF:∀(n s:Nat) (W:J),s≤n→(if s=0 then W=y.drew else ah y P L cap ts r2.2.1 r2.2.2 W)→∃x:RE.Gr y P,W=x.1:=fun n s W _ h=>by
     split at h
     ·exact⟨⟨W,by rw[h];exact grown_drewN (o3 y _) 1⟩,Z⟩
     ·exact⟨⟨W,h.1⟩,Z⟩
    have h0:=Hd gF;clear gF
    repeat (refine RE.q (fun W=>∃x:RE.Gr y P,W=x.1) (h0.o _) Z Z Z Z ?_;go_big_quiet_step (fail);refine xL ?_)
    refine RE.h Z Z ?_ (fun gH=>?_)
    ·intro W _ hS _;obtain rfl:W=y.drew:=hS Z;refine RE.z 204 _ _ Z (enters_of Tryz.func204 (by kernel_rfl) Z) #[vv (A ⟨P,0,Y⟩),I U (lvl+1)] (by simp[Act.eval]) (hV.o.mono ?_);rintro e W' ⟨d,s,rfl,hT,F,hf⟩;exact⟨_,Z,[s],Z,hT.u,hT.1,⟨d,s,Z,F,hf⟩⟩
    simp only[Act.put,FA,FM,FK];refine RE.h Z Z ?_ (fun gL=>?_)
    ·intro W _ hS h4;have hT:ah y P L cap ts r2.2.1 r2.2.2 W:=hS Z;obtain⟨d,s,rfl,F,hf⟩:fN y.heap.size r2.1 W gH:=h4 4 gH (by kernel_rfl) Z;obtain⟨p,c,rfl⟩:=F.q;refine RE.Upon.told (v:=O (A ⟨W.heap.size,0,Y⟩) 2 2) (w':=W.alloc (r9 (ai T (O p1 T.z.length c1)++ai r2.1 (O p r2.1.z.length c)).toArray 145)) ?_ ⟨[I U W.heap.size],Z,hT.D _,?_,?_⟩
     ·unfold RE.Upon
      go_simp
      rfl
     ·exact az ((Fz _ W).alloc (Fy _) _) _
     ·refine⟨d,W.heap.size,W.heap.size,_,Z,oA W _,?_,hf,hT.1.size,Fy _⟩;exact F.C (fun b j=>j.2) ((Fz _ W).alloc (Fy _) _)
    simp only[Act.put,FA,FM,FK];refine RE.t ?_;intro W3 hS hE;have af:ah y P L cap ts r2.2.1 r2.2.2 W3:=hS;obtain⟨d,gg,N,s2,rfl,cW,gM,gN,j2,bl⟩:=(show oD y.heap.size T (O p1 T.z.length c1) r2.1 W3 gL from hE 5 gL Z);have gO:gg<W3.heap.size:=(Fx.1 cW).1;have ih:y.heap.size≤W3.heap.size:=af.1.size;obtain⟨bn,h5,h6,bq,h7⟩:=zz5 (fv.o.h af) (af.q hM.o hP (Fy _)) (af.q hO.o hP (F8 S)) (af.q fz.o hP (by omega)) (af.q hQ.o hP (by omega));have gS:=hU.o.t fun b o j F=>bu af.1 F (by have:=j.1;omega)
    have gT:Hid (OwnAt W3 (d1+d+1) [T,r2.1] (O (A ⟨gg,0,Y⟩) 2 2) (fun b=>w1.heap.size<b∧b<W3.heap.size∧b≠w4.heap.size∧b≠w5.heap.size)):=by
     refine Ej gS gM HF.o gN cW ⟨by omega,gO,by omega,by omega⟩ (fun b j=>?_) (fun b j=>?_) (fun b j M=>?_)
     ·exact⟨⟨j.1,by have:=j.2.1;omega,j.2.2,by have:=j.2.1;omega⟩,by have:=j.2.1;omega⟩
     ·exact⟨⟨by have:=j.1;omega,by have:=j.2;omega,by have:=j.1;omega,by have:=j.1;omega⟩,by have:=j.2;omega⟩
     ·have:=j.2.1;have:=M.1;omega
    obtain⟨sl,ha⟩:=zzx (O (A ⟨gg,0,Y⟩) 2 2);obtain⟨Wn,bd⟩:=zzx (set5 (W3.setCell ⟨w5.heap.size,4,Y⟩ sl) w4.heap.size (I tF 16) (tS E) (I U 0) (I U at_) sl);have cm:Wn.heap.size=W3.heap.size:=by rw[bd,sT];simp[AJ]
    have z:∀b,b≠w4.heap.size→b≠w5.heap.size→Wn.heap[b]?=W3.heap[b]?:=fun b h1 h2=>by rw[bd,kq h1];exact FC _ _ _ b h2
    obtain⟨ca,u,hc⟩:=zz3 (show ah w P L cap ts r2.2.1 r2.2.2 Wn by rw[bd];exact (bn.o.z hP HL.o (by omega) 4 sl).set5 hP HL.o (by omega) _ _ _ _ _) ((z w.heap.size (by omega) (by omega)).trans h5.o) ((z w1.heap.size (by omega) (by omega)).trans h6.o);have cn:Hid (Wn.heap[w4.heap.size]?=A (r9 (ai (.mk 16 E 0 at_ [T,r2.1]) sl).toArray 145 (0,0))):=by
     show _=_
     rw[bd];exact aO ((FC _ _ _ _ (show w4.heap.size≠w5.heap.size by omega)).trans bq.o) _ _ _ _ _
    have hd:Hid (OwnAt Wn (d1+d+1) [T,r2.1] sl (fun b=>w1.heap.size<b∧b<Wn.heap.size∧b≠w4.heap.size)):=by
     rw[ha];exact (gT.o.t fun b o j F=>(z b j.2.2.1 j.2.2.2).trans F).D fun b j=>⟨j.1,by rw[cm];exact j.2.1,j.2.2.1⟩
    have hh:Fits (.mk 16 E 0 at_ [T,r2.1]):=fc (by omega) gD.o dd.o.1 dd.o.2;have hj:=Hd hh;have b2:leftOf P Wn<leftOf P wr:=by
     rw[ca.o.2.left,HT.o.2.left];have:=hW.o;have:=ca.o.2.k;omega
    have c3:=Hd b2;have y3:=bq.o;have y8:=h7.o;obtain⟨d0,bb,d2,d3,d4⟩:=cells5 y3;have z0:=ab y3 0;have z1:=ab y3 1;have z2:=ab y3 2;have z3:=ab y3 3;have z4:=ab y3 4;obtain⟨e0,e1,e2,e3,e4⟩:=cells5 y8;have x4:=ab y8 4;have h8:(w4.heap.size=w5.heap.size)=False:=by simp;omega
    have hk:(w5.heap.size=w4.heap.size)=False:=by simp;omega
    clear C0 C1 C2 C3 C4 hE hS af gS gM gN cW y3 y8 z b2 hh cm;subst ha;have hl:=Hd bd;clear bd h8 hk;go_upto_region 13 with fail
    change xD _ _ _ _ (set5 (W3.setCell ⟨w5.heap.size,4,Y⟩ (O (A ⟨gg,0,Y⟩) 2 2)) w4.heap.size (I tF 16) (tS E) (I U 0) (I U at_) (O (A ⟨gg,0,Y⟩) 2 2));rw[←hl.o];clear hl d0 bb d2 d3 d4 z0 z1 z2 z3 z4 e0 e1 e2 e3 e4 x4
    by_cases H:lvl=2
    ·have hR:=gf.o;rw[oE H]at hR;have cR:=Hd hR;have hn:((lvl:Int)==2)=true:=by simp;omega
     obtain⟨a0,a1,a2,a3,a4⟩:=cells5 u.o;have z0:=ab u.o 0;have z1:=ab u.o 1;have z2:=ab u.o 2;have z3:=ab u.o 3;have z4:=ab u.o 4;obtain⟨d0,bb,d2,d3,d4⟩:=cells5 cn.o;clear hR H;go_wp2_with fail
     refine bh Tryz.results204 Z (aO u.o _ _ _ _ _) Z ?_;rw[←cR.o];exact aR.z (r:=(.mk 16 E 0 at_ [T,r2.1],r2.2)) (B:=w1.heap.size) hP HL.o ca.o (hd.o.D (fun b j=>⟨F8 j.1,j.2.1⟩)) hj.o (Fy _) S _ _ _ _ _
    ·have hR:=gf.o;rw[oB H]at hR;have cp:vh w P L cap ts ex lvl at_ R w.heap.size w1.heap.size w4.heap.size σ.1 Wn:=
      ⟨g',_,r2.2,_,_,hR,hY.o,hX.o,ca.o,u.o,hc.o,cn.o,hd.o,hj.o⟩
     have ar:=Hd cp;have hn:((lvl:Int)==2)=false:=by simp;omega
     clear hR H cp;go_wp2_with fail
     exact⟨ar.o,c3.o⟩
theorem ER{ts:List Tok}(a:cg ts):∀f,t9 ts f∧vK ts f:=by
 intro f
 induction f with
 | zero=>exact⟨fun σ w P L cap _ _ d=>by omega,fun lvl σ w P L cap e _ d=>by omega⟩
 | succ f b =>
  have c:=Ei a b.1 b.2;exact⟨c,Ex a c b.2⟩
def ey(ts:List Tok) (σ:PS):ac×PS:=exM ts (ts.length*7+6) 0 σ
theorem fO(ts:List Tok)(σ:PS):σ.1≤(ey ts σ).2.1:=BP ts _ 0 σ
theorem tj{w:J}{P L cap:Nat}{ts:List Tok}(a:cg ts){σ:PS}(h:PAt w P L cap ts σ.1 σ.2):wg vo 176 #[vv (A ⟨P,0,Y⟩)] w (aR w P L cap ts (ey ts σ)):=
 sU (ER a _).2 σ w P L cap h (by have:(ts.length-σ.1)*7≤ts.length*7:=Nat.mul_le_mul_right _ (Nat.sub_le _ _);omega)
def jt:ByteArray:=⟨#[44]⟩
def eG(ts:List Tok) (one:PS→ac×PS):Nat→List ac→PS→List ac×PS
 | 0,ks,σ=>(ks,σ)
 | g+1,ks,σ=>if isM ts σ [jt]=true then eG ts one g (ks++[(one (ae ts σ)).1]) (one (ae ts σ)).2 else (ks,σ)
def i4(ts:List Tok) (one:PS→ac×PS) (σ:PS):List ac×PS:=eG ts one ts.length [(one σ).1] (one σ).2
def bV(ts:List Tok) (one:PS→ac×PS) (σ:PS):List ac×PS:=
 if isM ts (aI ts σ fl) [gJ]=true then ([],ae ts (aI ts σ fl))
 else ((i4 ts one (aI ts σ fl)).1,aI ts (i4 ts one (aI ts σ fl)).2 gJ)
theorem yy{ts:List Tok}{one:PS→ac×PS}(a:∀σ,σ.1≤(one σ).2.1):∀(g:Nat) (ks:List ac) (σ:PS),σ.1≤(eG ts one g ks σ).2.1:=by
 intro g
 induction g with
 | zero=>intro ks σ;exact Fy _
 | succ g b =>
  intro ks σ;unfold eG
  split
  ·exact FH (FH (eH ts σ).1 (a _)) (b _ _)
  ·exact Fy _
theorem rD{ts:List Tok}{one:PS→ac×PS}(a:∀σ,σ.1≤(one σ).2.1)(σ:PS):σ.1≤(i4 ts one σ).2.1:=FH (a σ) (yy a _ _ _)
theorem gZ{ts:List Tok}{one:PS→ac×PS}(b:∀σ,σ.1≤(one σ).2.1)(σ:PS):σ.1≤(bV ts one σ).2.1:=by
 unfold bV;have a:=bz ts σ fl
 split
 ·exact FH a (eH ts _).1
 ·exact FH (FH a (rD b _)) (bz ts _ _)
def xF(w:J) (P L cap:Nat) (ts:List Tok) (r:List ac×PS) (e:Ending) (w':J):Prop:=
 ∃(d:Nat) (s:tT),e=Ending.returned s∧ah w P L cap ts r.2.1 r.2.2 w'∧OwnAt w' d r.1 s (bC w.heap.size w'.heap.size)
theorem Cp(w:J)(l:List tT)(t:TypeId):∀(j:Nat) (u:tT),l[j]?=A u→(w.alloc (r9 l.toArray t)).cell? ((⟨w.heap.size,0,Y⟩:Addr).add j)=A u:=by
 intro j u hu;rw[Addr.add_mid,Gk _ _ _ _ _ _ (oA w _),Nat.zero_add]
 simpa using hu
theorem cd.deeper{W:J}{L d k:Nat}{ks:List ac}{own:Option Nat}{rows:List (List tT)}{e:Nat→Nat→Prop}(h:cd W L d ks k own rows e)(n:Nat):cd W L (d+n) ks k own rows e:=by
 obtain⟨f,g,j,l⟩:=h;exact⟨f,g,fun i T hi m=>by obtain⟨a,s,b,c⟩:=j i T hi m;exact⟨a,s,b,c.mores n⟩,l⟩
theorem cd.longer{W:J}{L d k:Nat}{ks:List ac}{own:Option Nat}{rows:List (List tT)}{a:Nat→Nat→Prop}(h:cd W L d ks k own rows a)(j:ks.length=k)(l:List ac):cd W L d (ks++l) k own rows a:=by
 obtain⟨c,e,f,g⟩:=h;exact⟨c,e,fun i T hi b=>f i T hi (by rw[Gf (by omega)]at b;exact b),g⟩
theorem cd.nextT{W W':J}{L d k N:Nat}{ks:List ac}{own own':Option Nat}{rows:List (List tT)}{w:Nat→Nat→Prop}{t:ac}{s:tT}(h:cd W L d ks k own rows w)
  (z:ks[k]?=A t) (B:Fits t) (C:OwnAt W' d t.z s (bC W.heap.size N)) (D:W.heap.size≤N) (R:N≤W'.heap.size) (S:L≤W.heap.size) (E:W.heap.size≤W'.heap.size)
  (m:∀b,L≤b→b<W.heap.size→own≠A b→W'.heap[b]?=W.heap[b]?) (l:∀b,own'=A b→(own=A b∧b<W.heap.size)∨N≤b) :
  ∃v,cd W' L d ks (k+1) own' (rows++[ai t s]) v:=by
 obtain⟨x,F,G,n,H,K⟩:=h;refine⟨fun i b=>if i=k then bC W.heap.size N b else w i b,by simp[x],fun r p=>?_,fun i T hi q=>?_,fun i b c=>?_,fun i j b u c f=>?_,fun i b c=>?_⟩
 ·rcases List.mem_append.1 p with p|p
  ·exact F r p
  ·simp at p;subst p;rfl
 ·by_cases a:i=k
  ·subst a;rw[z]at q;injection q with q
   subst q;refine⟨B,s,?_,?_⟩
   ·rw[F7 (by omega),x];simp
   ·simp only[o4];exact C
  ·obtain⟨a1,s',a2,a3⟩:=G i T (by omega) q;refine⟨a1,s',?_,?_⟩
   ·rw[Gf (by omega)];exact a2
   ·simp only[oB a];exact a3.t fun b o c M=>(m b (n i b c).1 (n i b c).2.1 (n i b c).2.2).trans M
 ·by_cases a:i=k
  ·simp only[oE a]at c;obtain⟨y,P⟩:=c;refine⟨by omega,by omega,fun e=>?_⟩;rcases l b e with h|h<;>omega
  ·simp only[oB a]at c;obtain⟨y,P,Q⟩:=n i b c;refine⟨y,by omega,fun e=>?_⟩;rcases l b e with h|h
   ·exact Q h.1
   ·omega
 ·by_cases a:i=k
  ·have g:j≠k:=fun e=>u (a.trans e.symm)
   simp only[oE a]at c;simp only[oB g]at f;have:=(n j b f).2.1;have:=c.1;omega
  ·simp only[oB a]at c
   by_cases g:j=k
   ·simp only[oE g]at f;have:=(n i b c).2.1;have:=f.1;omega
   ·simp only[oB g]at f;exact H i j b u c f
 ·by_cases a:i=k
  ·omega
  ·simp only[oB a]at c;have:=K i b c;omega
theorem lw(W:J)(L d:Nat)(ks:List ac):cd W L d ks 0 Y [] (fun _ _=>False):=
 ⟨Z,fun _ h=>absurd h Gc,fun _ _ hi _=>absurd hi (Nat.not_lt_zero _),fun _ _ h=>h.elim,fun _ _ _ _ h=>h.elim,fun _ _ h=>h.elim⟩
theorem cd.turn{W W':J}{L d k Q:Nat}{ks:List ac}{own:Option Nat}{rows:List (List tT)}{g:Nat→Nat→Prop}(h:cd W L d ks k own rows g)(j:W.grownBy W' (A Q))(v:Q<L):cd W' L d ks k own rows g:=by
 obtain⟨l,m,n,e,p,q⟩:=h;refine⟨l,m,fun i T hi r=>?_,fun i b f=>⟨(e i b f).1,FG (e i b f).2.1 j.size,(e i b f).2.2⟩,p,q⟩;obtain⟨a,s,b,c⟩:=n i T hi r;exact⟨a,s,b,c.t fun x o t u=>bu j u (by have:=(e i x t).1;omega)⟩
theorem dj{w w':J}{b Q:Nat}{e:TypeId}{size n:Nat}{v:tT}{xs:List tT}(h:w.ownsRow b e size v n xs)(a:w.grownBy w' (A Q))(d:Q<b):w'.ownsRow b e size v n xs:=by
 refine h.kept a ?_
 cases c:v.ownBlock with
 | none=>exact Or.inl Z
 | some k=>exact Or.inr (fun e=>by injection e with e;have:=(aL h k c).1;omega)
theorem wh(W:J){L:Nat}(a:L≤W.heap.size)(T:ac)(s:tT):(W.alloc (r9 (ai T s).toArray 145)).ownsRow L 145 5 (O (A ⟨W.heap.size,0,Y⟩) 1 1) 1 (ai T s):=by refine⟨by simp[ai],Or.inr ⟨W.heap.size,1,(ai T s).toArray,Z,a,oA W _,Fy _,by unfold maxLen;omega,by simp[ai],by simp[ai]⟩⟩
theorem ah.grownO{w W W':J}{P L cap:Nat}{ts:List Tok}{k:Nat}{bad:Bool}(h:ah w P L cap ts k bad W)(f:P<w.heap.size)(j:L<w.heap.size){row:Option Nat}(a:W.grownBy W' row)(b:∀g,row=A g→w.heap.size≤g):ah w P L cap ts k bad W':=by
 have c:∀i,i<w.heap.size→W'.heap[i]?=W.heap[i]?:=fun i hi=>a.block i (FG hi h.1.size) (fun e=>by have:=b i e.symm;omega)
 exact⟨⟨a.os.trans h.1.os,a.tape.trans h.1.tape,a.output.trans h.1.output,FH h.1.size a.size,fun i hi d=>(c i hi).trans (h.1.block i hi d)⟩,h.2.t (c P f) (c L j)⟩
def xu(w:J) (P L cap:Nat) (ts:List Tok) (one:PS→ac×PS) (R:List ac×PS) (o:tT) (W:J):Prop:=
 ∃(g:Nat) (ks:List ac) (σ:PS) (d:Nat) (rows:List (List tT)) (a:Nat→Nat→Prop),eG ts one g ks σ=R∧ts.length-σ.1≤g∧ks.length≤σ.1+1∧ks≠[]∧ah w P L cap ts σ.1 σ.2 W∧
  W.ownsRow w.heap.size 145 5 o ks.length rows.flatten∧cd W w.heap.size d ks ks.length o.ownBlock rows a
def jm(ts:List Tok) (g:FuncId) (one:PS→ac×PS):Prop:=∀(σ:PS) (w:J) (P L cap:Nat),PAt w P L cap ts σ.1 σ.2→wg vo g #[vv (A ⟨P,0,Y⟩)] w (aR w P L cap ts (one σ))
theorem uO{ts:List Tok}(bn:cg ts){gf:FuncId}{one:PS→ac×PS}(cv:∀(xs:Array tT)(w:J),(callFunc gf xs).run vo w=.ok (.enter gf xs) w)(l:jm ts gf one)(f:∀σ,σ.1≤(one σ).2.1)
  (σ:PS) (w:J) (P L cap:Nat) (h:PAt w P L cap ts σ.1 σ.2):wg vo 144 #[vv (A ⟨P,0,Y⟩),z7 (.func gf) #[vv (A ⟨P,0,Y⟩)] #[]] w (xF w P L cap ts (i4 ts one σ)):=by
 obtain⟨b6,bq,bt,HC⟩:=zz4 bn l f (l σ w P L cap h);have hP:=h.lt.1;have hn:=h.n;have b7:=Hd h;obtain⟨R,hR⟩:=zzy (i4 ts one σ);rw[hR];have HR:=Hd hR;obtain⟨i0,b8,b9,ca,cb⟩:=info_parts qq;clear bn l f h hR
 go_enter Tryz.func144,Tryz.ntmps144
 go_wp2_with fail
 refine FN HC.o ?_;rintro e w1 ⟨d,s,rfl,W,ho,hf⟩;obtain⟨p,c,rfl⟩:=ho.q;obtain⟨W0,m⟩:=zzx (w1.alloc (r9 (ai (one σ).1 (O p (one σ).1.z.length c)).toArray 145));have H:xu w P L cap ts one R (O (A ⟨w1.heap.size,0,Y⟩) 1 1) W0:=by
  have i:Gl w1 W0:=by rw[m];exact (Fz _ w1).alloc (Fy _) _
  have bB:=W.1.size;have f:=bt.o σ;have cc:=ho.C (fun b i=>i.2) i;have cR:W0.heap.size=w1.heap.size+1:=by rw[m];simp
  obtain⟨Fs,hr⟩:=cd.nextT (W':=W0) (N:=w1.heap.size) (own':=A w1.heap.size) (t:=(one σ).1) (lw w w.heap.size d [(one σ).1]) Z hf (cc.D fun b i=>i) bB (by omega) (Fy _) (by omega)
   (fun b X h2 _=>by omega) (fun b i=>by injection i with i;right;omega)
  refine⟨ts.length,[(one σ).1],(one σ).2,d,_,Fs,HR.o,Nat.sub_le _ _,by simp,by simp,W.t i,?_,hr⟩;rw[m]
  simpa using wh w1 bB (one σ).1 (O p (one σ).1.z.length c)
 have K:=Hd H;clear H W ho hf HC HR;generalize one σ=r at *;go_wp2_with fail
 change xD _ _ _ _ (w1.alloc (r9 (ai r.1 (O p r.1.z.length c)).toArray 145));rw[←m];clear m
 go_loopw [5] (fun o wr=>xu w P L cap ts one R o wr) (fun _ wr=>leftOf P wr)
 case atStart=>exact K.o
 case round =>
  clear K W0;obtain⟨g,ks,a,d1,rows,Fs,q,hg,hlen,F,hT,M,u⟩:=hrel;obtain⟨v,HG,Q,cT,HT,S,y⟩:=zz7 q hg hlen F hT M u;have cV:w.heap.size≤wr.heap.size:=hT.1.size;have ad:Gl wr (wr.alloc (r9 #[tS jt] 9)):=(Fz _ wr).alloc (Fy _) _;obtain⟨bR,af⟩:=zz2 (dy (hT.2.C ad) wr.heap.size 0 1 1 [jt] (bK [jt]) Z (by omega)) ad;obtain⟨b,i⟩:=zzy (isM ts a [jt]);rw[i]at bR;have HB:=Hd i;clear q hg hlen F hT M u ad i;go_wp2_with fail
  refine FN bR.o ?_;rintro e w2 ⟨rfl,G⟩;have z:=Hd ((HT.o.t af.o).h G);have cW:wr.heap.size≤w2.heap.size:=by have:=G.1.size;have:=af.o.size;omega
  have B:=o6 (az af.o (A P)) G.1;obtain⟨T,C⟩:=zz2 B (dj S.o B hP);clear G B
  cases b with
  | false =>
   have b0:(ks,a)=R:=by
    rw[←v.o]
    cases g with
    | zero=>rfl
    | succ g=>unfold eG;rw[oB (by rw[HB.o];decide)]
   have D:aF ts a [jt]=a:=by unfold aF;rw[oB (by rw[HB.o];decide)]
   rw[D]at z;have cf:=Hd b0;clear b0 D;go_wp2_with fail
   go_ret;rw[←cf.o];exact⟨d1+1,u5,Z,z.o,sh (d:=d1+1) Z C.o (y.o.turn T.o hP) (fun h=>by omega)⟩
  | true =>
   obtain⟨q1,q2,q3⟩:=eZ b6.o HT.o.2.k HB.o;have D:aF ts a [jt]=ae ts a:=by unfold aF;rw[oE HB.o]
   rw[D]at z;have ch:=Hd (bq.o (ae ts a) w2 P L cap z.o.2);have f:=bt.o (ae ts a);rw[q1]at f;have ck:=Hd f;obtain⟨g',b1,b2⟩:∃g',ts.length-(one (ae ts a)).2.1≤g'∧eG ts one g' (ks++[(one (ae ts a)).1]) (one (ae ts a)).2=R:=by
    have X:=v.o;have h2:=HG.o
    cases g with
    | zero=>omega
    | succ g =>
     refine⟨g,by omega,?_⟩;unfold eG at X;rw[oE HB.o]at X;exact X
   obtain⟨cl,cm⟩:=zz2 b1 b2;clear b1 b2 f D q1 q2;generalize one (ae ts a)=r2 at *;go_wp2_with fail
   refine FN ch.o ?_;rintro e j ⟨d2,s2,rfl,E,aq,b3⟩;obtain⟨p2,c2,rfl⟩:=aq.q;obtain⟨cn,cp,cq,cr⟩:=zz4 (z.o.h E) E.1 aq b3;have ar:=dj C.o E.1 hP;have ct:w2.heap.size≤j.heap.size:=E.1.size;have c0:ks.length+1≤16385:=by have:=Q.o;omega
   clear E aq b3;go_wp2_with (at_builtin;go_must (refine wpList_append_lies _ Z (.tmp 14) (.tmp 17) 143 Z w.heap.size 145 i0 _ 5 64 Tryz.underlying143 b8 b9 ca cb Z (by decide) u5 ks.length rows.flatten Z (ownsRow_below ar ((Fz _ j).alloc (Fy _) _)) ⟨j.heap.size,0,Y⟩ 1 1 (ai r2.1 (O p2 r2.1.z.length c2)) Z Z (by exact Cp j (ai r2.1 (O p2 r2.1.z.length c2)) 145) (by simp[Value.oneCell',ai]) (by decide) (by unfold maxLen;omega) (by omega) (by simp;omega) (j.heap.size+1) (by simp) ?_);intro g7 cy w7 a1 a6 ba cA)
   have bb:=aL S.o;obtain⟨w4,bd⟩:=zzx (j.alloc (r9 (ai r2.1 (O p2 r2.1.z.length c2)).toArray 145));have bk:w4.grownBy w7 u5.ownBlock:=by rw[bd];exact a6
   have b4:Gl j w4:=by rw[bd];exact (Fz _ j).alloc (Fy _) _
   have cC:w4.heap.size=j.heap.size+1:=by rw[bd];simp
   have c1:=bk.size;have bl:=(cn.o.t b4).grownO hP b7.o.lt.2 bk (fun x V=>(bb x V).1);have b5:∀b,b<j.heap.size→u5.ownBlock≠A b→w7.heap[b]?=j.heap[b]?:=fun b X h2=>(bk.block b (by omega) (fun e=>h2 e.symm)).trans (b4.block b X)
   have e2:=cq.o.mores d1;rw[Nat.add_comm d2 d1]at e2;obtain⟨cu,bm⟩:=cd.nextT (W':=w7) (N:=j.heap.size) (own':=A g7) (t:=r2.1) (((y.o.turn T.o hP).deeper d2).longer Z [r2.1]) (by simp) cr.o
    (e2.t fun x o V ho=>(b5 x V.2 (fun e=>by have:=(bb x e).2;have:=V.1;omega)).trans ho) ct (by omega) (by omega) (by omega)
    (fun x X h2 F=>(b5 x (by omega) F).trans (cp.o.block x h2 (fun e=>by injection e with e;omega))) (fun x V=>by
     injection V with V
     subst V;rcases ba with h|h
     ·exact Or.inl ⟨h,by have:=(bb _ h).2;omega⟩
     ·right;omega)
   have c3:=ck.o;have c5:=bl.2.k;refine⟨⟨g',ks++[r2.1],r2.2,d1+d2,rows++[ai r2.1 (O p2 r2.1.z.length c2)],cu,cm.o,cl.o,?_,by simp,bl,?_,?_⟩,?_⟩
   ·have:=Q.o;rw[FT,Gi];omega
   ·rw[List.flatten_append]
    simpa using a1
   ·rw[FT,Gi];exact bm
   ·rw[bl.2.left,HT.o.2.left];omega
theorem nO{ts:List Tok}(H:cg ts){F:FuncId}{one:PS→ac×PS}(k:∀(xs:Array tT)(w:J),(callFunc F xs).run vo w=.ok (.enter F xs) w)(l:jm ts F one)(x:∀σ,σ.1≤(one σ).2.1)
  (σ:PS) (w:J) (P L cap:Nat) (h:PAt w P L cap ts σ.1 σ.2):wg vo 119 #[vv (A ⟨P,0,Y⟩),z7 (.func F) #[vv (A ⟨P,0,Y⟩)] #[]] w (xF w P L cap ts (bV ts one σ)):=by
 have S:=Hd (cN h fl);have y:=Hd (fun σ w P L cap h=>uO H k l x σ w P L cap h);have hP:=h.lt.1;have HP:=Hd h;obtain⟨R,z⟩:=zzy (bV ts one σ);rw[z];unfold bV at z;obtain⟨a,m⟩:=zzy (aI ts σ fl);rw[m]at z S;have T:=Hd z;clear h z m k l x
 go_enter Tryz.func119,Tryz.ntmps119
 go_wp2_with fail
 refine FN S.o ?_;rintro e w1 ⟨rfl,j⟩;have q:Gl w1 (w1.alloc (r9 #[tS gJ] 9)):=(Fz _ w1).alloc (Fy _) _;obtain⟨K,B⟩:=zz2 (j.t q) (dy (j.2.C q) w1.heap.size 0 1 1 [gJ] (bK [gJ]) Z (by omega));obtain⟨b,n⟩:=zzy (isM ts a [gJ]);rw[n]at B;have G:=Hd n;have W:w.heap.size≤w1.heap.size:=j.1.size;clear j q n;go_wp2_with fail
 refine FN B.o ?_;rintro e V ⟨rfl,C⟩;have g:=Hd (K.o.h C);clear C
 cases b with
 | true =>
  have i:aF ts a [gJ]=ae ts a:=by unfold aF;rw[oE G.o]
  have f:=T.o;rw[oE G.o]at f;rw[i]at g;have t:=Hd f;clear f i;go_wp2_with fail
  go_ret;rw[←t.o];exact⟨0,O Y 0 0,Z,g.o,jO _ _⟩
 | false =>
  have i:aF ts a [gJ]=a:=by unfold aF;rw[oB (by rw[G.o];decide)]
  have f:=T.o;rw[oB (by rw[G.o];decide)]at f;rw[i]at g;have t:=Hd f;have X:=Hd (y.o a V P L cap g.o.2);clear f i;generalize i4 ts one a=r at *;go_wp2_with fail
  refine FN X.o ?_;rintro e w3 ⟨d,s,rfl,u,D⟩;obtain⟨p,c,rfl⟩:=D.q;obtain⟨M,HO,N⟩:=zz3 (g.o.h u) D (cN u.2 gJ);have ad:w.heap.size≤V.heap.size:=g.o.1.size;clear u D;go_wp2_with fail
  refine FN N.o ?_;rintro e w4 ⟨rfl,v⟩;obtain⟨Q,E⟩:=zz2 (M.o.h v) v.1;clear v;go_wp2_with fail
  go_ret;rw[←t.o];exact⟨d,_,Z,Q.o,(HO.o.t fun b o n D=>bu E.o D (by have:=n.1;omega)).D fun b n=>⟨by have:=n.1;omega,FG n.2 E.o.size⟩⟩
def iP:ByteArray:=⟨#[116,101,115,116]⟩
def bU:ByteArray:=⟨#[59]⟩
def dz(ts:List Tok) (a:PS→ac×PS) (σ:PS):ac×PS:=
 if isM ts σ [iP]=true then (.mk 7 ⟨#[]⟩ 0 (atM ts σ) [(ey ts (ae ts σ)).1],aI ts (ey ts (ae ts σ)).2 bU)
 else if isM ts σ [eS]=true then (.mk 6 (ofM ts (ae ts σ) 2 6).1.h 0 (atM ts σ) (bV ts a (ofM ts (ae ts σ) 2 6).2).1,aI ts (bV ts a (ofM ts (ae ts σ) 2 6).2).2 bU)
 else (.mk 5 (ofM ts σ 2 5).1.h 0 (atM ts σ) (bV ts a (ofM ts σ 2 5).2).1,aI ts (bV ts a (ofM ts σ 2 5).2).2 bU)
theorem pQ{ts:List Tok}{a:PS→ac×PS}(b:∀σ,σ.1≤(a σ).2.1)(σ:PS):σ.1≤(dz ts a σ).2.1:=by
 unfold dz;have c:=(eH ts σ).1
 (repeat' split)
 ·exact FH c (FH (fO ts _) (bz ts _ _))
 ·exact FH c (FH (d6 ts _ 2 6) (FH (gZ b _) (bz ts _ _)))
 ·exact FH (d6 ts _ 2 5) (FH (gZ b _) (bz ts _ _))
theorem ik(a:Int)(x:ByteArray)(n p:Int)(l:Nat)(q:Option Addr)(c:Nat)(W:J):(Instr.field 145 (xk #[I tF a,tS x,I U n,I U p,O q l c]) 1).run vo W=.ok (tS x) W:=by kernel_rfl
theorem yJ{ts:List Tok}(f:cg ts):jm ts 120 (fun σ=>ofM ts σ 2 3):=by
 intro σ w P L cap h;have b:Gl w (w.alloc (r9 #[I tF 0,tS ⟨#[]⟩,I U 0,I U 0,O Y 0 0] 145)):=(Fz _ w).alloc (Fy _) _;obtain⟨m,n⟩:=zz2 (i6 f (h.C b) 3 (by omega)) (h.h b);have k:=h.lt.1;have q:=Hd h.lt.2;have t:=Hd (oA w (r9 #[I tF 0,tS ⟨#[]⟩,I U 0,I U 0,O Y 0 0] 145));clear h b
 show wg _ _ _ _ (aR w P L cap ts (ofM ts σ 2 3))
 generalize ofM ts σ 2 3=r at *
 go_enter Tryz.func120,Tryz.ntmps120
 go_wp2_with fail
 refine FN m.o ?_;rintro e w1 ⟨d,s,rfl,g,i,l⟩;obtain⟨p,c,rfl⟩:=i.q;have a:=g.q t.o k (Fy _);have j:=Hd a;obtain⟨a0,a1,a2,a3,a4⟩:=cells5 a;have z0:=ab a 0;have y:=ab a 1;have z2:=ab a 2;have z3:=ab a 3;have z4:=ab a 4;obtain⟨u,v,x⟩:=zz3 (n.o.h g) i l;clear a g i l;go_wp2_with fail
 exact bh Tryz.results120 Z (aO j.o _ _ _ _ _) Z (aR.z k q.o u.o v.o x.o (Fy _) (by simp) _ _ _ _ _)
theorem gA.t{a:Nat}{T:ac}{W W':J}{xs:List tT}(h:gA a T W xs)(c:∀b o,a≤b→W.heap[b]?=A o→W'.heap[b]?=A o):gA a T W' xs:=by
 obtain⟨d,g,N,s,e,f,i,j,k,l⟩:=h;exact⟨d,g,N,s,e,c g _ (by omega) f,i.t fun b o m n=>c b o m.1 n,j,k,l⟩
theorem BU{ts:List Tok}(b9:cg ts){ar:PS→ac×PS}(b8:jm ts 177 ar)(cA:∀σ,σ.1≤(ar σ).2.1):jm ts 146 (dz ts ar):=by
 intro σ w P L cap h;have ca:Gl w (w.alloc (r9 bE 145)):=(Fz _ w).alloc (Fy _) _;obtain⟨HC,H0⟩:=zz2 (fQ (h.C ca)) (h.h ca);have m:=h.lt.1;obtain⟨HL,HX,V,af⟩:=zz4 h.lt.2 (oA w (r9 bE 145)) b9 (fun σ w P L cap h=>nO b9 (enters_of Tryz.func177 (by kernel_rfl) Z) b8 cA σ w P L cap h)
 have v:dz ts ar σ=(if isM ts σ [iP]=true then (.mk 7 ⟨#[]⟩ 0 (atM ts σ) [(ey ts (ae ts σ)).1],aI ts (ey ts (ae ts σ)).2 bU)
   else if isM ts σ [eS]=true then (.mk 6 (ofM ts (ae ts σ) 2 6).1.h 0 (atM ts σ) (bV ts ar (ofM ts (ae ts σ) 2 6).2).1,aI ts (bV ts ar (ofM ts (ae ts σ) 2 6).2).2 bU)
   else (.mk 5 (ofM ts σ 2 5).1.h 0 (atM ts σ) (bV ts ar (ofM ts σ 2 5).2).1,aI ts (bV ts ar (ofM ts σ 2 5).2).2 bU)):=rfl
 obtain⟨R,cb⟩:=zzy (dz ts ar σ);rw[cb];rw[cb]at v;obtain⟨at_,cc⟩:=zzy (atM ts σ);rw[cc]at HC v;have HR:=Hd v;have W:Hid (0≤at_∧at_≤16384):=by
  show _∧_
  obtain⟨_,_,g3⟩:=cM V.o σ.1;rw[←cc];unfold atM;omega
 clear h ca b9 b8 cA cb v cc;generalize kdM ts σ=kd at HC;generalize txM ts σ=tx at HC
 go_enter Tryz.func146,Tryz.ntmps146
 go_wp2_with fail
 refine FN HC.o ?_;rintro e w1 ⟨rfl,cf⟩;have c8:=j4 kd tx at_ w1;obtain⟨c9,cC⟩:=zz2 (H0.o.t cf) (aa cf HX.o (by simp));have z:w.heap.size<w1.heap.size:=(Fx.1 cC.o).1;clear cf;obtain⟨wA,M⟩:=zzx (w1.alloc (r9 #[I tF 7,tS ⟨#[]⟩,I U 0,I U at_,O Y 0 0] 145));have cR:wA.heap.size=w1.heap.size+1:=by rw[M];simp
 have cT:Hid (ah w P L cap ts σ.1 σ.2 wA):=by rw[M];exact c9.o.D _
 have cV:Hid (wA.heap[w1.heap.size]?=A (r9 #[I tF 7,tS ⟨#[]⟩,I U 0,I U at_,O Y 0 0] 145 (0,0))):=by rw[M];exact oA w1 _
 have cW:Hid (wA.heap[w.heap.size]?=A (r9 bE 145 (0,0))):=by rw[M];exact (Gj w1 _ _ z).trans cC.o
 obtain⟨N,aq,a6⟩:=zz3 (cT.o.D (r9 #[tS iP] 9)) ((Gj wA (r9 #[tS iP] 9) w1.heap.size (by omega)).trans cV.o) ((Gj wA (r9 #[tS iP] 9) w.heap.size (by omega)).trans cW.o);have j:=dy N.o.2 wA.heap.size 0 1 1 [iP] (bK [iP]) Z (by omega);rw[M,o5]at j;have ba:=Hd j;clear j;go_wp2_with fail
 refine FN ba.o ?_;rintro e w2 ⟨rfl,bb⟩;rw[←M]at bb;obtain⟨bd,c0,ch⟩:=zz3 (N.o.h bb) (bb.q a6.o m (Fy _)) (bb.q aq.o m (F8 z));have dd:w1.heap.size<w2.heap.size:=(Fx.1 ch.o).1;clear bb c8 cT cV cW N aq a6 M cR ba
 by_cases hm:isM ts σ [iP]=true
 ·have v:=HR.o;rw[oE hm]at v;have j:aF ts σ [iP]=ae ts σ:=by unfold aF;rw[oE hm]
  rw[j]at bd;rw[hm];have HE:=Hd (tj V.o bd.o.2);generalize ey ts (ae ts σ)=r at *;have b5:=Hd v;clear v j hm HR;go_wp2_with fail
  refine FN HE.o ?_;rintro e y ⟨d,s,rfl,bk,ho,hf⟩;obtain⟨p,c,rfl⟩:=ho.q;obtain⟨C,b6,b7⟩:=zz3 (bd.o.h bk) (bk.q c0.o m (Fy _)) (bk.q ch.o m (F8 z));have c1:w2.heap.size≤y.heap.size:=bk.1.size;obtain⟨w4,bl⟩:=zzx (y.alloc (r9 #[I tF r.1.q,tS r.1.h,I U r.1.u,I U r.1.t,O p r.1.z.length c] 145));have bm:Gl y w4:=by rw[bl];exact (Fz _ y).alloc (Fy _) _
  have c3:gA w2.heap.size r.1 w4 [I U y.heap.size]:=⟨d,y.heap.size,y.heap.size,_,Z,by rw[bl];exact oA y _,ho.C (fun b K=>K.2) bm,hf,c1,Fy _⟩;have D:=aa bm b6.o (by omega);have g:=aa bm b7.o (by omega);have c5:=C.o.t bm;have f4:=ab g 4;obtain⟨X,n1,n2,n3,n4⟩:=cells5 g;obtain⟨n,f⟩:=zzx (w4.setCell ⟨w1.heap.size,4,Y⟩ (O (A ⟨y.heap.size,0,Y⟩) 1 1));have ad:Hid (ah w P L cap ts r.2.1 r.2.2 n):=by rw[f];exact c5.z m HL.o (by omega) 4 _
  have bn:Hid (n.heap[w.heap.size]?=A (r9 bE 145 (0,0))):=by rw[f];exact (FC _ _ _ _ (show w.heap.size≠w1.heap.size by omega)).trans D
  have bq:Hid (n.heap[w1.heap.size]?=A (r9 #[I tF 7,tS ⟨#[]⟩,I U 0,I U at_,O (A ⟨y.heap.size,0,Y⟩) 1 1] 145 (0,0))):=by rw[f];exact heap_set g 4 _
  have dg:Hid (gA w2.heap.size r.1 n [I U y.heap.size]):=by rw[f];exact c3.t fun b o K hx=>(FC _ _ _ _ (show b≠w1.heap.size by omega)).trans hx
  obtain⟨HW,H4,H5,c6⟩:=zz4 (cN ad.o.2 bU) bl f g;clear bk ho hf bm c3 D g c5 f;rw[bl]at X n1 n2 n3 n4 f4;clear bl;go_upto_region 4 with fail
  change xD _ _ _ _ ((y.alloc (r9 #[I tF r.1.q,tS r.1.h,I U r.1.u,I U r.1.t,O p r.1.z.length c] 145)).setCell ⟨w1.heap.size,4,Y⟩ (O (A ⟨y.heap.size,0,Y⟩) 1 1));rw[←H4.o,←H5.o];clear X n1 n2 n3 n4 f4 H4 H5 c6;go_wp2_with fail
  refine FN HW.o ?_;rintro e w6 ⟨rfl,i⟩;have bt:=Hd (ad.o.h i);have t:=i.q bn.o m (Fy _);have bB:=Hd t;obtain⟨X,n1,n2,n3,n4⟩:=cells5 (i.q bq.o m (by omega));obtain⟨d',g',c7,hO⟩:=(dg.o.u (Q:=P) (by omega) i.1).own;obtain rfl:y.heap.size=g':=by injection c7 with h1;injection h1 with _ h2;omega
  have HO:=Hd hO;obtain⟨a0,a1,a2,a3,a4⟩:=cells5 t;have z0:=ab t 0;have z1:=ab t 1;have z2:=ab t 2;have z3:=ab t 3;have z4:=ab t 4;clear i t c7 hO;go_wp2_with fail
  refine bh Tryz.results146 Z (aO bB.o _ _ _ _ _) Z ?_;rw[b5.o];exact aR.z (r:=(.mk 7 ⟨#[]⟩ 0 at_ [r.1],aI ts r.2 bU)) (B:=w2.heap.size) m HL.o bt.o HO.o (fc (by omega) (by show (0:Nat)≤16384;omega) W.o.1 W.o.2) (Fy _) (by omega) _ _ _ _ _
 ·have v:=HR.o;rw[oB hm]at v;have j:aF ts σ [iP]=σ:=by unfold aF;rw[oB hm]
  rw[j]at bd;have E:isM ts σ [iP]=false:=by simpa using hm
  rw[E];obtain⟨b5,N,aq,a6⟩:=zz4 v (bd.o.D (r9 #[tS eS] 9)) ((Gj w2 (r9 #[tS eS] 9) w1.heap.size dd).trans ch.o) ((Gj w2 (r9 #[tS eS] 9) w.heap.size (by omega)).trans c0.o);have ba:=Hd (dy N.o.2 w2.heap.size 0 1 1 [eS] (bK [eS]) Z (by omega));clear v j hm E HR;go_wp2_with fail
  refine FN ba.o ?_;rintro e y ⟨rfl,bR⟩;obtain⟨C,b6,b7⟩:=zz3 (N.o.h bR) (bR.q a6.o m (Fy _)) (bR.q aq.o m (F8 z));have c1:w2.heap.size≤y.heap.size:=by have:=bR.1.size;rw[o5]at this;omega
  clear bR N aq a6 ba
  by_cases hm:isM ts σ [eS]=true
  ·have v:=b5.o;rw[oE hm]at v;have j:aF ts σ [eS]=ae ts σ:=by unfold aF;rw[oE hm]
   rw[j]at C;have E:isM ts σ [eS]=true:=by simpa using hm
   rw[E];have ck:=Hd (i6 V.o C.o.2 6 (by omega));have F:(ofM ts (ae ts σ) 2 6).1.h.size≤16384:=(cM V.o _).2.1;generalize ofM ts (ae ts σ) 2 6=nm at *;obtain⟨b0,cl⟩:=zz2 F v;clear v j hm E F;go_wp2_with fail
   refine FN ck.o ?_;rintro e w4 ⟨d,s,rfl,u,ho,hf⟩;obtain⟨p,c,rfl⟩:=ho.q;have cm:=Hd (C.o.h u);have D:=u.q b6.o m (Fy _);have g:=u.q b7.o m (F8 z);have dn:y.heap.size≤w4.heap.size:=u.1.size;obtain⟨n,f⟩:=zzx ((w4.setCell ⟨w1.heap.size,0,Y⟩ (I tF 6)).setCell ⟨w1.heap.size,1,Y⟩ (tS nm.1.h));have S:ah w P L cap ts nm.2.1 nm.2.2 n:=by rw[f];exact (cm.o.z m HL.o (by omega) 0 _).z m HL.o (by omega) 1 _
   have b1:n.heap[w.heap.size]?=A (r9 bE 145 (0,0)):=by rw[f];exact (FC _ _ _ _ (show w.heap.size≠w1.heap.size by omega)).trans ((FC _ _ _ _ (show w.heap.size≠w1.heap.size by omega)).trans D)
   have b2:n.heap[w1.heap.size]?=A (r9 #[I tF 6,tS nm.1.h,I U 0,I U at_,O Y 0 0] 145 (0,0)):=by rw[f];exact heap_set (heap_set g 0 _) 1 _
   have ds:n.heap.size=w4.heap.size:=by rw[f];simp[AJ]
   obtain⟨ad,bn,bq,cn⟩:=zz4 S b1 b2 (af.o nm.2 n P L cap S.2);have f0:=ab g 0;have f1:=ab g 1;obtain⟨X,n1,n2,n3,n4⟩:=cells5 g;have H5:=Hd f;have cp:=ik nm.1.q nm.1.h nm.1.u nm.1.t nm.1.z.length p c w4;generalize bV ts ar nm.2=l at *;clear u ho hf D g S b1 b2 f;go_upto_region 9 with fail
   change xD _ _ _ _ ((w4.setCell ⟨w1.heap.size,0,Y⟩ (I tF 6)).setCell ⟨w1.heap.size,1,Y⟩ (tS nm.1.h));rw[←H5.o];clear X n1 n2 n3 n4 f0 f1 H5 cp;go_wp2_with fail
   refine FN cn.o ?_;rintro e w6 ⟨d2,s2,rfl,i,T⟩;obtain⟨p2,c2,rfl⟩:=T.q;have bt:=Hd (ad.o.h i);have b3:=i.q bn.o m (Fy _);have x:=i.q bq.o m (F8 z);have dt:n.heap.size≤w6.heap.size:=i.1.size;obtain⟨H,k⟩:=zzx (w6.setCell ⟨w1.heap.size,4,Y⟩ (O p2 l.1.length c2));have cq:H.heap.size=w6.heap.size:=by rw[k];simp[AJ]
   have b4:Hid (ah w P L cap ts l.2.1 l.2.2 H):=by rw[k];exact bt.o.z m HL.o (by omega) 4 _
   have cr:Hid (H.heap[w.heap.size]?=A (r9 bE 145 (0,0))):=by rw[k];exact (FC _ _ _ _ (show w.heap.size≠w1.heap.size by omega)).trans b3
   have ct:Hid (H.heap[w1.heap.size]?=A (r9 #[I tF 6,tS nm.1.h,I U 0,I U at_,O p2 l.1.length c2] 145 (0,0))):=by rw[k];exact heap_set x 4 _
   have cu:Hid (OwnAt H d2 l.1 (O p2 l.1.length c2) (bC n.heap.size H.heap.size)):=by rw[cq,k];exact T.t fun b o K hx=>(FC _ _ _ _ (show b≠w1.heap.size by have:=K.1;omega)).trans hx
   have HW:=Hd (cN b4.o.2 bU);have f4:=ab x 4;obtain⟨X,n1,n2,n3,n4⟩:=cells5 x;have H7:=Hd k;clear i T b3 x k;go_upto_region 10 with fail
   change xD _ _ _ _ (w6.setCell ⟨w1.heap.size,4,Y⟩ (O p2 l.1.length c2));rw[←H7.o];clear X n1 n2 n3 n4 f4 H7;go_wp2_with fail
   refine FN HW.o ?_;rintro e w8 ⟨rfl,q⟩;have cv:=Hd (b4.o.h q);have t:=q.q cr.o m (Fy _);have bB:=Hd t;obtain⟨X,n1,n2,n3,n4⟩:=cells5 (q.q ct.o m (by omega));have cy:=Hd ((cu.o.t fun b o K hx=>bu q.1 hx (by have:=K.1;omega)).D (G:=bC n.heap.size w8.heap.size) fun b K=>⟨K.1,FG K.2 q.1.size⟩);obtain⟨a0,a1,a2,a3,a4⟩:=cells5 t;have z0:=ab t 0;have z1:=ab t 1;have z2:=ab t 2;have z3:=ab t 3;have z4:=ab t 4;clear q t;go_wp2_with fail
   refine bh Tryz.results146 Z (aO bB.o _ _ _ _ _) Z ?_;rw[cl.o];exact aR.z (r:=(.mk 6 nm.1.h 0 at_ l.1,aI ts l.2 bU)) (B:=n.heap.size) m HL.o cv.o cy.o (fc (by omega) b0.o W.o.1 W.o.2) (Fy _) (by omega) _ _ _ _ _
  ·have v:=b5.o;rw[oB hm]at v;have j:aF ts σ [eS]=σ:=by unfold aF;rw[oB hm]
   rw[j]at C;have E:isM ts σ [eS]=false:=by simpa using hm
   rw[E];have ck:=Hd (i6 V.o C.o.2 5 (by omega));have F:(ofM ts σ 2 5).1.h.size≤16384:=(cM V.o _).2.1;generalize ofM ts σ 2 5=nm at *;obtain⟨b0,cl⟩:=zz2 F v;clear v j hm E F;go_wp2_with fail
   refine FN ck.o ?_;rintro e w4 ⟨d,s,rfl,u,ho,hf⟩;obtain⟨p,c,rfl⟩:=ho.q;have cm:=Hd (C.o.h u);have D:=u.q b6.o m (Fy _);have g:=u.q b7.o m (F8 z);have dn:y.heap.size≤w4.heap.size:=u.1.size;obtain⟨n,f⟩:=zzx ((w4.setCell ⟨w1.heap.size,0,Y⟩ (I tF 5)).setCell ⟨w1.heap.size,1,Y⟩ (tS nm.1.h));have S:ah w P L cap ts nm.2.1 nm.2.2 n:=by rw[f];exact (cm.o.z m HL.o (by omega) 0 _).z m HL.o (by omega) 1 _
   have b1:n.heap[w.heap.size]?=A (r9 bE 145 (0,0)):=by rw[f];exact (FC _ _ _ _ (show w.heap.size≠w1.heap.size by omega)).trans ((FC _ _ _ _ (show w.heap.size≠w1.heap.size by omega)).trans D)
   have b2:n.heap[w1.heap.size]?=A (r9 #[I tF 5,tS nm.1.h,I U 0,I U at_,O Y 0 0] 145 (0,0)):=by rw[f];exact heap_set (heap_set g 0 _) 1 _
   have ds:n.heap.size=w4.heap.size:=by rw[f];simp[AJ]
   obtain⟨ad,bn,bq,cn⟩:=zz4 S b1 b2 (af.o nm.2 n P L cap S.2);have f0:=ab g 0;have f1:=ab g 1;obtain⟨X,n1,n2,n3,n4⟩:=cells5 g;have H5:=Hd f;have cp:=ik nm.1.q nm.1.h nm.1.u nm.1.t nm.1.z.length p c w4;generalize bV ts ar nm.2=l at *;clear u ho hf D g S b1 b2 f;go_upto_region 9 with fail
   change xD _ _ _ _ ((w4.setCell ⟨w1.heap.size,0,Y⟩ (I tF 5)).setCell ⟨w1.heap.size,1,Y⟩ (tS nm.1.h));rw[←H5.o];clear X n1 n2 n3 n4 f0 f1 H5 cp;go_wp2_with fail
   refine FN cn.o ?_;rintro e w6 ⟨d2,s2,rfl,i,T⟩;obtain⟨p2,c2,rfl⟩:=T.q;have bt:=Hd (ad.o.h i);have b3:=i.q bn.o m (Fy _);have x:=i.q bq.o m (F8 z);have dt:n.heap.size≤w6.heap.size:=i.1.size;obtain⟨H,k⟩:=zzx (w6.setCell ⟨w1.heap.size,4,Y⟩ (O p2 l.1.length c2));have cq:H.heap.size=w6.heap.size:=by rw[k];simp[AJ]
   have b4:Hid (ah w P L cap ts l.2.1 l.2.2 H):=by rw[k];exact bt.o.z m HL.o (by omega) 4 _
   have cr:Hid (H.heap[w.heap.size]?=A (r9 bE 145 (0,0))):=by rw[k];exact (FC _ _ _ _ (show w.heap.size≠w1.heap.size by omega)).trans b3
   have ct:Hid (H.heap[w1.heap.size]?=A (r9 #[I tF 5,tS nm.1.h,I U 0,I U at_,O p2 l.1.length c2] 145 (0,0))):=by rw[k];exact heap_set x 4 _
   have cu:Hid (OwnAt H d2 l.1 (O p2 l.1.length c2) (bC n.heap.size H.heap.size)):=by rw[cq,k];exact T.t fun b o K hx=>(FC _ _ _ _ (show b≠w1.heap.size by have:=K.1;omega)).trans hx
   have HW:=Hd (cN b4.o.2 bU);have f4:=ab x 4;obtain⟨X,n1,n2,n3,n4⟩:=cells5 x;have H7:=Hd k;clear i T b3 x k;go_upto_region 10 with fail
   change xD _ _ _ _ (w6.setCell ⟨w1.heap.size,4,Y⟩ (O p2 l.1.length c2));rw[←H7.o];clear X n1 n2 n3 n4 f4 H7;go_wp2_with fail
   refine FN HW.o ?_;rintro e w8 ⟨rfl,q⟩;have cv:=Hd (b4.o.h q);have t:=q.q cr.o m (Fy _);have bB:=Hd t;obtain⟨X,n1,n2,n3,n4⟩:=cells5 (q.q ct.o m (by omega));have cy:=Hd ((cu.o.t fun b o K hx=>bu q.1 hx (by have:=K.1;omega)).D (G:=bC n.heap.size w8.heap.size) fun b K=>⟨K.1,FG K.2 q.1.size⟩);obtain⟨a0,a1,a2,a3,a4⟩:=cells5 t;have z0:=ab t 0;have z1:=ab t 1;have z2:=ab t 2;have z3:=ab t 3;have z4:=ab t 4;clear q t;go_wp2_with fail
   refine bh Tryz.results146 Z (aO bB.o _ _ _ _ _) Z ?_;rw[cl.o];exact aR.z (r:=(.mk 5 nm.1.h 0 at_ l.1,aI ts l.2 bU)) (B:=n.heap.size) m HL.o cv.o cy.o (fc (by omega) b0.o W.o.1 W.o.2) (Fy _) (by omega) _ _ _ _ _
def su(ts:List Tok) (σ:PS):Bool:=kdM ts σ==4&&((number (txM ts σ).data.toList).isSome&&decide ((number (txM ts σ).data.toList).getD 0≤2147483647))
def fU(ts:List Tok) (σ:PS):Nat×PS:=if su ts σ=true then ((number (txM ts σ).data.toList).getD 0,ae ts σ) else (0,(σ.1,true))
theorem oP(ts:List Tok)(σ:PS):σ.1≤(fU ts σ).2.1:=by
 unfold fU;split
 ·exact (eH ts σ).1
 ·exact Fy _
theorem jl(ts:List Tok)(σ:PS):(fU ts σ).1≤2147483647:=by
 unfold fU;split
 ·rename_i h
  unfold su at h;simp only[FV,oX]at h;exact h.2.2
 ·exact FR _
theorem lO{ts:List Tok}(q:cg ts){w:J}{P L cap:Nat}{σ:PS}(h:PAt w P L cap ts σ.1 σ.2) :
  wg vo 145 #[vv (A ⟨P,0,Y⟩)] w fun e w'=>e=Ending.returned (I U (fU ts σ).1)∧ah w P L cap ts (fU ts σ).2.1 (fU ts σ).2.2 w':=by
 obtain⟨x,H⟩:=zz2 (fQ h) h;have E:=h.lt.1;obtain⟨R,l⟩:=zzy (fU ts σ);rw[l];unfold fU su at l;have r:(txM ts σ).size≤16384:=(cM q σ.1).2.1;generalize kdM ts σ=kd at *;generalize txM ts σ=tx at *;generalize atM ts σ=at_ at *;have p:=Hd l;clear h l
 go_enter Tryz.func145,Tryz.ntmps145
 go_wp2_with fail
 refine FN x.o ?_;rintro e w1 ⟨rfl,g⟩;have j:Gl w1 (w1.alloc (r9 #[I tF kd,tS tx,I U at_] 192)):=(Fz _ w1).alloc (Fy _) _;obtain⟨y,z,B,C⟩:=zz4 (qZ tx (w1.alloc (r9 #[I tF kd,tS tx,I U at_] 192)) r) (oA w1 (r9 #[I tF kd,tS tx,I U at_] 192)) (H.o.h (g.trans (j.mono g.size))) (show P<w1.heap.size by have:=g.size;omega);clear g j;generalize number tx.data.toList=n at *;go_wp2_with fail
 refine FN y.o ?_;rintro e F ⟨rfl,i⟩;have b:=Hd (B.o.t i);obtain⟨G,K,x2,_,_,_⟩:=cells3 (aa i z.o (by simp));obtain⟨m,c,_,_,D,M,f0,f1⟩:=b.o.2.z;obtain⟨f,s⟩:=zz2 (b.o.2.q true) (kf b.o.2);clear i D
 by_cases u:kd=4
 ·subst u
  cases n with
  | none =>
   have a:(0,(σ.1,true))=R:=by rw[←p.o];rfl
   have d:=Hd a;clear a;go_wp2_with fail
   go_ret;rw[←d.o];exact⟨Z,b.o.h f.o⟩
  | some n =>
   by_cases N:n≤2147483647
   ·have a:(n,ae ts σ)=R:=by
     rw[←p.o,oE (by simp;omega)];rfl
    have d:=Hd a;have v:decide ((2147483647:Int)<n)=false:=by simp;omega
    clear a;go_wp2_with fail
    refine FN s.o ?_;rintro e Q ⟨rfl,k⟩;have t:=Hd (b.o.h k);clear k;go_wp2_with fail
    go_ret;rw[←d.o];exact⟨Z,t.o⟩
   ·have a:(0,(σ.1,true))=R:=by
     rw[←p.o,oB (by simp;omega)]
    have d:=Hd a;have v:decide ((2147483647:Int)<n)=true:=by simp;omega
    clear a;go_wp2_with fail
    go_ret;rw[←d.o];exact⟨Z,b.o.h f.o⟩
 ·have a:(0,(σ.1,true))=R:=by
   rw[←p.o,oB (by simp[u])]
  have d:=Hd a;have v:((kd:Int)==4)=false:=by simp;omega
  have S:((kd:Int) != 4)=true:=by simp;omega
  clear a;go_wp2_with fail
  go_ret;rw[←d.o];exact⟨Z,b.o.h f.o⟩
