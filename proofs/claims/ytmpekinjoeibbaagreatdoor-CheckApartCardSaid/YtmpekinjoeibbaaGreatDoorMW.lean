/- Parts of one proof, joined; conditions stand in each theorem. -/
import Derived.Test.YtmpekinjoeibbaaGreatDoorMV
open Go renaming World→p7,Value→r3,Calls→r9,wpQuiet_nil→vk
open Option renaming some→A,none→V
open Go.Obj renaming cells→p8
open Go.Value renaming slice→O,int→I,string→p9,agg→s3,pointer→tv,func→wP
open Go.IntKind renaming i64→Y,u8→J
open Go.Proofs.Tryz renaming prog→r6
open Go.Code renaming wp→wB
open Go.World renaming setCell→xD
namespace Go.Proofs.YtmpekinjoeibbaaGreatDoor
set_option maxHeartbeats 2000000
set_option maxRecDepth 100000
open Go.RowKit
theorem OwnAt.mores{w:p7}{d:Nat}{a:List ah}{b:r3}{F:Nat→Prop}(h:OwnAt w d a b F):∀n,OwnAt w (d+n) a b F:=by
 intro n
 induction n with
 | zero=>exact h
 | succ n c=>exact c.y
theorem mo{a T2:ah}{s1 s2:r3}{m:Nat}{u:r3}:((az a s1)[m]?=A u→(az a s1++az T2 s2).toArray[0*5+m]?=A u)∧((az T2 s2)[m]?=A u→(az a s1++az T2 s2).toArray[1*5+m]?=A u):=by
 refine⟨fun h=>?_,fun h=>?_⟩
 ·have hm:m<(az a s1).length:=(Fo.1 h).1;rw[List.getElem?_toArray,Nat.zero_mul,Nat.zero_add,FM hm];exact h
 ·have b:(az a s1).length=5:=by simp[az]
  rw[List.getElem?_toArray,FA (by omega),b];rw[show 1*5+m-5=m by omega];exact h
theorem DX{W:p7}{d1 d2 g:Nat}{f T2:ah}{s1 s2:r3}{F1 F2 F:Nat→Prop}(p:OwnAt W d1 f.u s1 F1)(q:OwnAt W d2 T2.u s2 F2)(f1:Fits f)(f2:Fits T2)
  (r:W.heap[g]?=A (p8 (az f s1++az T2 s2).toArray 64 (0,0))) (hF:F g) (l:∀b,F1 b→F b∧b≠g) (n:∀b,F2 b→F b∧b≠g) (h:∀b,F1 b→¬F2 b) :
  OwnAt W (d1+d2+1) [f,T2] (O (A ⟨g,0,V⟩) 2 2) F:=by
 have s:=p.mores d2;have o:=q.mores d1;rw[Nat.add_comm d2 d1]at o;refine Or.inr ⟨g,2,(az f s1++az T2 s2).toArray,fun i b=>(i=0∧F1 b)∨(i=1∧F2 b),by simp,hF,ET _,by unfold maxLen;omega,Z,r,by simp[az],fun i v c=>?_,fun i b d=>?_,fun i j b t k e=>?_⟩
 ·cases i with
  | zero =>
   simp at c;subst c;exact⟨f1,s1,fun m u hu=>mo.1 hu,s.N fun b d=>Or.inl ⟨Z,d⟩⟩
  | succ i =>
   cases i with
   | zero =>
    simp at c;subst c;exact⟨f2,s2,fun m u hu=>mo.2 hu,o.N fun b d=>Or.inr ⟨Z,d⟩⟩
   | succ i=>simp at c
 ·rcases d with ⟨_,d⟩|⟨_,d⟩
  ·exact l b d
  ·exact n b d
 ·rcases k with ⟨a,k⟩|⟨a,k⟩
  ·rcases e with ⟨b',e⟩|⟨b',e⟩
   ·omega
   ·exact h b k e
  ·rcases e with ⟨b',e⟩|⟨b',e⟩
   ·exact h b e k
   ·omega
def nF(a:Nat) (b:ah) (s1:r3) (T2:ah) (W:p7) (xs:List r3):Prop:=∃(d g N:Nat) (s:r3),xs=[I Y g]∧W.heap[g]?=A (p8 (az b s1++az T2 s).toArray 64 (0,0))∧OwnAt W d T2.u s (bG a N)∧Fits T2∧a≤N∧N≤g
theorem nF.N{a Q:Nat}{c T2:ah}{s1:r3}{W W':p7}{xs:List r3}(h:nF a c s1 T2 W xs)(q:Q<a)(e:W.grownBy W' (A Q)):nF a c s1 T2 W' xs:=by
 obtain⟨d,g,N,s,f,i,j,k,l,m⟩:=h;exact⟨d,g,N,s,f,bv e i (by omega),j.t fun b o n p=>bv e p (by have:=n.1;omega),k,l,m⟩
def leftOf(P:Nat) (w:p7):Nat:=match w.cell? ⟨P,0,V⟩ with|some (O _ m _)=>m|_=>0
theorem PAt.left{w:p7}{P L cap:Nat}{ts:List Tok}{k:Nat}{bad:Bool}(h:PAt w P L cap ts k bad):leftOf P w=ts.length-k:=by
 obtain⟨m,c,a,b,c0,_⟩:=h.h;unfold leftOf;rw[c0]
 show m=_
 omega
theorem DK{lvl:Nat}(h:lvl<5){i:Nat}{s:ByteArray}(a:(iL lvl)[i]?=A s):(j3.map p9)[lvl*6+i]?=A (p9 s):=by
 have b:i<6:=by
  have:=(Fo.1 a).1;have e:(iL lvl).length=6:=by
   match lvl,h with
   | 0,_=>rfl
   | 1,_=>rfl
   | 2,_=>rfl
   | 3,_=>rfl
   | 4,_=>rfl
  omega
 match lvl,h,i,b with
 | 0,_,0,_|0,_,1,_|0,_,2,_|0,_,3,_|0,_,4,_|0,_,5,_
 | 1,_,0,_|1,_,1,_|1,_,2,_|1,_,3,_|1,_,4,_|1,_,5,_
 | 2,_,0,_|2,_,1,_|2,_,2,_|2,_,3,_|2,_,4,_|2,_,5,_
 | 3,_,0,_|3,_,1,_|3,_,2,_|3,_,3,_|3,_,4,_|3,_,5,_
 | 4,_,0,_|4,_,1,_|4,_,2,_|4,_,3,_|4,_,4,_|4,_,5,_ =>first|(injection a with a;subst a;rfl)
theorem Cc{lvl:Nat}(h:lvl<5):(iL lvl).length=6:=by
 match lvl,h with
 | 0,_=>rfl
 | 1,_=>rfl
 | 2,_=>rfl
 | 3,_=>rfl
 | 4,_=>rfl
theorem wQ{w:p7}{b lvl:Nat}(a:w.heap[b]?=A (p8 (j3.map p9).toArray 389 (0,0)))(h:lvl<5):kt w b (lvl*6) (iL lvl):=
 ⟨(ES.1 a).1,fun i s c=>by
  rw[FR _ _ _ _ _ _ a,List.getElem?_toArray]
  exact DK h c⟩
theorem vN(a:Int)(x:ByteArray)(p:Int)(W:p7):(Instr.field 89 (s3 #[I J a,p9 x,I Y p]) 1).run r6 W=.ok (p9 x) W:=by kernel_rfl
theorem jU(a:Int)(x:ByteArray)(p:Int)(W:p7):(Instr.field 89 (s3 #[I J a,p9 x,I Y p]) 2).run r6 W=.ok (I Y p) W:=by kernel_rfl
def vl(w:p7) (P L cap:Nat) (ts:List Tok) (ex:PS→ah×PS) (lvl:Nat) (pl:Int) (R:ah×PS) (b0 a c e:Nat) (wr:p7):Prop:=
 ∃(g:Nat) (T:ah) (σ:PS) (d:Nat) (s:r3),gP ts ex lvl pl g T σ=R∧ts.length-σ.1≤g∧e≤σ.1∧ax w P L cap ts σ.1 σ.2 wr∧wr.heap[b0]?=A (p8 bH 64 (0,0))∧wr.heap[a]?=A (p8 (j3.map p9).toArray 389 (0,0))∧
  wr.heap[c]?=A (p8 (az T s).toArray 64 (0,0))∧OwnAt wr d T.u s (fun b=>a<b∧b<wr.heap.size∧b≠c)∧Fits T
theorem Ee{ts:List Tok}(c8:cz ts){f:Nat}(h1:tM ts (f+1))(hE:vL ts f):vL ts (f+1):=by
 intro lvl σ w P L cap b7 h hf;have c9:FS w (w.alloc (p8 bH 64)):=(EU _ w).alloc (ET _) _;obtain⟨H0,hk⟩:=zz2 (h.b c9) h;have hP:=h.lt.1;obtain⟨HL,HX,cq,da,cr,bB⟩:=zz6 h.lt.2 (ot w (p8 bH 64)) c8 h1 hE hf;obtain⟨R,ar⟩:=zzy (exM ts (f+1) lvl σ);rw[ar];have HR:=Hd ar;clear h c9 c8 h1 hE hf ar;have bR:=Hd (wZ (w.alloc (p8 bH 64)))
 go_enter Tryz.func213,Tryz.ntmps213
 go_wp2_with fail
 refine Ff bR.o ?_;rintro e w1 ⟨rfl,ct⟩;obtain⟨dc,av⟩:=zz2 (H0.o.b ct) (ag ct HX.o (by simp));have S:w.heap.size<w1.heap.size:=(ES.1 av.o).1;clear ct;obtain⟨vs,a8⟩:=zzy (j3.map p9);rw[a8];have hlen:vs.length=30:=by rw[←a8];rfl
 have b8:vs.toArray.all (·.oneCell')=true:=by rw[←a8];exact vD
 dsimp only
 iterate 4 (first|go_step|go_back)
 have hN:=ot w1 (p8 gz 389);have hB:=(EU _ w1).alloc (ET _) (p8 gz 389);change wpList _ _ _ _ _ (w1.alloc (p8 gz 389));generalize w1.alloc (p8 gz 389)=b1 at *;refine wpList_store_mid Z 389 _ _ Z w1.heap.size 0 vs.toArray Z Z (oI hN (by simp[hlen,gz])) (by simp only[List.size_toArray,hlen];kernel_rfl) b8 ?_;have ba:=mU (vs:=vs) hN (by simp[hlen,gz]);have cu:=my (ET _) vs 0 b1 hB;change wpList _ _ _ _ _ (b1.setCells w1.heap.size 0 vs);generalize b1.setCells w1.heap.size 0 vs=w2 at *;rw[←a8]at ba;obtain⟨dd,C,G⟩:=zz3 ba (dc.o.b cu) (ag cu av.o S);have H:w1.heap.size<w2.heap.size:=(ES.1 ba).1;have bR:Hid (lvl≤5):=b7;obtain⟨m,c,e1,e2,c0,c1,f0,f1⟩:=C.o.2.h;clear hN hB cu ba b8 a8 hlen e1 e2 c0 f0 f1 b1 b7
 cases q:σ.2 with
 | true =>
  rw[q]at c1;have hR:(fB,σ)=R:=by rw[←HR.o];unfold exM;rw[oA q]
  have b9:=Hd q;obtain⟨a0,a1,a2,a3,a4⟩:=cells5 G.o;have z0:=ae G.o 0;have z1:=ae G.o 1;have z2:=ae G.o 2;have z3:=ae G.o 3;have z4:=ae G.o 4;clear q;go_wp2_with fail
  refine bp Tryz.results213 Z (aV G.o _ _ _ _ _) Z ?_;rw[←hR];exact aY.q (r:=(fB,σ)) hP HL.o C.o (jH _ _) (fg (by omega) (by show (0:Nat)≤16384;omega) (by omega) (by omega)) (ET _) (Nat.lt_trans S H) _ _ _ _ _
 | false =>
  rw[q]at c1;have b9:=Hd q
  by_cases b2:lvl=5
  ·subst b2;have HO:=Hd (da.o σ w2 P L cap q C.o.2 (by have:=bB.o;omega));rw[HR.o]at HO;clear q;go_wp2_with fail
   refine Ff HO.o ?_;rintro e w4 ⟨d,s,rfl,U,F,hf⟩;obtain⟨p,c,rfl⟩:=F.b;have hl:=Hd (C.o.h U);have y0:=U.q G.o hP (ET _);have K:=Hd y0;obtain⟨a0,a1,a2,a3,a4⟩:=cells5 y0;have z0:=ae y0 0;have z1:=ae y0 1;have z2:=ae y0 2;have z3:=ae y0 3;have z4:=ae y0 4;obtain⟨HO,HF⟩:=zz2 F hf;clear U y0 F hf c1;go_wp2_with fail
   refine bp Tryz.results213 Z (aV K.o _ _ _ _ _) Z ?_;exact aY.q hP HL.o hl.o HO.o HF.o (ET _) (Nat.lt_trans S H) _ _ _ _ _
  have hR:gP ts (exM ts f (lvl+1)) lvl (atM ts σ) ts.length (exM ts f (lvl+1) σ).1 (exM ts f (lvl+1) σ).2=R:=by
   rw[←HR.o]
   conv=>rhs;unfold exM
   rw[ox (by rw[q];decide),ox b2]
  have cv:lvl<5:=by have:=bR.o;omega
  have ca:((lvl:Int)==5)=false:=by simp;omega
  obtain⟨ak,h7⟩:=zz2 (fP C.o.2) cv;have cx:0≤atM ts σ∧atM ts σ≤16384:=by
   obtain⟨_,_,g3⟩:=cQ cq.o σ.1;unfold atM;omega
  obtain⟨at_,cb⟩:=zzy (atM ts σ);rw[cb]at cx hR ak;have dg:=Hd cx;generalize kdM ts σ=kd at ak;generalize txM ts σ=tx at ak;have dr:=Hd hR;clear HR hR cx cb q b2;go_wp2_with fail
  refine Ff ak.o ?_;rintro e w3 ⟨rfl,bb⟩;obtain⟨bc,b3,bd⟩:=zz3 (C.o.b bb) (ag bb G.o (Nat.lt_trans S H)) (ag bb dd.o H);have hn:w2.heap.size≤w3.heap.size:=bb.size;have D:=Hd (cr.o (lvl+1) σ w3 P L cap (by omega) bc.o.2 (by have:=bB.o;omega));rw[Int.natCast_succ]at D;clear bb c1;have hp:=jU kd tx at_ w3;go_wp2_with fail
  refine Ff D.o ?_;rintro e w4 ⟨d,s,rfl,U,F,hf⟩;clear hp D bR hk H0 HX av dc ca b9 m c;obtain⟨p,c,rfl⟩:=F.b;have D:Hid (∀(σ:PS) (W:p7),PAt W P L cap ts σ.1 σ.2→(ts.length-σ.1)*7+(6-(lvl+1))≤f→r9 r6 213 #[tv (A ⟨P,0,V⟩),I Y (lvl+1)] W (aY W P L cap ts (exM ts f (lvl+1) σ))):=by
   intro σ W h1 h2;have:=cr.o (lvl+1) σ W P L cap (by omega) h1 h2;rw[Int.natCast_succ]at this;exact this
  have ds:Hid (∀σ,σ.1≤(exM ts f (lvl+1) σ).2.1):=fun σ=>BA ts f (lvl+1) σ
  have dv:Hid ((ts.length-σ.1)*7+(6-(lvl+1))≤f):=by show _≤_;have:=bB.o;omega
  have hq:Hid (σ.1≤(exM ts f (lvl+1) σ).2.1):=ds.o σ;generalize exM ts f (lvl+1)=ex at *;generalize ex σ=r at *;obtain⟨W0,b4⟩:=zzx (w4.alloc (p8 (az r.1 (O p r.1.u.length c)).toArray 64));have bk:FS w4 W0:=by rw[b4];exact (EU _ w4).alloc (ET _) _
  have cT:W0.heap[w4.heap.size]?=A (p8 (az r.1 (O p r.1.u.length c)).toArray 64 (0,0)):=by rw[b4];exact ot w4 _
  have hr:w3.heap.size≤w4.heap.size:=U.1.size;have eg:=U.q b3.o hP (ET _);have en:=U.q bd.o hP (FB S);have aq:Hid (vl w P L cap ts ex lvl at_ R w.heap.size w1.heap.size w4.heap.size σ.1 W0):=by
   refine⟨ts.length,r.1,r.2,d,O p r.1.u.length c,dr.o,Nat.sub_le _ _,hq.o,(bc.o.h U).b bk,ag bk eg (by omega),ag bk en (by omega),cT,?_,hf⟩;refine (F.C (fun b j=>j.2) bk).N fun b j=>?_
   have h1:=j.1;have h2:=j.2;have h3:w4.heap.size<W0.heap.size:=(ES.1 cT).1;exact⟨by omega,by omega,by omega⟩
  have h5:w1.heap.size<w4.heap.size:=by omega
  clear bk cT eg en U F hf hr bB cr dr b3 bd bc G dd C H hn;go_wp2_with fail
  change wB _ _ _ _ (w4.alloc (p8 (az r.1 (O p r.1.u.length c)).toArray 64));rw[←b4];clear b4
  go_loopw [8] (fun _ wr=>vl w P L cap ts ex lvl at_ R w.heap.size w1.heap.size w4.heap.size σ.1 wr) (fun _ wr=>leftOf P wr)
  case atStart=>exact aq.o
  case round =>
   clear aq W0;obtain⟨g,T,l,d1,s1,bl,hg,eo,hT,er,et,cV,F,hf⟩:=hrel;obtain⟨p1,c1,rfl⟩:=F.b;obtain⟨HT,HO,HF,hs,av,b3,bn⟩:=zz7 hT F hf er et cV bl;obtain⟨HG,ev⟩:=zz2 hg eo;have e5:w4.heap.size<wr.heap.size:=(ES.1 cV).1;clear hT F hf er et cV bl hg eo;have h8:(0:Int)≤lvl:=by omega
   have b2:(lvl:Int)<5:=by omega
   have e6:∀x:Wb wr,r9 r6 96 #[tv (A ⟨P,0,V⟩),O (A ⟨w1.heap.size,lvl*6,V⟩) 6 6] x.1 fun e w'=>e=Ending.returned (Value.bool (isM ts l (iL lvl)))∧Below x.1.heap.size x.1 w':=fun x =>nX (HT.o.2.C x.2) (gd HT.o.2.k) w1.heap.size (lvl*6) 6 6 (iL lvl) (wQ (ag x.2 av.o (by omega)) cv) (Cc cv) (by omega)
   have e7:=Hd e6;have HM:Hid (isM ts l (iL lvl)=isM ts l (iL lvl)):=rfl;obtain⟨b,j⟩:=zzy (isM ts l (iL lvl));rw[j]at e7;have HB:=Hd j;clear e6 HM j;go_wp2_with fail
   refine aj (by kernel_rfl) (by kernel_rfl) ?_
   repeat (go_big_quiet_step ((go_at_call 96;exact Calls.b (e7.o _))))
   refine vk ?_;intro W2 ht;obtain⟨⟨_,M⟩,rfl⟩:=ht;have h9:=Hd M;have e8:wr.heap.size≤W2.heap.size:=M.size;obtain⟨C,K,hv,e9,fe⟩:=zz5 (HT.o.b M) (ag M hs.o (by omega)) (ag M av.o (by omega)) (ag M b3.o e5) (HO.o.C (fun b j=>j.2.1) M);clear M
   cases b with
   | false =>
    have ar:(T,l)=R:=by
     rw[←bn.o]
     cases g with
     | zero=>rfl
     | succ g=>unfold gP;rw[ox (by rw[HB.o];decide)]
    have cW:=Hd ar;obtain⟨a0,a1,a2,a3,a4⟩:=cells5 K.o;have z0:=ae K.o 0;have z1:=ae K.o 1;have z2:=ae K.o 2;have z3:=ae K.o 3;have z4:=ae K.o 4;obtain⟨d0,a6,d2,d3,d4⟩:=cells5 e9.o;clear ar;go_wp2_with fail
    refine bp Tryz.results213 Z (aV K.o _ _ _ _ _) Z ?_;rw[←cW.o];exact aY.q (r:=(T,l)) (B:=w1.heap.size) hP HL.o C.o (fe.o.N (fun b j=>⟨FB j.1,EY j.2.1 e8⟩)) HF.o (ET _) S _ _ _ _ _
   | true =>
    have X:=Hd (fP C.o.2);obtain⟨E,bq⟩:=zzy (txM ts l);rw[bq]at X;have fm:=Hd bq;generalize kdM ts l=hx at X;generalize atM ts l=hy at X;clear bq;go_wp2_with fail
    refine Ff X.o ?_;rintro e w5 ⟨rfl,b5⟩;have hz:=vN hx E hy w5;have ca:W2.heap.size≤w5.heap.size:=b5.size;obtain⟨w6,c3⟩:=zzx (w5.alloc (p8 #[I J 16,p9 E,I Y 0,I Y at_,O V 0 0] 64));have fp:FS w5 w6:=by rw[c3];exact (EU _ w5).alloc (ET _) _
    have fr:Hid (w6.heap[w5.heap.size]?=A (p8 #[I J 16,p9 E,I Y 0,I Y at_,O V 0 0] 64 (0,0))):=by show _=_;rw[c3];exact ot w5 _
    have Q:FS W2 w6:=b5.trans (fp.mono b5.size);have ih:w5.heap.size<w6.heap.size:=(ES.1 fr.o).1;obtain⟨fv,hA,hC,hD,hG⟩:=zz5 (C.o.b Q) (ag Q K.o (by omega)) (ag Q hv.o (by omega)) (ag Q e9.o (by omega)) (fe.o.C (fun b j=>EY j.2.1 e8) Q);have hH:=Hd (jZ fv.o.2);clear b5 fp Q;go_wp2_with fail
    rw[←c3];refine Ff hH.o ?_;rintro e y ⟨rfl,ch⟩;have ad:ax w6 P L cap ts (al ts l).1 (al ts l).2 y:=ch;have fz:=Hd (fv.o.h ad);have ix:w6.heap.size≤y.heap.size:=ad.1.size;obtain⟨hI,hJ,fI,hK,hL⟩:=zz5 (ad.q hA.o hP (ET _)) (ad.q hC.o hP (FB S)) (ad.q hD.o hP (by omega)) (ad.q fr.o hP (by omega)) (hG.o.t fun b o j F=>bv ad.1 F (by have:=j.1;omega));obtain⟨q1,q2,q3⟩:=fc cq.o HT.o.2.k HB.o;have hM:=Hd (D.o (al ts l) y.drew fz.o.2.drew (by rw[q1];have:=dv.o;have:=ev.o;omega));have c5:=ds.o (al ts l);rw[q1]at c5;have hO:=Hd c5;have hQ:=Hd (show σ.1≤(ex (al ts l)).2.1 by have:=ev.o;omega);obtain⟨g',fT,ga⟩:∃g',ts.length-(ex (al ts l)).2.1≤g'∧(if lvl=2 then (.mk 16 E 0 at_ [T,(ex (al ts l)).1],(ex (al ts l)).2) else gP ts ex lvl at_ g' (.mk 16 E 0 at_ [T,(ex (al ts l)).1]) (ex (al ts l)).2)=R:=by
     have h1:=bn.o;have h2:=HG.o
     cases g with
     | zero=>omega
     | succ g =>
      refine⟨g,by omega,?_⟩;unfold gP at h1;rw[oA HB.o,fm.o]at h1;exact h1
    obtain⟨hU,gb⟩:=zz2 fT ga;clear fT ga c5 q1 q2 q3 ch ad;generalize ex (al ts l)=r2 at *;have gf:Hid (E.size≤16384):=by show _≤_;rw[←fm.o];exact (cQ cq.o l.1).2.1
    obtain⟨d0,a6,d2,d3,d4⟩:=cells5 fI.o;have br:w4.heap.size≠P:=by omega
    have C0:=fun x:RE.Gr y P=>x.b d0 br
    have C1:=fun x:RE.Gr y P=>x.b a6 br
    have C2:=fun x:RE.Gr y P=>x.b d2 br
    have C3:=fun x:RE.Gr y P=>x.b d3 br
    have C4:=fun x:RE.Gr y P=>x.b d4 br
    have gm:P<y.heap.size:=by omega
    clear d0 a6 d2 d3 d4 hz;go_wp2_with fail
    refine RE.t (by kernel_rfl) 6 [4,5] [4,5] (fun s W=>if s=0 then W=y.drew else ax y P L cap ts r2.2.1 r2.2.2 W) (fun W W'=>W.grownBy W' (A P))
     (fun i xs=>if i=4 then s3 #[I J r2.1.b,p9 r2.1.h,I Y r2.1.q,I Y r2.1.t,xs.getD 0 undef] else O (A ⟨RE.natOf xs,0,V⟩) 2 2)
     (fun i W xs=>if i=4 then fK y.heap.size r2.1 W xs else nF y.heap.size T (O p1 T.u.length c1) r2.1 W xs) (by kernel_rfl) (fun i h1 h2=>by rw[h1]at h2;cases h2) ?_ Z ?_
    ·intro k W W' xs h _ hg
     split at h
     ·rw[oA (by assumption)];exact h.N gm hg
     ·rw[ox (by assumption)];exact h.N gm hg
    simp only[Fg,Fu,Fh,Ft,FC,List.length_nil,Nat.reduceAdd];have gD:∀(n s:Nat) (W:p7),s≤n→(if s=0 then W=y.drew else ax y P L cap ts r2.2.1 r2.2.2 W)→∃x:RE.Gr y P,W=x.1:=fun n s W _ h=>by
     split at h
     ·exact⟨⟨W,by rw[h];exact grown_drewN (oT y _) 1⟩,Z⟩
     ·exact⟨⟨W,h.1⟩,Z⟩
    have hV:=Hd gD;clear gD
    repeat (refine RE.h (fun W=>∃x:RE.Gr y P,W=x.1) (hV.o _) Z Z Z Z ?_;go_big_quiet_step (fail);refine vk ?_)
    refine RE.b Z Z ?_ (fun gE=>?_)
    ·intro W _ hS _;obtain rfl:W=y.drew:=hS Z;refine RE.u 213 _ _ Z (enters_of Tryz.func213 (by kernel_rfl) Z) #[tv (A ⟨P,0,V⟩),I Y (lvl+1)] (by simp[Act.eval]) (hM.o.mono ?_);rintro e W' ⟨d,s,rfl,hT,F,hf⟩;exact⟨_,Z,[s],Z,hT.u,hT.1,⟨d,s,Z,F,hf⟩⟩
    simp only[Act.put,EV,Fe,Fc];refine RE.b Z Z ?_ (fun gF=>?_)
    ·intro W _ hS hW;have hT:ax y P L cap ts r2.2.1 r2.2.2 W:=hS Z;obtain⟨d,s,rfl,F,hf⟩:fK y.heap.size r2.1 W gE:=hW 4 gE (by kernel_rfl) Z;obtain⟨p,c,rfl⟩:=F.b;refine RE.Upon.told (v:=O (A ⟨W.heap.size,0,V⟩) 2 2) (w':=W.alloc (p8 (az T (O p1 T.u.length c1)++az r2.1 (O p r2.1.u.length c)).toArray 64)) ?_ ⟨[I Y W.heap.size],Z,hT.y _,?_,?_⟩
     ·unfold RE.Upon
      go_simp
      rfl
     ·exact aL ((EU _ W).alloc (ET _) _) _
     ·refine⟨d,W.heap.size,W.heap.size,_,Z,ot W _,?_,hf,hT.1.size,ET _⟩;exact F.C (fun b j=>j.2) ((EU _ W).alloc (ET _) _)
    simp only[Act.put,EV,Fe,Fc];refine RE.q ?_;intro W3 hS hE;have af:ax y P L cap ts r2.2.1 r2.2.2 W3:=hS;obtain⟨d,gg,N,s2,rfl,c6,gH,gL,iA,ba⟩:=(show nF y.heap.size T (O p1 T.u.length c1) r2.1 W3 gF from hE 5 gF Z);have gM:gg<W3.heap.size:=(ES.1 c6).1;have h6:y.heap.size≤W3.heap.size:=af.1.size;obtain⟨bc,hX,hY,bd,h0⟩:=zz5 (fz.o.h af) (af.q hI.o hP (ET _)) (af.q hJ.o hP (FB S)) (af.q fI.o hP (by omega)) (af.q hK.o hP (by omega));have gN:=hL.o.t fun b o j F=>bv af.1 F (by have:=j.1;omega)
    have gO:Hid (OwnAt W3 (d1+d+1) [T,r2.1] (O (A ⟨gg,0,V⟩) 2 2) (fun b=>w1.heap.size<b∧b<W3.heap.size∧b≠w4.heap.size∧b≠w5.heap.size)):=by
     refine DX gN gH HF.o gL c6 ⟨by omega,gM,by omega,by omega⟩ (fun b j=>?_) (fun b j=>?_) (fun b j M=>?_)
     ·exact⟨⟨j.1,by have:=j.2.1;omega,j.2.2,by have:=j.2.1;omega⟩,by have:=j.2.1;omega⟩
     ·exact⟨⟨by have:=j.1;omega,by have:=j.2;omega,by have:=j.1;omega,by have:=j.1;omega⟩,by have:=j.2;omega⟩
     ·have:=j.2.1;have:=M.1;omega
    obtain⟨sl,gS⟩:=zzx (O (A ⟨gg,0,V⟩) 2 2);obtain⟨Wn,a7⟩:=zzx (set5 (W3.setCell ⟨w5.heap.size,4,V⟩ sl) w4.heap.size (I J 16) (p9 E) (I Y 0) (I Y at_) sl);have ck:Wn.heap.size=W3.heap.size:=by rw[a7,sg];simp[xD]
    have z:∀b,b≠w4.heap.size→b≠w5.heap.size→Wn.heap[b]?=W3.heap[b]?:=fun b h1 h2=>by rw[a7,j9 h1];exact EW _ _ _ b h2
    obtain⟨b6,u,gT⟩:=zz3 (show ax w P L cap ts r2.2.1 r2.2.2 Wn by rw[a7];exact (bc.o.t hP HL.o (by omega) 4 sl).set5 hP HL.o (by omega) _ _ _ _ _) ((z w.heap.size (by omega) (by omega)).trans hX.o) ((z w1.heap.size (by omega) (by omega)).trans hY.o);have cl:Hid (Wn.heap[w4.heap.size]?=A (p8 (az (.mk 16 E 0 at_ [T,r2.1]) sl).toArray 64 (0,0))):=by
     show _=_
     rw[a7];exact aV ((EW _ _ _ _ (show w4.heap.size≠w5.heap.size by omega)).trans bd.o) _ _ _ _ _
    have ha:Hid (OwnAt Wn (d1+d+1) [T,r2.1] sl (fun b=>w1.heap.size<b∧b<Wn.heap.size∧b≠w4.heap.size)):=by
     rw[gS];exact (gO.o.t fun b o j F=>(z b j.2.2.1 j.2.2.2).trans F).N fun b j=>⟨j.1,by rw[ck];exact j.2.1,j.2.2.1⟩
    have hc:Fits (.mk 16 E 0 at_ [T,r2.1]):=fg (by omega) gf.o dg.o.1 dg.o.2;have hd:=Hd hc;have bt:leftOf P Wn<leftOf P wr:=by
     rw[b6.o.2.left,HT.o.2.left];have:=hO.o;have:=b6.o.2.k;omega
    have c7:=Hd bt;have y3:=bd.o;have y8:=h0.o;obtain⟨d0,a6,d2,d3,d4⟩:=cells5 y3;have z0:=ae y3 0;have z1:=ae y3 1;have z2:=ae y3 2;have z3:=ae y3 3;have z4:=ae y3 4;obtain⟨e0,e1,e2,e3,e4⟩:=cells5 y8;have x4:=ae y8 4;have h4:(w4.heap.size=w5.heap.size)=False:=by simp;omega
    have hh:(w5.heap.size=w4.heap.size)=False:=by simp;omega
    clear C0 C1 C2 C3 C4 hE hS af gN gH gL c6 y3 y8 z bt hc ck;subst gS;have hi:=Hd a7;clear a7 h4 hh;go_upto_region 13 with fail
    change wB _ _ _ _ (set5 (W3.setCell ⟨w5.heap.size,4,V⟩ (O (A ⟨gg,0,V⟩) 2 2)) w4.heap.size (I J 16) (p9 E) (I Y 0) (I Y at_) (O (A ⟨gg,0,V⟩) 2 2));rw[←hi.o];clear hi d0 a6 d2 d3 d4 z0 z1 z2 z3 z4 e0 e1 e2 e3 e4 x4
    by_cases H:lvl=2
    ·have hR:=gb.o;rw[oA H]at hR;have cW:=Hd hR;have hj:((lvl:Int)==2)=true:=by simp;omega
     obtain⟨a0,a1,a2,a3,a4⟩:=cells5 u.o;have z0:=ae u.o 0;have z1:=ae u.o 1;have z2:=ae u.o 2;have z3:=ae u.o 3;have z4:=ae u.o 4;obtain⟨d0,a6,d2,d3,d4⟩:=cells5 cl.o;clear hR H;go_wp2_with fail
     refine bp Tryz.results213 Z (aV u.o _ _ _ _ _) Z ?_;rw[←cW.o];exact aY.q (r:=(.mk 16 E 0 at_ [T,r2.1],r2.2)) (B:=w1.heap.size) hP HL.o b6.o (ha.o.N (fun b j=>⟨FB j.1,j.2.1⟩)) hd.o (ET _) S _ _ _ _ _
    ·have hR:=gb.o;rw[ox H]at hR;have cp:vl w P L cap ts ex lvl at_ R w.heap.size w1.heap.size w4.heap.size σ.1 Wn:=
      ⟨g',_,r2.2,_,_,hR,hU.o,hQ.o,b6.o,u.o,gT.o,cl.o,ha.o,hd.o⟩
     have aq:=Hd cp;have hj:((lvl:Int)==2)=false:=by simp;omega
     clear hR H cp;go_wp2_with fail
     exact⟨aq.o,c7.o⟩
theorem Ex{ts:List Tok}(a:cz ts):∀f,tM ts f∧vL ts f:=by
 intro f
 induction f with
 | zero=>exact⟨fun σ w P L cap _ _ d=>by omega,fun lvl σ w P L cap e _ d=>by omega⟩
 | succ f b =>
  have c:=DW a b.1 b.2;exact⟨c,Ee a c b.2⟩
def eD(ts:List Tok) (σ:PS):ah×PS:=exM ts (ts.length*7+6) 0 σ
theorem fN(ts:List Tok)(σ:PS):σ.1≤(eD ts σ).2.1:=BA ts _ 0 σ
theorem sx{w:p7}{P L cap:Nat}{ts:List Tok}(a:cz ts){σ:PS}(h:PAt w P L cap ts σ.1 σ.2):r9 r6 173 #[tv (A ⟨P,0,V⟩)] w (aY w P L cap ts (eD ts σ)):=
 sh (Ex a _).2 σ w P L cap h (by have:(ts.length-σ.1)*7≤ts.length*7:=Nat.mul_le_mul_right _ (Nat.sub_le _ _);omega)
def jp:ByteArray:=⟨#[44]⟩
def eJ(ts:List Tok) (one:PS→ah×PS):Nat→List ah→PS→List ah×PS
 | 0,a,σ=>(a,σ)
 | g+1,a,σ=>if isM ts σ [jp]=true then eJ ts one g (a++[(one (al ts σ)).1]) (one (al ts σ)).2 else (a,σ)
def i6(ts:List Tok) (one:PS→ah×PS) (σ:PS):List ah×PS:=eJ ts one ts.length [(one σ).1] (one σ).2
def cf(ts:List Tok) (one:PS→ah×PS) (σ:PS):List ah×PS:=
 if isM ts (aP ts σ fq) [gK]=true then ([],al ts (aP ts σ fq))
 else ((i6 ts one (aP ts σ fq)).1,aP ts (i6 ts one (aP ts σ fq)).2 gK)
theorem yx{ts:List Tok}{one:PS→ah×PS}(b:∀σ,σ.1≤(one σ).2.1):∀(g:Nat) (a:List ah) (σ:PS),σ.1≤(eJ ts one g a σ).2.1:=by
 intro g
 induction g with
 | zero=>intro a σ;exact ET _
 | succ g c =>
  intro a σ;unfold eJ
  split
  ·exact EZ (EZ (eK ts σ).1 (b _)) (c _ _)
  ·exact ET _
theorem qS{ts:List Tok}{one:PS→ah×PS}(a:∀σ,σ.1≤(one σ).2.1)(σ:PS):σ.1≤(i6 ts one σ).2.1:=EZ (a σ) (yx a _ _ _)
theorem ic{ts:List Tok}{one:PS→ah×PS}(b:∀σ,σ.1≤(one σ).2.1)(σ:PS):σ.1≤(cf ts one σ).2.1:=by
 unfold cf;have a:=bD ts σ fq
 split
 ·exact EZ a (eK ts _).1
 ·exact EZ (EZ a (qS b _)) (bD ts _ _)
def xB(w:p7) (P L cap:Nat) (ts:List Tok) (r:List ah×PS) (e:Ending) (w':p7):Prop:=
 ∃(d:Nat) (s:r3),e=Ending.returned s∧ax w P L cap ts r.2.1 r.2.2 w'∧OwnAt w' d r.1 s (bG w.heap.size w'.heap.size)
theorem B6(w:p7)(l:List r3)(t:TypeId):∀(j:Nat) (u:r3),l[j]?=A u→(w.alloc (p8 l.toArray t)).cell? ((⟨w.heap.size,0,V⟩:Addr).add j)=A u:=by
 intro j u hu;rw[Addr.add_mid,FR _ _ _ _ _ _ (ot w _),Nat.zero_add]
 simpa using hu
theorem cy.deeper{W:p7}{L d k:Nat}{e:List ah}{own:Option Nat}{rows:List (List r3)}{f:Nat→Nat→Prop}(h:cy W L d e k own rows f)(n:Nat):cy W L (d+n) e k own rows f:=by
 obtain⟨g,j,l,m⟩:=h;exact⟨g,j,fun i T o p=>by obtain⟨a,s,b,c⟩:=l i T o p;exact⟨a,s,b,c.mores n⟩,m⟩
theorem cy.longer{W:p7}{L d k:Nat}{a:List ah}{own:Option Nat}{rows:List (List r3)}{b:Nat→Nat→Prop}(h:cy W L d a k own rows b)(n:a.length=k)(l:List ah):cy W L d (a++l) k own rows b:=by
 obtain⟨e,f,g,j⟩:=h;exact⟨e,f,fun i T m c=>g i T m (by rw[FM (by omega)]at c;exact c),j⟩
theorem cy.nextT{W W':p7}{L d k N:Nat}{v:List ah}{own own':Option Nat}{rows:List (List r3)}{x:Nat→Nat→Prop}{t:ah}{s:r3}(h:cy W L d v k own rows x)
  (z:v[k]?=A t) (B:Fits t) (C:OwnAt W' d t.u s (bG W.heap.size N)) (D:W.heap.size≤N) (S:N≤W'.heap.size) (U:L≤W.heap.size) (E:W.heap.size≤W'.heap.size)
  (m:∀b,L≤b→b<W.heap.size→own≠A b→W'.heap[b]?=W.heap[b]?) (l:∀b,own'=A b→(own=A b∧b<W.heap.size)∨N≤b) :
  ∃w,cy W' L d v (k+1) own' (rows++[az t s]) w:=by
 obtain⟨y,F,G,n,H,K⟩:=h;refine⟨fun i b=>if i=k then bG W.heap.size N b else x i b,by simp[y],fun r p=>?_,fun i T X q=>?_,fun i b c=>?_,fun i j b u c f=>?_,fun i b c=>?_⟩
 ·rcases List.mem_append.1 p with p|p
  ·exact F r p
  ·simp at p;subst p;rfl
 ·by_cases a:i=k
  ·subst a;rw[z]at q;injection q with q
   subst q;refine⟨B,s,?_,?_⟩
   ·rw[FA (by omega),y];simp
   ·simp only[o4];exact C
  ·obtain⟨a1,M,a2,a3⟩:=G i T (by omega) q;refine⟨a1,M,?_,?_⟩
   ·rw[FM (by omega)];exact a2
   ·simp only[ox a];exact a3.t fun b o c P=>(m b (n i b c).1 (n i b c).2.1 (n i b c).2.2).trans P
 ·by_cases a:i=k
  ·simp only[oA a]at c;obtain⟨q1,Q⟩:=c;refine⟨by omega,by omega,fun e=>?_⟩;rcases l b e with h|h<;>omega
  ·simp only[ox a]at c;obtain⟨q1,Q,R⟩:=n i b c;refine⟨q1,by omega,fun e=>?_⟩;rcases l b e with h|h
   ·exact R h.1
   ·omega
 ·by_cases a:i=k
  ·have g:j≠k:=fun e=>u (a.trans e.symm)
   simp only[oA a]at c;simp only[ox g]at f;have:=(n j b f).2.1;have:=c.1;omega
  ·simp only[ox a]at c
   by_cases g:j=k
   ·simp only[oA g]at f;have:=(n i b c).2.1;have:=f.1;omega
   ·simp only[ox g]at f;exact H i j b u c f
 ·by_cases a:i=k
  ·omega
  ·simp only[ox a]at c;have:=K i b c;omega
theorem kS(W:p7)(L d:Nat)(a:List ah):cy W L d a 0 V [] (fun _ _=>False):=
 ⟨Z,fun _ h=>absurd h FH,fun _ _ b _=>absurd b (Nat.not_lt_zero _),fun _ _ h=>h.elim,fun _ _ _ _ h=>h.elim,fun _ _ h=>h.elim⟩
theorem cy.turn{W W':p7}{L d k Q:Nat}{g:List ah}{own:Option Nat}{rows:List (List r3)}{j:Nat→Nat→Prop}(h:cy W L d g k own rows j)(l:W.grownBy W' (A Q))(y:Q<L):cy W' L d g k own rows j:=by
 obtain⟨m,n,p,e,q,r⟩:=h;refine⟨m,n,fun i T t u=>?_,fun i b f=>⟨(e i b f).1,EY (e i b f).2.1 l.size,(e i b f).2.2⟩,q,r⟩;obtain⟨a,s,b,c⟩:=p i T t u;exact⟨a,s,b,c.t fun x o v w=>bv l w (by have:=(e i x v).1;omega)⟩
theorem dm{w w':p7}{b Q:Nat}{e:TypeId}{size n:Nat}{v:r3}{xs:List r3}(h:w.ownsRow b e size v n xs)(a:w.grownBy w' (A Q))(c:Q<b):w'.ownsRow b e size v n xs:=by
 refine h.kept a ?_
 cases hv:v.ownBlock with
 | none=>exact Or.inl Z
 | some k=>exact Or.inr (fun e=>by injection e with e;have:=(eH h k hv).1;omega)
theorem wo(W:p7){L:Nat}(a:L≤W.heap.size)(T:ah)(s:r3):(W.alloc (p8 (az T s).toArray 64)).ownsRow L 64 5 (O (A ⟨W.heap.size,0,V⟩) 1 1) 1 (az T s):=by refine⟨by simp[az],Or.inr ⟨W.heap.size,1,(az T s).toArray,Z,a,ot W _,ET _,by unfold maxLen;omega,by simp[az],by simp[az]⟩⟩
theorem ax.grownO{w W W':p7}{P L cap:Nat}{ts:List Tok}{k:Nat}{bad:Bool}(h:ax w P L cap ts k bad W)(j:P<w.heap.size)(l:L<w.heap.size){row:Option Nat}(a:W.grownBy W' row)(b:∀g,row=A g→w.heap.size≤g):ax w P L cap ts k bad W':=by
 have d:∀i,i<w.heap.size→W'.heap[i]?=W.heap[i]?:=fun i c=>a.block i (EY c h.1.size) (fun e=>by have:=b i e.symm;omega)
 exact⟨⟨a.os.trans h.1.os,a.tape.trans h.1.tape,a.output.trans h.1.output,EZ h.1.size a.size,fun i c f=>(d i c).trans (h.1.block i c f)⟩,h.2.t (d P j) (d L l)⟩
def xo(w:p7) (P L cap:Nat) (ts:List Tok) (one:PS→ah×PS) (R:List ah×PS) (o:r3) (W:p7):Prop:=
 ∃(g:Nat) (a:List ah) (σ:PS) (d:Nat) (rows:List (List r3)) (b:Nat→Nat→Prop),eJ ts one g a σ=R∧ts.length-σ.1≤g∧a.length≤σ.1+1∧a≠[]∧ax w P L cap ts σ.1 σ.2 W∧
  W.ownsRow w.heap.size 64 5 o a.length rows.flatten∧cy W w.heap.size d a a.length o.ownBlock rows b
def ji(ts:List Tok) (g:FuncId) (one:PS→ah×PS):Prop:=∀(σ:PS) (w:p7) (P L cap:Nat),PAt w P L cap ts σ.1 σ.2→r9 r6 g #[tv (A ⟨P,0,V⟩)] w (aY w P L cap ts (one σ))
theorem uK{ts:List Tok}(bc:cz ts){gf:FuncId}{one:PS→ah×PS}(cv:∀(xs:Array r3)(w:p7),(callFunc gf xs).run r6 w=.ok (.enter gf xs) w)(l:ji ts gf one)(f:∀σ,σ.1≤(one σ).2.1)
  (σ:PS) (w:p7) (P L cap:Nat) (h:PAt w P L cap ts σ.1 σ.2):r9 r6 99 #[tv (A ⟨P,0,V⟩),wP (.func gf) #[tv (A ⟨P,0,V⟩)] #[]] w (xB w P L cap ts (i6 ts one σ)):=by
 obtain⟨b2,bd,bk,HC⟩:=zz4 bc l f (l σ w P L cap h);have hP:=h.lt.1;have hn:=h.n;have b3:=Hd h;obtain⟨R,hR⟩:=zzy (i6 ts one σ);rw[hR];have HR:=Hd hR;obtain⟨i0,b4,b5,b6,b7⟩:=info_parts pN;clear bc l f h hR
 go_enter Tryz.func99,Tryz.ntmps99
 go_wp2_with fail
 refine Ff HC.o ?_;rintro e w1 ⟨d,s,rfl,W,ho,hf⟩;obtain⟨p,c,rfl⟩:=ho.b;obtain⟨W0,m⟩:=zzx (w1.alloc (p8 (az (one σ).1 (O p (one σ).1.u.length c)).toArray 64));have H:xo w P L cap ts one R (O (A ⟨w1.heap.size,0,V⟩) 1 1) W0:=by
  have i:FS w1 W0:=by rw[m];exact (EU _ w1).alloc (ET _) _
  have bl:=W.1.size;have f:=bk.o σ;have b8:=ho.C (fun b i=>i.2) i;have cW:W0.heap.size=w1.heap.size+1:=by rw[m];simp
  obtain⟨Fs,hr⟩:=cy.nextT (W':=W0) (N:=w1.heap.size) (own':=A w1.heap.size) (t:=(one σ).1) (kS w w.heap.size d [(one σ).1]) Z hf (b8.N fun b i=>i) bl (by omega) (ET _) (by omega)
   (fun b X h2 _=>by omega) (fun b i=>by injection i with i;right;omega)
  refine⟨ts.length,[(one σ).1],(one σ).2,d,_,Fs,HR.o,Nat.sub_le _ _,by simp,by simp,W.b i,?_,hr⟩;rw[m]
  simpa using wo w1 bl (one σ).1 (O p (one σ).1.u.length c)
 have K:=Hd H;clear H W ho hf HC HR;generalize one σ=r at *;go_wp2_with fail
 change wB _ _ _ _ (w1.alloc (p8 (az r.1 (O p r.1.u.length c)).toArray 64));rw[←m];clear m
 go_loopw [5] (fun o wr=>xo w P L cap ts one R o wr) (fun _ wr=>leftOf P wr)
 case atStart=>exact K.o
 case round =>
  clear K W0;obtain⟨g,ks,a,d1,rows,Fs,q,hg,hlen,F,hT,M,u⟩:=hrel;obtain⟨v,HG,Q,c1,HT,S,y⟩:=zz7 q hg hlen F hT M u;have c3:w.heap.size≤wr.heap.size:=hT.1.size;have ad:FS wr (wr.alloc (p8 #[p9 jp] 9)):=(EU _ wr).alloc (ET _) _;obtain⟨bn,af⟩:=zz2 (dA (hT.2.C ad) wr.heap.size 0 1 1 [jp] (bN [jp]) Z (by omega)) ad;obtain⟨b,i⟩:=zzy (isM ts a [jp]);rw[i]at bn;have HB:=Hd i;clear q hg hlen F hT M u ad i;go_wp2_with fail
  refine Ff bn.o ?_;rintro e w2 ⟨rfl,G⟩;have z:=Hd ((HT.o.b af.o).h G);have c5:wr.heap.size≤w2.heap.size:=by have:=G.1.size;have:=af.o.size;omega
  have B:=o1 (aL af.o (A P)) G.1;obtain⟨T,C⟩:=zz2 B (dm S.o B hP);clear G B
  cases b with
  | false =>
   have bq:(ks,a)=R:=by
    rw[←v.o]
    cases g with
    | zero=>rfl
    | succ g=>unfold eJ;rw[ox (by rw[HB.o];decide)]
   have D:aN ts a [jp]=a:=by unfold aN;rw[ox (by rw[HB.o];decide)]
   rw[D]at z;have b9:=Hd bq;clear bq D;go_wp2_with fail
   go_ret;rw[←b9.o];exact⟨d1+1,u5,Z,z.o,rA (d:=d1+1) Z C.o (y.o.turn T.o hP) (fun h=>by omega)⟩
  | true =>
   obtain⟨q1,q2,q3⟩:=fc b2.o HT.o.2.k HB.o;have D:aN ts a [jp]=al ts a:=by unfold aN;rw[oA HB.o]
   rw[D]at z;have ca:=Hd (bd.o (al ts a) w2 P L cap z.o.2);have f:=bk.o (al ts a);rw[q1]at f;have cb:=Hd f;obtain⟨g',br,bt⟩:∃g',ts.length-(one (al ts a)).2.1≤g'∧eJ ts one g' (ks++[(one (al ts a)).1]) (one (al ts a)).2=R:=by
    have X:=v.o;have h2:=HG.o
    cases g with
    | zero=>omega
    | succ g =>
     refine⟨g,by omega,?_⟩;unfold eJ at X;rw[oA HB.o]at X;exact X
   obtain⟨ch,ck⟩:=zz2 br bt;clear br bt f D q1 q2;generalize one (al ts a)=r2 at *;go_wp2_with fail
   refine Ff ca.o ?_;rintro e j ⟨d2,s2,rfl,E,ak,bB⟩;obtain⟨p2,c2,rfl⟩:=ak.b;obtain⟨cl,cp,cq,cr⟩:=zz4 (z.o.h E) E.1 ak bB;have aq:=dm C.o E.1 hP;have ct:w2.heap.size≤j.heap.size:=E.1.size;have c6:ks.length+1≤16385:=by have:=Q.o;omega
   clear E ak bB;go_wp2_with (at_builtin;go_must (refine wpList_append_lies _ Z (.tmp 14) (.tmp 17) 62 Z w.heap.size 64 i0 _ 5 64 Tryz.underlying62 b4 b5 b6 b7 Z (by decide) u5 ks.length rows.flatten Z (ownsRow_below aq ((EU _ j).alloc (ET _) _)) ⟨j.heap.size,0,V⟩ 1 1 (az r2.1 (O p2 r2.1.u.length c2)) Z Z (by exact B6 j (az r2.1 (O p2 r2.1.u.length c2)) 64) (by simp[Value.oneCell',az]) (by decide) (by unfold maxLen;omega) (by omega) (by simp;omega) (j.heap.size+1) (by simp) ?_);intro g7 cx w7 ar av a1 cT)
   have a6:=eH S.o;obtain⟨w4,a7⟩:=zzx (j.alloc (p8 (az r2.1 (O p2 r2.1.u.length c2)).toArray 64));have a8:w4.grownBy w7 u5.ownBlock:=by rw[a7];exact av
   have bR:FS j w4:=by rw[a7];exact (EU _ j).alloc (ET _) _
   have cV:w4.heap.size=j.heap.size+1:=by rw[a7];simp
   have c7:=a8.size;have ba:=(cl.o.b bR).grownO hP b3.o.lt.2 a8 (fun x U=>(a6 x U).1);have b1:∀b,b<j.heap.size→u5.ownBlock≠A b→w7.heap[b]?=j.heap[b]?:=fun b X h2=>(a8.block b (by omega) (fun e=>h2 e.symm)).trans (bR.block b X)
   have e2:=cq.o.mores d1;rw[Nat.add_comm d2 d1]at e2;obtain⟨cu,bb⟩:=cy.nextT (W':=w7) (N:=j.heap.size) (own':=A g7) (t:=r2.1) (((y.o.turn T.o hP).deeper d2).longer Z [r2.1]) (by simp) cr.o
    (e2.t fun x o U ho=>(b1 x U.2 (fun e=>by have:=(a6 x e).2;have:=U.1;omega)).trans ho) ct (by omega) (by omega) (by omega)
    (fun x X h2 F=>(b1 x (by omega) F).trans (cp.o.block x h2 (fun e=>by injection e with e;omega))) (fun x U=>by
     injection U with U
     subst U;rcases a1 with h|h
     ·exact Or.inl ⟨h,by have:=(a6 _ h).2;omega⟩
     ·right;omega)
   have c8:=cb.o;have c9:=ba.2.k;refine⟨⟨g',ks++[r2.1],r2.2,d1+d2,rows++[az r2.1 (O p2 r2.1.u.length c2)],cu,ck.o,ch.o,?_,by simp,ba,?_,?_⟩,?_⟩
   ·have:=Q.o;rw[Fl,FP];omega
   ·rw[List.flatten_append]
    simpa using ar
   ·rw[Fl,FP];exact bb
   ·rw[ba.2.left,HT.o.2.left];omega
theorem mL{ts:List Tok}(H:cz ts){F:FuncId}{one:PS→ah×PS}(k:∀(xs:Array r3)(w:p7),(callFunc F xs).run r6 w=.ok (.enter F xs) w)(l:ji ts F one)(x:∀σ,σ.1≤(one σ).2.1)
  (σ:PS) (w:p7) (P L cap:Nat) (h:PAt w P L cap ts σ.1 σ.2):r9 r6 42 #[tv (A ⟨P,0,V⟩),wP (.func F) #[tv (A ⟨P,0,V⟩)] #[]] w (xB w P L cap ts (cf ts one σ)):=by
 have S:=Hd (cU h fq);have y:=Hd (fun σ w P L cap h=>uK H k l x σ w P L cap h);have hP:=h.lt.1;have HP:=Hd h;obtain⟨R,z⟩:=zzy (cf ts one σ);rw[z];unfold cf at z;obtain⟨a,m⟩:=zzy (aP ts σ fq);rw[m]at z S;have T:=Hd z;clear h z m k l x
 go_enter Tryz.func42,Tryz.ntmps42
 go_wp2_with fail
 refine Ff S.o ?_;rintro e w1 ⟨rfl,j⟩;have q:FS w1 (w1.alloc (p8 #[p9 gK] 9)):=(EU _ w1).alloc (ET _) _;obtain⟨K,B⟩:=zz2 (j.b q) (dA (j.2.C q) w1.heap.size 0 1 1 [gK] (bN [gK]) Z (by omega));obtain⟨b,n⟩:=zzy (isM ts a [gK]);rw[n]at B;have G:=Hd n;have W:w.heap.size≤w1.heap.size:=j.1.size;clear j q n;go_wp2_with fail
 refine Ff B.o ?_;rintro e U ⟨rfl,C⟩;have g:=Hd (K.o.h C);clear C
 cases b with
 | true =>
  have i:aN ts a [gK]=al ts a:=by unfold aN;rw[oA G.o]
  have f:=T.o;rw[oA G.o]at f;rw[i]at g;have t:=Hd f;clear f i;go_wp2_with fail
  go_ret;rw[←t.o];exact⟨0,O V 0 0,Z,g.o,jH _ _⟩
 | false =>
  have i:aN ts a [gK]=a:=by unfold aN;rw[ox (by rw[G.o];decide)]
  have f:=T.o;rw[ox (by rw[G.o];decide)]at f;rw[i]at g;have t:=Hd f;have X:=Hd (y.o a U P L cap g.o.2);clear f i;generalize i6 ts one a=r at *;go_wp2_with fail
  refine Ff X.o ?_;rintro e w3 ⟨d,s,rfl,u,D⟩;obtain⟨p,c,rfl⟩:=D.b;obtain⟨M,HO,N⟩:=zz3 (g.o.h u) D (cU u.2 gK);have ad:w.heap.size≤U.heap.size:=g.o.1.size;clear u D;go_wp2_with fail
  refine Ff N.o ?_;rintro e w4 ⟨rfl,v⟩;obtain⟨Q,E⟩:=zz2 (M.o.h v) v.1;clear v;go_wp2_with fail
  go_ret;rw[←t.o];exact⟨d,_,Z,Q.o,(HO.o.t fun b o n D=>bv E.o D (by have:=n.1;omega)).N fun b n=>⟨by have:=n.1;omega,EY n.2 E.o.size⟩⟩
def iU:ByteArray:=⟨#[116,101,115,116]⟩
def bX:ByteArray:=⟨#[59]⟩
def dB(ts:List Tok) (a:PS→ah×PS) (σ:PS):ah×PS:=
 if isM ts σ [iU]=true then (.mk 7 ⟨#[]⟩ 0 (atM ts σ) [(eD ts (al ts σ)).1],aP ts (eD ts (al ts σ)).2 bX)
 else if isM ts σ [eY]=true then (.mk 6 (ofM ts (al ts σ) 2 6).1.h 0 (atM ts σ) (cf ts a (ofM ts (al ts σ) 2 6).2).1,aP ts (cf ts a (ofM ts (al ts σ) 2 6).2).2 bX)
 else (.mk 5 (ofM ts σ 2 5).1.h 0 (atM ts σ) (cf ts a (ofM ts σ 2 5).2).1,aP ts (cf ts a (ofM ts σ 2 5).2).2 bX)
theorem pd{ts:List Tok}{a:PS→ah×PS}(b:∀σ,σ.1≤(a σ).2.1)(σ:PS):σ.1≤(dB ts a σ).2.1:=by
 unfold dB;have c:=(eK ts σ).1
 (repeat' split)
 ·exact EZ c (EZ (fN ts _) (bD ts _ _))
 ·exact EZ c (EZ (ed ts _ 2 6) (EZ (ic b _) (bD ts _ _)))
 ·exact EZ (ed ts _ 2 5) (EZ (ic b _) (bD ts _ _))
theorem im(a:Int)(x:ByteArray)(n p:Int)(l:Nat)(q:Option Addr)(c:Nat)(W:p7):(Instr.field 64 (s3 #[I J a,p9 x,I Y n,I Y p,O q l c]) 1).run r6 W=.ok (p9 x) W:=by kernel_rfl
theorem yC{ts:List Tok}(f:cz ts):ji ts 43 (fun σ=>ofM ts σ 2 3):=by
 intro σ w P L cap h;have b:FS w (w.alloc (p8 #[I J 0,p9 ⟨#[]⟩,I Y 0,I Y 0,O V 0 0] 64)):=(EU _ w).alloc (ET _) _;obtain⟨m,n⟩:=zz2 (i8 f (h.C b) 3 (by omega)) (h.b b);have k:=h.lt.1;have q:=Hd h.lt.2;have t:=Hd (ot w (p8 #[I J 0,p9 ⟨#[]⟩,I Y 0,I Y 0,O V 0 0] 64));clear h b
 show r9 _ _ _ _ (aY w P L cap ts (ofM ts σ 2 3))
 generalize ofM ts σ 2 3=r at *
 go_enter Tryz.func43,Tryz.ntmps43
 go_wp2_with fail
 refine Ff m.o ?_;rintro e w1 ⟨d,s,rfl,g,i,l⟩;obtain⟨p,c,rfl⟩:=i.b;have a:=g.q t.o k (ET _);have j:=Hd a;obtain⟨a0,a1,a2,a3,a4⟩:=cells5 a;have z0:=ae a 0;have y:=ae a 1;have z2:=ae a 2;have z3:=ae a 3;have z4:=ae a 4;obtain⟨u,v,x⟩:=zz3 (n.o.h g) i l;clear a g i l;go_wp2_with fail
 exact bp Tryz.results43 Z (aV j.o _ _ _ _ _) Z (aY.q k q.o u.o v.o x.o (ET _) (by simp) _ _ _ _ _)
theorem gG.t{a:Nat}{T:ah}{W W':p7}{xs:List r3}(h:gG a T W xs)(c:∀b o,a≤b→W.heap[b]?=A o→W'.heap[b]?=A o):gG a T W' xs:=by
 obtain⟨d,g,N,s,e,f,i,j,k,l⟩:=h;exact⟨d,g,N,s,e,c g _ (by omega) f,i.t fun b o m n=>c b o m.1 n,j,k,l⟩
theorem BE{ts:List Tok}(b5:cz ts){ar:PS→ah×PS}(b4:ji ts 174 ar)(cT:∀σ,σ.1≤(ar σ).2.1):ji ts 101 (dB ts ar):=by
 intro σ w P L cap h;have b6:FS w (w.alloc (p8 bH 64)):=(EU _ w).alloc (ET _) _;obtain⟨HC,H0⟩:=zz2 (fP (h.C b6)) (h.b b6);have m:=h.lt.1;obtain⟨HL,HX,U,af⟩:=zz4 h.lt.2 (ot w (p8 bH 64)) b5 (fun σ w P L cap h=>mL b5 (enters_of Tryz.func174 (by kernel_rfl) Z) b4 cT σ w P L cap h)
 have v:dB ts ar σ=(if isM ts σ [iU]=true then (.mk 7 ⟨#[]⟩ 0 (atM ts σ) [(eD ts (al ts σ)).1],aP ts (eD ts (al ts σ)).2 bX)
   else if isM ts σ [eY]=true then (.mk 6 (ofM ts (al ts σ) 2 6).1.h 0 (atM ts σ) (cf ts ar (ofM ts (al ts σ) 2 6).2).1,aP ts (cf ts ar (ofM ts (al ts σ) 2 6).2).2 bX)
   else (.mk 5 (ofM ts σ 2 5).1.h 0 (atM ts σ) (cf ts ar (ofM ts σ 2 5).2).1,aP ts (cf ts ar (ofM ts σ 2 5).2).2 bX)):=rfl
 obtain⟨R,b7⟩:=zzy (dB ts ar σ);rw[b7];rw[b7]at v;obtain⟨at_,b8⟩:=zzy (atM ts σ);rw[b8]at HC v;have HR:=Hd v;have W:Hid (0≤at_∧at_≤16384):=by
  show _∧_
  obtain⟨_,_,g3⟩:=cQ U.o σ.1;rw[←b8];unfold atM;omega
 clear h b6 b5 b4 cT b7 v b8;generalize kdM ts σ=kd at HC;generalize txM ts σ=tx at HC
 go_enter Tryz.func101,Tryz.ntmps101
 go_wp2_with fail
 refine Ff HC.o ?_;rintro e w1 ⟨rfl,b9⟩;have dd:=jU kd tx at_ w1;obtain⟨dg,cV⟩:=zz2 (H0.o.b b9) (ag b9 HX.o (by simp));have z:w.heap.size<w1.heap.size:=(ES.1 cV.o).1;clear b9;obtain⟨wA,M⟩:=zzx (w1.alloc (p8 #[I J 7,p9 ⟨#[]⟩,I Y 0,I Y at_,O V 0 0] 64));have cW:wA.heap.size=w1.heap.size+1:=by rw[M];simp
 have c1:Hid (ax w P L cap ts σ.1 σ.2 wA):=by rw[M];exact dg.o.y _
 have c3:Hid (wA.heap[w1.heap.size]?=A (p8 #[I J 7,p9 ⟨#[]⟩,I Y 0,I Y at_,O V 0 0] 64 (0,0))):=by rw[M];exact ot w1 _
 have c5:Hid (wA.heap[w.heap.size]?=A (p8 bH 64 (0,0))):=by rw[M];exact (FQ w1 _ _ z).trans cV.o
 obtain⟨N,ak,aq⟩:=zz3 (c1.o.y (p8 #[p9 iU] 9)) ((FQ wA (p8 #[p9 iU] 9) w1.heap.size (by omega)).trans c3.o) ((FQ wA (p8 #[p9 iU] 9) w.heap.size (by omega)).trans c5.o);have j:=dA N.o.2 wA.heap.size 0 1 1 [iU] (bN [iU]) Z (by omega);rw[M,o2]at j;have av:=Hd j;clear j;go_wp2_with fail
 refine Ff av.o ?_;rintro e w2 ⟨rfl,a6⟩;rw[←M]at a6;obtain⟨a7,c6,ca⟩:=zz3 (N.o.h a6) (a6.q aq.o m (ET _)) (a6.q ak.o m (FB z));have dr:w1.heap.size<w2.heap.size:=(ES.1 ca.o).1;clear a6 dd c1 c3 c5 N ak aq M cW av
 by_cases hm:isM ts σ [iU]=true
 ·have v:=HR.o;rw[oA hm]at v;have j:aN ts σ [iU]=al ts σ:=by unfold aN;rw[oA hm]
  rw[j]at a7;rw[hm];have HE:=Hd (sx U.o a7.o.2);generalize eD ts (al ts σ)=r at *;have b1:=Hd v;clear v j hm HR;go_wp2_with fail
  refine Ff HE.o ?_;rintro e y ⟨d,s,rfl,a8,ho,hf⟩;obtain⟨p,c,rfl⟩:=ho.b;obtain⟨C,b2,b3⟩:=zz3 (a7.o.h a8) (a8.q c6.o m (ET _)) (a8.q ca.o m (FB z));have c7:w2.heap.size≤y.heap.size:=a8.1.size;obtain⟨w4,ba⟩:=zzx (y.alloc (p8 #[I J r.1.b,p9 r.1.h,I Y r.1.q,I Y r.1.t,O p r.1.u.length c] 64));have bb:FS y w4:=by rw[ba];exact (EU _ y).alloc (ET _) _
  have c8:gG w2.heap.size r.1 w4 [I Y y.heap.size]:=⟨d,y.heap.size,y.heap.size,_,Z,by rw[ba];exact ot y _,ho.C (fun b K=>K.2) bb,hf,c7,ET _⟩;have D:=ag bb b2.o (by omega);have g:=ag bb b3.o (by omega);have c9:=C.o.b bb;have f4:=ae g 4;obtain⟨X,n1,n2,n3,n4⟩:=cells5 g;obtain⟨n,f⟩:=zzx (w4.setCell ⟨w1.heap.size,4,V⟩ (O (A ⟨y.heap.size,0,V⟩) 1 1));have ad:Hid (ax w P L cap ts r.2.1 r.2.2 n):=by rw[f];exact c9.t m HL.o (by omega) 4 _
  have bc:Hid (n.heap[w.heap.size]?=A (p8 bH 64 (0,0))):=by rw[f];exact (EW _ _ _ _ (show w.heap.size≠w1.heap.size by omega)).trans D
  have bd:Hid (n.heap[w1.heap.size]?=A (p8 #[I J 7,p9 ⟨#[]⟩,I Y 0,I Y at_,O (A ⟨y.heap.size,0,V⟩) 1 1] 64 (0,0))):=by rw[f];exact heap_set g 4 _
  have ds:Hid (gG w2.heap.size r.1 n [I Y y.heap.size]):=by rw[f];exact c8.t fun b o K hx=>(EW _ _ _ _ (show b≠w1.heap.size by omega)).trans hx
  obtain⟨HW,H4,H5,da⟩:=zz4 (cU ad.o.2 bX) ba f g;clear a8 ho hf bb c8 D g c9 f;rw[ba]at X n1 n2 n3 n4 f4;clear ba;go_upto_region 4 with fail
  change wB _ _ _ _ ((y.alloc (p8 #[I J r.1.b,p9 r.1.h,I Y r.1.q,I Y r.1.t,O p r.1.u.length c] 64)).setCell ⟨w1.heap.size,4,V⟩ (O (A ⟨y.heap.size,0,V⟩) 1 1));rw[←H4.o,←H5.o];clear X n1 n2 n3 n4 f4 H4 H5 da;go_wp2_with fail
  refine Ff HW.o ?_;rintro e w6 ⟨rfl,i⟩;have bk:=Hd (ad.o.h i);have t:=i.q bc.o m (ET _);have bl:=Hd t;obtain⟨X,n1,n2,n3,n4⟩:=cells5 (i.q bd.o m (by omega));obtain⟨d',g',dc,hO⟩:=(ds.o.N (Q:=P) (by omega) i.1).own;obtain rfl:y.heap.size=g':=by injection dc with h1;injection h1 with _ h2;omega
  have HO:=Hd hO;obtain⟨a0,a1,a2,a3,a4⟩:=cells5 t;have z0:=ae t 0;have z1:=ae t 1;have z2:=ae t 2;have z3:=ae t 3;have z4:=ae t 4;clear i t dc hO;go_wp2_with fail
  refine bp Tryz.results101 Z (aV bl.o _ _ _ _ _) Z ?_;rw[b1.o];exact aY.q (r:=(.mk 7 ⟨#[]⟩ 0 at_ [r.1],aP ts r.2 bX)) (B:=w2.heap.size) m HL.o bk.o HO.o (fg (by omega) (by show (0:Nat)≤16384;omega) W.o.1 W.o.2) (ET _) (by omega) _ _ _ _ _
 ·have v:=HR.o;rw[ox hm]at v;have j:aN ts σ [iU]=σ:=by unfold aN;rw[ox hm]
  rw[j]at a7;have E:isM ts σ [iU]=false:=by simpa using hm
  rw[E];obtain⟨b1,N,ak,aq⟩:=zz4 v (a7.o.y (p8 #[p9 eY] 9)) ((FQ w2 (p8 #[p9 eY] 9) w1.heap.size dr).trans ca.o) ((FQ w2 (p8 #[p9 eY] 9) w.heap.size (by omega)).trans c6.o);have av:=Hd (dA N.o.2 w2.heap.size 0 1 1 [eY] (bN [eY]) Z (by omega));clear v j hm E HR;go_wp2_with fail
  refine Ff av.o ?_;rintro e y ⟨rfl,bn⟩;obtain⟨C,b2,b3⟩:=zz3 (N.o.h bn) (bn.q aq.o m (ET _)) (bn.q ak.o m (FB z));have c7:w2.heap.size≤y.heap.size:=by have:=bn.1.size;rw[o2]at this;omega
  clear bn N ak aq av
  by_cases hm:isM ts σ [eY]=true
  ·have v:=b1.o;rw[oA hm]at v;have j:aN ts σ [eY]=al ts σ:=by unfold aN;rw[oA hm]
   rw[j]at C;have E:isM ts σ [eY]=true:=by simpa using hm
   rw[E];have cb:=Hd (i8 U.o C.o.2 6 (by omega));have F:(ofM ts (al ts σ) 2 6).1.h.size≤16384:=(cQ U.o _).2.1;generalize ofM ts (al ts σ) 2 6=nm at *;obtain⟨bq,ch⟩:=zz2 F v;clear v j hm E F;go_wp2_with fail
   refine Ff cb.o ?_;rintro e w4 ⟨d,s,rfl,u,ho,hf⟩;obtain⟨p,c,rfl⟩:=ho.b;have ck:=Hd (C.o.h u);have D:=u.q b2.o m (ET _);have g:=u.q b3.o m (FB z);have dv:y.heap.size≤w4.heap.size:=u.1.size;obtain⟨n,f⟩:=zzx ((w4.setCell ⟨w1.heap.size,0,V⟩ (I J 6)).setCell ⟨w1.heap.size,1,V⟩ (p9 nm.1.h));have S:ax w P L cap ts nm.2.1 nm.2.2 n:=by rw[f];exact (ck.o.t m HL.o (by omega) 0 _).t m HL.o (by omega) 1 _
   have br:n.heap[w.heap.size]?=A (p8 bH 64 (0,0)):=by rw[f];exact (EW _ _ _ _ (show w.heap.size≠w1.heap.size by omega)).trans ((EW _ _ _ _ (show w.heap.size≠w1.heap.size by omega)).trans D)
   have bt:n.heap[w1.heap.size]?=A (p8 #[I J 6,p9 nm.1.h,I Y 0,I Y at_,O V 0 0] 64 (0,0)):=by rw[f];exact heap_set (heap_set g 0 _) 1 _
   have eg:n.heap.size=w4.heap.size:=by rw[f];simp[xD]
   obtain⟨ad,bc,bd,cl⟩:=zz4 S br bt (af.o nm.2 n P L cap S.2);have f0:=ae g 0;have f1:=ae g 1;obtain⟨X,n1,n2,n3,n4⟩:=cells5 g;have H5:=Hd f;have cp:=im nm.1.b nm.1.h nm.1.q nm.1.t nm.1.u.length p c w4;generalize cf ts ar nm.2=l at *;clear u ho hf D g S br bt f;go_upto_region 9 with fail
   change wB _ _ _ _ ((w4.setCell ⟨w1.heap.size,0,V⟩ (I J 6)).setCell ⟨w1.heap.size,1,V⟩ (p9 nm.1.h));rw[←H5.o];clear X n1 n2 n3 n4 f0 f1 H5 cp;go_wp2_with fail
   refine Ff cl.o ?_;rintro e w6 ⟨d2,s2,rfl,i,T⟩;obtain⟨p2,c2,rfl⟩:=T.b;have bk:=Hd (ad.o.h i);have bB:=i.q bc.o m (ET _);have x:=i.q bd.o m (FB z);have en:n.heap.size≤w6.heap.size:=i.1.size;obtain⟨H,k⟩:=zzx (w6.setCell ⟨w1.heap.size,4,V⟩ (O p2 l.1.length c2));have cq:H.heap.size=w6.heap.size:=by rw[k];simp[xD]
   have bR:Hid (ax w P L cap ts l.2.1 l.2.2 H):=by rw[k];exact bk.o.t m HL.o (by omega) 4 _
   have cr:Hid (H.heap[w.heap.size]?=A (p8 bH 64 (0,0))):=by rw[k];exact (EW _ _ _ _ (show w.heap.size≠w1.heap.size by omega)).trans bB
   have ct:Hid (H.heap[w1.heap.size]?=A (p8 #[I J 6,p9 nm.1.h,I Y 0,I Y at_,O p2 l.1.length c2] 64 (0,0))):=by rw[k];exact heap_set x 4 _
   have cu:Hid (OwnAt H d2 l.1 (O p2 l.1.length c2) (bG n.heap.size H.heap.size)):=by rw[cq,k];exact T.t fun b o K hx=>(EW _ _ _ _ (show b≠w1.heap.size by have:=K.1;omega)).trans hx
   have HW:=Hd (cU bR.o.2 bX);have f4:=ae x 4;obtain⟨X,n1,n2,n3,n4⟩:=cells5 x;have H7:=Hd k;clear i T bB x k;go_upto_region 10 with fail
   change wB _ _ _ _ (w6.setCell ⟨w1.heap.size,4,V⟩ (O p2 l.1.length c2));rw[←H7.o];clear X n1 n2 n3 n4 f4 H7;go_wp2_with fail
   refine Ff HW.o ?_;rintro e w8 ⟨rfl,q⟩;have cv:=Hd (bR.o.h q);have t:=q.q cr.o m (ET _);have bl:=Hd t;obtain⟨X,n1,n2,n3,n4⟩:=cells5 (q.q ct.o m (by omega));have cx:=Hd ((cu.o.t fun b o K hx=>bv q.1 hx (by have:=K.1;omega)).N (G:=bG n.heap.size w8.heap.size) fun b K=>⟨K.1,EY K.2 q.1.size⟩);obtain⟨a0,a1,a2,a3,a4⟩:=cells5 t;have z0:=ae t 0;have z1:=ae t 1;have z2:=ae t 2;have z3:=ae t 3;have z4:=ae t 4;clear q t;go_wp2_with fail
   refine bp Tryz.results101 Z (aV bl.o _ _ _ _ _) Z ?_;rw[ch.o];exact aY.q (r:=(.mk 6 nm.1.h 0 at_ l.1,aP ts l.2 bX)) (B:=n.heap.size) m HL.o cv.o cx.o (fg (by omega) bq.o W.o.1 W.o.2) (ET _) (by omega) _ _ _ _ _
  ·have v:=b1.o;rw[ox hm]at v;have j:aN ts σ [eY]=σ:=by unfold aN;rw[ox hm]
   rw[j]at C;have E:isM ts σ [eY]=false:=by simpa using hm
   rw[E];have cb:=Hd (i8 U.o C.o.2 5 (by omega));have F:(ofM ts σ 2 5).1.h.size≤16384:=(cQ U.o _).2.1;generalize ofM ts σ 2 5=nm at *;obtain⟨bq,ch⟩:=zz2 F v;clear v j hm E F;go_wp2_with fail
   refine Ff cb.o ?_;rintro e w4 ⟨d,s,rfl,u,ho,hf⟩;obtain⟨p,c,rfl⟩:=ho.b;have ck:=Hd (C.o.h u);have D:=u.q b2.o m (ET _);have g:=u.q b3.o m (FB z);have dv:y.heap.size≤w4.heap.size:=u.1.size;obtain⟨n,f⟩:=zzx ((w4.setCell ⟨w1.heap.size,0,V⟩ (I J 5)).setCell ⟨w1.heap.size,1,V⟩ (p9 nm.1.h));have S:ax w P L cap ts nm.2.1 nm.2.2 n:=by rw[f];exact (ck.o.t m HL.o (by omega) 0 _).t m HL.o (by omega) 1 _
   have br:n.heap[w.heap.size]?=A (p8 bH 64 (0,0)):=by rw[f];exact (EW _ _ _ _ (show w.heap.size≠w1.heap.size by omega)).trans ((EW _ _ _ _ (show w.heap.size≠w1.heap.size by omega)).trans D)
   have bt:n.heap[w1.heap.size]?=A (p8 #[I J 5,p9 nm.1.h,I Y 0,I Y at_,O V 0 0] 64 (0,0)):=by rw[f];exact heap_set (heap_set g 0 _) 1 _
   have eg:n.heap.size=w4.heap.size:=by rw[f];simp[xD]
   obtain⟨ad,bc,bd,cl⟩:=zz4 S br bt (af.o nm.2 n P L cap S.2);have f0:=ae g 0;have f1:=ae g 1;obtain⟨X,n1,n2,n3,n4⟩:=cells5 g;have H5:=Hd f;have cp:=im nm.1.b nm.1.h nm.1.q nm.1.t nm.1.u.length p c w4;generalize cf ts ar nm.2=l at *;clear u ho hf D g S br bt f;go_upto_region 9 with fail
   change wB _ _ _ _ ((w4.setCell ⟨w1.heap.size,0,V⟩ (I J 5)).setCell ⟨w1.heap.size,1,V⟩ (p9 nm.1.h));rw[←H5.o];clear X n1 n2 n3 n4 f0 f1 H5 cp;go_wp2_with fail
   refine Ff cl.o ?_;rintro e w6 ⟨d2,s2,rfl,i,T⟩;obtain⟨p2,c2,rfl⟩:=T.b;have bk:=Hd (ad.o.h i);have bB:=i.q bc.o m (ET _);have x:=i.q bd.o m (FB z);have en:n.heap.size≤w6.heap.size:=i.1.size;obtain⟨H,k⟩:=zzx (w6.setCell ⟨w1.heap.size,4,V⟩ (O p2 l.1.length c2));have cq:H.heap.size=w6.heap.size:=by rw[k];simp[xD]
   have bR:Hid (ax w P L cap ts l.2.1 l.2.2 H):=by rw[k];exact bk.o.t m HL.o (by omega) 4 _
   have cr:Hid (H.heap[w.heap.size]?=A (p8 bH 64 (0,0))):=by rw[k];exact (EW _ _ _ _ (show w.heap.size≠w1.heap.size by omega)).trans bB
   have ct:Hid (H.heap[w1.heap.size]?=A (p8 #[I J 5,p9 nm.1.h,I Y 0,I Y at_,O p2 l.1.length c2] 64 (0,0))):=by rw[k];exact heap_set x 4 _
   have cu:Hid (OwnAt H d2 l.1 (O p2 l.1.length c2) (bG n.heap.size H.heap.size)):=by rw[cq,k];exact T.t fun b o K hx=>(EW _ _ _ _ (show b≠w1.heap.size by have:=K.1;omega)).trans hx
   have HW:=Hd (cU bR.o.2 bX);have f4:=ae x 4;obtain⟨X,n1,n2,n3,n4⟩:=cells5 x;have H7:=Hd k;clear i T bB x k;go_upto_region 10 with fail
   change wB _ _ _ _ (w6.setCell ⟨w1.heap.size,4,V⟩ (O p2 l.1.length c2));rw[←H7.o];clear X n1 n2 n3 n4 f4 H7;go_wp2_with fail
   refine Ff HW.o ?_;rintro e w8 ⟨rfl,q⟩;have cv:=Hd (bR.o.h q);have t:=q.q cr.o m (ET _);have bl:=Hd t;obtain⟨X,n1,n2,n3,n4⟩:=cells5 (q.q ct.o m (by omega));have cx:=Hd ((cu.o.t fun b o K hx=>bv q.1 hx (by have:=K.1;omega)).N (G:=bG n.heap.size w8.heap.size) fun b K=>⟨K.1,EY K.2 q.1.size⟩);obtain⟨a0,a1,a2,a3,a4⟩:=cells5 t;have z0:=ae t 0;have z1:=ae t 1;have z2:=ae t 2;have z3:=ae t 3;have z4:=ae t 4;clear q t;go_wp2_with fail
   refine bp Tryz.results101 Z (aV bl.o _ _ _ _ _) Z ?_;rw[ch.o];exact aY.q (r:=(.mk 5 nm.1.h 0 at_ l.1,aP ts l.2 bX)) (B:=n.heap.size) m HL.o cv.o cx.o (fg (by omega) bq.o W.o.1 W.o.2) (ET _) (by omega) _ _ _ _ _
def rF(ts:List Tok) (σ:PS):Bool:=kdM ts σ==4&&((number (txM ts σ).data.toList).isSome&&decide ((number (txM ts σ).data.toList).getD 0≤2147483647))
def fU(ts:List Tok) (σ:PS):Nat×PS:=if rF ts σ=true then ((number (txM ts σ).data.toList).getD 0,al ts σ) else (0,(σ.1,true))
theorem nM(ts:List Tok)(σ:PS):σ.1≤(fU ts σ).2.1:=by
 unfold fU;split
 ·exact (eK ts σ).1
 ·exact ET _
theorem jh(ts:List Tok)(σ:PS):(fU ts σ).1≤2147483647:=by
 unfold fU;split
 ·rename_i h
  unfold rF at h;simp only[Fp,oE]at h;exact h.2.2
 ·exact Fi _
theorem lk{ts:List Tok}(q:cz ts){w:p7}{P L cap:Nat}{σ:PS}(h:PAt w P L cap ts σ.1 σ.2) :
  r9 r6 100 #[tv (A ⟨P,0,V⟩)] w fun e w'=>e=Ending.returned (I Y (fU ts σ).1)∧ax w P L cap ts (fU ts σ).2.1 (fU ts σ).2.2 w':=by
 obtain⟨x,H⟩:=zz2 (fP h) h;have D:=h.lt.1;obtain⟨R,l⟩:=zzy (fU ts σ);rw[l];unfold fU rF at l;have r:(txM ts σ).size≤16384:=(cQ q σ.1).2.1;generalize kdM ts σ=kd at *;generalize txM ts σ=tx at *;generalize atM ts σ=at_ at *;have p:=Hd l;clear h l
 go_enter Tryz.func100,Tryz.ntmps100
 go_wp2_with fail
 refine Ff x.o ?_;rintro e w1 ⟨rfl,g⟩;have j:FS w1 (w1.alloc (p8 #[I J kd,p9 tx,I Y at_] 89)):=(EU _ w1).alloc (ET _) _;obtain⟨y,z,B,C⟩:=zz4 (qw tx (w1.alloc (p8 #[I J kd,p9 tx,I Y at_] 89)) r) (ot w1 (p8 #[I J kd,p9 tx,I Y at_] 89)) (H.o.b (g.trans (j.mono g.size))) (show P<w1.heap.size by have:=g.size;omega);clear g j;generalize number tx.data.toList=n at *;go_wp2_with fail
 refine Ff y.o ?_;rintro e E ⟨rfl,i⟩;have b:=Hd (B.o.b i);obtain⟨F,G,x2,_,_,_⟩:=cells3 (ag i z.o (by simp));obtain⟨m,c,_,_,c0,c1,f0,f1⟩:=b.o.2.h;obtain⟨f,s⟩:=zz2 (b.o.2.setBad true) (jZ b.o.2);clear i c0
 by_cases u:kd=4
 ·subst u
  cases n with
  | none =>
   have a:(0,(σ.1,true))=R:=by rw[←p.o];rfl
   have d:=Hd a;clear a;go_wp2_with fail
   go_ret;rw[←d.o];exact⟨Z,b.o.h f.o⟩
  | some n =>
   by_cases K:n≤2147483647
   ·have a:(n,al ts σ)=R:=by
     rw[←p.o,oA (by simp;omega)];rfl
    have d:=Hd a;have v:decide ((2147483647:Int)<n)=false:=by simp;omega
    clear a;go_wp2_with fail
    refine Ff s.o ?_;rintro e M ⟨rfl,k⟩;have t:=Hd (b.o.h k);clear k;go_wp2_with fail
    go_ret;rw[←d.o];exact⟨Z,t.o⟩
   ·have a:(0,(σ.1,true))=R:=by
     rw[←p.o,ox (by simp;omega)]
    have d:=Hd a;have v:decide ((2147483647:Int)<n)=true:=by simp;omega
    clear a;go_wp2_with fail
    go_ret;rw[←d.o];exact⟨Z,b.o.h f.o⟩
 ·have a:(0,(σ.1,true))=R:=by
   rw[←p.o,ox (by simp[u])]
  have d:=Hd a;have v:((kd:Int)==4)=false:=by simp;omega
  have N:((kd:Int) != 4)=true:=by simp;omega
  clear a;go_wp2_with fail
  go_ret;rw[←d.o];exact⟨Z,b.o.h f.o⟩
