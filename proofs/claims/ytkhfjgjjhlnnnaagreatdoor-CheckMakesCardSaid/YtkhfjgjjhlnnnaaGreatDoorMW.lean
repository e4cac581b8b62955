/- Parts of one proof, joined; conditions stand in each theorem. -/
import Derived.Test.YtkhfjgjjhlnnnaaGreatDoorMV
open Go renaming World→vk,Value→vn,Calls→wB,wpQuiet_nil→z7
open Option renaming some→Y,none→U
open Go.Obj renaming cells→ur
open Go.Value renaming slice→A,int→I,string→J,agg→wD,pointer→wF,func→Bk
open Go.IntKind renaming i64→Z,u8→O
open Go.Proofs.Tryz renaming prog→wq
open Go.Code renaming wp→xV
open Go.World renaming setCell→BT
namespace Go.Proofs.YtkhfjgjjhlnnnaaGreatDoor
set_option maxHeartbeats 2000000
set_option maxRecDepth 100000
open Go.RowKit
theorem OwnAt.mores{w:vk}{d:Nat}{a:List ab}{b:vn}{F:Nat→Prop}(h:OwnAt w d a b F):∀n,OwnAt w (d+n) a b F:=by
 intro n
 induction n with
 | zero=>exact h
 | succ n c=>exact c.more
theorem mK{a T2:ab}{s1 s2:vn}{m:Nat}{u:vn}:((ai a s1)[m]?=Y u→(ai a s1++ai T2 s2).toArray[0*5+m]?=Y u)∧((ai T2 s2)[m]?=Y u→(ai a s1++ai T2 s2).toArray[1*5+m]?=Y u):=by
 refine⟨fun h=>?_,fun h=>?_⟩
 ·have hm:m<(ai a s1).length:=(FD.1 h).1;rw[List.getElem?_toArray,Nat.zero_mul,Nat.zero_add,F6 hm];exact h
 ·have b:(ai a s1).length=5:=by simp[ai]
  rw[List.getElem?_toArray,FS (by omega),b];rw[show 1*5+m-5=m by omega];exact h
theorem En{W:vk}{d1 d2 g:Nat}{f T2:ab}{s1 s2:vn}{l n F:Nat→Prop}(r:OwnAt W d1 f.q s1 l)(s:OwnAt W d2 T2.q s2 n)(f1:Fits f)(f2:Fits T2)
  (t:W.heap[g]?=Y (ur (ai f s1++ai T2 s2).toArray 25 (0,0))) (hF:F g) (o:∀b,l b→F b∧b≠g) (p:∀b,n b→F b∧b≠g) (h:∀b,l b→¬n b) :
  OwnAt W (d1+d2+1) [f,T2] (A (Y ⟨g,0,U⟩) 2 2) F:=by
 have v:=r.mores d2;have q:=s.mores d1;rw[Nat.add_comm d2 d1]at q;refine Or.inr ⟨g,2,(ai f s1++ai T2 s2).toArray,fun i b=>(i=0∧l b)∨(i=1∧n b),by simp,hF,Fj _,by unfold maxLen;omega,V,t,by simp[ai],fun i x c=>?_,fun i b d=>?_,fun i j b w k e=>?_⟩
 ·cases i with
  | zero =>
   simp at c;subst c;exact⟨f1,s1,fun m u hu=>mK.1 hu,v.K fun b d=>Or.inl ⟨V,d⟩⟩
  | succ i =>
   cases i with
   | zero =>
    simp at c;subst c;exact⟨f2,s2,fun m u hu=>mK.2 hu,q.K fun b d=>Or.inr ⟨V,d⟩⟩
   | succ i=>simp at c
 ·rcases d with ⟨_,d⟩|⟨_,d⟩
  ·exact o b d
  ·exact p b d
 ·rcases k with ⟨a,k⟩|⟨a,k⟩
  ·rcases e with ⟨b',e⟩|⟨b',e⟩
   ·omega
   ·exact h b k e
  ·rcases e with ⟨b',e⟩|⟨b',e⟩
   ·exact h b e k
   ·omega
def nV(a:Nat) (b:ab) (s1:vn) (T2:ab) (W:vk) (xs:List vn):Prop:=∃(d g N:Nat) (s:vn),xs=[I Z g]∧W.heap[g]?=Y (ur (ai b s1++ai T2 s).toArray 25 (0,0))∧OwnAt W d T2.q s (bP a N)∧Fits T2∧a≤N∧N≤g
theorem nV.h{a Q:Nat}{c T2:ab}{s1:vn}{W W':vk}{xs:List vn}(h:nV a c s1 T2 W xs)(q:Q<a)(e:W.grownBy W' (Y Q)):nV a c s1 T2 W' xs:=by
 obtain⟨d,g,N,s,f,i,j,k,l,m⟩:=h;exact⟨d,g,N,s,f,bH e i (by omega),j.z fun b o n p=>bH e p (by have:=n.1;omega),k,l,m⟩
def leftOf(P:Nat) (w:vk):Nat:=match w.cell? ⟨P,0,U⟩ with|some (A _ m _)=>m|_=>0
theorem PAt.left{w:vk}{P L cap:Nat}{ts:List Tok}{k:Nat}{bad:Bool}(h:PAt w P L cap ts k bad):leftOf P w=ts.length-k:=by
 obtain⟨m,c,b,d,a,_⟩:=h.y;unfold leftOf;rw[a]
 show m=_
 omega
theorem D9{lvl:Nat}(h:lvl<5){i:Nat}{s:ByteArray}(a:(iO lvl)[i]?=Y s):(ki.map J)[lvl*6+i]?=Y (J s):=by
 have b:i<6:=by
  have:=(FD.1 a).1;have e:(iO lvl).length=6:=by
   match lvl,h with
   | 0,_=>rfl
   | 1,_=>rfl
   | 2,_=>rfl
   | 3,_=>rfl
   | 4,_=>rfl
  omega
 match lvl,h,i,b with
 | 0,_,0,_|0,_,1,_|0,_,2,_|0,_,3,_|0,_,4,_|0,_,5,_
 | 1,_,0,_|1,_,1,_|1,_,2,_|1,_,3,_|1,_,4,_|1,_,5,_
 | 2,_,0,_|2,_,1,_|2,_,2,_|2,_,3,_|2,_,4,_|2,_,5,_
 | 3,_,0,_|3,_,1,_|3,_,2,_|3,_,3,_|3,_,4,_|3,_,5,_
 | 4,_,0,_|4,_,1,_|4,_,2,_|4,_,3,_|4,_,4,_|4,_,5,_ =>first|(injection a with a;subst a;rfl)
theorem Ci{lvl:Nat}(h:lvl<5):(iO lvl).length=6:=by
 match lvl,h with
 | 0,_=>rfl
 | 1,_=>rfl
 | 2,_=>rfl
 | 3,_=>rfl
 | 4,_=>rfl
theorem wu{w:vk}{b lvl:Nat}(a:w.heap[b]?=Y (ur (ki.map J).toArray 407 (0,0)))(h:lvl<5):kK w b (lvl*6) (iO lvl):=
 ⟨(Fi.1 a).1,fun i s c=>by
  rw[Gb _ _ _ _ _ _ a,List.getElem?_toArray]
  exact D9 h c⟩
theorem vz(a:Int)(x:ByteArray)(p:Int)(W:vk):(Instr.field 122 (wD #[I O a,J x,I Z p]) 1).run wq W=.ok (J x) W:=by kernel_rfl
theorem j4(a:Int)(x:ByteArray)(p:Int)(W:vk):(Instr.field 122 (wD #[I O a,J x,I Z p]) 2).run wq W=.ok (I Z p) W:=by kernel_rfl
def uV(w:vk) (P L cap:Nat) (ts:List Tok) (ex:PS→ab×PS) (lvl:Nat) (pl:Int) (R:ab×PS) (e a c f:Nat) (wr:vk):Prop:=
 ∃(g:Nat) (T:ab) (σ:PS) (d:Nat) (s:vn),ic ts ex lvl pl g T σ=R∧ts.length-σ.1≤g∧f≤σ.1∧ay w P L cap ts σ.1 σ.2 wr∧wr.heap[e]?=Y (ur bS 25 (0,0))∧wr.heap[a]?=Y (ur (ki.map J).toArray 407 (0,0))∧
  wr.heap[c]?=Y (ur (ai T s).toArray 25 (0,0))∧OwnAt wr d T.q s (fun b=>a<b∧b<wr.heap.size∧b≠c)∧Fits T
theorem EF{ts:List Tok}(c6:cG ts){f:Nat}(h1:tH ts (f+1))(hE:vy ts f):vy ts (f+1):=by
 intro lvl σ w P L cap b8 h hf;have c7:Gc w (w.alloc (ur bS 25)):=(Fl _ w).alloc (Fj _) _;obtain⟨H0,hc⟩:=zz2 (h.b c7) h;have hP:=h.lt.1;obtain⟨HL,HX,cr,c8,ct,b0⟩:=zz6 h.lt.2 (qv w (ur bS 25)) c6 h1 hE hf;obtain⟨R,ar⟩:=zzy (exM ts (f+1) lvl σ);rw[ar];have HR:=Hd ar;clear h c7 c6 h1 hE hf ar;have b1:=Hd (wK (w.alloc (ur bS 25)))
 go_enter Tryz.func260,Tryz.ntmps260
 go_wp2_with fail
 refine Fx b1.o ?_;rintro e w1 ⟨rfl,cu⟩;obtain⟨c9,av⟩:=zz2 (H0.o.f cu) (aa cu HX.o (by simp));have S:w.heap.size<w1.heap.size:=(Fi.1 av.o).1;clear cu;obtain⟨vs,bb⟩:=zzy (ki.map J);rw[bb];have hlen:vs.length=30:=by rw[←bb];rfl
 have b9:vs.toArray.all (·.oneCell')=true:=by rw[←bb];exact vl
 dsimp only
 iterate 4 (first|go_step|go_back)
 have hN:=qv w1 (ur gW 407);have hB:=(Fl _ w1).alloc (Fj _) (ur gW 407);change wpList _ _ _ _ _ (w1.alloc (ur gW 407));generalize w1.alloc (ur gW 407)=b2 at *;refine wpList_store_mid V 407 _ _ V w1.heap.size 0 vs.toArray V V (pd hN (by simp[hlen,gW])) (by simp only[List.size_toArray,hlen];kernel_rfl) b9 ?_;have bc:=nB (vs:=vs) hN (by simp[hlen,gW]);have cv:=mR (Fj _) vs 0 b2 hB;change wpList _ _ _ _ _ (b2.setCells w1.heap.size 0 vs);generalize b2.setCells w1.heap.size 0 vs=w2 at *;rw[←bb]at bc;obtain⟨da,C,G⟩:=zz3 bc (c9.o.f cv) (aa cv av.o S);have H:w1.heap.size<w2.heap.size:=(Fi.1 bc).1;have b1:Hid (lvl≤5):=b8;obtain⟨m,c,e1,e2,c0,c1,f0,f1⟩:=C.o.2.y;clear hN hB cv bc b9 bb hlen e1 e2 c0 f0 f1 b2 b8
 cases q:σ.2 with
 | true =>
  rw[q]at c1;have hR:(fR,σ)=R:=by rw[←HR.o];unfold exM;rw[r6 q]
  have ca:=Hd q;obtain⟨a0,a1,a2,a3,a4⟩:=cells5 G.o;have z0:=ac G.o 0;have z1:=ac G.o 1;have z2:=ac G.o 2;have z3:=ac G.o 3;have z4:=ac G.o 4;clear q;go_wp2_with fail
  refine bA Tryz.results260 V (a7 G.o _ _ _ _ _) V ?_;rw[←hR];exact be.h (r:=(fR,σ)) hP HL.o C.o (jN _ _) (fs (by omega) (by show (0:Nat)≤16384;omega) (by omega) (by omega)) (Fj _) (Nat.lt_trans S H) _ _ _ _ _
 | false =>
  rw[q]at c1;have ca:=Hd q
  by_cases b3:lvl=5
  ·subst b3;have HO:=Hd (c8.o σ w2 P L cap q C.o.2 (by have:=b0.o;omega));rw[HR.o]at HO;clear q;go_wp2_with fail
   refine Fx HO.o ?_;rintro e w4 ⟨d,s,rfl,X,F,hf⟩;obtain⟨p,c,rfl⟩:=F.b;have hd:=Hd (C.o.b X);have y0:=X.h G.o hP (Fj _);have K:=Hd y0;obtain⟨a0,a1,a2,a3,a4⟩:=cells5 y0;have z0:=ac y0 0;have z1:=ac y0 1;have z2:=ac y0 2;have z3:=ac y0 3;have z4:=ac y0 4;obtain⟨HO,HF⟩:=zz2 F hf;clear X y0 F hf c1;go_wp2_with fail
   refine bA Tryz.results260 V (a7 K.o _ _ _ _ _) V ?_;exact be.h hP HL.o hd.o HO.o HF.o (Fj _) (Nat.lt_trans S H) _ _ _ _ _
  have hR:ic ts (exM ts f (lvl+1)) lvl (atM ts σ) ts.length (exM ts f (lvl+1) σ).1 (exM ts f (lvl+1) σ).2=R:=by
   rw[←HR.o]
   conv=>rhs;unfold exM
   rw[r5 (by rw[q];decide),r5 b3]
  have cx:lvl<5:=by have:=b1.o;omega
  have cb:((lvl:Int)==5)=false:=by simp;omega
  obtain⟨al,h0⟩:=zz2 (ge C.o.2) cx;have cA:0≤atM ts σ∧atM ts σ≤16384:=by
   obtain⟨_,_,g3⟩:=cM cr.o σ.1;unfold atM;omega
  obtain⟨at_,cc⟩:=zzy (atM ts σ);rw[cc]at cA hR al;have dc:=Hd cA;generalize kdM ts σ=kd at al;generalize txM ts σ=tx at al;have dd:=Hd hR;clear HR hR cA cc q b3;go_wp2_with fail
  refine Fx al.o ?_;rintro e w3 ⟨rfl,bd⟩;obtain⟨bk,b4,bl⟩:=zz3 (C.o.f bd) (aa bd G.o (Nat.lt_trans S H)) (aa bd da.o H);have hh:w2.heap.size≤w3.heap.size:=bd.size;have D:=Hd (ct.o (lvl+1) σ w3 P L cap (by omega) bk.o.2 (by have:=b0.o;omega));rw[Int.natCast_succ]at D;clear bd c1;have hi:=j4 kd tx at_ w3;go_wp2_with fail
  refine Fx D.o ?_;rintro e w4 ⟨d,s,rfl,X,F,hf⟩;clear hi D b1 hc H0 HX av c9 cb ca m c;obtain⟨p,c,rfl⟩:=F.b;have D:Hid (∀(σ:PS) (W:vk),PAt W P L cap ts σ.1 σ.2→(ts.length-σ.1)*7+(6-(lvl+1))≤f→wB wq 260 #[wF (Y ⟨P,0,U⟩),I Z (lvl+1)] W (be W P L cap ts (exM ts f (lvl+1) σ))):=by
   intro σ W h1 h2;have:=ct.o (lvl+1) σ W P L cap (by omega) h1 h2;rw[Int.natCast_succ]at this;exact this
  have dg:Hid (∀σ,σ.1≤(exM ts f (lvl+1) σ).2.1):=fun σ=>BC ts f (lvl+1) σ
  have dp:Hid ((ts.length-σ.1)*7+(6-(lvl+1))≤f):=by show _≤_;have:=b0.o;omega
  have hj:Hid (σ.1≤(exM ts f (lvl+1) σ).2.1):=dg.o σ;generalize exM ts f (lvl+1)=ex at *;generalize ex σ=r at *;obtain⟨W0,b5⟩:=zzx (w4.alloc (ur (ai r.1 (A p r.1.q.length c)).toArray 25));have bn:Gc w4 W0:=by rw[b5];exact (Fl _ w4).alloc (Fj _) _
  have cC:W0.heap[w4.heap.size]?=Y (ur (ai r.1 (A p r.1.q.length c)).toArray 25 (0,0)):=by rw[b5];exact qv w4 _
  have hk:w3.heap.size≤w4.heap.size:=X.1.size;have ds:=X.h b4.o hP (Fj _);have dv:=X.h bl.o hP (FT S);have aq:Hid (uV w P L cap ts ex lvl at_ R w.heap.size w1.heap.size w4.heap.size σ.1 W0):=by
   refine⟨ts.length,r.1,r.2,d,A p r.1.q.length c,dd.o,Nat.sub_le _ _,hj.o,(bk.o.b X).f bn,aa bn ds (by omega),aa bn dv (by omega),cC,?_,hf⟩;refine (F.u (fun b j=>j.2) bn).K fun b j=>?_
   have h1:=j.1;have h2:=j.2;have h3:w4.heap.size<W0.heap.size:=(Fi.1 cC).1;exact⟨by omega,by omega,by omega⟩
  have hX:w1.heap.size<w4.heap.size:=by omega
  clear bn cC ds dv X F hf hk b0 ct dd b4 bl bk G da C H hh;go_wp2_with fail
  change xV _ _ _ _ (w4.alloc (ur (ai r.1 (A p r.1.q.length c)).toArray 25));rw[←b5];clear b5
  go_loopw [8] (fun _ wr=>uV w P L cap ts ex lvl at_ R w.heap.size w1.heap.size w4.heap.size σ.1 wr) (fun _ wr=>leftOf P wr)
  case atStart=>exact aq.o
  case round =>
   clear aq W0;obtain⟨g,T,l,d1,s1,bq,hg,ea,hT,eb,ec,cR,F,hf⟩:=hrel;obtain⟨p1,c1,rfl⟩:=F.b;obtain⟨HT,HO,HF,hl,av,b4,br⟩:=zz7 hT F hf eb ec cR bq;obtain⟨HG,eg⟩:=zz2 hg ea;have ek:w4.heap.size<wr.heap.size:=(Fi.1 cR).1;clear hT F hf eb ec cR bq hg ea;have h4:(0:Int)≤lvl:=by omega
   have b3:(lvl:Int)<5:=by omega
   have el:∀x:Wb wr,wB wq 159 #[wF (Y ⟨P,0,U⟩),A (Y ⟨w1.heap.size,lvl*6,U⟩) 6 6] x.1 fun e w'=>e=Ending.returned (Value.bool (isM ts l (iO lvl)))∧Below x.1.heap.size x.1 w':=fun x =>oG (HT.o.2.u x.2) (gu HT.o.2.k) w1.heap.size (lvl*6) 6 6 (iO lvl) (wu (aa x.2 av.o (by omega)) cx) (Ci cx) (by omega)
   have en:=Hd el;have HM:Hid (isM ts l (iO lvl)=isM ts l (iO lvl)):=rfl;obtain⟨b,j⟩:=zzy (isM ts l (iO lvl));rw[j]at en;have HB:=Hd j;clear el HM j;go_wp2_with fail
   refine au (by kernel_rfl) (by kernel_rfl) ?_
   repeat (go_big_quiet_step ((go_at_call 159;exact Calls.b (en.o _))))
   refine z7 ?_;intro W2 hn;obtain⟨⟨_,M⟩,rfl⟩:=hn;have h5:=Hd M;have eo:wr.heap.size≤W2.heap.size:=M.size;obtain⟨C,K,hp,ep,er⟩:=zz5 (HT.o.f M) (aa M hl.o (by omega)) (aa M av.o (by omega)) (aa M b4.o ek) (HO.o.u (fun b j=>j.2.1) M);clear M
   cases b with
   | false =>
    have ar:(T,l)=R:=by
     rw[←br.o]
     cases g with
     | zero=>rfl
     | succ g=>unfold ic;rw[r5 (by rw[HB.o];decide)]
    have cT:=Hd ar;obtain⟨a0,a1,a2,a3,a4⟩:=cells5 K.o;have z0:=ac K.o 0;have z1:=ac K.o 1;have z2:=ac K.o 2;have z3:=ac K.o 3;have z4:=ac K.o 4;obtain⟨d0,a6,d2,d3,d4⟩:=cells5 ep.o;clear ar;go_wp2_with fail
    refine bA Tryz.results260 V (a7 K.o _ _ _ _ _) V ?_;rw[←cT.o];exact be.h (r:=(T,l)) (B:=w1.heap.size) hP HL.o C.o (er.o.K (fun b j=>⟨FT j.1,Ft j.2.1 eo⟩)) HF.o (Fj _) S _ _ _ _ _
   | true =>
    have ad:=Hd (ge C.o.2);obtain⟨E,bt⟩:=zzy (txM ts l);rw[bt]at ad;have et:=Hd bt;generalize kdM ts l=hq at ad;generalize atM ts l=at2 at ad;clear bt;go_wp2_with fail
    refine Fx ad.o ?_;rintro e w5 ⟨rfl,b6⟩;have hr:=vz hq E at2 w5;have cb:W2.heap.size≤w5.heap.size:=b6.size;obtain⟨w6,cV⟩:=zzx (w5.alloc (ur #[I O 16,J E,I Z 0,I Z at_,A U 0 0] 25));have ev:Gc w5 w6:=by rw[cV];exact (Fl _ w5).alloc (Fj _) _
    have e5:Hid (w6.heap[w5.heap.size]?=Y (ur #[I O 16,J E,I Z 0,I Z at_,A U 0 0] 25 (0,0))):=by show _=_;rw[cV];exact qv w5 _
    have Q:Gc W2 w6:=b6.trans (ev.mono b6.size);have h6:w5.heap.size<w6.heap.size:=(Fi.1 e5.o).1;obtain⟨e6,hs,ht,hv,hx⟩:=zz5 (C.o.f Q) (aa Q K.o (by omega)) (aa Q hp.o (by omega)) (aa Q ep.o (by omega)) (er.o.u (fun b j=>Ft j.2.1 eo) Q);have hy:=Hd (ka e6.o.2);clear b6 ev Q;go_wp2_with fail
    rw[←cV];refine Fx hy.o ?_;rintro e y ⟨rfl,ch⟩;have af:ay w6 P L cap ts (ag ts l).1 (ag ts l).2 y:=ch;have e7:=Hd (e6.o.b af);have h7:w6.heap.size≤y.heap.size:=af.1.size;obtain⟨hz,hA,e8,hC,hD⟩:=zz5 (af.h hs.o hP (Fj _)) (af.h ht.o hP (FT S)) (af.h hv.o hP (by omega)) (af.h e5.o hP (by omega)) (hx.o.z fun b o j F=>bH af.1 F (by have:=j.1;omega));obtain⟨q1,q2,q3⟩:=fo cr.o HT.o.2.k HB.o;have hG:=Hd (D.o (ag ts l) y.drew e7.o.2.drew (by rw[q1];have:=dp.o;have:=eg.o;omega));have cW:=dg.o (ag ts l);rw[q1]at cW;have hI:=Hd cW;have hJ:=Hd (show σ.1≤(ex (ag ts l)).2.1 by have:=eg.o;omega);obtain⟨g',e9,fe⟩:∃g',ts.length-(ex (ag ts l)).2.1≤g'∧(if lvl=2 then (.mk 16 E 0 at_ [T,(ex (ag ts l)).1],(ex (ag ts l)).2) else ic ts ex lvl at_ g' (.mk 16 E 0 at_ [T,(ex (ag ts l)).1]) (ex (ag ts l)).2)=R:=by
     have h1:=br.o;have h2:=HG.o
     cases g with
     | zero=>omega
     | succ g =>
      refine⟨g,by omega,?_⟩;unfold ic at h1;rw[r6 HB.o,et.o]at h1;exact h1
    obtain⟨hK,fm⟩:=zz2 e9 fe;clear e9 fe cW q1 q2 q3 ch af;generalize ex (ag ts l)=r2 at *;have fp:Hid (E.size≤16384):=by show _≤_;rw[←et.o];exact (cM cr.o l.1).2.1
    obtain⟨d0,a6,d2,d3,d4⟩:=cells5 e8.o;have bB:w4.heap.size≠P:=by omega
    have C0:=fun x:RE.Gr y P=>x.b d0 bB
    have C1:=fun x:RE.Gr y P=>x.b a6 bB
    have C2:=fun x:RE.Gr y P=>x.b d2 bB
    have C3:=fun x:RE.Gr y P=>x.b d3 bB
    have C4:=fun x:RE.Gr y P=>x.b d4 bB
    have fv:P<y.heap.size:=by omega
    clear d0 a6 d2 d3 d4 hr;go_wp2_with fail
    refine RE.q (by kernel_rfl) 6 [4,5] [4,5] (fun s W=>if s=0 then W=y.drew else ay y P L cap ts r2.2.1 r2.2.2 W) (fun W W'=>W.grownBy W' (Y P))
     (fun i xs=>if i=4 then wD #[I O r2.1.b,J r2.1.f,I Z r2.1.h,I Z r2.1.t,xs.getD 0 undef] else A (Y ⟨RE.natOf xs,0,U⟩) 2 2)
     (fun i W xs=>if i=4 then fZ y.heap.size r2.1 W xs else nV y.heap.size T (A p1 T.q.length c1) r2.1 W xs) (by kernel_rfl) (fun i h1 h2=>by rw[h1]at h2;cases h2) ?_ V ?_
    ·intro k W W' xs h _ hg
     split at h
     ·rw[r6 (by assumption)];exact h.h fv hg
     ·rw[r5 (by assumption)];exact h.h fv hg
    simp only[Fy,FK,Fz,FI,FU,List.length_nil,Nat.reduceAdd];have fz:∀(n s:Nat) (W:vk),s≤n→(if s=0 then W=y.drew else ay y P L cap ts r2.2.1 r2.2.2 W)→∃x:RE.Gr y P,W=x.1:=fun n s W _ h=>by
     split at h
     ·exact⟨⟨W,by rw[h];exact grown_drewN (sm y _) 1⟩,V⟩
     ·exact⟨⟨W,h.1⟩,V⟩
    have hL:=Hd fz;clear fz
    repeat (refine RE.b (fun W=>∃x:RE.Gr y P,W=x.1) (hL.o _) V V V V ?_;go_big_quiet_step (fail);refine z7 ?_)
    refine RE.f V V ?_ (fun fI=>?_)
    ·intro W _ hS _;obtain rfl:W=y.drew:=hS V;refine RE.t 260 _ _ V (enters_of Tryz.func260 (by kernel_rfl) V) #[wF (Y ⟨P,0,U⟩),I Z (lvl+1)] (by simp[Act.eval]) (hG.o.mono ?_);rintro e W' ⟨d,s,rfl,hT,F,hf⟩;exact⟨_,V,[s],V,hT.q,hT.1,⟨d,s,V,F,hf⟩⟩
    simp only[Act.put,Fo,Fw,Fv];refine RE.f V V ?_ (fun fM=>?_)
    ·intro W _ hS hM;have hT:ay y P L cap ts r2.2.1 r2.2.2 W:=hS V;obtain⟨d,s,rfl,F,hf⟩:fZ y.heap.size r2.1 W fI:=hM 4 fI (by kernel_rfl) V;obtain⟨p,c,rfl⟩:=F.b;refine RE.Upon.told (v:=A (Y ⟨W.heap.size,0,U⟩) 2 2) (w':=W.alloc (ur (ai T (A p1 T.q.length c1)++ai r2.1 (A p r2.1.q.length c)).toArray 25)) ?_ ⟨[I Z W.heap.size],V,hT.y _,?_,?_⟩
     ·unfold RE.Upon
      go_simp
      rfl
     ·exact aQ ((Fl _ W).alloc (Fj _) _) _
     ·refine⟨d,W.heap.size,W.heap.size,_,V,qv W _,?_,hf,hT.1.size,Fj _⟩;exact F.u (fun b j=>j.2) ((Fl _ W).alloc (Fj _) _)
    simp only[Act.put,Fo,Fw,Fv];refine RE.h ?_;intro W3 hS hE;have ak:ay y P L cap ts r2.2.1 r2.2.2 W3:=hS;obtain⟨d,gg,N,s2,rfl,c3,fT,gf,h8,bc⟩:=(show nV y.heap.size T (A p1 T.q.length c1) r2.1 W3 fM from hE 5 fM V);have gD:gg<W3.heap.size:=(Fi.1 c3).1;have hY:y.heap.size≤W3.heap.size:=ak.1.size;obtain⟨bk,hO,hQ,bl,hV⟩:=zz5 (e7.o.b ak) (ak.h hz.o hP (Fj _)) (ak.h hA.o hP (FT S)) (ak.h e8.o hP (by omega)) (ak.h hC.o hP (by omega));have gE:=hD.o.z fun b o j F=>bH ak.1 F (by have:=j.1;omega)
    have gF:Hid (OwnAt W3 (d1+d+1) [T,r2.1] (A (Y ⟨gg,0,U⟩) 2 2) (fun b=>w1.heap.size<b∧b<W3.heap.size∧b≠w4.heap.size∧b≠w5.heap.size)):=by
     refine En gE fT HF.o gf c3 ⟨by omega,gD,by omega,by omega⟩ (fun b j=>?_) (fun b j=>?_) (fun b j M=>?_)
     ·exact⟨⟨j.1,by have:=j.2.1;omega,j.2.2,by have:=j.2.1;omega⟩,by have:=j.2.1;omega⟩
     ·exact⟨⟨by have:=j.1;omega,by have:=j.2;omega,by have:=j.1;omega,by have:=j.1;omega⟩,by have:=j.2;omega⟩
     ·have:=j.2.1;have:=M.1;omega
    obtain⟨sl,gH⟩:=zzx (A (Y ⟨gg,0,U⟩) 2 2);obtain⟨Wn,ba⟩:=zzx (set5 (W3.setCell ⟨w5.heap.size,4,U⟩ sl) w4.heap.size (I O 16) (J E) (I Z 0) (I Z at_) sl);have ck:Wn.heap.size=W3.heap.size:=by rw[ba,sB];simp[BT]
    have z:∀b,b≠w4.heap.size→b≠w5.heap.size→Wn.heap[b]?=W3.heap[b]?:=fun b h1 h2=>by rw[ba,kr h1];exact Fp _ _ _ b h2
    obtain⟨b7,u,gL⟩:=zz3 (show ay w P L cap ts r2.2.1 r2.2.2 Wn by rw[ba];exact (bk.o.t hP HL.o (by omega) 4 sl).set5 hP HL.o (by omega) _ _ _ _ _) ((z w.heap.size (by omega) (by omega)).trans hO.o) ((z w1.heap.size (by omega) (by omega)).trans hQ.o);have cl:Hid (Wn.heap[w4.heap.size]?=Y (ur (ai (.mk 16 E 0 at_ [T,r2.1]) sl).toArray 25 (0,0))):=by
     show _=_
     rw[ba];exact a7 ((Fp _ _ _ _ (show w4.heap.size≠w5.heap.size by omega)).trans bl.o) _ _ _ _ _
    have gM:Hid (OwnAt Wn (d1+d+1) [T,r2.1] sl (fun b=>w1.heap.size<b∧b<Wn.heap.size∧b≠w4.heap.size)):=by
     rw[gH];exact (gF.o.z fun b o j F=>(z b j.2.2.1 j.2.2.2).trans F).K fun b j=>⟨j.1,by rw[ck];exact j.2.1,j.2.2.1⟩
    have gN:Fits (.mk 16 E 0 at_ [T,r2.1]):=fs (by omega) fp.o dc.o.1 dc.o.2;have gO:=Hd gN;have bR:leftOf P Wn<leftOf P wr:=by
     rw[b7.o.2.left,HT.o.2.left];have:=hI.o;have:=b7.o.2.k;omega
    have c5:=Hd bR;have y3:=bl.o;have y8:=hV.o;obtain⟨d0,a6,d2,d3,d4⟩:=cells5 y3;have z0:=ac y3 0;have z1:=ac y3 1;have z2:=ac y3 2;have z3:=ac y3 3;have z4:=ac y3 4;obtain⟨e0,e1,e2,e3,e4⟩:=cells5 y8;have x4:=ac y8 4;have hW:(w4.heap.size=w5.heap.size)=False:=by simp;omega
    have gS:(w5.heap.size=w4.heap.size)=False:=by simp;omega
    clear C0 C1 C2 C3 C4 hE hS ak gE fT gf c3 y3 y8 z bR gN ck;subst gH;have gT:=Hd ba;clear ba hW gS;go_upto_region 13 with fail
    change xV _ _ _ _ (set5 (W3.setCell ⟨w5.heap.size,4,U⟩ (A (Y ⟨gg,0,U⟩) 2 2)) w4.heap.size (I O 16) (J E) (I Z 0) (I Z at_) (A (Y ⟨gg,0,U⟩) 2 2));rw[←gT.o];clear gT d0 a6 d2 d3 d4 z0 z1 z2 z3 z4 e0 e1 e2 e3 e4 x4
    by_cases H:lvl=2
    ·have hR:=fm.o;rw[r6 H]at hR;have cT:=Hd hR;have ha:((lvl:Int)==2)=true:=by simp;omega
     obtain⟨a0,a1,a2,a3,a4⟩:=cells5 u.o;have z0:=ac u.o 0;have z1:=ac u.o 1;have z2:=ac u.o 2;have z3:=ac u.o 3;have z4:=ac u.o 4;obtain⟨d0,a6,d2,d3,d4⟩:=cells5 cl.o;clear hR H;go_wp2_with fail
     refine bA Tryz.results260 V (a7 u.o _ _ _ _ _) V ?_;rw[←cT.o];exact be.h (r:=(.mk 16 E 0 at_ [T,r2.1],r2.2)) (B:=w1.heap.size) hP HL.o b7.o (gM.o.K (fun b j=>⟨FT j.1,j.2.1⟩)) gO.o (Fj _) S _ _ _ _ _
    ·have hR:=fm.o;rw[r5 H]at hR;have cq:uV w P L cap ts ex lvl at_ R w.heap.size w1.heap.size w4.heap.size σ.1 Wn:=
      ⟨g',_,r2.2,_,_,hR,hK.o,hJ.o,b7.o,u.o,gL.o,cl.o,gM.o,gO.o⟩
     have aq:=Hd cq;have ha:((lvl:Int)==2)=false:=by simp;omega
     clear hR H cq;go_wp2_with fail
     exact⟨aq.o,c5.o⟩
theorem ES{ts:List Tok}(a:cG ts):∀f,tH ts f∧vy ts f:=by
 intro f
 induction f with
 | zero=>exact⟨fun σ w P L cap _ _ d=>by omega,fun lvl σ w P L cap e _ d=>by omega⟩
 | succ f b =>
  have c:=Em a b.1 b.2;exact⟨c,EF a c b.2⟩
def eH(ts:List Tok) (σ:PS):ab×PS:=exM ts (ts.length*7+6) 0 σ
theorem gb(ts:List Tok)(σ:PS):σ.1≤(eH ts σ).2.1:=BC ts _ 0 σ
theorem sT{w:vk}{P L cap:Nat}{ts:List Tok}(a:cG ts){σ:PS}(h:PAt w P L cap ts σ.1 σ.2):wB wq 232 #[wF (Y ⟨P,0,U⟩)] w (be w P L cap ts (eH ts σ)):=
 sD (ES a _).2 σ w P L cap h (by have:(ts.length-σ.1)*7≤ts.length*7:=Nat.mul_le_mul_right _ (Nat.sub_le _ _);omega)
def jx:ByteArray:=⟨#[44]⟩
def eQ(ts:List Tok) (one:PS→ab×PS):Nat→List ab→PS→List ab×PS
 | 0,a,σ=>(a,σ)
 | g+1,a,σ=>if isM ts σ [jx]=true then eQ ts one g (a++[(one (ag ts σ)).1]) (one (ag ts σ)).2 else (a,σ)
def i9(ts:List Tok) (one:PS→ab×PS) (σ:PS):List ab×PS:=eQ ts one ts.length [(one σ).1] (one σ).2
def cy(ts:List Tok) (one:PS→ab×PS) (σ:PS):List ab×PS:=
 if isM ts (aU ts σ fD) [ib]=true then ([],ag ts (aU ts σ fD))
 else ((i9 ts one (aU ts σ fD)).1,aU ts (i9 ts one (aU ts σ fD)).2 ib)
theorem ya{ts:List Tok}{one:PS→ab×PS}(b:∀σ,σ.1≤(one σ).2.1):∀(g:Nat) (a:List ab) (σ:PS),σ.1≤(eQ ts one g a σ).2.1:=by
 intro g
 induction g with
 | zero=>intro a σ;exact Fj _
 | succ g c =>
  intro a σ;unfold eQ
  split
  ·exact Fu (Fu (eS ts σ).1 (b _)) (c _ _)
  ·exact Fj _
theorem ra{ts:List Tok}{one:PS→ab×PS}(a:∀σ,σ.1≤(one σ).2.1)(σ:PS):σ.1≤(i9 ts one σ).2.1:=Fu (a σ) (ya a _ _ _)
theorem im{ts:List Tok}{one:PS→ab×PS}(b:∀σ,σ.1≤(one σ).2.1)(σ:PS):σ.1≤(cy ts one σ).2.1:=by
 unfold cy;have a:=bL ts σ fD
 split
 ·exact Fu a (eS ts _).1
 ·exact Fu (Fu a (ra b _)) (bL ts _ _)
def xg(w:vk) (P L cap:Nat) (ts:List Tok) (r:List ab×PS) (e:Ending) (w':vk):Prop:=
 ∃(d:Nat) (s:vn),e=Ending.returned s∧ay w P L cap ts r.2.1 r.2.2 w'∧OwnAt w' d r.1 s (bP w.heap.size w'.heap.size)
theorem Cd(w:vk)(l:List vn)(t:TypeId):∀(j:Nat) (u:vn),l[j]?=Y u→(w.alloc (ur l.toArray t)).cell? ((⟨w.heap.size,0,U⟩:Addr).add j)=Y u:=by
 intro j u hu;rw[Addr.add_mid,Gb _ _ _ _ _ _ (qv w _),Nat.zero_add]
 simpa using hu
theorem cF.deeper{W:vk}{L d k:Nat}{e:List ab}{own:Option Nat}{rows:List (List vn)}{f:Nat→Nat→Prop}(h:cF W L d e k own rows f)(n:Nat):cF W L (d+n) e k own rows f:=by
 obtain⟨g,j,l,m⟩:=h;exact⟨g,j,fun i T o p=>by obtain⟨a,s,b,c⟩:=l i T o p;exact⟨a,s,b,c.mores n⟩,m⟩
theorem cF.longer{W:vk}{L d k:Nat}{a:List ab}{own:Option Nat}{rows:List (List vn)}{b:Nat→Nat→Prop}(h:cF W L d a k own rows b)(n:a.length=k)(l:List ab):cF W L d (a++l) k own rows b:=by
 obtain⟨e,f,g,j⟩:=h;exact⟨e,f,fun i T m c=>g i T m (by rw[F6 (by omega)]at c;exact c),j⟩
theorem cF.nextT{W W':vk}{L d k N:Nat}{v:List ab}{own own':Option Nat}{rows:List (List vn)}{x:Nat→Nat→Prop}{t:ab}{s:vn}(h:cF W L d v k own rows x)
  (B:v[k]?=Y t) (C:Fits t) (D:OwnAt W' d t.q s (bP W.heap.size N)) (E:W.heap.size≤N) (X:N≤W'.heap.size) (hL:L≤W.heap.size) (F:W.heap.size≤W'.heap.size)
  (m:∀b,L≤b→b<W.heap.size→own≠Y b→W'.heap[b]?=W.heap[b]?) (l:∀b,own'=Y b→(own=Y b∧b<W.heap.size)∨N≤b) :
  ∃w,cF W' L d v (k+1) own' (rows++[ai t s]) w:=by
 obtain⟨y,G,H,n,K,M⟩:=h;refine⟨fun i b=>if i=k then bP W.heap.size N b else x i b,by simp[y],fun r p=>?_,fun i T hi q=>?_,fun i b c=>?_,fun i j b u c f=>?_,fun i b c=>?_⟩
 ·rcases List.mem_append.1 p with p|p
  ·exact G r p
  ·simp at p;subst p;rfl
 ·by_cases a:i=k
  ·subst a;rw[B]at q;injection q with q
   subst q;refine⟨C,s,?_,?_⟩
   ·rw[FS (by omega),y];simp
   ·simp only[sy];exact D
  ·obtain⟨a1,P,a2,a3⟩:=H i T (by omega) q;refine⟨a1,P,?_,?_⟩
   ·rw[F6 (by omega)];exact a2
   ·simp only[r5 a];exact a3.z fun b o c Q=>(m b (n i b c).1 (n i b c).2.1 (n i b c).2.2).trans Q
 ·by_cases a:i=k
  ·simp only[r6 a]at c;obtain⟨z,R⟩:=c;refine⟨by omega,by omega,fun e=>?_⟩;rcases l b e with h|h<;>omega
  ·simp only[r5 a]at c;obtain⟨z,R,S⟩:=n i b c;refine⟨z,by omega,fun e=>?_⟩;rcases l b e with h|h
   ·exact S h.1
   ·omega
 ·by_cases a:i=k
  ·have g:j≠k:=fun e=>u (a.trans e.symm)
   simp only[r6 a]at c;simp only[r5 g]at f;have:=(n j b f).2.1;have:=c.1;omega
  ·simp only[r5 a]at c
   by_cases g:j=k
   ·simp only[r6 g]at f;have:=(n i b c).2.1;have:=f.1;omega
   ·simp only[r5 g]at f;exact K i j b u c f
 ·by_cases a:i=k
  ·omega
  ·simp only[r5 a]at c;have:=M i b c;omega
theorem ll(W:vk)(L d:Nat)(a:List ab):cF W L d a 0 U [] (fun _ _=>False):=
 ⟨V,fun _ h=>absurd h FX,fun _ _ b _=>absurd b (Nat.not_lt_zero _),fun _ _ h=>h.elim,fun _ _ _ _ h=>h.elim,fun _ _ h=>h.elim⟩
theorem cF.turn{W W':vk}{L d k Q:Nat}{g:List ab}{own:Option Nat}{rows:List (List vn)}{j:Nat→Nat→Prop}(h:cF W L d g k own rows j)(l:W.grownBy W' (Y Q))(y:Q<L):cF W' L d g k own rows j:=by
 obtain⟨m,n,p,e,q,r⟩:=h;refine⟨m,n,fun i T t u=>?_,fun i b f=>⟨(e i b f).1,Ft (e i b f).2.1 l.size,(e i b f).2.2⟩,q,r⟩;obtain⟨a,s,b,c⟩:=p i T t u;exact⟨a,s,b,c.z fun x o v w=>bH l w (by have:=(e i x v).1;omega)⟩
theorem du{w w':vk}{b Q:Nat}{e:TypeId}{size n:Nat}{v:vn}{xs:List vn}(h:w.ownsRow b e size v n xs)(a:w.grownBy w' (Y Q))(d:Q<b):w'.ownsRow b e size v n xs:=by
 refine h.kept a ?_
 cases c:v.ownBlock with
 | none=>exact Or.inl V
 | some k=>exact Or.inr (fun e=>by injection e with e;have:=(eO h k c).1;omega)
theorem vU(W:vk){L:Nat}(a:L≤W.heap.size)(T:ab)(s:vn):(W.alloc (ur (ai T s).toArray 25)).ownsRow L 25 5 (A (Y ⟨W.heap.size,0,U⟩) 1 1) 1 (ai T s):=by refine⟨by simp[ai],Or.inr ⟨W.heap.size,1,(ai T s).toArray,V,a,qv W _,Fj _,by unfold maxLen;omega,by simp[ai],by simp[ai]⟩⟩
theorem ay.grownO{w W W':vk}{P L cap:Nat}{ts:List Tok}{k:Nat}{bad:Bool}(h:ay w P L cap ts k bad W)(j:P<w.heap.size)(l:L<w.heap.size){row:Option Nat}(a:W.grownBy W' row)(b:∀g,row=Y g→w.heap.size≤g):ay w P L cap ts k bad W':=by
 have d:∀i,i<w.heap.size→W'.heap[i]?=W.heap[i]?:=fun i c=>a.block i (Ft c h.1.size) (fun e=>by have:=b i e.symm;omega)
 exact⟨⟨a.os.trans h.1.os,a.tape.trans h.1.tape,a.output.trans h.1.output,Fu h.1.size a.size,fun i c f=>(d i c).trans (h.1.block i c f)⟩,h.2.z (d P j) (d L l)⟩
def wW(w:vk) (P L cap:Nat) (ts:List Tok) (one:PS→ab×PS) (R:List ab×PS) (o:vn) (W:vk):Prop:=
 ∃(g:Nat) (a:List ab) (σ:PS) (d:Nat) (rows:List (List vn)) (b:Nat→Nat→Prop),eQ ts one g a σ=R∧ts.length-σ.1≤g∧a.length≤σ.1+1∧a≠[]∧ay w P L cap ts σ.1 σ.2 W∧
  W.ownsRow w.heap.size 25 5 o a.length rows.flatten∧cF W w.heap.size d a a.length o.ownBlock rows b
def jp(ts:List Tok) (g:FuncId) (one:PS→ab×PS):Prop:=∀(σ:PS) (w:vk) (P L cap:Nat),PAt w P L cap ts σ.1 σ.2→wB wq g #[wF (Y ⟨P,0,U⟩)] w (be w P L cap ts (one σ))
theorem uB{ts:List Tok}(bd:cG ts){gf:FuncId}{one:PS→ab×PS}(cv:∀(xs:Array vn)(w:vk),(callFunc gf xs).run wq w=.ok (.enter gf xs) w)(l:jp ts gf one)(f:∀σ,σ.1≤(one σ).2.1)
  (σ:PS) (w:vk) (P L cap:Nat) (h:PAt w P L cap ts σ.1 σ.2):wB wq 162 #[wF (Y ⟨P,0,U⟩),Bk (.func gf) #[wF (Y ⟨P,0,U⟩)] #[]] w (xg w P L cap ts (i9 ts one σ)):=by
 obtain⟨b2,bk,bl,HC⟩:=zz4 bd l f (l σ w P L cap h);have hP:=h.lt.1;have hn:=h.n;have b3:=Hd h;obtain⟨R,hR⟩:=zzy (i9 ts one σ);rw[hR];have HR:=Hd hR;obtain⟨i0,b4,b5,b6,b7⟩:=info_parts mx;clear bd l f h hR
 go_enter Tryz.func162,Tryz.ntmps162
 go_wp2_with fail
 refine Fx HC.o ?_;rintro e w1 ⟨d,s,rfl,X,ho,hf⟩;obtain⟨p,c,rfl⟩:=ho.b;obtain⟨W0,m⟩:=zzx (w1.alloc (ur (ai (one σ).1 (A p (one σ).1.q.length c)).toArray 25));have H:wW w P L cap ts one R (A (Y ⟨w1.heap.size,0,U⟩) 1 1) W0:=by
  have i:Gc w1 W0:=by rw[m];exact (Fl _ w1).alloc (Fj _) _
  have bn:=X.1.size;have f:=bl.o σ;have b8:=ho.u (fun b i=>i.2) i;have cR:W0.heap.size=w1.heap.size+1:=by rw[m];simp
  obtain⟨Fs,hr⟩:=cF.nextT (W':=W0) (N:=w1.heap.size) (own':=Y w1.heap.size) (t:=(one σ).1) (ll w w.heap.size d [(one σ).1]) V hf (b8.K fun b i=>i) bn (by omega) (Fj _) (by omega)
   (fun b h1 h2 _=>by omega) (fun b i=>by injection i with i;right;omega)
  refine⟨ts.length,[(one σ).1],(one σ).2,d,_,Fs,HR.o,Nat.sub_le _ _,by simp,by simp,X.f i,?_,hr⟩;rw[m]
  simpa using vU w1 bn (one σ).1 (A p (one σ).1.q.length c)
 have K:=Hd H;clear H X ho hf HC HR;generalize one σ=r at *;go_wp2_with fail
 change xV _ _ _ _ (w1.alloc (ur (ai r.1 (A p r.1.q.length c)).toArray 25));rw[←m];clear m
 go_loopw [5] (fun o wr=>wW w P L cap ts one R o wr) (fun _ wr=>leftOf P wr)
 case atStart=>exact K.o
 case round =>
  clear K W0;obtain⟨g,ks,a,d1,rows,Fs,q,hg,hlen,F,hT,M,u⟩:=hrel;obtain⟨v,HG,Q,cT,HT,S,y⟩:=zz7 q hg hlen F hT M u;have cV:w.heap.size≤wr.heap.size:=hT.1.size;have ad:Gc wr (wr.alloc (ur #[J jx] 9)):=(Fl _ wr).alloc (Fj _) _;obtain⟨bq,af⟩:=zz2 (dA (hT.2.u ad) wr.heap.size 0 1 1 [jx] (bX [jx]) V (by omega)) ad;obtain⟨b,i⟩:=zzy (isM ts a [jx]);rw[i]at bq;have HB:=Hd i;clear q hg hlen F hT M u ad i;go_wp2_with fail
  refine Fx bq.o ?_;rintro e w2 ⟨rfl,G⟩;have z:=Hd ((HT.o.f af.o).b G);have cW:wr.heap.size≤w2.heap.size:=by have:=G.1.size;have:=af.o.size;omega
  have B:=ss (aQ af.o (Y P)) G.1;obtain⟨T,C⟩:=zz2 B (du S.o B hP);clear G B
  cases b with
  | false =>
   have br:(ks,a)=R:=by
    rw[←v.o]
    cases g with
    | zero=>rfl
    | succ g=>unfold eQ;rw[r5 (by rw[HB.o];decide)]
   have D:aR ts a [jx]=a:=by unfold aR;rw[r5 (by rw[HB.o];decide)]
   rw[D]at z;have b9:=Hd br;clear br D;go_wp2_with fail
   go_ret;rw[←b9.o];exact⟨d1+1,u5,V,z.o,rG (d:=d1+1) V C.o (y.o.turn T.o hP) (fun h=>by omega)⟩
  | true =>
   obtain⟨q1,q2,q3⟩:=fo b2.o HT.o.2.k HB.o;have D:aR ts a [jx]=ag ts a:=by unfold aR;rw[r6 HB.o]
   rw[D]at z;have ca:=Hd (bk.o (ag ts a) w2 P L cap z.o.2);have f:=bl.o (ag ts a);rw[q1]at f;have cb:=Hd f;obtain⟨g',bt,bB⟩:∃g',ts.length-(one (ag ts a)).2.1≤g'∧eQ ts one g' (ks++[(one (ag ts a)).1]) (one (ag ts a)).2=R:=by
    have h1:=v.o;have h2:=HG.o
    cases g with
    | zero=>omega
    | succ g =>
     refine⟨g,by omega,?_⟩;unfold eQ at h1;rw[r6 HB.o]at h1;exact h1
   obtain⟨cc,ch⟩:=zz2 bt bB;clear bt bB f D q1 q2;generalize one (ag ts a)=r2 at *;go_wp2_with fail
   refine Fx ca.o ?_;rintro e j ⟨d2,s2,rfl,E,ak,bR⟩;obtain⟨p2,c2,rfl⟩:=ak.b;obtain⟨ck,cl,cq,cr⟩:=zz4 (z.o.b E) E.1 ak bR;have al:=du C.o E.1 hP;have ct:w2.heap.size≤j.heap.size:=E.1.size;have c0:ks.length+1≤16385:=by have:=Q.o;omega
   clear E ak bR;go_wp2_with (at_builtin;go_must (refine wpList_append_lies _ V (.tmp 14) (.tmp 17) 23 V w.heap.size 25 i0 _ 5 64 Tryz.underlying23 b4 b5 b6 b7 V (by decide) u5 ks.length rows.flatten V (ownsRow_below al ((Fl _ j).alloc (Fj _) _)) ⟨j.heap.size,0,U⟩ 1 1 (ai r2.1 (A p2 r2.1.q.length c2)) V V (by exact Cd j (ai r2.1 (A p2 r2.1.q.length c2)) 25) (by simp[Value.oneCell',ai]) (by decide) (by unfold maxLen;omega) (by omega) (by simp;omega) (j.heap.size+1) (by simp) ?_);intro g7 cx w7 aq ar av cA)
   have a1:=eO S.o;obtain⟨w4,a6⟩:=zzx (j.alloc (ur (ai r2.1 (A p2 r2.1.q.length c2)).toArray 25));have ba:w4.grownBy w7 u5.ownBlock:=by rw[a6];exact ar
   have b0:Gc j w4:=by rw[a6];exact (Fl _ j).alloc (Fj _) _
   have cC:w4.heap.size=j.heap.size+1:=by rw[a6];simp
   have c1:=ba.size;have bb:=(ck.o.f b0).grownO hP b3.o.lt.2 ba (fun x W=>(a1 x W).1);have b1:∀b,b<j.heap.size→u5.ownBlock≠Y b→w7.heap[b]?=j.heap[b]?:=fun b h1 h2=>(ba.block b (by omega) (fun e=>h2 e.symm)).trans (b0.block b h1)
   have e2:=cq.o.mores d1;rw[Nat.add_comm d2 d1]at e2;obtain⟨cu,bc⟩:=cF.nextT (W':=w7) (N:=j.heap.size) (own':=Y g7) (t:=r2.1) (((y.o.turn T.o hP).deeper d2).longer V [r2.1]) (by simp) cr.o
    (e2.z fun x o W ho=>(b1 x W.2 (fun e=>by have:=(a1 x e).2;have:=W.1;omega)).trans ho) ct (by omega) (by omega) (by omega)
    (fun x h1 h2 F=>(b1 x (by omega) F).trans (cl.o.block x h2 (fun e=>by injection e with e;omega))) (fun x W=>by
     injection W with W
     subst W;rcases av with h|h
     ·exact Or.inl ⟨h,by have:=(a1 _ h).2;omega⟩
     ·right;omega)
   have c3:=cb.o;have c5:=bb.2.k;refine⟨⟨g',ks++[r2.1],r2.2,d1+d2,rows++[ai r2.1 (A p2 r2.1.q.length c2)],cu,ch.o,cc.o,?_,by simp,bb,?_,?_⟩,?_⟩
   ·have:=Q.o;rw[FC,F9];omega
   ·rw[List.flatten_append]
    simpa using aq
   ·rw[FC,F9];exact bc
   ·rw[bb.2.left,HT.o.2.left];omega
theorem ni{ts:List Tok}(H:cG ts){F:FuncId}{one:PS→ab×PS}(k:∀(xs:Array vn)(w:vk),(callFunc F xs).run wq w=.ok (.enter F xs) w)(l:jp ts F one)(x:∀σ,σ.1≤(one σ).2.1)
  (σ:PS) (w:vk) (P L cap:Nat) (h:PAt w P L cap ts σ.1 σ.2):wB wq 90 #[wF (Y ⟨P,0,U⟩),Bk (.func F) #[wF (Y ⟨P,0,U⟩)] #[]] w (xg w P L cap ts (cy ts one σ)):=by
 have S:=Hd (cO h fD);have y:=Hd (fun σ w P L cap h=>uB H k l x σ w P L cap h);have hP:=h.lt.1;have HP:=Hd h;obtain⟨R,z⟩:=zzy (cy ts one σ);rw[z];unfold cy at z;obtain⟨a,m⟩:=zzy (aU ts σ fD);rw[m]at z S;have T:=Hd z;clear h z m k l x
 go_enter Tryz.func90,Tryz.ntmps90
 go_wp2_with fail
 refine Fx S.o ?_;rintro e w1 ⟨rfl,j⟩;have q:Gc w1 (w1.alloc (ur #[J ib] 9)):=(Fl _ w1).alloc (Fj _) _;obtain⟨K,B⟩:=zz2 (j.f q) (dA (j.2.u q) w1.heap.size 0 1 1 [ib] (bX [ib]) V (by omega));obtain⟨b,n⟩:=zzy (isM ts a [ib]);rw[n]at B;have G:=Hd n;have X:w.heap.size≤w1.heap.size:=j.1.size;clear j q n;go_wp2_with fail
 refine Fx B.o ?_;rintro e W ⟨rfl,C⟩;have g:=Hd (K.o.b C);clear C
 cases b with
 | true =>
  have i:aR ts a [ib]=ag ts a:=by unfold aR;rw[r6 G.o]
  have f:=T.o;rw[r6 G.o]at f;rw[i]at g;have t:=Hd f;clear f i;go_wp2_with fail
  go_ret;rw[←t.o];exact⟨0,A U 0 0,V,g.o,jN _ _⟩
 | false =>
  have i:aR ts a [ib]=a:=by unfold aR;rw[r5 (by rw[G.o];decide)]
  have f:=T.o;rw[r5 (by rw[G.o];decide)]at f;rw[i]at g;have t:=Hd f;have HC:=Hd (y.o a W P L cap g.o.2);clear f i;generalize i9 ts one a=r at *;go_wp2_with fail
  refine Fx HC.o ?_;rintro e w3 ⟨d,s,rfl,u,D⟩;obtain⟨p,c,rfl⟩:=D.b;obtain⟨M,HO,N⟩:=zz3 (g.o.b u) D (cO u.2 ib);have ad:w.heap.size≤W.heap.size:=g.o.1.size;clear u D;go_wp2_with fail
  refine Fx N.o ?_;rintro e w4 ⟨rfl,v⟩;obtain⟨Q,E⟩:=zz2 (M.o.b v) v.1;clear v;go_wp2_with fail
  go_ret;rw[←t.o];exact⟨d,_,V,Q.o,(HO.o.z fun b o n D=>bH E.o D (by have:=n.1;omega)).K fun b n=>⟨by have:=n.1;omega,Ft n.2 E.o.size⟩⟩
def iW:ByteArray:=⟨#[116,101,115,116]⟩
def co:ByteArray:=⟨#[59]⟩
def dB(ts:List Tok) (a:PS→ab×PS) (σ:PS):ab×PS:=
 if isM ts σ [iW]=true then (.mk 7 ⟨#[]⟩ 0 (atM ts σ) [(eH ts (ag ts σ)).1],aU ts (eH ts (ag ts σ)).2 co)
 else if isM ts σ [ff]=true then (.mk 6 (ofM ts (ag ts σ) 2 6).1.f 0 (atM ts σ) (cy ts a (ofM ts (ag ts σ) 2 6).2).1,aU ts (cy ts a (ofM ts (ag ts σ) 2 6).2).2 co)
 else (.mk 5 (ofM ts σ 2 5).1.f 0 (atM ts σ) (cy ts a (ofM ts σ 2 5).2).1,aU ts (cy ts a (ofM ts σ 2 5).2).2 co)
theorem pF{ts:List Tok}{a:PS→ab×PS}(b:∀σ,σ.1≤(a σ).2.1)(σ:PS):σ.1≤(dB ts a σ).2.1:=by
 unfold dB;have c:=(eS ts σ).1
 (repeat' split)
 ·exact Fu c (Fu (gb ts _) (bL ts _ _))
 ·exact Fu c (Fu (ed ts _ 2 6) (Fu (im b _) (bL ts _ _)))
 ·exact Fu (ed ts _ 2 5) (Fu (im b _) (bL ts _ _))
theorem ir(a:Int)(x:ByteArray)(n p:Int)(l:Nat)(q:Option Addr)(c:Nat)(W:vk):(Instr.field 25 (wD #[I O a,J x,I Z n,I Z p,A q l c]) 1).run wq W=.ok (J x) W:=by kernel_rfl
theorem yj{ts:List Tok}(f:cG ts):jp ts 91 (fun σ=>ofM ts σ 2 3):=by
 intro σ w P L cap h;have b:Gc w (w.alloc (ur #[I O 0,J ⟨#[]⟩,I Z 0,I Z 0,A U 0 0] 25)):=(Fl _ w).alloc (Fj _) _;obtain⟨m,n⟩:=zz2 (je f (h.u b) 3 (by omega)) (h.b b);have k:=h.lt.1;have q:=Hd h.lt.2;have t:=Hd (qv w (ur #[I O 0,J ⟨#[]⟩,I Z 0,I Z 0,A U 0 0] 25));clear h b
 show wB _ _ _ _ (be w P L cap ts (ofM ts σ 2 3))
 generalize ofM ts σ 2 3=r at *
 go_enter Tryz.func91,Tryz.ntmps91
 go_wp2_with fail
 refine Fx m.o ?_;rintro e w1 ⟨d,s,rfl,g,i,l⟩;obtain⟨p,c,rfl⟩:=i.b;have a:=g.h t.o k (Fj _);have j:=Hd a;obtain⟨a0,a1,a2,a3,a4⟩:=cells5 a;have z0:=ac a 0;have y:=ac a 1;have z2:=ac a 2;have z3:=ac a 3;have z4:=ac a 4;obtain⟨u,v,x⟩:=zz3 (n.o.b g) i l;clear a g i l;go_wp2_with fail
 exact bA Tryz.results91 V (a7 j.o _ _ _ _ _) V (be.h k q.o u.o v.o x.o (Fj _) (by simp) _ _ _ _ _)
theorem hH.z{a:Nat}{T:ab}{W W':vk}{xs:List vn}(h:hH a T W xs)(c:∀b o,a≤b→W.heap[b]?=Y o→W'.heap[b]?=Y o):hH a T W' xs:=by
 obtain⟨d,g,N,s,e,f,i,j,k,l⟩:=h;exact⟨d,g,N,s,e,c g _ (by omega) f,i.z fun b o m n=>c b o m.1 n,j,k,l⟩
theorem BG{ts:List Tok}(b5:cG ts){ar:PS→ab×PS}(b4:jp ts 233 ar)(cA:∀σ,σ.1≤(ar σ).2.1):jp ts 164 (dB ts ar):=by
 intro σ w P L cap h;have b6:Gc w (w.alloc (ur bS 25)):=(Fl _ w).alloc (Fj _) _;obtain⟨HC,H0⟩:=zz2 (ge (h.u b6)) (h.b b6);have m:=h.lt.1;obtain⟨HL,HX,W,af⟩:=zz4 h.lt.2 (qv w (ur bS 25)) b5 (fun σ w P L cap h=>ni b5 (enters_of Tryz.func233 (by kernel_rfl) V) b4 cA σ w P L cap h)
 have v:dB ts ar σ=(if isM ts σ [iW]=true then (.mk 7 ⟨#[]⟩ 0 (atM ts σ) [(eH ts (ag ts σ)).1],aU ts (eH ts (ag ts σ)).2 co)
   else if isM ts σ [ff]=true then (.mk 6 (ofM ts (ag ts σ) 2 6).1.f 0 (atM ts σ) (cy ts ar (ofM ts (ag ts σ) 2 6).2).1,aU ts (cy ts ar (ofM ts (ag ts σ) 2 6).2).2 co)
   else (.mk 5 (ofM ts σ 2 5).1.f 0 (atM ts σ) (cy ts ar (ofM ts σ 2 5).2).1,aU ts (cy ts ar (ofM ts σ 2 5).2).2 co)):=rfl
 obtain⟨R,b7⟩:=zzy (dB ts ar σ);rw[b7];rw[b7]at v;obtain⟨at_,b8⟩:=zzy (atM ts σ);rw[b8]at HC v;have HR:=Hd v;have X:Hid (0≤at_∧at_≤16384):=by
  show _∧_
  obtain⟨_,_,g3⟩:=cM W.o σ.1;rw[←b8];unfold atM;omega
 clear h b6 b5 b4 cA b7 v b8;generalize kdM ts σ=kd at HC;generalize txM ts σ=tx at HC
 go_enter Tryz.func164,Tryz.ntmps164
 go_wp2_with fail
 refine Fx HC.o ?_;rintro e w1 ⟨rfl,b9⟩;have c8:=j4 kd tx at_ w1;obtain⟨c9,cC⟩:=zz2 (H0.o.f b9) (aa b9 HX.o (by simp));have z:w.heap.size<w1.heap.size:=(Fi.1 cC.o).1;clear b9;obtain⟨wA,M⟩:=zzx (w1.alloc (ur #[I O 7,J ⟨#[]⟩,I Z 0,I Z at_,A U 0 0] 25));have cR:wA.heap.size=w1.heap.size+1:=by rw[M];simp
 have cT:Hid (ay w P L cap ts σ.1 σ.2 wA):=by rw[M];exact c9.o.y _
 have cV:Hid (wA.heap[w1.heap.size]?=Y (ur #[I O 7,J ⟨#[]⟩,I Z 0,I Z at_,A U 0 0] 25 (0,0))):=by rw[M];exact qv w1 _
 have cW:Hid (wA.heap[w.heap.size]?=Y (ur bS 25 (0,0))):=by rw[M];exact (Ga w1 _ _ z).trans cC.o
 obtain⟨N,ak,al⟩:=zz3 (cT.o.y (ur #[J iW] 9)) ((Ga wA (ur #[J iW] 9) w1.heap.size (by omega)).trans cV.o) ((Ga wA (ur #[J iW] 9) w.heap.size (by omega)).trans cW.o);have j:=dA N.o.2 wA.heap.size 0 1 1 [iW] (bX [iW]) V (by omega);rw[M,r9]at j;have aq:=Hd j;clear j;go_wp2_with fail
 refine Fx aq.o ?_;rintro e w2 ⟨rfl,av⟩;rw[←M]at av;obtain⟨a6,c0,ca⟩:=zz3 (N.o.b av) (av.h al.o m (Fj _)) (av.h ak.o m (FT z));have da:w1.heap.size<w2.heap.size:=(Fi.1 ca.o).1;clear av c8 cT cV cW N ak al M cR aq
 by_cases hm:isM ts σ [iW]=true
 ·have v:=HR.o;rw[r6 hm]at v;have j:aR ts σ [iW]=ag ts σ:=by unfold aR;rw[r6 hm]
  rw[j]at a6;rw[hm];have HE:=Hd (sT W.o a6.o.2);generalize eH ts (ag ts σ)=r at *;have b1:=Hd v;clear v j hm HR;go_wp2_with fail
  refine Fx HE.o ?_;rintro e y ⟨d,s,rfl,ba,ho,hf⟩;obtain⟨p,c,rfl⟩:=ho.b;obtain⟨C,b2,b3⟩:=zz3 (a6.o.b ba) (ba.h c0.o m (Fj _)) (ba.h ca.o m (FT z));have c1:w2.heap.size≤y.heap.size:=ba.1.size;obtain⟨w4,bb⟩:=zzx (y.alloc (ur #[I O r.1.b,J r.1.f,I Z r.1.h,I Z r.1.t,A p r.1.q.length c] 25));have bc:Gc y w4:=by rw[bb];exact (Fl _ y).alloc (Fj _) _
  have c3:hH w2.heap.size r.1 w4 [I Z y.heap.size]:=⟨d,y.heap.size,y.heap.size,_,V,by rw[bb];exact qv y _,ho.u (fun b K=>K.2) bc,hf,c1,Fj _⟩;have D:=aa bc b2.o (by omega);have g:=aa bc b3.o (by omega);have c5:=C.o.f bc;have f4:=ac g 4;obtain⟨n0,n1,n2,n3,n4⟩:=cells5 g;obtain⟨n,f⟩:=zzx (w4.setCell ⟨w1.heap.size,4,U⟩ (A (Y ⟨y.heap.size,0,U⟩) 1 1));have ad:Hid (ay w P L cap ts r.2.1 r.2.2 n):=by rw[f];exact c5.t m HL.o (by omega) 4 _
  have bd:Hid (n.heap[w.heap.size]?=Y (ur bS 25 (0,0))):=by rw[f];exact (Fp _ _ _ _ (show w.heap.size≠w1.heap.size by omega)).trans D
  have bk:Hid (n.heap[w1.heap.size]?=Y (ur #[I O 7,J ⟨#[]⟩,I Z 0,I Z at_,A (Y ⟨y.heap.size,0,U⟩) 1 1] 25 (0,0))):=by rw[f];exact heap_set g 4 _
  have dc:Hid (hH w2.heap.size r.1 n [I Z y.heap.size]):=by rw[f];exact c3.z fun b o K hx=>(Fp _ _ _ _ (show b≠w1.heap.size by omega)).trans hx
  obtain⟨HW,H4,H5,c6⟩:=zz4 (cO ad.o.2 co) bb f g;clear ba ho hf bc c3 D g c5 f;rw[bb]at n0 n1 n2 n3 n4 f4;clear bb;go_upto_region 4 with fail
  change xV _ _ _ _ ((y.alloc (ur #[I O r.1.b,J r.1.f,I Z r.1.h,I Z r.1.t,A p r.1.q.length c] 25)).setCell ⟨w1.heap.size,4,U⟩ (A (Y ⟨y.heap.size,0,U⟩) 1 1));rw[←H4.o,←H5.o];clear n0 n1 n2 n3 n4 f4 H4 H5 c6;go_wp2_with fail
  refine Fx HW.o ?_;rintro e w6 ⟨rfl,i⟩;have bl:=Hd (ad.o.b i);have t:=i.h bd.o m (Fj _);have bn:=Hd t;obtain⟨n0,n1,n2,n3,n4⟩:=cells5 (i.h bk.o m (by omega));obtain⟨d',g',c7,hO⟩:=(dc.o.h (Q:=P) (by omega) i.1).own;obtain rfl:y.heap.size=g':=by injection c7 with h1;injection h1 with _ h2;omega
  have HO:=Hd hO;obtain⟨a0,a1,a2,a3,a4⟩:=cells5 t;have z0:=ac t 0;have z1:=ac t 1;have z2:=ac t 2;have z3:=ac t 3;have z4:=ac t 4;clear i t c7 hO;go_wp2_with fail
  refine bA Tryz.results164 V (a7 bn.o _ _ _ _ _) V ?_;rw[b1.o];exact be.h (r:=(.mk 7 ⟨#[]⟩ 0 at_ [r.1],aU ts r.2 co)) (B:=w2.heap.size) m HL.o bl.o HO.o (fs (by omega) (by show (0:Nat)≤16384;omega) X.o.1 X.o.2) (Fj _) (by omega) _ _ _ _ _
 ·have v:=HR.o;rw[r5 hm]at v;have j:aR ts σ [iW]=σ:=by unfold aR;rw[r5 hm]
  rw[j]at a6;have E:isM ts σ [iW]=false:=by simpa using hm
  rw[E];obtain⟨b1,N,ak,al⟩:=zz4 v (a6.o.y (ur #[J ff] 9)) ((Ga w2 (ur #[J ff] 9) w1.heap.size da).trans ca.o) ((Ga w2 (ur #[J ff] 9) w.heap.size (by omega)).trans c0.o);have aq:=Hd (dA N.o.2 w2.heap.size 0 1 1 [ff] (bX [ff]) V (by omega));clear v j hm E HR;go_wp2_with fail
  refine Fx aq.o ?_;rintro e y ⟨rfl,bq⟩;obtain⟨C,b2,b3⟩:=zz3 (N.o.b bq) (bq.h al.o m (Fj _)) (bq.h ak.o m (FT z));have c1:w2.heap.size≤y.heap.size:=by have:=bq.1.size;rw[r9]at this;omega
  clear bq N ak al aq
  by_cases hm:isM ts σ [ff]=true
  ·have v:=b1.o;rw[r6 hm]at v;have j:aR ts σ [ff]=ag ts σ:=by unfold aR;rw[r6 hm]
   rw[j]at C;have E:isM ts σ [ff]=true:=by simpa using hm
   rw[E];have cb:=Hd (je W.o C.o.2 6 (by omega));have F:(ofM ts (ag ts σ) 2 6).1.f.size≤16384:=(cM W.o _).2.1;generalize ofM ts (ag ts σ) 2 6=nm at *;obtain⟨br,cc⟩:=zz2 F v;clear v j hm E F;go_wp2_with fail
   refine Fx cb.o ?_;rintro e w4 ⟨d,s,rfl,u,ho,hf⟩;obtain⟨p,c,rfl⟩:=ho.b;have ch:=Hd (C.o.b u);have D:=u.h b2.o m (Fj _);have g:=u.h b3.o m (FT z);have dd:y.heap.size≤w4.heap.size:=u.1.size;obtain⟨n,f⟩:=zzx ((w4.setCell ⟨w1.heap.size,0,U⟩ (I O 6)).setCell ⟨w1.heap.size,1,U⟩ (J nm.1.f));have S:ay w P L cap ts nm.2.1 nm.2.2 n:=by rw[f];exact (ch.o.t m HL.o (by omega) 0 _).t m HL.o (by omega) 1 _
   have bt:n.heap[w.heap.size]?=Y (ur bS 25 (0,0)):=by rw[f];exact (Fp _ _ _ _ (show w.heap.size≠w1.heap.size by omega)).trans ((Fp _ _ _ _ (show w.heap.size≠w1.heap.size by omega)).trans D)
   have bB:n.heap[w1.heap.size]?=Y (ur #[I O 6,J nm.1.f,I Z 0,I Z at_,A U 0 0] 25 (0,0)):=by rw[f];exact heap_set (heap_set g 0 _) 1 _
   have dg:n.heap.size=w4.heap.size:=by rw[f];simp[BT]
   obtain⟨ad,bd,bk,ck⟩:=zz4 S bt bB (af.o nm.2 n P L cap S.2);have f0:=ac g 0;have f1:=ac g 1;obtain⟨n0,n1,n2,n3,n4⟩:=cells5 g;have H5:=Hd f;have cl:=ir nm.1.b nm.1.f nm.1.h nm.1.t nm.1.q.length p c w4;generalize cy ts ar nm.2=l at *;clear u ho hf D g S bt bB f;go_upto_region 9 with fail
   change xV _ _ _ _ ((w4.setCell ⟨w1.heap.size,0,U⟩ (I O 6)).setCell ⟨w1.heap.size,1,U⟩ (J nm.1.f));rw[←H5.o];clear n0 n1 n2 n3 n4 f0 f1 H5 cl;go_wp2_with fail
   refine Fx ck.o ?_;rintro e w6 ⟨d2,s2,rfl,i,T⟩;obtain⟨p2,c2,rfl⟩:=T.b;have bl:=Hd (ad.o.b i);have bR:=i.h bd.o m (Fj _);have x:=i.h bk.o m (FT z);have dp:n.heap.size≤w6.heap.size:=i.1.size;obtain⟨H,k⟩:=zzx (w6.setCell ⟨w1.heap.size,4,U⟩ (A p2 l.1.length c2));have cq:H.heap.size=w6.heap.size:=by rw[k];simp[BT]
   have b0:Hid (ay w P L cap ts l.2.1 l.2.2 H):=by rw[k];exact bl.o.t m HL.o (by omega) 4 _
   have cr:Hid (H.heap[w.heap.size]?=Y (ur bS 25 (0,0))):=by rw[k];exact (Fp _ _ _ _ (show w.heap.size≠w1.heap.size by omega)).trans bR
   have ct:Hid (H.heap[w1.heap.size]?=Y (ur #[I O 6,J nm.1.f,I Z 0,I Z at_,A p2 l.1.length c2] 25 (0,0))):=by rw[k];exact heap_set x 4 _
   have cu:Hid (OwnAt H d2 l.1 (A p2 l.1.length c2) (bP n.heap.size H.heap.size)):=by rw[cq,k];exact T.z fun b o K hx=>(Fp _ _ _ _ (show b≠w1.heap.size by have:=K.1;omega)).trans hx
   have HW:=Hd (cO b0.o.2 co);have f4:=ac x 4;obtain⟨n0,n1,n2,n3,n4⟩:=cells5 x;have H7:=Hd k;clear i T bR x k;go_upto_region 10 with fail
   change xV _ _ _ _ (w6.setCell ⟨w1.heap.size,4,U⟩ (A p2 l.1.length c2));rw[←H7.o];clear n0 n1 n2 n3 n4 f4 H7;go_wp2_with fail
   refine Fx HW.o ?_;rintro e w8 ⟨rfl,q⟩;have cv:=Hd (b0.o.b q);have t:=q.h cr.o m (Fj _);have bn:=Hd t;obtain⟨n0,n1,n2,n3,n4⟩:=cells5 (q.h ct.o m (by omega));have cx:=Hd ((cu.o.z fun b o K hx=>bH q.1 hx (by have:=K.1;omega)).K (G:=bP n.heap.size w8.heap.size) fun b K=>⟨K.1,Ft K.2 q.1.size⟩);obtain⟨a0,a1,a2,a3,a4⟩:=cells5 t;have z0:=ac t 0;have z1:=ac t 1;have z2:=ac t 2;have z3:=ac t 3;have z4:=ac t 4;clear q t;go_wp2_with fail
   refine bA Tryz.results164 V (a7 bn.o _ _ _ _ _) V ?_;rw[cc.o];exact be.h (r:=(.mk 6 nm.1.f 0 at_ l.1,aU ts l.2 co)) (B:=n.heap.size) m HL.o cv.o cx.o (fs (by omega) br.o X.o.1 X.o.2) (Fj _) (by omega) _ _ _ _ _
  ·have v:=b1.o;rw[r5 hm]at v;have j:aR ts σ [ff]=σ:=by unfold aR;rw[r5 hm]
   rw[j]at C;have E:isM ts σ [ff]=false:=by simpa using hm
   rw[E];have cb:=Hd (je W.o C.o.2 5 (by omega));have F:(ofM ts σ 2 5).1.f.size≤16384:=(cM W.o _).2.1;generalize ofM ts σ 2 5=nm at *;obtain⟨br,cc⟩:=zz2 F v;clear v j hm E F;go_wp2_with fail
   refine Fx cb.o ?_;rintro e w4 ⟨d,s,rfl,u,ho,hf⟩;obtain⟨p,c,rfl⟩:=ho.b;have ch:=Hd (C.o.b u);have D:=u.h b2.o m (Fj _);have g:=u.h b3.o m (FT z);have dd:y.heap.size≤w4.heap.size:=u.1.size;obtain⟨n,f⟩:=zzx ((w4.setCell ⟨w1.heap.size,0,U⟩ (I O 5)).setCell ⟨w1.heap.size,1,U⟩ (J nm.1.f));have S:ay w P L cap ts nm.2.1 nm.2.2 n:=by rw[f];exact (ch.o.t m HL.o (by omega) 0 _).t m HL.o (by omega) 1 _
   have bt:n.heap[w.heap.size]?=Y (ur bS 25 (0,0)):=by rw[f];exact (Fp _ _ _ _ (show w.heap.size≠w1.heap.size by omega)).trans ((Fp _ _ _ _ (show w.heap.size≠w1.heap.size by omega)).trans D)
   have bB:n.heap[w1.heap.size]?=Y (ur #[I O 5,J nm.1.f,I Z 0,I Z at_,A U 0 0] 25 (0,0)):=by rw[f];exact heap_set (heap_set g 0 _) 1 _
   have dg:n.heap.size=w4.heap.size:=by rw[f];simp[BT]
   obtain⟨ad,bd,bk,ck⟩:=zz4 S bt bB (af.o nm.2 n P L cap S.2);have f0:=ac g 0;have f1:=ac g 1;obtain⟨n0,n1,n2,n3,n4⟩:=cells5 g;have H5:=Hd f;have cl:=ir nm.1.b nm.1.f nm.1.h nm.1.t nm.1.q.length p c w4;generalize cy ts ar nm.2=l at *;clear u ho hf D g S bt bB f;go_upto_region 9 with fail
   change xV _ _ _ _ ((w4.setCell ⟨w1.heap.size,0,U⟩ (I O 5)).setCell ⟨w1.heap.size,1,U⟩ (J nm.1.f));rw[←H5.o];clear n0 n1 n2 n3 n4 f0 f1 H5 cl;go_wp2_with fail
   refine Fx ck.o ?_;rintro e w6 ⟨d2,s2,rfl,i,T⟩;obtain⟨p2,c2,rfl⟩:=T.b;have bl:=Hd (ad.o.b i);have bR:=i.h bd.o m (Fj _);have x:=i.h bk.o m (FT z);have dp:n.heap.size≤w6.heap.size:=i.1.size;obtain⟨H,k⟩:=zzx (w6.setCell ⟨w1.heap.size,4,U⟩ (A p2 l.1.length c2));have cq:H.heap.size=w6.heap.size:=by rw[k];simp[BT]
   have b0:Hid (ay w P L cap ts l.2.1 l.2.2 H):=by rw[k];exact bl.o.t m HL.o (by omega) 4 _
   have cr:Hid (H.heap[w.heap.size]?=Y (ur bS 25 (0,0))):=by rw[k];exact (Fp _ _ _ _ (show w.heap.size≠w1.heap.size by omega)).trans bR
   have ct:Hid (H.heap[w1.heap.size]?=Y (ur #[I O 5,J nm.1.f,I Z 0,I Z at_,A p2 l.1.length c2] 25 (0,0))):=by rw[k];exact heap_set x 4 _
   have cu:Hid (OwnAt H d2 l.1 (A p2 l.1.length c2) (bP n.heap.size H.heap.size)):=by rw[cq,k];exact T.z fun b o K hx=>(Fp _ _ _ _ (show b≠w1.heap.size by have:=K.1;omega)).trans hx
   have HW:=Hd (cO b0.o.2 co);have f4:=ac x 4;obtain⟨n0,n1,n2,n3,n4⟩:=cells5 x;have H7:=Hd k;clear i T bR x k;go_upto_region 10 with fail
   change xV _ _ _ _ (w6.setCell ⟨w1.heap.size,4,U⟩ (A p2 l.1.length c2));rw[←H7.o];clear n0 n1 n2 n3 n4 f4 H7;go_wp2_with fail
   refine Fx HW.o ?_;rintro e w8 ⟨rfl,q⟩;have cv:=Hd (b0.o.b q);have t:=q.h cr.o m (Fj _);have bn:=Hd t;obtain⟨n0,n1,n2,n3,n4⟩:=cells5 (q.h ct.o m (by omega));have cx:=Hd ((cu.o.z fun b o K hx=>bH q.1 hx (by have:=K.1;omega)).K (G:=bP n.heap.size w8.heap.size) fun b K=>⟨K.1,Ft K.2 q.1.size⟩);obtain⟨a0,a1,a2,a3,a4⟩:=cells5 t;have z0:=ac t 0;have z1:=ac t 1;have z2:=ac t 2;have z3:=ac t 3;have z4:=ac t 4;clear q t;go_wp2_with fail
   refine bA Tryz.results164 V (a7 bn.o _ _ _ _ _) V ?_;rw[cc.o];exact be.h (r:=(.mk 5 nm.1.f 0 at_ l.1,aU ts l.2 co)) (B:=n.heap.size) m HL.o cv.o cx.o (fs (by omega) br.o X.o.1 X.o.2) (Fj _) (by omega) _ _ _ _ _
def rL(ts:List Tok) (σ:PS):Bool:=kdM ts σ==4&&((number (txM ts σ).data.toList).isSome&&decide ((number (txM ts σ).data.toList).getD 0≤2147483647))
def gi(ts:List Tok) (σ:PS):Nat×PS:=if rL ts σ=true then ((number (txM ts σ).data.toList).getD 0,ag ts σ) else (0,(σ.1,true))
theorem ou(ts:List Tok)(σ:PS):σ.1≤(gi ts σ).2.1:=by
 unfold gi;split
 ·exact (eS ts σ).1
 ·exact Fj _
theorem jo(ts:List Tok)(σ:PS):(gi ts σ).1≤2147483647:=by
 unfold gi;split
 ·rename_i h
  unfold rL at h;simp only[FG,r8]at h;exact h.2.2
 ·exact FA _
theorem lC{ts:List Tok}(q:cG ts){w:vk}{P L cap:Nat}{σ:PS}(h:PAt w P L cap ts σ.1 σ.2) :
  wB wq 163 #[wF (Y ⟨P,0,U⟩)] w fun e w'=>e=Ending.returned (I Z (gi ts σ).1)∧ay w P L cap ts (gi ts σ).2.1 (gi ts σ).2.2 w':=by
 obtain⟨x,H⟩:=zz2 (ge h) h;have E:=h.lt.1;obtain⟨R,l⟩:=zzy (gi ts σ);rw[l];unfold gi rL at l;have r:(txM ts σ).size≤16384:=(cM q σ.1).2.1;generalize kdM ts σ=kd at *;generalize txM ts σ=tx at *;generalize atM ts σ=at_ at *;have p:=Hd l;clear h l
 go_enter Tryz.func163,Tryz.ntmps163
 go_wp2_with fail
 refine Fx x.o ?_;rintro e w1 ⟨rfl,g⟩;have j:Gc w1 (w1.alloc (ur #[I O kd,J tx,I Z at_] 122)):=(Fl _ w1).alloc (Fj _) _;obtain⟨y,z,B,C⟩:=zz4 (qG tx (w1.alloc (ur #[I O kd,J tx,I Z at_] 122)) r) (qv w1 (ur #[I O kd,J tx,I Z at_] 122)) (H.o.b (g.trans (j.mono g.size))) (show P<w1.heap.size by have:=g.size;omega);clear g j;generalize number tx.data.toList=n at *;go_wp2_with fail
 refine Fx y.o ?_;rintro e F ⟨rfl,i⟩;have b:=Hd (B.o.f i);obtain⟨G,K,x2,_,_,_⟩:=cells3 (aa i z.o (by simp));obtain⟨m,c,_,_,D,M,f0,f1⟩:=b.o.2.y;obtain⟨f,s⟩:=zz2 (b.o.2.setBad true) (ka b.o.2);clear i D
 by_cases u:kd=4
 ·subst u
  cases n with
  | none =>
   have a:(0,(σ.1,true))=R:=by rw[←p.o];rfl
   have d:=Hd a;clear a;go_wp2_with fail
   go_ret;rw[←d.o];exact⟨V,b.o.b f.o⟩
  | some n =>
   by_cases N:n≤2147483647
   ·have a:(n,ag ts σ)=R:=by
     rw[←p.o,r6 (by simp;omega)];rfl
    have d:=Hd a;have v:decide ((2147483647:Int)<n)=false:=by simp;omega
    clear a;go_wp2_with fail
    refine Fx s.o ?_;rintro e Q ⟨rfl,k⟩;have t:=Hd (b.o.b k);clear k;go_wp2_with fail
    go_ret;rw[←d.o];exact⟨V,t.o⟩
   ·have a:(0,(σ.1,true))=R:=by
     rw[←p.o,r5 (by simp;omega)]
    have d:=Hd a;have v:decide ((2147483647:Int)<n)=true:=by simp;omega
    clear a;go_wp2_with fail
    go_ret;rw[←d.o];exact⟨V,b.o.b f.o⟩
 ·have a:(0,(σ.1,true))=R:=by
   rw[←p.o,r5 (by simp[u])]
  have d:=Hd a;have v:((kd:Int)==4)=false:=by simp;omega
  have S:((kd:Int) != 4)=true:=by simp;omega
  clear a;go_wp2_with fail
  go_ret;rw[←d.o];exact⟨V,b.o.b f.o⟩
