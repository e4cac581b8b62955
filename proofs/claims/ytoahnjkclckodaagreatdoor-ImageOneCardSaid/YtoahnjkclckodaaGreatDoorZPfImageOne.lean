/- The law ImageOne: the row, proved, and its tied card. Condition: the listed variables lie as the program lays them. -/
import Derived.Test.YtoahnjkclckodaaGreatDoorMOK
import Derived.Test.YtoahnjkclckodaaGreatDoorTie
import Derived.Test.YtoahnjkclckodaaGreatDoorCards
import Derived.Test.YtoahnjkclckodaaGreatDoorIQ
import Derived.Test.YtoahnjkclckodaaGreatDoorIR
import Derived.Test.YtoahnjkclckodaaGreatDoorIA
section
open Go renaming World→J,Value→tT,undef→wF,wpQuiet_nil→xL
open Bool renaming false→va,true→ur
open Go.Value renaming string→tS,int→I,slice→O,agg→xk
open Go.IntKind renaming i64→U,u8→tF
open Go.Obj renaming cells→r9
open Option renaming some→A,none→Y
namespace Go.Proofs.YtoahnjkclckodaaGreatDoor
set_option maxHeartbeats 16000000
set_option maxRecDepth 100000
open Go.RowKit
theorem eO{w w':J}{v:tT}{l:List UInt8}(h:Lib.HoldsBytes w v l)(c:Gl w w'):Lib.HoldsBytes w' v l:=by
 obtain⟨p,cap,d,e,f⟩:=h;refine⟨p,cap,d,e,fun a g i x j=>?_⟩;have b:=f a g i x j;exact (c.cell (World.block_lt_of_cell? _ _ b)).trans b
theorem qY{l:List UInt8}(c:l.length≤20000)(a:(dT ((l,va),va)).2.1.2=va)(b:(dT ((l,va),va)).2.2=va):szM (dT ((l,va),va)).1≤140737488355328:=by
 have:=yd (s:=((l,va),va)) ⟨a,b⟩;dsimp only at this;omega
theorem mC{w:J}{F:Nat→Prop}{m:aQ}{vs:List tT}(h:bG.at_ w F m vs):∃(a b c:Option Addr) (nf o ns d e cs:Nat),vs=[tS m.c,I U m.d,O a nf d,O b o e,O c ns cs,I U m.f]:=by
 obtain⟨_,_,_,sf,st,ss,f,g,i,j⟩:=eY.1 h;obtain⟨a,d,k⟩:=Rd.q g;obtain⟨b,e,l⟩:=Rd.q i;obtain⟨c,cs,n⟩:=Rd.q j;exact⟨a,b,c,_,_,_,d,e,cs,by rw[f,k,l,n]⟩
theorem sg{w w':J}{m:aQ}{vs:List tT}(h:bG.at_ w (fun b=>b<w.heap.size) m vs)(a:Gl w w'):bG.at_ w' (fun b=>b<w'.heap.size) m vs:=
 bG.D (fun b (h:b<w.heap.size)=>FG h a.size) (bG.t (fun b (h:b<w.heap.size) _o c=>(a.block b h).trans c) h)
def AwP(k:Nat) (V:J) (xs:List tT):Prop:=if k=33∨k=46 then bG.at_ V (fun b=>b<V.heap.size) a9 [tS a9.c,I U a9.d,xs.getD 0 wF,xs.getD 1 wF,xs.getD 2 wF,I U a9.f] else True
def AwV(k:Nat) (xs:List tT):Value:=if k=33∨k=46 then xk #[tS a9.c,I U a9.d,xs.getD 0 wF,xs.getD 1 wF,xs.getD 2 wF,I U a9.f] else Value.bool ur
theorem dd(xs:List tT):AwV 33 xs=xk #[tS a9.c,I U a9.d,xs.getD 0 wF,xs.getD 1 wF,xs.getD 2 wF,I U a9.f]:=rfl
theorem dg(xs:List tT):AwV 34 xs=Value.bool ur:=rfl
theorem dn(xs:List tT):AwV 46 xs=xk #[tS a9.c,I U a9.d,xs.getD 0 wF,xs.getD 1 wF,xs.getD 2 wF,I U a9.f]:=rfl
theorem dv(xs:List tT):AwV 47 xs=Value.bool ur:=rfl
theorem AwP.full{k:Nat}{V:J}{xs:List tT}(h:AwP k V xs)(a:k=33∨k=46):bG.at_ V (fun b=>b<V.heap.size) a9 [tS a9.c,I U a9.d,xs.getD 0 wF,xs.getD 1 wF,xs.getD 2 wF,I U a9.f]:=by
 unfold AwP at h
 rwa [oE a]at h
theorem AwP.of{k:Nat}{V:J}{xs:List tT}(a:k=33∨k=46)(h:bG.at_ V (fun b=>b<V.heap.size) a9 [tS a9.c,I U a9.d,xs.getD 0 wF,xs.getD 1 wF,xs.getD 2 wF,I U a9.f]):AwP k V xs:=by
 unfold AwP
 rwa [oE a]
theorem AwP.none{k:Nat}{V:J}{xs:List tT}(a:¬(k=33∨k=46)):AwP k V xs:=by
 unfold AwP;rw[oB a];trivial
theorem AwP.t{k:Nat}{V a:J}{xs:List tT}(h:AwP k V xs)(b:Gl V a):AwP k a xs:=by
 unfold AwP at h ⊢
 split
 ·rename_i c
  rw[oE c]at h;exact sg h b
 ·trivial
theorem wS(W:J)(ht:aB W):Calls Tryz.prog 5 #[] W (aV ur W):=by
 have j:=Hd (fun V (q:Gl W V) r (m:aQ) vs (hU:Gl V r) hm (hz:szM m≤140737488355328)=>jY (m:=m) (vs:=vs) (w:=r) hm (ht.C (q.trans (hU.mono q.size))) hz);clear ht;have HN:=Hd (wX W)
 go_enter Tryz.func5,Tryz.ntmps5
 go_wp2_with fail
 refine HN.o.mono ?_;rintro e W1 ⟨et,rfl,S,H⟩;obtain⟨T,K⟩:=zz2 S (lA (okF:=okS) H ym (fun V m vs q hm v=>j.o W1 S V m vs q hm v));clear S H HN;go_wp2_with fail
 refine K.o.mono ?_;rintro e W2 ⟨ch,v2,rfl,k,_⟩;rw[wB]at k ⊢;dsimp only at k ⊢;have X:=T.o.trans (ch.mono T.o.size);have HG:=Hd (nZ (P:=fun m=>szM m≤140737488355328) (okF:=okS) k (by rw[jV];decide) (fun V m vs q hm v=>j.o W2 X V m vs q hm v) (fun h1 h2=>qY (by rw[jV];decide) h1 h2));obtain⟨p2,c2,ck,_⟩:=id k;rw[jV]at ck;subst ck;obtain⟨ad,cl⟩:=zz2 X k;clear ch X k K T;go_wp2_with fail
 refine HG.o.mono ?_;rintro e W3 ⟨af,e0,rfl,g⟩;rw[wM]at g ⊢;dsimp only at g ⊢;obtain⟨pf,pt,ps,nf,nt,ns,cf,ct,cs,cm⟩:=mC g;subst cm;obtain⟨W4,y⟩:=zzx (W3.alloc (r9 #[tS bZ.c,I U bZ.d,O pf nf cf,O pt nt ct,O ps ns cs,I U bZ.f] 28));have cn:Gl W3 W4:=by rw[y];exact (Fz _ W3).alloc (Fy _) _
 have cp:W4.heap[W3.heap.size]?=A (r9 #[tS bZ.c,I U bZ.d,O pf nf cf,O pt nt ct,O ps ns cs,I U bZ.f] 28 (0,0)):=by rw[y];exact oA W3 _
 have aq:=af.trans (cn.mono af.size);have ar:=ad.o.trans (aq.mono ad.o.size);obtain⟨cq,a1,K,a6,cr⟩:=zz5 (eO cl.o aq) cp (lA (okF:=okS) (m:=qS) (vs:=[tS ⟨#[]⟩,I U 0,O Y 0 0,O Y 0 0,O Y 0 0,I U 1]) (W:=W4) (eY.2 ⟨FR _,(by decide:(-9223372036854775808:Int)≤0∧(0:Int)<9223372036854775808),(by decide:(-9223372036854775808:Int)≤1∧(1:Int)<9223372036854775808),_,_,_,Z,Rd.th,Rd.th,Rd.th⟩) Cb (fun V m vs q hm v=>j.o W4 ar V m vs q hm v)) ar y;clear af g cn cp aq ar y HG cl ad;go_upto_region 3 with fail
 change Code.wp _ _ _ _ (W3.alloc (r9 #[tS bZ.c,I U bZ.d,O pf nf cf,O pt nt ct,O ps ns cs,I U bZ.f] 28));rw[←cr.o];clear cr;go_wp2_with fail
 refine K.o.mono ?_;rintro e W5 ⟨z,v5,rfl,ba,_⟩;rw[AP]at ba ⊢;dsimp only at ba ⊢;obtain⟨p5,c5,bb,_⟩:=ba;have bb:v5=O p5 0 c5:=bb;subst bb;have cu:=a6.o.trans (z.mono a6.o.size);obtain⟨bd,cv,bk,HF⟩:=zz4 cu (eO cq.o z) (aa z a1.o (Fx.1 a1.o).1) (nJ W5);clear z cu K cq a1 a6;go_wp2_with fail
 refine HF.o.mono ?_;rintro e W6 ⟨e4,rfl,B,L⟩;have bl:=bd.o.trans (B.mono bd.o.size);obtain⟨K,bm,cy,bn⟩:=zz4 (lA (okF:=okS) L xH (fun V m vs q hm v=>j.o W6 bl V m vs q hm v)) bl (eO cv.o B) (aa B bk.o (Fx.1 bk.o).1);clear B L bl HF cv bk bd;go_wp2_with fail
 refine K.o.mono ?_;rintro e W7 ⟨C,v7,rfl,D,_⟩;rw[CQ]at D ⊢;dsimp only at D ⊢;have bq:=bm.o.trans (C.mono bm.o.size);have HG:=Hd (nZ (P:=fun m=>szM m≤140737488355328) (okF:=okS) D (FH vF (by decide)) (fun V m vs q hm v=>j.o W7 bq V m vs q hm v) (fun h1 h2=>qY vF h1 h2));obtain⟨p7,c7,cA,_⟩:=D;obtain⟨n7,cC⟩:=zzy ((dW a9).length);rw[cC]at cA;subst cA;obtain⟨bt,cR,bB⟩:=zz3 bq (eO cy.o C) (aa C bn.o (Fx.1 bn.o).1);clear C bq K bm cy bn cC;go_wp2_with fail
 refine HG.o.mono ?_;rintro e W8 ⟨bR,e5,rfl,f⟩;rw[Do]at f ⊢;dsimp only at f ⊢;obtain⟨qf,qt,qs,mf,mt,ms,df,dt,ds,cT⟩:=mC f;subst cT;obtain⟨c,E⟩:=zzx (W8.alloc (r9 #[tS a9.c,I U a9.d,O qf mf df,O qt mt dt,O qs ms ds,I U a9.f] 28));have b0:Gl W8 c:=by rw[E];exact (Fz _ W8).alloc (Fy _) _
 have cV:c.heap[W8.heap.size]?=A (r9 #[tS a9.c,I U a9.d,O qf mf df,O qt mt dt,O qs ms ds,I U a9.f] 28 (0,0)):=by rw[E];exact oA W8 _
 have F:=bR.trans (b0.mono bR.size);have cW:=bt.o.trans (F.mono bt.o.size);have c0:=eO cR.o F;have M:=aa F bB.o (Fx.1 bB.o).1;have N:bG.at_ c (fun b=>b<c.heap.size) a9 [tS a9.c,I U a9.d,O qf mf df,O qt mt dt,O qs ms ds,I U a9.f]:=sg (bG.D (fun b l=>l.2) f) b0;obtain⟨eg,c1,b1⟩:=zz3 (fun x:Wb c=>sg N x.2) E cW;obtain⟨a2,rfl,d⟩:∃a,p2=A a∧∀(i:Nat) x,(dW bZ)[i]?=A x→c.cell? (a.add i)=A (I tF (x.toNat:Int)):=by
  obtain⟨p,cap,e1,e2,e3⟩:=c0;injection e1 with e1 _ _
  subst e1
  cases p2 with
  | none=>have:=o8 List.length (e2 Z);rw[jV]at this;cases this
  | some a=>exact⟨a,Z,e3 a Z⟩
 obtain⟨b2,o2,i2⟩:=a2;have Q:=d 11 1 zD;have R:=d 35 1 za;have c3:=d 0 0 (by kernel_rfl);have en:i2=none:=by simpa [Addr.add]using World.cell?_spot c3
 subst en;have c6:c.cell? ⟨b2,o2+11,Y⟩=A (I tF 1):=Q;have c8:c.cell? ⟨b2,o2+35,Y⟩=A (I tF 1):=R;obtain⟨⟨z0,z1,z2,z3,z4,z5⟩,_⟩:=aH cV;obtain⟨⟨u0,u1,u2,u3,u4,u5⟩,_⟩:=aH M;have e6:=fun x:Wb c=>x.h c6
 have e7:=fun x:Wb c=>x.h c8
 have Z0:=fun x:Wb c=>x.h z0
 have Z1:=fun x:Wb c=>x.h z1
 have Z2:=fun x:Wb c=>x.h z2
 have Z3:=fun x:Wb c=>x.h z3
 have Z4:=fun x:Wb c=>x.h z4
 have Z5:=fun x:Wb c=>x.h z5
 have c9:c.cell? ⟨W3.heap.size,5,Y⟩=A (I U 1):=u5;have U5:=fun x:Wb c=>x.h c9
 clear bR f b0 cV F cW c0 M N E d c3 Q R c6 c8 z0 z1 z2 z3 z4 z5 u0 u1 u2 u3 u4 u5 c9 HG cR bB bt;go_upto_region 6 with fail
 change Code.wp _ _ _ _ (W8.alloc (r9 #[tS a9.c,I U a9.d,O qf mf df,O qt mt dt,O qs ms ds,I U a9.f] 28));rw[←c1.o];clear c1;refine RE.u (by kernel_rfl) 50 [33,34,46,47] [33,34,46,47] (fun _ V=>∃x:Wb c,V=x.1) (fun V V'=>Gl V V') AwV AwP (by kernel_rfl) (fun i h1 h2=>by rw[h1]at h2;cases h2) (fun _ _ _ _ h _ hR=>h.t hR) ⟨⟨c.drew,(Fz _ _).drew⟩,Z⟩ ?_;simp only[FO,FY,FQ,FX]
 repeat (refine RE.q (fun r=>∃x:Wb c,r=x.1) (fun _ _ _ h=>h) Z Z Z ⟨⟨c.drew,(Fz _ _).drew⟩,Z⟩ ?_;go_big_quiet_step (fail);refine xL ?_)
 refine RE.h Z Z ?_ (fun s=>?_)
 ·intro r _ G _;obtain⟨x,rfl⟩:=G Z;refine RE.z 15 _ _ Z (enters_of Tryz.func15 (by kernel_rfl) Z) #[] (by simp) ((nJ x.1).mono ?_);rintro e U' ⟨vs,rfl,l,t⟩;obtain⟨b3,b4,b5,b6,b7,b8,b9,ca,cb,cc⟩:=mC t;subst cc;exact⟨_,Z,[O b3 b6 b9,O b4 b7 ca,O b5 b8 cb],Z,⟨⟨U',x.2.trans (l.mono x.2.size)⟩,Z⟩,l,AwP.of (by decide) t⟩
 simp only[Nat.reduceAdd,dd,Act.put,FA,FM,FK];refine RE.h Z Z ?_ (fun e8=>?_)
 ·intro r _ G hE;obtain⟨x,rfl⟩:=G Z;have eo:AwP 33 x.1 s:=hE 33 s (by kernel_rfl) Z;refine RE.z 8 _ _ Z (enters_of Tryz.func8 (by kernel_rfl) Z) #[xk #[tS a9.c,I U a9.d,s.getD 0 wF,s.getD 1 wF,s.getD 2 wF,I U a9.f]] (by simp[Act.eval]) ((j.o c b1.o x.1 a9 _ x.2 (eo.full (by decide)) xH).mono ?_);rintro e U' ⟨rfl,l⟩;exact⟨_,Z,[],by rw[show jg cx a9=ur from xw];rfl,⟨⟨U',x.2.trans (l.mono x.2.size)⟩,Z⟩,l,AwP.none (by decide)⟩
 simp only[Nat.reduceAdd,dg,Act.put,FA,FM,FK]
 repeat (refine RE.q (fun r=>∃x:Wb c,r=x.1) (fun _ _ _ h=>h) Z Z Z ⟨⟨c.drew,(Fz _ _).drew⟩,Z⟩ ?_;go_big_quiet_step (fail);refine xL ?_)
 refine RE.h Z Z ?_ (fun u=>?_)
 ·intro r _ G _;obtain⟨x,rfl⟩:=G Z;refine RE.z 15 _ _ Z (enters_of Tryz.func15 (by kernel_rfl) Z) #[] (by simp) ((nJ x.1).mono ?_);rintro e U' ⟨vs,rfl,l,t⟩;obtain⟨b3,b4,b5,b6,b7,b8,b9,ca,cb,cc⟩:=mC t;subst cc;exact⟨_,Z,[O b3 b6 b9,O b4 b7 ca,O b5 b8 cb],Z,⟨⟨U',x.2.trans (l.mono x.2.size)⟩,Z⟩,l,AwP.of (by decide) t⟩
 simp only[Nat.reduceAdd,dn,Act.put,FA,FM,FK];refine RE.h Z Z ?_ (fun e9=>?_)
 ·intro r _ G hE;obtain⟨x,rfl⟩:=G Z;have er:AwP 46 x.1 u:=hE 46 u (by kernel_rfl) Z;refine RE.z 10 _ _ Z (enters_of Tryz.func10 (by kernel_rfl) Z) #[xk #[tS a9.c,I U a9.d,O qf mf df,O qt mt dt,O qs ms ds,I U a9.f],xk #[tS a9.c,I U a9.d,u.getD 0 wF,u.getD 1 wF,u.getD 2 wF,I U a9.f]] (by simp[Act.eval]) ((ln a9 _ _ x.1 (eg.o x) (er.full (by decide))).mono ?_);rintro e U' ⟨rfl,l⟩;exact⟨_,Z,[],Z,⟨⟨U',x.2.trans (l.mono x.2.size)⟩,Z⟩,l,AwP.none (by decide)⟩
 simp only[Nat.reduceAdd,dv,Act.put,FA,FM,FK]
 repeat (refine RE.q (fun r=>∃x:Wb c,r=x.1) (fun _ _ _ h=>h) Z Z Z ⟨⟨c.drew,(Fz _ _).drew⟩,Z⟩ ?_;go_big_quiet_step (fail);refine xL ?_)
 refine RE.t ?_;intro V G _;obtain⟨x,rfl⟩:=G;go_wp2_with fail
 go_ret;exact⟨Z,b1.o.trans (x.2.mono b1.o.size)⟩
theorem ES{l:List UInt8}{m:aQ}{er:Int}(h:lZ okS l=(m,er)):(er=4∧m=aQ.none)∨(er=0∧okS m=ur∧dW m=l):=by
 have c:C9 cx l=(m,er):=h
 by_cases he:er=0
 ·subst he;obtain⟨b,a⟩:=get_put c;exact Or.inr ⟨Z,b,a⟩
 ·unfold lZ at h;dsimp only at h
  split at h
  ·injection h with b a
   exact Or.inl ⟨a.symm,b.symm⟩
  ·injection h with b a
   exact absurd a.symm he
theorem Bl{l:List UInt8}{m:aQ}(b:l.length≤20000)(h:lZ okS l=(m,0)):szM m≤140737488355328:=by
 unfold lZ at h;dsimp only at h
 split at h
 ·injection h with _ h;cases h
 ·rename_i a
  injection h with h _
  subst h;simp only[Bool.or_eq_true,not_or,Bool.not_eq_true,Bool.not_eq_true']at a;exact qY b a.1.1.2 a.1.1.1
def Fb(w:J) (n:Nat) (i:tT) (W:J):Prop:=∃(a:J) (k:Nat),a=W∧k≤n∧i=I U (k:Int)∧Gl w a
theorem tM(l:List UInt8)(u v:tT)(w:J)(h:l.length≤140737488355328)(hu:Lib.HoldsBytes w u l)(C:Lib.HoldsBytes w v l):Calls Tryz.prog 13 #[u,v] w (aV ur w):=by
 have D:=Hd (fun W (m:Gl w W)=>eO hu m);have E:=Hd (fun W (m:Gl w W)=>eO C m);obtain⟨p,c,r,_⟩:=hu;obtain⟨q,X,s,_⟩:=C;subst r;subst s;obtain⟨n,t⟩:=zzy (l.length);rw[t]at D E h ⊢;have M:=Hd t;have N:(n:Int)≤9223372036854775807:=by omega
 clear t h
 go_enter Tryz.func13,Tryz.ntmps13
 go_wp2
 go_loopw [5] (Fb w n) (fun i _=>n-(intOf i).toNat)
 case atStart=>exact⟨_,0,Z,FR _,Z,Fz _ _⟩
 case round =>
  obtain⟨d,k,rfl,hk,rfl,e⟩:=hrel
  by_cases y:k<n
  ·obtain⟨x,f⟩:∃x,l[k]?=A x:=⟨_,FD (by rw[M.o];exact y)⟩;obtain⟨p1,c1,z,F,G⟩:=D.o d e;obtain⟨H,d1,B,K,L⟩:=E.o d e;injection z with z H P
   injection B with B Q R
   subst z B;clear H P Q R;obtain⟨a,rfl⟩:∃a,p=A a:=by
    cases p with
    | none=>have:=F Z;rw[this]at f;simp at f
    | some a=>exact⟨a,Z⟩
   obtain⟨b,rfl⟩:∃b,q=A b:=by
    cases q with
    | none=>have:=K Z;rw[this]at f;simp at f
    | some a=>exact⟨a,Z⟩
   have d0:=G a Z k x f;have S:=L b Z k x f;have j:Gl d d.drew:=(Fz _ d).drew;have g:=Hd (e.trans (j.mono e.size));have T:(0:Int)≤k:=by omega
   have V:(k:Int)<n:=by omega
   clear F G K L f j e
   go_wp2
   go_still_tail 8,(by kernel_rfl)
   change wpList _ _ _ _ _ d.drew;generalize d.drew=W2 at *;clear d0 S;go_wp2_with fail
   exact⟨⟨_,k+1,Z,by omega,by go_num,g.o⟩,by simp[intOf];omega⟩
  ·obtain rfl:k=n:=by omega
   have g:=Hd e;clear e
   go_wp2
   go_ret;exact⟨Z,g.o⟩
theorem ue(l:List UInt8)(v:tT)(W:J)(hv:Lib.HoldsBytes W v l)(u:l.length≤maxLen)(ht:aB W):Calls Tryz.prog 4 #[v] W (aV ur W):=by
 have HV:=Hd (fun V (d:Gl W V)=>eO hv d);have HT:=Hd (fun V (d:Gl W V)=>ht.C d);have HA:=Hd (wS W ht);obtain⟨p,cap,bq,_⟩:=hv;subst bq;obtain⟨n,hn⟩:=zzy (l.length);rw[hn]at HV u ⊢;have HN:=Hd hn;have b1:(n:Int)≤9223372036854775807:=by unfold maxLen at u;omega
 clear ht hn u
 go_enter Tryz.func4,Tryz.ntmps4
 go_wp2_with fail
 refine HA.o.mono ?_;rintro e W1 ⟨rfl,H⟩;have f:=Hd H;clear H HA
 by_cases b2:20000<n
 ·have K:(20000:Int)<n:=by omega
  go_wp2_with fail
  go_ret;exact⟨Z,f.o⟩
 ·have K:¬(20000:Int)<n:=by omega
  have hl:l.length≤20000:=by rw[HN.o];omega
  have HG:=Hd (nZ (P:=fun m=>szM m≤140737488355328) (okF:=okS) (HV.o W1 f.o) (by omega) (fun V m vs d hm hP=>jY hm (HT.o V (f.o.trans (d.mono f.o.size))) hP) (qY hl));have j:=Hd hl;clear hl;go_wp2_with fail
  refine HG.o.mono ?_;rintro e W2 ⟨L,vs,rfl,k⟩;obtain⟨⟨m,er⟩,hg⟩:∃x,lZ okS l=x:=⟨_,rfl⟩;rw[hg]at k ⊢;dsimp only at k ⊢;have t:bG.at_ W2 (fun b=>b<W2.heap.size) m vs:=bG.D (fun b hb=>hb.2) k;obtain⟨_,_,_,sf,st,ss,bt,M,N,Q⟩:=eY.1 k;subst bt;obtain⟨pf,cf,R⟩:=Rd.q M;obtain⟨pt,ct,S⟩:=Rd.q N;obtain⟨ps,cs,T⟩:=Rd.q Q;obtain⟨nf,X⟩:=zzy (m.a.length);obtain⟨nt,ad⟩:=zzy (m.e.length);obtain⟨ns,af⟩:=zzy (m.g.length);rw[X]at R;rw[ad]at S;rw[af]at T;subst R;subst S;subst T;obtain⟨q,r⟩:=zzx (W2.alloc (r9 #[tS m.c,I U m.d,O pf nf cf,O pt nt ct,O ps ns cs,I U m.f] 28));have g:Gl W2 q:=by rw[r];exact (Fz _ W2).alloc (Fy _) _
  have w:q.heap[W2.heap.size]?=A (r9 #[tS m.c,I U m.d,O pf nf cf,O pt nt ct,O ps ns cs,I U m.f] 28 (0,0)):=by rw[r];exact oA W2 _
  have y:=Hd (fun V (d:Gl q V)=>bG.D (fun b (h:b<W2.heap.size)=>FG h (g.trans (d.mono g.size)).size) (bG.t (fun b (h:b<W2.heap.size) o ho=>((g.trans (d.mono g.size)).block b h).trans ho) t));have aq:=Hd (fun V (d:Gl q V)=>aa d w (Fx.1 w).1);have z:=f.o.trans (L.mono f.o.size);obtain⟨i,ar,B⟩:=zz3 (z.trans (g.mono z.size)) r hg;clear k t M N Q L g w z r HG X ad af hg;go_upto_region 6 with fail
  change Code.wp _ _ _ _ (W2.alloc (r9 #[tS m.c,I U m.d,O pf nf cf,O pt nt ct,O ps ns cs,I U m.f] 28));rw[←ar.o];clear ar;obtain⟨⟨x0,x1,x2,x3,x4,x5⟩,_⟩:=aH (aq.o q (Fz _ _));rcases ES B.o with ⟨rfl,a1⟩|⟨rfl,a6,ba⟩
  ·have bb:=ln aQ.none _ [tS ⟨#[]⟩,I U 0,O Y 0 0,O Y 0 0,O Y 0 0,I U 0] q (by rw[←a1];exact y.o q (Fz _ _)) (eY.2 ⟨FR _,(by decide:(-9223372036854775808:Int)≤0∧(0:Int)<9223372036854775808),(by decide:(-9223372036854775808:Int)≤0∧(0:Int)<9223372036854775808),_,_,_,Z,Rd.th,Rd.th,Rd.th⟩);have bB:=Hd bb;clear bb a1;go_wp2_with fail
   refine bB.o.mono ?_;rintro e W4 ⟨rfl,a⟩;have s:=Hd (i.o.trans (a.mono i.o.size));clear a;go_wp2_with fail
   go_ret;exact⟨Z,s.o⟩
  ·obtain⟨C,HP⟩:=zz2 (And.intro a6 ba) (lA (okF:=okS) (y.o q (Fz _ _)) (Bl j.o B.o) (fun V m vs d hm hP=>jY hm (HT.o V (i.o.trans (d.mono i.o.size))) hP));clear a6 ba;go_wp2_with fail
   refine HP.o.mono ?_;rintro e W4 ⟨a,c,rfl,hc,_⟩;have bd:gI okS m=(l,0):=by unfold gI;rw[C.o.1,C.o.2];rfl
   rw[bd]at hc ⊢;dsimp only at hc ⊢;obtain⟨pc,cc,bk,_⟩:=id hc;rw[HN.o]at bk;subst bk;have HC:=Hd (fun V (d:Gl W4 V)=>eO hc d);have D:=i.o.trans (a.mono i.o.size);have E:=Hd (jY (y.o W4 a) (HT.o W4 D) (Bl j.o B.o));have bl:Hid (jg cx m=ur):=C.o.1;rw[bl.o]at E;have s:=Hd D;clear x0 x1 x2 x3 x4 x5;obtain⟨⟨x0,x1,x2,x3,x4,x5⟩,_⟩:=aH (aq.o W4 a);clear hc bd D a HP;go_wp2_with fail
   refine E.o.mono ?_;rintro e W5 ⟨rfl,F⟩;have G:=s.o.trans (F.mono s.o.size);obtain⟨bR,bm⟩:=zz2 (tM l _ _ W5 (by have:=j.o;omega) (HV.o W5 G) (HC.o W5 F)) G;clear x0 x1 x2 x3 x4 x5 F G E;go_wp2_with fail
   refine bR.o.mono ?_;rintro e W6 ⟨rfl,bn⟩;have b0:=Hd (bm.o.trans (bn.mono bm.o.size));clear bn;go_wp2_with fail
   go_ret;exact⟨Z,b0.o⟩
end Go.Proofs.YtoahnjkclckodaaGreatDoor
end
section
open Go.Proofs.Tryz renaming prog→vo
namespace Go.Proofs.YtoahnjkclckodaaGreatDoor
set_option maxRecDepth 100000
open Go.ChangeShapes Go.WideShapes Go.ChangeAt Go.ChangeMaps Go.RowKit
theorem rz(os:Os)(started:os.Started)(H:Type)(enc:TypeId×Value→H) :
  ReturnsInHanded {} Tryz.checked os 4 .any (fun w args=>(Rows.imageOneSpec.pre enc vo Tryz.f4 [] false w args∧laidMetH vo ji w)∧sizedMet enc vo Tryz.f4 (OpenSpec.ofChange Rows.imageOneSpec) false w args)
   (Rows.imageOneSpec.post enc vo Tryz.f4 false true false false):=by
 refine pj (C:=Tryz.checked) (X:=fun w _=>laidMetH vo ji w) (fun _ _ _ l h=>h.of_heap l) own started (by kernel_rfl) Tryz.func4
  (ChangeSpec.witness_shaped (enc:=enc) (C:=Tryz.checked) (os:=os) (X:=fun w _=>laidMetH vo ji w) false (World.laidAll vo os ji) #[Value.slice none 0 0] 8 (World.laidAll_os _ _ _) (vY os #[Value.slice none 0 0]) (by kernel_rfl) (by kernel_rfl) (by kernel_rfl) (Ai os _)) ?_
 intro W base args m gs before b i _ _ n _ _;have a:∀(j:Nat) t v,Tryz.f4.params[j]?=some t→args[j]?=some v→Value.okWide vo W .any base t v:=b;have c:=i;obtain⟨p,q,d,o,rfl,r,s⟩:=i;have k:DataW.TrodAll enc vo W 0 (fun _=>true) true Tryz.f4.params.toList args.toList m p:=d;rw[Tryz.params4]at k a;obtain⟨v0,d0,rfl,rfl,u⟩:=trodAll_one k;obtain⟨rfl,rfl⟩:=trodVars_none o;obtain⟨x,f,g⟩:=open_bytes (a 0 29 v0 Z Z) u;refine (ue x v0 W f g (rO n)).mono fun e z ⟨he,y⟩=>?_
 subst he;exact⟨_,Z,C6 laidOut (by kernel_rfl) (tb:=4) (by kernel_rfl) Tryz.underlying4 Z ⟨Z,Z,Z⟩ c y⟩
theorem pI:(Rows.imageOneRow.inPlace==Tryz.pinned.checked.prog.inPlace 4)=true:=by kernel_rfl
theorem nl:(Rows.imageOneRow.unfollowed==Tryz.pinned.checked.prog.unfollowed 4)=true:=by kernel_rfl
theorem pg:(Rows.imageOneRow.recurses==Tryz.pinned.checked.prog.recurses 4)=true:=by kernel_rfl
theorem rG:(Rows.imageOneRow.named==Tryz.pinned.checked.prog.varsNamed 4)=true:=by kernel_rfl
theorem re:joinedFacts Tryz.pinned.checked.prog 4 Tryz.f4 Rows.imageOneSpec Rows.imageOneRow=true:=by
 unfold joinedFacts;rw[pI,nl,pg,rG]
 kernel_rfl
theorem rJ:Rows.ImageOneSaid:=
 OpenClaim.holds_of_wide 4 Tryz.f4 Z Z Z Z Z Z Z ⟨Z,Z,Z,Z,Z⟩ Z Z Z Z Z (by kernel_rfl) Tryz.func4 re
  (qv (by kernel_rfl)) (by unfold Func.isWrapper;first|(rw[oE (by decide +kernel)];kernel_rfl)|(rw[oB (by decide +kernel)];exact⟨Z,Z⟩))
  (fun os started H enc _=>rz os started H enc)
theorem imageOne_card:Rows.ImageOneCardSaid:=
 Claim7.holds_tied_plain_at .later [] [.data,.sentinel,.listed,.sentinel,.data,.pinned] true (true, "9f0dcb4a6faba85013a77a9235cdc854228f65e636326901e6e46621152702f3") true
  rJ (fun _ h=>by cases h) (by kernel_rfl) (fun _ h=>by cases h) imageOne_row_tie Z ⟨Z,Z⟩ (by kernel_rfl) Z
  (fun f fn d b=>by
   obtain rfl:f=4:=r7 ((show Tryz.prog.funcNamed Rows.imageOneRow.func=some 4 by kernel_rfl).symm.trans d) |>.symm
   obtain rfl:fn=Tryz.f4:=(r7 (Tryz.func4.symm.trans b)).symm
   exact⟨by kernel_rfl,fun j t c=>by
    rw[Tryz.params4]at c;have hm:t∈[29]:=by simpa using Array.mem_of_getElem? c
    have a:([29].all fun u=>!Tryz.prog.wantsStandIn u)=true:=by kernel_rfl
    exact (show Tryz.prog.wantsStandIn t=false by simpa using Gb.1 a t hm)⟩)
  (by kernel_rfl)
#print axioms imageOne_card
end Go.Proofs.YtoahnjkclckodaaGreatDoor
end
