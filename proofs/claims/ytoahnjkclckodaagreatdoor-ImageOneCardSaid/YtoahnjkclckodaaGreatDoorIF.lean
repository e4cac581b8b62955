/- The reader of machines: sessions; by contract. Condition: bytes in a block of their own. -/
import Derived.Test.YtoahnjkclckodaaGreatDoorIE
open Go renaming World→J,Value→tT,undef→wF,wpQuiet_nil→xL
open Option renaming some→A,none→Y
open Go.Obj renaming cells→r9
open Go.World renaming cell?→AF,setCell→AJ
open Go.Proofs.Tryz renaming prog→vo
open Go.Value renaming pointer→vv,agg→xk,int→I,slice→O
open Go.IntKind renaming i64→U
namespace Go.Proofs.YtoahnjkclckodaaGreatDoor
set_option maxHeartbeats 2000000
set_option maxRecDepth 100000
open Go.RowKit
theorem aH{W:J}{b:Nat}{a c c2 d c4 e:tT}{t:TypeId}(h:W.heap[b]?=A (r9 #[a,c,c2,d,c4,e] t (0,0))):(W.cell? ⟨b,0,Y⟩=A a∧W.cell? ⟨b,1,Y⟩=A c∧W.cell? ⟨b,2,Y⟩=A c2∧W.cell? ⟨b,3,Y⟩=A d∧W.cell? ⟨b,4,Y⟩=A c4∧W.cell? ⟨b,5,Y⟩=A e)∧W.frozen? ⟨b,0,Y⟩=false∧W.frozen? ⟨b,1,Y⟩=false∧W.frozen? ⟨b,2,Y⟩=false∧W.frozen? ⟨b,3,Y⟩=false∧W.frozen? ⟨b,4,Y⟩=false∧W.frozen? ⟨b,5,Y⟩=false:=
 ⟨⟨by simp[AF,h],by simp[AF,h],by simp[AF,h],by simp[AF,h],by simp[AF,h],by simp[AF,h]⟩,ax h 0,ax h 1,ax h 2,ax h 3,ax h 4,ax h 5⟩
def jB(W:J) (b:Nat) (x y z u v t:tT):World:=(((((W.setCell ⟨b,0,Y⟩ x).setCell ⟨b,1,Y⟩ y).setCell ⟨b,2,Y⟩ z).setCell ⟨b,3,Y⟩ u).setCell ⟨b,4,Y⟩ v).setCell ⟨b,5,Y⟩ t
theorem sk{W:J}{b:Nat}{a c c2 d c4 e:tT}{ty:TypeId}(h:W.heap[b]?=A (r9 #[a,c,c2,d,c4,e] ty (0,0)))(x y z u v t:tT):(jB W b x y z u v t).heap[b]?=A (r9 #[x,y,z,u,v,t] ty (0,0)):=
 heap_set (heap_set (heap_set (heap_set (heap_set (heap_set h 0 x) 1 y) 2 z) 3 u) 4 v) 5 t
theorem rm{W:J}{b i:Nat}(x y z u v t:tT)(h:i≠b):(jB W b x y z u v t).heap[i]?=W.heap[i]? :=
 (oF _ ⟨b,5,Y⟩ _ _ h).trans ((oF _ ⟨b,4,Y⟩ _ _ h).trans ((oF _ ⟨b,3,Y⟩ _ _ h).trans ((oF _ ⟨b,2,Y⟩ _ _ h).trans ((oF _ ⟨b,1,Y⟩ _ _ h).trans (oF _ ⟨b,0,Y⟩ _ _ h)))))
theorem dN(W:J)(p:Addr)(v:tT):(W.setCell p v).heap.size=W.heap.size:=by simp[AJ]
def gU(a b:J):Prop:=a.os=b.os∧a.tape=b.tape∧a.output=b.output
theorem cw(W:J)(p:Addr)(v:tT):gU (W.setCell p v) W:=⟨Z,Z,Z⟩
theorem gU.h{a b c:J}(h:gU a b)(k:gU b c):gU a c:=⟨h.1.trans k.1,h.2.1.trans k.2.1,h.2.2.trans k.2.2⟩
theorem sW(W:J)(b:Nat)(x y z u v t:tT):(jB W b x y z u v t).heap.size=W.heap.size:=
 (dN _ _ _).trans ((dN _ _ _).trans ((dN _ _ _).trans ((dN _ _ _).trans ((dN _ _ _).trans (dN _ _ _)))))
theorem oG{W:J}{f:Func}{t b:Nat}{ty:TypeId}{a c c2 d c4 e:tT}{tmps:Array tT}{R:Ending→J→Prop}(l:f.results=#[.cell t ty])(i:(isAgg ty).run vo W=.ok true W)(j:(Go.sizeOf ty).run vo W=.ok 6 W)(m:tmps.getD t wF=vv (A ⟨b,0,Y⟩))
  (h:W.heap[b]?=A (r9 #[a,c,c2,d,c4,e] ty (0,0))) (n:R (Ending.returned (xk #[a,c,c2,d,c4,e])) W):bodyPost vo f R .ret ⟨tmps,[]⟩ W:=by
 obtain⟨⟨a0,a1,a2,a3,a4,a5⟩,_⟩:=aH h;have k:tmps[t]?.getD wF=vv (A ⟨b,0,Y⟩):=by simpa using m
 refine bodyPost_ret (v:=xk #[a,c,c2,d,c4,e]) ?_ Z n;simp[results,l,go_sem,k,i,j,a0,a1,a2,a3,a4,a5]
def Qs(w:J) (Q:Nat):={V:J // V.cell? ⟨Q,0,Y⟩=w.cell? ⟨Q,0,Y⟩}
instance (w:J) (Q:Nat):Nonempty (Qs w Q):=⟨⟨w,Z⟩⟩
theorem Qs.h{w:J}{Q:Nat}{v:tT}(x:Qs w Q)(h:w.cell? ⟨Q,0,Y⟩=A v):x.1.cell? ⟨Q,0,Y⟩=A v:=x.2.trans h
theorem iv{w:J}{F:Nat→Prop}{vs:List tT}{s:fo}:dX.at_ w F s vs↔I64 s.id∧I64 s.b∧∃rs,vs=I U s.id::I U s.b::rs∧bH.at_ w F s.a rs:=by
 constructor
 ·rintro ⟨d,e,rfl,⟨rfl,a⟩,v1,v2,rfl,⟨rfl,b⟩,c⟩;exact⟨a,b,v2,Z,c⟩
 ·rintro ⟨a,b,rs,rfl,c⟩;exact⟨[_],_,Z,⟨Z,a⟩,[_],rs,Z,⟨Z,b⟩,c⟩
theorem wY(W:J)(b o:Nat)(x:Int)(u:tT)(a:W.cell? ⟨b,o,Y⟩=A u)(c:W.frozen? ⟨b,o,Y⟩=false):(Instr.storeAt 3 (vv (A ⟨b,o,Y⟩)) (I U x)).run vo W=.ok () (W.setCell ⟨b,o,Y⟩ (I U x)):=by simp[Instr.storeAt,Instr.sureAddr,go_sem,a,c]
section
variable {W:J} {Q R g:Nat} {s:ISt}
def ZS:Array Value:=#[I U 0,I U 0,I U 0,I U 0,O Y 0 0,O Y 0 0]
def SeR(W V a:J):Prop:=ApR W V a∧V.heap.size≤a.heap.size
def SeS(c:J) (Q R g e:Nat) (s2 d:ISt) (b:Int):Nat→J→Prop
 | 0,a=>a=c.drew
 | 1,a=>cH c Q R g s2 a
 | 2,a=>cH c Q R g d a
 | _+3,a=>∃V,cH c Q R g d V∧a=V.setCell ⟨e,1,Y⟩ (I U b)
def SeP(W:J) (x:Int) (r:fZ) (i:Nat) (V:J) (xs:List tT):Prop:=
 if i=1 then xs.getD 0 wF=I U x else if i=6 then (∃a b c d,xs=[a,b,c,d])∧bH.at_ V (aP W V) r xs else True
theorem SeP.t{W V d:J}{x:Int}{r:fZ}{i:Nat}{xs:List tT}(h:SeP W x r i V xs)(e:SeR W V d):SeP W x r i d xs:=by
 unfold SeP at h ⊢
 split
 ·rename_i c;rw[oE c]at h;exact h
 ·rename_i c
  rw[oB c]at h
  split
  ·rename_i f
   rw[oE f]at h;exact⟨h.1,bH.D (fun b a=>⟨a.1,FG a.2 e.2⟩) (bH.t (fun b a o j=>(e.1 b a.1 a.2).trans j) h.2)⟩
  ·trivial
theorem rW(h:cX W Q R g s):Calls vo 36 #[vv (A ⟨Q,0,Y⟩)] W fun e W'=>∃T X y2 y3 y4 y5,e=Ending.returned (xk #[T,X,y2,y3,y4,y5])∧(∀u∈[T,X,y2,y3,y4,y5],u.oneCell'=true)∧cH W Q R g (dV s).2 W'∧dX.at_ W' (aP W W') (dV s).1 [T,X,y2,y3,y4,y5]:=by
 obtain⟨W1,G⟩:=zzx (W.alloc (r9 ZS 54));have bd:Gl W W1:=by rw[G];exact (Fz _ W).alloc (Fy _) _
 have bR:W1.heap[W.heap.size]?=A (r9 ZS 54 (0,0)):=by rw[G];exact oA W _
 have b0:=h.C bd;have HA:=eC b0;unfold dV;have ad:I64 (bT s).1:=gk (aT 8 s.1).1;obtain⟨⟨a,s1⟩,ha⟩:∃x,bT s=x:=⟨_,rfl⟩;rw[ha]at HA ad ⊢;dsimp only at HA ad ⊢;have af:I64 (bT s1).1:=gk (aT 8 s1.1).1;obtain⟨⟨b,s2⟩,hb⟩:∃x,bT s1=x:=⟨_,rfl⟩;rw[hb]at af ⊢;dsimp only at af ⊢;obtain⟨⟨r,s3⟩,hr⟩:∃x,eq s2.1=x:=⟨_,rfl⟩;rw[hr];dsimp only;have HA:=Hd HA;have HB:=Hd (fun V (hV:cX V Q R g s1)=>by have:=eC hV;rw[hb]at this;exact this);have HC:=Hd (fun V (hV:bv V R g s2.1)=>by have:=ol hV;rw[hr]at this;exact this);obtain⟨ch,ck,cl,b1,cm,H⟩:=zz6 ad af bR G bd h;have hQ:=h.lt;have cW:=h.r.lt;have c6:=h.r.lt2;have bk:Hid (W1.heap.size=W.heap.size+1):=by show _=_;rw[G];simp
 clear h ha hb hr bd bR b0 G ad af;unfold ZS at *
 go_enter Tryz.func36,Tryz.ntmps36
 go_upto_region 1 with fail
 change Code.wp _ _ _ _ (W.alloc (r9 #[I U 0,I U 0,I U 0,I U 0,O Y 0 0,O Y 0 0] 54));rw[←b1.o];clear b1;go_wp2_with fail
 refine HA.o.mono ?_;rintro e j ⟨rfl,v⟩;obtain⟨f,aq⟩:=zzx (j.alloc (r9 #[I U a,I U 0,I U 0,I U 0,O Y 0 0,O Y 0 0] 54));have ar:Gl j f:=by rw[aq];exact (Fz _ j).alloc (Fy _) _
 have bl:f.heap[j.heap.size]?=A (r9 #[I U a,I U 0,I U 0,I U 0,O Y 0 0,O Y 0 0] 54 (0,0)):=by rw[aq];exact oA j _
 have c7:=v.1.u;have c8:=ar.size;have ba:j.heap.size<f.heap.size:=(Fx.1 bl).1;have cn:W.heap.size<j.heap.size:=by have:=bk.o;omega
 have bm:∀b,b≠Q→b≠R→¬ql Q R b:=fun b w E h=>h.elim w E
 have l:cH W1 Q R g s1 f:=v.C ar;have b2:f.heap[W.heap.size]?=A (r9 #[I U 0,I U 0,I U 0,I U 0,O Y 0 0,O Y 0 0] 54 (0,0)):=(ar.block _ cn).trans ((v.1.q _ (by have:=bk.o;omega) (bm _ (by omega) (by omega))).trans cl.o);obtain⟨b3,b4,cp,b5,a1⟩:=zz5 l bl b2 aq bm;have K:=l.2.z.1;have cq:=Hd K;have b6:Hid (∀d,d=f.drew→Calls vo 30 #[vv (A ⟨Q,0,Y⟩)] d fun e W'=>e=Ending.returned (I U b)∧cH d Q R g s2 W'):=fun d hU=>HB.o d (by rw[hU];exact⟨l.2.q,l.2.r.t Z Z (Fy _),l.2.neR,l.2.neg⟩)
 have b7:∀(n k:Nat) (d:J),k≤n→SeS f Q R g j.heap.size s2 (s3,s2.2) b k d→∃x:Qs f Q,d=x.1:=fun n k d _ h=>by
  match k,h with
  | 0,h=>exact⟨⟨d,by rw[show d=f.drew from h];rfl⟩,Z⟩
  | 1,h=>exact⟨⟨d,(show cH f Q R g s2 d from h).2.z.1.trans K.symm⟩,Z⟩
  | 2,h=>exact⟨⟨d,(show cH f Q R g (s3,s2.2) d from h).2.z.1.trans K.symm⟩,Z⟩
  | _+3,⟨V,hV,e⟩=>exact⟨⟨d,by
    have e1:d.cell? ⟨Q,0,Y⟩=V.cell? ⟨Q,0,Y⟩:=lq (by rw[e];exact oF _ _ _ _ (show Q≠j.heap.size by omega)) 0
    rw[e1];exact hV.2.z.1.trans K.symm⟩,Z⟩
 have L:=Hd b7;have C0:=fun x:Qs f Q=>x.h cq.o
 clear v ar bl l b2 aq HA HB bm b7 K;go_upto_region 2 with fail
 change Code.wp _ _ _ _ (j.alloc (r9 #[I U a,I U 0,I U 0,I U 0,O Y 0 0,O Y 0 0] 54));rw[←b5.o];clear b5;refine RE.u (by kernel_rfl) 10 [1,6,8] [1,6,8] (SeS f Q R g j.heap.size s2 (s3,s2.2) b) (SeR f) (fun i xs=>if i=6 then xk xs.toArray else xs.getD 0 wF)
  (SeP f b r) (by kernel_rfl) (fun i w E=>by rw[w]at E;cases E) (fun _ _ _ _ h _ hg=>h.t hg) Z ?_
 simp only[FO,FY,FQ,FX]
 repeat (refine RE.q (fun d=>∃x:Qs f Q,d=x.1) (L.o _) Z Z Z Z ?_;go_big_quiet_step (fail);refine xL ?_)
 refine RE.h Z Z ?_ (fun M=>?_)
 ·intro d _ hS _;obtain rfl:d=f.drew:=hS Z;refine RE.z 30 _ _ Z (enters_of Tryz.func30 (by kernel_rfl) Z) #[vv (A ⟨Q,0,Y⟩)] (by simp[Act.eval]) ((b6.o _ Z).mono ?_);rintro e W' ⟨rfl,t⟩;exact⟨_,Z,[I U b],Z,(⟨⟨t.1.os,t.1.a,t.1.c,t.1.u,t.1.q⟩,t.2⟩:cH f Q R g s2 W'),⟨fun x w E=>t.1.q x E (a1.o x (by omega) (by omega)),t.1.u⟩,Z⟩
 simp only[Act.put,FA,FM,FK]
 repeat (refine RE.q (fun d=>∃x:Qs f Q,d=x.1) (L.o _) Z Z Z Z ?_;go_big_quiet_step (fail);refine xL ?_)
 refine RE.h Z Z ?_ (fun a6=>?_)
 ·intro d _ hS _;have t:cH f Q R g s2 d:=hS Z;refine RE.z 62 _ _ Z (enters_of Tryz.func62 (by kernel_rfl) Z) #[vv (A ⟨R,0,Y⟩)] (by simp[Act.eval]) ((HC.o _ t.2.r).mono ?_);rintro e W' ⟨T,X,y2,y3,rfl,_,v,y⟩;have hs:=t.1.u;exact⟨_,Z,[T,X,y2,y3],Z,t.h (t.2.rd v),⟨fun x w E=>v.1.block x E (by intro e;injection e with e;omega),v.1.size⟩,⟨T,X,y2,y3,Z⟩,bH.D (fun x m=>⟨by have:=m.1;omega,m.2⟩) y⟩
 simp only[Act.put,FA,FM,FK]
 repeat (refine RE.q (fun d=>∃x:Qs f Q,d=x.1) (L.o _) Z Z Z Z ?_;go_big_quiet_step (fail);refine xL ?_)
 refine RE.h Z Z ?_ (fun c9=>?_)
 ·intro d _ hS hE;have t:cH f Q R g (s3,s2.2) d:=hS Z;have w:M.getD 0 wF=I U b:=hE 1 M (by kernel_rfl) Z;have cr:M[0]?.getD wF=I U b:=by simpa using w
  have B:=(t.1.q _ ba (a1.o _ (by omega) (by omega))).trans b4.o;have ct:=(aH B).1.2.1;refine RE.upon_skip (w':=d.setCell ⟨j.heap.size,1,Y⟩ (I U b)) ?_ ⟨[],Z,⟨d,t,Z⟩,⟨fun x m _=>oF _ _ _ _ (show x≠j.heap.size by omega),by rw[dN];exact Fy _⟩,trivial⟩;have cu:=wY d j.heap.size 1 b _ ct (ax B 1);simp[execOp,Act.eval,cr,cu]
 simp only[Act.put]
 repeat (refine RE.q (fun d=>∃x:Qs f Q,d=x.1) (L.o _) Z Z Z Z ?_;go_big_quiet_step (fail);refine xL ?_)
 refine RE.t ?_;intro V' hS hE;obtain⟨V,t,rfl⟩:∃V,cH f Q R g (s3,s2.2) V∧V'=V.setCell ⟨j.heap.size,1,Y⟩ (I U b):=hS;have w:M.getD 0 wF=I U b:=hE 1 M Z;obtain⟨⟨T,X,y2,y3,cv⟩,bb⟩:(∃T X y2 y3,a6=[T,X,y2,y3])∧bH.at_ (V.setCell ⟨j.heap.size,1,Y⟩ (I U b)) (aP f (V.setCell ⟨j.heap.size,1,Y⟩ (I U b))) r a6:=hE 6 a6 Z;have y:bH.at_ V (aP f V) r a6:=bH.D (fun x (m:aP f (V.setCell ⟨j.heap.size,1,Y⟩ (I U b)) x)=>⟨m.1,by have:=m.2;rw[dN]at this;exact this⟩) (bH.t (fun x (m:aP f (V.setCell ⟨j.heap.size,1,Y⟩ (I U b)) x) o ho=>(oF V ⟨j.heap.size,1,Y⟩ _ _ (show x≠j.heap.size by have:=m.1;omega)).symm.trans ho) bb);subst cv;have dd:=t.1.u;have B:=(t.1.q _ ba (a1.o _ (by omega) (by omega))).trans b4.o;have b8:=(t.1.q _ (by omega) (a1.o _ (by omega) (by omega))).trans cp.o;obtain⟨e1,e2,sf,ss,z,_,_⟩:=db.1 y;injection z with q0 z
 injection z with q1 z
 injection z with q2 z
 injection z with q3 _
 obtain⟨pf,nf,cf,rfl⟩:∃p n c,sf=O p n c:=by
  obtain⟨_,_,_,_,h,E,_⟩:=db.1 y;injection h with _ h
  injection h with _ h
  injection h with h _
  obtain⟨p,c,e⟩:=Rd.q E;rw[q2]at h;exact⟨_,_,_,h.trans e⟩
 obtain⟨ps,ns,cs,rfl⟩:∃p n c,ss=O p n c:=by
  obtain⟨_,_,_,_,h,_,E⟩:=db.1 y;injection h with _ h
  injection h with _ h
  injection h with _ h
  injection h with h _
  obtain⟨p,c,e⟩:=Rd.q E;rw[q3]at h;exact⟨_,_,_,h.trans e⟩
 subst q0;subst q1;subst q2;subst q3;obtain⟨⟨c0,c1,c2,c3,c4,c5⟩,f0,f1,f2,f3,f4,f5⟩:=aH B;obtain⟨N,C⟩:=zzx (((((V.setCell ⟨j.heap.size,1,Y⟩ (I U b)).setCell ⟨j.heap.size,2,Y⟩ (I U r.h)).setCell ⟨j.heap.size,3,Y⟩ (I U r.u)).setCell ⟨j.heap.size,4,Y⟩ (O pf nf cf)).setCell ⟨j.heap.size,5,Y⟩ (O ps ns cs));have b9:N.heap[j.heap.size]?=A (r9 #[I U a,I U b,I U r.h,I U r.u,O pf nf cf,O ps ns cs] 54 (0,0)):=by rw[C,heap_set (heap_set (heap_set (heap_set (heap_set B 1 _) 2 _) 3 _) 4 _) 5 _];rfl
 have bn:∀x,x≠j.heap.size→N.heap[x]?=V.heap[x]?:=fun x m=>by rw[C,oF _ _ _ _ m,oF _ _ _ _ m,oF _ _ _ _ m,oF _ _ _ _ m,oF _ _ _ _ m]
 have bq:N.heap.size=V.heap.size:=by rw[C];simp[AJ]
 have bt:Hid (gU N V):=by rw[C];exact (cw _ _ _).h ((cw _ _ _).h ((cw _ _ _).h ((cw _ _ _).h (cw _ _ _))))
 obtain⟨ca,cy,cb,P,cA,HT⟩:=zz6 C b9 ((bn _ (by omega)).trans b8) bn y t;rw[w];clear hE t y bb B b8 b9 bn C C0 L b6 e1 e2;go_upto_region 3 with fail
 rw[←ca.o];clear ca c0 c1 c2 c3 c4 c5 f0 f1 f2 f3 f4 f5;obtain⟨⟨c0,c1,c2,c3,c4,c5⟩,_⟩:=aH cy.o;obtain⟨⟨d0,d1,d2,d3,d4,d5⟩,f0,f1,f2,f3,f4,f5⟩:=aH cb.o;obtain⟨V3,D⟩:=zzx (jB N W.heap.size (I U a) (I U b) (I U r.h) (I U r.u) (O pf nf cf) (O ps ns cs));have cC:Hid (V3.heap[W.heap.size]?=A (r9 #[I U a,I U b,I U r.h,I U r.u,O pf nf cf,O ps ns cs] 54 (0,0))):=by rw[D];exact sk cb.o _ _ _ _ _ _
 have S:Hid (∀x,x≠W.heap.size→V3.heap[x]?=N.heap[x]?):=by rw[D];exact fun x m=>rm _ _ _ _ _ _ m
 have cR:Hid (V3.heap.size=N.heap.size):=by rw[D];exact sW _ _ _ _ _ _ _ _
 have cT:Hid (gU V3 N):=by rw[D];exact (cw _ _ _).h ((cw _ _ _).h ((cw _ _ _).h ((cw _ _ _).h ((cw _ _ _).h (cw _ _ _)))))
 have cc:=Hd D;clear D;go_wp2_with fail
 change bodyPost _ _ _ _ _ (jB N W.heap.size (I U a) (I U b) (I U r.h) (I U r.u) (O pf nf cf) (O ps ns cs));rw[←cc.o];clear cc;have bB:=cR.o;refine oG Tryz.results36 (by simp[go_sem]) (by simp[go_sem]) Z cC.o ⟨_,_,_,_,_,_,Z,by simp[Value.oneCell'],?_,?_⟩
 ·have dg:=bk.o;have w:=(Chg.t (F:=ql Q R) cm.o).h (b3.o.1.h HT.o.1);obtain⟨r1,r2,r3⟩:=bt.o;obtain⟨r4,r5,r6⟩:=cT.o;refine⟨⟨r4.trans (r1.trans w.os),r5.trans (r2.trans w.a),r6.trans (r3.trans w.c),by rw[bB,bq];exact w.u,fun x m cV=>?_⟩,?_⟩
  ·rw[S.o x (by omega),P.o x (by omega)];exact w.q x m cV
  ·have ht:=HT.o.2;exact⟨((S.o Q (by omega)).trans (P.o Q (by omega))).trans ht.q,ht.r.t ((S.o R (by omega)).trans (P.o R (by omega))) ((S.o g (by omega)).trans (P.o g (by omega))) (by rw[bB,bq];exact Fy _),ht.neR,ht.neg⟩
 ·refine iv.2 ⟨ch.o,ck.o,_,Z,bH.D (fun x m=>⟨by have:=m.1;omega,by rw[bB,bq];exact m.2⟩) (bH.t (fun x m o ho=>?_) cA.o)⟩;have:=m.1;rw[S.o x (by omega),P.o x (by omega)];exact ho
end
