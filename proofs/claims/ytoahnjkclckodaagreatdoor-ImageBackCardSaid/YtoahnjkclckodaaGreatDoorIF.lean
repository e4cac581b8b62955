/- Parts of one proof, joined; conditions stand in each theorem. -/
import Derived.Test.YtoahnjkclckodaaGreatDoorIE
open Go renaming World→J,Value→tS,TypeId→xD,undef→xk,Calls→vv,wpQuiet_nil→xL
open Option renaming some→A,none→Y
open Go.Obj renaming cells→r7
open Bool renaming false→ur,true→tT
open Go.World renaming cell?→At,setCell→AF
open Go.Proofs.Tryz renaming prog→va
open Go.Value renaming pointer→vo,agg→wP,int→I,slice→O,func→z6,bool→xt
open Go.Ending renaming returned→wg
open Go.IntKind renaming i64→U,u8→r8
namespace Go.Proofs.YtoahnjkclckodaaGreatDoor
set_option maxHeartbeats 2000000
set_option maxRecDepth 100000
open Go.RowKit
theorem aC{W:J}{b:Nat}{a c c2 d c4 e:tS}{t:xD}(h:W.heap[b]?=A (r7 #[a,c,c2,d,c4,e] t (0,0))):(W.cell? ⟨b,0,Y⟩=A a∧W.cell? ⟨b,1,Y⟩=A c∧W.cell? ⟨b,2,Y⟩=A c2∧W.cell? ⟨b,3,Y⟩=A d∧W.cell? ⟨b,4,Y⟩=A c4∧W.cell? ⟨b,5,Y⟩=A e)∧W.frozen? ⟨b,0,Y⟩=ur∧W.frozen? ⟨b,1,Y⟩=ur∧W.frozen? ⟨b,2,Y⟩=ur∧W.frozen? ⟨b,3,Y⟩=ur∧W.frozen? ⟨b,4,Y⟩=ur∧W.frozen? ⟨b,5,Y⟩=false:=
 ⟨⟨by simp[At,h],by simp[At,h],by simp[At,h],by simp[At,h],by simp[At,h],by simp[At,h]⟩,aB h 0,aB h 1,aB h 2,aB h 3,aB h 4,aB h 5⟩
def j7(W:J) (b:Nat) (x y z u v t:tS):World:=(((((W.setCell ⟨b,0,Y⟩ x).setCell ⟨b,1,Y⟩ y).setCell ⟨b,2,Y⟩ z).setCell ⟨b,3,Y⟩ u).setCell ⟨b,4,Y⟩ v).setCell ⟨b,5,Y⟩ t
theorem uE{W:J}{b:Nat}{a c c2 d c4 e:tS}{ty:xD}(h:W.heap[b]?=A (r7 #[a,c,c2,d,c4,e] ty (0,0)))(x y z u v t:tS):(j7 W b x y z u v t).heap[b]?=A (r7 #[x,y,z,u,v,t] ty (0,0)):=
 heap_set (heap_set (heap_set (heap_set (heap_set (heap_set h 0 x) 1 y) 2 z) 3 u) 4 v) 5 t
theorem tU{W:J}{b i:Nat}(x y z u v t:tS)(h:i≠b):(j7 W b x y z u v t).heap[i]?=W.heap[i]? :=
 (oA _ ⟨b,5,Y⟩ _ _ h).trans ((oA _ ⟨b,4,Y⟩ _ _ h).trans ((oA _ ⟨b,3,Y⟩ _ _ h).trans ((oA _ ⟨b,2,Y⟩ _ _ h).trans ((oA _ ⟨b,1,Y⟩ _ _ h).trans (oA _ ⟨b,0,Y⟩ _ _ h)))))
theorem d6(W:J)(p:Addr)(v:tS):(W.setCell p v).heap.size=W.heap.size:=by simp[AF]
def iz(a b:J):Prop:=a.os=b.os∧a.tape=b.tape∧a.output=b.output
theorem cP(W:J)(p:Addr)(v:tS):iz (W.setCell p v) W:=⟨Z,Z,Z⟩
theorem iz.h{a b c:J}(h:iz a b)(k:iz b c):iz a c:=⟨h.1.trans k.1,h.2.1.trans k.2.1,h.2.2.trans k.2.2⟩
theorem vw(W:J)(b:Nat)(x y z u v t:tS):(j7 W b x y z u v t).heap.size=W.heap.size:=
 (d6 _ _ _).trans ((d6 _ _ _).trans ((d6 _ _ _).trans ((d6 _ _ _).trans ((d6 _ _ _).trans (d6 _ _ _)))))
theorem qz{W:J}{f:Func}{t b:Nat}{ty:xD}{a c c2 d c4 e:tS}{tmps:Array tS}{R:Ending→J→Prop}(l:f.results=#[.cell t ty])(i:(isAgg ty).run va W=.ok tT W)(j:(Go.sizeOf ty).run va W=.ok 6 W)(m:tmps.getD t xk=vo (A ⟨b,0,Y⟩))
  (h:W.heap[b]?=A (r7 #[a,c,c2,d,c4,e] ty (0,0))) (n:R (wg (wP #[a,c,c2,d,c4,e])) W):bodyPost va f R .ret ⟨tmps,[]⟩ W:=by
 obtain⟨⟨a0,a1,a2,a3,a4,a5⟩,_⟩:=aC h;have k:tmps[t]?.getD xk=vo (A ⟨b,0,Y⟩):=by simpa using m
 refine bodyPost_ret (v:=wP #[a,c,c2,d,c4,e]) ?_ Z n;simp[results,l,go_sem,k,i,j,a0,a1,a2,a3,a4,a5]
def Qs(w:J) (Q:Nat):={V:J // V.cell? ⟨Q,0,Y⟩=w.cell? ⟨Q,0,Y⟩}
instance (w:J) (Q:Nat):Nonempty (Qs w Q):=⟨⟨w,Z⟩⟩
theorem Qs.h{w:J}{Q:Nat}{v:tS}(x:Qs w Q)(h:w.cell? ⟨Q,0,Y⟩=A v):x.1.cell? ⟨Q,0,Y⟩=A v:=x.2.trans h
theorem gx{w:J}{F:Nat→Prop}{vs:List tS}{s:dM}:ea.at_ w F s vs↔I64 s.id∧I64 s.b∧∃rs,vs=I U s.id::I U s.b::rs∧bJ.at_ w F s.a rs:=by
 constructor
 ·rintro ⟨d,e,rfl,⟨rfl,a⟩,v1,v2,rfl,⟨rfl,b⟩,c⟩;exact⟨a,b,v2,Z,c⟩
 ·rintro ⟨a,b,rs,rfl,c⟩;exact⟨[_],_,Z,⟨Z,a⟩,[_],rs,Z,⟨Z,b⟩,c⟩
theorem zT(W:J)(b o:Nat)(x:Int)(u:tS)(a:W.cell? ⟨b,o,Y⟩=A u)(c:W.frozen? ⟨b,o,Y⟩=ur):(Instr.storeAt 3 (vo (A ⟨b,o,Y⟩)) (I U x)).run va W=.ok () (W.setCell ⟨b,o,Y⟩ (I U x)):=by simp[Instr.storeAt,Instr.sureAddr,go_sem,a,c]
section
variable {W:J} {Q R g:Nat} {s:ISt}
def ZS:Array Value:=#[I U 0,I U 0,I U 0,I U 0,O Y 0 0,O Y 0 0]
def SeR(W V a:J):Prop:=ApR W V a∧V.heap.size≤a.heap.size
def SeS(c:J) (Q R g e:Nat) (s2 d:ISt) (b:Int):Nat→J→Prop
 | 0,a=>a=c.drew
 | 1,a=>cZ c Q R g s2 a
 | 2,a=>cZ c Q R g d a
 | _+3,a=>∃V,cZ c Q R g d V∧a=V.setCell ⟨e,1,Y⟩ (I U b)
def SeP(W:J) (x:Int) (r:eb) (i:Nat) (V:J) (xs:List tS):Prop:=
 if i=1 then xs.getD 0 xk=I U x else if i=6 then (∃a b c d,xs=[a,b,c,d])∧bJ.at_ V (aW W V) r xs else True
theorem SeP.K{W V d:J}{x:Int}{r:eb}{i:Nat}{xs:List tS}(h:SeP W x r i V xs)(e:SeR W V d):SeP W x r i d xs:=by
 unfold SeP at h ⊢
 split
 ·rename_i c;rw[oj c]at h;exact h
 ·rename_i c
  rw[oe c]at h
  split
  ·rename_i f
   rw[oj f]at h;exact⟨h.1,bJ.N (fun b a=>⟨a.1,JS a.2 e.2⟩) (bJ.K (fun b a o j=>(e.1 b a.1 a.2).trans j) h.2)⟩
  ·trivial
theorem ux(h:dq W Q R g s):vv va 36 #[vo (A ⟨Q,0,Y⟩)] W fun e W'=>∃T X y2 y3 y4 y5,e=wg (wP #[T,X,y2,y3,y4,y5])∧(∀u∈[T,X,y2,y3,y4,y5],u.oneCell'=tT)∧cZ W Q R g (dz s).2 W'∧ea.at_ W' (aW W W') (dz s).1 [T,X,y2,y3,y4,y5]:=by
 obtain⟨W1,G⟩:=zzx (W.alloc (r7 ZS 54));have bd:Kr W W1:=by rw[G];exact (JO _ W).alloc (JM _) _
 have bB:W1.heap[W.heap.size]?=A (r7 ZS 54 (0,0)):=by rw[G];exact oc W _
 have bR:=h.C bd;have HA:=eV bR;unfold dz;have ad:I64 (bL s).1:=gu (aT 8 s.1).1;obtain⟨⟨a,s1⟩,ha⟩:∃x,bL s=x:=⟨_,rfl⟩;rw[ha]at HA ad ⊢;dsimp only at HA ad ⊢;have af:I64 (bL s1).1:=gu (aT 8 s1.1).1;obtain⟨⟨b,s2⟩,hb⟩:∃x,bL s1=x:=⟨_,rfl⟩;rw[hb]at af ⊢;dsimp only at af ⊢;obtain⟨⟨r,s3⟩,hr⟩:∃x,dh s2.1=x:=⟨_,rfl⟩;rw[hr];dsimp only;have HA:=Hd HA;have HB:=Hd (fun V (hV:dq V Q R g s1)=>by have:=eV hV;rw[hb]at this;exact this);have HC:=Hd (fun V (hV:bF V R g s2.1)=>by have:=qb hV;rw[hr]at this;exact this);obtain⟨cc,ch,ck,b0,cl,H⟩:=zz6 ad af bB G bd h;have hQ:=h.lt;have cV:=h.r.lt;have cW:=h.r.lt2;have bg:Hid (W1.heap.size=W.heap.size+1):=by show _=_;rw[G];simp
 clear h ha hb hr bd bB bR G ad af;unfold ZS at *
 go_enter Tryz.func36,Tryz.ntmps36
 go_upto_region 1 with fail
 change Code.wp _ _ _ _ (W.alloc (r7 #[I U 0,I U 0,I U 0,I U 0,O Y 0 0,O Y 0 0] 54));rw[←b0.o];clear b0;go_wp2_with fail
 refine HA.o.mono ?_;rintro e j ⟨rfl,v⟩;obtain⟨f,aq⟩:=zzx (j.alloc (r7 #[I U a,I U 0,I U 0,I U 0,O Y 0 0,O Y 0 0] 54));have ar:Kr j f:=by rw[aq];exact (JO _ j).alloc (JM _) _
 have bk:f.heap[j.heap.size]?=A (r7 #[I U a,I U 0,I U 0,I U 0,O Y 0 0,O Y 0 0] 54 (0,0)):=by rw[aq];exact oc j _
 have c6:=v.1.z;have c7:=ar.size;have ba:j.heap.size<f.heap.size:=(JL.1 bk).1;have cm:W.heap.size<j.heap.size:=by have:=bg.o;omega
 have bl:∀b,b≠Q→b≠R→¬sg Q R b:=fun b w E h=>h.elim w E
 have l:cZ W1 Q R g s1 f:=v.C ar;have b1:f.heap[W.heap.size]?=A (r7 #[I U 0,I U 0,I U 0,I U 0,O Y 0 0,O Y 0 0] 54 (0,0)):=(ar.block _ cm).trans ((v.1.q _ (by have:=bg.o;omega) (bl _ (by omega) (by omega))).trans ck.o);obtain⟨b2,b3,cn,b4,a1⟩:=zz5 l bk b1 aq bl;have K:=l.2.z.1;have cp:=Hd K;have b5:Hid (∀d,d=f.drew→vv va 30 #[vo (A ⟨Q,0,Y⟩)] d fun e W'=>e=wg (I U b)∧cZ d Q R g s2 W'):=fun d hU=>HB.o d (by rw[hU];exact⟨l.2.q,l.2.r.K Z Z (JM _),l.2.neR,l.2.neg⟩)
 have b6:∀(n k:Nat) (d:J),k≤n→SeS f Q R g j.heap.size s2 (s3,s2.2) b k d→∃x:Qs f Q,d=x.1:=fun n k d _ h=>by
  match k,h with
  | 0,h=>exact⟨⟨d,by rw[show d=f.drew from h];rfl⟩,Z⟩
  | 1,h=>exact⟨⟨d,(show cZ f Q R g s2 d from h).2.z.1.trans K.symm⟩,Z⟩
  | 2,h=>exact⟨⟨d,(show cZ f Q R g (s3,s2.2) d from h).2.z.1.trans K.symm⟩,Z⟩
  | _+3,⟨V,hV,e⟩=>exact⟨⟨d,by
    have e1:d.cell? ⟨Q,0,Y⟩=V.cell? ⟨Q,0,Y⟩:=me (by rw[e];exact oA _ _ _ _ (show Q≠j.heap.size by omega)) 0
    rw[e1];exact hV.2.z.1.trans K.symm⟩,Z⟩
 have L:=Hd b6;have C0:=fun x:Qs f Q=>x.h cp.o
 clear v ar bk l b1 aq HA HB bl b6 K;go_upto_region 2 with fail
 change Code.wp _ _ _ _ (j.alloc (r7 #[I U a,I U 0,I U 0,I U 0,O Y 0 0,O Y 0 0] 54));rw[←b4.o];clear b4;refine RE.z (by kernel_rfl) 10 [1,6,8] [1,6,8] (SeS f Q R g j.heap.size s2 (s3,s2.2) b) (SeR f) (fun i xs=>if i=6 then wP xs.toArray else xs.getD 0 xk)
  (SeP f b r) (by kernel_rfl) (fun i w E=>by rw[w]at E;cases E) (fun _ _ _ _ h _ hg=>h.K hg) Z ?_
 simp only[JY,J7,JZ,J6]
 repeat (refine RE.q (fun d=>∃x:Qs f Q,d=x.1) (L.o _) Z Z Z Z ?_;go_big_quiet_step (fail);refine xL ?_)
 refine RE.h Z Z ?_ (fun M=>?_)
 ·intro d _ hS _;obtain rfl:d=f.drew:=hS Z;refine RE.C 30 _ _ Z (enters_of Tryz.func30 (by kernel_rfl) Z) #[vo (A ⟨Q,0,Y⟩)] (by simp[Act.eval]) ((b5.o _ Z).mono ?_);rintro e W' ⟨rfl,t⟩;exact⟨_,Z,[I U b],Z,(⟨⟨t.1.os,t.1.a,t.1.c,t.1.z,t.1.q⟩,t.2⟩:cZ f Q R g s2 W'),⟨fun x w E=>t.1.q x E (a1.o x (by omega) (by omega)),t.1.z⟩,Z⟩
 simp only[Act.put,JP,JW,JV]
 repeat (refine RE.q (fun d=>∃x:Qs f Q,d=x.1) (L.o _) Z Z Z Z ?_;go_big_quiet_step (fail);refine xL ?_)
 refine RE.h Z Z ?_ (fun a6=>?_)
 ·intro d _ hS _;have t:cZ f Q R g s2 d:=hS Z;refine RE.C 62 _ _ Z (enters_of Tryz.func62 (by kernel_rfl) Z) #[vo (A ⟨R,0,Y⟩)] (by simp[Act.eval]) ((HC.o _ t.2.r).mono ?_);rintro e W' ⟨T,X,y2,y3,rfl,_,v,y⟩;have hs:=t.1.z;exact⟨_,Z,[T,X,y2,y3],Z,t.h (t.2.rd v),⟨fun x w E=>v.1.block x E (by intro e;injection e with e;omega),v.1.size⟩,⟨T,X,y2,y3,Z⟩,bJ.N (fun x m=>⟨by have:=m.1;omega,m.2⟩) y⟩
 simp only[Act.put,JP,JW,JV]
 repeat (refine RE.q (fun d=>∃x:Qs f Q,d=x.1) (L.o _) Z Z Z Z ?_;go_big_quiet_step (fail);refine xL ?_)
 refine RE.h Z Z ?_ (fun c8=>?_)
 ·intro d _ hS hE;have t:cZ f Q R g (s3,s2.2) d:=hS Z;have w:M.getD 0 xk=I U b:=hE 1 M (by kernel_rfl) Z;have cq:M[0]?.getD xk=I U b:=by simpa using w
  have B:=(t.1.q _ ba (a1.o _ (by omega) (by omega))).trans b3.o;have cr:=(aC B).1.2.1;refine RE.upon_skip (w':=d.setCell ⟨j.heap.size,1,Y⟩ (I U b)) ?_ ⟨[],Z,⟨d,t,Z⟩,⟨fun x m _=>oA _ _ _ _ (show x≠j.heap.size by omega),by rw[d6];exact JM _⟩,trivial⟩;have ct:=zT d j.heap.size 1 b _ cr (aB B 1);simp[execOp,Act.eval,cq,ct]
 simp only[Act.put]
 repeat (refine RE.q (fun d=>∃x:Qs f Q,d=x.1) (L.o _) Z Z Z Z ?_;go_big_quiet_step (fail);refine xL ?_)
 refine RE.u ?_;intro V' hS hE;obtain⟨V,t,rfl⟩:∃V,cZ f Q R g (s3,s2.2) V∧V'=V.setCell ⟨j.heap.size,1,Y⟩ (I U b):=hS;have w:M.getD 0 xk=I U b:=hE 1 M Z;obtain⟨⟨T,X,y2,y3,cu⟩,bb⟩:(∃T X y2 y3,a6=[T,X,y2,y3])∧bJ.at_ (V.setCell ⟨j.heap.size,1,Y⟩ (I U b)) (aW f (V.setCell ⟨j.heap.size,1,Y⟩ (I U b))) r a6:=hE 6 a6 Z;have y:bJ.at_ V (aW f V) r a6:=bJ.N (fun x (m:aW f (V.setCell ⟨j.heap.size,1,Y⟩ (I U b)) x)=>⟨m.1,by have:=m.2;rw[d6]at this;exact this⟩) (bJ.K (fun x (m:aW f (V.setCell ⟨j.heap.size,1,Y⟩ (I U b)) x) o ho=>(oA V ⟨j.heap.size,1,Y⟩ _ _ (show x≠j.heap.size by have:=m.1;omega)).symm.trans ho) bb);subst cu;have c9:=t.1.z;have B:=(t.1.q _ ba (a1.o _ (by omega) (by omega))).trans b3.o;have b7:=(t.1.q _ (by omega) (a1.o _ (by omega) (by omega))).trans cn.o;obtain⟨e1,e2,sf,ss,z,_,_⟩:=cY.1 y;injection z with q0 z
 injection z with q1 z
 injection z with q2 z
 injection z with q3 _
 obtain⟨pf,nf,cf,rfl⟩:∃p n c,sf=O p n c:=by
  obtain⟨_,_,_,_,h,E,_⟩:=cY.1 y;injection h with _ h
  injection h with _ h
  injection h with h _
  obtain⟨p,c,e⟩:=Rd.q E;rw[q2]at h;exact⟨_,_,_,h.trans e⟩
 obtain⟨ps,ns,cs,rfl⟩:∃p n c,ss=O p n c:=by
  obtain⟨_,_,_,_,h,_,E⟩:=cY.1 y;injection h with _ h
  injection h with _ h
  injection h with _ h
  injection h with h _
  obtain⟨p,c,e⟩:=Rd.q E;rw[q3]at h;exact⟨_,_,_,h.trans e⟩
 subst q0;subst q1;subst q2;subst q3;obtain⟨⟨c0,c1,c2,c3,c4,c5⟩,f0,f1,f2,f3,f4,f5⟩:=aC B;obtain⟨N,C⟩:=zzx (((((V.setCell ⟨j.heap.size,1,Y⟩ (I U b)).setCell ⟨j.heap.size,2,Y⟩ (I U r.h)).setCell ⟨j.heap.size,3,Y⟩ (I U r.u)).setCell ⟨j.heap.size,4,Y⟩ (O pf nf cf)).setCell ⟨j.heap.size,5,Y⟩ (O ps ns cs));have b8:N.heap[j.heap.size]?=A (r7 #[I U a,I U b,I U r.h,I U r.u,O pf nf cf,O ps ns cs] 54 (0,0)):=by rw[C,heap_set (heap_set (heap_set (heap_set (heap_set B 1 _) 2 _) 3 _) 4 _) 5 _];rfl
 have bm:∀x,x≠j.heap.size→N.heap[x]?=V.heap[x]?:=fun x m=>by rw[C,oA _ _ _ _ m,oA _ _ _ _ m,oA _ _ _ _ m,oA _ _ _ _ m,oA _ _ _ _ m]
 have bn:N.heap.size=V.heap.size:=by rw[C];simp[AF]
 have bq:Hid (iz N V):=by rw[C];exact (cP _ _ _).h ((cP _ _ _).h ((cP _ _ _).h ((cP _ _ _).h (cP _ _ _))))
 obtain⟨b9,cv,ca,P,cy,HT⟩:=zz6 C b8 ((bm _ (by omega)).trans b7) bm y t;rw[w];clear hE t y bb B b7 b8 bm C C0 L b5 e1 e2;go_upto_region 3 with fail
 rw[←b9.o];clear b9 c0 c1 c2 c3 c4 c5 f0 f1 f2 f3 f4 f5;obtain⟨⟨c0,c1,c2,c3,c4,c5⟩,_⟩:=aC cv.o;obtain⟨⟨d0,d1,d2,d3,d4,d5⟩,f0,f1,f2,f3,f4,f5⟩:=aC ca.o;obtain⟨V3,D⟩:=zzx (j7 N W.heap.size (I U a) (I U b) (I U r.h) (I U r.u) (O pf nf cf) (O ps ns cs));have cA:Hid (V3.heap[W.heap.size]?=A (r7 #[I U a,I U b,I U r.h,I U r.u,O pf nf cf,O ps ns cs] 54 (0,0))):=by rw[D];exact uE ca.o _ _ _ _ _ _
 have S:Hid (∀x,x≠W.heap.size→V3.heap[x]?=N.heap[x]?):=by rw[D];exact fun x m=>tU _ _ _ _ _ _ m
 have cC:Hid (V3.heap.size=N.heap.size):=by rw[D];exact vw _ _ _ _ _ _ _ _
 have cR:Hid (iz V3 N):=by rw[D];exact (cP _ _ _).h ((cP _ _ _).h ((cP _ _ _).h ((cP _ _ _).h ((cP _ _ _).h (cP _ _ _)))))
 have cb:=Hd D;clear D;go_wp2_with fail
 change bodyPost _ _ _ _ _ (j7 N W.heap.size (I U a) (I U b) (I U r.h) (I U r.u) (O pf nf cf) (O ps ns cs));rw[←cb.o];clear cb;have bt:=cC.o;refine qz Tryz.results36 (by simp[go_sem]) (by simp[go_sem]) Z cA.o ⟨_,_,_,_,_,_,Z,by simp[Value.oneCell'],?_,?_⟩
 ·have dd:=bg.o;have w:=(Chg.u (F:=sg Q R) cl.o).h (b2.o.1.h HT.o.1);obtain⟨r1,r2,r3⟩:=bq.o;obtain⟨r4,r5,r6⟩:=cR.o;refine⟨⟨r4.trans (r1.trans w.os),r5.trans (r2.trans w.a),r6.trans (r3.trans w.c),by rw[bt,bn];exact w.z,fun x m cT=>?_⟩,?_⟩
  ·rw[S.o x (by omega),P.o x (by omega)];exact w.q x m cT
  ·have ht:=HT.o.2;exact⟨((S.o Q (by omega)).trans (P.o Q (by omega))).trans ht.q,ht.r.K ((S.o R (by omega)).trans (P.o R (by omega))) ((S.o g (by omega)).trans (P.o g (by omega))) (by rw[bt,bn];exact JM _),ht.neR,ht.neg⟩
 ·refine gx.2 ⟨cc.o,ch.o,_,Z,bJ.N (fun x m=>⟨by have:=m.1;omega,by rw[bt,bn];exact m.2⟩) (bJ.K (fun x m o ho=>?_) cy.o)⟩;have:=m.1;rw[S.o x (by omega),P.o x (by omega)];exact ho
end
def uk{α:Type} (w:J) (Q R g:Nat) (E:xD) (r:Rd α) (res:List α×ISt) (e:Ending) (w':J):Prop:=
 ∃v,e=wg v∧cZ w Q R g res.2 w'∧aA w' (fun b=>aW w w' b∧v.ownBlock≠A b) E r res.1 v∧∀b,v.ownBlock=A b→w.heap.size≤b
def Ho{α:Type} (one:ISt→α×ISt) (E:xD) (r:Rd α) (w:J) (Q R g n:Nat) (all:List α×ISt) (v i:tS) (W:J):Prop:=
 ∃(a:J) (k:Nat) (xs:List α) (st:ISt),a=W∧i=I U k∧k≤n∧(xs++(co one (n-k) st).1,(co one (n-k) st).2)=all∧xs.length=k∧cZ w Q R g st a∧aA a (fun b=>aW w a b∧v.ownBlock≠A b) E r xs v∧∀b,v.ownBlock=A b→w.heap.size≤b
theorem qn{α:Type}{one:ISt→α×ISt}{n:Nat}{s:ISt}:co one (n+1) s=if (one s).2.1.2 then ([(one s).1],(one s).2) else ((one s).1::(co one n (one s).2).1,(co one n (one s).2).2):=rfl
theorem qh{α:Type}{r:Rd α}{E:xD}{w z w4 F W2:J}{Q R g:Nat}{s0 st B:ISt}{xs:List α}{x:α}{vs us:List tS}{p:Option Addr}{m c:Nat}{v9:tS}(hk:xs.length=m)(G:dq w Q R g s0)(u:cZ w Q R g st z)(a:cZ z Q R g B w4)(v:Kr w4 F)(i:lW F W2 (O p m c) v9 m)
  (H:r.z z (fun b=>aW w z b∧(O p m c).ownBlock≠A b) xs us) (f:∀b,(O p m c).ownBlock=A b→w.heap.size≤b) (hx:r.at_ w4 (fun b=>aW z w4 b) x vs) (C:W2.ownsRow 0 E r.n v9 (m+1) (us++vs)) (K:∀b,(O p m c).ownBlock=A b→b<z.heap.size) :
  cZ w Q R g B W2∧∃j cap,v9=O (A ⟨j,0,Y⟩) (m+1) cap∧aA W2 (fun b=>aW w W2 b∧v9.ownBlock≠A b) E r (xs++[x]) v9∧∀b,v9.ownBlock=A b→w.heap.size≤b:=by
 have hQ:=G.lt;have hR:=G.r.lt;have ad:=G.r.lt2;have k:=u.1.h a.1;have af:=u.1.z;have aq:=a.1.z;have y:=v.size;have d:Chg (fun b=>(O p m c).ownBlock=A b) w4 W2:=by
  rcases i with ⟨g1,cap,e,_,i⟩|⟨cap,_,i⟩
  ·have l:Chg (fun b=>(O p m c).ownBlock=A b) w4 F:=Chg.u v;exact⟨i.os.trans l.os,i.tape.trans l.a,i.output.trans l.c,JU y i.size,fun b L t=>(i.block b (by omega) (fun M=>t (by injection M with M;rw[e,←M];rfl))).trans (l.q b L t)⟩
  ·exact Chg.u (v.trans (i.mono y))
 obtain⟨j,cap,N,D⟩:∃j cap,v9=O (A ⟨j,0,Y⟩) (m+1) cap∧((O p m c).ownBlock=A j∨w4.heap.size≤j):=by
  rcases i with ⟨g1,cap,e,P,_⟩|⟨cap,P,_⟩
  ·exact⟨g1,cap,P,Or.inl (by rw[e];rfl)⟩
  ·exact⟨_,cap,P,Or.inr y⟩
 subst N;have S:=d.z
 refine⟨⟨⟨d.os.trans k.os,d.a.trans k.a,d.c.trans k.c,by omega,fun b L t=>(d.q b (by omega) (fun e=>by have:=f b e;omega)).trans (k.q b L t)⟩,
  (d.q Q (by omega) (fun e=>by have:=f Q e;omega)).trans a.2.q,a.2.r.K (d.q R (by omega) (fun e=>by have:=f R e;omega)) (d.q g (by omega) (fun e=>by have:=f g e;omega)) S,a.2.neR,a.2.neg⟩,j,cap,Z,⟨us++vs,by rw[J2,hk];exact C,?_⟩,fun b e=>?_⟩
 ·have T:r.z w4 (fun b=>aW w w4 b∧(O p m c).ownBlock≠A b) xs us:=Rd.tF (fun b h=>⟨⟨h.1.1,by have:=h.1.2;omega⟩,h.2⟩) (Rd.tE (fun b h o V=>(a.1.q b h.1.2 (fun e=>by have:=h.1.1;rcases e with e|e<;>omega)).trans V) H)
  have X:r.at_ w4 (fun b=>aW w w4 b∧(O p m c).ownBlock≠A b) x vs:=r.N (fun b h=>⟨⟨by have:=h.1;omega,h.2⟩,fun e=>by have:=K b e;have:=h.1;omega⟩) hx;refine Rd.tF (fun b h=>⟨⟨h.1.1,by have:=h.1.2;omega⟩,fun e=>?_⟩) (Rd.tE (fun b h o V=>(d.q b h.1.2 h.2).trans V) (Rd.th T X));injection e with e
  have e:j=b:=e;subst e;rcases D with h2|h2
  ·exact h.2 h2
  ·have:=h.1.2;omega
 ·injection e with e
  have e:j=b:=e;subst e;rcases D with h|h
  ·exact f _ h
  ·omega
section
variable {W:J} {Q R g:Nat} {s:ISt}
theorem zo(h:dq W Q R g s):vv va 32 #[vo (A ⟨R,0,Y⟩)] W fun e W'=>∃a b c,e=wg (wP #[a,b,c])∧(∀u∈[a,b,c],u.oneCell'=tT)∧cZ W Q R g (fl s).2 W'∧aG.at_ W' (aW W W') (fl s).1 [a,b,c]:=by
 refine (q9 h.r).mono ?_;rintro e W' ⟨a,b,c,rfl,i,d,f⟩;exact⟨a,b,c,Z,i,h.rd d,f⟩
theorem Ew:(Tryz.prog.info? 47).map (fun i=>(i.zero,i.size,i.bytes))=A (A (wP #[I U 0,I U 0,O Y 0 0]),3,40):=by kernel_rfl
theorem wo(h:dq W Q R g s)(most:Int)(h0:0≤most)(h1:most≤65536):vv va 31 #[vo (A ⟨Q,0,Y⟩),I U most,z6 (.func 32) #[vo (A ⟨R,0,Y⟩)] #[]] W (uk W Q R g 47 aG (da fl most s)):=by
 have HC:=lc h most;have hn:=qK h0 s;unfold da;obtain⟨⟨n,s1⟩,ad⟩:∃x,eE most s=x:=⟨_,rfl⟩;rw[ad]at HC hn ⊢;dsimp only at HC hn ⊢;have b5:n≤65536:=by omega
 obtain⟨all,w⟩:=zzy (co fl n s1);rw[w];obtain⟨HC,ar,HR⟩:=zz3 HC w h;have hQ:=h.lt;have hR:=h.r.lt;obtain⟨ti,bm,bn,bq,bt⟩:=info_parts Ew;clear h ad w hn h0 h1
 go_enter Tryz.func31,Tryz.ntmps31
 go_wp2_with fail
 refine HC.o.mono ?_;rintro e w2 ⟨rfl,u⟩;have bB:=Hd u;clear u HC;go_wp2_with fail
 go_loopw [7,11] (Ho fl 47 aG W Q R g n all) (fun _ i _=>n-(intOf i).toNat)
 case atStart=>exact⟨_,0,[],s1,Z,Z,J0 _,by rw[←ar.o];rfl,Z,bB.o,aA.nil,fun b h=>by cases h⟩
 case round =>
  obtain⟨W1,k,xs,st,rfl,rfl,hk,heq,hm,u,j,z⟩:=hrel;obtain⟨p,c,rfl⟩:=j.q;rw[hm]at j z ⊢;obtain⟨HM,HEq,N,B,C⟩:=zz5 hm heq j z u;have ad:=u.1.z;clear u j z heq hm
  by_cases b6:k<n
  ·have b4:(k:Int)<n:=by omega
   have l:=zo C.o.2;obtain⟨⟨x,v⟩,hx⟩:∃y,fl st=y:=⟨_,rfl⟩;have P:(if v.1.2=tT then (xs++[x],v) else (xs++x::(co fl (n-(k+1)) v).1,(co fl (n-(k+1)) v).2))=all:=by
    rw[←HEq.o,show n-k=(n-(k+1))+1 by omega];rw[qn,hx];dsimp only
    split<;>rfl
   rw[hx]at l;dsimp only at l;obtain⟨a1,S⟩:=zz2 l P;clear l P hx;go_wp2_with fail
   refine a1.o.mono ?_;rintro e w4 ⟨y0,y1,y2,rfl,a6,m,ba⟩;obtain⟨bb,bR⟩:=zz2 m ba;obtain⟨us,d,bd⟩:=N.o;rw[HM.o]at d;have D:w4.ownsRow 0 47 3 (O p k c) k us:=dj d fun b hb=>m.1.q b (aP d b hb).2 (fun e=>by have:=B.o b hb;rcases e with e|e<;>omega)
   obtain⟨b0,b1,af⟩:=zz3 bd (fun b hb=>(aP d b hb).2) D;have b7:=m.1.z;have E:=jx w4 [y0,y1,y2] 47;obtain⟨b2,b3⟩:=zz2 E a6;clear m ba d bd D E a6;go_wp2_with (at_builtin;go_must (refine bS _ Z (.tmp 13) (.tmp 16) 22 Z 0 47 ti _ 3 40 Tryz.underlying22 bm bn bq bt Z (by decide) (O p k c) k us Z (af.o.alloc _) ⟨w4.heap.size,0,Y⟩ 1 1 [y0,y1,y2] Z Z b2.o b3.o (by unfold maxLen;omega) (by omega) (by omega) (by decide) ?_);intro v9 W2 f q;obtain⟨w5,aq⟩:=zzx (w4.alloc (r7 #[y0,y1,y2] 47));have bg:Kr w4 w5:=(by rw[aq];exact (JO _ w4).alloc (JM _) _);have F:lW w5 W2 (O p k c) v9 k:=(by rw[aq];exact q);have t:=qh (r:=aG) (x:=x) (vs:=[y0,y1,y2]) HM.o HR.o C.o bb.o bg F b0.o B.o bR.o f b1.o;obtain⟨q0,_,_⟩:=t.1.2.z;obtain⟨bk,T⟩:=zz2 (pQ t.1.2.r) t;clear t F bg aq f q)
   refine bk.o.mono ?_;rintro e w6 ⟨rfl,rfl⟩;obtain⟨V,gg,cap,rfl,G,f⟩:=T.o;obtain⟨X,H,K⟩:=zz3 V G f;clear V G f T bk
   cases M:v.1.2 with
   | true =>
    have a:=S.o;rw[M]at a;simp only[oX]at a;have L:=Hd a;clear a M;go_wp2_with fail
    go_ret;rw[←L.o];exact⟨_,Z,X.o,H.o,K.o⟩
   | false =>
    have a:=S.o;rw[M]at a;simp only[Ka,oF]at a;have L:=Hd a;clear a M;go_wp2_with fail
    refine⟨⟨W2,k+1,xs++[x],v,Z,by go_num,by omega,?_,?_,X.o,H.o,K.o⟩,by simp[intOf];omega⟩
    ·rw[←L.o];simp
    ·rw[J2,HM.o,Ko]
  ·obtain rfl:k=n:=by omega
   have hend:(xs,st)=all:=by rw[←HEq.o,Nat.sub_self];simp[co]
   have bl:=Hd hend;clear hend;go_wp2_with fail
   go_ret;rw[←bl.o];exact⟨_,Z,C.o,N.o,B.o⟩
theorem BO:(Tryz.prog.info? 50).map (fun i=>(i.zero,i.size,i.bytes))=A (A (wP #[I U 0,O Y 0 0]),2,32):=by kernel_rfl
theorem ue(h:dq W Q R g s)(most:Int)(h0:0≤most)(h1:most≤65536):vv va 33 #[vo (A ⟨Q,0,Y⟩),I U most,z6 (.func 34) #[vo (A ⟨Q,0,Y⟩)] #[]] W (uk W Q R g 50 dx (da eD most s)):=by
 have HC:=lc h most;have hn:=qK h0 s;unfold da;obtain⟨⟨n,s1⟩,ad⟩:∃x,eE most s=x:=⟨_,rfl⟩;rw[ad]at HC hn ⊢;dsimp only at HC hn ⊢;have b5:n≤65536:=by omega
 obtain⟨all,w⟩:=zzy (co eD n s1);rw[w];obtain⟨HC,ar,HR⟩:=zz3 HC w h;have hQ:=h.lt;have hR:=h.r.lt;obtain⟨ti,bm,bn,bq,bt⟩:=info_parts BO;clear h ad w hn h0 h1
 go_enter Tryz.func33,Tryz.ntmps33
 go_wp2_with fail
 refine HC.o.mono ?_;rintro e w2 ⟨rfl,u⟩;have bB:=Hd u;clear u HC;go_wp2_with fail
 go_loopw [7,11] (Ho eD 50 dx W Q R g n all) (fun _ i _=>n-(intOf i).toNat)
 case atStart=>exact⟨_,0,[],s1,Z,Z,J0 _,by rw[←ar.o];rfl,Z,bB.o,aA.nil,fun b h=>by cases h⟩
 case round =>
  obtain⟨W1,k,xs,st,rfl,rfl,hk,heq,hm,u,j,z⟩:=hrel;obtain⟨p,c,rfl⟩:=j.q;rw[hm]at j z ⊢;obtain⟨HM,HEq,N,B,C⟩:=zz5 hm heq j z u;have ad:=u.1.z;clear u j z heq hm
  by_cases b6:k<n
  ·have b4:(k:Int)<n:=by omega
   have l:=wY C.o.2;obtain⟨⟨x,v⟩,hx⟩:∃y,eD st=y:=⟨_,rfl⟩;have P:(if v.1.2=tT then (xs++[x],v) else (xs++x::(co eD (n-(k+1)) v).1,(co eD (n-(k+1)) v).2))=all:=by
    rw[←HEq.o,show n-k=(n-(k+1))+1 by omega];rw[qn,hx];dsimp only
    split<;>rfl
   rw[hx]at l;dsimp only at l;obtain⟨a1,S⟩:=zz2 l P;clear l P hx;go_wp2_with fail
   refine a1.o.mono ?_;rintro e w4 ⟨y0,y1,rfl,a6,m,ba⟩;obtain⟨bb,bR⟩:=zz2 m ba;obtain⟨us,d,bd⟩:=N.o;rw[HM.o]at d;have D:w4.ownsRow 0 50 2 (O p k c) k us:=dj d fun b hb=>m.1.q b (aP d b hb).2 (fun e=>by have:=B.o b hb;rcases e with e|e<;>omega)
   obtain⟨b0,b1,af⟩:=zz3 bd (fun b hb=>(aP d b hb).2) D;have b7:=m.1.z;have E:=jx w4 [y0,y1] 50;obtain⟨b2,b3⟩:=zz2 E a6;clear m ba d bd D E a6;go_wp2_with (at_builtin;go_must (refine bS _ Z (.tmp 13) (.tmp 16) 23 Z 0 50 ti _ 2 32 Tryz.underlying23 bm bn bq bt Z (by decide) (O p k c) k us Z (af.o.alloc _) ⟨w4.heap.size,0,Y⟩ 1 1 [y0,y1] Z Z b2.o b3.o (by unfold maxLen;omega) (by omega) (by omega) (by decide) ?_);intro v9 W2 f q;obtain⟨w5,aq⟩:=zzx (w4.alloc (r7 #[y0,y1] 50));have bg:Kr w4 w5:=(by rw[aq];exact (JO _ w4).alloc (JM _) _);have F:lW w5 W2 (O p k c) v9 k:=(by rw[aq];exact q);have t:=qh (r:=dx) (x:=x) (vs:=[y0,y1]) HM.o HR.o C.o bb.o bg F b0.o B.o bR.o f b1.o;obtain⟨q0,_,_⟩:=t.1.2.z;obtain⟨bk,T⟩:=zz2 (pQ t.1.2.r) t;clear t F bg aq f q)
   refine bk.o.mono ?_;rintro e w6 ⟨rfl,rfl⟩;obtain⟨V,gg,cap,rfl,G,f⟩:=T.o;obtain⟨X,H,K⟩:=zz3 V G f;clear V G f T bk
   cases M:v.1.2 with
   | true =>
    have a:=S.o;rw[M]at a;simp only[oX]at a;have L:=Hd a;clear a M;go_wp2_with fail
    go_ret;rw[←L.o];exact⟨_,Z,X.o,H.o,K.o⟩
   | false =>
    have a:=S.o;rw[M]at a;simp only[Ka,oF]at a;have L:=Hd a;clear a M;go_wp2_with fail
    refine⟨⟨W2,k+1,xs++[x],v,Z,by go_num,by omega,?_,?_,X.o,H.o,K.o⟩,by simp[intOf];omega⟩
    ·rw[←L.o];simp
    ·rw[J2,HM.o,Ko]
  ·obtain rfl:k=n:=by omega
   have hend:(xs,st)=all:=by rw[←HEq.o,Nat.sub_self];simp[co]
   have bl:=Hd hend;clear hend;go_wp2_with fail
   go_ret;rw[←bl.o];exact⟨_,Z,C.o,N.o,B.o⟩
theorem wW:(Tryz.prog.info? 54).map (fun i=>(i.zero,i.size,i.bytes))=A (A (wP #[I U 0,I U 0,I U 0,I U 0,O Y 0 0,O Y 0 0]),6,80):=by kernel_rfl
theorem rO(h:dq W Q R g s)(most:Int)(h0:0≤most)(h1:most≤65536):vv va 35 #[vo (A ⟨Q,0,Y⟩),I U most,z6 (.func 36) #[vo (A ⟨Q,0,Y⟩)] #[]] W (uk W Q R g 54 ea (da dz most s)):=by
 have HC:=lc h most;have hn:=qK h0 s;unfold da;obtain⟨⟨n,s1⟩,ad⟩:∃x,eE most s=x:=⟨_,rfl⟩;rw[ad]at HC hn ⊢;dsimp only at HC hn ⊢;have b5:n≤65536:=by omega
 obtain⟨all,w⟩:=zzy (co dz n s1);rw[w];obtain⟨HC,ar,HR⟩:=zz3 HC w h;have hQ:=h.lt;have hR:=h.r.lt;obtain⟨ti,bm,bn,bq,bt⟩:=info_parts wW;clear h ad w hn h0 h1
 go_enter Tryz.func35,Tryz.ntmps35
 go_wp2_with fail
 refine HC.o.mono ?_;rintro e w2 ⟨rfl,u⟩;have bB:=Hd u;clear u HC;go_wp2_with fail
 go_loopw [7,11] (Ho dz 54 ea W Q R g n all) (fun _ i _=>n-(intOf i).toNat)
 case atStart=>exact⟨_,0,[],s1,Z,Z,J0 _,by rw[←ar.o];rfl,Z,bB.o,aA.nil,fun b h=>by cases h⟩
 case round =>
  obtain⟨W1,k,xs,st,rfl,rfl,hk,heq,hm,u,j,z⟩:=hrel;obtain⟨p,c,rfl⟩:=j.q;rw[hm]at j z ⊢;obtain⟨HM,HEq,N,B,C⟩:=zz5 hm heq j z u;have ad:=u.1.z;clear u j z heq hm
  by_cases b6:k<n
  ·have b4:(k:Int)<n:=by omega
   have l:=ux C.o.2;obtain⟨⟨x,v⟩,hx⟩:∃y,dz st=y:=⟨_,rfl⟩;have P:(if v.1.2=tT then (xs++[x],v) else (xs++x::(co dz (n-(k+1)) v).1,(co dz (n-(k+1)) v).2))=all:=by
    rw[←HEq.o,show n-k=(n-(k+1))+1 by omega];rw[qn,hx];dsimp only
    split<;>rfl
   rw[hx]at l;dsimp only at l;obtain⟨a1,S⟩:=zz2 l P;clear l P hx;go_wp2_with fail
   refine a1.o.mono ?_;rintro e w4 ⟨y0,y1,y2,y3,y4,y5,rfl,a6,m,ba⟩;obtain⟨bb,bR⟩:=zz2 m ba;obtain⟨us,d,bd⟩:=N.o;rw[HM.o]at d;have D:w4.ownsRow 0 54 6 (O p k c) k us:=dj d fun b hb=>m.1.q b (aP d b hb).2 (fun e=>by have:=B.o b hb;rcases e with e|e<;>omega)
   obtain⟨b0,b1,af⟩:=zz3 bd (fun b hb=>(aP d b hb).2) D;have b7:=m.1.z;have E:=jx w4 [y0,y1,y2,y3,y4,y5] 54;obtain⟨b2,b3⟩:=zz2 E a6;clear m ba d bd D E a6;go_wp2_with (at_builtin;go_must (refine bS _ Z (.tmp 13) (.tmp 16) 26 Z 0 54 ti _ 6 80 Tryz.underlying26 bm bn bq bt Z (by decide) (O p k c) k us Z (af.o.alloc _) ⟨w4.heap.size,0,Y⟩ 1 1 [y0,y1,y2,y3,y4,y5] Z Z b2.o b3.o (by unfold maxLen;omega) (by omega) (by omega) (by decide) ?_);intro v9 W2 f q;obtain⟨w5,aq⟩:=zzx (w4.alloc (r7 #[y0,y1,y2,y3,y4,y5] 54));have bg:Kr w4 w5:=(by rw[aq];exact (JO _ w4).alloc (JM _) _);have F:lW w5 W2 (O p k c) v9 k:=(by rw[aq];exact q);have t:=qh (r:=ea) (x:=x) (vs:=[y0,y1,y2,y3,y4,y5]) HM.o HR.o C.o bb.o bg F b0.o B.o bR.o f b1.o;obtain⟨q0,_,_⟩:=t.1.2.z;obtain⟨bk,T⟩:=zz2 (pQ t.1.2.r) t;clear t F bg aq f q)
   refine bk.o.mono ?_;rintro e w6 ⟨rfl,rfl⟩;obtain⟨V,gg,cap,rfl,G,f⟩:=T.o;obtain⟨X,H,K⟩:=zz3 V G f;clear V G f T bk
   cases M:v.1.2 with
   | true =>
    have a:=S.o;rw[M]at a;simp only[oX]at a;have L:=Hd a;clear a M;go_wp2_with fail
    go_ret;rw[←L.o];exact⟨_,Z,X.o,H.o,K.o⟩
   | false =>
    have a:=S.o;rw[M]at a;simp only[Ka,oF]at a;have L:=Hd a;clear a M;go_wp2_with fail
    refine⟨⟨W2,k+1,xs++[x],v,Z,by go_num,by omega,?_,?_,X.o,H.o,K.o⟩,by simp[intOf];omega⟩
    ·rw[←L.o];simp
    ·rw[J2,HM.o,Ko]
  ·obtain rfl:k=n:=by omega
   have hend:(xs,st)=all:=by rw[←HEq.o,Nat.sub_self];simp[co]
   have bl:=Hd hend;clear hend;go_wp2_with fail
   go_ret;rw[←bl.o];exact⟨_,Z,C.o,N.o,B.o⟩
end
theorem ul(l:List UInt8)(i:Nat)(h:i<l.length):(l.map fun b=>(b.toNat:Int)).getD i 0=((l[i]'h).toNat:Int):=by simp[List.getD,h]
theorem DV{W:J}{B n:Nat}{l:List UInt8}{v:tS}(h:W.ownsRow B 5 1 v n ((l.map fun b=>(b.toNat:Int)).map (I r8)))(f:l.length=n)(c:v≠O Y 0 0):∃g cap,v=O (A ⟨g,0,Y⟩) n cap∧B≤g∧g<W.heap.size∧BytesAt W g l v:=by
 rcases h.2 with ⟨j,_⟩|⟨g,cap,cur,rfl,hB,d,o,hm,k,e⟩
 ·exact absurd j c
 ·refine⟨g,cap,Z,hB,(JL.1 d).1,Or.inr ⟨0,cap,by rw[f],by omega,hm,(JL.1 d).1,fun i b m=>?_⟩⟩;rw[Kq _ _ _ _ _ _ d,Nat.zero_add];have a:(cur.toList.take (n*1))[i]?=A (I r8 (b.toNat:Int)):=by rw[e];simp[m]
  rw[List.getElem?_take]at a
  split at a
  ·simpa using a
  ·cases a
theorem vH{l:List UInt8}{v:tS}{W:J}(z:Lib.HoldsBytes W v l)(x:l.length≤140737488355328)(D:0<W.heap.size):vv va 28 #[v] W fun e W'=>∃R g,e=wg (vo (A ⟨R,0,Y⟩))∧Kr W W'∧W.heap.size≤R∧bF W' R g (l,ur):=by
 obtain⟨p,cap,rfl,d,m⟩:=z
 cases p with
 | none =>
  obtain rfl:=d Z;have h:=Hd (Tryz.bytes_Clone_nil 0 cap W);have q:Hid (bF (W.alloc (r7 #[xt tT,xt ur,O Y 0 0] 124)) W.heap.size 0 ([],ur)):=
   ⟨⟨_,oc W _,Or.inl ⟨Z,Z⟩⟩,by show W.heap.size≠0;omega,by simp⟩
  clear m d
  show vv va 28 #[O Y 0 cap] W _
  go_enter Tryz.func28,Tryz.ntmps28
  go_wp2_with fail
  refine h.o.mono ?_;rintro e f ⟨rfl,rfl⟩;go_wp2_with fail
  go_ret;exact⟨_,0,Z,(JO _ _).alloc (JM _) _,JM _,q.o⟩
 | some a =>
  have h:=Hd (Tryz.bytes_Clone_at a l.length cap (l.map fun b=>(b.toNat:Int)) W (by simp) x (fun i hi=>by
   rw[ul l i hi];exact m a Z i _ (JR hi)))
  obtain⟨n,r⟩:=zzy (l.length);rw[r]at h ⊢;have t:=Hd r;clear m d x r
  go_enter Tryz.func28,Tryz.ntmps28
  go_wp2_with fail
  refine h.o.mono ?_;rintro e f ⟨E,rfl,c,j,u⟩;obtain⟨g,c2,rfl,B,w,k⟩:=DV c t.o j;have y:=u.size;have C:Hid (Kr W (f.alloc (r7 #[xt tT,xt ur,O (A ⟨g,0,Y⟩) n c2] 124))):=u.alloc y _;have q:Hid (bF (f.alloc (r7 #[xt tT,xt ur,O (A ⟨g,0,Y⟩) n c2] 124)) f.heap.size g (l,ur)):=
   ⟨⟨_,oc f _,k.K (((JO _ f).alloc (JM _) _).block g w) (by simp)⟩,by show f.heap.size≠g;omega,by simp;omega⟩
  clear c j u k h;go_wp2_with fail
  go_ret;exact⟨_,g,Z,C.o,y,q.o⟩
