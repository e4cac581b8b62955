/- Parts of one proof, joined; conditions stand in each theorem. -/
import Derived.Test.YtoahnjkclckodaaGreatDoorNK
open Except renaming error→z6,ok→xt
open Go.Value renaming agg→xk,string→tS,int→I,tuple→y9,slice→O,pointer→vv,func→z7,bool→xv
open Go.IntKind renaming i64→U,u8→tF
open Go renaming Value→tT,World→J,Calls→wg,undef→wF,wpQuiet_nil→xL
open Go.Ending renaming returned→wj
open Or renaming inl→wD,inr→wP
open Option renaming some→A,none→Y
open Go.Proofs.Tryz renaming prog→vo
open Go.Obj renaming cells→r9
open Decidable renaming decide→xn
open Bool renaming true→ur,false→va
open Go.Act renaming put→xS
namespace Go.Proofs.YtoahnjkclckodaaGreatDoor
set_option maxHeartbeats 8000000
set_option maxRecDepth 100000
open Go.RowKit
def fj(ts:List ay) (T:ac):Except Flt (List ay):=
 if (dM T.h ts).isSome then z6 (210,T.t)
 else if 32≤ts.length||6<T.z.length then z6 (204,T.t)
 else match be fieldStep [] T.z with
  | .error e=>z6 e
  | .ok _=>xt (ts++[⟨T.h,T.z.length⟩])
theorem pE:∀(l:List ac) (s s':List ByteArray),be fieldStep s l=xt s'→s'=s++l.map ac.h
 | [],s,s',h=>by injection h with h;rw[←h];simp
 | K::l,s,s',h=>by
  unfold be at h
  cases a:fieldStep s K with
  | error e=>rw[a]at h;cases h
  | ok s1 =>
   rw[a]at h;unfold fieldStep at a
   split at a
   ·cases a
   ·injection a with a
    rw[pE l s1 s' h,←a];simp
theorem uZ:Elem 118 104 2 24:=Elem.of (z:=xk #[tS ByteArray.empty,I U 0]) Tryz.underlying104 (by kernel_rfl) (by kernel_rfl) (by decide) (by decide)
def oN(F:Nat→Prop) (d M:Nat) (rs:List aK) (vT vR:tT) (r:Except Flt (List ay)) (w:J) (e:Ending) (w':J):Prop:=
 Chg (aZ M [vT,vR]) w w'∧match r with
 | .ok b=>e=wj (y9 #[])∧∃a,MkB F d M b rs a vR w'∧Grew vT a w.heap.size
 | .error er=>e=aJ er.1 er.2
theorem ap.taken{w:J}{B d:Nat}{Ts:List ac}{p:Option Addr}{n c k:Nat}(h:ap w B (d+1) Ts (O p n c))(o:k≤Ts.length):ap w B (d+1) (Ts.take k) (O p k c):=by
 rcases h with ⟨rfl,sp,cap,he⟩|⟨b,off,cap,t,q,u,r,he,s⟩
 ·injection he with f l g
  subst f;subst g;have:k=0:=by simpa using o
  subst this;exact wD ⟨Z,_,_,Z⟩
 ·injection he with f l g
  subst f;subst l;subst g
  by_cases m:k=0
  ·subst m;exact wD ⟨Z,_,_,Z⟩
  ·have j:(Ts.take k).length=k:=by rw[List.length_take];omega
   refine wP ⟨b,off,c,fun e=>by rw[e]at j;exact m j.symm,q,by omega,r,by rw[j],fun i T a=>s i T ?_⟩;rw[List.getElem?_take]at a
   split at a
   ·exact a
   ·cases a
theorem xT(b off n c m:Nat)(hm:m≤c)(W:J):(Instr.slice 143 (O (A ⟨b,off,Y⟩) n c) Y (A (I U (m:Int))) Y).run vo W=.ok (O (A ⟨b,off,Y⟩) m c) W:=by
 rw[run_slice_h W 143 (A ⟨b,off,Y⟩) n c (by kernel_rfl) U m (by omega) (by omega)];rw[show (sizeOf (Tryz.prog.elem 143)).run vo W=.ok 5 W from by kernel_rfl]
 show Result.ok (sliced _ _ _ _ _) W=_
 unfold sliced;rw[Int.toNat_natCast]
 by_cases a:c=0
 ·subst a;obtain rfl:m=0:=by omega
  rfl
 ·rw[oB a];simp[Addr.add]
def vu(w:J) (F:Nat→Prop) (d M:Nat) (ts:List ay) (rs:List aK) (vT vR:tT) (T:ac) (a:tT) (n:Nat) (i:tT) (W:J):Prop:=
 ∃(j:Nat) (s:List ByteArray),j≤n∧i=I U (j:Int)∧be fieldStep [] (T.z.take j)=xt s∧Gl w W∧W.heap[w.heap.size]?=A (r9 #[I tF 2,tS T.h,I U T.u,I U T.t,a] 145 (0,0))∧MkB F d M ts rs vT vR W
theorem zT(F:Nat→Prop)(d M:Nat)(ts:List ay)(rs:List aK)(vT vR:tT)(T:ac)(p:Option Addr)(n c dd:Nat)(w:J)
  (hw:MkB F d M ts rs vT vR w) (hk:T.q=2) (dv:ts.length≤10000) (ca:T.z.length=n) (hn:n≤10000) (bl:ap w w.heap.size (dd+1) T.z (O p n c)) (en:T.h.size≤maxLen) :
  wg vo 97 #[vv (A ⟨M,0,Y⟩),xk #[I tF T.q,tS T.h,I U T.u,I U T.t,O p n c]] w (oN F d M rs vT vR (fj ts T) w):=by
 rw[hk];change wg vo 97 #[vv (A ⟨M,0,Y⟩),xk #[I tF 2,tS T.h,I U T.u,I U T.t,O p n c]] w _;obtain⟨D,G,eo⟩:=hw.t.q;subst eo;obtain⟨z,af⟩:=zzy (ts.length);have HN:=Hd af;rw[af]at dv;obtain⟨w1,bm⟩:=zzx (w.alloc (r9 #[I tF 2,tS T.h,I U T.u,I U T.t,O p n c] 145));have X:Gl w w1:=by rw[bm];exact (Fz _ w).alloc (Fy _) _
 have b0:w1.heap[w.heap.size]?=A (r9 #[I tF 2,tS T.h,I U T.u,I U T.t,O p n c] 145 (0,0)):=by rw[bm];exact oA w _
 obtain⟨b1,u,cb,cc,aq,H⟩:=zz6 b0 X (hw.C X) (fun g hg=>hw.t.lt (g:=g) hg) bl ca;obtain⟨ix,b2⟩:=zzx (ek (dM T.h ts));have ar:Hid (xn ((0:Int)≤ix)=(dM T.h ts).isSome):=by
  show _=_
  rw[b2]
  cases dM T.h ts with
  | none=>rfl
  | some k=>show xn ((0:Int)≤(k:Int))=ur;simp
 have bn:=Hd (fun (W:J) (h:Gl w1 W)=>uD ts T.h _ _ M W ((hw.C X).C h).row_t (fun _ h=>h) ((hw.C X).C h).z.1);rw[←b2]at bn;obtain⟨e0,e1,e2,e3,e4⟩:=cells5 b0;have ad:w1.cell? ⟨M,0,Y⟩=A (O D z G):=by rw[(hw.C X).z.1,af]
 have E0:=fun x:Wb w1=>x.h e0
 have E1:=fun x:Wb w1=>x.h e1
 have E2:=fun x:Wb w1=>x.h e2
 have E3:=fun x:Wb w1=>x.h e3
 have E4:=fun x:Wb w1=>x.h e4
 have MT:=fun x:Wb w1=>x.h ad
 clear b0 X hw hk bl ca b2
 go_enter Tryz.func97,Tryz.ntmps97
 go_upto_region 1 with fail
 change Code.wp _ _ _ _ (w.alloc (r9 #[I tF 2,tS T.h,I U T.u,I U T.t,O p n c] 145));rw[←bm];clear bm
 go_cut [] from 6 to 31 (fun W2=>Gl w W2∧W2.heap[w.heap.size]?=A (r9 #[I tF 2,tS T.h,I U T.u,I U T.t,O p n c] 145 (0,0))∧MkB F d M ts rs (O D ts.length G) vR W2∧(dM T.h ts).isSome=va∧(32≤z||6<n)=va)
 case first =>
  have hA:(dM T.h ts).isSome=ur→fj ts T=z6 (210,T.t):=fun h=>by unfold fj;rw[oE h]
  have hB:(dM T.h ts).isSome=va→(xn (32≤z)||decide (6<n))=ur→fj ts T=z6 (204,T.t):=fun h h2=>by
   unfold fj;rw[h,oB (by decide),oE (by rw[HN.o,H.o];exact h2)]
  obtain⟨HA,cf⟩:=zz2 hA hB;clear hA hB af
  by_cases ch:32≤z
  ·have ck:(32:Int)≤z:=by omega
   have a1:Hid (32≤z):=ch;refine RE.u (by kernel_rfl) 25 [6,24] [] (fun _ W=>∃x:Wb w1,W=x.1) (fun W W'=>Gl W W') (fun i q=>if i=6 then I U (ix:Int) else q.getD 0 wF) (fun i W q=>if i=24 then cF w1.heap.size [(xn ((0:Int)≤ix),210),(ur,204)] W (q.getD 0 wF) else True) (by kernel_rfl) (fun _ _ _ _ _ _ h a=>cY h a) (fun i W W' q h _ a=>by split at h;(rw[oE (by assumption)];exact h.C a);rw[oB (by assumption)];trivial) ⟨⟨w1.drew,(Fz _ _).drew⟩,Z⟩ ?_;simp only[FO,FY,FQ,FX]
   repeat (refine RE.q (fun W=>∃x:Wb w1,W=x.1) (fun _ _ _ h=>h) Z Z Z ⟨⟨w1.drew,(Fz _ _).drew⟩,Z⟩ ?_;go_big_quiet_step (fail);refine xL ?_)
   refine RE.h Z Z ?_ (fun cl=>?_)
   ·intro W L _ B;obtain⟨s9,_,x,rfl⟩:=L;refine RE.z 125 _ _ Z (enters_of Tryz.func125 (by kernel_rfl) Z) #[vv (A ⟨M,0,Y⟩),tS T.h] (by simp[Act.eval]) ((bn.o x.1 x.2).mono ?_);rintro e W' ⟨rfl,a⟩;exact⟨_,Z,[],Z,a,a,trivial⟩
   simp only[xS,FA,FM,FK,Nat.reduceAdd,↓reduceIte]
   repeat (refine RE.q (fun W=>∃x:Wb w1,W=x.1) (fun _ _ _ h=>h) Z Z Z ⟨⟨w1.drew,(Fz _ _).drew⟩,Z⟩ ?_;go_big_quiet_step (fail);refine xL ?_)
   refine RE.h Z Z ?_ (fun q=>?_)
   ·intro W L _ B;obtain⟨s9,_,x,rfl⟩:=L;exact iE _ _ 210 204 _ _ Z Z Z x.2.size (fun v W' a ho=>⟨[v],Z,a,a,ho⟩)
   simp only[xS,FA,FM,FK,Nat.reduceAdd,Nat.reduceEqDiff,↓reduceIte];refine RE.t ?_;intro W hS B;obtain⟨x,rfl⟩:=hS;obtain⟨g,eg,lg,hg⟩:cF w1.heap.size [(xn ((0:Int)≤ix),210),(ur,204)] x.1 (q.getD 0 wF):=B 24 q Z;rw[eg];have a6:=Hd (bO [(xn ((0:Int)≤ix),210),(ur,204)] 2 T.h T.u T.t (O p n c) g 2 2 x.1 Z (by omega) hg);have N:=Hd x.2;clear B eg lg hg E0 E1 E2 E3 E4 MT;go_wp2_with fail
   refine a6.o.mono ?_;rintro e W2 ⟨r,he⟩;have f:=N.o.trans (r.mono N.o.size);clear r
   cases S:xn ((0:Int)≤ix) with
   | true =>
    rw[S]at he;have he:e=aJ 210 T.t:=he;subst he;refine⟨Z,Chg.t (u.o.trans (f.mono u.o.size)),?_⟩;rw[HA.o (ar.o.symm.trans S)];rfl
   | false =>
    rw[S]at he;have he:e=aJ 204 T.t:=he;subst he;refine⟨Z,Chg.t (u.o.trans (f.mono u.o.size)),?_⟩;rw[cf.o (ar.o.symm.trans S) (by rw[decide_eq_true a1.o];rfl)];rfl
  ·have ck:¬(32:Int)≤z:=by omega
   have a1:Hid (¬32≤z):=ch;refine RE.u (by kernel_rfl) 25 [6,24] [] (fun _ W=>∃x:Wb w1,W=x.1) (fun W W'=>Gl W W') (fun i q=>if i=6 then I U (ix:Int) else q.getD 0 wF) (fun i W q=>if i=24 then cF w1.heap.size [(xn ((0:Int)≤ix),210),(xn ((6:Int)<n),204)] W (q.getD 0 wF) else True) (by kernel_rfl) (fun _ _ _ _ _ _ h a=>cY h a) (fun i W W' q h _ a=>by split at h;(rw[oE (by assumption)];exact h.C a);rw[oB (by assumption)];trivial) ⟨⟨w1.drew,(Fz _ _).drew⟩,Z⟩ ?_;simp only[FO,FY,FQ,FX]
   repeat (refine RE.q (fun W=>∃x:Wb w1,W=x.1) (fun _ _ _ h=>h) Z Z Z ⟨⟨w1.drew,(Fz _ _).drew⟩,Z⟩ ?_;go_big_quiet_step (fail);refine xL ?_)
   refine RE.h Z Z ?_ (fun cl=>?_)
   ·intro W L _ B;obtain⟨s9,_,x,rfl⟩:=L;refine RE.z 125 _ _ Z (enters_of Tryz.func125 (by kernel_rfl) Z) #[vv (A ⟨M,0,Y⟩),tS T.h] (by simp[Act.eval]) ((bn.o x.1 x.2).mono ?_);rintro e W' ⟨rfl,a⟩;exact⟨_,Z,[],Z,a,a,trivial⟩
   simp only[xS,FA,FM,FK,Nat.reduceAdd,↓reduceIte]
   repeat (refine RE.q (fun W=>∃x:Wb w1,W=x.1) (fun _ _ _ h=>h) Z Z Z ⟨⟨w1.drew,(Fz _ _).drew⟩,Z⟩ ?_;go_big_quiet_step (fail);refine xL ?_)
   refine RE.h Z Z ?_ (fun q=>?_)
   ·intro W L _ B;obtain⟨s9,_,x,rfl⟩:=L;exact iE _ _ 210 204 _ _ Z Z Z x.2.size (fun v W' a ho=>⟨[v],Z,a,a,ho⟩)
   simp only[xS,FA,FM,FK,Nat.reduceAdd,Nat.reduceEqDiff,↓reduceIte];refine RE.t ?_;intro W hS B;obtain⟨x,rfl⟩:=hS;obtain⟨g,eg,lg,hg⟩:cF w1.heap.size [(xn ((0:Int)≤ix),210),(xn ((6:Int)<n),204)] x.1 (q.getD 0 wF):=B 24 q Z;rw[eg];have a6:=Hd (bO [(xn ((0:Int)≤ix),210),(xn ((6:Int)<n),204)] 2 T.h T.u T.t (O p n c) g 2 2 x.1 Z (by omega) hg);have N:=Hd x.2;clear B eg lg hg E0 E1 E2 E3 E4 MT;go_wp2_with fail
   refine a6.o.mono ?_;rintro e W2 ⟨r,he⟩;have f:=N.o.trans (r.mono N.o.size);clear r
   cases S:xn ((0:Int)≤ix) with
   | true =>
    rw[S]at he;have he:e=aJ 210 T.t:=he;subst he;refine⟨Z,Chg.t (u.o.trans (f.mono u.o.size)),?_⟩;rw[HA.o (ar.o.symm.trans S)];rfl
   | false =>
    rw[S]at he
    cases h2:xn ((6:Int)<n) with
    | true =>
     rw[h2]at he;have he:e=aJ 204 T.t:=he;subst he;refine⟨Z,Chg.t (u.o.trans (f.mono u.o.size)),?_⟩;have h3:6<n:=by have:=qv h2;omega
     rw[cf.o (ar.o.symm.trans S) (by rw[decide_eq_true h3,Bool.or_true])];rfl
    | false =>
     rw[h2]at he;have he:e=wj (y9 #[]):=he;subst he;have h3:¬6<n:=by have:=of_decide_eq_false h2;omega
     have HP:Hid (Gl w W2∧W2.heap[w.heap.size]?=A (r9 #[I tF 2,tS T.h,I U T.u,I U T.t,O p n c] 145 (0,0))∧MkB F d M ts rs (O D ts.length G) vR W2∧(dM T.h ts).isSome=va∧(32≤z||6<n)=va):=
      ⟨u.o.trans (f.mono u.o.size),aa f b1.o (Fx.1 b1.o).1,cb.o.C f,ar.o.symm.trans S,by rw[oT a1.o,oT h3];rfl⟩
     clear S h2 he f e0 e1 e2 e3 e4 ad;go_wp2_with fail
     go_meet
     case rel=>exact HP.o
 case rest =>
  obtain⟨cm,b3,cn,cp,bB⟩:=hcut;obtain⟨er,et,e5⟩:=zz3 cm b3 cn;have cq:Hid (fj ts T=match be fieldStep [] T.z with | .error e=>z6 e | .ok _=>xt (ts++[⟨T.h,T.z.length⟩])):=by
   show _=_
   unfold fj;rw[cp,oB (by decide),oB (by rw[HN.o,H.o,bB];decide)]
  clear e0 e1 e2 e3 e4 ad E0 E1 E2 E3 E4 MT bn cm cn cp bB af b1 cb u;obtain⟨e0,e1,e2,e3,e4⟩:=cells5 b3;clear b3;go_wp2_with fail
  go_loopw [35] (vu w F d M ts rs (O D ts.length G) vR T (O p n c) n) (fun i _=>n-(intOf i).toNat)
  case atStart=>exact⟨0,[],FR _,Z,Z,er.o,et.o,e5.o⟩
  case round =>
   obtain⟨j,s,hj,rfl,ba,cr,ct,cu⟩:=hrel;have fs:(0:Int)≤j:=by omega
   obtain⟨b4,y,V,P⟩:=zz4 ba cr ct cu;clear ba cr ct cu e0 e1 e2 e3 e4
   by_cases e6:j<n
   ·have ft:(j:Int)<n:=by omega
    obtain⟨K,hK⟩:∃K,T.z[j]?=A K:=⟨_,FD (by rw[H.o];exact e6)⟩;have bl:=aq.o.C y.o;have cv:=ap.taken (k:=j) (aq.o.C y.o) (by rw[H.o];omega);rcases bl with ⟨h0,_⟩|⟨b,off,cap,S,h2,h3,h4,he,h6⟩
    ·rw[h0]at hK;simp at hK
    rw[H.o]at he h3;injection he with e7 _ e8
    subst e7;subst e8;obtain⟨cy,sK,c0,c1,c2,c3,c4,cA⟩:=h6 j K hK;obtain⟨ps,bq,rfl⟩:=cA.h;obtain⟨nk,cC⟩:=zzy (K.z.length);rw[cC]at c4;have bd:s=(T.z.take j).map ac.h:=by rw[pE _ _ _ b4.o];rfl
    obtain⟨bb,b5⟩:=zzx ((idxOf K.h ((T.z.take j).map ac.h)).isSome);have b6:Hid (be fieldStep [] (T.z.take (j+1))=if bb then z6 (210,K.t) else xt (s++[K.h])):=by
     show _=_
     rw[it hK b4.o,b5,←bd];rfl
    obtain⟨C,bt⟩:=zzx (wr.alloc (r9 #[I tF K.q,tS K.h,I U K.u,I U K.t,O ps nk bq] 145));have r:Gl wr C:=by rw[bt];exact (Fz _ wr).alloc (Fy _) _
    have bk:C.heap[wr.heap.size]?=A (r9 #[I tF K.q,tS K.h,I U K.u,I U K.t,O ps nk bq] 145 (0,0)):=by rw[bt];exact oA wr _
    obtain⟨cR,fv⟩:=zz2 r bk;have b7:=aa r V.o (Fx.1 V.o).1;have fz:=Hd b7;have fI:∀(fn:Fn) (first cap:Array tT) (w:J),(Instr.makeFunc fn first cap).run vo w=.ok (z7 fn first cap) w:=fun _ _ _ _=>rfl
    have fT:∀W,(Instr.slice 143 (O (A ⟨b,off,Y⟩) n c) Y (A (I U (j:Int))) Y).run vo W=.ok (O (A ⟨b,off,Y⟩) j c) W:=fun W=>xT b off n c j (by omega) W
    have cV:=Hd (fun (W:J) (hW:Gl C W)=>Ac K.h wr.heap.size (T.z.take j) (O (A ⟨b,off,Y⟩) j c) dd W ((cv.C ((r.mono y.o.size).trans (hW.mono (FH y.o.size r.size)))).up (FH y.o.size (FH r.size hW.size))) (by rw[List.length_take];omega) (by rw[Gk _ _ _ _ _ _ (aa hW bk (Fx.1 bk).1)];rfl));rw[←b5]at cV;obtain⟨k0,k1,k2,k3,k4⟩:=cells5 bk;obtain⟨n0,n1,n2,n3,n4⟩:=cells5 b7;have K0:=fun x:Wb C=>x.h k0
    have K1:=fun x:Wb C=>x.h k1
    have K2:=fun x:Wb C=>x.h k2
    have K3:=fun x:Wb C=>x.h k3
    have K4:=fun x:Wb C=>x.h k4
    have N4:=fun x:Wb C=>x.h n4
    obtain⟨e0,e1,e2,e3,e4⟩:=cells5 V.o;clear r bk b7 bd b5 cy cA h6 S h2 h3 h4 cC hK cv k0 k1 k2 k3 k4 n0 n1 n2 n3 n4;go_upto_region 5 with fail
    change Code.wp _ _ _ _ (wr.alloc (r9 #[I tF K.q,tS K.h,I U K.u,I U K.t,O ps nk bq] 145));rw[←bt];clear bt c0 c1 c2 c3 c4 e0 e1 e2 e3 e4;refine RE.u (by kernel_rfl) 9 [6,8] [] (fun _ W=>∃x:Wb C,W=x.1) (fun W W'=>Gl W W') (fun i q=>if i=6 then xv bb else q.getD 0 wF) (fun i W q=>if i=8 then cF C.heap.size [(bb,210)] W (q.getD 0 wF) else True) (by kernel_rfl) (fun _ _ _ _ _ _ h a=>cY h a) (fun i W W' q h _ a=>by split at h;(rw[oE (by assumption)];exact h.C a);rw[oB (by assumption)];trivial) ⟨⟨C.drew,(Fz _ _).drew⟩,Z⟩ ?_;simp only[FO,FY,FQ,FX]
    repeat (refine RE.q (fun W=>∃x:Wb C,W=x.1) (fun _ _ _ h=>h) Z Z Z ⟨⟨C.drew,(Fz _ _).drew⟩,Z⟩ ?_;go_big_quiet_step (fail);refine xL ?_)
    refine RE.h Z Z ?_ (fun cl=>?_)
    ·intro W L _ B;obtain⟨s9,_,x,rfl⟩:=L;refine RE.z 126 _ _ Z (enters_of Tryz.func126 (by kernel_rfl) Z) #[O (A ⟨b,off,Y⟩) j c,z7 (.func 127) #[] #[vv (A ⟨wr.heap.size,0,Y⟩)]] (by simp[Act.eval]) ((cV.o x.1 x.2).mono ?_);rintro e W' ⟨rfl,a⟩;exact⟨_,Z,[],Z,a,a,trivial⟩
    simp only[xS,FA,FM,FK,Nat.reduceAdd,↓reduceIte]
    repeat (refine RE.q (fun W=>∃x:Wb C,W=x.1) (fun _ _ _ h=>h) Z Z Z ⟨⟨C.drew,(Fz _ _).drew⟩,Z⟩ ?_;go_big_quiet_step (fail);refine xL ?_)
    refine RE.h Z Z ?_ (fun q=>?_)
    ·intro W L _ B;obtain⟨s9,_,x,rfl⟩:=L;exact kG bb 210 _ Z Z x.2.size (fun v W' a ho=>⟨[v],Z,a,a,ho⟩)
    simp only[xS,FA,FM,FK,Nat.reduceAdd,Nat.reduceEqDiff,↓reduceIte];refine RE.t ?_;intro W hS B;obtain⟨x,rfl⟩:=hS;obtain⟨g,eg,lg,hg⟩:cF C.heap.size [(bb,210)] x.1 (q.getD 0 wF):=B 8 q Z;rw[eg];obtain⟨a6,N⟩:=zz2 (bO [(bb,210)] K.q K.h K.u K.t (O ps nk bq) g 1 1 x.1 Z (by omega) hg) x.2;clear B eg lg hg K0 K1 K2 K3 K4 N4;go_wp2_with fail
    refine a6.o.mono ?_;rintro e W2 ⟨cW,he⟩;have Q:=cR.o.trans ((N.o.trans (cW.mono N.o.size)).mono cR.o.size)
    cases bb with
    | true =>
     have he:e=aJ 210 K.t:=he;subst he;have e9:=jq b6.o;refine⟨Z,Chg.t (y.o.trans (Q.mono y.o.size)),?_⟩;rw[cq.o,e9];rfl
    | false =>
     have he:e=wj (y9 #[]):=he;subst he;have HR:Hid (vu w F d M ts rs (O D ts.length G) vR T (O (A ⟨b,off,Y⟩) n c) n (I U ((j+1:Nat):Int)) W2):=
      ⟨j+1,s++[K.h],by omega,Z,b6.o,y.o.trans (Q.mono y.o.size),aa Q V.o (Fx.1 V.o).1,P.o.C Q⟩
     clear cW Q b6 he;go_wp2_with fail
     refine⟨HR.o,?_⟩;simp[intOf];omega
   ·have c5:Hid (fj ts T=xt (ts++[⟨T.h,(n:Int)⟩])):=by
     show _=_
     rw[cq.o,←FW (l:=T.z) (i:=j) (by rw[H.o];omega),b4.o,FW (by rw[H.o];omega),H.o]
    obtain⟨us,R,c6⟩:=P.o.t;rw[HN.o]at R;have R:wr.ownsRow 0 118 2 (O D z G) z us:=R;obtain⟨c7,fm⟩:=zz2 R c6;have ad:wr.cell? ⟨M,0,Y⟩=A (O D z G):=by rw[P.o.z.1,HN.o]
    obtain⟨x2,x3,x4,x5,x6,x7,hm⟩:=P.o.m;have hK:∀b,(b=M∨b=w.heap.size)→b<wr.heap.size∧(O D z G).ownBlock≠A b:=fun b a=>by
     rw[←HN.o];rcases a with rfl|rfl
     ·exact⟨P.o.lt,row_ne hm P.o.t (by decide)⟩
     ·exact⟨(Fx.1 V.o).1,fun e=>by have:=cc.o _ e;omega⟩
    have c8:=Hd (jp (E:=118) (sz:=2) (row:=us++[tS T.h,I U (n:Int)]) (K:=fun b=>b=M∨b=w.heap.size) hK);obtain⟨e0,e1,e2,e3,e4⟩:=cells5 V.o;have E1:=fun x:Ks wr (fun b=>b=M∨b=w.heap.size)=>x.h (wP Z) e1
    have E4:=fun x:Ks wr (fun b=>b=M∨b=w.heap.size)=>x.h (wP Z) e4
    have M0:=fun x:Ks wr (fun b=>b=M∨b=w.heap.size)=>x.h (wD Z) ad
    clear R c6 ad hm hK e0 e1 e2 e3 e4;go_upto_region 7 with fail
    refine RE.u (by kernel_rfl) 15 [13,14] [14] (stA 118 2 wr D z G (us++[tS T.h,I U (n:Int)])) (ApR wr) (fun _ q=>q.getD 0 wF) (phA 118 2 wr D z G [tS T.h,I U (n:Int)] (us++[tS T.h,I U (n:Int)]) 13 14) (by kernel_rfl) (fun _ _ _ _ _ _ h a=>h.C a) (fun _ _ _ _ h _ hR=>h.t hR) stA.zero ?_;simp only[FO,FY,FQ,FX]
    repeat (refine RE.q (fun W=>∃x:Ks wr (fun b=>b=M∨b=w.heap.size),W=x.1) (c8.o _) Z Z Z stA.zero ?_;go_big_quiet_step (fail);refine xL ?_)
    refine RE.h Z Z ?_ (fun fr=>?_)
    ·intro W L hS B;obtain⟨s9,_,h9⟩:=L;exact dU uZ (vs:=[tS T.h,I U (n:Int)]) _ Z Z Z h9.u (fun v W' a ho=>⟨[v],Z,a,ApR.t a,ho⟩)
    simp only[xS,FA,FM,FK,Nat.reduceAdd];refine RE.h Z Z ?_ (fun c9=>?_)
    ·intro W L hS B;obtain⟨x,rfl⟩:∃x:Wb wr,W=x.1:=hS Z;exact iF uZ (p:=D) (n:=z) (c:=G) (w4:=wr) (vs:=[tS T.h,I U (n:Int)]) (xs:=us) _ _ Z Z (B 13 fr (by kernel_rfl) Z) Z (by simp[Value.oneCell']) x.2 c7.o (by omega) (fun v' W' S h2 h3=>⟨[v'],Z,S,h2,h3⟩)
    simp only[xS,FA,FM,FK,Nat.reduceAdd];refine RE.t ?_;intro W hS B;have hS:ApS 118 2 wr D z G (us++[tS T.h,I U (n:Int)]) W:=hS;have hV:ApV 118 2 wr D z G (us++[tS T.h,I U (n:Int)]) W (c9.getD 0 wF):=B 14 c9 Z;obtain⟨g',cap,eg,hg,L,bR⟩:=ju hS hV;rw[eg];have dg:Chg (fun b=>(O D ts.length G).ownBlock=A b) wr W:=by rw[HN.o];exact L
    have b8:(O D ts.length G).ownBlock=A g'∨wr.heap.size≤g':=by rw[HN.o];exact hg
    have dn:eD.at_ wr F ⟨T.h,(n:Int)⟩ [tS T.h,I U (n:Int)]:=oO.2 ⟨Z,en,by show (-9223372036854775808:Int)≤(n:Int);omega,by show (n:Int)<9223372036854775808;omega⟩;obtain⟨ds,dt,b9⟩:=P.o.pushT HN.o fm.o dn b8 dg bR;obtain⟨y2,y3,y4,y5,y6,y7,hm⟩:=P.o.m;have gf:W.cell? ⟨M,0,Y⟩=A (O D z G):=by rw[Gk _ _ _ _ _ _ (b9.trans hm),←HN.o];rfl
    have gg:=ax (b9.trans hm) 0;have HP:Hid (oN F d M rs (O D ts.length G) vR (xt (ts++[⟨T.h,(n:Int)⟩])) w (wj (y9 #[])) (W.setCell ⟨M,0,Y⟩ (O (A ⟨g',0,Y⟩) (z+1) cap))):=by
     refine⟨dw (Chg.t y.o) dt (fun x hx=>wD hx),Z,_,ds,fun b a=>?_⟩;injection a with a
     have a:g'=b:=a;subst a;rcases b8 with h|h
     ·exact wD h
     ·have:=y.o.size;exact wP (by omega)
    clear hS hV B eg hg L bR dg b8 ds dt b9 E1 E4 M0 c8 dn hm;go_wp2_with fail
    go_end0
    rw[c5.o];exact HP.o
structure l8 (d:Nat) (K:ac):Prop where
 u:I64 K.u
 z:K.z.length≤10000
 a:K.q=5∨K.q=6→∀k∈K.z,(k.q=12∨k.q=13∨k.q=14∨k.q=15)∧k.h.size≤72007
 b:K.q=7→∃t r,K.z=t::r∧eP d t
 exprs:K.q=8∨K.q=10→∀k∈K.z,eP d k
def fA(d:Nat) (ts:List ay) (vars:List ByteArray) (K:ac):Except Flt (List ByteArray×br):=
 if K.q==5 then dS ur 1 (cJ ts K) vars K.z
 else if K.q==6 then dS va 2 (cJ ts K) vars K.z
 else match K.z with
  | []=>z6 (0,0)
  | t::_=>jG vars (aY vars d t)
def iQ(d:Nat) (ts:List ay) (vars:List ByteArray) (cs:List br) (K:ac):Except Flt dr:=
 if K.q==8 then jR (cJ ts K) (cL (aY vars d) K.z)
 else if K.q==9 then ib cs K
 else if K.q==10 then nG (cL (aY vars d) K.z)
 else xt ⟨4,0,0,[]⟩
theorem sF{d:Nat}{ts:List ay}{s:RSt}{K:ac}(h:cS K=ur)(c:l8 d K):dh d ts s K=match fA d ts s.a K with | .error e=>z6 e | .ok x=>xt ⟨x.1,s.b++[x.2],s.d⟩:=by
 have a:K.q=5∨K.q=6∨K.q=7:=by
  unfold cS at h
  simpa using h
 rcases a with a|a|a
 ·unfold dh fA dS;simp only[a]
  cases cJ ts K with
  | error e=>rfl
  | ok k =>
   dsimp only
   show (match be (dk ur) (s.a,[]) K.z with | .error e=>_ | .ok r=>_)=_
   cases be (dk ur) (s.a,[]) K.z<;>rfl
 ·unfold dh fA dS;simp only[a]
  cases cJ ts K with
  | error e=>rfl
  | ok k =>
   dsimp only
   show (match be (dk va) (s.a,[]) K.z with | .error e=>_ | .ok r=>_)=_
   cases be (dk va) (s.a,[]) K.z<;>rfl
 ·obtain⟨t,r,b,_⟩:=c.b a;unfold dh fA jG;simp only[a,b]
  show (match aY s.a d t with | .error e=>_ | .ok x=>_)=_
  cases aY s.a d t<;>rfl
theorem vy{d:Nat}{ts:List ay}{s:RSt}{K:ac}(h:cS K=va):dh d ts s K=match iQ d ts s.a s.b K with | .error e=>z6 e | .ok x=>xt ⟨s.a,s.b,s.d++[x]⟩:=by
 have b:K.q≠5∧K.q≠6∧K.q≠7:=by
  unfold cS at h
  simpa using h
 have i:(K.q==5)=false:=by simpa using b.1
 have j:(K.q==6)=false:=by simpa using b.2.1
 have l:(K.q==7)=false:=by simpa using b.2.2
 unfold dh iQ;rw[i,j,l];simp only[Bool.or_self,F4,o1]
 by_cases f:K.q=8
 ·simp only[f];unfold jR
  show (match cJ ts K with | .error e=>_ | .ok k=>_)=_
  cases cJ ts K with
  | error e=>rfl
  | ok k =>
   show (match cL (aY s.a d) K.z with | .error e=>_ | .ok xs=>_)=_
   cases cL (aY s.a d) K.z<;>rfl
 ·have m:(K.q==8)=false:=by simpa using f
  rw[m];simp only[F4,o1]
  by_cases g:K.q=9
  ·simp only[g];unfold ib
   show (if K.u<1||decide ((bD s.b:Int)<K.u) then _ else _)=_
   split<;>rfl
  ·have n:(K.q==9)=false:=by simpa using g
   rw[n];simp only[F4,o1]
   by_cases a:K.q=10
   ·simp only[a];unfold nG
    show (match cL (aY s.a d) K.z with | .error e=>_ | .ok xs=>_)=_
    cases cL (aY s.a d) K.z<;>rfl
   ·have c:(K.q==10)=false:=by simpa using a
    rw[c];rfl
theorem pZ{ts:List ay}{K:ac}{k:Nat}(a:ts.length≤10000)(h:cJ ts K=xt k):k≤10000:=by
 unfold cJ at h
 split at h
 ·cases h
 ·rename_i c b
  have:=pw b
  split at h
  ·injection h with h;omega
  ·cases h
section
variable {F:Nat→Prop} {d M:Nat} {ts:List ay} {rs:List aK} {vars:List ByteArray} {nm:ByteArray} {sal nv:Int} {cs:List br} {acs:List dr} {vT vR vV vC vA:tT} {w:J}
theorem MkW.row_t(h:MkW F d M ts rs vars nm sal nv cs acs vT vR vV vC vA w):eD.h w (fun b=>b<w.heap.size) ts vT:=h.t.h (fun b a=>(h.f b a).1) (fun _g c=>h.t.lt c)
theorem MkW.typed(h:MkW F d M ts rs vars nm sal nv cs acs vT vR vV vC vA w)(K:ac){s:tT}(a:∃p c,s=O p K.z.length c)(b:K.z.length≤10000):wg vo 156 #[vv (A ⟨M,0,Y⟩),xk #[I tF K.q,tS K.h,I U K.u,I U K.t,s]] w (oS (cJ ts K) mh w):=by
 obtain⟨p,c,rfl⟩:=a;exact Av ts K p c vT _ M w h.row_t (fun _ h=>h) (by rw[Gk _ _ _ _ _ _ h.m];rfl) (by omega)
theorem MkW.exprs(h:MkW F d M ts rs vars nm sal nv cs acs vT vR vV vC vA w){Ks:List ac}{s:tT}(a:ap w w.heap.size (d+1) Ks s)(f:Ks.length≤10000)(b:∀k∈Ks,eP d k):wg vo 159 #[vv (A ⟨M,0,Y⟩),s] w (jA d (cL (aY vars d) Ks) w):=
 oq d M vars vV (aY vars d) Ks s w h.vars a (by omega) (fun T c s W e _ a=>vc M vars vV d T s W e (b T c) a)
end
def rV(F:Nat→Prop) (d M:Nat) (ts:List ay) (rs:List aK) (vars:List ByteArray) (nm:ByteArray) (sal nv:Int) (cs:List br) (acs:List dr) (vT vR vV vC vA:tT) (K:ac) (w:J) (e:Ending) (w':J):Prop:=
 if cS K then kV F d M ts rs nm sal nv cs acs vT vR vV vC vA (fA d ts vars K) w e w'
 else e=wj (xv va)∧Gl w w'∧MkW F d M ts rs vars nm sal nv cs acs vT vR vV vC vA w'
theorem CZ(F:Nat→Prop)(d M:Nat)(ts:List ay)(rs:List aK)(vars:List ByteArray)(nm:ByteArray)(sal nv:Int)(cs:List br)(acs:List dr)(vT vR vV vC vA:tT)(K:ac)(s:tT)(u:Nat)(w:J)
  (hw:MkW F d M ts rs vars nm sal nv cs acs vT vR vV vC vA w) (i:cs.length≤10000) (v:vars.length≤16) (x:ts.length≤10000) (j:l8 d K) (f:ap w u (d+1) K.z s) (g:u≤w.heap.size) (D:∀b,aZ M [vT,vR,vV,vC,vA] b→u≤b) :
  wg vo 130 #[vv (A ⟨M,0,Y⟩),xk #[I tF K.q,tS K.h,I U K.u,I U K.t,s]] w (rV F d M ts rs vars nm sal nv cs acs vT vR vV vC vA K w):=by
 obtain⟨p,c,y⟩:=f.h;unfold rV
 by_cases n:K.q=5
 ·have l:cS K=true:=by unfold cS;rw[n];rfl
  rw[l];simp only[o4];have e:fA d ts vars K=dS ur 1 (cJ ts K) vars K.z:=by unfold fA;rw[n];rfl
  rw[e];subst y
  exact sP 5 1 ur (wD ⟨Z,Z,Z⟩) F d M ts rs vars nm sal nv cs acs vT vR vV vC vA K K.z p K.z.length c u d (cJ ts K) w hw (by omega) i v Z j.z (fun k h=>pZ x h) f g D (j.a (wD n)) (fun W m=>by
   have:=(hw.C m).typed K ⟨p,c,Z⟩ j.z;rw[n]at this
   exact this)
 by_cases o:K.q=6
 ·have l:cS K=true:=by unfold cS;rw[o];rfl
  rw[l];simp only[o4];have e:fA d ts vars K=dS va 2 (cJ ts K) vars K.z:=by unfold fA;rw[o];rfl
  rw[e];subst y
  exact sP 6 2 va (wP ⟨Z,Z,Z⟩) F d M ts rs vars nm sal nv cs acs vT vR vV vC vA K K.z p K.z.length c u d (cJ ts K) w hw (by omega) i v Z j.z (fun k h=>pZ x h) f g D (j.a (wP o)) (fun W m=>by
   have:=(hw.C m).typed K ⟨p,c,Z⟩ j.z;rw[o]at this
   exact this)
 by_cases q:K.q=7
 ·have l:cS K=true:=by unfold cS;rw[q];rfl
  rw[l];simp only[o4];obtain⟨t,r,a,z⟩:=j.b q;have e:fA d ts vars K=jG vars (aY vars d t):=by unfold fA;rw[q,a];rfl
  rw[e];have E:=f;rcases f with ⟨P,_⟩|⟨b,off,cap,Q,R,S,T,he,B⟩
  ·rw[P]at a;cases a
  subst he;obtain⟨G,st,H,L,c2,N,c4,C⟩:=B 0 t (by rw[a];rfl);simp only[Nat.zero_mul,Nat.add_zero]at H L c2 N c4;exact zG F d M ts rs vars nm sal nv cs acs vT vR vV vC vA K t b off cap st (aY vars d t) K.z.length w hw q i (by rw[a];simp) H L c2 N c4 (fun W m=>vc M vars vV d t st W (hw.C m).vars z ((C.C (m.mono g)).up (FH g m.size)))
 ·have l:cS K=false:=by unfold cS;simp[n,o,q]
  rw[l];simp only[F4,o1];subst y;exact Br F d M ts rs vars nm sal nv cs acs vT vR vV vC vA K p K.z.length c w hw ⟨n,o,q⟩
theorem D7(F:Nat→Prop)(d M:Nat)(ts:List ay)(rs:List aK)(vars:List ByteArray)(nm:ByteArray)(sal nv:Int)(cs:List br)(acs:List dr)(vT vR vV vC vA:tT)(K:ac)(s:tT)(r:Nat)(w:J)
  (hw:MkW F d M ts rs vars nm sal nv cs acs vT vR vV vC vA w) (n:cs.length≤10000) (b:acs.length≤10000) (o:ts.length≤10000) (l:l8 d K) (g:ap w r (d+1) K.z s) (i:r≤w.heap.size) :
  wg vo 131 #[vv (A ⟨M,0,Y⟩),xk #[I tF K.q,tS K.h,I U K.u,I U K.t,s]] w (iD F d M ts rs vars nm sal nv cs acs vT vR vV vC vA (iQ d ts vars cs K) w):=by
 obtain⟨p,c,u⟩:=g.h;have hex:∀(t:K.q=8∨K.q=10) W,Gl w W→wg vo 159 #[vv (A ⟨M,0,Y⟩),s] W (jA d (cL (aY vars d) K.z) W):=fun t W j=>(hw.C j).exprs ((g.C (j.mono i)).up (FH i j.size)) l.z (l.exprs t)
 subst u
 by_cases f:K.q=8
 ·have e:iQ d ts vars cs K=jR (cJ ts K) (cL (aY vars d) K.z):=by unfold iQ;rw[f];rfl
  rw[e]
  exact Ay F d M ts rs vars nm sal nv cs acs vT vR vV vC vA K p K.z.length c (cJ ts K) _ w hw f b (fun k h=>pZ o h) (fun W j=>by
   have:=(hw.C j).typed K ⟨p,c,Z⟩ l.z;rw[f]at this
   exact this) (hex (wD f))
 by_cases m:K.q=9
 ·have e:iQ d ts vars cs K=ib cs K:=by unfold iQ;rw[m];rfl
  rw[e];exact BE F d M ts rs vars nm sal nv cs acs vT vR vV vC vA K p K.z.length c w hw m b n l.u
 by_cases a:K.q=10
 ·have e:iQ d ts vars cs K=nG (cL (aY vars d) K.z):=by unfold iQ;rw[a];rfl
  rw[e];exact Em F d M ts rs vars nm sal nv cs acs vT vR vV vC vA K p K.z.length c _ w hw a b (hex (wP a))
 ·have e:iQ d ts vars cs K=xt ⟨4,0,0,[]⟩:=by
   unfold iQ;have v:(K.q==8)=false:=by simpa using f
   have x:(K.q==9)=false:=by simpa using m
   have q:(K.q==10)=false:=by simpa using a
   rw[v,x,q];rfl
  rw[e];exact zH F d M ts rs vars nm sal nv cs acs vT vR vV vC vA K p K.z.length c w hw ⟨f,m,a⟩ b
