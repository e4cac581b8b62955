/- The rule checker: a rule is made; by contract. Condition: as its parts'. Printed by tools/genWhole.py. -/
import Derived.Test.YtoahnjkclckodaaGreatDoorNL
open Except renaming error→z6,ok→xt
open Go renaming Value→tT,World→J,undef→wF,wpQuiet_nil→xL
open Option renaming some→A,none→Y
open Or renaming inl→wD,inr→wP
open Go.Value renaming tuple→y9,agg→xk,string→tS,int→I,slice→O,pointer→vv
open Go.IntKind renaming i64→U,u8→tF
open Bool renaming false→va,true→ur
open Go.Obj renaming cells→r9
open Decidable renaming decide→xn
open Go.Act renaming put→xS
namespace Go.Proofs.YtoahnjkclckodaaGreatDoor
set_option maxHeartbeats 16000000
set_option maxRecDepth 100000
open Go.RowKit
def eA(d:Nat) (types:List ay) (rs:List aK) (T:ac):Except Flt (List aK):=
 if (idxOf T.h (rs.map aK.c)).isSome then z6 (210,T.t)
 else if T.u < -1000||1000<T.u then z6 (2,T.t)
 else if 64≤rs.length||8<f7 T.z||8<T.z.length-f7 T.z then z6 (204,T.t)
 else match be (dh d types) ⟨[],[],[]⟩ T.z with
  | .error e=>z6 e
  | .ok s=>xt (rs++[⟨T.h,T.u,s.a.length,s.b,s.d⟩])
theorem Am(l:List ac):f7 l≤l.length:=by
 unfold f7
 induction l with
 | nil=>exact Fy _
 | cons z l a =>
  rw[List.takeWhile_cons]
  split
  ·simp only[F9];omega
  ·simp
theorem qL{M:Nat}{vT vR vV vC vA:tT}{b:Nat}(h:aZ M [vT,vR,vV,vC,vA] b):aZ M [vT,vR] b∨∃v∈[vV,vC,vA],v.ownBlock=A b:=by
 rcases h with rfl|⟨v,c,a⟩
 ·exact wD (wD Z)
 ·simp only[Ge,Gc,o9]at c;rcases c with rfl|rfl|rfl|rfl|rfl
  ·exact wD (wP ⟨_,by simp,a⟩)
  ·exact wD (wP ⟨_,by simp,a⟩)
  ·exact wP ⟨_,by simp,a⟩
  ·exact wP ⟨_,by simp,a⟩
  ·exact wP ⟨_,by simp,a⟩
theorem sA{b:Bool}:∀(l:List ac) (s s':List ByteArray×List iJ),be (dk b) s l=xt s'→s.1.length≤16→s'.1.length≤16
 | [],s,s',h,c=>by injection h with h;rw[←h];exact c
 | K::l,s,s',h,c=>by
  unfold be at h
  cases a:dk b s K with
  | error e=>rw[a]at h;cases h
  | ok s1 =>
   rw[a]at h;refine sA l s1 s' h ?_;unfold dk at a
   split at a
   ·injection a with a;rw[←a];exact c
   ·split at a
    ·split at a
     ·injection a with a;rw[←a];exact c
     ·split at a
      ·cases a
      ·split at a
       ·cases a
       ·injection a with a
        rw[←a]
        show (s.1++[K.h]).length≤16
        rw[FT];simp;omega
    ·injection a with a;rw[←a];exact c
theorem Ae{d:Nat}{ts:List ay}{vars:List ByteArray}{K:ac}{x:List ByteArray×br}(h:fA d ts vars K=xt x)(c:vars.length≤16):x.1.length≤16:=by
 have key:∀(b:Bool) (kd:Int) (f:Except Flt Nat),dS b kd f vars K.z=xt x→x.1.length≤16:=fun b kd f h=>by
  unfold dS at h
  split at h
  ·cases h
  ·cases a:be (dk b) (vars,[]) K.z with
   | error e=>rw[a]at h;cases h
   | ok r =>
    rw[a]at h;injection h with h
    rw[←h];exact sA K.z (vars,[]) r a c
 unfold fA at h
 split at h
 ·exact key _ _ _ h
 ·split at h
  ·exact key _ _ _ h
  ·split at h
   ·cases h
   ·unfold jG at h
    split at h
    ·cases h
    ·injection h with h;rw[←h];exact c
def nI(F:Nat→Prop) (d M:Nat) (ts:List ay) (vT vR:tT) (r:Except Flt (List aK)) (w:J) (e:Ending) (w':J):Prop:=
 Chg (aZ M [vT,vR]) w w'∧match r with
 | .ok c=>e=Ending.returned (y9 #[])∧∃(F':Nat→Prop) (a:tT),MkB F' d M ts c vT a w'∧Grew vR a w.heap.size∧(∀b,F b→F' b)∧∀b,F' b→F b∨w.heap.size≤b
 | .error er=>e=aJ er.1 er.2
theorem uq:Elem 159 105 5 80:=Elem.of (z:=xk #[tS ByteArray.empty,I U 0,I U 0,O Y 0 0,O Y 0 0]) Tryz.underlying105 (by kernel_rfl) (by kernel_rfl) (by decide) (by decide)
def qx(F:Nat→Prop) (d M:Nat) (ts:List ay) (rs:List aK) (vT vR:tT) (T:ac) (_sl:tT) (n:Nat) (w:J) (i:tT) (W:J):Prop:=
 ∃(j:Nat) (s:RSt) (F':Nat→Prop) (vV vC vA:tT),j≤n∧i=I U (j:Int)∧be (dh d ts) ⟨[],[],[]⟩ (T.z.take j)=xt s∧s.a.length≤16∧s.b.length≤j∧s.d.length≤j∧MkW F' d M ts rs s.a T.h T.u 0 s.b s.d vT vR vV vC vA W∧
  (∀b,F b→F' b)∧(∀b,F' b→F b∨w.heap.size≤b)∧(∀v∈[vV,vC,vA],∀g,v.ownBlock=A g→w.heap.size≤g)∧Chg (aZ M [vT,vR]) w W
theorem tV(W:J)(b o:Nat)(u:tT)(a:W.cell? ⟨b,o,Y⟩=A u)(c:W.frozen? ⟨b,o,Y⟩=va):(Instr.storeAt 200 (vv (A ⟨b,o,Y⟩)) (O Y 0 0)).run Tryz.prog W=.ok () (W.setCell ⟨b,o,Y⟩ (O Y 0 0)):=by simp[Instr.storeAt,Instr.sureAddr,go_sem,a,c]
theorem zP(F:Nat→Prop)(d M:Nat)(ts:List ay)(rs:List aK)(vT vR:tT)(T:ac)(p:Option Addr)(n c B0:Nat)(w:J)
  (hw:MkB F d M ts rs vT vR w) (hk:T.q=4) (hf:ts.length≤10000) (mi:rs.length≤10000) (e9:T.z.length=n) (hn:n≤10000) (ch:ap w B0 (d+2) T.z (O p n c)) (cc:B0≤w.heap.size) (hO:∀b,aZ M [vT,vR] b→B0≤b)
  (mn:T.h.size≤maxLen) (hl:I64 T.u) (hp:∀K∈T.z,l8 d K) :
  Calls Tryz.prog 98 #[vv (A ⟨M,0,Y⟩),xk #[I tF T.q,tS T.h,I U T.u,I U T.t,O p n c]] w (nI F d M ts vT vR (eA d ts rs T) w):=by
 rw[hk];change Calls Tryz.prog 98 #[vv (A ⟨M,0,Y⟩),xk #[I tF 4,tS T.h,I U T.u,I U T.t,O p n c]] w _;obtain⟨N,P,mu⟩:=hw.r.q;subst mu;obtain⟨nR,cT⟩:=zzy (rs.length);have HN:=Hd cT;rw[cT]at mi;obtain⟨kc,cW⟩:=zzy (f7 T.z);have n7:kc≤n:=by rw[←cW,←e9];exact Am _
 obtain⟨fm,hq⟩:=zz2 (fun (W:J) (hW:Gl w W)=>Ad T.z (O p n c) (d+1) W ((ch.C (hW.mono cc)).up (FH cc hW.size)) (by omega)) cW;rw[cW]at fm;obtain⟨w0,c5⟩:=zzx (w.alloc (r9 #[I tF 4,tS T.h,I U T.u,I U T.t,O p n c] 145));have fr:Gl w w0:=by rw[c5];exact (Fz _ w).alloc (Fy _) _
 have fs:w0.heap[w.heap.size]?=A (r9 #[I tF 4,tS T.h,I U T.u,I U T.t,O p n c] 145 (0,0)):=by rw[c5];exact oA w _
 obtain⟨hs,ht,HW,n5,hy⟩:=zz5 fs fr hw (fun g G=>hw.r.lt (g:=g) G) (fun b q=>hw.h (b:=b) q);have n6:=Hd (fun b (q:F b)=>(hw.f b q).1);obtain⟨ft,ck,HO,mv,hz⟩:=zz5 ch e9 hO hp (fm.o w0 fr);obtain⟨e0,e1,e2,e3,e4⟩:=cells5 fs;clear fr hw hk ch e9 cW hO hp fs fm
 go_enter Tryz.func98,Tryz.ntmps98
 go_upto_region 1 with fail
 change Code.wp _ _ _ _ (w.alloc (r9 #[I tF 4,tS T.h,I U T.u,I U T.t,O p n c] 145));rw[←c5];clear c5;go_wp2_with fail
 refine hz.o.mono ?_;rintro e w1 ⟨rfl,fv⟩;have fI:=aa fv hs.o (Fx.1 hs.o).1;obtain⟨af,hA⟩:=zz2 (ht.o.trans (fv.mono ht.o.size)) fI;have c6:=Hd (HW.o.C af.o);clear fv e0 e1 e2 e3 e4;obtain⟨e0,e1,e2,e3,e4⟩:=cells5 fI;obtain⟨ix,B⟩:=zzx (ek (idxOf T.h (rs.map aK.c)));have ar:Hid (xn ((0:Int)≤ix)=(idxOf T.h (rs.map aK.c)).isSome):=by
  show _=_
  rw[B]
  cases idxOf T.h (rs.map aK.c) with
  | none=>rfl
  | some k=>show xn ((0:Int)≤(k:Int))=ur;simp
 have bB:=Hd (fun (W:J) (h:Gl w1 W)=>DD d rs T.h _ _ M W (c6.o.C h).row_r (fun _ h=>h) (c6.o.C h).z.2);rw[←B]at bB;have fT:w1.cell? ⟨M,1,Y⟩=A (O N nR P):=by rw[c6.o.z.2,HN.o]
 have E0:=fun x:Wb w1=>x.h e0
 have E1:=fun x:Wb w1=>x.h e1
 have E2:=fun x:Wb w1=>x.h e2
 have E3:=fun x:Wb w1=>x.h e3
 have E4:=fun x:Wb w1=>x.h e4
 have MR:=fun x:Wb w1=>x.h fT
 clear fI B;have n8:(-9223372036854775808:Int)≤(n:Int)-kc:=by omega
 have n9:(n:Int)-kc<9223372036854775808:=by omega
 go_upto_region 2 with fail
 go_cut [] from 10 to 51 (fun W2=>Gl w1 W2∧(idxOf T.h (rs.map aK.c)).isSome=va∧(xn (T.u < -1000)||decide (1000<T.u))=va∧(xn (64≤nR)||decide (8<kc)||decide (8<n-kc))=va)
 case first =>
  have hD:(idxOf T.h (rs.map aK.c)).isSome=ur→eA d ts rs T=z6 (210,T.t):=fun h=>by unfold eA;rw[oE h]
  have hG:(idxOf T.h (rs.map aK.c)).isSome=va→(xn (T.u < -1000)||decide (1000<T.u))=ur→eA d ts rs T=z6 (2,T.t):=fun h h2=>by
   unfold eA;rw[h,oB (by decide),oE h2]
  have hI:(idxOf T.h (rs.map aK.c)).isSome=va→(xn (T.u < -1000)||decide (1000<T.u))=va→(xn (64≤nR)||decide (8<kc)||decide (8<n-kc))=ur→eA d ts rs T=z6 (204,T.t):=fun h h2 h3=>by
   unfold eA;rw[h,oB (by decide),h2,oB (by decide),oE (by rw[HN.o,hq.o,ck.o];exact h3)]
  obtain⟨a1,a6,b5⟩:=zz3 hD hG hI;clear hD hG hI cT
  by_cases bR:T.u < -1000
  ·have bR:T.u < -1000:=bR;have b0:=Hd bR;have m0:xn (T.u < -1000)=true:=decide_eq_true bR
   by_cases cl:64≤nR
   ·have cm:(64:Int)≤nR:=by omega
    have dv:=Hd cl;refine RE.u (by kernel_rfl) 40 [6,39] [] (fun _ W=>∃x:Wb w1,W=x.1) (fun W W'=>Gl W W') (fun i z=>if i=6 then I U (ix:Int) else z.getD 0 wF) (fun i W z=>if i=39 then cF w1.heap.size [(xn ((0:Int)≤ix),210),(ur,2),(ur,204)] W (z.getD 0 wF) else True) (by kernel_rfl) (fun _ _ _ _ _ _ h q=>cY h q) (fun i W W' z h _ q=>by split at h;(rw[oE (by assumption)];exact h.C q);rw[oB (by assumption)];trivial) ⟨⟨w1.drew,(Fz _ _).drew⟩,Z⟩ ?_;simp only[FO,FY,FQ,FX]
    repeat (refine RE.q (fun W=>∃x:Wb w1,W=x.1) (fun _ _ _ h=>h) Z Z Z ⟨⟨w1.drew,(Fz _ _).drew⟩,Z⟩ ?_;go_big_quiet_step (fail);refine xL ?_)
    refine RE.h Z Z ?_ (fun cn=>?_)
    ·intro W hC _ Q;obtain⟨s9,_,x,rfl⟩:=hC;refine RE.z 129 _ _ Z (enters_of Tryz.func129 (by kernel_rfl) Z) #[vv (A ⟨M,0,Y⟩),tS T.h] (by simp[Act.eval]) ((bB.o x.1 x.2).mono ?_);rintro e W' ⟨rfl,q⟩;exact⟨_,Z,[],Z,q,q,trivial⟩
    simp only[xS,FA,FM,FK,Nat.reduceAdd,↓reduceIte]
    repeat (refine RE.q (fun W=>∃x:Wb w1,W=x.1) (fun _ _ _ h=>h) Z Z Z ⟨⟨w1.drew,(Fz _ _).drew⟩,Z⟩ ?_;go_big_quiet_step (fail);refine xL ?_)
    refine RE.h Z Z ?_ (fun z=>?_)
    ·intro W hC _ Q;obtain⟨s9,_,x,rfl⟩:=hC;exact iz _ _ _ 210 2 204 _ _ _ Z Z Z Z x.2.size (fun v W' q X=>⟨[v],Z,q,q,X⟩)
    simp only[xS,FA,FM,FK,Nat.reduceAdd,Nat.reduceEqDiff,↓reduceIte];refine RE.t ?_;intro W hS Q;obtain⟨x,rfl⟩:=hS;obtain⟨g,eg,lg,G⟩:cF w1.heap.size [(xn ((0:Int)≤ix),210),(ur,2),(ur,204)] x.1 (z.getD 0 wF):=Q 39 z Z;rw[eg];have bd:=Hd (bO [(xn ((0:Int)≤ix),210),(ur,2),(ur,204)] 4 T.h T.u T.t (O p n c) g 3 3 x.1 Z (by omega) G);have R:=Hd x.2;clear Q eg lg G E0 E1 E2 E3 E4 MR;go_wp2_with fail
    refine bd.o.mono ?_;rintro e W2 ⟨y,he⟩;have H:=R.o.trans (y.mono R.o.size);clear y;have L:Hid (Gl w W2):=af.o.trans (H.mono af.o.size)
    cases S:xn ((0:Int)≤ix) with
    | true =>
     rw[S]at he;have he:e=aJ 210 T.t:=he;subst he;refine⟨Z,Chg.t L.o,?_⟩;rw[a1.o (ar.o.symm.trans S)];rfl
    | false =>
     rw[S]at he;have B:=ar.o.symm.trans S;have he:e=aJ 2 T.t:=he;subst he;refine⟨Z,Chg.t L.o,?_⟩;rw[a6.o B (by rw[decide_eq_true b0.o];rfl)];rfl
   ·have cm:¬(64:Int)≤nR:=by omega
    have c7:=Hd cl
    by_cases h8:8<kc
    ·have gf:(8:Int)<kc:=by omega
     have hJ:=Hd h8;refine RE.u (by kernel_rfl) 40 [6,39] [] (fun _ W=>∃x:Wb w1,W=x.1) (fun W W'=>Gl W W') (fun i z=>if i=6 then I U (ix:Int) else z.getD 0 wF) (fun i W z=>if i=39 then cF w1.heap.size [(xn ((0:Int)≤ix),210),(ur,2),(ur,204)] W (z.getD 0 wF) else True) (by kernel_rfl) (fun _ _ _ _ _ _ h q=>cY h q) (fun i W W' z h _ q=>by split at h;(rw[oE (by assumption)];exact h.C q);rw[oB (by assumption)];trivial) ⟨⟨w1.drew,(Fz _ _).drew⟩,Z⟩ ?_;simp only[FO,FY,FQ,FX]
     repeat (refine RE.q (fun W=>∃x:Wb w1,W=x.1) (fun _ _ _ h=>h) Z Z Z ⟨⟨w1.drew,(Fz _ _).drew⟩,Z⟩ ?_;go_big_quiet_step (fail);refine xL ?_)
     refine RE.h Z Z ?_ (fun cn=>?_)
     ·intro W hC _ Q;obtain⟨s9,_,x,rfl⟩:=hC;refine RE.z 129 _ _ Z (enters_of Tryz.func129 (by kernel_rfl) Z) #[vv (A ⟨M,0,Y⟩),tS T.h] (by simp[Act.eval]) ((bB.o x.1 x.2).mono ?_);rintro e W' ⟨rfl,q⟩;exact⟨_,Z,[],Z,q,q,trivial⟩
     simp only[xS,FA,FM,FK,Nat.reduceAdd,↓reduceIte]
     repeat (refine RE.q (fun W=>∃x:Wb w1,W=x.1) (fun _ _ _ h=>h) Z Z Z ⟨⟨w1.drew,(Fz _ _).drew⟩,Z⟩ ?_;go_big_quiet_step (fail);refine xL ?_)
     refine RE.h Z Z ?_ (fun z=>?_)
     ·intro W hC _ Q;obtain⟨s9,_,x,rfl⟩:=hC;exact iz _ _ _ 210 2 204 _ _ _ Z Z Z Z x.2.size (fun v W' q X=>⟨[v],Z,q,q,X⟩)
     simp only[xS,FA,FM,FK,Nat.reduceAdd,Nat.reduceEqDiff,↓reduceIte];refine RE.t ?_;intro W hS Q;obtain⟨x,rfl⟩:=hS;obtain⟨g,eg,lg,G⟩:cF w1.heap.size [(xn ((0:Int)≤ix),210),(ur,2),(ur,204)] x.1 (z.getD 0 wF):=Q 39 z Z;rw[eg];have bd:=Hd (bO [(xn ((0:Int)≤ix),210),(ur,2),(ur,204)] 4 T.h T.u T.t (O p n c) g 3 3 x.1 Z (by omega) G);have R:=Hd x.2;clear Q eg lg G E0 E1 E2 E3 E4 MR;go_wp2_with fail
     refine bd.o.mono ?_;rintro e W2 ⟨y,he⟩;have H:=R.o.trans (y.mono R.o.size);clear y;have L:Hid (Gl w W2):=af.o.trans (H.mono af.o.size)
     cases S:xn ((0:Int)≤ix) with
     | true =>
      rw[S]at he;have he:e=aJ 210 T.t:=he;subst he;refine⟨Z,Chg.t L.o,?_⟩;rw[a1.o (ar.o.symm.trans S)];rfl
     | false =>
      rw[S]at he;have B:=ar.o.symm.trans S;have he:e=aJ 2 T.t:=he;subst he;refine⟨Z,Chg.t L.o,?_⟩;rw[a6.o B (by rw[decide_eq_true b0.o];rfl)];rfl
    ·have gf:¬(8:Int)<kc:=by omega
     have hL:=Hd h8;refine RE.u (by kernel_rfl) 40 [6,39] [] (fun _ W=>∃x:Wb w1,W=x.1) (fun W W'=>Gl W W') (fun i z=>if i=6 then I U (ix:Int) else z.getD 0 wF) (fun i W z=>if i=39 then cF w1.heap.size [(xn ((0:Int)≤ix),210),(ur,2),(xn ((8:Int)<(n:Int)-kc),204)] W (z.getD 0 wF) else True) (by kernel_rfl) (fun _ _ _ _ _ _ h q=>cY h q) (fun i W W' z h _ q=>by split at h;(rw[oE (by assumption)];exact h.C q);rw[oB (by assumption)];trivial) ⟨⟨w1.drew,(Fz _ _).drew⟩,Z⟩ ?_;simp only[FO,FY,FQ,FX]
     repeat (refine RE.q (fun W=>∃x:Wb w1,W=x.1) (fun _ _ _ h=>h) Z Z Z ⟨⟨w1.drew,(Fz _ _).drew⟩,Z⟩ ?_;go_big_quiet_step (fail);refine xL ?_)
     refine RE.h Z Z ?_ (fun cn=>?_)
     ·intro W hC _ Q;obtain⟨s9,_,x,rfl⟩:=hC;refine RE.z 129 _ _ Z (enters_of Tryz.func129 (by kernel_rfl) Z) #[vv (A ⟨M,0,Y⟩),tS T.h] (by simp[Act.eval]) ((bB.o x.1 x.2).mono ?_);rintro e W' ⟨rfl,q⟩;exact⟨_,Z,[],Z,q,q,trivial⟩
     simp only[xS,FA,FM,FK,Nat.reduceAdd,↓reduceIte]
     repeat (refine RE.q (fun W=>∃x:Wb w1,W=x.1) (fun _ _ _ h=>h) Z Z Z ⟨⟨w1.drew,(Fz _ _).drew⟩,Z⟩ ?_;go_big_quiet_step (fail);refine xL ?_)
     refine RE.h Z Z ?_ (fun z=>?_)
     ·intro W hC _ Q;obtain⟨s9,_,x,rfl⟩:=hC;exact iz _ _ _ 210 2 204 _ _ _ Z Z Z Z x.2.size (fun v W' q X=>⟨[v],Z,q,q,X⟩)
     simp only[xS,FA,FM,FK,Nat.reduceAdd,Nat.reduceEqDiff,↓reduceIte];refine RE.t ?_;intro W hS Q;obtain⟨x,rfl⟩:=hS;obtain⟨g,eg,lg,G⟩:cF w1.heap.size [(xn ((0:Int)≤ix),210),(ur,2),(xn ((8:Int)<(n:Int)-kc),204)] x.1 (z.getD 0 wF):=Q 39 z Z;rw[eg];have bd:=Hd (bO [(xn ((0:Int)≤ix),210),(ur,2),(xn ((8:Int)<(n:Int)-kc),204)] 4 T.h T.u T.t (O p n c) g 3 3 x.1 Z (by omega) G);have R:=Hd x.2;clear Q eg lg G E0 E1 E2 E3 E4 MR;go_wp2_with fail
     refine bd.o.mono ?_;rintro e W2 ⟨y,he⟩;have H:=R.o.trans (y.mono R.o.size);clear y;have L:Hid (Gl w W2):=af.o.trans (H.mono af.o.size)
     cases S:xn ((0:Int)≤ix) with
     | true =>
      rw[S]at he;have he:e=aJ 210 T.t:=he;subst he;refine⟨Z,Chg.t L.o,?_⟩;rw[a1.o (ar.o.symm.trans S)];rfl
     | false =>
      rw[S]at he;have B:=ar.o.symm.trans S;have he:e=aJ 2 T.t:=he;subst he;refine⟨Z,Chg.t L.o,?_⟩;rw[a6.o B (by rw[decide_eq_true b0.o];rfl)];rfl
  ·have bR:¬T.u < -1000:=bR;have b0:=Hd bR;have m0:xn (T.u < -1000)=false:=oT bR
   by_cases cl:64≤nR
   ·have cm:(64:Int)≤nR:=by omega
    have dv:=Hd cl;refine RE.u (by kernel_rfl) 40 [6,39] [] (fun _ W=>∃x:Wb w1,W=x.1) (fun W W'=>Gl W W') (fun i z=>if i=6 then I U (ix:Int) else z.getD 0 wF) (fun i W z=>if i=39 then cF w1.heap.size [(xn ((0:Int)≤ix),210),(xn ((1000:Int)<T.u),2),(ur,204)] W (z.getD 0 wF) else True) (by kernel_rfl) (fun _ _ _ _ _ _ h q=>cY h q) (fun i W W' z h _ q=>by split at h;(rw[oE (by assumption)];exact h.C q);rw[oB (by assumption)];trivial) ⟨⟨w1.drew,(Fz _ _).drew⟩,Z⟩ ?_;simp only[FO,FY,FQ,FX]
    repeat (refine RE.q (fun W=>∃x:Wb w1,W=x.1) (fun _ _ _ h=>h) Z Z Z ⟨⟨w1.drew,(Fz _ _).drew⟩,Z⟩ ?_;go_big_quiet_step (fail);refine xL ?_)
    refine RE.h Z Z ?_ (fun cn=>?_)
    ·intro W hC _ Q;obtain⟨s9,_,x,rfl⟩:=hC;refine RE.z 129 _ _ Z (enters_of Tryz.func129 (by kernel_rfl) Z) #[vv (A ⟨M,0,Y⟩),tS T.h] (by simp[Act.eval]) ((bB.o x.1 x.2).mono ?_);rintro e W' ⟨rfl,q⟩;exact⟨_,Z,[],Z,q,q,trivial⟩
    simp only[xS,FA,FM,FK,Nat.reduceAdd,↓reduceIte]
    repeat (refine RE.q (fun W=>∃x:Wb w1,W=x.1) (fun _ _ _ h=>h) Z Z Z ⟨⟨w1.drew,(Fz _ _).drew⟩,Z⟩ ?_;go_big_quiet_step (fail);refine xL ?_)
    refine RE.h Z Z ?_ (fun z=>?_)
    ·intro W hC _ Q;obtain⟨s9,_,x,rfl⟩:=hC;exact iz _ _ _ 210 2 204 _ _ _ Z Z Z Z x.2.size (fun v W' q X=>⟨[v],Z,q,q,X⟩)
    simp only[xS,FA,FM,FK,Nat.reduceAdd,Nat.reduceEqDiff,↓reduceIte];refine RE.t ?_;intro W hS Q;obtain⟨x,rfl⟩:=hS;obtain⟨g,eg,lg,G⟩:cF w1.heap.size [(xn ((0:Int)≤ix),210),(xn ((1000:Int)<T.u),2),(ur,204)] x.1 (z.getD 0 wF):=Q 39 z Z;rw[eg];have bd:=Hd (bO [(xn ((0:Int)≤ix),210),(xn ((1000:Int)<T.u),2),(ur,204)] 4 T.h T.u T.t (O p n c) g 3 3 x.1 Z (by omega) G);have R:=Hd x.2;clear Q eg lg G E0 E1 E2 E3 E4 MR;go_wp2_with fail
    refine bd.o.mono ?_;rintro e W2 ⟨y,he⟩;have H:=R.o.trans (y.mono R.o.size);clear y;have L:Hid (Gl w W2):=af.o.trans (H.mono af.o.size)
    cases S:xn ((0:Int)≤ix) with
    | true =>
     rw[S]at he;have he:e=aJ 210 T.t:=he;subst he;refine⟨Z,Chg.t L.o,?_⟩;rw[a1.o (ar.o.symm.trans S)];rfl
    | false =>
     rw[S]at he;have B:=ar.o.symm.trans S
     cases h2:xn ((1000:Int)<T.u) with
     | true =>
      rw[h2]at he;have he:e=aJ 2 T.t:=he;subst he;refine⟨Z,Chg.t L.o,?_⟩;rw[a6.o B (by rw[show xn (1000<T.u)=ur from h2,Bool.or_true])];rfl
     | false =>
      rw[h2]at he;have aq:(xn (T.u < -1000)||decide (1000<T.u))=false:=by rw[oT (show ¬T.u < -1000 by have:=b0.o;omega),show xn (1000<T.u)=va from h2];rfl
      have he:e=aJ 204 T.t:=he;subst he;refine⟨Z,Chg.t L.o,?_⟩;rw[b5.o B aq (by rw[decide_eq_true dv.o];rfl)];rfl
   ·have cm:¬(64:Int)≤nR:=by omega
    have c7:=Hd cl
    by_cases h8:8<kc
    ·have gf:(8:Int)<kc:=by omega
     have hJ:=Hd h8;refine RE.u (by kernel_rfl) 40 [6,39] [] (fun _ W=>∃x:Wb w1,W=x.1) (fun W W'=>Gl W W') (fun i z=>if i=6 then I U (ix:Int) else z.getD 0 wF) (fun i W z=>if i=39 then cF w1.heap.size [(xn ((0:Int)≤ix),210),(xn ((1000:Int)<T.u),2),(ur,204)] W (z.getD 0 wF) else True) (by kernel_rfl) (fun _ _ _ _ _ _ h q=>cY h q) (fun i W W' z h _ q=>by split at h;(rw[oE (by assumption)];exact h.C q);rw[oB (by assumption)];trivial) ⟨⟨w1.drew,(Fz _ _).drew⟩,Z⟩ ?_;simp only[FO,FY,FQ,FX]
     repeat (refine RE.q (fun W=>∃x:Wb w1,W=x.1) (fun _ _ _ h=>h) Z Z Z ⟨⟨w1.drew,(Fz _ _).drew⟩,Z⟩ ?_;go_big_quiet_step (fail);refine xL ?_)
     refine RE.h Z Z ?_ (fun cn=>?_)
     ·intro W hC _ Q;obtain⟨s9,_,x,rfl⟩:=hC;refine RE.z 129 _ _ Z (enters_of Tryz.func129 (by kernel_rfl) Z) #[vv (A ⟨M,0,Y⟩),tS T.h] (by simp[Act.eval]) ((bB.o x.1 x.2).mono ?_);rintro e W' ⟨rfl,q⟩;exact⟨_,Z,[],Z,q,q,trivial⟩
     simp only[xS,FA,FM,FK,Nat.reduceAdd,↓reduceIte]
     repeat (refine RE.q (fun W=>∃x:Wb w1,W=x.1) (fun _ _ _ h=>h) Z Z Z ⟨⟨w1.drew,(Fz _ _).drew⟩,Z⟩ ?_;go_big_quiet_step (fail);refine xL ?_)
     refine RE.h Z Z ?_ (fun z=>?_)
     ·intro W hC _ Q;obtain⟨s9,_,x,rfl⟩:=hC;exact iz _ _ _ 210 2 204 _ _ _ Z Z Z Z x.2.size (fun v W' q X=>⟨[v],Z,q,q,X⟩)
     simp only[xS,FA,FM,FK,Nat.reduceAdd,Nat.reduceEqDiff,↓reduceIte];refine RE.t ?_;intro W hS Q;obtain⟨x,rfl⟩:=hS;obtain⟨g,eg,lg,G⟩:cF w1.heap.size [(xn ((0:Int)≤ix),210),(xn ((1000:Int)<T.u),2),(ur,204)] x.1 (z.getD 0 wF):=Q 39 z Z;rw[eg];have bd:=Hd (bO [(xn ((0:Int)≤ix),210),(xn ((1000:Int)<T.u),2),(ur,204)] 4 T.h T.u T.t (O p n c) g 3 3 x.1 Z (by omega) G);have R:=Hd x.2;clear Q eg lg G E0 E1 E2 E3 E4 MR;go_wp2_with fail
     refine bd.o.mono ?_;rintro e W2 ⟨y,he⟩;have H:=R.o.trans (y.mono R.o.size);clear y;have L:Hid (Gl w W2):=af.o.trans (H.mono af.o.size)
     cases S:xn ((0:Int)≤ix) with
     | true =>
      rw[S]at he;have he:e=aJ 210 T.t:=he;subst he;refine⟨Z,Chg.t L.o,?_⟩;rw[a1.o (ar.o.symm.trans S)];rfl
     | false =>
      rw[S]at he;have B:=ar.o.symm.trans S
      cases h2:xn ((1000:Int)<T.u) with
      | true =>
       rw[h2]at he;have he:e=aJ 2 T.t:=he;subst he;refine⟨Z,Chg.t L.o,?_⟩;rw[a6.o B (by rw[show xn (1000<T.u)=ur from h2,Bool.or_true])];rfl
      | false =>
       rw[h2]at he;have aq:(xn (T.u < -1000)||decide (1000<T.u))=false:=by rw[oT (show ¬T.u < -1000 by have:=b0.o;omega),show xn (1000<T.u)=va from h2];rfl
       have he:e=aJ 204 T.t:=he;subst he;refine⟨Z,Chg.t L.o,?_⟩;rw[b5.o B aq (by rw[decide_eq_true hJ.o,Bool.or_true];rfl)];rfl
    ·have gf:¬(8:Int)<kc:=by omega
     have hL:=Hd h8;refine RE.u (by kernel_rfl) 40 [6,39] [] (fun _ W=>∃x:Wb w1,W=x.1) (fun W W'=>Gl W W') (fun i z=>if i=6 then I U (ix:Int) else z.getD 0 wF) (fun i W z=>if i=39 then cF w1.heap.size [(xn ((0:Int)≤ix),210),(xn ((1000:Int)<T.u),2),(xn ((8:Int)<(n:Int)-kc),204)] W (z.getD 0 wF) else True) (by kernel_rfl) (fun _ _ _ _ _ _ h q=>cY h q) (fun i W W' z h _ q=>by split at h;(rw[oE (by assumption)];exact h.C q);rw[oB (by assumption)];trivial) ⟨⟨w1.drew,(Fz _ _).drew⟩,Z⟩ ?_;simp only[FO,FY,FQ,FX]
     repeat (refine RE.q (fun W=>∃x:Wb w1,W=x.1) (fun _ _ _ h=>h) Z Z Z ⟨⟨w1.drew,(Fz _ _).drew⟩,Z⟩ ?_;go_big_quiet_step (fail);refine xL ?_)
     refine RE.h Z Z ?_ (fun cn=>?_)
     ·intro W hC _ Q;obtain⟨s9,_,x,rfl⟩:=hC;refine RE.z 129 _ _ Z (enters_of Tryz.func129 (by kernel_rfl) Z) #[vv (A ⟨M,0,Y⟩),tS T.h] (by simp[Act.eval]) ((bB.o x.1 x.2).mono ?_);rintro e W' ⟨rfl,q⟩;exact⟨_,Z,[],Z,q,q,trivial⟩
     simp only[xS,FA,FM,FK,Nat.reduceAdd,↓reduceIte]
     repeat (refine RE.q (fun W=>∃x:Wb w1,W=x.1) (fun _ _ _ h=>h) Z Z Z ⟨⟨w1.drew,(Fz _ _).drew⟩,Z⟩ ?_;go_big_quiet_step (fail);refine xL ?_)
     refine RE.h Z Z ?_ (fun z=>?_)
     ·intro W hC _ Q;obtain⟨s9,_,x,rfl⟩:=hC;exact iz _ _ _ 210 2 204 _ _ _ Z Z Z Z x.2.size (fun v W' q X=>⟨[v],Z,q,q,X⟩)
     simp only[xS,FA,FM,FK,Nat.reduceAdd,Nat.reduceEqDiff,↓reduceIte];refine RE.t ?_;intro W hS Q;obtain⟨x,rfl⟩:=hS;obtain⟨g,eg,lg,G⟩:cF w1.heap.size [(xn ((0:Int)≤ix),210),(xn ((1000:Int)<T.u),2),(xn ((8:Int)<(n:Int)-kc),204)] x.1 (z.getD 0 wF):=Q 39 z Z;rw[eg];have bd:=Hd (bO [(xn ((0:Int)≤ix),210),(xn ((1000:Int)<T.u),2),(xn ((8:Int)<(n:Int)-kc),204)] 4 T.h T.u T.t (O p n c) g 3 3 x.1 Z (by omega) G);have R:=Hd x.2;clear Q eg lg G E0 E1 E2 E3 E4 MR;go_wp2_with fail
     refine bd.o.mono ?_;rintro e W2 ⟨y,he⟩;have H:=R.o.trans (y.mono R.o.size);clear y;have L:Hid (Gl w W2):=af.o.trans (H.mono af.o.size)
     cases S:xn ((0:Int)≤ix) with
     | true =>
      rw[S]at he;have he:e=aJ 210 T.t:=he;subst he;refine⟨Z,Chg.t L.o,?_⟩;rw[a1.o (ar.o.symm.trans S)];rfl
     | false =>
      rw[S]at he;have B:=ar.o.symm.trans S
      cases h2:xn ((1000:Int)<T.u) with
      | true =>
       rw[h2]at he;have he:e=aJ 2 T.t:=he;subst he;refine⟨Z,Chg.t L.o,?_⟩;rw[a6.o B (by rw[show xn (1000<T.u)=ur from h2,Bool.or_true])];rfl
      | false =>
       rw[h2]at he;have aq:(xn (T.u < -1000)||decide (1000<T.u))=false:=by rw[oT (show ¬T.u < -1000 by have:=b0.o;omega),show xn (1000<T.u)=va from h2];rfl
       cases h3:xn ((8:Int)<(n:Int)-kc) with
       | true =>
        rw[h3]at he;have gg:8<n-kc:=by have:=qv h3;omega
        have he:e=aJ 204 T.t:=he;subst he;refine⟨Z,Chg.t L.o,?_⟩;rw[b5.o B aq (by rw[decide_eq_true gg,Bool.or_true])];rfl
       | false =>
        rw[h3]at he;have gg:¬8<n-kc:=by have:=of_decide_eq_false h3;omega
        have he:e=Ending.returned (y9 #[]):=he;subst he;have HP:Hid (Gl w1 W2∧(idxOf T.h (rs.map aK.c)).isSome=va∧(xn (T.u < -1000)||decide (1000<T.u))=va∧(xn (64≤nR)||decide (8<kc)||decide (8<n-kc))=va):=⟨H,B,aq,by rw[oT gg,oT c7.o,oT hL.o];rfl⟩;clear S h2 h3 he H e0 e1 e2 e3 e4 fT aq B;go_wp2_with fail
        go_meet
        case rel=>exact HP.o
 case rest =>
  obtain⟨bl,B,aq,hM⟩:=hcut;have gD:Hid (eA d ts rs T=match be (dh d ts) ⟨[],[],[]⟩ T.z with | .error e=>z6 e | .ok s=>xt (rs++[⟨T.h,T.u,s.a.length,s.b,s.d⟩])):=by
   show _=_
   unfold eA;rw[B,oB (by decide),aq,oB (by decide),oB (by rw[HN.o,hq.o,ck.o,hM];decide)]
  obtain⟨m1,b1⟩:=zz2 (af.o.trans (bl.mono af.o.size)) (c6.o.C bl);have aq:=aa bl hA.o (Fx.1 hA.o).1;have b0:=Hd aq;obtain⟨y2,y3,y4,y5,y6,y7,hm⟩:=b1.o.m;obtain⟨w3,b6⟩:=zzx (((((((wc.drew.setCell ⟨M,2,Y⟩ (O Y 0 0)).setCell ⟨M,3,Y⟩ (tS T.h)).setCell ⟨M,4,Y⟩ (I U T.u)).setCell ⟨M,5,Y⟩ (I U 0)).setCell ⟨M,6,Y⟩ (O Y 0 0)).setCell ⟨M,7,Y⟩ (O Y 0 0)));have cp:w3.heap[M]?=A (r9 #[vT,O N rs.length P,O Y 0 0,tS T.h,I U T.u,I U 0,O Y 0 0,O Y 0 0] 202 (0,0)):=by
   rw[b6];have h2:(wc.drew.setCell ⟨M,2,Y⟩ (O Y 0 0)).heap[M]?=A (r9 #[vT,O N rs.length P,O Y 0 0,y3,y4,y5,y6,y7] 202 (0,0)):=heap_set hm 2 _;have h3:((wc.drew.setCell ⟨M,2,Y⟩ (O Y 0 0)).setCell ⟨M,3,Y⟩ (tS T.h)).heap[M]?=A (r9 #[vT,O N rs.length P,O Y 0 0,tS T.h,y4,y5,y6,y7] 202 (0,0)):=heap_set h2 3 _;have h4:(((wc.drew.setCell ⟨M,2,Y⟩ (O Y 0 0)).setCell ⟨M,3,Y⟩ (tS T.h)).setCell ⟨M,4,Y⟩ (I U T.u)).heap[M]?=A (r9 #[vT,O N rs.length P,O Y 0 0,tS T.h,I U T.u,y5,y6,y7] 202 (0,0)):=heap_set h3 4 _;have h5:((((wc.drew.setCell ⟨M,2,Y⟩ (O Y 0 0)).setCell ⟨M,3,Y⟩ (tS T.h)).setCell ⟨M,4,Y⟩ (I U T.u)).setCell ⟨M,5,Y⟩ (I U 0)).heap[M]?=A (r9 #[vT,O N rs.length P,O Y 0 0,tS T.h,I U T.u,I U 0,y6,y7] 202 (0,0)):=heap_set h4 5 _;have h6:(((((wc.drew.setCell ⟨M,2,Y⟩ (O Y 0 0)).setCell ⟨M,3,Y⟩ (tS T.h)).setCell ⟨M,4,Y⟩ (I U T.u)).setCell ⟨M,5,Y⟩ (I U 0)).setCell ⟨M,6,Y⟩ (O Y 0 0)).heap[M]?=A (r9 #[vT,O N rs.length P,O Y 0 0,tS T.h,I U T.u,I U 0,O Y 0 0,y7] 202 (0,0)):=heap_set h5 6 _;exact heap_set h6 7 _
  have b2:∀b,b≠M→w3.heap[b]?=wc.heap[b]?:=fun b q=>by
   have hh:∀(V:J) (i:Nat) (u:tT),(V.setCell ⟨M,i,Y⟩ u).heap[b]?=V.heap[b]?:=fun V i u=>FC V ⟨M,i,Y⟩ u b q
   rw[b6,hh,hh,hh,hh,hh,hh];rfl
  have en:w3.heap.size=wc.heap.size:=by rw[b6];simp[World.setCell]
  have gE:w.heap.size≠M:=fun e=>by have:=hy.o M (wD Z);omega
  have c7:Hid (w3.heap[w.heap.size]?=A (r9 #[I tF 4,tS T.h,I U T.u,I U T.t,O p n c] 145 (0,0))):=(b2 _ gE).trans aq;have na:∀b,aZ M [vT,O N rs.length P,O Y 0 0,O Y 0 0,O Y 0 0] b→aZ M [vT,O N rs.length P] b:=fun b q=>by
   rcases q with rfl|⟨v,hv,q⟩
   ·exact wD Z
   ·simp only[Ge,Gc,o9]at hv;rcases hv with rfl|rfl|rfl|rfl|rfl
    ·exact wP ⟨_,by simp,q⟩
    ·exact wP ⟨_,by simp,q⟩
    ·cases q
    ·cases q
    ·cases q
  have nb:Hid (MkW F d M ts rs [] T.h T.u 0 [] [] vT (O N rs.length P) (O Y 0 0) (O Y 0 0) (O Y 0 0) w3):=by
   have nc:∀b,F b→b≠M:=fun b q e=>(b1.o.f b q).2 (wD e)
   have hk:∀b,F b→∀o,wc.heap[b]?=A o→w3.heap[b]?=A o:=fun b q o X=>(b2 b (nc b q)).trans X
   exact⟨fun b q=>⟨by rw[en];exact (b1.o.f b q).1,fun X=>(b1.o.f b q).2 (na b X)⟩,cp,
    b1.o.t.t (fun g G=>b2 g (fun e=>row_ne hm b1.o.t (by decide) (e ▸ G))) hk (fun _ h=>h),
    b1.o.r.t (fun g G=>b2 g (fun e=>row_ne hm b1.o.r (by decide) (e ▸ G))) hk (fun _ h=>h),aw.nil,aw.nil,aw.nil⟩
  have nd:Hid (Chg (aZ M [vT,O N rs.length P]) w w3):=by
   show Chg _ _ _
   rw[b6];exact ((((((Chg.t m1.o.drew).z (p:=⟨M,2,Y⟩) (wD (wD Z)) _).z (p:=⟨M,3,Y⟩) (wD (wD Z)) _).z (p:=⟨M,4,Y⟩) (wD (wD Z)) _).z (p:=⟨M,5,Y⟩) (wD (wD Z)) _).z (p:=⟨M,6,Y⟩) (wD (wD Z)) _).z (p:=⟨M,7,Y⟩) (wD (wD Z)) _
  clear e0 e1 e2 e3 e4 E0 E1 E2 E3 E4 MR fT B hM bl cT bB ar;obtain⟨e0,e1,e2,e3,e4⟩:=cells5 aq;have m2:wc.cell? ⟨M,2,Y⟩=A y2:=by rw[Gk _ _ _ _ _ _ hm];rfl
  have fz:=dR hm;have HM:=Hd hm;clear aq hm cp b2 en;have D0:Hid (wc.drew.setCell ⟨M,2,Y⟩ (O Y 0 0)=(wc.setCell ⟨M,2,Y⟩ (O Y 0 0)).drew):=rfl;go_upto_region 3 with fail
  obtain⟨wa,gF⟩:=zzx (wc.drew.setCell ⟨M,2,Y⟩ (O Y 0 0));have hN:=Hd gF;have gH:∀i,wa.cell? ⟨w.heap.size,i,Y⟩=wc.cell? ⟨w.heap.size,i,Y⟩:=fun i=>by
   unfold World.cell?;rw[gF,FC _ _ _ _ gE];rfl
  have X1:=fun x:RE.Two wc.drew wa=>RE.Two.h (p:=⟨w.heap.size,1,Y⟩) (show wc.drew.cell? ⟨w.heap.size,1,Y⟩=_ from e1) ((gH 1).trans e1) x
  have X2:=fun x:RE.Two wc.drew wa=>RE.Two.h (p:=⟨w.heap.size,2,Y⟩) (show wc.drew.cell? ⟨w.heap.size,2,Y⟩=_ from e2) ((gH 2).trans e2) x
  clear gF gH;refine RE.u (by kernel_rfl) 10 [9] [9] (fun s W=>if s=0 then W=wc.drew else W=wa) (fun _ _=>True) (fun _ _=>wF) (fun _ _ _=>True) (by kernel_rfl) (fun i S h2=>by cases hi:[9].contains i<;>simp_all) (fun _ _ _ _ _ _ _=>trivial) Z ?_
  simp only[FO,FY,FQ,FX]
  repeat (refine RE.q (fun W=>∃x:RE.Two wc.drew wa,W=x.1) RE.two_class Z Z Z Z ?_;go_big_quiet_step (fail);refine xL ?_)
  refine RE.h Z Z ?_ (fun xs=>?_)
  ·intro W hC hS _;obtain rfl:W=wc.drew:=hS Z;refine RE.upon_skip (w':=wc.drew.setCell ⟨M,2,Y⟩ (O Y 0 0)) ?_ ⟨[],Z,hN.o.symm,trivial,trivial⟩;have ng:=tV wc.drew M 2 y2 m2 (fz 2);simp[execOp,Act.eval,ng]
  simp only[xS,Nat.reduceAdd]
  repeat (refine RE.q (fun W=>∃x:RE.Two wc.drew wa,W=x.1) RE.two_class Z Z Z Z ?_;go_big_quiet_step (fail);refine wpQuiet_nil ?_)
  refine RE.t ?_;intro W hS _;have hS:W=wa:=hS;rw[hS,hN.o];clear hS X1 X2;have bm:(wc.drew.setCell ⟨M,2,Y⟩ (O Y 0 0)).heap[M]?=A (r9 #[vT,O N rs.length P,O Y 0 0,y3,y4,y5,y6,y7] 202 (0,0)):=heap_set (show wc.drew.heap[M]?=_ from HM.o) 2 _;obtain⟨wb,hP⟩:=zzx (wc.drew.setCell ⟨M,2,Y⟩ (O Y 0 0));rw[←hP]at bm b6 ⊢;have m3:wb.cell? ⟨M,3,Y⟩=A y3:=by rw[Gk _ _ _ _ _ _ bm];rfl
  have m4:wb.cell? ⟨M,4,Y⟩=A y4:=by rw[Gk _ _ _ _ _ _ bm];rfl
  have m5:wb.cell? ⟨M,5,Y⟩=A y5:=by rw[Gk _ _ _ _ _ _ bm];rfl
  have m6:wb.cell? ⟨M,6,Y⟩=A y6:=by rw[Gk _ _ _ _ _ _ bm];rfl
  have m7:wb.cell? ⟨M,7,Y⟩=A y7:=by rw[Gk _ _ _ _ _ _ bm];rfl
  have fz:=dR bm;clear hP bm D0;go_upto_region 4 with fail
  change Code.wp _ _ _ _ (((((wb.setCell ⟨M,3,Y⟩ (tS T.h)).setCell ⟨M,4,Y⟩ (I U T.u)).setCell ⟨M,5,Y⟩ (I U 0)).setCell ⟨M,6,Y⟩ (O Y 0 0)).setCell ⟨M,7,Y⟩ (O Y 0 0));rw[←b6];clear b6 m3 m4 m5 m6 m7 fz gE;obtain⟨n0,n1,n2,n3,n4⟩:=cells5 c7.o;go_wp2_with fail
  go_loopw [65] (qx F d M ts rs vT (O N rs.length P) T (O p n c) n w) (fun i _=>n-(intOf i).toNat)
  case atStart=>exact⟨0,⟨[],[],[]⟩,F,O Y 0 0,O Y 0 0,O Y 0 0,FR _,Z,Z,FR _,Fy _,Fy _,nb.o,fun _ h=>h,fun _ h=>wD h,(fun v hv g G=>by simp only[Ge,Gc,o9,or_self]at hv;subst hv;cases G),nd.o⟩
  case round =>
   obtain⟨j,s,F',vV,vC,vA,hj,rfl,cq,c8,gL,oc,hQ,eo,et,ba,b9⟩:=hrel;have oe:(0:Int)≤j:=by omega
   obtain⟨hT,C,HSub,cr,ad,e5⟩:=zz6 cq hQ eo et ba b9;have hU:Hid (Below B0 w wr):=Chg.K (Fz B0 w) b9 HO.o cc;have gM:Hid (w.heap.size≤wr.heap.size):=b9.u;clear cq hQ eo et ba b9 n0 n1 n2 n3 n4
   by_cases ni:j<n
   ·have oi:(j:Int)<n:=by omega
    obtain⟨K,hK⟩:∃K,T.z[j]?=A K:=⟨_,FD (by rw[ck.o];exact ni)⟩;have ch:=ft.o.C hU.o;rcases ch with ⟨h0,_⟩|⟨b,off,cap,S,h2,h3,h4,he,h6⟩
    ·rw[h0]at hK;simp at hK
    rw[ck.o]at he h3;injection he with nn _ nr
    subst nn;subst nr;obtain⟨hX,sK,c0,c1,c2,c3,c4,c9⟩:=h6 j K hK;have dd:=mv.o K (FZ hK);have dg:=c9.h;obtain⟨ps,ct,hY⟩:=dg;obtain⟨nk,h7⟩:=zzy (K.z.length);rw[h7]at hY;subst hY;obtain⟨D,bk⟩:=zzx (wr.alloc (r9 #[I tF K.q,tS K.h,I U K.u,I U K.t,O ps nk ct] 145));have y:Gl wr D:=by rw[bk];exact (Fz _ wr).alloc (Fy _) _
    have bn:D.heap[wr.heap.size]?=A (r9 #[I tF K.q,tS K.h,I U K.u,I U K.t,O ps nk ct] 145 (0,0)):=by rw[bk];exact oA wr _
    obtain⟨cu,ih⟩:=zz2 y bn;have ca:B0≤D.heap.size:=FH cc (FH gM.o y.size);have iA:∀b,aZ M [vT,O N rs.length P,vV,vC,vA] b→B0≤b:=fun b q=>by
     rcases qL q with h|⟨v,hv,h⟩
     ·exact HO.o b h
     ·have:=ad.o v hv b h;omega
    obtain⟨b7,cv,gN⟩:=zz3 (CZ F' d M ts rs s.a T.h T.u 0 s.b s.d vT (O N rs.length P) vV vC vA K (O ps nk ct) B0 D (C.o.C y) (by omega) c8 hf dd (c9.C (y.mono (FH cc gM.o))) ca iA) (fun (W:J) (hW:Gl D W) (hm:MkW F' d M ts rs s.a T.h T.u 0 s.b s.d vT (O N rs.length P) vV vC vA W)=>D7 F' d M ts rs s.a T.h T.u 0 s.b s.d vT (O N rs.length P) vV vC vA K (O ps nk ct) B0 W hm (by omega) (by omega) hf dd ((c9.C (y.mono (FH cc gM.o))).C (hW.mono ca)) (FH ca hW.size)) (it (f:=dh d ts) hK hT.o);have iB:=Hd (fun er (h:dh d ts s K=z6 er)=>jq (f:=dh d ts) (l:=T.z) (k:=j+1) (s:=⟨[],[],[]⟩) (e:=er) (gN.o.trans h));have iX:=Hd dd;have cb:Hid (Chg (aZ M [vT,O N rs.length P]) w D):=e5.o.h (Chg.t y);have dn:Hid (∀b,aZ M [vT,O N rs.length P,vV,vC,vA] b→aZ M [vT,O N rs.length P] b∨w.heap.size≤b):=fun b q=>by
     rcases qL q with h|⟨v,hv,h⟩
     ·exact wD h
     ·exact wP (ad.o v hv b h)
    have gO:Hid (w.heap.size≤D.heap.size):=cb.o.u;obtain⟨k0,k1,k2,k3,k4⟩:=cells5 bn;clear hX c9 h6 S h2 h3 h4 dd hK y bn ca iA h7;go_upto_region 7 with fail
    change Code.wp _ _ _ _ (wr.alloc (r9 #[I tF K.q,tS K.h,I U K.u,I U K.t,O ps nk ct] 145));rw[←bk];clear bk c0 c1 c2 c3 c4;go_wp2_with fail
    refine b7.o.mono ?_;rintro e W2 he;unfold rV at he;clear k0 k1 k2 k3 k4
    cases hc:cS K with
    | true =>
     rw[hc]at he;simp only[o4]at he;obtain⟨b8,he⟩:=he
     cases hr:fA d ts s.a K with
     | error er =>
      rw[hr]at he;have he:e=aJ er.1 er.2:=he;subst he;refine⟨Z,dw cb.o b8 dn.o,?_⟩;rw[gD.o,iB.o er (by rw[sF hc iX.o,hr])];rfl
     | ok x =>
      rw[hr]at he;obtain⟨rfl,F2,ns,nt,bb,bq,jj,b3,b4⟩:=he;have HR:Hid (qx F d M ts rs vT (O N rs.length P) T (O (A ⟨b,off,Y⟩) n c) n w (I U ((j+1:Nat):Int)) W2):=by
       refine⟨j+1,⟨x.1,s.b++[x.2],s.d⟩,F2,ns,nt,vA,by omega,Z,?_,Ae hr c8,by rw[FT];simp;omega,by show s.d.length≤j+1;omega,bb,fun b q=>b3 b (HSub.o b q),fun b q=>?_,fun v hv g G=>?_,dw cb.o b8 dn.o⟩
       ·rw[gN.o,sF hc iX.o,hr]
       ·rcases b4 b q with h|h
        ·exact cr.o b h
        ·exact wP (FH gO.o h)
       ·simp only[Ge,Gc,o9]at hv;rcases hv with rfl|rfl|rfl
        ·rcases bq g G with h|h
         ·exact ad.o vV (by simp) g h
         ·exact FH gO.o h
        ·rcases jj g G with h|h
         ·exact ad.o vC (by simp) g h
         ·exact FH gO.o h
        ·exact ad.o v (by simp) g G
      clear bb bq jj b3 b4 b8 hr hc b7 cv;go_wp2_with fail
      refine⟨HR.o,?_⟩;simp[intOf];omega
    | false =>
     rw[hc]at he;simp only[F4,o1]at he;obtain⟨rfl,bl,bb⟩:=he;have j2:=aa bl ih.o (Fx.1 ih.o).1;have cy:Hid (Chg (aZ M [vT,O N rs.length P]) w W2):=cb.o.h (Chg.t bl);have HA:=Hd (cv.o W2 bl bb);have kk:Hid (w.heap.size≤W2.heap.size):=cy.o.u;have kn:=Hd hc;obtain⟨k0,k1,k2,k3,k4⟩:=cells5 j2;clear j2 bl bb hc b7 cv;go_wp2_with fail
     refine HA.o.mono ?_;rintro e W3 ⟨b8,he⟩;clear k0 k1 k2 k3 k4
     cases hr:iQ d ts s.a s.b K with
     | error er =>
      rw[hr]at he;have he:e=aJ er.1 er.2:=he;subst he;refine⟨Z,dw cy.o b8 dn.o,?_⟩;rw[gD.o,iB.o er (by rw[vy kn.o,hr])];rfl
     | ok x =>
      rw[hr]at he;obtain⟨rfl,F2,nu,bb,bq,b3,b4⟩:=he;have HR:Hid (qx F d M ts rs vT (O N rs.length P) T (O (A ⟨b,off,Y⟩) n c) n w (I U ((j+1:Nat):Int)) W3):=by
       refine⟨j+1,⟨s.a,s.b,s.d++[x]⟩,F2,vV,vC,nu,by omega,Z,?_,c8,by show s.b.length≤j+1;omega,by rw[FT];simp;omega,bb,fun b q=>b3 b (HSub.o b q),fun b q=>?_,fun v hv g G=>?_,dw cy.o b8 dn.o⟩
       ·rw[gN.o,vy kn.o,hr]
       ·rcases b4 b q with h|h
        ·exact cr.o b h
        ·exact wP (FH kk.o h)
       ·simp only[Ge,Gc,o9]at hv;rcases hv with rfl|rfl|rfl
        ·exact ad.o v (by simp) g G
        ·exact ad.o v (by simp) g G
        ·rcases bq g G with h|h
         ·exact ad.o vA (by simp) g h
         ·exact FH kk.o h
      clear bb bq b3 b4 b8 hr HA;go_wp2_with fail
      refine⟨HR.o,?_⟩;simp[intOf];omega
   ·have e6:be (dh d ts) ⟨[],[],[]⟩ T.z=xt s:=by
     rw[←hT.o,FW (by rw[ck.o];omega)]
    obtain⟨pV,cV,kv⟩:=C.o.v.q;obtain⟨pC,cC,kI⟩:=C.o.c.q;obtain⟨pA,cA,k5⟩:=C.o.a.q;obtain⟨nv,gS⟩:=zzy (s.a.length);obtain⟨nC,k6⟩:=zzy (s.b.length);obtain⟨nA,k7⟩:=zzy (s.d.length);rw[gS]at kv c8;rw[k6]at kI;rw[k7]at k5;subst kv;subst kI;subst k5;have k8:Hid (eA d ts rs T=xt (rs++[⟨T.h,T.u,(nv:Int),s.b,s.d⟩])):=by
     show _=_
     rw[gD.o,e6]
     show xt (rs++[⟨T.h,T.u,(s.a.length:Int),s.b,s.d⟩])=_
     rw[gS]
    have hm:=C.o.m;obtain⟨D,bk⟩:=zzx (wr.setCell ⟨M,5,Y⟩ (I U (nv:Int)));have cf:D.heap[M]?=A (r9 #[vT,O N rs.length P,O pV nv cV,tS T.h,I U T.u,I U (nv:Int),O pC nC cC,O pA nA cA] 202 (0,0)):=by rw[bk];exact heap_set hm 5 _
    have dt:∀b,b≠M→D.heap[b]?=wr.heap[b]?:=fun b q=>by rw[bk];exact FC wr ⟨M,5,Y⟩ _ b q
    have e7:D.heap.size=wr.heap.size:=by rw[bk];simp[World.setCell]
    have gT:Hid (∀b,(F' b∨(O pC nC cC).ownBlock=A b∨(O pA nA cA).ownBlock=A b)→b<wr.heap.size∧¬aZ M [vT,O N rs.length P] b):=fun b q=>by
     rcases q with q|q|q
     ·exact⟨(C.o.f b q).1,fun X=>(C.o.f b q).2 (by
       rcases X with rfl|⟨v,hv,X⟩
       ·exact wD Z
       ·simp only[Ge,Gc,o9]at hv;rcases hv with rfl|rfl
        ·exact wP ⟨_,by simp,X⟩
        ·exact wP ⟨_,by simp,X⟩)⟩
     ·obtain⟨ds,h⟩:=C.o.c.u q;refine⟨C.o.c.lt q,fun X=>?_⟩;rcases X with rfl|⟨v,hv,X⟩
      ·exact row_ne hm C.o.c (by decide) q
      ·simp only[Ge,Gc,o9]at hv;rcases hv with rfl|rfl
       ·exact row_ne h C.o.t (by decide) X
       ·exact row_ne h C.o.r (by decide) X
     ·obtain⟨ds,h⟩:=C.o.a.u q;refine⟨C.o.a.lt q,fun X=>?_⟩;rcases X with rfl|⟨v,hv,X⟩
      ·exact row_ne hm C.o.a (by decide) q
      ·simp only[Ge,Gc,o9]at hv;rcases hv with rfl|rfl
       ·exact row_ne h C.o.t (by decide) X
       ·exact row_ne h C.o.r (by decide) X
    have bn:∀b,(F' b∨(O pC nC cC).ownBlock=A b∨(O pA nA cA).ownBlock=A b)→∀o,wr.heap[b]?=A o→D.heap[b]?=A o:=fun b q o X=>(dt b (fun e=>(gT.o b q).2 (wD e))).trans X
    have cu:Hid (MkB (fun b=>F' b∨(O pC nC cC).ownBlock=A b∨(O pA nA cA).ownBlock=A b) d M ts rs vT (O N rs.length P) D):=
     ⟨fun b q=>⟨by rw[e7];exact (gT.o b q).1,(gT.o b q).2⟩,⟨_,_,_,_,_,_,cf⟩,
      C.o.t.t (fun g G=>dt g (fun e=>row_ne hm C.o.t (by decide) (e ▸ G))) (fun b q=>bn b (wD q)) (fun _ h=>wD h),
      C.o.r.t (fun g G=>dt g (fun e=>row_ne hm C.o.r (by decide) (e ▸ G))) (fun b q=>bn b (wD q)) (fun _ h=>wD h)⟩
    have nx:Hid ((gu d).h D (fun b=>F' b∨(O pC nC cC).ownBlock=A b∨(O pA nA cA).ownBlock=A b) s.b (O pC nC cC)):=Rd.sb bn (C.o.c.h (fun _ h=>wD h) (fun g G=>wP (wD G)));have ny:Hid ((iU d).h D (fun b=>F' b∨(O pC nC cC).ownBlock=A b∨(O pA nA cA).ownBlock=A b) s.d (O pA nA cA)):=Rd.sb bn (C.o.a.h (fun _ h=>wD h) (fun g G=>wP (wP G)));have k9:Hid (Chg (aZ M [vT,O N rs.length P]) w D):=by show Chg _ _ _;rw[bk];exact e5.o.z (p:=⟨M,5,Y⟩) (wD (wD Z)) _
    have bt:=Hd cf;have m2:wr.cell? ⟨M,2,Y⟩=A (O pV nv cV):=by rw[Gk _ _ _ _ _ _ hm];rfl
    have m5:wr.cell? ⟨M,5,Y⟩=A (I U 0):=by rw[Gk _ _ _ _ _ _ hm];rfl
    have fz:=dR hm;clear e6 gS k6 k7 hm cf dt e7 bn;go_upto_region 11 with fail
    change Code.wp _ _ _ _ (wr.setCell ⟨M,5,Y⟩ (I U (nv:Int)));rw[←bk];clear bk m2 m5 fz;obtain⟨us,ba,gL⟩:=cu.o.r;rw[HN.o]at ba;have ba:D.ownsRow 0 159 5 (O N nR P) nR us:=ba;obtain⟨ha,la⟩:=zz2 ba gL;have lb:D.cell? ⟨M,1,Y⟩=A (O N nR P):=by rw[Gk _ _ _ _ _ _ bt.o,←HN.o];rfl
    have cp:D.cell? ⟨M,3,Y⟩=A (tS T.h):=by rw[Gk _ _ _ _ _ _ bt.o];rfl
    have ld:D.cell? ⟨M,4,Y⟩=A (I U T.u):=by rw[Gk _ _ _ _ _ _ bt.o];rfl
    have cf:D.cell? ⟨M,5,Y⟩=A (I U (nv:Int)):=by rw[Gk _ _ _ _ _ _ bt.o];rfl
    have lf:D.cell? ⟨M,6,Y⟩=A (O pC nC cC):=by rw[Gk _ _ _ _ _ _ bt.o];rfl
    have lr:D.cell? ⟨M,7,Y⟩=A (O pA nA cA):=by rw[Gk _ _ _ _ _ _ bt.o];rfl
    have hK:∀b,b=M→b<D.heap.size∧(O N nR P).ownBlock≠A b:=fun b q=>by
     rw[←HN.o,q];exact⟨cu.o.lt,row_ne bt.o cu.o.r (by decide)⟩
    have l0:=Hd (jp (E:=159) (sz:=5) (row:=us++[tS T.h,I U T.u,I U (nv:Int),O pC nC cC,O pA nA cA]) (K:=fun b=>b=M) hK);have M1:=fun x:Ks D (fun b=>b=M)=>x.h Z lb
    have M3:=fun x:Ks D (fun b=>b=M)=>x.h Z cp
    have M4:=fun x:Ks D (fun b=>b=M)=>x.h Z ld
    have M5:=fun x:Ks D (fun b=>b=M)=>x.h Z cf
    have M6:=fun x:Ks D (fun b=>b=M)=>x.h Z lf
    have M7:=fun x:Ks D (fun b=>b=M)=>x.h Z lr
    clear ba gL hK lb cp ld cf lf lr;refine RE.u (by kernel_rfl) 13 [11,12] [12] (stA 159 5 D N nR P (us++[tS T.h,I U T.u,I U (nv:Int),O pC nC cC,O pA nA cA])) (ApR D) (fun _ z=>z.getD 0 wF) (phA 159 5 D N nR P [tS T.h,I U T.u,I U (nv:Int),O pC nC cC,O pA nA cA] (us++[tS T.h,I U T.u,I U (nv:Int),O pC nC cC,O pA nA cA]) 11 12) (by kernel_rfl) (fun _ _ _ _ _ _ h q=>h.C q) (fun _ _ _ _ h _ hR=>h.t hR) stA.zero ?_;simp only[FO,FY,FQ,FX]
    repeat (refine RE.q (fun W=>∃x:Ks D (fun b=>b=M),W=x.1) (l0.o _) Z Z Z stA.zero ?_;go_big_quiet_step (fail);refine xL ?_)
    refine RE.h Z Z ?_ (fun nT=>?_)
    ·intro W hC hS Q;obtain⟨s9,_,h9⟩:=hC;exact dU uq (vs:=[tS T.h,I U T.u,I U (nv:Int),O pC nC cC,O pA nA cA]) _ Z Z Z h9.u (fun v W' q X=>⟨[v],Z,q,ApR.t q,X⟩)
    simp only[xS,FA,FM,FK,Nat.reduceAdd];refine RE.h Z Z ?_ (fun l1=>?_)
    ·intro W hC hS Q;obtain⟨x,rfl⟩:∃x:Wb D,W=x.1:=hS Z;exact iF uq (p:=N) (n:=nR) (c:=P) (w4:=D) (vs:=[tS T.h,I U T.u,I U (nv:Int),O pC nC cC,O pA nA cA]) (xs:=us) _ _ Z Z (Q 11 nT (by kernel_rfl) Z) Z (by simp[Value.oneCell']) x.2 ha.o (by omega) (fun v' W' S h2 h3=>⟨[v'],Z,S,h2,h3⟩)
    simp only[xS,FA,FM,FK,Nat.reduceAdd];refine RE.t ?_;intro W hS Q;have hS:ApS 159 5 D N nR P (us++[tS T.h,I U T.u,I U (nv:Int),O pC nC cC,O pA nA cA]) W:=hS;have hV:ApV 159 5 D N nR P (us++[tS T.h,I U T.u,I U (nv:Int),O pC nC cC,O pA nA cA]) W (l1.getD 0 wF):=Q 12 l1 Z;obtain⟨g',cap,eg,G,hC,e8⟩:=ju hS hV;rw[eg];have l3:Chg (fun b=>(O N rs.length P).ownBlock=A b) D W:=by rw[HN.o];exact hC
    have bq:(O N rs.length P).ownBlock=A g'∨D.heap.size≤g':=by rw[HN.o];exact G
    have l4:(fh d).at_ D (fun b=>F' b∨(O pC nC cC).ownBlock=A b∨(O pA nA cA).ownBlock=A b) ⟨T.h,T.u,(nv:Int),s.b,s.d⟩ [tS T.h,I U T.u,I U (nv:Int),O pC nC cC,O pA nA cA]:=rX.2 ⟨mn,hl,⟨by show (-9223372036854775808:Int)≤(nv:Int);omega,by show (nv:Int)<9223372036854775808;omega⟩,_,_,Z,nx.o,ny.o⟩;obtain⟨mb,mf,hd⟩:=cu.o.pushR HN.o la.o l4 bq l3 e8;have bm:W.cell? ⟨M,1,Y⟩=A (O N nR P):=by rw[Gk _ _ _ _ _ _ (hd.trans bt.o),←HN.o];rfl
    have oj:=ax (hd.trans bt.o) 1;have HP:Hid (nI F d M ts vT (O N rs.length P) (xt (rs++[⟨T.h,T.u,(nv:Int),s.b,s.d⟩])) w (Ending.returned (y9 #[])) (W.setCell ⟨M,1,Y⟩ (O (A ⟨g',0,Y⟩) (nR+1) cap))):=by
     refine⟨dw k9.o mf (fun x hx=>wD hx),Z,_,_,mb,fun b q=>?_,fun b q=>wD (HSub.o b q),fun b q=>?_⟩
     ·injection q with q
      have q:g'=b:=q;subst q;rcases bq with h|h
      ·exact wD h
      ·have:=k9.o.u;exact wP (by omega)
     ·rcases q with q|q|q
      ·exact cr.o b q
      ·exact wP (ad.o _ (by simp) b q)
      ·exact wP (ad.o _ (by simp) b q)
    clear hS hV Q eg G hC e8 l3 bq mb mf hd M1 M3 M4 M5 M6 M7 l0 l4;go_wp2_with fail
    go_end0
    rw[k8.o];exact HP.o
