/- The rule checker: a rule is made; by contract. Condition: as its parts'. Printed by tools/genWhole.py. -/
import Derived.Test.YtoahnjkclckodaaGreatDoorNK
open Except renaming error→zs,ok→xn
open Go renaming Value→tS,World→J,undef→xk,wpQuiet_nil→xL
open Option renaming some→A,none→Y
open Or renaming inl→wD,inr→wF
open Go.Value renaming tuple→y9,agg→wP,string→r9,int→I,slice→O,pointer→vo
open Go.IntKind renaming i64→U,u8→r8
open Bool renaming false→ur,true→tT
open Go.Obj renaming cells→r7
open Decidable renaming decide→wj
open Go.Act renaming put→xS
namespace Go.Proofs.YtoahnjkclckodaaGreatDoor
set_option maxHeartbeats 16000000
set_option maxRecDepth 100000
open Go.RowKit
def eQ(d:Nat) (types:List am) (rs:List aD) (T:ac):Except Flt (List aD):=
 if (idxOf T.h (rs.map aD.c)).isSome then zs (210,T.C)
 else if T.u < -1000||1000<T.u then zs (2,T.C)
 else if 64≤rs.length||8<fO T.z||8<T.z.length-fO T.z then zs (204,T.C)
 else match aV (cK d types) ⟨[],[],[]⟩ T.z with
  | .error e=>zs e
  | .ok s=>xn (rs++[⟨T.h,T.u,s.b.length,s.a,s.d⟩])
theorem Du(l:List ac):fO l≤l.length:=by
 unfold fO
 induction l with
 | nil=>exact JM _
 | cons z l a =>
  rw[List.takeWhile_cons]
  split
  ·simp only[Kf];omega
  ·simp
theorem sV{M:Nat}{vT vR vV vC vA:tS}{b:Nat}(h:bh M [vT,vR,vV,vC,vA] b):bh M [vT,vR] b∨∃v∈[vV,vC,vA],v.ownBlock=A b:=by
 rcases h with rfl|⟨v,c,a⟩
 ·exact wD (wD Z)
 ·simp only[Kk,Ki,o8]at c;rcases c with rfl|rfl|rfl|rfl|rfl
  ·exact wD (wF ⟨_,by simp,a⟩)
  ·exact wD (wF ⟨_,by simp,a⟩)
  ·exact wF ⟨_,by simp,a⟩
  ·exact wF ⟨_,by simp,a⟩
  ·exact wF ⟨_,by simp,a⟩
theorem uM{b:Bool}:∀(l:List ac) (s s':List ByteArray×List fe),aV (cg b) s l=xn s'→s.1.length≤16→s'.1.length≤16
 | [],s,s',h,c=>by injection h with h;rw[←h];exact c
 | K::l,s,s',h,c=>by
  unfold aV at h
  cases a:cg b s K with
  | error e=>rw[a]at h;cases h
  | ok s1 =>
   rw[a]at h;refine uM l s1 s' h ?_;unfold cg at a
   split at a
   ·injection a with a;rw[←a];exact c
   ·split at a
    ·split at a
     ·injection a with a;rw[←a];exact c
     ·split at a
      ·cases a
      ·split at a
       ·cases a
       ·injection a with a
        rw[←a]
        show (s.1++[K.h]).length≤16
        rw[J2];simp;omega
    ·injection a with a;rw[←a];exact c
theorem Dk{d:Nat}{ts:List am}{vars:List ByteArray}{K:ac}{x:List ByteArray×bj}(h:fZ d ts vars K=xn x)(c:vars.length≤16):x.1.length≤16:=by
 have key:∀(b:Bool) (kd:Int) (f:Except Flt Nat),eh b kd f vars K.z=xn x→x.1.length≤16:=fun b kd f h=>by
  unfold eh at h
  split at h
  ·cases h
  ·cases a:aV (cg b) (vars,[]) K.z with
   | error e=>rw[a]at h;cases h
   | ok r =>
    rw[a]at h;injection h with h
    rw[←h];exact uM K.z (vars,[]) r a c
 unfold fZ at h
 split at h
 ·exact key _ _ _ h
 ·split at h
  ·exact key _ _ _ h
  ·split at h
   ·cases h
   ·unfold kb at h
    split at h
    ·cases h
    ·injection h with h;rw[←h];exact c
def pE(F:Nat→Prop) (d M:Nat) (ts:List am) (vT vR:tS) (r:Except Flt (List aD)) (w:J) (e:Ending) (w':J):Prop:=
 Chg (bh M [vT,vR]) w w'∧match r with
 | .ok c=>e=Ending.returned (y9 #[])∧∃(F':Nat→Prop) (a:tS),MkB F' d M ts c vT a w'∧Grew vR a w.heap.size∧(∀b,F b→F' b)∧∀b,F' b→F b∨w.heap.size≤b
 | .error er=>e=aR er.1 er.2
theorem xr:Elem 159 105 5 80:=Elem.of (z:=wP #[r9 ByteArray.empty,I U 0,I U 0,O Y 0 0,O Y 0 0]) Tryz.underlying105 (by kernel_rfl) (by kernel_rfl) (by decide) (by decide)
def sx(F:Nat→Prop) (d M:Nat) (ts:List am) (rs:List aD) (vT vR:tS) (T:ac) (_sl:tS) (n:Nat) (w:J) (i:tS) (W:J):Prop:=
 ∃(j:Nat) (s:RSt) (F':Nat→Prop) (vV vC vA:tS),j≤n∧i=I U (j:Int)∧aV (cK d ts) ⟨[],[],[]⟩ (T.z.take j)=xn s∧s.b.length≤16∧s.a.length≤j∧s.d.length≤j∧MkW F' d M ts rs s.b T.h T.u 0 s.a s.d vT vR vV vC vA W∧
  (∀b,F b→F' b)∧(∀b,F' b→F b∨w.heap.size≤b)∧(∀v∈[vV,vC,vA],∀g,v.ownBlock=A g→w.heap.size≤g)∧Chg (bh M [vT,vR]) w W
theorem wJ(W:J)(b o:Nat)(u:tS)(a:W.cell? ⟨b,o,Y⟩=A u)(c:W.frozen? ⟨b,o,Y⟩=ur):(Instr.storeAt 200 (vo (A ⟨b,o,Y⟩)) (O Y 0 0)).run Tryz.prog W=.ok () (W.setCell ⟨b,o,Y⟩ (O Y 0 0)):=by simp[Instr.storeAt,Instr.sureAddr,go_sem,a,c]
theorem CX(F:Nat→Prop)(d M:Nat)(ts:List am)(rs:List aD)(vT vR:tS)(T:ac)(p:Option Addr)(n c B0:Nat)(w:J)
  (hw:MkB F d M ts rs vT vR w) (hk:T.q=4) (gT:ts.length≤10000) (l4:rs.length≤10000) (e7:T.z.length=n) (hn:n≤10000) (cf:ax w B0 (d+2) T.z (O p n c)) (cb:B0≤w.heap.size) (hO:∀b,bh M [vT,vR] b→B0≤b)
  (mb:T.h.size≤maxLen) (ha:I64 T.u) (hp:∀K∈T.z,nh d K) :
  Calls Tryz.prog 98 #[vo (A ⟨M,0,Y⟩),wP #[I r8 T.q,r9 T.h,I U T.u,I U T.C,O p n c]] w (pE F d M ts vT vR (eQ d ts rs T) w):=by
 rw[hk];change Calls Tryz.prog 98 #[vo (A ⟨M,0,Y⟩),wP #[I r8 4,r9 T.h,I U T.u,I U T.C,O p n c]] w _;obtain⟨N,P,mf⟩:=hw.r.q;subst mf;obtain⟨nR,cy⟩:=zzy (rs.length);have HN:=Hd cy;rw[cy]at l4;obtain⟨kc,cT⟩:=zzy (fO T.z);have ny:kc≤n:=by rw[←cT,←e7];exact Du _
 obtain⟨e8,hd⟩:=zz2 (fun (W:J) (hW:Kr w W)=>Dj T.z (O p n c) (d+1) W ((cf.C (hW.mono cb)).up (JU cb hW.size)) (by omega)) cT;rw[cT]at e8;obtain⟨w0,cW⟩:=zzx (w.alloc (r7 #[I r8 4,r9 T.h,I U T.u,I U T.C,O p n c] 145));have e9:Kr w w0:=by rw[cW];exact (JO _ w).alloc (JM _) _
 have fm:w0.heap[w.heap.size]?=A (r7 #[I r8 4,r9 T.h,I U T.u,I U T.C,O p n c] 145 (0,0)):=by rw[cW];exact oc w _
 obtain⟨hf,hl,HW,nu,hq⟩:=zz5 fm e9 hw (fun g G=>hw.r.lt (g:=g) G) (fun b q=>hw.h (b:=b) q);have nx:=Hd (fun b (q:F b)=>(hw.f b q).1);obtain⟨fr,ch,HO,mi,hs⟩:=zz5 cf e7 hO hp (e8.o w0 e9);obtain⟨e0,e1,e2,e3,e4⟩:=cells5 fm;clear e9 hw hk cf e7 cT hO hp fm e8
 go_enter Tryz.func98,Tryz.ntmps98
 go_upto_region 1 with fail
 change Code.wp _ _ _ _ (w.alloc (r7 #[I r8 4,r9 T.h,I U T.u,I U T.C,O p n c] 145));rw[←cW];clear cW;go_wp2_with fail
 refine hs.o.mono ?_;rintro e w1 ⟨rfl,fs⟩;have ft:=aa fs hf.o (JL.1 hf.o).1;obtain⟨af,ht⟩:=zz2 (hl.o.trans (fs.mono hl.o.size)) ft;have c5:=Hd (HW.o.C af.o);clear fs e0 e1 e2 e3 e4;obtain⟨e0,e1,e2,e3,e4⟩:=cells5 ft;obtain⟨ix,B⟩:=zzx (eK (idxOf T.h (rs.map aD.c)));have ar:Hid (wj ((0:Int)≤ix)=(idxOf T.h (rs.map aD.c)).isSome):=by
  show _=_
  rw[B]
  cases idxOf T.h (rs.map aD.c) with
  | none=>rfl
  | some k=>show wj ((0:Int)≤(k:Int))=tT;simp
 have bt:=Hd (fun (W:J) (h:Kr w1 W)=>Hr d rs T.h _ _ M W (c5.o.C h).row_r (fun _ h=>h) (c5.o.C h).z.2);rw[←B]at bt;have fv:w1.cell? ⟨M,1,Y⟩=A (O N nR P):=by rw[c5.o.z.2,HN.o]
 have E0:=fun x:Wb w1=>x.h e0
 have E1:=fun x:Wb w1=>x.h e1
 have E2:=fun x:Wb w1=>x.h e2
 have E3:=fun x:Wb w1=>x.h e3
 have E4:=fun x:Wb w1=>x.h e4
 have MR:=fun x:Wb w1=>x.h fv
 clear ft B;have nT:(-9223372036854775808:Int)≤(n:Int)-kc:=by omega
 have n5:(n:Int)-kc<9223372036854775808:=by omega
 go_upto_region 2 with fail
 go_cut [] from 10 to 51 (fun W2=>Kr w1 W2∧(idxOf T.h (rs.map aD.c)).isSome=ur∧(wj (T.u < -1000)||decide (1000<T.u))=ur∧(wj (64≤nR)||decide (8<kc)||decide (8<n-kc))=ur)
 case first =>
  have hy:(idxOf T.h (rs.map aD.c)).isSome=tT→eQ d ts rs T=zs (210,T.C):=fun h=>by unfold eQ;rw[oj h]
  have hz:(idxOf T.h (rs.map aD.c)).isSome=ur→(wj (T.u < -1000)||decide (1000<T.u))=tT→eQ d ts rs T=zs (2,T.C):=fun h h2=>by
   unfold eQ;rw[h,oe (by decide),oj h2]
  have hA:(idxOf T.h (rs.map aD.c)).isSome=ur→(wj (T.u < -1000)||decide (1000<T.u))=ur→(wj (64≤nR)||decide (8<kc)||decide (8<n-kc))=tT→eQ d ts rs T=zs (204,T.C):=fun h h2 h3=>by
   unfold eQ;rw[h,oe (by decide),h2,oe (by decide),oj (by rw[HN.o,hd.o,ch.o];exact h3)]
  obtain⟨a1,a6,b4⟩:=zz3 hy hz hA;clear hy hz hA cy
  by_cases bB:T.u < -1000
  ·have bB:T.u < -1000:=bB;have bR:=Hd bB;have mn:wj (T.u < -1000)=true:=decide_eq_true bB
   by_cases ck:64≤nR
   ·have cl:(64:Int)≤nR:=by omega
    have dt:=Hd ck;refine RE.z (by kernel_rfl) 40 [6,39] [] (fun _ W=>∃x:Wb w1,W=x.1) (fun W W'=>Kr W W') (fun i z=>if i=6 then I U (ix:Int) else z.getD 0 xk) (fun i W z=>if i=39 then cX w1.heap.size [(wj ((0:Int)≤ix),210),(tT,2),(tT,204)] W (z.getD 0 xk) else True) (by kernel_rfl) (fun _ _ _ _ _ _ h q=>du h q) (fun i W W' z h _ q=>by split at h;(rw[oj (by assumption)];exact h.C q);rw[oe (by assumption)];trivial) ⟨⟨w1.drew,(JO _ _).drew⟩,Z⟩ ?_;simp only[JY,J7,JZ,J6]
    repeat (refine RE.q (fun W=>∃x:Wb w1,W=x.1) (fun _ _ _ h=>h) Z Z Z ⟨⟨w1.drew,(JO _ _).drew⟩,Z⟩ ?_;go_big_quiet_step (fail);refine xL ?_)
    refine RE.h Z Z ?_ (fun cm=>?_)
    ·intro W hC _ Q;obtain⟨s9,_,x,rfl⟩:=hC;refine RE.C 129 _ _ Z (enters_of Tryz.func129 (by kernel_rfl) Z) #[vo (A ⟨M,0,Y⟩),r9 T.h] (by simp[Act.eval]) ((bt.o x.1 x.2).mono ?_);rintro e W' ⟨rfl,q⟩;exact⟨_,Z,[],Z,q,q,trivial⟩
    simp only[xS,JP,JW,JV,Nat.reduceAdd,↓reduceIte]
    repeat (refine RE.q (fun W=>∃x:Wb w1,W=x.1) (fun _ _ _ h=>h) Z Z Z ⟨⟨w1.drew,(JO _ _).drew⟩,Z⟩ ?_;go_big_quiet_step (fail);refine xL ?_)
    refine RE.h Z Z ?_ (fun z=>?_)
    ·intro W hC _ Q;obtain⟨s9,_,x,rfl⟩:=hC;exact i4 _ _ _ 210 2 204 _ _ _ Z Z Z Z x.2.size (fun v W' q X=>⟨[v],Z,q,q,X⟩)
    simp only[xS,JP,JW,JV,Nat.reduceAdd,Nat.reduceEqDiff,↓reduceIte];refine RE.u ?_;intro W hS Q;obtain⟨x,rfl⟩:=hS;obtain⟨g,eg,lg,G⟩:cX w1.heap.size [(wj ((0:Int)≤ix),210),(tT,2),(tT,204)] x.1 (z.getD 0 xk):=Q 39 z Z;rw[eg];have bd:=Hd (bZ [(wj ((0:Int)≤ix),210),(tT,2),(tT,204)] 4 T.h T.u T.C (O p n c) g 3 3 x.1 Z (by omega) G);have R:=Hd x.2;clear Q eg lg G E0 E1 E2 E3 E4 MR;go_wp2_with fail
    refine bd.o.mono ?_;rintro e W2 ⟨y,he⟩;have H:=R.o.trans (y.mono R.o.size);clear y;have L:Hid (Kr w W2):=af.o.trans (H.mono af.o.size)
    cases S:wj ((0:Int)≤ix) with
    | true =>
     rw[S]at he;have he:e=aR 210 T.C:=he;subst he;refine⟨Z,Chg.u L.o,?_⟩;rw[a1.o (ar.o.symm.trans S)];rfl
    | false =>
     rw[S]at he;have B:=ar.o.symm.trans S;have he:e=aR 2 T.C:=he;subst he;refine⟨Z,Chg.u L.o,?_⟩;rw[a6.o B (by rw[decide_eq_true bR.o];rfl)];rfl
   ·have cl:¬(64:Int)≤nR:=by omega
    have c6:=Hd ck
    by_cases h8:8<kc
    ·have fI:(8:Int)<kc:=by omega
     have hD:=Hd h8;refine RE.z (by kernel_rfl) 40 [6,39] [] (fun _ W=>∃x:Wb w1,W=x.1) (fun W W'=>Kr W W') (fun i z=>if i=6 then I U (ix:Int) else z.getD 0 xk) (fun i W z=>if i=39 then cX w1.heap.size [(wj ((0:Int)≤ix),210),(tT,2),(tT,204)] W (z.getD 0 xk) else True) (by kernel_rfl) (fun _ _ _ _ _ _ h q=>du h q) (fun i W W' z h _ q=>by split at h;(rw[oj (by assumption)];exact h.C q);rw[oe (by assumption)];trivial) ⟨⟨w1.drew,(JO _ _).drew⟩,Z⟩ ?_;simp only[JY,J7,JZ,J6]
     repeat (refine RE.q (fun W=>∃x:Wb w1,W=x.1) (fun _ _ _ h=>h) Z Z Z ⟨⟨w1.drew,(JO _ _).drew⟩,Z⟩ ?_;go_big_quiet_step (fail);refine xL ?_)
     refine RE.h Z Z ?_ (fun cm=>?_)
     ·intro W hC _ Q;obtain⟨s9,_,x,rfl⟩:=hC;refine RE.C 129 _ _ Z (enters_of Tryz.func129 (by kernel_rfl) Z) #[vo (A ⟨M,0,Y⟩),r9 T.h] (by simp[Act.eval]) ((bt.o x.1 x.2).mono ?_);rintro e W' ⟨rfl,q⟩;exact⟨_,Z,[],Z,q,q,trivial⟩
     simp only[xS,JP,JW,JV,Nat.reduceAdd,↓reduceIte]
     repeat (refine RE.q (fun W=>∃x:Wb w1,W=x.1) (fun _ _ _ h=>h) Z Z Z ⟨⟨w1.drew,(JO _ _).drew⟩,Z⟩ ?_;go_big_quiet_step (fail);refine xL ?_)
     refine RE.h Z Z ?_ (fun z=>?_)
     ·intro W hC _ Q;obtain⟨s9,_,x,rfl⟩:=hC;exact i4 _ _ _ 210 2 204 _ _ _ Z Z Z Z x.2.size (fun v W' q X=>⟨[v],Z,q,q,X⟩)
     simp only[xS,JP,JW,JV,Nat.reduceAdd,Nat.reduceEqDiff,↓reduceIte];refine RE.u ?_;intro W hS Q;obtain⟨x,rfl⟩:=hS;obtain⟨g,eg,lg,G⟩:cX w1.heap.size [(wj ((0:Int)≤ix),210),(tT,2),(tT,204)] x.1 (z.getD 0 xk):=Q 39 z Z;rw[eg];have bd:=Hd (bZ [(wj ((0:Int)≤ix),210),(tT,2),(tT,204)] 4 T.h T.u T.C (O p n c) g 3 3 x.1 Z (by omega) G);have R:=Hd x.2;clear Q eg lg G E0 E1 E2 E3 E4 MR;go_wp2_with fail
     refine bd.o.mono ?_;rintro e W2 ⟨y,he⟩;have H:=R.o.trans (y.mono R.o.size);clear y;have L:Hid (Kr w W2):=af.o.trans (H.mono af.o.size)
     cases S:wj ((0:Int)≤ix) with
     | true =>
      rw[S]at he;have he:e=aR 210 T.C:=he;subst he;refine⟨Z,Chg.u L.o,?_⟩;rw[a1.o (ar.o.symm.trans S)];rfl
     | false =>
      rw[S]at he;have B:=ar.o.symm.trans S;have he:e=aR 2 T.C:=he;subst he;refine⟨Z,Chg.u L.o,?_⟩;rw[a6.o B (by rw[decide_eq_true bR.o];rfl)];rfl
    ·have fI:¬(8:Int)<kc:=by omega
     have hG:=Hd h8;refine RE.z (by kernel_rfl) 40 [6,39] [] (fun _ W=>∃x:Wb w1,W=x.1) (fun W W'=>Kr W W') (fun i z=>if i=6 then I U (ix:Int) else z.getD 0 xk) (fun i W z=>if i=39 then cX w1.heap.size [(wj ((0:Int)≤ix),210),(tT,2),(wj ((8:Int)<(n:Int)-kc),204)] W (z.getD 0 xk) else True) (by kernel_rfl) (fun _ _ _ _ _ _ h q=>du h q) (fun i W W' z h _ q=>by split at h;(rw[oj (by assumption)];exact h.C q);rw[oe (by assumption)];trivial) ⟨⟨w1.drew,(JO _ _).drew⟩,Z⟩ ?_;simp only[JY,J7,JZ,J6]
     repeat (refine RE.q (fun W=>∃x:Wb w1,W=x.1) (fun _ _ _ h=>h) Z Z Z ⟨⟨w1.drew,(JO _ _).drew⟩,Z⟩ ?_;go_big_quiet_step (fail);refine xL ?_)
     refine RE.h Z Z ?_ (fun cm=>?_)
     ·intro W hC _ Q;obtain⟨s9,_,x,rfl⟩:=hC;refine RE.C 129 _ _ Z (enters_of Tryz.func129 (by kernel_rfl) Z) #[vo (A ⟨M,0,Y⟩),r9 T.h] (by simp[Act.eval]) ((bt.o x.1 x.2).mono ?_);rintro e W' ⟨rfl,q⟩;exact⟨_,Z,[],Z,q,q,trivial⟩
     simp only[xS,JP,JW,JV,Nat.reduceAdd,↓reduceIte]
     repeat (refine RE.q (fun W=>∃x:Wb w1,W=x.1) (fun _ _ _ h=>h) Z Z Z ⟨⟨w1.drew,(JO _ _).drew⟩,Z⟩ ?_;go_big_quiet_step (fail);refine xL ?_)
     refine RE.h Z Z ?_ (fun z=>?_)
     ·intro W hC _ Q;obtain⟨s9,_,x,rfl⟩:=hC;exact i4 _ _ _ 210 2 204 _ _ _ Z Z Z Z x.2.size (fun v W' q X=>⟨[v],Z,q,q,X⟩)
     simp only[xS,JP,JW,JV,Nat.reduceAdd,Nat.reduceEqDiff,↓reduceIte];refine RE.u ?_;intro W hS Q;obtain⟨x,rfl⟩:=hS;obtain⟨g,eg,lg,G⟩:cX w1.heap.size [(wj ((0:Int)≤ix),210),(tT,2),(wj ((8:Int)<(n:Int)-kc),204)] x.1 (z.getD 0 xk):=Q 39 z Z;rw[eg];have bd:=Hd (bZ [(wj ((0:Int)≤ix),210),(tT,2),(wj ((8:Int)<(n:Int)-kc),204)] 4 T.h T.u T.C (O p n c) g 3 3 x.1 Z (by omega) G);have R:=Hd x.2;clear Q eg lg G E0 E1 E2 E3 E4 MR;go_wp2_with fail
     refine bd.o.mono ?_;rintro e W2 ⟨y,he⟩;have H:=R.o.trans (y.mono R.o.size);clear y;have L:Hid (Kr w W2):=af.o.trans (H.mono af.o.size)
     cases S:wj ((0:Int)≤ix) with
     | true =>
      rw[S]at he;have he:e=aR 210 T.C:=he;subst he;refine⟨Z,Chg.u L.o,?_⟩;rw[a1.o (ar.o.symm.trans S)];rfl
     | false =>
      rw[S]at he;have B:=ar.o.symm.trans S;have he:e=aR 2 T.C:=he;subst he;refine⟨Z,Chg.u L.o,?_⟩;rw[a6.o B (by rw[decide_eq_true bR.o];rfl)];rfl
  ·have bB:¬T.u < -1000:=bB;have bR:=Hd bB;have mn:wj (T.u < -1000)=false:=oE bB
   by_cases ck:64≤nR
   ·have cl:(64:Int)≤nR:=by omega
    have dt:=Hd ck;refine RE.z (by kernel_rfl) 40 [6,39] [] (fun _ W=>∃x:Wb w1,W=x.1) (fun W W'=>Kr W W') (fun i z=>if i=6 then I U (ix:Int) else z.getD 0 xk) (fun i W z=>if i=39 then cX w1.heap.size [(wj ((0:Int)≤ix),210),(wj ((1000:Int)<T.u),2),(tT,204)] W (z.getD 0 xk) else True) (by kernel_rfl) (fun _ _ _ _ _ _ h q=>du h q) (fun i W W' z h _ q=>by split at h;(rw[oj (by assumption)];exact h.C q);rw[oe (by assumption)];trivial) ⟨⟨w1.drew,(JO _ _).drew⟩,Z⟩ ?_;simp only[JY,J7,JZ,J6]
    repeat (refine RE.q (fun W=>∃x:Wb w1,W=x.1) (fun _ _ _ h=>h) Z Z Z ⟨⟨w1.drew,(JO _ _).drew⟩,Z⟩ ?_;go_big_quiet_step (fail);refine xL ?_)
    refine RE.h Z Z ?_ (fun cm=>?_)
    ·intro W hC _ Q;obtain⟨s9,_,x,rfl⟩:=hC;refine RE.C 129 _ _ Z (enters_of Tryz.func129 (by kernel_rfl) Z) #[vo (A ⟨M,0,Y⟩),r9 T.h] (by simp[Act.eval]) ((bt.o x.1 x.2).mono ?_);rintro e W' ⟨rfl,q⟩;exact⟨_,Z,[],Z,q,q,trivial⟩
    simp only[xS,JP,JW,JV,Nat.reduceAdd,↓reduceIte]
    repeat (refine RE.q (fun W=>∃x:Wb w1,W=x.1) (fun _ _ _ h=>h) Z Z Z ⟨⟨w1.drew,(JO _ _).drew⟩,Z⟩ ?_;go_big_quiet_step (fail);refine xL ?_)
    refine RE.h Z Z ?_ (fun z=>?_)
    ·intro W hC _ Q;obtain⟨s9,_,x,rfl⟩:=hC;exact i4 _ _ _ 210 2 204 _ _ _ Z Z Z Z x.2.size (fun v W' q X=>⟨[v],Z,q,q,X⟩)
    simp only[xS,JP,JW,JV,Nat.reduceAdd,Nat.reduceEqDiff,↓reduceIte];refine RE.u ?_;intro W hS Q;obtain⟨x,rfl⟩:=hS;obtain⟨g,eg,lg,G⟩:cX w1.heap.size [(wj ((0:Int)≤ix),210),(wj ((1000:Int)<T.u),2),(tT,204)] x.1 (z.getD 0 xk):=Q 39 z Z;rw[eg];have bd:=Hd (bZ [(wj ((0:Int)≤ix),210),(wj ((1000:Int)<T.u),2),(tT,204)] 4 T.h T.u T.C (O p n c) g 3 3 x.1 Z (by omega) G);have R:=Hd x.2;clear Q eg lg G E0 E1 E2 E3 E4 MR;go_wp2_with fail
    refine bd.o.mono ?_;rintro e W2 ⟨y,he⟩;have H:=R.o.trans (y.mono R.o.size);clear y;have L:Hid (Kr w W2):=af.o.trans (H.mono af.o.size)
    cases S:wj ((0:Int)≤ix) with
    | true =>
     rw[S]at he;have he:e=aR 210 T.C:=he;subst he;refine⟨Z,Chg.u L.o,?_⟩;rw[a1.o (ar.o.symm.trans S)];rfl
    | false =>
     rw[S]at he;have B:=ar.o.symm.trans S
     cases h2:wj ((1000:Int)<T.u) with
     | true =>
      rw[h2]at he;have he:e=aR 2 T.C:=he;subst he;refine⟨Z,Chg.u L.o,?_⟩;rw[a6.o B (by rw[show wj (1000<T.u)=tT from h2,Bool.or_true])];rfl
     | false =>
      rw[h2]at he;have aq:(wj (T.u < -1000)||decide (1000<T.u))=false:=by rw[oE (show ¬T.u < -1000 by have:=bR.o;omega),show wj (1000<T.u)=ur from h2];rfl
      have he:e=aR 204 T.C:=he;subst he;refine⟨Z,Chg.u L.o,?_⟩;rw[b4.o B aq (by rw[decide_eq_true dt.o];rfl)];rfl
   ·have cl:¬(64:Int)≤nR:=by omega
    have c6:=Hd ck
    by_cases h8:8<kc
    ·have fI:(8:Int)<kc:=by omega
     have hD:=Hd h8;refine RE.z (by kernel_rfl) 40 [6,39] [] (fun _ W=>∃x:Wb w1,W=x.1) (fun W W'=>Kr W W') (fun i z=>if i=6 then I U (ix:Int) else z.getD 0 xk) (fun i W z=>if i=39 then cX w1.heap.size [(wj ((0:Int)≤ix),210),(wj ((1000:Int)<T.u),2),(tT,204)] W (z.getD 0 xk) else True) (by kernel_rfl) (fun _ _ _ _ _ _ h q=>du h q) (fun i W W' z h _ q=>by split at h;(rw[oj (by assumption)];exact h.C q);rw[oe (by assumption)];trivial) ⟨⟨w1.drew,(JO _ _).drew⟩,Z⟩ ?_;simp only[JY,J7,JZ,J6]
     repeat (refine RE.q (fun W=>∃x:Wb w1,W=x.1) (fun _ _ _ h=>h) Z Z Z ⟨⟨w1.drew,(JO _ _).drew⟩,Z⟩ ?_;go_big_quiet_step (fail);refine xL ?_)
     refine RE.h Z Z ?_ (fun cm=>?_)
     ·intro W hC _ Q;obtain⟨s9,_,x,rfl⟩:=hC;refine RE.C 129 _ _ Z (enters_of Tryz.func129 (by kernel_rfl) Z) #[vo (A ⟨M,0,Y⟩),r9 T.h] (by simp[Act.eval]) ((bt.o x.1 x.2).mono ?_);rintro e W' ⟨rfl,q⟩;exact⟨_,Z,[],Z,q,q,trivial⟩
     simp only[xS,JP,JW,JV,Nat.reduceAdd,↓reduceIte]
     repeat (refine RE.q (fun W=>∃x:Wb w1,W=x.1) (fun _ _ _ h=>h) Z Z Z ⟨⟨w1.drew,(JO _ _).drew⟩,Z⟩ ?_;go_big_quiet_step (fail);refine xL ?_)
     refine RE.h Z Z ?_ (fun z=>?_)
     ·intro W hC _ Q;obtain⟨s9,_,x,rfl⟩:=hC;exact i4 _ _ _ 210 2 204 _ _ _ Z Z Z Z x.2.size (fun v W' q X=>⟨[v],Z,q,q,X⟩)
     simp only[xS,JP,JW,JV,Nat.reduceAdd,Nat.reduceEqDiff,↓reduceIte];refine RE.u ?_;intro W hS Q;obtain⟨x,rfl⟩:=hS;obtain⟨g,eg,lg,G⟩:cX w1.heap.size [(wj ((0:Int)≤ix),210),(wj ((1000:Int)<T.u),2),(tT,204)] x.1 (z.getD 0 xk):=Q 39 z Z;rw[eg];have bd:=Hd (bZ [(wj ((0:Int)≤ix),210),(wj ((1000:Int)<T.u),2),(tT,204)] 4 T.h T.u T.C (O p n c) g 3 3 x.1 Z (by omega) G);have R:=Hd x.2;clear Q eg lg G E0 E1 E2 E3 E4 MR;go_wp2_with fail
     refine bd.o.mono ?_;rintro e W2 ⟨y,he⟩;have H:=R.o.trans (y.mono R.o.size);clear y;have L:Hid (Kr w W2):=af.o.trans (H.mono af.o.size)
     cases S:wj ((0:Int)≤ix) with
     | true =>
      rw[S]at he;have he:e=aR 210 T.C:=he;subst he;refine⟨Z,Chg.u L.o,?_⟩;rw[a1.o (ar.o.symm.trans S)];rfl
     | false =>
      rw[S]at he;have B:=ar.o.symm.trans S
      cases h2:wj ((1000:Int)<T.u) with
      | true =>
       rw[h2]at he;have he:e=aR 2 T.C:=he;subst he;refine⟨Z,Chg.u L.o,?_⟩;rw[a6.o B (by rw[show wj (1000<T.u)=tT from h2,Bool.or_true])];rfl
      | false =>
       rw[h2]at he;have aq:(wj (T.u < -1000)||decide (1000<T.u))=false:=by rw[oE (show ¬T.u < -1000 by have:=bR.o;omega),show wj (1000<T.u)=ur from h2];rfl
       have he:e=aR 204 T.C:=he;subst he;refine⟨Z,Chg.u L.o,?_⟩;rw[b4.o B aq (by rw[decide_eq_true hD.o,Bool.or_true];rfl)];rfl
    ·have fI:¬(8:Int)<kc:=by omega
     have hG:=Hd h8;refine RE.z (by kernel_rfl) 40 [6,39] [] (fun _ W=>∃x:Wb w1,W=x.1) (fun W W'=>Kr W W') (fun i z=>if i=6 then I U (ix:Int) else z.getD 0 xk) (fun i W z=>if i=39 then cX w1.heap.size [(wj ((0:Int)≤ix),210),(wj ((1000:Int)<T.u),2),(wj ((8:Int)<(n:Int)-kc),204)] W (z.getD 0 xk) else True) (by kernel_rfl) (fun _ _ _ _ _ _ h q=>du h q) (fun i W W' z h _ q=>by split at h;(rw[oj (by assumption)];exact h.C q);rw[oe (by assumption)];trivial) ⟨⟨w1.drew,(JO _ _).drew⟩,Z⟩ ?_;simp only[JY,J7,JZ,J6]
     repeat (refine RE.q (fun W=>∃x:Wb w1,W=x.1) (fun _ _ _ h=>h) Z Z Z ⟨⟨w1.drew,(JO _ _).drew⟩,Z⟩ ?_;go_big_quiet_step (fail);refine xL ?_)
     refine RE.h Z Z ?_ (fun cm=>?_)
     ·intro W hC _ Q;obtain⟨s9,_,x,rfl⟩:=hC;refine RE.C 129 _ _ Z (enters_of Tryz.func129 (by kernel_rfl) Z) #[vo (A ⟨M,0,Y⟩),r9 T.h] (by simp[Act.eval]) ((bt.o x.1 x.2).mono ?_);rintro e W' ⟨rfl,q⟩;exact⟨_,Z,[],Z,q,q,trivial⟩
     simp only[xS,JP,JW,JV,Nat.reduceAdd,↓reduceIte]
     repeat (refine RE.q (fun W=>∃x:Wb w1,W=x.1) (fun _ _ _ h=>h) Z Z Z ⟨⟨w1.drew,(JO _ _).drew⟩,Z⟩ ?_;go_big_quiet_step (fail);refine xL ?_)
     refine RE.h Z Z ?_ (fun z=>?_)
     ·intro W hC _ Q;obtain⟨s9,_,x,rfl⟩:=hC;exact i4 _ _ _ 210 2 204 _ _ _ Z Z Z Z x.2.size (fun v W' q X=>⟨[v],Z,q,q,X⟩)
     simp only[xS,JP,JW,JV,Nat.reduceAdd,Nat.reduceEqDiff,↓reduceIte];refine RE.u ?_;intro W hS Q;obtain⟨x,rfl⟩:=hS;obtain⟨g,eg,lg,G⟩:cX w1.heap.size [(wj ((0:Int)≤ix),210),(wj ((1000:Int)<T.u),2),(wj ((8:Int)<(n:Int)-kc),204)] x.1 (z.getD 0 xk):=Q 39 z Z;rw[eg];have bd:=Hd (bZ [(wj ((0:Int)≤ix),210),(wj ((1000:Int)<T.u),2),(wj ((8:Int)<(n:Int)-kc),204)] 4 T.h T.u T.C (O p n c) g 3 3 x.1 Z (by omega) G);have R:=Hd x.2;clear Q eg lg G E0 E1 E2 E3 E4 MR;go_wp2_with fail
     refine bd.o.mono ?_;rintro e W2 ⟨y,he⟩;have H:=R.o.trans (y.mono R.o.size);clear y;have L:Hid (Kr w W2):=af.o.trans (H.mono af.o.size)
     cases S:wj ((0:Int)≤ix) with
     | true =>
      rw[S]at he;have he:e=aR 210 T.C:=he;subst he;refine⟨Z,Chg.u L.o,?_⟩;rw[a1.o (ar.o.symm.trans S)];rfl
     | false =>
      rw[S]at he;have B:=ar.o.symm.trans S
      cases h2:wj ((1000:Int)<T.u) with
      | true =>
       rw[h2]at he;have he:e=aR 2 T.C:=he;subst he;refine⟨Z,Chg.u L.o,?_⟩;rw[a6.o B (by rw[show wj (1000<T.u)=tT from h2,Bool.or_true])];rfl
      | false =>
       rw[h2]at he;have aq:(wj (T.u < -1000)||decide (1000<T.u))=false:=by rw[oE (show ¬T.u < -1000 by have:=bR.o;omega),show wj (1000<T.u)=ur from h2];rfl
       cases h3:wj ((8:Int)<(n:Int)-kc) with
       | true =>
        rw[h3]at he;have fT:8<n-kc:=by have:=o1 h3;omega
        have he:e=aR 204 T.C:=he;subst he;refine⟨Z,Chg.u L.o,?_⟩;rw[b4.o B aq (by rw[decide_eq_true fT,Bool.or_true])];rfl
       | false =>
        rw[h3]at he;have fT:¬8<n-kc:=by have:=q5 h3;omega
        have he:e=Ending.returned (y9 #[]):=he;subst he;have HP:Hid (Kr w1 W2∧(idxOf T.h (rs.map aD.c)).isSome=ur∧(wj (T.u < -1000)||decide (1000<T.u))=ur∧(wj (64≤nR)||decide (8<kc)||decide (8<n-kc))=ur):=⟨H,B,aq,by rw[oE fT,oE c6.o,oE hG.o];rfl⟩;clear S h2 h3 he H e0 e1 e2 e3 e4 fv aq B;go_wp2_with fail
        go_meet
        case rel=>exact HP.o
 case rest =>
  obtain⟨bk,B,aq,hI⟩:=hcut;have gf:Hid (eQ d ts rs T=match aV (cK d ts) ⟨[],[],[]⟩ T.z with | .error e=>zs e | .ok s=>xn (rs++[⟨T.h,T.u,s.b.length,s.a,s.d⟩])):=by
   show _=_
   unfold eQ;rw[B,oe (by decide),aq,oe (by decide),oe (by rw[HN.o,hd.o,ch.o,hI];decide)]
  obtain⟨mu,b0⟩:=zz2 (af.o.trans (bk.mono af.o.size)) (c5.o.C bk);have aq:=aa bk ht.o (JL.1 ht.o).1;have bR:=Hd aq;obtain⟨y2,y3,y4,y5,y6,y7,hm⟩:=b0.o.m;obtain⟨w3,b5⟩:=zzx (((((((wc.drew.setCell ⟨M,2,Y⟩ (O Y 0 0)).setCell ⟨M,3,Y⟩ (r9 T.h)).setCell ⟨M,4,Y⟩ (I U T.u)).setCell ⟨M,5,Y⟩ (I U 0)).setCell ⟨M,6,Y⟩ (O Y 0 0)).setCell ⟨M,7,Y⟩ (O Y 0 0)));have cn:w3.heap[M]?=A (r7 #[vT,O N rs.length P,O Y 0 0,r9 T.h,I U T.u,I U 0,O Y 0 0,O Y 0 0] 202 (0,0)):=by
   rw[b5];have h2:(wc.drew.setCell ⟨M,2,Y⟩ (O Y 0 0)).heap[M]?=A (r7 #[vT,O N rs.length P,O Y 0 0,y3,y4,y5,y6,y7] 202 (0,0)):=heap_set hm 2 _;have h3:((wc.drew.setCell ⟨M,2,Y⟩ (O Y 0 0)).setCell ⟨M,3,Y⟩ (r9 T.h)).heap[M]?=A (r7 #[vT,O N rs.length P,O Y 0 0,r9 T.h,y4,y5,y6,y7] 202 (0,0)):=heap_set h2 3 _;have h4:(((wc.drew.setCell ⟨M,2,Y⟩ (O Y 0 0)).setCell ⟨M,3,Y⟩ (r9 T.h)).setCell ⟨M,4,Y⟩ (I U T.u)).heap[M]?=A (r7 #[vT,O N rs.length P,O Y 0 0,r9 T.h,I U T.u,y5,y6,y7] 202 (0,0)):=heap_set h3 4 _;have h5:((((wc.drew.setCell ⟨M,2,Y⟩ (O Y 0 0)).setCell ⟨M,3,Y⟩ (r9 T.h)).setCell ⟨M,4,Y⟩ (I U T.u)).setCell ⟨M,5,Y⟩ (I U 0)).heap[M]?=A (r7 #[vT,O N rs.length P,O Y 0 0,r9 T.h,I U T.u,I U 0,y6,y7] 202 (0,0)):=heap_set h4 5 _;have h6:(((((wc.drew.setCell ⟨M,2,Y⟩ (O Y 0 0)).setCell ⟨M,3,Y⟩ (r9 T.h)).setCell ⟨M,4,Y⟩ (I U T.u)).setCell ⟨M,5,Y⟩ (I U 0)).setCell ⟨M,6,Y⟩ (O Y 0 0)).heap[M]?=A (r7 #[vT,O N rs.length P,O Y 0 0,r9 T.h,I U T.u,I U 0,O Y 0 0,y7] 202 (0,0)):=heap_set h5 6 _;exact heap_set h6 7 _
  have b1:∀b,b≠M→w3.heap[b]?=wc.heap[b]?:=fun b q=>by
   have hh:∀(V:J) (i:Nat) (u:tS),(V.setCell ⟨M,i,Y⟩ u).heap[b]?=V.heap[b]?:=fun V i u=>JQ V ⟨M,i,Y⟩ u b q
   rw[b5,hh,hh,hh,hh,hh,hh];rfl
  have dv:w3.heap.size=wc.heap.size:=by rw[b5];simp[World.setCell]
  have gg:w.heap.size≠M:=fun e=>by have:=hq.o M (wD Z);omega
  have c6:Hid (w3.heap[w.heap.size]?=A (r7 #[I r8 4,r9 T.h,I U T.u,I U T.C,O p n c] 145 (0,0))):=(b1 _ gg).trans aq;have mv:∀b,bh M [vT,O N rs.length P,O Y 0 0,O Y 0 0,O Y 0 0] b→bh M [vT,O N rs.length P] b:=fun b q=>by
   rcases q with rfl|⟨v,hv,q⟩
   ·exact wD Z
   ·simp only[Kk,Ki,o8]at hv;rcases hv with rfl|rfl|rfl|rfl|rfl
    ·exact wF ⟨_,by simp,q⟩
    ·exact wF ⟨_,by simp,q⟩
    ·cases q
    ·cases q
    ·cases q
  have m0:Hid (MkW F d M ts rs [] T.h T.u 0 [] [] vT (O N rs.length P) (O Y 0 0) (O Y 0 0) (O Y 0 0) w3):=by
   have m1:∀b,F b→b≠M:=fun b q e=>(b0.o.f b q).2 (wD e)
   have hk:∀b,F b→∀o,wc.heap[b]?=A o→w3.heap[b]?=A o:=fun b q o X=>(b1 b (m1 b q)).trans X
   exact⟨fun b q=>⟨by rw[dv];exact (b0.o.f b q).1,fun X=>(b0.o.f b q).2 (mv b X)⟩,cn,
    b0.o.t.K (fun g G=>b1 g (fun e=>row_ne hm b0.o.t (by decide) (e ▸ G))) hk (fun _ h=>h),
    b0.o.r.K (fun g G=>b1 g (fun e=>row_ne hm b0.o.r (by decide) (e ▸ G))) hk (fun _ h=>h),aA.nil,aA.nil,aA.nil⟩
  have m9:Hid (Chg (bh M [vT,O N rs.length P]) w w3):=by
   show Chg _ _ _
   rw[b5];exact ((((((Chg.u mu.o.drew).K (p:=⟨M,2,Y⟩) (wD (wD Z)) _).K (p:=⟨M,3,Y⟩) (wD (wD Z)) _).K (p:=⟨M,4,Y⟩) (wD (wD Z)) _).K (p:=⟨M,5,Y⟩) (wD (wD Z)) _).K (p:=⟨M,6,Y⟩) (wD (wD Z)) _).K (p:=⟨M,7,Y⟩) (wD (wD Z)) _
  clear e0 e1 e2 e3 e4 E0 E1 E2 E3 E4 MR fv B hI bk cy bt ar;obtain⟨e0,e1,e2,e3,e4⟩:=cells5 aq;have m2:wc.cell? ⟨M,2,Y⟩=A y2:=by rw[Kq _ _ _ _ _ _ hm];rfl
  have fz:=ee hm;have HM:=Hd hm;clear aq hm cn b1 dv;have D0:Hid (wc.drew.setCell ⟨M,2,Y⟩ (O Y 0 0)=(wc.setCell ⟨M,2,Y⟩ (O Y 0 0)).drew):=rfl;go_upto_region 3 with fail
  obtain⟨wa,gr⟩:=zzx (wc.drew.setCell ⟨M,2,Y⟩ (O Y 0 0));have hJ:=Hd gr;have gD:∀i,wa.cell? ⟨w.heap.size,i,Y⟩=wc.cell? ⟨w.heap.size,i,Y⟩:=fun i=>by
   unfold World.cell?;rw[gr,JQ _ _ _ _ gg];rfl
  have X1:=fun x:RE.Two wc.drew wa=>RE.Two.h (p:=⟨w.heap.size,1,Y⟩) (show wc.drew.cell? ⟨w.heap.size,1,Y⟩=_ from e1) ((gD 1).trans e1) x
  have X2:=fun x:RE.Two wc.drew wa=>RE.Two.h (p:=⟨w.heap.size,2,Y⟩) (show wc.drew.cell? ⟨w.heap.size,2,Y⟩=_ from e2) ((gD 2).trans e2) x
  clear gr gD;refine RE.z (by kernel_rfl) 10 [9] [9] (fun s W=>if s=0 then W=wc.drew else W=wa) (fun _ _=>True) (fun _ _=>xk) (fun _ _ _=>True) (by kernel_rfl) (fun i S h2=>by cases hi:[9].contains i<;>simp_all) (fun _ _ _ _ _ _ _=>trivial) Z ?_
  simp only[JY,J7,JZ,J6]
  repeat (refine RE.q (fun W=>∃x:RE.Two wc.drew wa,W=x.1) RE.two_class Z Z Z Z ?_;go_big_quiet_step (fail);refine xL ?_)
  refine RE.h Z Z ?_ (fun xs=>?_)
  ·intro W hC hS _;obtain rfl:W=wc.drew:=hS Z;refine RE.upon_skip (w':=wc.drew.setCell ⟨M,2,Y⟩ (O Y 0 0)) ?_ ⟨[],Z,hJ.o.symm,trivial,trivial⟩;have na:=wJ wc.drew M 2 y2 m2 (fz 2);simp[execOp,Act.eval,na]
  simp only[xS,Nat.reduceAdd]
  repeat (refine RE.q (fun W=>∃x:RE.Two wc.drew wa,W=x.1) RE.two_class Z Z Z Z ?_;go_big_quiet_step (fail);refine wpQuiet_nil ?_)
  refine RE.u ?_;intro W hS _;have hS:W=wa:=hS;rw[hS,hJ.o];clear hS X1 X2;have bl:(wc.drew.setCell ⟨M,2,Y⟩ (O Y 0 0)).heap[M]?=A (r7 #[vT,O N rs.length P,O Y 0 0,y3,y4,y5,y6,y7] 202 (0,0)):=heap_set (show wc.drew.heap[M]?=_ from HM.o) 2 _;obtain⟨wb,hL⟩:=zzx (wc.drew.setCell ⟨M,2,Y⟩ (O Y 0 0));rw[←hL]at bl b5 ⊢;have m3:wb.cell? ⟨M,3,Y⟩=A y3:=by rw[Kq _ _ _ _ _ _ bl];rfl
  have m4:wb.cell? ⟨M,4,Y⟩=A y4:=by rw[Kq _ _ _ _ _ _ bl];rfl
  have m5:wb.cell? ⟨M,5,Y⟩=A y5:=by rw[Kq _ _ _ _ _ _ bl];rfl
  have m6:wb.cell? ⟨M,6,Y⟩=A y6:=by rw[Kq _ _ _ _ _ _ bl];rfl
  have m7:wb.cell? ⟨M,7,Y⟩=A y7:=by rw[Kq _ _ _ _ _ _ bl];rfl
  have fz:=ee bl;clear hL bl D0;go_upto_region 4 with fail
  change Code.wp _ _ _ _ (((((wb.setCell ⟨M,3,Y⟩ (r9 T.h)).setCell ⟨M,4,Y⟩ (I U T.u)).setCell ⟨M,5,Y⟩ (I U 0)).setCell ⟨M,6,Y⟩ (O Y 0 0)).setCell ⟨M,7,Y⟩ (O Y 0 0));rw[←b5];clear b5 m3 m4 m5 m6 m7 fz gg;obtain⟨n0,n1,n2,n3,n4⟩:=cells5 c6.o;go_wp2_with fail
  go_loopw [65] (sx F d M ts rs vT (O N rs.length P) T (O p n c) n w) (fun i _=>n-(intOf i).toNat)
  case atStart=>exact⟨0,⟨[],[],[]⟩,F,O Y 0 0,O Y 0 0,O Y 0 0,J0 _,Z,Z,J0 _,JM _,JM _,m0.o,fun _ h=>h,fun _ h=>wD h,(fun v hv g G=>by simp only[Kk,Ki,o8,or_self]at hv;subst hv;cases G),m9.o⟩
  case round =>
   obtain⟨j,s,F',vV,vC,vA,hj,rfl,cp,c7,gE,n6,hM,ef,en,ba,b8⟩:=hrel;have n7:(0:Int)≤j:=by omega
   obtain⟨hN,C,HSub,cq,ad,eo⟩:=zz6 cp hM ef en ba b8;have hP:Hid (Below B0 w wr):=Chg.X (JO B0 w) b8 HO.o cb;have gF:Hid (w.heap.size≤wr.heap.size):=b8.z;clear cp hM ef en ba b8 n0 n1 n2 n3 n4
   by_cases nb:j<n
   ·have n8:(j:Int)<n:=by omega
    obtain⟨K,hK⟩:∃K,T.z[j]?=A K:=⟨_,JR (by rw[ch.o];exact nb)⟩;have cf:=fr.o.C hP.o;rcases cf with ⟨h0,_⟩|⟨b,off,cap,S,h2,h3,h4,he,h6⟩
    ·rw[h0]at hK;simp at hK
    rw[ch.o]at he h3;injection he with nc _ nd
    subst nc;subst nd;obtain⟨hQ,sK,c0,c1,c2,c3,c4,c8⟩:=h6 j K hK;have c9:=mi.o K (J8 hK);have dd:=c8.h;obtain⟨ps,cr,hT⟩:=dd;obtain⟨nk,hU⟩:=zzy (K.z.length);rw[hU]at hT;subst hT;obtain⟨D,bg⟩:=zzx (wr.alloc (r7 #[I r8 K.q,r9 K.h,I U K.u,I U K.C,O ps nk cr] 145));have y:Kr wr D:=by rw[bg];exact (JO _ wr).alloc (JM _) _
    have bm:D.heap[wr.heap.size]?=A (r7 #[I r8 K.q,r9 K.h,I U K.u,I U K.C,O ps nk cr] 145 (0,0)):=by rw[bg];exact oc wr _
    obtain⟨ct,hX⟩:=zz2 y bm;have b9:B0≤D.heap.size:=JU cb (JU gF.o y.size);have hY:∀b,bh M [vT,O N rs.length P,vV,vC,vA] b→B0≤b:=fun b q=>by
     rcases sV q with h|⟨v,hv,h⟩
     ·exact HO.o b h
     ·have:=ad.o v hv b h;omega
    obtain⟨b6,cu,gH⟩:=zz3 (GM F' d M ts rs s.b T.h T.u 0 s.a s.d vT (O N rs.length P) vV vC vA K (O ps nk cr) B0 D (C.o.C y) (by omega) c7 gT c9 (c8.C (y.mono (JU cb gF.o))) b9 hY) (fun (W:J) (hW:Kr D W) (hm:MkW F' d M ts rs s.b T.h T.u 0 s.a s.d vT (O N rs.length P) vV vC vA W)=>Ir F' d M ts rs s.b T.h T.u 0 s.a s.d vT (O N rs.length P) vV vC vA K (O ps nk cr) B0 W hm (by omega) (by omega) gT c9 ((c8.C (y.mono (JU cb gF.o))).C (hW.mono b9)) (JU b9 hW.size)) (iU (f:=cK d ts) hK hN.o);have h7:=Hd (fun er (h:cK d ts s K=zs er)=>jS (f:=cK d ts) (l:=T.z) (k:=j+1) (s:=⟨[],[],[]⟩) (e:=er) (gH.o.trans h));have ih:=Hd c9;have ca:Hid (Chg (bh M [vT,O N rs.length P]) w D):=eo.o.h (Chg.u y);have dg:Hid (∀b,bh M [vT,O N rs.length P,vV,vC,vA] b→bh M [vT,O N rs.length P] b∨w.heap.size≤b):=fun b q=>by
     rcases sV q with h|⟨v,hv,h⟩
     ·exact wD h
     ·exact wF (ad.o v hv b h)
    have gL:Hid (w.heap.size≤D.heap.size):=ca.o.z;obtain⟨k0,k1,k2,k3,k4⟩:=cells5 bm;clear hQ c8 h6 S h2 h3 h4 c9 hK y bm b9 hY hU;go_upto_region 7 with fail
    change Code.wp _ _ _ _ (wr.alloc (r7 #[I r8 K.q,r9 K.h,I U K.u,I U K.C,O ps nk cr] 145));rw[←bg];clear bg c0 c1 c2 c3 c4;go_wp2_with fail
    refine b6.o.mono ?_;rintro e W2 he;unfold uw at he;clear k0 k1 k2 k3 k4
    cases hc:a9 K with
    | true =>
     rw[hc]at he;simp only[oX]at he;obtain⟨b7,he⟩:=he
     cases hr:fZ d ts s.b K with
     | error er =>
      rw[hr]at he;have he:e=aR er.1 er.2:=he;subst he;refine⟨Z,dI ca.o b7 dg.o,?_⟩;rw[gf.o,h7.o er (by rw[uT hc ih.o,hr])];rfl
     | ok x =>
      rw[hr]at he;obtain⟨rfl,F2,ng,ni,bb,bn,iA,b2,b3⟩:=he;have HR:Hid (sx F d M ts rs vT (O N rs.length P) T (O (A ⟨b,off,Y⟩) n c) n w (I U ((j+1:Nat):Int)) W2):=by
       refine⟨j+1,⟨x.1,s.a++[x.2],s.d⟩,F2,ng,ni,vA,by omega,Z,?_,Dk hr c7,by rw[J2];simp;omega,by show s.d.length≤j+1;omega,bb,fun b q=>b2 b (HSub.o b q),fun b q=>?_,fun v hv g G=>?_,dI ca.o b7 dg.o⟩
       ·rw[gH.o,uT hc ih.o,hr]
       ·rcases b3 b q with h|h
        ·exact cq.o b h
        ·exact wF (JU gL.o h)
       ·simp only[Kk,Ki,o8]at hv;rcases hv with rfl|rfl|rfl
        ·rcases bn g G with h|h
         ·exact ad.o vV (by simp) g h
         ·exact JU gL.o h
        ·rcases iA g G with h|h
         ·exact ad.o vC (by simp) g h
         ·exact JU gL.o h
        ·exact ad.o v (by simp) g G
      clear bb bn iA b2 b3 b7 hr hc b6 cu;go_wp2_with fail
      refine⟨HR.o,?_⟩;simp[intOf];omega
    | false =>
     rw[hc]at he;simp only[Ka,oF]at he;obtain⟨rfl,bk,bb⟩:=he;have iB:=aa bk hX.o (JL.1 hX.o).1;have cv:Hid (Chg (bh M [vT,O N rs.length P]) w W2):=ca.o.h (Chg.u bk);have HA:=Hd (cu.o W2 bk bb);have iX:Hid (w.heap.size≤W2.heap.size):=cv.o.z;have jj:=Hd hc;obtain⟨k0,k1,k2,k3,k4⟩:=cells5 iB;clear iB bk bb hc b6 cu;go_wp2_with fail
     refine HA.o.mono ?_;rintro e W3 ⟨b7,he⟩;clear k0 k1 k2 k3 k4
     cases hr:jm d ts s.b s.a K with
     | error er =>
      rw[hr]at he;have he:e=aR er.1 er.2:=he;subst he;refine⟨Z,dI cv.o b7 dg.o,?_⟩;rw[gf.o,h7.o er (by rw[yH jj.o,hr])];rfl
     | ok x =>
      rw[hr]at he;obtain⟨rfl,F2,nn,bb,bn,b2,b3⟩:=he;have HR:Hid (sx F d M ts rs vT (O N rs.length P) T (O (A ⟨b,off,Y⟩) n c) n w (I U ((j+1:Nat):Int)) W3):=by
       refine⟨j+1,⟨s.b,s.a,s.d++[x]⟩,F2,vV,vC,nn,by omega,Z,?_,c7,by show s.a.length≤j+1;omega,by rw[J2];simp;omega,bb,fun b q=>b2 b (HSub.o b q),fun b q=>?_,fun v hv g G=>?_,dI cv.o b7 dg.o⟩
       ·rw[gH.o,yH jj.o,hr]
       ·rcases b3 b q with h|h
        ·exact cq.o b h
        ·exact wF (JU iX.o h)
       ·simp only[Kk,Ki,o8]at hv;rcases hv with rfl|rfl|rfl
        ·exact ad.o v (by simp) g G
        ·exact ad.o v (by simp) g G
        ·rcases bn g G with h|h
         ·exact ad.o vA (by simp) g h
         ·exact JU iX.o h
      clear bb bn b2 b3 b7 hr HA;go_wp2_with fail
      refine⟨HR.o,?_⟩;simp[intOf];omega
   ·have et:aV (cK d ts) ⟨[],[],[]⟩ T.z=xn s:=by
     rw[←hN.o,J5 (by rw[ch.o];omega)]
    obtain⟨pV,cV,j2⟩:=C.o.v.q;obtain⟨pC,cC,kk⟩:=C.o.c.q;obtain⟨pA,cA,kn⟩:=C.o.a.q;obtain⟨nv,gM⟩:=zzy (s.b.length);obtain⟨nC,kv⟩:=zzy (s.a.length);obtain⟨nA,kI⟩:=zzy (s.d.length);rw[gM]at j2 c7;rw[kv]at kk;rw[kI]at kn;subst j2;subst kk;subst kn;have k5:Hid (eQ d ts rs T=xn (rs++[⟨T.h,T.u,(nv:Int),s.a,s.d⟩])):=by
     show _=_
     rw[gf.o,et]
     show xn (rs++[⟨T.h,T.u,(s.b.length:Int),s.a,s.d⟩])=_
     rw[gM]
    have hm:=C.o.m;obtain⟨D,bg⟩:=zzx (wr.setCell ⟨M,5,Y⟩ (I U (nv:Int)));have cc:D.heap[M]?=A (r7 #[vT,O N rs.length P,O pV nv cV,r9 T.h,I U T.u,I U (nv:Int),O pC nC cC,O pA nA cA] 202 (0,0)):=by rw[bg];exact heap_set hm 5 _
    have dn:∀b,b≠M→D.heap[b]?=wr.heap[b]?:=fun b q=>by rw[bg];exact JQ wr ⟨M,5,Y⟩ _ b q
    have e5:D.heap.size=wr.heap.size:=by rw[bg];simp[World.setCell]
    have gN:Hid (∀b,(F' b∨(O pC nC cC).ownBlock=A b∨(O pA nA cA).ownBlock=A b)→b<wr.heap.size∧¬bh M [vT,O N rs.length P] b):=fun b q=>by
     rcases q with q|q|q
     ·exact⟨(C.o.f b q).1,fun X=>(C.o.f b q).2 (by
       rcases X with rfl|⟨v,hv,X⟩
       ·exact wD Z
       ·simp only[Kk,Ki,o8]at hv;rcases hv with rfl|rfl
        ·exact wF ⟨_,by simp,X⟩
        ·exact wF ⟨_,by simp,X⟩)⟩
     ·obtain⟨ds,h⟩:=C.o.c.u q;refine⟨C.o.c.lt q,fun X=>?_⟩;rcases X with rfl|⟨v,hv,X⟩
      ·exact row_ne hm C.o.c (by decide) q
      ·simp only[Kk,Ki,o8]at hv;rcases hv with rfl|rfl
       ·exact row_ne h C.o.t (by decide) X
       ·exact row_ne h C.o.r (by decide) X
     ·obtain⟨ds,h⟩:=C.o.a.u q;refine⟨C.o.a.lt q,fun X=>?_⟩;rcases X with rfl|⟨v,hv,X⟩
      ·exact row_ne hm C.o.a (by decide) q
      ·simp only[Kk,Ki,o8]at hv;rcases hv with rfl|rfl
       ·exact row_ne h C.o.t (by decide) X
       ·exact row_ne h C.o.r (by decide) X
    have bm:∀b,(F' b∨(O pC nC cC).ownBlock=A b∨(O pA nA cA).ownBlock=A b)→∀o,wr.heap[b]?=A o→D.heap[b]?=A o:=fun b q o X=>(dn b (fun e=>(gN.o b q).2 (wD e))).trans X
    have ct:Hid (MkB (fun b=>F' b∨(O pC nC cC).ownBlock=A b∨(O pA nA cA).ownBlock=A b) d M ts rs vT (O N rs.length P) D):=
     ⟨fun b q=>⟨by rw[e5];exact (gN.o b q).1,(gN.o b q).2⟩,⟨_,_,_,_,_,_,cc⟩,
      C.o.t.K (fun g G=>dn g (fun e=>row_ne hm C.o.t (by decide) (e ▸ G))) (fun b q=>bm b (wD q)) (fun _ h=>wD h),
      C.o.r.K (fun g G=>dn g (fun e=>row_ne hm C.o.r (by decide) (e ▸ G))) (fun b q=>bm b (wD q)) (fun _ h=>wD h)⟩
    have nr:Hid ((ie d).h D (fun b=>F' b∨(O pC nC cC).ownBlock=A b∨(O pA nA cA).ownBlock=A b) s.a (O pC nC cC)):=Rd.sv bm (C.o.c.h (fun _ h=>wD h) (fun g G=>wF (wD G)));have ns:Hid ((jq d).h D (fun b=>F' b∨(O pC nC cC).ownBlock=A b∨(O pA nA cA).ownBlock=A b) s.d (O pA nA cA)):=Rd.sv bm (C.o.a.h (fun _ h=>wD h) (fun g G=>wF (wF G)));have k6:Hid (Chg (bh M [vT,O N rs.length P]) w D):=by show Chg _ _ _;rw[bg];exact eo.o.K (p:=⟨M,5,Y⟩) (wD (wD Z)) _
    have bq:=Hd cc;have m2:wr.cell? ⟨M,2,Y⟩=A (O pV nv cV):=by rw[Kq _ _ _ _ _ _ hm];rfl
    have m5:wr.cell? ⟨M,5,Y⟩=A (I U 0):=by rw[Kq _ _ _ _ _ _ hm];rfl
    have fz:=ee hm;clear et gM kv kI hm cc dn e5 bm;go_upto_region 11 with fail
    change Code.wp _ _ _ _ (wr.setCell ⟨M,5,Y⟩ (I U (nv:Int)));rw[←bg];clear bg m2 m5 fz;obtain⟨us,ba,gE⟩:=ct.o.r;rw[HN.o]at ba;have ba:D.ownsRow 0 159 5 (O N nR P) nR us:=ba;obtain⟨gO,k7⟩:=zz2 ba gE;have k8:D.cell? ⟨M,1,Y⟩=A (O N nR P):=by rw[Kq _ _ _ _ _ _ bq.o,←HN.o];rfl
    have cn:D.cell? ⟨M,3,Y⟩=A (r9 T.h):=by rw[Kq _ _ _ _ _ _ bq.o];rfl
    have k9:D.cell? ⟨M,4,Y⟩=A (I U T.u):=by rw[Kq _ _ _ _ _ _ bq.o];rfl
    have cc:D.cell? ⟨M,5,Y⟩=A (I U (nv:Int)):=by rw[Kq _ _ _ _ _ _ bq.o];rfl
    have la:D.cell? ⟨M,6,Y⟩=A (O pC nC cC):=by rw[Kq _ _ _ _ _ _ bq.o];rfl
    have lb:D.cell? ⟨M,7,Y⟩=A (O pA nA cA):=by rw[Kq _ _ _ _ _ _ bq.o];rfl
    have hK:∀b,b=M→b<D.heap.size∧(O N nR P).ownBlock≠A b:=fun b q=>by
     rw[←HN.o,q];exact⟨ct.o.lt,row_ne bq.o ct.o.r (by decide)⟩
    have ld:=Hd (jR (E:=159) (sz:=5) (row:=us++[r9 T.h,I U T.u,I U (nv:Int),O pC nC cC,O pA nA cA]) (K:=fun b=>b=M) hK);have M1:=fun x:Ks D (fun b=>b=M)=>x.h Z k8
    have M3:=fun x:Ks D (fun b=>b=M)=>x.h Z cn
    have M4:=fun x:Ks D (fun b=>b=M)=>x.h Z k9
    have M5:=fun x:Ks D (fun b=>b=M)=>x.h Z cc
    have M6:=fun x:Ks D (fun b=>b=M)=>x.h Z la
    have M7:=fun x:Ks D (fun b=>b=M)=>x.h Z lb
    clear ba gE hK k8 cn k9 cc la lb;refine RE.z (by kernel_rfl) 13 [11,12] [12] (stA 159 5 D N nR P (us++[r9 T.h,I U T.u,I U (nv:Int),O pC nC cC,O pA nA cA])) (ApR D) (fun _ z=>z.getD 0 xk) (phA 159 5 D N nR P [r9 T.h,I U T.u,I U (nv:Int),O pC nC cC,O pA nA cA] (us++[r9 T.h,I U T.u,I U (nv:Int),O pC nC cC,O pA nA cA]) 11 12) (by kernel_rfl) (fun _ _ _ _ _ _ h q=>h.C q) (fun _ _ _ _ h _ hR=>h.K hR) stA.zero ?_;simp only[JY,J7,JZ,J6]
    repeat (refine RE.q (fun W=>∃x:Ks D (fun b=>b=M),W=x.1) (ld.o _) Z Z Z stA.zero ?_;go_big_quiet_step (fail);refine xL ?_)
    refine RE.h Z Z ?_ (fun nt=>?_)
    ·intro W hC hS Q;obtain⟨s9,_,h9⟩:=hC;exact ek xr (vs:=[r9 T.h,I U T.u,I U (nv:Int),O pC nC cC,O pA nA cA]) _ Z Z Z h9.z (fun v W' q X=>⟨[v],Z,q,ApR.u q,X⟩)
    simp only[xS,JP,JW,JV,Nat.reduceAdd];refine RE.h Z Z ?_ (fun lf=>?_)
    ·intro W hC hS Q;obtain⟨x,rfl⟩:∃x:Wb D,W=x.1:=hS Z;exact i9 xr (p:=N) (n:=nR) (c:=P) (w4:=D) (vs:=[r9 T.h,I U T.u,I U (nv:Int),O pC nC cC,O pA nA cA]) (xs:=us) _ _ Z Z (Q 11 nt (by kernel_rfl) Z) Z (by simp[Value.oneCell']) x.2 gO.o (by omega) (fun v' W' S h2 h3=>⟨[v'],Z,S,h2,h3⟩)
    simp only[xS,JP,JW,JV,Nat.reduceAdd];refine RE.u ?_;intro W hS Q;have hS:ApS 159 5 D N nR P (us++[r9 T.h,I U T.u,I U (nv:Int),O pC nC cC,O pA nA cA]) W:=hS;have hV:ApV 159 5 D N nR P (us++[r9 T.h,I U T.u,I U (nv:Int),O pC nC cC,O pA nA cA]) W (lf.getD 0 xk):=Q 12 lf Z;obtain⟨g',cap,eg,G,hC,e6⟩:=jZ hS hV;rw[eg];have lr:Chg (fun b=>(O N rs.length P).ownBlock=A b) D W:=by rw[HN.o];exact hC
    have bn:(O N rs.length P).ownBlock=A g'∨D.heap.size≤g':=by rw[HN.o];exact G
    have l0:(fM d).at_ D (fun b=>F' b∨(O pC nC cC).ownBlock=A b∨(O pA nA cA).ownBlock=A b) ⟨T.h,T.u,(nv:Int),s.a,s.d⟩ [r9 T.h,I U T.u,I U (nv:Int),O pC nC cC,O pA nA cA]:=uy.2 ⟨mb,ha,⟨by show (-9223372036854775808:Int)≤(nv:Int);omega,by show (nv:Int)<9223372036854775808;omega⟩,_,_,Z,nr.o,ns.o⟩;obtain⟨l1,l3,gS⟩:=ct.o.pushR HN.o k7.o l0 bn lr e6;have bl:W.cell? ⟨M,1,Y⟩=A (O N nR P):=by rw[Kq _ _ _ _ _ _ (gS.trans bq.o),←HN.o];rfl
    have n9:=aB (gS.trans bq.o) 1;have HP:Hid (pE F d M ts vT (O N rs.length P) (xn (rs++[⟨T.h,T.u,(nv:Int),s.a,s.d⟩])) w (Ending.returned (y9 #[])) (W.setCell ⟨M,1,Y⟩ (O (A ⟨g',0,Y⟩) (nR+1) cap))):=by
     refine⟨dI k6.o l3 (fun x hx=>wD hx),Z,_,_,l1,fun b q=>?_,fun b q=>wD (HSub.o b q),fun b q=>?_⟩
     ·injection q with q
      have q:g'=b:=q;subst q;rcases bn with h|h
      ·exact wD h
      ·have:=k6.o.z;exact wF (by omega)
     ·rcases q with q|q|q
      ·exact cq.o b q
      ·exact wF (ad.o _ (by simp) b q)
      ·exact wF (ad.o _ (by simp) b q)
    clear hS hV Q eg G hC e6 lr bn l1 l3 gS M1 M3 M4 M5 M6 M7 ld l0;go_wp2_with fail
    go_end0
    rw[k5.o];exact HP.o
