/- The rule checker: a rule is made; by contract. Condition: as its parts'. Printed by tools/genWhole.py. -/
import Derived.Test.YtmpekinjoeibbaaGreatDoorNL
open Except renaming error→wD,ok→vb
open Go renaming Value→r3,World→p7,undef→tT,wpQuiet_nil→vk
open Option renaming some→A,none→V
open Or renaming inl→tE,inr→tS
open Go.Value renaming tuple→wF,agg→s3,string→p9,int→I,slice→O,pointer→tv
open Go.IntKind renaming i64→Y,u8→J
open Bool renaming false→r7,true→r5
open Go.Obj renaming cells→p8
open Decidable renaming decide→r8
open Go.Act renaming put→wj
namespace Go.Proofs.YtmpekinjoeibbaaGreatDoor
set_option maxHeartbeats 16000000
set_option maxRecDepth 100000
open Go.RowKit
def eE(d:Nat) (types:List ap) (rs:List au) (T:ah):Except Flt (List au):=
 if (idxOf T.h (rs.map au.a)).isSome then wD (210,T.t)
 else if T.q < -1000||1000<T.q then wD (2,T.t)
 else if 64≤rs.length||8<f7 T.u||8<T.u.length-f7 T.u then wD (204,T.t)
 else match bs (dy d types) ⟨[],[],[]⟩ T.u with
  | .error e=>wD e
  | .ok s=>vb (rs++[⟨T.h,T.q,s.b.length,s.d,s.e⟩])
theorem zY(l:List ah):f7 l≤l.length:=by
 unfold f7
 induction l with
 | nil=>exact ET _
 | cons z l a =>
  rw[List.takeWhile_cons]
  split
  ·simp only[FC];omega
  ·simp
theorem ql{M:Nat}{vT vR vV vC vA:r3}{b:Nat}(h:bf M [vT,vR,vV,vC,vA] b):bf M [vT,vR] b∨∃v∈[vV,vC,vA],v.ownBlock=A b:=by
 rcases h with rfl|⟨v,hv,a⟩
 ·exact tE (tE Z)
 ·simp only[FK,FH,o5]at hv;rcases hv with rfl|rfl|rfl|rfl|rfl
  ·exact tE (tS ⟨_,by simp,a⟩)
  ·exact tE (tS ⟨_,by simp,a⟩)
  ·exact tS ⟨_,by simp,a⟩
  ·exact tS ⟨_,by simp,a⟩
  ·exact tS ⟨_,by simp,a⟩
theorem rJ{b:Bool}:∀(l:List ah) (s c:List ByteArray×List dF),bs (dD b) s l=vb c→s.1.length≤16→c.1.length≤16
 | [],s,c,h,d=>by injection h with h;rw[←h];exact d
 | K::l,s,c,h,d=>by
  unfold bs at h
  cases a:dD b s K with
  | error e=>rw[a]at h;cases h
  | ok s1 =>
   rw[a]at h;refine rJ l s1 c h ?_;unfold dD at a
   split at a
   ·injection a with a;rw[←a];exact d
   ·split at a
    ·split at a
     ·injection a with a;rw[←a];exact d
     ·split at a
      ·cases a
      ·split at a
       ·cases a
       ·injection a with a
        rw[←a]
        show (s.1++[K.h]).length≤16
        rw[Fl];simp;omega
    ·injection a with a;rw[←a];exact d
theorem zR{d:Nat}{ts:List ap}{vars:List ByteArray}{K:ah}{x:List ByteArray×aK}(h:fx d ts vars K=vb x)(hv:vars.length≤16):x.1.length≤16:=by
 have key:∀(b:Bool) (kd:Int) (c:Except Flt Nat),dX b kd c vars K.u=vb x→x.1.length≤16:=fun b kd c h=>by
  unfold dX at h
  split at h
  ·cases h
  ·cases a:bs (dD b) (vars,[]) K.u with
   | error e=>rw[a]at h;cases h
   | ok r =>
    rw[a]at h;injection h with h
    rw[←h];exact rJ K.u (vars,[]) r a hv
 unfold fx at h
 split at h
 ·exact key _ _ _ h
 ·split at h
  ·exact key _ _ _ h
  ·split at h
   ·cases h
   ·unfold jC at h
    split at h
    ·cases h
    ·injection h with h;rw[←h];exact hv
def mF(F:Nat→Prop) (d M:Nat) (ts:List ap) (vT vR:r3) (r:Except Flt (List au)) (w:p7) (e:Ending) (w':p7):Prop:=
 Chg (bf M [vT,vR]) w w'∧match r with
 | .ok c=>e=Ending.returned (wF #[])∧∃(F':Nat→Prop) (a:r3),MkB F' d M ts c vT a w'∧Grew vR a w.heap.size∧(∀b,F b→F' b)∧∀b,F' b→F b∨w.heap.size≤b
 | .error er=>e=aQ er.1 er.2
theorem uf:Elem 39 24 5 80:=Elem.of (z:=s3 #[p9 ByteArray.empty,I Y 0,I Y 0,O V 0 0,O V 0 0]) Tryz.underlying24 (by kernel_rfl) (by kernel_rfl) (by decide) (by decide)
def pP(F:Nat→Prop) (d M:Nat) (ts:List ap) (rs:List au) (vT vR:r3) (T:ah) (_sl:r3) (n:Nat) (w:p7) (i:r3) (W:p7):Prop:=
 ∃(j:Nat) (s:RSt) (F':Nat→Prop) (vV vC vA:r3),j≤n∧i=I Y (j:Int)∧bs (dy d ts) ⟨[],[],[]⟩ (T.u.take j)=vb s∧s.b.length≤16∧s.d.length≤j∧s.e.length≤j∧MkW F' d M ts rs s.b T.h T.q 0 s.d s.e vT vR vV vC vA W∧
  (∀b,F b→F' b)∧(∀b,F' b→F b∨w.heap.size≤b)∧(∀v∈[vV,vC,vA],∀g,v.ownBlock=A g→w.heap.size≤g)∧Chg (bf M [vT,vR]) w W
theorem tt(W:p7)(b o:Nat)(u:r3)(a:W.cell? ⟨b,o,V⟩=A u)(c:W.frozen? ⟨b,o,V⟩=r7):(Instr.storeAt 96 (tv (A ⟨b,o,V⟩)) (O V 0 0)).run Tryz.prog W=.ok () (W.setCell ⟨b,o,V⟩ (O V 0 0)):=by simp[Instr.storeAt,Instr.sureAddr,go_sem,a,c]
theorem zD(F:Nat→Prop)(d M:Nat)(ts:List ap)(rs:List au)(vT vR:r3)(T:ah)(p:Option Addr)(n c B0:Nat)(w:p7)
  (hw:MkB F d M ts rs vT vR w) (hk:T.b=4) (gS:ts.length≤10000) (lo:rs.length≤10000) (e8:T.u.length=n) (hn:n≤10000) (b8:aF w B0 (d+2) T.u (O p n c)) (b6:B0≤w.heap.size) (hO:∀b,bf M [vT,vR] b→B0≤b)
  (l0:T.h.size≤maxLen) (gT:I64 T.q) (hp:∀K∈T.u,lx d K) :
  Calls Tryz.prog 25 #[tv (A ⟨M,0,V⟩),s3 #[I J T.b,p9 T.h,I Y T.q,I Y T.t,O p n c]] w (mF F d M ts vT vR (eE d ts rs T) w):=by
 rw[hk];change Calls Tryz.prog 25 #[tv (A ⟨M,0,V⟩),s3 #[I J 4,p9 T.h,I Y T.q,I Y T.t,O p n c]] w _;obtain⟨N,cR,l1⟩:=hw.r.b;subst l1;obtain⟨nR,cv⟩:=zzy (rs.length);have HN:=Hd cv;rw[cv]at lo;obtain⟨kc,cx⟩:=zzy (f7 T.u);have n8:kc≤n:=by rw[←cx,←e8];exact zY _
 obtain⟨e9,ha⟩:=zz2 (fun (W:p7) (hW:FS w W)=>zQ T.u (O p n c) (d+1) W ((b8.C (hW.mono b6)).up (EZ b6 hW.size)) (by omega)) cx;rw[cx]at e9;obtain⟨w0,cT⟩:=zzx (w.alloc (p8 #[I J 4,p9 T.h,I Y T.q,I Y T.t,O p n c] 64));have fe:FS w w0:=by rw[cT];exact (EU _ w).alloc (ET _) _
 have fm:w0.heap[w.heap.size]?=A (p8 #[I J 4,p9 T.h,I Y T.q,I Y T.t,O p n c] 64 (0,0)):=by rw[cT];exact ot w _
 obtain⟨hd,hf,HW,n6,hl⟩:=zz5 fm fe hw (fun g C=>hw.r.lt (g:=g) C) (fun b q=>hw.b (b:=b) q);have n7:=Hd (fun b (q:F b)=>(hw.f b q).1);obtain⟨fp,b9,HO,l2,hq⟩:=zz5 b8 e8 hO hp (e9.o w0 fe);obtain⟨e0,e1,e2,e3,e4⟩:=cells5 fm;clear fe hw hk b8 e8 cx hO hp fm e9
 go_enter Tryz.func25,Tryz.ntmps25
 go_upto_region 1 with fail
 change Code.wp _ _ _ _ (w.alloc (p8 #[I J 4,p9 T.h,I Y T.q,I Y T.t,O p n c] 64));rw[←cT];clear cT;go_wp2_with fail
 refine hq.o.mono ?_;rintro e w1 ⟨rfl,fr⟩;have fv:=ag fr hd.o (ES.1 hd.o).1;obtain⟨ad,hs⟩:=zz2 (hf.o.trans (fr.mono hf.o.size)) fv;have cW:=Hd (HW.o.C ad.o);clear fr e0 e1 e2 e3 e4;obtain⟨e0,e1,e2,e3,e4⟩:=cells5 fv;obtain⟨U,B⟩:=zzx (eh (idxOf T.h (rs.map au.a)));have ak:Hid (r8 ((0:Int)≤U)=(idxOf T.h (rs.map au.a)).isSome):=by
  show _=_
  rw[B]
  cases idxOf T.h (rs.map au.a) with
  | none=>rfl
  | some k=>show r8 ((0:Int)≤(k:Int))=r5;simp
 have bd:=Hd (fun (W:p7) (h:FS w1 W)=>vK d rs T.h _ _ M W (cW.o.C h).row_r (fun _ h=>h) (cW.o.C h).h.2);rw[←B]at bd;have fI:w1.cell? ⟨M,1,V⟩=A (O N nR cR):=by rw[cW.o.h.2,HN.o]
 have E0:=fun x:Wb w1=>x.b e0
 have E1:=fun x:Wb w1=>x.b e1
 have E2:=fun x:Wb w1=>x.b e2
 have E3:=fun x:Wb w1=>x.b e3
 have E4:=fun x:Wb w1=>x.b e4
 have MR:=fun x:Wb w1=>x.b fI
 clear fv B;have n9:(-9223372036854775808:Int)≤(n:Int)-kc:=by omega
 have oa:(n:Int)-kc<9223372036854775808:=by omega
 go_upto_region 2 with fail
 go_cut [] from 10 to 51 (fun W2=>FS w1 W2∧(idxOf T.h (rs.map au.a)).isSome=r7∧(r8 (T.q < -1000)||decide (1000<T.q))=r7∧(r8 (64≤nR)||decide (8<kc)||decide (8<n-kc))=r7)
 case first =>
  have ht:(idxOf T.h (rs.map au.a)).isSome=r5→eE d ts rs T=wD (210,T.t):=fun h=>by unfold eE;rw[oA h]
  have hy:(idxOf T.h (rs.map au.a)).isSome=r7→(r8 (T.q < -1000)||decide (1000<T.q))=r5→eE d ts rs T=wD (2,T.t):=fun h h2=>by
   unfold eE;rw[h,ox (by decide),oA h2]
  have hz:(idxOf T.h (rs.map au.a)).isSome=r7→(r8 (T.q < -1000)||decide (1000<T.q))=r7→(r8 (64≤nR)||decide (8<kc)||decide (8<n-kc))=r5→eE d ts rs T=wD (204,T.t):=fun h h2 h3=>by
   unfold eE;rw[h,ox (by decide),h2,ox (by decide),oA (by rw[HN.o,ha.o,b9.o];exact h3)]
  obtain⟨aq,ar,bB⟩:=zz3 ht hy hz;clear ht hy hz cv
  by_cases bk:T.q < -1000
  ·have bk:T.q < -1000:=bk;have bl:=Hd bk;have l3:r8 (T.q < -1000)=true:=decide_eq_true bk
   by_cases ca:64≤nR
   ·have cb:(64:Int)≤nR:=by omega
    have dv:=Hd ca;refine RE.t (by kernel_rfl) 40 [6,39] [] (fun _ W=>∃x:Wb w1,W=x.1) (fun W W'=>FS W W') (fun i ys=>if i=6 then I Y (U:Int) else ys.getD 0 tT) (fun i W ys=>if i=39 then cM w1.heap.size [(r8 ((0:Int)≤U),210),(r5,2),(r5,204)] W (ys.getD 0 tT) else True) (by kernel_rfl) (fun _ _ _ _ _ _ h q=>cd h q) (fun i W W' ys h _ q=>by split at h;(rw[oA (by assumption)];exact h.C q);rw[ox (by assumption)];trivial) ⟨⟨w1.drew,(EU _ _).drew⟩,Z⟩ ?_;simp only[Fg,Fu,Fh,Ft]
    repeat (refine RE.h (fun W=>∃x:Wb w1,W=x.1) (fun _ _ _ h=>h) Z Z Z ⟨⟨w1.drew,(EU _ _).drew⟩,Z⟩ ?_;go_big_quiet_step (fail);refine vk ?_)
    refine RE.b Z Z ?_ (fun ch=>?_)
    ·intro W hC _ P;obtain⟨s9,_,x,rfl⟩:=hC;refine RE.u 16 _ _ Z (enters_of Tryz.func16 (by kernel_rfl) Z) #[tv (A ⟨M,0,V⟩),p9 T.h] (by simp[Act.eval]) ((bd.o x.1 x.2).mono ?_);rintro e W' ⟨rfl,q⟩;exact⟨_,Z,[],Z,q,q,trivial⟩
    simp only[wj,EV,Fe,Fc,Nat.reduceAdd,↓reduceIte]
    repeat (refine RE.h (fun W=>∃x:Wb w1,W=x.1) (fun _ _ _ h=>h) Z Z Z ⟨⟨w1.drew,(EU _ _).drew⟩,Z⟩ ?_;go_big_quiet_step (fail);refine vk ?_)
    refine RE.b Z Z ?_ (fun ys=>?_)
    ·intro W hC _ P;obtain⟨s9,_,x,rfl⟩:=hC;exact iD _ _ _ 210 2 204 _ _ _ Z Z Z Z x.2.size (fun v W' q S=>⟨[v],Z,q,q,S⟩)
    simp only[wj,EV,Fe,Fc,Nat.reduceAdd,Nat.reduceEqDiff,↓reduceIte];refine RE.q ?_;intro W hS P;obtain⟨x,rfl⟩:=hS;obtain⟨g,eg,lg,C⟩:cM w1.heap.size [(r8 ((0:Int)≤U),210),(r5,2),(r5,204)] x.1 (ys.getD 0 tT):=P 39 ys Z;rw[eg];have a6:=Hd (bS [(r8 ((0:Int)≤U),210),(r5,2),(r5,204)] 4 T.h T.q T.t (O p n c) g 3 3 x.1 Z (by omega) C);have Q:=Hd x.2;clear P eg lg C E0 E1 E2 E3 E4 MR;go_wp2_with fail
    refine a6.o.mono ?_;rintro e W2 ⟨z,he⟩;have G:=Q.o.trans (z.mono Q.o.size);clear z;have H:Hid (FS w W2):=ad.o.trans (G.mono ad.o.size)
    cases R:r8 ((0:Int)≤U) with
    | true =>
     rw[R]at he;have he:e=aQ 210 T.t:=he;subst he;refine⟨Z,Chg.b H.o,?_⟩;rw[aq.o (ak.o.symm.trans R)];rfl
    | false =>
     rw[R]at he;have B:=ak.o.symm.trans R;have he:e=aQ 2 T.t:=he;subst he;refine⟨Z,Chg.b H.o,?_⟩;rw[ar.o B (by rw[decide_eq_true bl.o];rfl)];rfl
   ·have cb:¬(64:Int)≤nR:=by omega
    have c5:=Hd ca
    by_cases h8:8<kc
    ·have fT:(8:Int)<kc:=by omega
     have hA:=Hd h8;refine RE.t (by kernel_rfl) 40 [6,39] [] (fun _ W=>∃x:Wb w1,W=x.1) (fun W W'=>FS W W') (fun i ys=>if i=6 then I Y (U:Int) else ys.getD 0 tT) (fun i W ys=>if i=39 then cM w1.heap.size [(r8 ((0:Int)≤U),210),(r5,2),(r5,204)] W (ys.getD 0 tT) else True) (by kernel_rfl) (fun _ _ _ _ _ _ h q=>cd h q) (fun i W W' ys h _ q=>by split at h;(rw[oA (by assumption)];exact h.C q);rw[ox (by assumption)];trivial) ⟨⟨w1.drew,(EU _ _).drew⟩,Z⟩ ?_;simp only[Fg,Fu,Fh,Ft]
     repeat (refine RE.h (fun W=>∃x:Wb w1,W=x.1) (fun _ _ _ h=>h) Z Z Z ⟨⟨w1.drew,(EU _ _).drew⟩,Z⟩ ?_;go_big_quiet_step (fail);refine vk ?_)
     refine RE.b Z Z ?_ (fun ch=>?_)
     ·intro W hC _ P;obtain⟨s9,_,x,rfl⟩:=hC;refine RE.u 16 _ _ Z (enters_of Tryz.func16 (by kernel_rfl) Z) #[tv (A ⟨M,0,V⟩),p9 T.h] (by simp[Act.eval]) ((bd.o x.1 x.2).mono ?_);rintro e W' ⟨rfl,q⟩;exact⟨_,Z,[],Z,q,q,trivial⟩
     simp only[wj,EV,Fe,Fc,Nat.reduceAdd,↓reduceIte]
     repeat (refine RE.h (fun W=>∃x:Wb w1,W=x.1) (fun _ _ _ h=>h) Z Z Z ⟨⟨w1.drew,(EU _ _).drew⟩,Z⟩ ?_;go_big_quiet_step (fail);refine vk ?_)
     refine RE.b Z Z ?_ (fun ys=>?_)
     ·intro W hC _ P;obtain⟨s9,_,x,rfl⟩:=hC;exact iD _ _ _ 210 2 204 _ _ _ Z Z Z Z x.2.size (fun v W' q S=>⟨[v],Z,q,q,S⟩)
     simp only[wj,EV,Fe,Fc,Nat.reduceAdd,Nat.reduceEqDiff,↓reduceIte];refine RE.q ?_;intro W hS P;obtain⟨x,rfl⟩:=hS;obtain⟨g,eg,lg,C⟩:cM w1.heap.size [(r8 ((0:Int)≤U),210),(r5,2),(r5,204)] x.1 (ys.getD 0 tT):=P 39 ys Z;rw[eg];have a6:=Hd (bS [(r8 ((0:Int)≤U),210),(r5,2),(r5,204)] 4 T.h T.q T.t (O p n c) g 3 3 x.1 Z (by omega) C);have Q:=Hd x.2;clear P eg lg C E0 E1 E2 E3 E4 MR;go_wp2_with fail
     refine a6.o.mono ?_;rintro e W2 ⟨z,he⟩;have G:=Q.o.trans (z.mono Q.o.size);clear z;have H:Hid (FS w W2):=ad.o.trans (G.mono ad.o.size)
     cases R:r8 ((0:Int)≤U) with
     | true =>
      rw[R]at he;have he:e=aQ 210 T.t:=he;subst he;refine⟨Z,Chg.b H.o,?_⟩;rw[aq.o (ak.o.symm.trans R)];rfl
     | false =>
      rw[R]at he;have B:=ak.o.symm.trans R;have he:e=aQ 2 T.t:=he;subst he;refine⟨Z,Chg.b H.o,?_⟩;rw[ar.o B (by rw[decide_eq_true bl.o];rfl)];rfl
    ·have fT:¬(8:Int)<kc:=by omega
     have hD:=Hd h8;refine RE.t (by kernel_rfl) 40 [6,39] [] (fun _ W=>∃x:Wb w1,W=x.1) (fun W W'=>FS W W') (fun i ys=>if i=6 then I Y (U:Int) else ys.getD 0 tT) (fun i W ys=>if i=39 then cM w1.heap.size [(r8 ((0:Int)≤U),210),(r5,2),(r8 ((8:Int)<(n:Int)-kc),204)] W (ys.getD 0 tT) else True) (by kernel_rfl) (fun _ _ _ _ _ _ h q=>cd h q) (fun i W W' ys h _ q=>by split at h;(rw[oA (by assumption)];exact h.C q);rw[ox (by assumption)];trivial) ⟨⟨w1.drew,(EU _ _).drew⟩,Z⟩ ?_;simp only[Fg,Fu,Fh,Ft]
     repeat (refine RE.h (fun W=>∃x:Wb w1,W=x.1) (fun _ _ _ h=>h) Z Z Z ⟨⟨w1.drew,(EU _ _).drew⟩,Z⟩ ?_;go_big_quiet_step (fail);refine vk ?_)
     refine RE.b Z Z ?_ (fun ch=>?_)
     ·intro W hC _ P;obtain⟨s9,_,x,rfl⟩:=hC;refine RE.u 16 _ _ Z (enters_of Tryz.func16 (by kernel_rfl) Z) #[tv (A ⟨M,0,V⟩),p9 T.h] (by simp[Act.eval]) ((bd.o x.1 x.2).mono ?_);rintro e W' ⟨rfl,q⟩;exact⟨_,Z,[],Z,q,q,trivial⟩
     simp only[wj,EV,Fe,Fc,Nat.reduceAdd,↓reduceIte]
     repeat (refine RE.h (fun W=>∃x:Wb w1,W=x.1) (fun _ _ _ h=>h) Z Z Z ⟨⟨w1.drew,(EU _ _).drew⟩,Z⟩ ?_;go_big_quiet_step (fail);refine vk ?_)
     refine RE.b Z Z ?_ (fun ys=>?_)
     ·intro W hC _ P;obtain⟨s9,_,x,rfl⟩:=hC;exact iD _ _ _ 210 2 204 _ _ _ Z Z Z Z x.2.size (fun v W' q S=>⟨[v],Z,q,q,S⟩)
     simp only[wj,EV,Fe,Fc,Nat.reduceAdd,Nat.reduceEqDiff,↓reduceIte];refine RE.q ?_;intro W hS P;obtain⟨x,rfl⟩:=hS;obtain⟨g,eg,lg,C⟩:cM w1.heap.size [(r8 ((0:Int)≤U),210),(r5,2),(r8 ((8:Int)<(n:Int)-kc),204)] x.1 (ys.getD 0 tT):=P 39 ys Z;rw[eg];have a6:=Hd (bS [(r8 ((0:Int)≤U),210),(r5,2),(r8 ((8:Int)<(n:Int)-kc),204)] 4 T.h T.q T.t (O p n c) g 3 3 x.1 Z (by omega) C);have Q:=Hd x.2;clear P eg lg C E0 E1 E2 E3 E4 MR;go_wp2_with fail
     refine a6.o.mono ?_;rintro e W2 ⟨z,he⟩;have G:=Q.o.trans (z.mono Q.o.size);clear z;have H:Hid (FS w W2):=ad.o.trans (G.mono ad.o.size)
     cases R:r8 ((0:Int)≤U) with
     | true =>
      rw[R]at he;have he:e=aQ 210 T.t:=he;subst he;refine⟨Z,Chg.b H.o,?_⟩;rw[aq.o (ak.o.symm.trans R)];rfl
     | false =>
      rw[R]at he;have B:=ak.o.symm.trans R;have he:e=aQ 2 T.t:=he;subst he;refine⟨Z,Chg.b H.o,?_⟩;rw[ar.o B (by rw[decide_eq_true bl.o];rfl)];rfl
  ·have bk:¬T.q < -1000:=bk;have bl:=Hd bk;have l3:r8 (T.q < -1000)=false:=oB bk
   by_cases ca:64≤nR
   ·have cb:(64:Int)≤nR:=by omega
    have dv:=Hd ca;refine RE.t (by kernel_rfl) 40 [6,39] [] (fun _ W=>∃x:Wb w1,W=x.1) (fun W W'=>FS W W') (fun i ys=>if i=6 then I Y (U:Int) else ys.getD 0 tT) (fun i W ys=>if i=39 then cM w1.heap.size [(r8 ((0:Int)≤U),210),(r8 ((1000:Int)<T.q),2),(r5,204)] W (ys.getD 0 tT) else True) (by kernel_rfl) (fun _ _ _ _ _ _ h q=>cd h q) (fun i W W' ys h _ q=>by split at h;(rw[oA (by assumption)];exact h.C q);rw[ox (by assumption)];trivial) ⟨⟨w1.drew,(EU _ _).drew⟩,Z⟩ ?_;simp only[Fg,Fu,Fh,Ft]
    repeat (refine RE.h (fun W=>∃x:Wb w1,W=x.1) (fun _ _ _ h=>h) Z Z Z ⟨⟨w1.drew,(EU _ _).drew⟩,Z⟩ ?_;go_big_quiet_step (fail);refine vk ?_)
    refine RE.b Z Z ?_ (fun ch=>?_)
    ·intro W hC _ P;obtain⟨s9,_,x,rfl⟩:=hC;refine RE.u 16 _ _ Z (enters_of Tryz.func16 (by kernel_rfl) Z) #[tv (A ⟨M,0,V⟩),p9 T.h] (by simp[Act.eval]) ((bd.o x.1 x.2).mono ?_);rintro e W' ⟨rfl,q⟩;exact⟨_,Z,[],Z,q,q,trivial⟩
    simp only[wj,EV,Fe,Fc,Nat.reduceAdd,↓reduceIte]
    repeat (refine RE.h (fun W=>∃x:Wb w1,W=x.1) (fun _ _ _ h=>h) Z Z Z ⟨⟨w1.drew,(EU _ _).drew⟩,Z⟩ ?_;go_big_quiet_step (fail);refine vk ?_)
    refine RE.b Z Z ?_ (fun ys=>?_)
    ·intro W hC _ P;obtain⟨s9,_,x,rfl⟩:=hC;exact iD _ _ _ 210 2 204 _ _ _ Z Z Z Z x.2.size (fun v W' q S=>⟨[v],Z,q,q,S⟩)
    simp only[wj,EV,Fe,Fc,Nat.reduceAdd,Nat.reduceEqDiff,↓reduceIte];refine RE.q ?_;intro W hS P;obtain⟨x,rfl⟩:=hS;obtain⟨g,eg,lg,C⟩:cM w1.heap.size [(r8 ((0:Int)≤U),210),(r8 ((1000:Int)<T.q),2),(r5,204)] x.1 (ys.getD 0 tT):=P 39 ys Z;rw[eg];have a6:=Hd (bS [(r8 ((0:Int)≤U),210),(r8 ((1000:Int)<T.q),2),(r5,204)] 4 T.h T.q T.t (O p n c) g 3 3 x.1 Z (by omega) C);have Q:=Hd x.2;clear P eg lg C E0 E1 E2 E3 E4 MR;go_wp2_with fail
    refine a6.o.mono ?_;rintro e W2 ⟨z,he⟩;have G:=Q.o.trans (z.mono Q.o.size);clear z;have H:Hid (FS w W2):=ad.o.trans (G.mono ad.o.size)
    cases R:r8 ((0:Int)≤U) with
    | true =>
     rw[R]at he;have he:e=aQ 210 T.t:=he;subst he;refine⟨Z,Chg.b H.o,?_⟩;rw[aq.o (ak.o.symm.trans R)];rfl
    | false =>
     rw[R]at he;have B:=ak.o.symm.trans R
     cases h2:r8 ((1000:Int)<T.q) with
     | true =>
      rw[h2]at he;have he:e=aQ 2 T.t:=he;subst he;refine⟨Z,Chg.b H.o,?_⟩;rw[ar.o B (by rw[show r8 (1000<T.q)=r5 from h2,Bool.or_true])];rfl
     | false =>
      rw[h2]at he;have af:(r8 (T.q < -1000)||decide (1000<T.q))=false:=by rw[oB (show ¬T.q < -1000 by have:=bl.o;omega),show r8 (1000<T.q)=r7 from h2];rfl
      have he:e=aQ 204 T.t:=he;subst he;refine⟨Z,Chg.b H.o,?_⟩;rw[bB.o B af (by rw[decide_eq_true dv.o];rfl)];rfl
   ·have cb:¬(64:Int)≤nR:=by omega
    have c5:=Hd ca
    by_cases h8:8<kc
    ·have fT:(8:Int)<kc:=by omega
     have hA:=Hd h8;refine RE.t (by kernel_rfl) 40 [6,39] [] (fun _ W=>∃x:Wb w1,W=x.1) (fun W W'=>FS W W') (fun i ys=>if i=6 then I Y (U:Int) else ys.getD 0 tT) (fun i W ys=>if i=39 then cM w1.heap.size [(r8 ((0:Int)≤U),210),(r8 ((1000:Int)<T.q),2),(r5,204)] W (ys.getD 0 tT) else True) (by kernel_rfl) (fun _ _ _ _ _ _ h q=>cd h q) (fun i W W' ys h _ q=>by split at h;(rw[oA (by assumption)];exact h.C q);rw[ox (by assumption)];trivial) ⟨⟨w1.drew,(EU _ _).drew⟩,Z⟩ ?_;simp only[Fg,Fu,Fh,Ft]
     repeat (refine RE.h (fun W=>∃x:Wb w1,W=x.1) (fun _ _ _ h=>h) Z Z Z ⟨⟨w1.drew,(EU _ _).drew⟩,Z⟩ ?_;go_big_quiet_step (fail);refine vk ?_)
     refine RE.b Z Z ?_ (fun ch=>?_)
     ·intro W hC _ P;obtain⟨s9,_,x,rfl⟩:=hC;refine RE.u 16 _ _ Z (enters_of Tryz.func16 (by kernel_rfl) Z) #[tv (A ⟨M,0,V⟩),p9 T.h] (by simp[Act.eval]) ((bd.o x.1 x.2).mono ?_);rintro e W' ⟨rfl,q⟩;exact⟨_,Z,[],Z,q,q,trivial⟩
     simp only[wj,EV,Fe,Fc,Nat.reduceAdd,↓reduceIte]
     repeat (refine RE.h (fun W=>∃x:Wb w1,W=x.1) (fun _ _ _ h=>h) Z Z Z ⟨⟨w1.drew,(EU _ _).drew⟩,Z⟩ ?_;go_big_quiet_step (fail);refine vk ?_)
     refine RE.b Z Z ?_ (fun ys=>?_)
     ·intro W hC _ P;obtain⟨s9,_,x,rfl⟩:=hC;exact iD _ _ _ 210 2 204 _ _ _ Z Z Z Z x.2.size (fun v W' q S=>⟨[v],Z,q,q,S⟩)
     simp only[wj,EV,Fe,Fc,Nat.reduceAdd,Nat.reduceEqDiff,↓reduceIte];refine RE.q ?_;intro W hS P;obtain⟨x,rfl⟩:=hS;obtain⟨g,eg,lg,C⟩:cM w1.heap.size [(r8 ((0:Int)≤U),210),(r8 ((1000:Int)<T.q),2),(r5,204)] x.1 (ys.getD 0 tT):=P 39 ys Z;rw[eg];have a6:=Hd (bS [(r8 ((0:Int)≤U),210),(r8 ((1000:Int)<T.q),2),(r5,204)] 4 T.h T.q T.t (O p n c) g 3 3 x.1 Z (by omega) C);have Q:=Hd x.2;clear P eg lg C E0 E1 E2 E3 E4 MR;go_wp2_with fail
     refine a6.o.mono ?_;rintro e W2 ⟨z,he⟩;have G:=Q.o.trans (z.mono Q.o.size);clear z;have H:Hid (FS w W2):=ad.o.trans (G.mono ad.o.size)
     cases R:r8 ((0:Int)≤U) with
     | true =>
      rw[R]at he;have he:e=aQ 210 T.t:=he;subst he;refine⟨Z,Chg.b H.o,?_⟩;rw[aq.o (ak.o.symm.trans R)];rfl
     | false =>
      rw[R]at he;have B:=ak.o.symm.trans R
      cases h2:r8 ((1000:Int)<T.q) with
      | true =>
       rw[h2]at he;have he:e=aQ 2 T.t:=he;subst he;refine⟨Z,Chg.b H.o,?_⟩;rw[ar.o B (by rw[show r8 (1000<T.q)=r5 from h2,Bool.or_true])];rfl
      | false =>
       rw[h2]at he;have af:(r8 (T.q < -1000)||decide (1000<T.q))=false:=by rw[oB (show ¬T.q < -1000 by have:=bl.o;omega),show r8 (1000<T.q)=r7 from h2];rfl
       have he:e=aQ 204 T.t:=he;subst he;refine⟨Z,Chg.b H.o,?_⟩;rw[bB.o B af (by rw[decide_eq_true hA.o,Bool.or_true];rfl)];rfl
    ·have fT:¬(8:Int)<kc:=by omega
     have hD:=Hd h8;refine RE.t (by kernel_rfl) 40 [6,39] [] (fun _ W=>∃x:Wb w1,W=x.1) (fun W W'=>FS W W') (fun i ys=>if i=6 then I Y (U:Int) else ys.getD 0 tT) (fun i W ys=>if i=39 then cM w1.heap.size [(r8 ((0:Int)≤U),210),(r8 ((1000:Int)<T.q),2),(r8 ((8:Int)<(n:Int)-kc),204)] W (ys.getD 0 tT) else True) (by kernel_rfl) (fun _ _ _ _ _ _ h q=>cd h q) (fun i W W' ys h _ q=>by split at h;(rw[oA (by assumption)];exact h.C q);rw[ox (by assumption)];trivial) ⟨⟨w1.drew,(EU _ _).drew⟩,Z⟩ ?_;simp only[Fg,Fu,Fh,Ft]
     repeat (refine RE.h (fun W=>∃x:Wb w1,W=x.1) (fun _ _ _ h=>h) Z Z Z ⟨⟨w1.drew,(EU _ _).drew⟩,Z⟩ ?_;go_big_quiet_step (fail);refine vk ?_)
     refine RE.b Z Z ?_ (fun ch=>?_)
     ·intro W hC _ P;obtain⟨s9,_,x,rfl⟩:=hC;refine RE.u 16 _ _ Z (enters_of Tryz.func16 (by kernel_rfl) Z) #[tv (A ⟨M,0,V⟩),p9 T.h] (by simp[Act.eval]) ((bd.o x.1 x.2).mono ?_);rintro e W' ⟨rfl,q⟩;exact⟨_,Z,[],Z,q,q,trivial⟩
     simp only[wj,EV,Fe,Fc,Nat.reduceAdd,↓reduceIte]
     repeat (refine RE.h (fun W=>∃x:Wb w1,W=x.1) (fun _ _ _ h=>h) Z Z Z ⟨⟨w1.drew,(EU _ _).drew⟩,Z⟩ ?_;go_big_quiet_step (fail);refine vk ?_)
     refine RE.b Z Z ?_ (fun ys=>?_)
     ·intro W hC _ P;obtain⟨s9,_,x,rfl⟩:=hC;exact iD _ _ _ 210 2 204 _ _ _ Z Z Z Z x.2.size (fun v W' q S=>⟨[v],Z,q,q,S⟩)
     simp only[wj,EV,Fe,Fc,Nat.reduceAdd,Nat.reduceEqDiff,↓reduceIte];refine RE.q ?_;intro W hS P;obtain⟨x,rfl⟩:=hS;obtain⟨g,eg,lg,C⟩:cM w1.heap.size [(r8 ((0:Int)≤U),210),(r8 ((1000:Int)<T.q),2),(r8 ((8:Int)<(n:Int)-kc),204)] x.1 (ys.getD 0 tT):=P 39 ys Z;rw[eg];have a6:=Hd (bS [(r8 ((0:Int)≤U),210),(r8 ((1000:Int)<T.q),2),(r8 ((8:Int)<(n:Int)-kc),204)] 4 T.h T.q T.t (O p n c) g 3 3 x.1 Z (by omega) C);have Q:=Hd x.2;clear P eg lg C E0 E1 E2 E3 E4 MR;go_wp2_with fail
     refine a6.o.mono ?_;rintro e W2 ⟨z,he⟩;have G:=Q.o.trans (z.mono Q.o.size);clear z;have H:Hid (FS w W2):=ad.o.trans (G.mono ad.o.size)
     cases R:r8 ((0:Int)≤U) with
     | true =>
      rw[R]at he;have he:e=aQ 210 T.t:=he;subst he;refine⟨Z,Chg.b H.o,?_⟩;rw[aq.o (ak.o.symm.trans R)];rfl
     | false =>
      rw[R]at he;have B:=ak.o.symm.trans R
      cases h2:r8 ((1000:Int)<T.q) with
      | true =>
       rw[h2]at he;have he:e=aQ 2 T.t:=he;subst he;refine⟨Z,Chg.b H.o,?_⟩;rw[ar.o B (by rw[show r8 (1000<T.q)=r5 from h2,Bool.or_true])];rfl
      | false =>
       rw[h2]at he;have af:(r8 (T.q < -1000)||decide (1000<T.q))=false:=by rw[oB (show ¬T.q < -1000 by have:=bl.o;omega),show r8 (1000<T.q)=r7 from h2];rfl
       cases h3:r8 ((8:Int)<(n:Int)-kc) with
       | true =>
        rw[h3]at he;have ga:8<n-kc:=by have:=of_decide_eq_true h3;omega
        have he:e=aQ 204 T.t:=he;subst he;refine⟨Z,Chg.b H.o,?_⟩;rw[bB.o B af (by rw[decide_eq_true ga,Bool.or_true])];rfl
       | false =>
        rw[h3]at he;have ga:¬8<n-kc:=by have:=of_decide_eq_false h3;omega
        have he:e=Ending.returned (wF #[]):=he;subst he;have HP:Hid (FS w1 W2∧(idxOf T.h (rs.map au.a)).isSome=r7∧(r8 (T.q < -1000)||decide (1000<T.q))=r7∧(r8 (64≤nR)||decide (8<kc)||decide (8<n-kc))=r7):=⟨G,B,af,by rw[oB ga,oB c5.o,oB hD.o];rfl⟩;clear R h2 h3 he G e0 e1 e2 e3 e4 fI af B;go_wp2_with fail
        go_meet
        case rel=>exact HP.o
 case rest =>
  obtain⟨L,B,af,hG⟩:=hcut;have gb:Hid (eE d ts rs T=match bs (dy d ts) ⟨[],[],[]⟩ T.u with | .error e=>wD e | .ok s=>vb (rs++[⟨T.h,T.q,s.b.length,s.d,s.e⟩])):=by
   show _=_
   unfold eE;rw[B,ox (by decide),af,ox (by decide),ox (by rw[HN.o,ha.o,b9.o,hG];decide)]
  obtain⟨l4,bn⟩:=zz2 (ad.o.trans (L.mono ad.o.size)) (cW.o.C L);have af:=ag L hs.o (ES.1 hs.o).1;have bl:=Hd af;obtain⟨y2,y3,y4,y5,y6,y7,hm⟩:=bn.o.m;obtain⟨w3,bR⟩:=zzx (((((((wc.drew.setCell ⟨M,2,V⟩ (O V 0 0)).setCell ⟨M,3,V⟩ (p9 T.h)).setCell ⟨M,4,V⟩ (I Y T.q)).setCell ⟨M,5,V⟩ (I Y 0)).setCell ⟨M,6,V⟩ (O V 0 0)).setCell ⟨M,7,V⟩ (O V 0 0)));have ck:w3.heap[M]?=A (p8 #[vT,O N rs.length cR,O V 0 0,p9 T.h,I Y T.q,I Y 0,O V 0 0,O V 0 0] 98 (0,0)):=by
   rw[bR];have h2:(wc.drew.setCell ⟨M,2,V⟩ (O V 0 0)).heap[M]?=A (p8 #[vT,O N rs.length cR,O V 0 0,y3,y4,y5,y6,y7] 98 (0,0)):=heap_set hm 2 _;have h3:((wc.drew.setCell ⟨M,2,V⟩ (O V 0 0)).setCell ⟨M,3,V⟩ (p9 T.h)).heap[M]?=A (p8 #[vT,O N rs.length cR,O V 0 0,p9 T.h,y4,y5,y6,y7] 98 (0,0)):=heap_set h2 3 _;have h4:(((wc.drew.setCell ⟨M,2,V⟩ (O V 0 0)).setCell ⟨M,3,V⟩ (p9 T.h)).setCell ⟨M,4,V⟩ (I Y T.q)).heap[M]?=A (p8 #[vT,O N rs.length cR,O V 0 0,p9 T.h,I Y T.q,y5,y6,y7] 98 (0,0)):=heap_set h3 4 _;have h5:((((wc.drew.setCell ⟨M,2,V⟩ (O V 0 0)).setCell ⟨M,3,V⟩ (p9 T.h)).setCell ⟨M,4,V⟩ (I Y T.q)).setCell ⟨M,5,V⟩ (I Y 0)).heap[M]?=A (p8 #[vT,O N rs.length cR,O V 0 0,p9 T.h,I Y T.q,I Y 0,y6,y7] 98 (0,0)):=heap_set h4 5 _;have h6:(((((wc.drew.setCell ⟨M,2,V⟩ (O V 0 0)).setCell ⟨M,3,V⟩ (p9 T.h)).setCell ⟨M,4,V⟩ (I Y T.q)).setCell ⟨M,5,V⟩ (I Y 0)).setCell ⟨M,6,V⟩ (O V 0 0)).heap[M]?=A (p8 #[vT,O N rs.length cR,O V 0 0,p9 T.h,I Y T.q,I Y 0,O V 0 0,y7] 98 (0,0)):=heap_set h5 6 _;exact heap_set h6 7 _
  have bq:∀b,b≠M→w3.heap[b]?=wc.heap[b]?:=fun b q=>by
   have hh:∀(lf:p7) (i:Nat) (u:r3),(lf.setCell ⟨M,i,V⟩ u).heap[b]?=lf.heap[b]?:=fun lf i u=>EW lf ⟨M,i,V⟩ u b q
   rw[bR,hh,hh,hh,hh,hh,hh];rfl
  have en:w3.heap.size=wc.heap.size:=by rw[bR];simp[World.setCell]
  have gf:w.heap.size≠M:=fun e=>by have:=hl.o M (tE Z);omega
  have c5:Hid (w3.heap[w.heap.size]?=A (p8 #[I J 4,p9 T.h,I Y T.q,I Y T.t,O p n c] 64 (0,0))):=(bq _ gf).trans af;have ma:∀b,bf M [vT,O N rs.length cR,O V 0 0,O V 0 0,O V 0 0] b→bf M [vT,O N rs.length cR] b:=fun b q=>by
   rcases q with rfl|⟨v,hv,q⟩
   ·exact tE Z
   ·simp only[FK,FH,o5]at hv;rcases hv with rfl|rfl|rfl|rfl|rfl
    ·exact tS ⟨_,by simp,q⟩
    ·exact tS ⟨_,by simp,q⟩
    ·cases q
    ·cases q
    ·cases q
  have mb:Hid (MkW F d M ts rs [] T.h T.q 0 [] [] vT (O N rs.length cR) (O V 0 0) (O V 0 0) (O V 0 0) w3):=by
   have mc:∀b,F b→b≠M:=fun b q e=>(bn.o.f b q).2 (tE e)
   have hk:∀b,F b→∀o,wc.heap[b]?=A o→w3.heap[b]?=A o:=fun b q o S=>(bq b (mc b q)).trans S
   exact⟨fun b q=>⟨by rw[en];exact (bn.o.f b q).1,fun S=>(bn.o.f b q).2 (ma b S)⟩,fun _ h=>h,ck,
    bn.o.t.t (fun g C=>bq g (fun e=>row_ne hm bn.o.t (by decide) (e ▸ C))) hk (fun _ h=>h),
    bF.nil,F,(fun _=>False),(fun _=>False),(fun _ h=>h),(fun _ h=>h.elim),(fun _ h=>h.elim),(fun _ _=>⟨id,id⟩),(fun _ h=>h.elim),bn.o.rl.t (fun g C=>bq g (fun e=>row_ne hm bn.o.r (by decide) (e ▸ C))) hk (fun _ h=>h),cO.nil,cO.nil⟩
  have mu:Hid (Chg (bf M [vT,O N rs.length cR]) w w3):=by
   show Chg _ _ _
   rw[bR];exact ((((((Chg.b l4.o.drew).t (p:=⟨M,2,V⟩) (tE (tE Z)) _).t (p:=⟨M,3,V⟩) (tE (tE Z)) _).t (p:=⟨M,4,V⟩) (tE (tE Z)) _).t (p:=⟨M,5,V⟩) (tE (tE Z)) _).t (p:=⟨M,6,V⟩) (tE (tE Z)) _).t (p:=⟨M,7,V⟩) (tE (tE Z)) _
  clear e0 e1 e2 e3 e4 E0 E1 E2 E3 E4 MR fI B hG L cv bd ak;obtain⟨e0,e1,e2,e3,e4⟩:=cells5 af;have m2:wc.cell? ⟨M,2,V⟩=A y2:=by rw[FR _ _ _ _ _ _ hm];rfl
  have fz:=cH hm;have HM:=Hd hm;clear af hm ck bq en;have D0:Hid (wc.drew.setCell ⟨M,2,V⟩ (O V 0 0)=(wc.setCell ⟨M,2,V⟩ (O V 0 0)).drew):=rfl;go_upto_region 3 with fail
  obtain⟨wa,gg⟩:=zzx (wc.drew.setCell ⟨M,2,V⟩ (O V 0 0));have hH:=Hd gg;have gm:∀i,wa.cell? ⟨w.heap.size,i,V⟩=wc.cell? ⟨w.heap.size,i,V⟩:=fun i=>by
   unfold World.cell?;rw[gg,EW _ _ _ _ gf];rfl
  have X1:=fun x:RE.Two wc.drew wa=>RE.Two.b (p:=⟨w.heap.size,1,V⟩) (show wc.drew.cell? ⟨w.heap.size,1,V⟩=_ from e1) ((gm 1).trans e1) x
  have X2:=fun x:RE.Two wc.drew wa=>RE.Two.b (p:=⟨w.heap.size,2,V⟩) (show wc.drew.cell? ⟨w.heap.size,2,V⟩=_ from e2) ((gm 2).trans e2) x
  clear gg gm;refine RE.t (by kernel_rfl) 10 [9] [9] (fun s W=>if s=0 then W=wc.drew else W=wa) (fun _ _=>True) (fun _ _=>tT) (fun _ _ _=>True) (by kernel_rfl) (fun i R h2=>by cases hi:[9].contains i<;>simp_all) (fun _ _ _ _ _ _ _=>trivial) Z ?_
  simp only[Fg,Fu,Fh,Ft]
  repeat (refine RE.h (fun W=>∃x:RE.Two wc.drew wa,W=x.1) RE.y Z Z Z Z ?_;go_big_quiet_step (fail);refine vk ?_)
  refine RE.b Z Z ?_ (fun xs=>?_)
  ·intro W hC hS _;obtain rfl:W=wc.drew:=hS Z;refine RE.upon_skip (w':=wc.drew.setCell ⟨M,2,V⟩ (O V 0 0)) ?_ ⟨[],Z,hH.o.symm,trivial,trivial⟩;have mv:=tt wc.drew M 2 y2 m2 (fz 2);simp[execOp,Act.eval,mv]
  simp only[wj,Nat.reduceAdd]
  repeat (refine RE.h (fun W=>∃x:RE.Two wc.drew wa,W=x.1) RE.y Z Z Z Z ?_;go_big_quiet_step (fail);refine wpQuiet_nil ?_)
  refine RE.q ?_;intro W hS _;have hS:W=wa:=hS;rw[hS,hH.o];clear hS X1 X2;have a8:(wc.drew.setCell ⟨M,2,V⟩ (O V 0 0)).heap[M]?=A (p8 #[vT,O N rs.length cR,O V 0 0,y3,y4,y5,y6,y7] 98 (0,0)):=heap_set (show wc.drew.heap[M]?=_ from HM.o) 2 _;obtain⟨wb,hI⟩:=zzx (wc.drew.setCell ⟨M,2,V⟩ (O V 0 0));rw[←hI]at a8 bR ⊢;have m3:wb.cell? ⟨M,3,V⟩=A y3:=by rw[FR _ _ _ _ _ _ a8];rfl
  have m4:wb.cell? ⟨M,4,V⟩=A y4:=by rw[FR _ _ _ _ _ _ a8];rfl
  have m5:wb.cell? ⟨M,5,V⟩=A y5:=by rw[FR _ _ _ _ _ _ a8];rfl
  have m6:wb.cell? ⟨M,6,V⟩=A y6:=by rw[FR _ _ _ _ _ _ a8];rfl
  have m7:wb.cell? ⟨M,7,V⟩=A y7:=by rw[FR _ _ _ _ _ _ a8];rfl
  have fz:=cH a8;clear hI a8 D0;go_upto_region 4 with fail
  change Code.wp _ _ _ _ (((((wb.setCell ⟨M,3,V⟩ (p9 T.h)).setCell ⟨M,4,V⟩ (I Y T.q)).setCell ⟨M,5,V⟩ (I Y 0)).setCell ⟨M,6,V⟩ (O V 0 0)).setCell ⟨M,7,V⟩ (O V 0 0));rw[←bR];clear bR m3 m4 m5 m6 m7 fz gf;obtain⟨n0,n1,n2,n3,n4⟩:=cells5 c5.o;go_wp2_with fail
  go_loopw [65] (pP F d M ts rs vT (O N rs.length cR) T (O p n c) n w) (fun i _=>n-(intOf i).toNat)
  case atStart=>exact⟨0,⟨[],[],[]⟩,F,O V 0 0,O V 0 0,O V 0 0,Fi _,Z,Z,Fi _,ET _,ET _,mb.o,fun _ h=>h,fun _ h=>tE h,(fun v hv g C=>by simp only[FK,FH,o5,or_self]at hv;subst hv;cases C),mu.o⟩
  case round =>
   obtain⟨j,s,F',vV,vC,vA,hj,rfl,cl,c6,gD,oc,hJ,eo,et,av,b3⟩:=hrel;have oe:(0:Int)≤j:=by omega
   obtain⟨hL,y,HSub,cp,X,ev⟩:=zz6 cl hJ eo et av b3;have hM:Hid (Below B0 w wr):=Chg.T (EU B0 w) b3 HO.o b6;have gE:Hid (w.heap.size≤wr.heap.size):=b3.u;clear cl hJ eo et av b3 n0 n1 n2 n3 n4
   by_cases na:j<n
   ·have oi:(j:Int)<n:=by omega
    obtain⟨K,hK⟩:∃K,T.u[j]?=A K:=⟨_,EX (by rw[b9.o];exact na)⟩;have b8:=fp.o.C hM.o;rcases b8 with ⟨h0,_⟩|⟨b,off,cap,R,h2,h3,h4,he,h6⟩
    ·rw[h0]at hK;simp at hK
    rw[b9.o]at he h3;injection he with nc _ nd
    subst nc;subst nd;obtain⟨hN,sK,c0,c1,c2,c3,c4,c7⟩:=h6 j K hK;have c8:=l2.o K (Fv hK);have c9:=c7.t;obtain⟨ps,cq,hP⟩:=c9;obtain⟨nk,hQ⟩:=zzy (K.u.length);rw[hQ]at hP;subst hP;obtain⟨D,a7⟩:=zzx (wr.alloc (p8 #[I J K.b,p9 K.h,I Y K.q,I Y K.t,O ps nk cq] 64));have z:FS wr D:=by rw[a7];exact (EU _ wr).alloc (ET _) _
    have ba:D.heap[wr.heap.size]?=A (p8 #[I J K.b,p9 K.h,I Y K.q,I Y K.t,O ps nk cq] 64 (0,0)):=by rw[a7];exact ot wr _
    obtain⟨cr,hT⟩:=zz2 z ba;have b4:B0≤D.heap.size:=EZ b6 (EZ gE.o z.size);have hU:∀b,bf M [vT,O N rs.length cR,vV,vC,vA] b→B0≤b:=fun b q=>by
     rcases ql q with h|⟨v,hv,h⟩
     ·exact HO.o b h
     ·have:=X.o v hv b h;omega
    obtain⟨b1,ct,gF⟩:=zz3 (CB F' d M ts rs s.b T.h T.q 0 s.d s.e vT (O N rs.length cR) vV vC vA K (O ps nk cq) B0 D (y.o.C z) (by omega) c6 gS c8 (c7.C (z.mono (EZ b6 gE.o))) b4 hU) (fun (W:p7) (hW:FS D W) (hm:MkW F' d M ts rs s.b T.h T.q 0 s.d s.e vT (O N rs.length cR) vV vC vA W)=>DG F' d M ts rs s.b T.h T.q 0 s.d s.e vT (O N rs.length cR) vV vC vA K (O ps nk cq) B0 W hm (by omega) (by omega) gS c8 ((c7.C (z.mono (EZ b6 gE.o))).C (hW.mono b4)) (EZ b4 hW.size)) (it (f:=dy d ts) hK hL.o);have hX:=Hd (fun er (h:dy d ts s K=wD er)=>jm (f:=dy d ts) (l:=T.u) (k:=j+1) (s:=⟨[],[],[]⟩) (e:=er) (gF.o.trans h));have hY:=Hd c8;have b5:Hid (Chg (bf M [vT,O N rs.length cR]) w D):=ev.o.h (Chg.b z);have dd:Hid (∀b,bf M [vT,O N rs.length cR,vV,vC,vA] b→bf M [vT,O N rs.length cR] b∨w.heap.size≤b):=fun b q=>by
     rcases ql q with h|⟨v,hv,h⟩
     ·exact tE h
     ·exact tS (X.o v hv b h)
    have gH:Hid (w.heap.size≤D.heap.size):=b5.o.u;obtain⟨k0,k1,k2,k3,k4⟩:=cells5 ba;clear hN c7 h6 R h2 h3 h4 c8 hK z ba b4 hU hQ;go_upto_region 7 with fail
    change Code.wp _ _ _ _ (wr.alloc (p8 #[I J K.b,p9 K.h,I Y K.q,I Y K.t,O ps nk cq] 64));rw[←a7];clear a7 c0 c1 c2 c3 c4;go_wp2_with fail
    refine b1.o.mono ?_;rintro e W2 he;unfold rp at he;clear k0 k1 k2 k3 k4
    cases hc:de K with
    | true =>
     rw[hc]at he;simp only[o4]at he;obtain⟨b2,he⟩:=he
     cases hr:fx d ts s.b K with
     | error er =>
      rw[hr]at he;have he:e=aQ er.1 er.2:=he;subst he;refine⟨Z,dz b5.o b2 dd.o,?_⟩;rw[gb.o,hX.o er (by rw[rO hc hY.o,hr])];rfl
     | ok x =>
      rw[hr]at he;obtain⟨rfl,F2,ng,nn,a1,bb,h7,br,bt⟩:=he;have HR:Hid (pP F d M ts rs vT (O N rs.length cR) T (O (A ⟨b,off,V⟩) n c) n w (I Y ((j+1:Nat):Int)) W2):=by
       refine⟨j+1,⟨x.1,s.d++[x.2],s.e⟩,F2,ng,nn,vA,by omega,Z,?_,zR hr c6,by rw[Fl];simp;omega,by show s.e.length≤j+1;omega,a1,fun b q=>br b (HSub.o b q),fun b q=>?_,fun v hv g C=>?_,dz b5.o b2 dd.o⟩
       ·rw[gF.o,rO hc hY.o,hr]
       ·rcases bt b q with h|h
        ·exact cp.o b h
        ·exact tS (EZ gH.o h)
       ·simp only[FK,FH,o5]at hv;rcases hv with rfl|rfl|rfl
        ·rcases bb g C with h|h
         ·exact X.o vV (by simp) g h
         ·exact EZ gH.o h
        ·rcases h7 g C with h|h
         ·exact X.o vC (by simp) g h
         ·exact EZ gH.o h
        ·exact X.o v (by simp) g C
      clear a1 bb h7 br bt b2 hr hc b1 ct;go_wp2_with fail
      refine⟨HR.o,?_⟩;simp[intOf];omega
    | false =>
     rw[hc]at he;simp only[Fx,oX]at he;obtain⟨rfl,L,a1⟩:=he;have ih:=ag L hT.o (ES.1 hT.o).1;have cu:Hid (Chg (bf M [vT,O N rs.length cR]) w W2):=b5.o.h (Chg.b L);have HA:=Hd (ct.o W2 L a1);have iA:Hid (w.heap.size≤W2.heap.size):=cu.o.u;have iB:=Hd hc;obtain⟨k0,k1,k2,k3,k4⟩:=cells5 ih;clear ih L a1 hc b1 ct;go_wp2_with fail
     refine HA.o.mono ?_;rintro e W3 ⟨b2,he⟩;clear k0 k1 k2 k3 k4
     cases hr:iV d ts s.b s.d K with
     | error er =>
      rw[hr]at he;have he:e=aQ er.1 er.2:=he;subst he;refine⟨Z,dz cu.o b2 dd.o,?_⟩;rw[gb.o,hX.o er (by rw[vz iB.o,hr])];rfl
     | ok x =>
      rw[hr]at he;obtain⟨rfl,F2,nr,a1,bb,br,bt⟩:=he;have HR:Hid (pP F d M ts rs vT (O N rs.length cR) T (O (A ⟨b,off,V⟩) n c) n w (I Y ((j+1:Nat):Int)) W3):=by
       refine⟨j+1,⟨s.b,s.d,s.e++[x]⟩,F2,vV,vC,nr,by omega,Z,?_,c6,by show s.d.length≤j+1;omega,by rw[Fl];simp;omega,a1,fun b q=>br b (HSub.o b q),fun b q=>?_,fun v hv g C=>?_,dz cu.o b2 dd.o⟩
       ·rw[gF.o,vz iB.o,hr]
       ·rcases bt b q with h|h
        ·exact cp.o b h
        ·exact tS (EZ iA.o h)
       ·simp only[FK,FH,o5]at hv;rcases hv with rfl|rfl|rfl
        ·exact X.o v (by simp) g C
        ·exact X.o v (by simp) g C
        ·rcases bb g C with h|h
         ·exact X.o vA (by simp) g h
         ·exact EZ iA.o h
      clear a1 bb br bt b2 hr HA;go_wp2_with fail
      refine⟨HR.o,?_⟩;simp[intOf];omega
   ·have e5:bs (dy d ts) ⟨[],[],[]⟩ T.u=vb s:=by
     rw[←hL.o,Fq (by rw[b9.o];omega)]
    obtain⟨pV,cV,iX⟩:=y.o.v.b;obtain⟨pC,cC,jj⟩:=y.o.c.b;obtain⟨pA,cA,j2⟩:=y.o.a.b;obtain⟨nv,gL⟩:=zzy (s.b.length);obtain⟨nC,ka⟩:=zzy (s.d.length);obtain⟨nA,kk⟩:=zzy (s.e.length);rw[gL]at iX c6;rw[ka]at jj;rw[kk]at j2;subst iX;subst jj;subst j2;have kn:Hid (eE d ts rs T=vb (rs++[⟨T.h,T.q,(nv:Int),s.d,s.e⟩])):=by
     show _=_
     rw[gb.o,e5]
     show vb (rs++[⟨T.h,T.q,(s.b.length:Int),s.d,s.e⟩])=_
     rw[gL]
    have hm:=y.o.m;obtain⟨D,a7⟩:=zzx (wr.setCell ⟨M,5,V⟩ (I Y (nv:Int)));have b7:D.heap[M]?=A (p8 #[vT,O N rs.length cR,O pV nv cV,p9 T.h,I Y T.q,I Y (nv:Int),O pC nC cC,O pA nA cA] 98 (0,0)):=by rw[a7];exact heap_set hm 5 _
    have dg:∀b,b≠M→D.heap[b]?=wr.heap[b]?:=fun b q=>by rw[a7];exact EW wr ⟨M,5,V⟩ _ b q
    have e6:D.heap.size=wr.heap.size:=by rw[a7];simp[World.setCell]
    have gM:Hid (∀b,(F' b∨(O pC nC cC).ownBlock=A b∨(O pA nA cA).ownBlock=A b)→b<wr.heap.size∧¬bf M [vT,O N rs.length cR] b):=fun b q=>by
     rcases q with q|q|q
     ·exact⟨(y.o.f b q).1,fun S=>(y.o.f b q).2 (by
       rcases S with rfl|⟨v,hv,S⟩
       ·exact tE Z
       ·simp only[FK,FH,o5]at hv;rcases hv with rfl|rfl
        ·exact tS ⟨_,by simp,S⟩
        ·exact tS ⟨_,by simp,S⟩)⟩
     ·obtain⟨ds,h⟩:=y.o.c.h q;refine⟨y.o.c.lt q,fun S=>?_⟩;rcases S with rfl|⟨v,hv,S⟩
      ·exact row_ne hm y.o.c (by decide) q
      ·simp only[FK,FH,o5]at hv;rcases hv with rfl|rfl
       ·exact row_ne h y.o.t (by decide) S
       ·exact row_ne h y.o.r (by decide) S
     ·obtain⟨ds,h⟩:=y.o.a.h q;refine⟨y.o.a.lt q,fun S=>?_⟩;rcases S with rfl|⟨v,hv,S⟩
      ·exact row_ne hm y.o.a (by decide) q
      ·simp only[FK,FH,o5]at hv;rcases hv with rfl|rfl
       ·exact row_ne h y.o.t (by decide) S
       ·exact row_ne h y.o.r (by decide) S
    have ba:∀b,(F' b∨(O pC nC cC).ownBlock=A b∨(O pA nA cA).ownBlock=A b)→∀o,wr.heap[b]?=A o→D.heap[b]?=A o:=fun b q o S=>(dg b (fun e=>(gM.o b q).2 (tE e))).trans S
    obtain⟨Dr,Dc,Da,d1,d2,d3,d4,d5,dr,dc,da⟩:=y.o.rca;have cr:Hid (eN (fun b=>F' b∨(O pC nC cC).ownBlock=A b∨(O pA nA cA).ownBlock=A b) Dr d M ts rs vT (O N rs.length cR) D):=
     ⟨fun b q=>⟨by rw[e6];exact (gM.o b q).1,(gM.o b q).2⟩,fun b q=>tE (d1 b q),⟨_,_,_,_,_,_,b7⟩,
      y.o.t.t (fun g C=>dg g (fun e=>row_ne hm y.o.t (by decide) (e ▸ C))) (fun b q=>ba b (tE q)) (fun _ h=>tE h),
      dr.t (fun g C=>dg g (fun e=>row_ne hm y.o.r (by decide) (e ▸ C))) (fun b q=>ba b (tE (d1 b q))) (fun _ h=>h)⟩
    have nt:Hid ((ft d).lrow 53 D (fun b=>Dc b∨(O pC nC cC).ownBlock=A b) s.d (O pC nC cC)):=Rd.sm (fun b q=>ba b (q.elim (fun h=>tE (d2 b h)) (fun h=>tS (tE h)))) (dc.lrow (fun _ h=>tE h) (fun g C=>⟨tS C,fun h=>(y.o.f g (d2 g h)).2 (tS ⟨_,by simp,C⟩)⟩));have nu:Hid ((f6 d).lrow 59 D (fun b=>Da b∨(O pA nA cA).ownBlock=A b) s.e (O pA nA cA)):=Rd.sm (fun b q=>ba b (q.elim (fun h=>tE (d3 b h)) (fun h=>tS (tS h)))) (da.lrow (fun _ h=>tE h) (fun g C=>⟨tS C,fun h=>(y.o.f g (d3 g h)).2 (tS ⟨_,by simp,C⟩)⟩));have nx:Hid (∀b,(Dc b∨(O pC nC cC).ownBlock=A b)→¬(Da b∨(O pA nA cA).ownBlock=A b)):=fun b q L=>by
     rcases q with q|q
     ·rcases L with L|L
      ·exact d5 b q L
      ·exact (y.o.f b (d2 b q)).2 (tS ⟨_,by simp,L⟩)
     ·rcases L with L|L
      ·exact (y.o.f b (d3 b L)).2 (tS ⟨_,by simp,q⟩)
      ·exact y.o.c.T y.o.a (by decide) q L
    have nT:Hid (∀b,((Dc b∨(O pC nC cC).ownBlock=A b)∨(Da b∨(O pA nA cA).ownBlock=A b))→(F' b∨(O pC nC cC).ownBlock=A b∨(O pA nA cA).ownBlock=A b)∧¬Dr b):=fun b q=>by
     rcases q with (q|q)|(q|q)
     ·exact⟨tE (d2 b q),fun h=>(d4 b h).1 q⟩
     ·exact⟨tS (tE q),fun h=>(y.o.f b (d1 b h)).2 (tS ⟨_,by simp,q⟩)⟩
     ·exact⟨tE (d3 b q),fun h=>(d4 b h).2 q⟩
     ·exact⟨tS (tS q),fun h=>(y.o.f b (d1 b h)).2 (tS ⟨_,by simp,q⟩)⟩
    have kr:Hid (Chg (bf M [vT,O N rs.length cR]) w D):=by show Chg _ _ _;rw[a7];exact ev.o.t (p:=⟨M,5,V⟩) (tE (tE Z)) _
    have bc:=Hd b7;have m2:wr.cell? ⟨M,2,V⟩=A (O pV nv cV):=by rw[FR _ _ _ _ _ _ hm];rfl
    have m5:wr.cell? ⟨M,5,V⟩=A (I Y 0):=by rw[FR _ _ _ _ _ _ hm];rfl
    have fz:=cH hm;clear e5 gL ka kk hm b7 dg e6 ba;go_upto_region 11 with fail
    change Code.wp _ _ _ _ (wr.setCell ⟨M,5,V⟩ (I Y (nv:Int)));rw[←a7];clear a7 m2 m5 fz;obtain⟨us,av,gD⟩:=cr.o.rl;rw[HN.o]at av;have av:D.ownsRow 0 39 5 (O N nR cR) nR us:=av;obtain⟨gN,ks⟩:=zz2 av gD;have kv:D.cell? ⟨M,1,V⟩=A (O N nR cR):=by rw[FR _ _ _ _ _ _ bc.o,←HN.o];rfl
    have ck:D.cell? ⟨M,3,V⟩=A (p9 T.h):=by rw[FR _ _ _ _ _ _ bc.o];rfl
    have kI:D.cell? ⟨M,4,V⟩=A (I Y T.q):=by rw[FR _ _ _ _ _ _ bc.o];rfl
    have b7:D.cell? ⟨M,5,V⟩=A (I Y (nv:Int)):=by rw[FR _ _ _ _ _ _ bc.o];rfl
    have k5:D.cell? ⟨M,6,V⟩=A (O pC nC cC):=by rw[FR _ _ _ _ _ _ bc.o];rfl
    have k6:D.cell? ⟨M,7,V⟩=A (O pA nA cA):=by rw[FR _ _ _ _ _ _ bc.o];rfl
    have hK:∀b,b=M→b<D.heap.size∧(O N nR cR).ownBlock≠A b:=fun b q=>by
     rw[←HN.o,q];exact⟨cr.o.lt,row_ne bc.o cr.o.r (by decide)⟩
    have k7:=Hd (kb (E:=39) (sz:=5) (row:=us++[p9 T.h,I Y T.q,I Y (nv:Int),O pC nC cC,O pA nA cA]) (K:=fun b=>b=M) hK);have M1:=fun x:Ks D (fun b=>b=M)=>x.b Z kv
    have M3:=fun x:Ks D (fun b=>b=M)=>x.b Z ck
    have M4:=fun x:Ks D (fun b=>b=M)=>x.b Z kI
    have M5:=fun x:Ks D (fun b=>b=M)=>x.b Z b7
    have M6:=fun x:Ks D (fun b=>b=M)=>x.b Z k5
    have M7:=fun x:Ks D (fun b=>b=M)=>x.b Z k6
    clear av gD hK kv ck kI b7 k5 k6;refine RE.t (by kernel_rfl) 13 [11,12] [12] (stA 39 5 D N nR cR (us++[p9 T.h,I Y T.q,I Y (nv:Int),O pC nC cC,O pA nA cA])) (ApR D) (fun _ ys=>ys.getD 0 tT) (phA 39 5 D N nR cR [p9 T.h,I Y T.q,I Y (nv:Int),O pC nC cC,O pA nA cA] (us++[p9 T.h,I Y T.q,I Y (nv:Int),O pC nC cC,O pA nA cA]) 11 12) (by kernel_rfl) (fun _ _ _ _ _ _ h q=>h.C q) (fun _ _ _ _ h _ hR=>h.t hR) stA.zero ?_;simp only[Fg,Fu,Fh,Ft]
    repeat (refine RE.h (fun W=>∃x:Ks D (fun b=>b=M),W=x.1) (k7.o _) Z Z Z stA.zero ?_;go_big_quiet_step (fail);refine vk ?_)
    refine RE.b Z Z ?_ (fun n5=>?_)
    ·intro W hC hS P;obtain⟨s9,_,h9⟩:=hC;exact eL uf (vs:=[p9 T.h,I Y T.q,I Y (nv:Int),O pC nC cC,O pA nA cA]) _ Z Z Z h9.u (fun v W' q S=>⟨[v],Z,q,ApR.b q,S⟩)
    simp only[wj,EV,Fe,Fc,Nat.reduceAdd];refine RE.b Z Z ?_ (fun k8=>?_)
    ·intro W hC hS P;obtain⟨x,rfl⟩:∃x:Wb D,W=x.1:=hS Z;exact iH uf (p:=N) (n:=nR) (c:=cR) (w4:=D) (vs:=[p9 T.h,I Y T.q,I Y (nv:Int),O pC nC cC,O pA nA cA]) (xs:=us) _ _ Z Z (P 11 n5 (by kernel_rfl) Z) Z (by simp[Value.oneCell']) x.2 gN.o (by omega) (fun v' W' R h2 h3=>⟨[v'],Z,R,h2,h3⟩)
    simp only[wj,EV,Fe,Fc,Nat.reduceAdd];refine RE.q ?_;intro W hS P;have hS:ApS 39 5 D N nR cR (us++[p9 T.h,I Y T.q,I Y (nv:Int),O pC nC cC,O pA nA cA]) W:=hS;have hV:ApV 39 5 D N nR cR (us++[p9 T.h,I Y T.q,I Y (nv:Int),O pC nC cC,O pA nA cA]) W (k8.getD 0 tT):=P 12 k8 Z;obtain⟨g',cap,eg,C,hC,e7⟩:=jq hS hV;rw[eg];have k9:Chg (fun b=>(O N rs.length cR).ownBlock=A b) D W:=by rw[HN.o];exact hC
    have bb:(O N rs.length cR).ownBlock=A g'∨D.heap.size≤g':=by rw[HN.o];exact C
    have la:(eU d).at_ D (fun b=>(Dc b∨(O pC nC cC).ownBlock=A b)∨(Da b∨(O pA nA cA).ownBlock=A b)) ⟨T.h,T.q,(nv:Int),s.d,s.e⟩ [p9 T.h,I Y T.q,I Y (nv:Int),O pC nC cC,O pA nA cA]:=pE.2 ⟨l0,gT,⟨by show (-9223372036854775808:Int)≤(nv:Int);omega,by show (nv:Int)<9223372036854775808;omega⟩,_,_,_,_,Z,nt.o,nu.o,(fun _ h=>tE h),(fun _ h=>tS h),nx.o⟩;obtain⟨lb,ld,gO⟩:=cr.o.pushR HN.o ks.o la nT.o bb k9 e7;have a8:W.cell? ⟨M,1,V⟩=A (O N nR cR):=by rw[FR _ _ _ _ _ _ (gO.trans bc.o),←HN.o];rfl
    have oj:=bM (gO.trans bc.o) 1;have HP:Hid (mF F d M ts vT (O N rs.length cR) (vb (rs++[⟨T.h,T.q,(nv:Int),s.d,s.e⟩])) w (Ending.returned (wF #[])) (W.setCell ⟨M,1,V⟩ (O (A ⟨g',0,V⟩) (nR+1) cap))):=by
     refine⟨dz kr.o ld (fun x hx=>tE hx),Z,_,_,lb,fun b q=>?_,fun b q=>tE (HSub.o b q),fun b q=>?_⟩
     ·injection q with q
      have q:g'=b:=q;subst q;rcases bb with h|h
      ·exact tE h
      ·have:=kr.o.u;exact tS (by omega)
     ·rcases q with q|q|q
      ·exact cp.o b q
      ·exact tS (X.o _ (by simp) b q)
      ·exact tS (X.o _ (by simp) b q)
    clear hS hV P eg C hC e7 k9 bb lb ld gO M1 M3 M4 M5 M6 M7 k7 la;go_wp2_with fail
    go_end0
    rw[kn.o];exact HP.o
