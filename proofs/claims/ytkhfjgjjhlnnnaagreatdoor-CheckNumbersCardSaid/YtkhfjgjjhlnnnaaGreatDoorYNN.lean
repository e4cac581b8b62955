/- The rule checker: a rule is made; by contract. Condition: as its parts'. Printed by tools/genWhole.py. -/
import Derived.Test.YtkhfjgjjhlnnnaaGreatDoorYNL
open Except renaming error→BT,ok→AF
open Go renaming Value→wF,World→wD,undef→At,wpQuiet_nil→Bk
open Option renaming some→Y,none→U
open Or renaming inl→z6,inr→z7
open Go.Value renaming tuple→CA,agg→xS,string→J,int→I,slice→A,pointer→xV
open Go.IntKind renaming i64→Z,u8→O
open Bool renaming false→xj,true→wP
open Go.Obj renaming cells→wq
open Decidable renaming decide→xv
open Go.Act renaming put→B4
namespace Go.Proofs.YtkhfjgjjhlnnnaaGreatDoor
set_option maxHeartbeats 16000000
set_option maxRecDepth 100000
open Go.RowKit
def eJ(d:Nat) (types:List ae) (rs:List an) (T:ab):Except Flt (List an):=
 if (idxOf T.f (rs.map an.a)).isSome then BT (210,T.y)
 else if T.h < -1000||1000<T.h then BT (2,T.y)
 else if 64≤rs.length||8<dn T.u||8<T.u.length-dn T.u then BT (204,T.y)
 else match aG (aC d types) ⟨[],[],[]⟩ T.u with
  | .error e=>BT e
  | .ok s=>AF (rs++[⟨T.f,T.h,s.b.length,s.c,s.d⟩])
theorem zP(l:List ab):dn l≤l.length:=by
 unfold dn
 induction l with
 | nil=>exact EO _
 | cons z l a =>
  rw[List.takeWhile_cons]
  split
  ·simp only[Fv];omega
  ·simp
theorem qx{M:Nat}{vT vR vV vC vA:wF}{b:Nat}(h:bj M [vT,vR,vV,vC,vA] b):bj M [vT,vR] b∨∃v∈[vV,vC,vA],v.ownBlock=Y b:=by
 rcases h with rfl|⟨v,c,a⟩
 ·exact z6 (z6 V)
 ·simp only[FA,Fy,sI]at c;rcases c with rfl|rfl|rfl|rfl|rfl
  ·exact z6 (z7 ⟨_,by simp,a⟩)
  ·exact z6 (z7 ⟨_,by simp,a⟩)
  ·exact z7 ⟨_,by simp,a⟩
  ·exact z7 ⟨_,by simp,a⟩
  ·exact z7 ⟨_,by simp,a⟩
theorem rR{b:Bool}:∀(l:List ab) (s c:List ByteArray×List dw),aG (bU b) s l=AF c→s.1.length≤16→c.1.length≤16
 | [],s,c,h,d=>by injection h with h;rw[←h];exact d
 | K::l,s,c,h,d=>by
  unfold aG at h
  cases a:bU b s K with
  | error e=>rw[a]at h;cases h
  | ok s1 =>
   rw[a]at h;refine rR l s1 c h ?_;unfold bU at a
   split at a
   ·injection a with a;rw[←a];exact d
   ·split at a
    ·split at a
     ·injection a with a;rw[←a];exact d
     ·split at a
      ·cases a
      ·split at a
       ·cases a
       ·injection a with a
        rw[←a]
        show (s.1++[K.f]).length≤16
        rw[Fc];simp;omega
    ·injection a with a;rw[←a];exact d
theorem zI{d:Nat}{ts:List ae}{vars:List ByteArray}{K:ab}{x:List ByteArray×aW}(h:fN d ts vars K=AF x)(c:vars.length≤16):x.1.length≤16:=by
 have key:∀(b:Bool) (kd:Int) (f:Except Flt Nat),dX b kd f vars K.u=AF x→x.1.length≤16:=fun b kd f h=>by
  unfold dX at h
  split at h
  ·cases h
  ·cases a:aG (bU b) (vars,[]) K.u with
   | error e=>rw[a]at h;cases h
   | ok r =>
    rw[a]at h;injection h with h
    rw[←h];exact rR K.u (vars,[]) r a c
 unfold fN at h
 split at h
 ·exact key _ _ _ h
 ·split at h
  ·exact key _ _ _ h
  ·split at h
   ·cases h
   ·unfold jL at h
    split at h
    ·cases h
    ·injection h with h;rw[←h];exact c
def m9(F:Nat→Prop) (d M:Nat) (ts:List ae) (vT vR:wF) (r:Except Flt (List an)) (w:wD) (e:Ending) (w':wD):Prop:=
 Chg (bj M [vT,vR]) w w'∧match r with
 | .ok c=>e=Ending.returned (CA #[])∧∃(F':Nat→Prop) (a:wF),MkB F' d M ts c vT a w'∧Grew vR a w.heap.size∧(∀b,F b→F' b)∧∀b,F' b→F b∨w.heap.size≤b
 | .error er=>e=aU er.1 er.2
theorem mb:Elem 50 30 5 80:=Elem.of (z:=xS #[J ByteArray.empty,I Z 0,I Z 0,A U 0 0,A U 0 0]) Tryz.underlying30 (by kernel_rfl) (by kernel_rfl) (by decide) (by decide)
def qi(F:Nat→Prop) (d M:Nat) (ts:List ae) (rs:List an) (vT vR:wF) (T:ab) (_sl:wF) (n:Nat) (w:wD) (i:wF) (W:wD):Prop:=
 ∃(j:Nat) (s:RSt) (F':Nat→Prop) (vV vC vA:wF),j≤n∧i=I Z (j:Int)∧aG (aC d ts) ⟨[],[],[]⟩ (T.u.take j)=AF s∧s.b.length≤16∧s.c.length≤j∧s.d.length≤j∧MkW F' d M ts rs s.b T.f T.h 0 s.c s.d vT vR vV vC vA W∧
  (∀b,F b→F' b)∧(∀b,F' b→F b∨w.heap.size≤b)∧(∀v∈[vV,vC,vA],∀g,v.ownBlock=Y g→w.heap.size≤g)∧Chg (bj M [vT,vR]) w W
theorem tt(W:wD)(b o:Nat)(u:wF)(a:W.cell? ⟨b,o,U⟩=Y u)(c:W.frozen? ⟨b,o,U⟩=xj):(Instr.storeAt 77 (xV (Y ⟨b,o,U⟩)) (A U 0 0)).run Tryz.prog W=.ok () (W.setCell ⟨b,o,U⟩ (A U 0 0)):=by simp[Instr.storeAt,Instr.sureAddr,go_sem,a,c]
theorem zl(F:Nat→Prop)(d M:Nat)(ts:List ae)(rs:List an)(vT vR:wF)(T:ab)(p:Option Addr)(n c B0:Nat)(w:wD)
  (hw:MkB F d M ts rs vT vR w) (hk:T.b=4) (gL:ts.length≤10000) (k8:rs.length≤10000) (eo:T.u.length=n) (hn:n≤10000) (ca:ao w B0 (d+2) T.u (A p n c)) (b8:B0≤w.heap.size) (hO:∀b,bj M [vT,vR] b→B0≤b)
  (k9:T.f.size≤maxLen) (gM:I64 T.h) (hp:∀K∈T.u,lQ d K) :
  Calls Tryz.prog 23 #[xV (Y ⟨M,0,U⟩),xS #[I O T.b,J T.f,I Z T.h,I Z T.y,A p n c]] w (m9 F d M ts vT vR (eJ d ts rs T) w):=by
 rw[hk];change Calls Tryz.prog 23 #[xV (Y ⟨M,0,U⟩),xS #[I O 4,J T.f,I Z T.h,I Z T.y,A p n c]] w _;obtain⟨L,N,la⟩:=hw.r.b;subst la;obtain⟨nR,cT⟩:=zzy (rs.length);have HN:=Hd cT;rw[cT]at k8;obtain⟨kc,cW⟩:=zzy (dn T.u);have nn:kc≤n:=by rw[←cW,←eo];exact zP _
 obtain⟨ep,gN⟩:=zz2 (fun (W:wD) (hW:FK w W)=>zH T.u (A p n c) (d+1) W ((ca.z (hW.mono b8)).up (EU b8 hW.size)) (by omega)) cW;rw[cW]at ep;obtain⟨w0,c5⟩:=zzx (w.alloc (wq #[I O 4,J T.f,I Z T.h,I Z T.y,A p n c] 25));have et:FK w w0:=by rw[c5];exact (EP _ w).alloc (EO _) _
 have ev:w0.heap[w.heap.size]?=Y (wq #[I O 4,J T.f,I Z T.h,I Z T.y,A p n c] 25 (0,0)):=by rw[c5];exact p9 w _
 obtain⟨gO,gS,HW,nd,gT⟩:=zz5 ev et hw (fun g D=>hw.r.lt (g:=g) D) (fun b q=>hw.b (b:=b) q);have ng:=Hd (fun b (q:F b)=>(hw.f b q).1);obtain⟨e5,cb,HO,lb,ha⟩:=zz5 ca eo hO hp (ep.o w0 et);obtain⟨e0,e1,e2,e3,e4⟩:=cells5 ev;clear et hw hk ca eo cW hO hp ev ep
 go_enter Tryz.func23,Tryz.ntmps23
 go_upto_region 1 with fail
 change Code.wp _ _ _ _ (w.alloc (wq #[I O 4,J T.f,I Z T.h,I Z T.y,A p n c] 25));rw[←c5];clear c5;go_wp2_with fail
 refine ha.o.mono ?_;rintro e w1 ⟨rfl,e6⟩;have e7:=aa e6 gO.o (EN.1 gO.o).1;obtain⟨af,hd⟩:=zz2 (gS.o.trans (e6.mono gS.o.size)) e7;have c6:=Hd (HW.o.z af.o);clear e6 e0 e1 e2 e3 e4;obtain⟨e0,e1,e2,e3,e4⟩:=cells5 e7;obtain⟨X,z⟩:=zzx (bP (idxOf T.f (rs.map an.a)));have al:Hid (xv ((0:Int)≤X)=(idxOf T.f (rs.map an.a)).isSome):=by
  show _=_
  rw[z]
  cases idxOf T.f (rs.map an.a) with
  | none=>rfl
  | some k=>show xv ((0:Int)≤(k:Int))=wP;simp
 have bn:=Hd (fun (W:wD) (h:FK w1 W)=>vo d rs T.f _ _ M W (c6.o.z h).row_r (fun _ h=>h) (c6.o.z h).u.2);rw[←z]at bn;have e8:w1.cell? ⟨M,1,U⟩=Y (A L nR N):=by rw[c6.o.u.2,HN.o]
 have E0:=fun x:Wb w1=>x.b e0
 have E1:=fun x:Wb w1=>x.b e1
 have E2:=fun x:Wb w1=>x.b e2
 have E3:=fun x:Wb w1=>x.b e3
 have E4:=fun x:Wb w1=>x.b e4
 have MR:=fun x:Wb w1=>x.b e8
 clear e7 z;have nr:(-9223372036854775808:Int)≤(n:Int)-kc:=by omega
 have nt:(n:Int)-kc<9223372036854775808:=by omega
 go_upto_region 2 with fail
 go_cut [] from 10 to 51 (fun W2=>FK w1 W2∧(idxOf T.f (rs.map an.a)).isSome=xj∧(xv (T.h < -1000)||decide (1000<T.h))=xj∧(xv (64≤nR)||decide (8<kc)||decide (8<n-kc))=xj)
 case first =>
  have hf:(idxOf T.f (rs.map an.a)).isSome=wP→eJ d ts rs T=BT (210,T.y):=fun h=>by unfold eJ;rw[rv h]
  have hl:(idxOf T.f (rs.map an.a)).isSome=xj→(xv (T.h < -1000)||decide (1000<T.h))=wP→eJ d ts rs T=BT (2,T.y):=fun h h2=>by
   unfold eJ;rw[h,qv (by decide),rv h2]
  have hq:(idxOf T.f (rs.map an.a)).isSome=xj→(xv (T.h < -1000)||decide (1000<T.h))=xj→(xv (64≤nR)||decide (8<kc)||decide (8<n-kc))=wP→eJ d ts rs T=BT (204,T.y):=fun h h2 h3=>by
   unfold eJ;rw[h,qv (by decide),h2,qv (by decide),rv (by rw[HN.o,gN.o,cb.o];exact h3)]
  obtain⟨aq,ar,b1⟩:=zz3 hf hl hq;clear hf hl hq cT
  by_cases bq:T.h < -1000
  ·have bq:T.h < -1000:=bq;have br:=Hd bq;have ld:xv (T.h < -1000)=true:=decide_eq_true bq
   by_cases cc:64≤nR
   ·have ch:(64:Int)≤nR:=by omega
    have dp:=Hd cc;refine RE.u (by kernel_rfl) 40 [6,39] [] (fun _ W=>∃x:Wb w1,W=x.1) (fun W W'=>FK W W') (fun i ys=>if i=6 then I Z (X:Int) else ys.getD 0 At) (fun i W ys=>if i=39 then cH w1.heap.size [(xv ((0:Int)≤X),210),(wP,2),(wP,204)] W (ys.getD 0 At) else True) (by kernel_rfl) (fun _ _ _ _ _ _ h q=>bC h q) (fun i W W' ys h _ q=>by split at h;(rw[rv (by assumption)];exact h.z q);rw[qv (by assumption)];trivial) ⟨⟨w1.drew,(EP _ _).drew⟩,V⟩ ?_;simp only[EY,Fi,EZ,Fh]
    repeat (refine RE.b (fun W=>∃x:Wb w1,W=x.1) (fun _ _ _ h=>h) V V V ⟨⟨w1.drew,(EP _ _).drew⟩,V⟩ ?_;go_big_quiet_step (fail);refine Bk ?_)
    refine RE.f V V ?_ (fun ck=>?_)
    ·intro W hC _ P;obtain⟨s9,_,x,rfl⟩:=hC;refine RE.y 35 _ _ V (enters_of Tryz.func35 (by kernel_rfl) V) #[xV (Y ⟨M,0,U⟩),J T.f] (by simp[Act.eval]) ((bn.o x.1 x.2).mono ?_);rintro e W' ⟨rfl,q⟩;exact⟨_,V,[],V,q,q,trivial⟩
    simp only[B4,EQ,EW,EV,Nat.reduceAdd,↓reduceIte]
    repeat (refine RE.b (fun W=>∃x:Wb w1,W=x.1) (fun _ _ _ h=>h) V V V ⟨⟨w1.drew,(EP _ _).drew⟩,V⟩ ?_;go_big_quiet_step (fail);refine Bk ?_)
    refine RE.f V V ?_ (fun ys=>?_)
    ·intro W hC _ P;obtain⟨s9,_,x,rfl⟩:=hC;exact iK _ _ _ 210 2 204 _ _ _ V V V V x.2.size (fun v W' q S=>⟨[v],V,q,q,S⟩)
    simp only[B4,EQ,EW,EV,Nat.reduceAdd,Nat.reduceEqDiff,↓reduceIte];refine RE.h ?_;intro W hS P;obtain⟨x,rfl⟩:=hS;obtain⟨g,eg,lg,D⟩:cH w1.heap.size [(xv ((0:Int)≤X),210),(wP,2),(wP,204)] x.1 (ys.getD 0 At):=P 39 ys V;rw[eg];have a6:=Hd (bY [(xv ((0:Int)≤X),210),(wP,2),(wP,204)] 4 T.f T.h T.y (A p n c) g 3 3 x.1 V (by omega) D);have Q:=Hd x.2;clear P eg lg D E0 E1 E2 E3 E4 MR;go_wp2_with fail
    refine a6.o.mono ?_;rintro e W2 ⟨y,he⟩;have G:=Q.o.trans (y.mono Q.o.size);clear y;have H:Hid (FK w W2):=af.o.trans (G.mono af.o.size)
    cases R:xv ((0:Int)≤X) with
    | true =>
     rw[R]at he;have he:e=aU 210 T.y:=he;subst he;refine⟨V,Chg.f H.o,?_⟩;rw[aq.o (al.o.symm.trans R)];rfl
    | false =>
     rw[R]at he;have z:=al.o.symm.trans R;have he:e=aU 2 T.y:=he;subst he;refine⟨V,Chg.f H.o,?_⟩;rw[ar.o z (by rw[decide_eq_true br.o];rfl)];rfl
   ·have ch:¬(64:Int)≤nR:=by omega
    have c7:=Hd cc
    by_cases h8:8<kc
    ·have e9:(8:Int)<kc:=by omega
     have hs:=Hd h8;refine RE.u (by kernel_rfl) 40 [6,39] [] (fun _ W=>∃x:Wb w1,W=x.1) (fun W W'=>FK W W') (fun i ys=>if i=6 then I Z (X:Int) else ys.getD 0 At) (fun i W ys=>if i=39 then cH w1.heap.size [(xv ((0:Int)≤X),210),(wP,2),(wP,204)] W (ys.getD 0 At) else True) (by kernel_rfl) (fun _ _ _ _ _ _ h q=>bC h q) (fun i W W' ys h _ q=>by split at h;(rw[rv (by assumption)];exact h.z q);rw[qv (by assumption)];trivial) ⟨⟨w1.drew,(EP _ _).drew⟩,V⟩ ?_;simp only[EY,Fi,EZ,Fh]
     repeat (refine RE.b (fun W=>∃x:Wb w1,W=x.1) (fun _ _ _ h=>h) V V V ⟨⟨w1.drew,(EP _ _).drew⟩,V⟩ ?_;go_big_quiet_step (fail);refine Bk ?_)
     refine RE.f V V ?_ (fun ck=>?_)
     ·intro W hC _ P;obtain⟨s9,_,x,rfl⟩:=hC;refine RE.y 35 _ _ V (enters_of Tryz.func35 (by kernel_rfl) V) #[xV (Y ⟨M,0,U⟩),J T.f] (by simp[Act.eval]) ((bn.o x.1 x.2).mono ?_);rintro e W' ⟨rfl,q⟩;exact⟨_,V,[],V,q,q,trivial⟩
     simp only[B4,EQ,EW,EV,Nat.reduceAdd,↓reduceIte]
     repeat (refine RE.b (fun W=>∃x:Wb w1,W=x.1) (fun _ _ _ h=>h) V V V ⟨⟨w1.drew,(EP _ _).drew⟩,V⟩ ?_;go_big_quiet_step (fail);refine Bk ?_)
     refine RE.f V V ?_ (fun ys=>?_)
     ·intro W hC _ P;obtain⟨s9,_,x,rfl⟩:=hC;exact iK _ _ _ 210 2 204 _ _ _ V V V V x.2.size (fun v W' q S=>⟨[v],V,q,q,S⟩)
     simp only[B4,EQ,EW,EV,Nat.reduceAdd,Nat.reduceEqDiff,↓reduceIte];refine RE.h ?_;intro W hS P;obtain⟨x,rfl⟩:=hS;obtain⟨g,eg,lg,D⟩:cH w1.heap.size [(xv ((0:Int)≤X),210),(wP,2),(wP,204)] x.1 (ys.getD 0 At):=P 39 ys V;rw[eg];have a6:=Hd (bY [(xv ((0:Int)≤X),210),(wP,2),(wP,204)] 4 T.f T.h T.y (A p n c) g 3 3 x.1 V (by omega) D);have Q:=Hd x.2;clear P eg lg D E0 E1 E2 E3 E4 MR;go_wp2_with fail
     refine a6.o.mono ?_;rintro e W2 ⟨y,he⟩;have G:=Q.o.trans (y.mono Q.o.size);clear y;have H:Hid (FK w W2):=af.o.trans (G.mono af.o.size)
     cases R:xv ((0:Int)≤X) with
     | true =>
      rw[R]at he;have he:e=aU 210 T.y:=he;subst he;refine⟨V,Chg.f H.o,?_⟩;rw[aq.o (al.o.symm.trans R)];rfl
     | false =>
      rw[R]at he;have z:=al.o.symm.trans R;have he:e=aU 2 T.y:=he;subst he;refine⟨V,Chg.f H.o,?_⟩;rw[ar.o z (by rw[decide_eq_true br.o];rfl)];rfl
    ·have e9:¬(8:Int)<kc:=by omega
     have ht:=Hd h8;refine RE.u (by kernel_rfl) 40 [6,39] [] (fun _ W=>∃x:Wb w1,W=x.1) (fun W W'=>FK W W') (fun i ys=>if i=6 then I Z (X:Int) else ys.getD 0 At) (fun i W ys=>if i=39 then cH w1.heap.size [(xv ((0:Int)≤X),210),(wP,2),(xv ((8:Int)<(n:Int)-kc),204)] W (ys.getD 0 At) else True) (by kernel_rfl) (fun _ _ _ _ _ _ h q=>bC h q) (fun i W W' ys h _ q=>by split at h;(rw[rv (by assumption)];exact h.z q);rw[qv (by assumption)];trivial) ⟨⟨w1.drew,(EP _ _).drew⟩,V⟩ ?_;simp only[EY,Fi,EZ,Fh]
     repeat (refine RE.b (fun W=>∃x:Wb w1,W=x.1) (fun _ _ _ h=>h) V V V ⟨⟨w1.drew,(EP _ _).drew⟩,V⟩ ?_;go_big_quiet_step (fail);refine Bk ?_)
     refine RE.f V V ?_ (fun ck=>?_)
     ·intro W hC _ P;obtain⟨s9,_,x,rfl⟩:=hC;refine RE.y 35 _ _ V (enters_of Tryz.func35 (by kernel_rfl) V) #[xV (Y ⟨M,0,U⟩),J T.f] (by simp[Act.eval]) ((bn.o x.1 x.2).mono ?_);rintro e W' ⟨rfl,q⟩;exact⟨_,V,[],V,q,q,trivial⟩
     simp only[B4,EQ,EW,EV,Nat.reduceAdd,↓reduceIte]
     repeat (refine RE.b (fun W=>∃x:Wb w1,W=x.1) (fun _ _ _ h=>h) V V V ⟨⟨w1.drew,(EP _ _).drew⟩,V⟩ ?_;go_big_quiet_step (fail);refine Bk ?_)
     refine RE.f V V ?_ (fun ys=>?_)
     ·intro W hC _ P;obtain⟨s9,_,x,rfl⟩:=hC;exact iK _ _ _ 210 2 204 _ _ _ V V V V x.2.size (fun v W' q S=>⟨[v],V,q,q,S⟩)
     simp only[B4,EQ,EW,EV,Nat.reduceAdd,Nat.reduceEqDiff,↓reduceIte];refine RE.h ?_;intro W hS P;obtain⟨x,rfl⟩:=hS;obtain⟨g,eg,lg,D⟩:cH w1.heap.size [(xv ((0:Int)≤X),210),(wP,2),(xv ((8:Int)<(n:Int)-kc),204)] x.1 (ys.getD 0 At):=P 39 ys V;rw[eg];have a6:=Hd (bY [(xv ((0:Int)≤X),210),(wP,2),(xv ((8:Int)<(n:Int)-kc),204)] 4 T.f T.h T.y (A p n c) g 3 3 x.1 V (by omega) D);have Q:=Hd x.2;clear P eg lg D E0 E1 E2 E3 E4 MR;go_wp2_with fail
     refine a6.o.mono ?_;rintro e W2 ⟨y,he⟩;have G:=Q.o.trans (y.mono Q.o.size);clear y;have H:Hid (FK w W2):=af.o.trans (G.mono af.o.size)
     cases R:xv ((0:Int)≤X) with
     | true =>
      rw[R]at he;have he:e=aU 210 T.y:=he;subst he;refine⟨V,Chg.f H.o,?_⟩;rw[aq.o (al.o.symm.trans R)];rfl
     | false =>
      rw[R]at he;have z:=al.o.symm.trans R;have he:e=aU 2 T.y:=he;subst he;refine⟨V,Chg.f H.o,?_⟩;rw[ar.o z (by rw[decide_eq_true br.o];rfl)];rfl
  ·have bq:¬T.h < -1000:=bq;have br:=Hd bq;have ld:xv (T.h < -1000)=false:=r6 bq
   by_cases cc:64≤nR
   ·have ch:(64:Int)≤nR:=by omega
    have dp:=Hd cc;refine RE.u (by kernel_rfl) 40 [6,39] [] (fun _ W=>∃x:Wb w1,W=x.1) (fun W W'=>FK W W') (fun i ys=>if i=6 then I Z (X:Int) else ys.getD 0 At) (fun i W ys=>if i=39 then cH w1.heap.size [(xv ((0:Int)≤X),210),(xv ((1000:Int)<T.h),2),(wP,204)] W (ys.getD 0 At) else True) (by kernel_rfl) (fun _ _ _ _ _ _ h q=>bC h q) (fun i W W' ys h _ q=>by split at h;(rw[rv (by assumption)];exact h.z q);rw[qv (by assumption)];trivial) ⟨⟨w1.drew,(EP _ _).drew⟩,V⟩ ?_;simp only[EY,Fi,EZ,Fh]
    repeat (refine RE.b (fun W=>∃x:Wb w1,W=x.1) (fun _ _ _ h=>h) V V V ⟨⟨w1.drew,(EP _ _).drew⟩,V⟩ ?_;go_big_quiet_step (fail);refine Bk ?_)
    refine RE.f V V ?_ (fun ck=>?_)
    ·intro W hC _ P;obtain⟨s9,_,x,rfl⟩:=hC;refine RE.y 35 _ _ V (enters_of Tryz.func35 (by kernel_rfl) V) #[xV (Y ⟨M,0,U⟩),J T.f] (by simp[Act.eval]) ((bn.o x.1 x.2).mono ?_);rintro e W' ⟨rfl,q⟩;exact⟨_,V,[],V,q,q,trivial⟩
    simp only[B4,EQ,EW,EV,Nat.reduceAdd,↓reduceIte]
    repeat (refine RE.b (fun W=>∃x:Wb w1,W=x.1) (fun _ _ _ h=>h) V V V ⟨⟨w1.drew,(EP _ _).drew⟩,V⟩ ?_;go_big_quiet_step (fail);refine Bk ?_)
    refine RE.f V V ?_ (fun ys=>?_)
    ·intro W hC _ P;obtain⟨s9,_,x,rfl⟩:=hC;exact iK _ _ _ 210 2 204 _ _ _ V V V V x.2.size (fun v W' q S=>⟨[v],V,q,q,S⟩)
    simp only[B4,EQ,EW,EV,Nat.reduceAdd,Nat.reduceEqDiff,↓reduceIte];refine RE.h ?_;intro W hS P;obtain⟨x,rfl⟩:=hS;obtain⟨g,eg,lg,D⟩:cH w1.heap.size [(xv ((0:Int)≤X),210),(xv ((1000:Int)<T.h),2),(wP,204)] x.1 (ys.getD 0 At):=P 39 ys V;rw[eg];have a6:=Hd (bY [(xv ((0:Int)≤X),210),(xv ((1000:Int)<T.h),2),(wP,204)] 4 T.f T.h T.y (A p n c) g 3 3 x.1 V (by omega) D);have Q:=Hd x.2;clear P eg lg D E0 E1 E2 E3 E4 MR;go_wp2_with fail
    refine a6.o.mono ?_;rintro e W2 ⟨y,he⟩;have G:=Q.o.trans (y.mono Q.o.size);clear y;have H:Hid (FK w W2):=af.o.trans (G.mono af.o.size)
    cases R:xv ((0:Int)≤X) with
    | true =>
     rw[R]at he;have he:e=aU 210 T.y:=he;subst he;refine⟨V,Chg.f H.o,?_⟩;rw[aq.o (al.o.symm.trans R)];rfl
    | false =>
     rw[R]at he;have z:=al.o.symm.trans R
     cases h2:xv ((1000:Int)<T.h) with
     | true =>
      rw[h2]at he;have he:e=aU 2 T.y:=he;subst he;refine⟨V,Chg.f H.o,?_⟩;rw[ar.o z (by rw[show xv (1000<T.h)=wP from h2,Bool.or_true])];rfl
     | false =>
      rw[h2]at he;have ak:(xv (T.h < -1000)||decide (1000<T.h))=false:=by rw[r6 (show ¬T.h < -1000 by have:=br.o;omega),show xv (1000<T.h)=xj from h2];rfl
      have he:e=aU 204 T.y:=he;subst he;refine⟨V,Chg.f H.o,?_⟩;rw[b1.o z ak (by rw[decide_eq_true dp.o];rfl)];rfl
   ·have ch:¬(64:Int)≤nR:=by omega
    have c7:=Hd cc
    by_cases h8:8<kc
    ·have e9:(8:Int)<kc:=by omega
     have hs:=Hd h8;refine RE.u (by kernel_rfl) 40 [6,39] [] (fun _ W=>∃x:Wb w1,W=x.1) (fun W W'=>FK W W') (fun i ys=>if i=6 then I Z (X:Int) else ys.getD 0 At) (fun i W ys=>if i=39 then cH w1.heap.size [(xv ((0:Int)≤X),210),(xv ((1000:Int)<T.h),2),(wP,204)] W (ys.getD 0 At) else True) (by kernel_rfl) (fun _ _ _ _ _ _ h q=>bC h q) (fun i W W' ys h _ q=>by split at h;(rw[rv (by assumption)];exact h.z q);rw[qv (by assumption)];trivial) ⟨⟨w1.drew,(EP _ _).drew⟩,V⟩ ?_;simp only[EY,Fi,EZ,Fh]
     repeat (refine RE.b (fun W=>∃x:Wb w1,W=x.1) (fun _ _ _ h=>h) V V V ⟨⟨w1.drew,(EP _ _).drew⟩,V⟩ ?_;go_big_quiet_step (fail);refine Bk ?_)
     refine RE.f V V ?_ (fun ck=>?_)
     ·intro W hC _ P;obtain⟨s9,_,x,rfl⟩:=hC;refine RE.y 35 _ _ V (enters_of Tryz.func35 (by kernel_rfl) V) #[xV (Y ⟨M,0,U⟩),J T.f] (by simp[Act.eval]) ((bn.o x.1 x.2).mono ?_);rintro e W' ⟨rfl,q⟩;exact⟨_,V,[],V,q,q,trivial⟩
     simp only[B4,EQ,EW,EV,Nat.reduceAdd,↓reduceIte]
     repeat (refine RE.b (fun W=>∃x:Wb w1,W=x.1) (fun _ _ _ h=>h) V V V ⟨⟨w1.drew,(EP _ _).drew⟩,V⟩ ?_;go_big_quiet_step (fail);refine Bk ?_)
     refine RE.f V V ?_ (fun ys=>?_)
     ·intro W hC _ P;obtain⟨s9,_,x,rfl⟩:=hC;exact iK _ _ _ 210 2 204 _ _ _ V V V V x.2.size (fun v W' q S=>⟨[v],V,q,q,S⟩)
     simp only[B4,EQ,EW,EV,Nat.reduceAdd,Nat.reduceEqDiff,↓reduceIte];refine RE.h ?_;intro W hS P;obtain⟨x,rfl⟩:=hS;obtain⟨g,eg,lg,D⟩:cH w1.heap.size [(xv ((0:Int)≤X),210),(xv ((1000:Int)<T.h),2),(wP,204)] x.1 (ys.getD 0 At):=P 39 ys V;rw[eg];have a6:=Hd (bY [(xv ((0:Int)≤X),210),(xv ((1000:Int)<T.h),2),(wP,204)] 4 T.f T.h T.y (A p n c) g 3 3 x.1 V (by omega) D);have Q:=Hd x.2;clear P eg lg D E0 E1 E2 E3 E4 MR;go_wp2_with fail
     refine a6.o.mono ?_;rintro e W2 ⟨y,he⟩;have G:=Q.o.trans (y.mono Q.o.size);clear y;have H:Hid (FK w W2):=af.o.trans (G.mono af.o.size)
     cases R:xv ((0:Int)≤X) with
     | true =>
      rw[R]at he;have he:e=aU 210 T.y:=he;subst he;refine⟨V,Chg.f H.o,?_⟩;rw[aq.o (al.o.symm.trans R)];rfl
     | false =>
      rw[R]at he;have z:=al.o.symm.trans R
      cases h2:xv ((1000:Int)<T.h) with
      | true =>
       rw[h2]at he;have he:e=aU 2 T.y:=he;subst he;refine⟨V,Chg.f H.o,?_⟩;rw[ar.o z (by rw[show xv (1000<T.h)=wP from h2,Bool.or_true])];rfl
      | false =>
       rw[h2]at he;have ak:(xv (T.h < -1000)||decide (1000<T.h))=false:=by rw[r6 (show ¬T.h < -1000 by have:=br.o;omega),show xv (1000<T.h)=xj from h2];rfl
       have he:e=aU 204 T.y:=he;subst he;refine⟨V,Chg.f H.o,?_⟩;rw[b1.o z ak (by rw[decide_eq_true hs.o,Bool.or_true];rfl)];rfl
    ·have e9:¬(8:Int)<kc:=by omega
     have ht:=Hd h8;refine RE.u (by kernel_rfl) 40 [6,39] [] (fun _ W=>∃x:Wb w1,W=x.1) (fun W W'=>FK W W') (fun i ys=>if i=6 then I Z (X:Int) else ys.getD 0 At) (fun i W ys=>if i=39 then cH w1.heap.size [(xv ((0:Int)≤X),210),(xv ((1000:Int)<T.h),2),(xv ((8:Int)<(n:Int)-kc),204)] W (ys.getD 0 At) else True) (by kernel_rfl) (fun _ _ _ _ _ _ h q=>bC h q) (fun i W W' ys h _ q=>by split at h;(rw[rv (by assumption)];exact h.z q);rw[qv (by assumption)];trivial) ⟨⟨w1.drew,(EP _ _).drew⟩,V⟩ ?_;simp only[EY,Fi,EZ,Fh]
     repeat (refine RE.b (fun W=>∃x:Wb w1,W=x.1) (fun _ _ _ h=>h) V V V ⟨⟨w1.drew,(EP _ _).drew⟩,V⟩ ?_;go_big_quiet_step (fail);refine Bk ?_)
     refine RE.f V V ?_ (fun ck=>?_)
     ·intro W hC _ P;obtain⟨s9,_,x,rfl⟩:=hC;refine RE.y 35 _ _ V (enters_of Tryz.func35 (by kernel_rfl) V) #[xV (Y ⟨M,0,U⟩),J T.f] (by simp[Act.eval]) ((bn.o x.1 x.2).mono ?_);rintro e W' ⟨rfl,q⟩;exact⟨_,V,[],V,q,q,trivial⟩
     simp only[B4,EQ,EW,EV,Nat.reduceAdd,↓reduceIte]
     repeat (refine RE.b (fun W=>∃x:Wb w1,W=x.1) (fun _ _ _ h=>h) V V V ⟨⟨w1.drew,(EP _ _).drew⟩,V⟩ ?_;go_big_quiet_step (fail);refine Bk ?_)
     refine RE.f V V ?_ (fun ys=>?_)
     ·intro W hC _ P;obtain⟨s9,_,x,rfl⟩:=hC;exact iK _ _ _ 210 2 204 _ _ _ V V V V x.2.size (fun v W' q S=>⟨[v],V,q,q,S⟩)
     simp only[B4,EQ,EW,EV,Nat.reduceAdd,Nat.reduceEqDiff,↓reduceIte];refine RE.h ?_;intro W hS P;obtain⟨x,rfl⟩:=hS;obtain⟨g,eg,lg,D⟩:cH w1.heap.size [(xv ((0:Int)≤X),210),(xv ((1000:Int)<T.h),2),(xv ((8:Int)<(n:Int)-kc),204)] x.1 (ys.getD 0 At):=P 39 ys V;rw[eg];have a6:=Hd (bY [(xv ((0:Int)≤X),210),(xv ((1000:Int)<T.h),2),(xv ((8:Int)<(n:Int)-kc),204)] 4 T.f T.h T.y (A p n c) g 3 3 x.1 V (by omega) D);have Q:=Hd x.2;clear P eg lg D E0 E1 E2 E3 E4 MR;go_wp2_with fail
     refine a6.o.mono ?_;rintro e W2 ⟨y,he⟩;have G:=Q.o.trans (y.mono Q.o.size);clear y;have H:Hid (FK w W2):=af.o.trans (G.mono af.o.size)
     cases R:xv ((0:Int)≤X) with
     | true =>
      rw[R]at he;have he:e=aU 210 T.y:=he;subst he;refine⟨V,Chg.f H.o,?_⟩;rw[aq.o (al.o.symm.trans R)];rfl
     | false =>
      rw[R]at he;have z:=al.o.symm.trans R
      cases h2:xv ((1000:Int)<T.h) with
      | true =>
       rw[h2]at he;have he:e=aU 2 T.y:=he;subst he;refine⟨V,Chg.f H.o,?_⟩;rw[ar.o z (by rw[show xv (1000<T.h)=wP from h2,Bool.or_true])];rfl
      | false =>
       rw[h2]at he;have ak:(xv (T.h < -1000)||decide (1000<T.h))=false:=by rw[r6 (show ¬T.h < -1000 by have:=br.o;omega),show xv (1000<T.h)=xj from h2];rfl
       cases h3:xv ((8:Int)<(n:Int)-kc) with
       | true =>
        rw[h3]at he;have fe:8<n-kc:=by have:=of_decide_eq_true h3;omega
        have he:e=aU 204 T.y:=he;subst he;refine⟨V,Chg.f H.o,?_⟩;rw[b1.o z ak (by rw[decide_eq_true fe,Bool.or_true])];rfl
       | false =>
        rw[h3]at he;have fe:¬8<n-kc:=by have:=of_decide_eq_false h3;omega
        have he:e=Ending.returned (CA #[]):=he;subst he;have HP:Hid (FK w1 W2∧(idxOf T.f (rs.map an.a)).isSome=xj∧(xv (T.h < -1000)||decide (1000<T.h))=xj∧(xv (64≤nR)||decide (8<kc)||decide (8<n-kc))=xj):=⟨G,z,ak,by rw[r6 fe,r6 c7.o,r6 ht.o];rfl⟩;clear R h2 h3 he G e0 e1 e2 e3 e4 e8 ak z;go_wp2_with fail
        go_meet
        case rel=>exact HP.o
 case rest =>
  obtain⟨bb,z,ak,hy⟩:=hcut;have fm:Hid (eJ d ts rs T=match aG (aC d ts) ⟨[],[],[]⟩ T.u with | .error e=>BT e | .ok s=>AF (rs++[⟨T.f,T.h,s.b.length,s.c,s.d⟩])):=by
   show _=_
   unfold eJ;rw[z,qv (by decide),ak,qv (by decide),qv (by rw[HN.o,gN.o,cb.o,hy];decide)]
  obtain⟨lf,bt⟩:=zz2 (af.o.trans (bb.mono af.o.size)) (c6.o.z bb);have ak:=aa bb hd.o (EN.1 hd.o).1;have br:=Hd ak;obtain⟨y2,y3,y4,y5,y6,y7,hm⟩:=bt.o.m;obtain⟨w3,b2⟩:=zzx (((((((wc.drew.setCell ⟨M,2,U⟩ (A U 0 0)).setCell ⟨M,3,U⟩ (J T.f)).setCell ⟨M,4,U⟩ (I Z T.h)).setCell ⟨M,5,U⟩ (I Z 0)).setCell ⟨M,6,U⟩ (A U 0 0)).setCell ⟨M,7,U⟩ (A U 0 0)));have cl:w3.heap[M]?=Y (wq #[vT,A L rs.length N,A U 0 0,J T.f,I Z T.h,I Z 0,A U 0 0,A U 0 0] 79 (0,0)):=by
   rw[b2];have h2:(wc.drew.setCell ⟨M,2,U⟩ (A U 0 0)).heap[M]?=Y (wq #[vT,A L rs.length N,A U 0 0,y3,y4,y5,y6,y7] 79 (0,0)):=heap_set hm 2 _;have h3:((wc.drew.setCell ⟨M,2,U⟩ (A U 0 0)).setCell ⟨M,3,U⟩ (J T.f)).heap[M]?=Y (wq #[vT,A L rs.length N,A U 0 0,J T.f,y4,y5,y6,y7] 79 (0,0)):=heap_set h2 3 _;have h4:(((wc.drew.setCell ⟨M,2,U⟩ (A U 0 0)).setCell ⟨M,3,U⟩ (J T.f)).setCell ⟨M,4,U⟩ (I Z T.h)).heap[M]?=Y (wq #[vT,A L rs.length N,A U 0 0,J T.f,I Z T.h,y5,y6,y7] 79 (0,0)):=heap_set h3 4 _;have h5:((((wc.drew.setCell ⟨M,2,U⟩ (A U 0 0)).setCell ⟨M,3,U⟩ (J T.f)).setCell ⟨M,4,U⟩ (I Z T.h)).setCell ⟨M,5,U⟩ (I Z 0)).heap[M]?=Y (wq #[vT,A L rs.length N,A U 0 0,J T.f,I Z T.h,I Z 0,y6,y7] 79 (0,0)):=heap_set h4 5 _;have h6:(((((wc.drew.setCell ⟨M,2,U⟩ (A U 0 0)).setCell ⟨M,3,U⟩ (J T.f)).setCell ⟨M,4,U⟩ (I Z T.h)).setCell ⟨M,5,U⟩ (I Z 0)).setCell ⟨M,6,U⟩ (A U 0 0)).heap[M]?=Y (wq #[vT,A L rs.length N,A U 0 0,J T.f,I Z T.h,I Z 0,A U 0 0,y7] 79 (0,0)):=heap_set h5 6 _;exact heap_set h6 7 _
  have bB:∀b,b≠M→w3.heap[b]?=wc.heap[b]?:=fun b q=>by
   have hh:∀(k7:wD) (i:Nat) (u:wF),(k7.setCell ⟨M,i,U⟩ u).heap[b]?=k7.heap[b]?:=fun k7 i u=>ER k7 ⟨M,i,U⟩ u b q
   rw[b2,hh,hh,hh,hh,hh,hh];rfl
  have dv:w3.heap.size=wc.heap.size:=by rw[b2];simp[World.setCell]
  have fp:w.heap.size≠M:=fun e=>by have:=gT.o M (z6 V);omega
  have c7:Hid (w3.heap[w.heap.size]?=Y (wq #[I O 4,J T.f,I Z T.h,I Z T.y,A p n c] 25 (0,0))):=(bB _ fp).trans ak;have lo:∀b,bj M [vT,A L rs.length N,A U 0 0,A U 0 0,A U 0 0] b→bj M [vT,A L rs.length N] b:=fun b q=>by
   rcases q with rfl|⟨v,hv,q⟩
   ·exact z6 V
   ·simp only[FA,Fy,sI]at hv;rcases hv with rfl|rfl|rfl|rfl|rfl
    ·exact z7 ⟨_,by simp,q⟩
    ·exact z7 ⟨_,by simp,q⟩
    ·cases q
    ·cases q
    ·cases q
  have l0:Hid (MkW F d M ts rs [] T.f T.h 0 [] [] vT (A L rs.length N) (A U 0 0) (A U 0 0) (A U 0 0) w3):=by
   have l1:∀b,F b→b≠M:=fun b q e=>(bt.o.f b q).2 (z6 e)
   have hk:∀b,F b→∀o,wc.heap[b]?=Y o→w3.heap[b]?=Y o:=fun b q o S=>(bB b (l1 b q)).trans S
   exact⟨fun b q=>⟨by rw[dv];exact (bt.o.f b q).1,fun S=>(bt.o.f b q).2 (lo b S)⟩,cl,
    bt.o.t.C (fun g D=>bB g (fun e=>row_ne hm bt.o.t (by decide) (e ▸ D))) hk (fun _ h=>h),
    bt.o.r.C (fun g D=>bB g (fun e=>row_ne hm bt.o.r (by decide) (e ▸ D))) hk (fun _ h=>h),aH.nil,aH.nil,aH.nil⟩
  have l2:Hid (Chg (bj M [vT,A L rs.length N]) w w3):=by
   show Chg _ _ _
   rw[b2];exact ((((((Chg.f lf.o.drew).y (p:=⟨M,2,U⟩) (z6 (z6 V)) _).y (p:=⟨M,3,U⟩) (z6 (z6 V)) _).y (p:=⟨M,4,U⟩) (z6 (z6 V)) _).y (p:=⟨M,5,U⟩) (z6 (z6 V)) _).y (p:=⟨M,6,U⟩) (z6 (z6 V)) _).y (p:=⟨M,7,U⟩) (z6 (z6 V)) _
  clear e0 e1 e2 e3 e4 E0 E1 E2 E3 E4 MR e8 z hy bb cT bn al;obtain⟨e0,e1,e2,e3,e4⟩:=cells5 ak;have m2:wc.cell? ⟨M,2,U⟩=Y y2:=by rw[FI _ _ _ _ _ _ hm];rfl
  have fz:=aE hm;have HM:=Hd hm;clear ak hm cl bB dv;have D0:Hid (wc.drew.setCell ⟨M,2,U⟩ (A U 0 0)=(wc.setCell ⟨M,2,U⟩ (A U 0 0)).drew):=rfl;go_upto_region 3 with fail
  obtain⟨wa,fv⟩:=zzx (wc.drew.setCell ⟨M,2,U⟩ (A U 0 0));have hz:=Hd fv;have fI:∀i,wa.cell? ⟨w.heap.size,i,U⟩=wc.cell? ⟨w.heap.size,i,U⟩:=fun i=>by
   unfold World.cell?;rw[fv,ER _ _ _ _ fp];rfl
  have X1:=fun x:RE.Two wc.drew wa=>RE.Two.b (p:=⟨w.heap.size,1,U⟩) (show wc.drew.cell? ⟨w.heap.size,1,U⟩=_ from e1) ((fI 1).trans e1) x
  have X2:=fun x:RE.Two wc.drew wa=>RE.Two.b (p:=⟨w.heap.size,2,U⟩) (show wc.drew.cell? ⟨w.heap.size,2,U⟩=_ from e2) ((fI 2).trans e2) x
  clear fv fI;refine RE.u (by kernel_rfl) 10 [9] [9] (fun s W=>if s=0 then W=wc.drew else W=wa) (fun _ _=>True) (fun _ _=>At) (fun _ _ _=>True) (by kernel_rfl) (fun i R h2=>by cases hi:[9].contains i<;>simp_all) (fun _ _ _ _ _ _ _=>trivial) V ?_
  simp only[EY,Fi,EZ,Fh]
  repeat (refine RE.b (fun W=>∃x:RE.Two wc.drew wa,W=x.1) RE.z V V V V ?_;go_big_quiet_step (fail);refine Bk ?_)
  refine RE.f V V ?_ (fun xs=>?_)
  ·intro W hC hS _;obtain rfl:W=wc.drew:=hS V;refine RE.C (w':=wc.drew.setCell ⟨M,2,U⟩ (A U 0 0)) ?_ ⟨[],V,hz.o.symm,trivial,trivial⟩;have l3:=tt wc.drew M 2 y2 m2 (fz 2);simp[execOp,Act.eval,l3]
  simp only[B4,Nat.reduceAdd]
  repeat (refine RE.b (fun W=>∃x:RE.Two wc.drew wa,W=x.1) RE.z V V V V ?_;go_big_quiet_step (fail);refine wpQuiet_nil ?_)
  refine RE.h ?_;intro W hS _;have hS:W=wa:=hS;rw[hS,hz.o];clear hS X1 X2;have bc:(wc.drew.setCell ⟨M,2,U⟩ (A U 0 0)).heap[M]?=Y (wq #[vT,A L rs.length N,A U 0 0,y3,y4,y5,y6,y7] 79 (0,0)):=heap_set (show wc.drew.heap[M]?=_ from HM.o) 2 _;obtain⟨wb,hA⟩:=zzx (wc.drew.setCell ⟨M,2,U⟩ (A U 0 0));rw[←hA]at bc b2 ⊢;have m3:wb.cell? ⟨M,3,U⟩=Y y3:=by rw[FI _ _ _ _ _ _ bc];rfl
  have m4:wb.cell? ⟨M,4,U⟩=Y y4:=by rw[FI _ _ _ _ _ _ bc];rfl
  have m5:wb.cell? ⟨M,5,U⟩=Y y5:=by rw[FI _ _ _ _ _ _ bc];rfl
  have m6:wb.cell? ⟨M,6,U⟩=Y y6:=by rw[FI _ _ _ _ _ _ bc];rfl
  have m7:wb.cell? ⟨M,7,U⟩=Y y7:=by rw[FI _ _ _ _ _ _ bc];rfl
  have fz:=aE bc;clear hA bc D0;go_upto_region 4 with fail
  change Code.wp _ _ _ _ (((((wb.setCell ⟨M,3,U⟩ (J T.f)).setCell ⟨M,4,U⟩ (I Z T.h)).setCell ⟨M,5,U⟩ (I Z 0)).setCell ⟨M,6,U⟩ (A U 0 0)).setCell ⟨M,7,U⟩ (A U 0 0));rw[←b2];clear b2 m3 m4 m5 m6 m7 fz fp;obtain⟨n0,n1,n2,n3,n4⟩:=cells5 c7.o;go_wp2_with fail
  go_loopw [65] (qi F d M ts rs vT (A L rs.length N) T (A p n c) n w) (fun i _=>n-(intOf i).toNat)
  case atStart=>exact⟨0,⟨[],[],[]⟩,F,A U 0 0,A U 0 0,A U 0 0,Fa _,V,V,Fa _,EO _,EO _,l0.o,fun _ h=>h,fun _ h=>z6 h,(fun v hv g D=>by simp only[FA,Fy,sI,or_self]at hv;subst hv;cases D),l2.o⟩
  case round =>
   obtain⟨j,s,F',vV,vC,vA,hj,rfl,cq,c8,fM,nu,hD,ea,eb,av,b5⟩:=hrel;have nx:(0:Int)≤j:=by omega
   obtain⟨hG,B,HSub,cr,ad,ec⟩:=zz6 cq hD ea eb av b5;have hI:Hid (Below B0 w wr):=Chg.C (EP B0 w) b5 HO.o b8;have fT:Hid (w.heap.size≤wr.heap.size):=b5.h;clear cq hD ea eb av b5 n0 n1 n2 n3 n4
   by_cases l4:j<n
   ·have nT:(j:Int)<n:=by omega
    obtain⟨K,hK⟩:∃K,T.u[j]?=Y K:=⟨_,ES (by rw[cb.o];exact l4)⟩;have ca:=e5.o.z hI.o;rcases ca with ⟨h0,_⟩|⟨b,off,cap,R,h2,h3,h4,he,h6⟩
    ·rw[h0]at hK;simp at hK
    rw[cb.o]at he h3;injection he with ma _ mc
    subst ma;subst mc;obtain⟨hJ,sK,c0,c1,c2,c3,c4,c9⟩:=h6 j K hK;have da:=lb.o K (Fj hK);have dc:=c9.f;obtain⟨ps,ct,hL⟩:=dc;obtain⟨nk,hM⟩:=zzy (K.u.length);rw[hM]at hL;subst hL;obtain⟨C,ba⟩:=zzx (wr.alloc (wq #[I O K.b,J K.f,I Z K.h,I Z K.y,A ps nk ct] 25));have y:FK wr C:=by rw[ba];exact (EP _ wr).alloc (EO _) _
    have bd:C.heap[wr.heap.size]?=Y (wq #[I O K.b,J K.f,I Z K.h,I Z K.y,A ps nk ct] 25 (0,0)):=by rw[ba];exact p9 wr _
    obtain⟨cu,hN⟩:=zz2 y bd;have b6:B0≤C.heap.size:=EU b8 (EU fT.o y.size);have hP:∀b,bj M [vT,A L rs.length N,vV,vC,vA] b→B0≤b:=fun b q=>by
     rcases qx q with h|⟨v,hv,h⟩
     ·exact HO.o b h
     ·have:=ad.o v hv b h;omega
    obtain⟨b3,cv,gf⟩:=zz3 (Ct F' d M ts rs s.b T.f T.h 0 s.c s.d vT (A L rs.length N) vV vC vA K (A ps nk ct) B0 C (B.o.z y) (by omega) c8 gL da (c9.z (y.mono (EU b8 fT.o))) b6 hP) (fun (W:wD) (hW:FK C W) (hm:MkW F' d M ts rs s.b T.f T.h 0 s.c s.d vT (A L rs.length N) vV vC vA W)=>DG F' d M ts rs s.b T.f T.h 0 s.c s.d vT (A L rs.length N) vV vC vA K (A ps nk ct) B0 W hm (by omega) (by omega) gL da ((c9.z (y.mono (EU b8 fT.o))).z (hW.mono b6)) (EU b6 hW.size)) (gA (f:=aC d ts) hK hG.o);have hQ:=Hd (fun er (h:aC d ts s K=BT er)=>gB (f:=aC d ts) (l:=T.u) (k:=j+1) (s:=⟨[],[],[]⟩) (e:=er) (gf.o.trans h));have hT:=Hd da;have b7:Hid (Chg (bj M [vT,A L rs.length N]) w C):=ec.o.b (Chg.f y);have dd:Hid (∀b,bj M [vT,A L rs.length N,vV,vC,vA] b→bj M [vT,A L rs.length N] b∨w.heap.size≤b):=fun b q=>by
     rcases qx q with h|⟨v,hv,h⟩
     ·exact z6 h
     ·exact z7 (ad.o v hv b h)
    have gg:Hid (w.heap.size≤C.heap.size):=b7.o.h;obtain⟨k0,k1,k2,k3,k4⟩:=cells5 bd;clear hJ c9 h6 R h2 h3 h4 da hK y bd b6 hP hM;go_upto_region 7 with fail
    change Code.wp _ _ _ _ (wr.alloc (wq #[I O K.b,J K.f,I Z K.h,I Z K.y,A ps nk ct] 25));rw[←ba];clear ba c0 c1 c2 c3 c4;go_wp2_with fail
    refine b3.o.mono ?_;rintro e W2 he;unfold rF at he;clear k0 k1 k2 k3 k4
    cases hc:aO K with
    | true =>
     rw[hc]at he;simp only[sx]at he;obtain⟨b4,he⟩:=he
     cases hr:fN d ts s.b K with
     | error er =>
      rw[hr]at he;have he:e=aU er.1 er.2:=he;subst he;refine⟨V,cj b7.o b4 dd.o,?_⟩;rw[fm.o,hQ.o er (by rw[rY hc hT.o,hr])];rfl
     | ok x =>
      rw[hr]at he;obtain⟨rfl,F2,mn,mu,a1,bk,hX,bR,b0⟩:=he;have HR:Hid (qi F d M ts rs vT (A L rs.length N) T (A (Y ⟨b,off,U⟩) n c) n w (I Z ((j+1:Nat):Int)) W2):=by
       refine⟨j+1,⟨x.1,s.c++[x.2],s.d⟩,F2,mn,mu,vA,by omega,V,?_,zI hr c8,by rw[Fc];simp;omega,by show s.d.length≤j+1;omega,a1,fun b q=>bR b (HSub.o b q),fun b q=>?_,fun v hv g D=>?_,cj b7.o b4 dd.o⟩
       ·rw[gf.o,rY hc hT.o,hr]
       ·rcases b0 b q with h|h
        ·exact cr.o b h
        ·exact z7 (EU gg.o h)
       ·simp only[FA,Fy,sI]at hv;rcases hv with rfl|rfl|rfl
        ·rcases bk g D with h|h
         ·exact ad.o vV (by simp) g h
         ·exact EU gg.o h
        ·rcases hX g D with h|h
         ·exact ad.o vC (by simp) g h
         ·exact EU gg.o h
        ·exact ad.o v (by simp) g D
      clear a1 bk hX bR b0 b4 hr hc b3 cv;go_wp2_with fail
      refine⟨HR.o,?_⟩;simp[intOf];omega
    | false =>
     rw[hc]at he;simp only[Fo,sm]at he;obtain⟨rfl,bb,a1⟩:=he;have hY:=aa bb hN.o (EN.1 hN.o).1;have cx:Hid (Chg (bj M [vT,A L rs.length N]) w W2):=b7.o.b (Chg.f bb);have HA:=Hd (cv.o W2 bb a1);have h7:Hid (w.heap.size≤W2.heap.size):=cx.o.h;have ih:=Hd hc;obtain⟨k0,k1,k2,k3,k4⟩:=cells5 hY;clear hY bb a1 hc b3 cv;go_wp2_with fail
     refine HA.o.mono ?_;rintro e W3 ⟨b4,he⟩;clear k0 k1 k2 k3 k4
     cases hr:i4 d ts s.b s.c K with
     | error er =>
      rw[hr]at he;have he:e=aU er.1 er.2:=he;subst he;refine⟨V,cj cx.o b4 dd.o,?_⟩;rw[fm.o,hQ.o er (by rw[zq7 ih.o,hr])];rfl
     | ok x =>
      rw[hr]at he;obtain⟨rfl,F2,mv,a1,bk,bR,b0⟩:=he;have HR:Hid (qi F d M ts rs vT (A L rs.length N) T (A (Y ⟨b,off,U⟩) n c) n w (I Z ((j+1:Nat):Int)) W3):=by
       refine⟨j+1,⟨s.b,s.c,s.d++[x]⟩,F2,vV,vC,mv,by omega,V,?_,c8,by show s.c.length≤j+1;omega,by rw[Fc];simp;omega,a1,fun b q=>bR b (HSub.o b q),fun b q=>?_,fun v hv g D=>?_,cj cx.o b4 dd.o⟩
       ·rw[gf.o,zq7 ih.o,hr]
       ·rcases b0 b q with h|h
        ·exact cr.o b h
        ·exact z7 (EU h7.o h)
       ·simp only[FA,Fy,sI]at hv;rcases hv with rfl|rfl|rfl
        ·exact ad.o v (by simp) g D
        ·exact ad.o v (by simp) g D
        ·rcases bk g D with h|h
         ·exact ad.o vA (by simp) g h
         ·exact EU h7.o h
      clear a1 bk bR b0 b4 hr HA;go_wp2_with fail
      refine⟨HR.o,?_⟩;simp[intOf];omega
   ·have ek:aG (aC d ts) ⟨[],[],[]⟩ T.u=AF s:=by
     rw[←hG.o,Fg (by rw[cb.o];omega)]
    obtain⟨pV,cV,iv⟩:=B.o.v.b;obtain⟨pC,cC,iA⟩:=B.o.c.b;obtain⟨pA,cA,iB⟩:=B.o.a.b;obtain⟨nv,gD⟩:=zzy (s.b.length);obtain⟨nC,iX⟩:=zzy (s.c.length);obtain⟨nA,i1⟩:=zzy (s.d.length);rw[gD]at iv c8;rw[iX]at iA;rw[i1]at iB;subst iv;subst iA;subst iB;have jj:Hid (eJ d ts rs T=AF (rs++[⟨T.f,T.h,(nv:Int),s.c,s.d⟩])):=by
     show _=_
     rw[fm.o,ek]
     show AF (rs++[⟨T.f,T.h,(s.b.length:Int),s.c,s.d⟩])=_
     rw[gD]
    have hm:=B.o.m;obtain⟨C,ba⟩:=zzx (wr.setCell ⟨M,5,U⟩ (I Z (nv:Int)));have b9:C.heap[M]?=Y (wq #[vT,A L rs.length N,A pV nv cV,J T.f,I Z T.h,I Z (nv:Int),A pC nC cC,A pA nA cA] 79 (0,0)):=by rw[ba];exact heap_set hm 5 _
    have dg:∀b,b≠M→C.heap[b]?=wr.heap[b]?:=fun b q=>by rw[ba];exact ER wr ⟨M,5,U⟩ _ b q
    have el:C.heap.size=wr.heap.size:=by rw[ba];simp[World.setCell]
    have gE:Hid (∀b,(F' b∨(A pC nC cC).ownBlock=Y b∨(A pA nA cA).ownBlock=Y b)→b<wr.heap.size∧¬bj M [vT,A L rs.length N] b):=fun b q=>by
     rcases q with q|q|q
     ·exact⟨(B.o.f b q).1,fun S=>(B.o.f b q).2 (by
       rcases S with rfl|⟨v,hv,S⟩
       ·exact z6 V
       ·simp only[FA,Fy,sI]at hv;rcases hv with rfl|rfl
        ·exact z7 ⟨_,by simp,S⟩
        ·exact z7 ⟨_,by simp,S⟩)⟩
     ·obtain⟨ds,h⟩:=B.o.c.f q;refine⟨B.o.c.lt q,fun S=>?_⟩;rcases S with rfl|⟨v,hv,S⟩
      ·exact row_ne hm B.o.c (by decide) q
      ·simp only[FA,Fy,sI]at hv;rcases hv with rfl|rfl
       ·exact row_ne h B.o.t (by decide) S
       ·exact row_ne h B.o.r (by decide) S
     ·obtain⟨ds,h⟩:=B.o.a.f q;refine⟨B.o.a.lt q,fun S=>?_⟩;rcases S with rfl|⟨v,hv,S⟩
      ·exact row_ne hm B.o.a (by decide) q
      ·simp only[FA,Fy,sI]at hv;rcases hv with rfl|rfl
       ·exact row_ne h B.o.t (by decide) S
       ·exact row_ne h B.o.r (by decide) S
    have bd:∀b,(F' b∨(A pC nC cC).ownBlock=Y b∨(A pA nA cA).ownBlock=Y b)→∀o,wr.heap[b]?=Y o→C.heap[b]?=Y o:=fun b q o S=>(dg b (fun e=>(gE.o b q).2 (z6 e))).trans S
    have cu:Hid (MkB (fun b=>F' b∨(A pC nC cC).ownBlock=Y b∨(A pA nA cA).ownBlock=Y b) d M ts rs vT (A L rs.length N) C):=
     ⟨fun b q=>⟨by rw[el];exact (gE.o b q).1,(gE.o b q).2⟩,⟨_,_,_,_,_,_,b9⟩,
      B.o.t.C (fun g D=>dg g (fun e=>row_ne hm B.o.t (by decide) (e ▸ D))) (fun b q=>bd b (z6 q)) (fun _ h=>z6 h),
      B.o.r.C (fun g D=>dg g (fun e=>row_ne hm B.o.r (by decide) (e ▸ D))) (fun b q=>bd b (z6 q)) (fun _ h=>z6 h)⟩
    have na:Hid ((bf d).K C (fun b=>F' b∨(A pC nC cC).ownBlock=Y b∨(A pA nA cA).ownBlock=Y b) s.c (A pC nC cC)):=Rd.f bd (B.o.c.K (fun _ h=>z6 h) (fun g D=>z7 (z6 D)));have nb:Hid ((bA d).K C (fun b=>F' b∨(A pC nC cC).ownBlock=Y b∨(A pA nA cA).ownBlock=Y b) s.d (A pA nA cA)):=Rd.f bd (B.o.a.K (fun _ h=>z6 h) (fun g D=>z7 (z7 D)));have jo:Hid (Chg (bj M [vT,A L rs.length N]) w C):=by show Chg _ _ _;rw[ba];exact ec.o.y (p:=⟨M,5,U⟩) (z6 (z6 V)) _
    have bl:=Hd b9;have m2:wr.cell? ⟨M,2,U⟩=Y (A pV nv cV):=by rw[FI _ _ _ _ _ _ hm];rfl
    have m5:wr.cell? ⟨M,5,U⟩=Y (I Z 0):=by rw[FI _ _ _ _ _ _ hm];rfl
    have fz:=aE hm;clear ek gD iX i1 hm b9 dg el bd;go_upto_region 11 with fail
    change Code.wp _ _ _ _ (wr.setCell ⟨M,5,U⟩ (I Z (nv:Int)));rw[←ba];clear ba m2 m5 fz;obtain⟨us,av,fM⟩:=cu.o.r;rw[HN.o]at av;have av:C.ownsRow 0 50 5 (A L nR N) nR us:=av;obtain⟨gF,jv⟩:=zz2 av fM;have j2:C.cell? ⟨M,1,U⟩=Y (A L nR N):=by rw[FI _ _ _ _ _ _ bl.o,←HN.o];rfl
    have cl:C.cell? ⟨M,3,U⟩=Y (J T.f):=by rw[FI _ _ _ _ _ _ bl.o];rfl
    have kf:C.cell? ⟨M,4,U⟩=Y (I Z T.h):=by rw[FI _ _ _ _ _ _ bl.o];rfl
    have b9:C.cell? ⟨M,5,U⟩=Y (I Z (nv:Int)):=by rw[FI _ _ _ _ _ _ bl.o];rfl
    have kk:C.cell? ⟨M,6,U⟩=Y (A pC nC cC):=by rw[FI _ _ _ _ _ _ bl.o];rfl
    have kn:C.cell? ⟨M,7,U⟩=Y (A pA nA cA):=by rw[FI _ _ _ _ _ _ bl.o];rfl
    have hK:∀b,b=M→b<C.heap.size∧(A L nR N).ownBlock≠Y b:=fun b q=>by
     rw[←HN.o,q];exact⟨cu.o.lt,row_ne bl.o cu.o.r (by decide)⟩
    have kp:=Hd (gl (E:=50) (sz:=5) (row:=us++[J T.f,I Z T.h,I Z (nv:Int),A pC nC cC,A pA nA cA]) (K:=fun b=>b=M) hK);have M1:=fun x:Ks C (fun b=>b=M)=>x.b V j2
    have M3:=fun x:Ks C (fun b=>b=M)=>x.b V cl
    have M4:=fun x:Ks C (fun b=>b=M)=>x.b V kf
    have M5:=fun x:Ks C (fun b=>b=M)=>x.b V b9
    have M6:=fun x:Ks C (fun b=>b=M)=>x.b V kk
    have M7:=fun x:Ks C (fun b=>b=M)=>x.b V kn
    clear av fM hK j2 cl kf b9 kk kn;refine RE.u (by kernel_rfl) 13 [11,12] [12] (stA 50 5 C L nR N (us++[J T.f,I Z T.h,I Z (nv:Int),A pC nC cC,A pA nA cA])) (ApR C) (fun _ ys=>ys.getD 0 At) (phA 50 5 C L nR N [J T.f,I Z T.h,I Z (nv:Int),A pC nC cC,A pA nA cA] (us++[J T.f,I Z T.h,I Z (nv:Int),A pC nC cC,A pA nA cA]) 11 12) (by kernel_rfl) (fun _ _ _ _ _ _ h q=>h.z q) (fun _ _ _ _ h _ hR=>h.C hR) stA.zero ?_;simp only[EY,Fi,EZ,Fh]
    repeat (refine RE.b (fun W=>∃x:Ks C (fun b=>b=M),W=x.1) (kp.o _) V V V stA.zero ?_;go_big_quiet_step (fail);refine Bk ?_)
    refine RE.f V V ?_ (fun nc=>?_)
    ·intro W hC hS P;obtain⟨s9,_,h9⟩:=hC;exact cB mb (vs:=[J T.f,I Z T.h,I Z (nv:Int),A pC nC cC,A pA nA cA]) _ V V V h9.h (fun v W' q S=>⟨[v],V,q,ApR.f q,S⟩)
    simp only[B4,EQ,EW,EV,Nat.reduceAdd];refine RE.f V V ?_ (fun ks=>?_)
    ·intro W hC hS P;obtain⟨x,rfl⟩:∃x:Wb C,W=x.1:=hS V;exact eC mb (p:=L) (n:=nR) (c:=N) (w4:=C) (vs:=[J T.f,I Z T.h,I Z (nv:Int),A pC nC cC,A pA nA cA]) (xs:=us) _ _ V V (P 11 nc (by kernel_rfl) V) V (by simp[Value.oneCell']) x.2 gF.o (by omega) (fun v' W' R h2 h3=>⟨[v'],V,R,h2,h3⟩)
    simp only[B4,EQ,EW,EV,Nat.reduceAdd];refine RE.h ?_;intro W hS P;have hS:ApS 50 5 C L nR N (us++[J T.f,I Z T.h,I Z (nv:Int),A pC nC cC,A pA nA cA]) W:=hS;have hV:ApV 50 5 C L nR N (us++[J T.f,I Z T.h,I Z (nv:Int),A pC nC cC,A pA nA cA]) W (ks.getD 0 At):=P 12 ks V;obtain⟨g',cap,eg,D,hC,en⟩:=eZ hS hV;rw[eg];have kv:Chg (fun b=>(A L rs.length N).ownBlock=Y b) C W:=by rw[HN.o];exact hC
    have bk:(A L rs.length N).ownBlock=Y g'∨C.heap.size≤g':=by rw[HN.o];exact D
    have kI:(bX d).at_ C (fun b=>F' b∨(A pC nC cC).ownBlock=Y b∨(A pA nA cA).ownBlock=Y b) ⟨T.f,T.h,(nv:Int),s.c,s.d⟩ [J T.f,I Z T.h,I Z (nv:Int),A pC nC cC,A pA nA cA]:=gY.2 ⟨k9,gM,⟨by show (-9223372036854775808:Int)≤(nv:Int);omega,by show (nv:Int)<9223372036854775808;omega⟩,_,_,V,na.o,nb.o⟩;obtain⟨k5,k6,gH⟩:=cu.o.pushR HN.o jv.o kI bk kv en;have bc:W.cell? ⟨M,1,U⟩=Y (A L nR N):=by rw[FI _ _ _ _ _ _ (gH.trans bl.o),←HN.o];rfl
    have n5:=bK (gH.trans bl.o) 1;have HP:Hid (m9 F d M ts vT (A L rs.length N) (AF (rs++[⟨T.f,T.h,(nv:Int),s.c,s.d⟩])) w (Ending.returned (CA #[])) (W.setCell ⟨M,1,U⟩ (A (Y ⟨g',0,U⟩) (nR+1) cap))):=by
     refine⟨cj jo.o k6 (fun x hx=>z6 hx),V,_,_,k5,fun b q=>?_,fun b q=>z6 (HSub.o b q),fun b q=>?_⟩
     ·injection q with q
      have q:g'=b:=q;subst q;rcases bk with h|h
      ·exact z6 h
      ·have:=jo.o.h;exact z7 (by omega)
     ·rcases q with q|q|q
      ·exact cr.o b q
      ·exact z7 (ad.o _ (by simp) b q)
      ·exact z7 (ad.o _ (by simp) b q)
    clear hS hV P eg D hC en kv bk k5 k6 gH M1 M3 M4 M5 M6 M7 kp kI;go_wp2_with fail
    go_end0
    rw[jj.o];exact HP.o
