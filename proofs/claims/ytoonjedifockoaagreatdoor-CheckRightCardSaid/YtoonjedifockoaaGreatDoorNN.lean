/- The rule checker: a rule is made; by contract. Condition: as its parts'. Printed by tools/genWhole.py. -/
import Derived.Test.YtoonjedifockoaaGreatDoorNL
namespace Go.Proofs.YtoonjedifockoaaGreatDoor
open Go.IntKind(i64)
open Go.Value(int string slice)
set_option maxHeartbeats 16000000
set_option maxRecDepth 100000
open Go.RowKit
def ee(d:Nat) (types:List ai) (rs:List aj) (T:ac):Except Flt (List aj):=
 if (idxOf T.text (rs.map aj.name)).isSome then .error (210,T.place)
 else if T.num < -1000||1000<T.num then .error (2,T.place)
 else if 64≤rs.length||8<fB T.kids||8<T.kids.length-fB T.kids then .error (204,T.place)
 else match bG (dI d types) ⟨[],[],[]⟩ T.kids with
  | .error e=>.error e
  | .ok s=>.ok (rs++[⟨T.text,T.num,s.vars.length,s.conds,s.acts⟩])
theorem zI(l:List ac):fB l≤l.length:=by
 unfold fB
 induction l with
 | nil=>exact EA _
 | cons z l a =>
  rw[List.takeWhile_cons]
  split
  ·simp only[Fb];omega
  ·simp
theorem pF{M:Nat}{vT vR vV vC vA:Value}{b:Nat}(h:aL M [vT,vR,vV,vC,vA] b):aL M [vT,vR] b∨∃v∈[vV,vC,vA],v.ownBlock=some b:=by
 rcases h with rfl|⟨v,c,a⟩
 ·exact Or.inl (Or.inl rfl)
 ·simp only[Fh,Ff,oB]at c;rcases c with rfl|rfl|rfl|rfl|rfl
  ·exact Or.inl (Or.inr ⟨_,by simp,a⟩)
  ·exact Or.inl (Or.inr ⟨_,by simp,a⟩)
  ·exact Or.inr ⟨_,by simp,a⟩
  ·exact Or.inr ⟨_,by simp,a⟩
  ·exact Or.inr ⟨_,by simp,a⟩
theorem qZ{b:Bool}:∀(l:List ac) (s c:List ByteArray×List cg),bG (cX b) s l=.ok c→s.1.length≤16→c.1.length≤16
 | [],s,c,h,d=>by injection h with h;rw[←h];exact d
 | K::l,s,c,h,d=>by
  unfold bG at h
  cases a:cX b s K with
  | error e=>rw[a]at h;cases h
  | ok s1 =>
   rw[a]at h;refine qZ l s1 c h ?_;unfold cX at a
   split at a
   ·injection a with a;rw[←a];exact d
   ·split at a
    ·split at a
     ·injection a with a;rw[←a];exact d
     ·split at a
      ·cases a
      ·split at a
       ·cases a
       ·injection a with a
        rw[←a]
        show (s.1++[K.text]).length≤16
        rw[EO];simp;omega
    ·injection a with a;rw[←a];exact d
theorem zB{d:Nat}{ts:List ai}{vars:List ByteArray}{K:ac}{x:List ByteArray×aC}(h:eX d ts vars K=.ok x)(c:vars.length≤16):x.1.length≤16:=by
 have key:∀(b:Bool) (kd:Int) (f:Except Flt Nat),cf b kd f vars K.kids=.ok x→x.1.length≤16:=fun b kd f h=>by
  unfold cf at h
  split at h
  ·cases h
  ·cases a:bG (cX b) (vars,[]) K.kids with
   | error e=>rw[a]at h;cases h
   | ok r =>
    rw[a]at h;injection h with h
    rw[←h];exact qZ K.kids (vars,[]) r a c
 unfold eX at h
 split at h
 ·exact key _ _ _ h
 ·split at h
  ·exact key _ _ _ h
  ·split at h
   ·cases h
   ·unfold iZ at h
    split at h
    ·cases h
    ·injection h with h;rw[←h];exact c
def mo(F:Nat→Prop) (d M:Nat) (ts:List ai) (vT vR:Value) (r:Except Flt (List aj)) (w:World) (e:Ending) (w':World):Prop:=
 Chg (aL M [vT,vR]) w w'∧match r with
 | .ok c=>e=.returned (.tuple #[])∧∃(F':Nat→Prop) (a:Value),MkB F' d M ts c vT a w'∧Grew vR a w.heap.size∧(∀b,F b→F' b)∧∀b,F' b→F b∨w.heap.size≤b
 | .error er=>e=aJ er.1 er.2
theorem ti:Elem 38 23 5 80:=Elem.of (z:=.agg #[.string ByteArray.empty,int i64 0,int i64 0,slice none 0 0,slice none 0 0]) Tryz.underlying23 (by kernel_rfl) (by kernel_rfl) (by decide) (by decide)
def pr(F:Nat→Prop) (d M:Nat) (ts:List ai) (rs:List aj) (vT vR:Value) (T:ac) (_sl:Value) (n:Nat) (w:World) (i:Value) (W:World):Prop:=
 ∃(j:Nat) (s:RSt) (F':Nat→Prop) (vV vC vA:Value),j≤n∧i=int i64 (j:Int)∧bG (dI d ts) ⟨[],[],[]⟩ (T.kids.take j)=.ok s∧s.vars.length≤16∧s.conds.length≤j∧s.acts.length≤j∧MkW F' d M ts rs s.vars T.text T.num 0 s.conds s.acts vT vR vV vC vA W∧
  (∀b,F b→F' b)∧(∀b,F' b→F b∨w.heap.size≤b)∧(∀v∈[vV,vC,vA],∀g,v.ownBlock=some g→w.heap.size≤g)∧Chg (aL M [vT,vR]) w W
theorem sJ(W:World)(b o:Nat)(u:Value)(a:W.cell? ⟨b,o,none⟩=some u)(c:W.frozen? ⟨b,o,none⟩=false):(Instr.storeAt 114 (.pointer (some ⟨b,o,none⟩)) (slice none 0 0)).run Tryz.prog W=.ok () (W.setCell ⟨b,o,none⟩ (slice none 0 0)):=by simp[Instr.storeAt,Instr.sureAddr,go_sem,a,c]
theorem zk(F:Nat→Prop)(d M:Nat)(ts:List ai)(rs:List aj)(vT vR:Value)(T:ac)(p:Option Addr)(n c B0:Nat)(w:World)
  (hw:MkB F d M ts rs vT vR w) (hk:T.kind=4) (gL:ts.length≤10000) (la:rs.length≤10000) (el:T.kids.length=n) (hn:n≤10000) (b3:aD w B0 (d+2) T.kids (.slice p n c)) (b1:B0≤w.heap.size) (hO:∀b,aL M [vT,vR] b→B0≤b)
  (lb:T.text.size≤maxLen) (gM:I64 T.num) (hp:∀K∈T.kids,kW d K) :
  Calls Tryz.prog 53 #[.pointer (some ⟨M,0,none⟩),.agg #[int .u8 T.kind,.string T.text,int i64 T.num,int i64 T.place,.slice p n c]] w (mo F d M ts vT vR (ee d ts rs T) w):=by
 rw[hk];change Calls Tryz.prog 53 #[.pointer (some ⟨M,0,none⟩),.agg #[int .u8 4,.string T.text,int i64 T.num,int i64 T.place,.slice p n c]] w _;obtain⟨I,J,ld⟩:=hw.r.shape;subst ld;obtain⟨nR,cq⟩:=zzy (rs.length);have HN:=Hd cq;rw[cq]at la;obtain⟨kc,cr⟩:=zzy (fB T.kids);have nd:kc≤n:=by rw[←cr,←el];exact zI _
 have en:=Hd (fun (W:World) (hW:Ft w W)=>zA T.kids (.slice p n c) (d+1) W ((b3.below (hW.mono b1)).up (EG b1 hW.size)) (by omega));have gN:=Hd cr;rw[cr]at en;obtain⟨w0,ct⟩:=zzx (w.alloc (.cells #[int .u8 4,.string T.text,int i64 T.num,int i64 T.place,.slice p n c] 76));have eo:Ft w w0:=by rw[ct];exact (EB _ w).alloc (EA _) _
 have et:w0.heap[w.heap.size]?=some (.cells #[int .u8 4,string T.text,int i64 T.num,int i64 T.place,slice p n c] 76 (0,0)):=by rw[ct];exact n7 w _
 have gO:=Hd et;have gS:=Hd eo;have HW:=Hd hw;have na:=Hd (fun g D=>hw.r.lt (g:=g) D);have gT:=Hd (fun b q=>hw.own_lt (b:=b) q);have nc:=Hd (fun b (q:F b)=>(hw.f b q).1);have ev:=Hd b3;have b4:=Hd el;have HO:=Hd hO;have lf:=Hd hp;have ha:=Hd (en.o w0 eo);obtain⟨e0,e1,e2,e3,e4⟩:=cells5 et;clear eo hw hk b3 el cr hO hp et en
 go_enter Tryz.func53,Tryz.ntmps53
 go_upto_region 1 with fail
 change Code.wp _ _ _ _ (w.alloc (.cells #[int .u8 4,.string T.text,int i64 T.num,int i64 T.place,.slice p n c] 76));rw[←ct];clear ct;go_wp2_with fail
 refine ha.o.mono ?_;rintro e w1 ⟨rfl,e5⟩;have e6:=aa e5 gO.o (Ez.1 gO.o).1;have S:=Hd (gS.o.trans (e5.mono gS.o.size));have hd:=Hd e6;have cv:=Hd (HW.o.below S.o);clear e5 e0 e1 e2 e3 e4;obtain⟨e0,e1,e2,e3,e4⟩:=cells5 e6;obtain⟨Q,A⟩:=zzx (dR (idxOf T.text (rs.map aj.name)));have Y:Hid (decide ((0:Int)≤Q)=(idxOf T.text (rs.map aj.name)).isSome):=by
  show _=_
  rw[A]
  cases idxOf T.text (rs.map aj.name) with
  | none=>rfl
  | some k=>show decide ((0:Int)≤(k:Int))=true;simp
 have a8:=Hd (fun (W:World) (h:Ft w1 W)=>uW d rs T.text _ _ M W (cv.o.below h).row_r (fun _ h=>h) (cv.o.below h).cells.2);rw[←A]at a8;have e7:w1.cell? ⟨M,1,none⟩=some (.slice I nR J):=by rw[cv.o.cells.2,HN.o]
 have E0:=fun x:Wb w1=>x.cell e0
 have E1:=fun x:Wb w1=>x.cell e1
 have E2:=fun x:Wb w1=>x.cell e2
 have E3:=fun x:Wb w1=>x.cell e3
 have E4:=fun x:Wb w1=>x.cell e4
 have MR:=fun x:Wb w1=>x.cell e7
 clear e6 A;have ng:(-9223372036854775808:Int)≤(n:Int)-kc:=by omega
 have nn:(n:Int)-kc<9223372036854775808:=by omega
 go_upto_region 2 with fail
 go_cut [] from 10 to 51 (fun W2=>Ft w1 W2∧(idxOf T.text (rs.map aj.name)).isSome=false∧(decide (T.num < -1000)||decide (1000<T.num))=false∧(decide (64≤nR)||decide (8<kc)||decide (8<n-kc))=false)
 case first =>
  have hf:(idxOf T.text (rs.map aj.name)).isSome=true→ee d ts rs T=.error (210,T.place):=fun h=>by unfold ee;rw[n9 h]
  have hl:(idxOf T.text (rs.map aj.name)).isSome=false→(decide (T.num < -1000)||decide (1000<T.num))=true→ee d ts rs T=.error (2,T.place):=fun h h2=>by
   unfold ee;rw[h,n8 (by decide),n9 h2]
  have hq:(idxOf T.text (rs.map aj.name)).isSome=false→(decide (T.num < -1000)||decide (1000<T.num))=false→(decide (64≤nR)||decide (8<kc)||decide (8<n-kc))=true→ee d ts rs T=.error (204,T.place):=fun h h2 h3=>by
   unfold ee;rw[h,n8 (by decide),h2,n8 (by decide),n9 (by rw[HN.o,gN.o,b4.o];exact h3)]
  have Z:=Hd hf;have ad:=Hd hl;have bn:=Hd hq;clear hf hl hq cq
  by_cases ba:T.num < -1000
  ·have ba:T.num < -1000:=ba;have bb:=Hd ba;have lo:decide (T.num < -1000)=true:=decide_eq_true ba
   by_cases b5:64≤nR
   ·have b6:(64:Int)≤nR:=by omega
    have c9:=Hd b5;refine RE.wp_region_eff (by kernel_rfl) 40 [6,39] [] (fun _ W=>∃x:Wb w1,W=x.1) (fun W W'=>Ft W W') (fun i z=>if i=6 then int i64 (Q:Int) else z.getD 0 undef) (fun i W z=>if i=39 then cz w1.heap.size [(decide ((0:Int)≤Q),210),(true,2),(true,204)] W (z.getD 0 undef) else True) (by kernel_rfl) (fun _ _ _ _ _ _ h q=>ci h q) (fun i W W' z h _ q=>by split at h;(rw[n9 (by assumption)];exact h.below q);rw[n8 (by assumption)];trivial) ⟨⟨w1.drew,(EB _ _).drew⟩,rfl⟩ ?_;simp only[EK,ET,EL,ES]
    repeat (refine RE.wpE_read (fun W=>∃x:Wb w1,W=x.1) (fun _ _ _ h=>h) rfl rfl rfl ⟨⟨w1.drew,(EB _ _).drew⟩,rfl⟩ ?_;go_big_quiet_step (fail);refine wpQuiet_nil ?_)
    refine RE.wpE_turn rfl rfl ?_ (fun b7=>?_)
    ·intro W U _ L;obtain⟨s9,_,x,rfl⟩:=U;refine RE.upon_call 16 _ _ rfl (enters_of Tryz.func16 (by kernel_rfl) rfl) #[.pointer (some ⟨M,0,none⟩),.string T.text] (by simp[Act.eval]) ((a8.o x.1 x.2).mono ?_);rintro e W' ⟨rfl,q⟩;exact⟨_,rfl,[],rfl,q,q,trivial⟩
    simp only[Act.put,EC,EI,EH,Nat.reduceAdd,↓reduceIte]
    repeat (refine RE.wpE_read (fun W=>∃x:Wb w1,W=x.1) (fun _ _ _ h=>h) rfl rfl rfl ⟨⟨w1.drew,(EB _ _).drew⟩,rfl⟩ ?_;go_big_quiet_step (fail);refine wpQuiet_nil ?_)
    refine RE.wpE_turn rfl rfl ?_ (fun z=>?_)
    ·intro W U _ L;obtain⟨s9,_,x,rfl⟩:=U;exact gQ _ _ _ 210 2 204 _ _ _ rfl rfl rfl rfl x.2.size (fun v W' q P=>⟨[v],rfl,q,q,P⟩)
    simp only[Act.put,EC,EI,EH,Nat.reduceAdd,Nat.reduceEqDiff,↓reduceIte];refine RE.wpE_nil ?_;intro W hS L;obtain⟨x,rfl⟩:=hS;obtain⟨g,eg,lg,D⟩:cz w1.heap.size [(decide ((0:Int)≤Q),210),(true,2),(true,204)] x.1 (z.getD 0 undef):=L 39 z rfl;rw[eg];have an:=Hd (bV [(decide ((0:Int)≤Q),210),(true,2),(true,204)] 4 T.text T.num T.place (.slice p n c) g 3 3 x.1 rfl (by omega) D);have N:=Hd x.2;clear L eg lg D E0 E1 E2 E3 E4 MR;go_wp2_with fail
    refine an.o.mono ?_;rintro e W2 ⟨y,he⟩;have G:=N.o.trans (y.mono N.o.size);clear y;have H:Hid (Ft w W2):=S.o.trans (G.mono S.o.size)
    cases O:decide ((0:Int)≤Q) with
    | true =>
     rw[O]at he;have he:e=aJ 210 T.place:=he;subst he;refine⟨rfl,Chg.of_below H.o,?_⟩;rw[Z.o (Y.o.symm.trans O)];rfl
    | false =>
     rw[O]at he;have A:=Y.o.symm.trans O;have he:e=aJ 2 T.place:=he;subst he;refine⟨rfl,Chg.of_below H.o,?_⟩;rw[ad.o A (by rw[decide_eq_true bb.o];rfl)];rfl
   ·have b6:¬(64:Int)≤nR:=by omega
    have cx:=Hd b5
    by_cases h8:8<kc
    ·have e8:(8:Int)<kc:=by omega
     have hs:=Hd h8;refine RE.wp_region_eff (by kernel_rfl) 40 [6,39] [] (fun _ W=>∃x:Wb w1,W=x.1) (fun W W'=>Ft W W') (fun i z=>if i=6 then int i64 (Q:Int) else z.getD 0 undef) (fun i W z=>if i=39 then cz w1.heap.size [(decide ((0:Int)≤Q),210),(true,2),(true,204)] W (z.getD 0 undef) else True) (by kernel_rfl) (fun _ _ _ _ _ _ h q=>ci h q) (fun i W W' z h _ q=>by split at h;(rw[n9 (by assumption)];exact h.below q);rw[n8 (by assumption)];trivial) ⟨⟨w1.drew,(EB _ _).drew⟩,rfl⟩ ?_;simp only[EK,ET,EL,ES]
     repeat (refine RE.wpE_read (fun W=>∃x:Wb w1,W=x.1) (fun _ _ _ h=>h) rfl rfl rfl ⟨⟨w1.drew,(EB _ _).drew⟩,rfl⟩ ?_;go_big_quiet_step (fail);refine wpQuiet_nil ?_)
     refine RE.wpE_turn rfl rfl ?_ (fun b7=>?_)
     ·intro W U _ L;obtain⟨s9,_,x,rfl⟩:=U;refine RE.upon_call 16 _ _ rfl (enters_of Tryz.func16 (by kernel_rfl) rfl) #[.pointer (some ⟨M,0,none⟩),.string T.text] (by simp[Act.eval]) ((a8.o x.1 x.2).mono ?_);rintro e W' ⟨rfl,q⟩;exact⟨_,rfl,[],rfl,q,q,trivial⟩
     simp only[Act.put,EC,EI,EH,Nat.reduceAdd,↓reduceIte]
     repeat (refine RE.wpE_read (fun W=>∃x:Wb w1,W=x.1) (fun _ _ _ h=>h) rfl rfl rfl ⟨⟨w1.drew,(EB _ _).drew⟩,rfl⟩ ?_;go_big_quiet_step (fail);refine wpQuiet_nil ?_)
     refine RE.wpE_turn rfl rfl ?_ (fun z=>?_)
     ·intro W U _ L;obtain⟨s9,_,x,rfl⟩:=U;exact gQ _ _ _ 210 2 204 _ _ _ rfl rfl rfl rfl x.2.size (fun v W' q P=>⟨[v],rfl,q,q,P⟩)
     simp only[Act.put,EC,EI,EH,Nat.reduceAdd,Nat.reduceEqDiff,↓reduceIte];refine RE.wpE_nil ?_;intro W hS L;obtain⟨x,rfl⟩:=hS;obtain⟨g,eg,lg,D⟩:cz w1.heap.size [(decide ((0:Int)≤Q),210),(true,2),(true,204)] x.1 (z.getD 0 undef):=L 39 z rfl;rw[eg];have an:=Hd (bV [(decide ((0:Int)≤Q),210),(true,2),(true,204)] 4 T.text T.num T.place (.slice p n c) g 3 3 x.1 rfl (by omega) D);have N:=Hd x.2;clear L eg lg D E0 E1 E2 E3 E4 MR;go_wp2_with fail
     refine an.o.mono ?_;rintro e W2 ⟨y,he⟩;have G:=N.o.trans (y.mono N.o.size);clear y;have H:Hid (Ft w W2):=S.o.trans (G.mono S.o.size)
     cases O:decide ((0:Int)≤Q) with
     | true =>
      rw[O]at he;have he:e=aJ 210 T.place:=he;subst he;refine⟨rfl,Chg.of_below H.o,?_⟩;rw[Z.o (Y.o.symm.trans O)];rfl
     | false =>
      rw[O]at he;have A:=Y.o.symm.trans O;have he:e=aJ 2 T.place:=he;subst he;refine⟨rfl,Chg.of_below H.o,?_⟩;rw[ad.o A (by rw[decide_eq_true bb.o];rfl)];rfl
    ·have e8:¬(8:Int)<kc:=by omega
     have ht:=Hd h8;refine RE.wp_region_eff (by kernel_rfl) 40 [6,39] [] (fun _ W=>∃x:Wb w1,W=x.1) (fun W W'=>Ft W W') (fun i z=>if i=6 then int i64 (Q:Int) else z.getD 0 undef) (fun i W z=>if i=39 then cz w1.heap.size [(decide ((0:Int)≤Q),210),(true,2),(decide ((8:Int)<(n:Int)-kc),204)] W (z.getD 0 undef) else True) (by kernel_rfl) (fun _ _ _ _ _ _ h q=>ci h q) (fun i W W' z h _ q=>by split at h;(rw[n9 (by assumption)];exact h.below q);rw[n8 (by assumption)];trivial) ⟨⟨w1.drew,(EB _ _).drew⟩,rfl⟩ ?_;simp only[EK,ET,EL,ES]
     repeat (refine RE.wpE_read (fun W=>∃x:Wb w1,W=x.1) (fun _ _ _ h=>h) rfl rfl rfl ⟨⟨w1.drew,(EB _ _).drew⟩,rfl⟩ ?_;go_big_quiet_step (fail);refine wpQuiet_nil ?_)
     refine RE.wpE_turn rfl rfl ?_ (fun b7=>?_)
     ·intro W U _ L;obtain⟨s9,_,x,rfl⟩:=U;refine RE.upon_call 16 _ _ rfl (enters_of Tryz.func16 (by kernel_rfl) rfl) #[.pointer (some ⟨M,0,none⟩),.string T.text] (by simp[Act.eval]) ((a8.o x.1 x.2).mono ?_);rintro e W' ⟨rfl,q⟩;exact⟨_,rfl,[],rfl,q,q,trivial⟩
     simp only[Act.put,EC,EI,EH,Nat.reduceAdd,↓reduceIte]
     repeat (refine RE.wpE_read (fun W=>∃x:Wb w1,W=x.1) (fun _ _ _ h=>h) rfl rfl rfl ⟨⟨w1.drew,(EB _ _).drew⟩,rfl⟩ ?_;go_big_quiet_step (fail);refine wpQuiet_nil ?_)
     refine RE.wpE_turn rfl rfl ?_ (fun z=>?_)
     ·intro W U _ L;obtain⟨s9,_,x,rfl⟩:=U;exact gQ _ _ _ 210 2 204 _ _ _ rfl rfl rfl rfl x.2.size (fun v W' q P=>⟨[v],rfl,q,q,P⟩)
     simp only[Act.put,EC,EI,EH,Nat.reduceAdd,Nat.reduceEqDiff,↓reduceIte];refine RE.wpE_nil ?_;intro W hS L;obtain⟨x,rfl⟩:=hS;obtain⟨g,eg,lg,D⟩:cz w1.heap.size [(decide ((0:Int)≤Q),210),(true,2),(decide ((8:Int)<(n:Int)-kc),204)] x.1 (z.getD 0 undef):=L 39 z rfl;rw[eg];have an:=Hd (bV [(decide ((0:Int)≤Q),210),(true,2),(decide ((8:Int)<(n:Int)-kc),204)] 4 T.text T.num T.place (.slice p n c) g 3 3 x.1 rfl (by omega) D);have N:=Hd x.2;clear L eg lg D E0 E1 E2 E3 E4 MR;go_wp2_with fail
     refine an.o.mono ?_;rintro e W2 ⟨y,he⟩;have G:=N.o.trans (y.mono N.o.size);clear y;have H:Hid (Ft w W2):=S.o.trans (G.mono S.o.size)
     cases O:decide ((0:Int)≤Q) with
     | true =>
      rw[O]at he;have he:e=aJ 210 T.place:=he;subst he;refine⟨rfl,Chg.of_below H.o,?_⟩;rw[Z.o (Y.o.symm.trans O)];rfl
     | false =>
      rw[O]at he;have A:=Y.o.symm.trans O;have he:e=aJ 2 T.place:=he;subst he;refine⟨rfl,Chg.of_below H.o,?_⟩;rw[ad.o A (by rw[decide_eq_true bb.o];rfl)];rfl
  ·have ba:¬T.num < -1000:=ba;have bb:=Hd ba;have lo:decide (T.num < -1000)=false:=oc ba
   by_cases b5:64≤nR
   ·have b6:(64:Int)≤nR:=by omega
    have c9:=Hd b5;refine RE.wp_region_eff (by kernel_rfl) 40 [6,39] [] (fun _ W=>∃x:Wb w1,W=x.1) (fun W W'=>Ft W W') (fun i z=>if i=6 then int i64 (Q:Int) else z.getD 0 undef) (fun i W z=>if i=39 then cz w1.heap.size [(decide ((0:Int)≤Q),210),(decide ((1000:Int)<T.num),2),(true,204)] W (z.getD 0 undef) else True) (by kernel_rfl) (fun _ _ _ _ _ _ h q=>ci h q) (fun i W W' z h _ q=>by split at h;(rw[n9 (by assumption)];exact h.below q);rw[n8 (by assumption)];trivial) ⟨⟨w1.drew,(EB _ _).drew⟩,rfl⟩ ?_;simp only[EK,ET,EL,ES]
    repeat (refine RE.wpE_read (fun W=>∃x:Wb w1,W=x.1) (fun _ _ _ h=>h) rfl rfl rfl ⟨⟨w1.drew,(EB _ _).drew⟩,rfl⟩ ?_;go_big_quiet_step (fail);refine wpQuiet_nil ?_)
    refine RE.wpE_turn rfl rfl ?_ (fun b7=>?_)
    ·intro W U _ L;obtain⟨s9,_,x,rfl⟩:=U;refine RE.upon_call 16 _ _ rfl (enters_of Tryz.func16 (by kernel_rfl) rfl) #[.pointer (some ⟨M,0,none⟩),.string T.text] (by simp[Act.eval]) ((a8.o x.1 x.2).mono ?_);rintro e W' ⟨rfl,q⟩;exact⟨_,rfl,[],rfl,q,q,trivial⟩
    simp only[Act.put,EC,EI,EH,Nat.reduceAdd,↓reduceIte]
    repeat (refine RE.wpE_read (fun W=>∃x:Wb w1,W=x.1) (fun _ _ _ h=>h) rfl rfl rfl ⟨⟨w1.drew,(EB _ _).drew⟩,rfl⟩ ?_;go_big_quiet_step (fail);refine wpQuiet_nil ?_)
    refine RE.wpE_turn rfl rfl ?_ (fun z=>?_)
    ·intro W U _ L;obtain⟨s9,_,x,rfl⟩:=U;exact gQ _ _ _ 210 2 204 _ _ _ rfl rfl rfl rfl x.2.size (fun v W' q P=>⟨[v],rfl,q,q,P⟩)
    simp only[Act.put,EC,EI,EH,Nat.reduceAdd,Nat.reduceEqDiff,↓reduceIte];refine RE.wpE_nil ?_;intro W hS L;obtain⟨x,rfl⟩:=hS;obtain⟨g,eg,lg,D⟩:cz w1.heap.size [(decide ((0:Int)≤Q),210),(decide ((1000:Int)<T.num),2),(true,204)] x.1 (z.getD 0 undef):=L 39 z rfl;rw[eg];have an:=Hd (bV [(decide ((0:Int)≤Q),210),(decide ((1000:Int)<T.num),2),(true,204)] 4 T.text T.num T.place (.slice p n c) g 3 3 x.1 rfl (by omega) D);have N:=Hd x.2;clear L eg lg D E0 E1 E2 E3 E4 MR;go_wp2_with fail
    refine an.o.mono ?_;rintro e W2 ⟨y,he⟩;have G:=N.o.trans (y.mono N.o.size);clear y;have H:Hid (Ft w W2):=S.o.trans (G.mono S.o.size)
    cases O:decide ((0:Int)≤Q) with
    | true =>
     rw[O]at he;have he:e=aJ 210 T.place:=he;subst he;refine⟨rfl,Chg.of_below H.o,?_⟩;rw[Z.o (Y.o.symm.trans O)];rfl
    | false =>
     rw[O]at he;have A:=Y.o.symm.trans O
     cases h2:decide ((1000:Int)<T.num) with
     | true =>
      rw[h2]at he;have he:e=aJ 2 T.place:=he;subst he;refine⟨rfl,Chg.of_below H.o,?_⟩;rw[ad.o A (by rw[show decide (1000<T.num)=true from h2,Bool.or_true])];rfl
     | false =>
      rw[h2]at he;have X:(decide (T.num < -1000)||decide (1000<T.num))=false:=by rw[oc (show ¬T.num < -1000 by have:=bb.o;omega),show decide (1000<T.num)=false from h2];rfl
      have he:e=aJ 204 T.place:=he;subst he;refine⟨rfl,Chg.of_below H.o,?_⟩;rw[bn.o A X (by rw[decide_eq_true c9.o];rfl)];rfl
   ·have b6:¬(64:Int)≤nR:=by omega
    have cx:=Hd b5
    by_cases h8:8<kc
    ·have e8:(8:Int)<kc:=by omega
     have hs:=Hd h8;refine RE.wp_region_eff (by kernel_rfl) 40 [6,39] [] (fun _ W=>∃x:Wb w1,W=x.1) (fun W W'=>Ft W W') (fun i z=>if i=6 then int i64 (Q:Int) else z.getD 0 undef) (fun i W z=>if i=39 then cz w1.heap.size [(decide ((0:Int)≤Q),210),(decide ((1000:Int)<T.num),2),(true,204)] W (z.getD 0 undef) else True) (by kernel_rfl) (fun _ _ _ _ _ _ h q=>ci h q) (fun i W W' z h _ q=>by split at h;(rw[n9 (by assumption)];exact h.below q);rw[n8 (by assumption)];trivial) ⟨⟨w1.drew,(EB _ _).drew⟩,rfl⟩ ?_;simp only[EK,ET,EL,ES]
     repeat (refine RE.wpE_read (fun W=>∃x:Wb w1,W=x.1) (fun _ _ _ h=>h) rfl rfl rfl ⟨⟨w1.drew,(EB _ _).drew⟩,rfl⟩ ?_;go_big_quiet_step (fail);refine wpQuiet_nil ?_)
     refine RE.wpE_turn rfl rfl ?_ (fun b7=>?_)
     ·intro W U _ L;obtain⟨s9,_,x,rfl⟩:=U;refine RE.upon_call 16 _ _ rfl (enters_of Tryz.func16 (by kernel_rfl) rfl) #[.pointer (some ⟨M,0,none⟩),.string T.text] (by simp[Act.eval]) ((a8.o x.1 x.2).mono ?_);rintro e W' ⟨rfl,q⟩;exact⟨_,rfl,[],rfl,q,q,trivial⟩
     simp only[Act.put,EC,EI,EH,Nat.reduceAdd,↓reduceIte]
     repeat (refine RE.wpE_read (fun W=>∃x:Wb w1,W=x.1) (fun _ _ _ h=>h) rfl rfl rfl ⟨⟨w1.drew,(EB _ _).drew⟩,rfl⟩ ?_;go_big_quiet_step (fail);refine wpQuiet_nil ?_)
     refine RE.wpE_turn rfl rfl ?_ (fun z=>?_)
     ·intro W U _ L;obtain⟨s9,_,x,rfl⟩:=U;exact gQ _ _ _ 210 2 204 _ _ _ rfl rfl rfl rfl x.2.size (fun v W' q P=>⟨[v],rfl,q,q,P⟩)
     simp only[Act.put,EC,EI,EH,Nat.reduceAdd,Nat.reduceEqDiff,↓reduceIte];refine RE.wpE_nil ?_;intro W hS L;obtain⟨x,rfl⟩:=hS;obtain⟨g,eg,lg,D⟩:cz w1.heap.size [(decide ((0:Int)≤Q),210),(decide ((1000:Int)<T.num),2),(true,204)] x.1 (z.getD 0 undef):=L 39 z rfl;rw[eg];have an:=Hd (bV [(decide ((0:Int)≤Q),210),(decide ((1000:Int)<T.num),2),(true,204)] 4 T.text T.num T.place (.slice p n c) g 3 3 x.1 rfl (by omega) D);have N:=Hd x.2;clear L eg lg D E0 E1 E2 E3 E4 MR;go_wp2_with fail
     refine an.o.mono ?_;rintro e W2 ⟨y,he⟩;have G:=N.o.trans (y.mono N.o.size);clear y;have H:Hid (Ft w W2):=S.o.trans (G.mono S.o.size)
     cases O:decide ((0:Int)≤Q) with
     | true =>
      rw[O]at he;have he:e=aJ 210 T.place:=he;subst he;refine⟨rfl,Chg.of_below H.o,?_⟩;rw[Z.o (Y.o.symm.trans O)];rfl
     | false =>
      rw[O]at he;have A:=Y.o.symm.trans O
      cases h2:decide ((1000:Int)<T.num) with
      | true =>
       rw[h2]at he;have he:e=aJ 2 T.place:=he;subst he;refine⟨rfl,Chg.of_below H.o,?_⟩;rw[ad.o A (by rw[show decide (1000<T.num)=true from h2,Bool.or_true])];rfl
      | false =>
       rw[h2]at he;have X:(decide (T.num < -1000)||decide (1000<T.num))=false:=by rw[oc (show ¬T.num < -1000 by have:=bb.o;omega),show decide (1000<T.num)=false from h2];rfl
       have he:e=aJ 204 T.place:=he;subst he;refine⟨rfl,Chg.of_below H.o,?_⟩;rw[bn.o A X (by rw[decide_eq_true hs.o,Bool.or_true];rfl)];rfl
    ·have e8:¬(8:Int)<kc:=by omega
     have ht:=Hd h8;refine RE.wp_region_eff (by kernel_rfl) 40 [6,39] [] (fun _ W=>∃x:Wb w1,W=x.1) (fun W W'=>Ft W W') (fun i z=>if i=6 then int i64 (Q:Int) else z.getD 0 undef) (fun i W z=>if i=39 then cz w1.heap.size [(decide ((0:Int)≤Q),210),(decide ((1000:Int)<T.num),2),(decide ((8:Int)<(n:Int)-kc),204)] W (z.getD 0 undef) else True) (by kernel_rfl) (fun _ _ _ _ _ _ h q=>ci h q) (fun i W W' z h _ q=>by split at h;(rw[n9 (by assumption)];exact h.below q);rw[n8 (by assumption)];trivial) ⟨⟨w1.drew,(EB _ _).drew⟩,rfl⟩ ?_;simp only[EK,ET,EL,ES]
     repeat (refine RE.wpE_read (fun W=>∃x:Wb w1,W=x.1) (fun _ _ _ h=>h) rfl rfl rfl ⟨⟨w1.drew,(EB _ _).drew⟩,rfl⟩ ?_;go_big_quiet_step (fail);refine wpQuiet_nil ?_)
     refine RE.wpE_turn rfl rfl ?_ (fun b7=>?_)
     ·intro W U _ L;obtain⟨s9,_,x,rfl⟩:=U;refine RE.upon_call 16 _ _ rfl (enters_of Tryz.func16 (by kernel_rfl) rfl) #[.pointer (some ⟨M,0,none⟩),.string T.text] (by simp[Act.eval]) ((a8.o x.1 x.2).mono ?_);rintro e W' ⟨rfl,q⟩;exact⟨_,rfl,[],rfl,q,q,trivial⟩
     simp only[Act.put,EC,EI,EH,Nat.reduceAdd,↓reduceIte]
     repeat (refine RE.wpE_read (fun W=>∃x:Wb w1,W=x.1) (fun _ _ _ h=>h) rfl rfl rfl ⟨⟨w1.drew,(EB _ _).drew⟩,rfl⟩ ?_;go_big_quiet_step (fail);refine wpQuiet_nil ?_)
     refine RE.wpE_turn rfl rfl ?_ (fun z=>?_)
     ·intro W U _ L;obtain⟨s9,_,x,rfl⟩:=U;exact gQ _ _ _ 210 2 204 _ _ _ rfl rfl rfl rfl x.2.size (fun v W' q P=>⟨[v],rfl,q,q,P⟩)
     simp only[Act.put,EC,EI,EH,Nat.reduceAdd,Nat.reduceEqDiff,↓reduceIte];refine RE.wpE_nil ?_;intro W hS L;obtain⟨x,rfl⟩:=hS;obtain⟨g,eg,lg,D⟩:cz w1.heap.size [(decide ((0:Int)≤Q),210),(decide ((1000:Int)<T.num),2),(decide ((8:Int)<(n:Int)-kc),204)] x.1 (z.getD 0 undef):=L 39 z rfl;rw[eg];have an:=Hd (bV [(decide ((0:Int)≤Q),210),(decide ((1000:Int)<T.num),2),(decide ((8:Int)<(n:Int)-kc),204)] 4 T.text T.num T.place (.slice p n c) g 3 3 x.1 rfl (by omega) D);have N:=Hd x.2;clear L eg lg D E0 E1 E2 E3 E4 MR;go_wp2_with fail
     refine an.o.mono ?_;rintro e W2 ⟨y,he⟩;have G:=N.o.trans (y.mono N.o.size);clear y;have H:Hid (Ft w W2):=S.o.trans (G.mono S.o.size)
     cases O:decide ((0:Int)≤Q) with
     | true =>
      rw[O]at he;have he:e=aJ 210 T.place:=he;subst he;refine⟨rfl,Chg.of_below H.o,?_⟩;rw[Z.o (Y.o.symm.trans O)];rfl
     | false =>
      rw[O]at he;have A:=Y.o.symm.trans O
      cases h2:decide ((1000:Int)<T.num) with
      | true =>
       rw[h2]at he;have he:e=aJ 2 T.place:=he;subst he;refine⟨rfl,Chg.of_below H.o,?_⟩;rw[ad.o A (by rw[show decide (1000<T.num)=true from h2,Bool.or_true])];rfl
      | false =>
       rw[h2]at he;have X:(decide (T.num < -1000)||decide (1000<T.num))=false:=by rw[oc (show ¬T.num < -1000 by have:=bb.o;omega),show decide (1000<T.num)=false from h2];rfl
       cases h3:decide ((8:Int)<(n:Int)-kc) with
       | true =>
        rw[h3]at he;have e9:8<n-kc:=by have:=oj h3;omega
        have he:e=aJ 204 T.place:=he;subst he;refine⟨rfl,Chg.of_below H.o,?_⟩;rw[bn.o A X (by rw[decide_eq_true e9,Bool.or_true])];rfl
       | false =>
        rw[h3]at he;have e9:¬8<n-kc:=by have:=of_decide_eq_false h3;omega
        have he:e=.returned (.tuple #[]):=he;subst he;have HP:Hid (Ft w1 W2∧(idxOf T.text (rs.map aj.name)).isSome=false∧(decide (T.num < -1000)||decide (1000<T.num))=false∧(decide (64≤nR)||decide (8<kc)||decide (8<n-kc))=false):=⟨G,A,X,by rw[oc e9,oc cx.o,oc ht.o];rfl⟩;clear O h2 h3 he G e0 e1 e2 e3 e4 e7 X A;go_wp2_with fail
        go_meet
        case rel=>exact HP.o
 case rest =>
  obtain⟨ar,A,X,hy⟩:=hcut;have fm:Hid (ee d ts rs T=match bG (dI d ts) ⟨[],[],[]⟩ T.kids with | .error e=>.error e | .ok s=>.ok (rs++[⟨T.text,T.num,s.vars.length,s.conds,s.acts⟩])):=by
   show _=_
   unfold ee;rw[A,n8 (by decide),X,n8 (by decide),n8 (by rw[HN.o,gN.o,b4.o,hy];decide)]
  have l0:=Hd (S.o.trans (ar.mono S.o.size));have bc:=Hd (cv.o.below ar);have X:=aa ar hd.o (Ez.1 hd.o).1;have bb:=Hd X;obtain⟨y2,y3,y4,y5,y6,y7,hm⟩:=bc.o.m;obtain⟨w3,bq⟩:=zzx (((((((wc.drew.setCell ⟨M,2,none⟩ (slice none 0 0)).setCell ⟨M,3,none⟩ (.string T.text)).setCell ⟨M,4,none⟩ (int i64 T.num)).setCell ⟨M,5,none⟩ (int i64 0)).setCell ⟨M,6,none⟩ (slice none 0 0)).setCell ⟨M,7,none⟩ (slice none 0 0)));have b8:w3.heap[M]?=some (.cells #[vT,.slice I rs.length J,slice none 0 0,.string T.text,int i64 T.num,int i64 0,slice none 0 0,slice none 0 0] 116 (0,0)):=by
   rw[bq];have h2:(wc.drew.setCell ⟨M,2,none⟩ (slice none 0 0)).heap[M]?=some (.cells #[vT,.slice I rs.length J,slice none 0 0,y3,y4,y5,y6,y7] 116 (0,0)):=heap_set hm 2 _;have h3:((wc.drew.setCell ⟨M,2,none⟩ (slice none 0 0)).setCell ⟨M,3,none⟩ (.string T.text)).heap[M]?=some (.cells #[vT,.slice I rs.length J,slice none 0 0,.string T.text,y4,y5,y6,y7] 116 (0,0)):=heap_set h2 3 _;have h4:(((wc.drew.setCell ⟨M,2,none⟩ (slice none 0 0)).setCell ⟨M,3,none⟩ (.string T.text)).setCell ⟨M,4,none⟩ (int i64 T.num)).heap[M]?=some (.cells #[vT,.slice I rs.length J,slice none 0 0,.string T.text,int i64 T.num,y5,y6,y7] 116 (0,0)):=heap_set h3 4 _;have h5:((((wc.drew.setCell ⟨M,2,none⟩ (slice none 0 0)).setCell ⟨M,3,none⟩ (.string T.text)).setCell ⟨M,4,none⟩ (int i64 T.num)).setCell ⟨M,5,none⟩ (int i64 0)).heap[M]?=some (.cells #[vT,.slice I rs.length J,slice none 0 0,.string T.text,int i64 T.num,int i64 0,y6,y7] 116 (0,0)):=heap_set h4 5 _;have h6:(((((wc.drew.setCell ⟨M,2,none⟩ (slice none 0 0)).setCell ⟨M,3,none⟩ (.string T.text)).setCell ⟨M,4,none⟩ (int i64 T.num)).setCell ⟨M,5,none⟩ (int i64 0)).setCell ⟨M,6,none⟩ (slice none 0 0)).heap[M]?=some (.cells #[vT,.slice I rs.length J,slice none 0 0,.string T.text,int i64 T.num,int i64 0,slice none 0 0,y7] 116 (0,0)):=heap_set h5 6 _;exact heap_set h6 7 _
  have bd:∀b,b≠M→w3.heap[b]?=wc.heap[b]?:=fun b q=>by
   have hh:∀(V:World) (i:Nat) (u:Value),(V.setCell ⟨M,i,none⟩ u).heap[b]?=V.heap[b]?:=fun V i u=>ED V ⟨M,i,none⟩ u b q
   rw[bq,hh,hh,hh,hh,hh,hh];rfl
  have da:w3.heap.size=wc.heap.size:=by rw[bq];simp[World.setCell]
  have fr:w.heap.size≠M:=fun e=>by have:=gT.o M (Or.inl rfl);omega
  have cx:Hid (w3.heap[w.heap.size]?=some (.cells #[int .u8 4,string T.text,int i64 T.num,int i64 T.place,slice p n c] 76 (0,0))):=(bd _ fr).trans X;have l1:∀b,aL M [vT,.slice I rs.length J,slice none 0 0,slice none 0 0,slice none 0 0] b→aL M [vT,.slice I rs.length J] b:=fun b q=>by
   rcases q with rfl|⟨v,hv,q⟩
   ·exact Or.inl rfl
   ·simp only[Fh,Ff,oB]at hv;rcases hv with rfl|rfl|rfl|rfl|rfl
    ·exact Or.inr ⟨_,by simp,q⟩
    ·exact Or.inr ⟨_,by simp,q⟩
    ·cases q
    ·cases q
    ·cases q
  have l2:Hid (MkW F d M ts rs [] T.text T.num 0 [] [] vT (.slice I rs.length J) (slice none 0 0) (slice none 0 0) (slice none 0 0) w3):=by
   have l3:∀b,F b→b≠M:=fun b q e=>(bc.o.f b q).2 (Or.inl e)
   have hk:∀b,F b→∀o,wc.heap[b]?=some o→w3.heap[b]?=some o:=fun b q o P=>(bd b (l3 b q)).trans P
   exact⟨fun b q=>⟨by rw[da];exact (bc.o.f b q).1,fun P=>(bc.o.f b q).2 (l1 b P)⟩,b8,
    bc.o.t.keep (fun g D=>bd g (fun e=>row_ne hm bc.o.t (by decide) (e ▸ D))) hk (fun _ h=>h),
    bc.o.r.keep (fun g D=>bd g (fun e=>row_ne hm bc.o.r (by decide) (e ▸ D))) hk (fun _ h=>h),aX.nil,aX.nil,aX.nil⟩
  have l4:Hid (Chg (aL M [vT,.slice I rs.length J]) w w3):=by
   show Chg _ _ _
   rw[bq];exact ((((((Chg.of_below l0.o.drew).setCell (p:=⟨M,2,none⟩) (Or.inl (Or.inl rfl)) _).setCell (p:=⟨M,3,none⟩) (Or.inl (Or.inl rfl)) _).setCell (p:=⟨M,4,none⟩) (Or.inl (Or.inl rfl)) _).setCell (p:=⟨M,5,none⟩) (Or.inl (Or.inl rfl)) _).setCell (p:=⟨M,6,none⟩) (Or.inl (Or.inl rfl)) _).setCell (p:=⟨M,7,none⟩) (Or.inl (Or.inl rfl)) _
  clear e0 e1 e2 e3 e4 E0 E1 E2 E3 E4 MR e7 A hy ar cq a8 Y;obtain⟨e0,e1,e2,e3,e4⟩:=cells5 X;have m2:wc.cell? ⟨M,2,none⟩=some y2:=by rw[Fq _ _ _ _ _ _ hm];rfl
  have fz:=bT hm;have HM:=Hd hm;clear X hm b8 bd da;have D0:Hid (wc.drew.setCell ⟨M,2,none⟩ (slice none 0 0)=(wc.setCell ⟨M,2,none⟩ (slice none 0 0)).drew):=rfl;go_upto_region 3 with fail
  obtain⟨wa,fs⟩:=zzx (wc.drew.setCell ⟨M,2,none⟩ (slice none 0 0));have hz:=Hd fs;have fv:∀i,wa.cell? ⟨w.heap.size,i,none⟩=wc.cell? ⟨w.heap.size,i,none⟩:=fun i=>by
   unfold World.cell?;rw[fs,ED _ _ _ _ fr];rfl
  have X1:=fun x:RE.Two wc.drew wa=>RE.Two.cell (p:=⟨w.heap.size,1,none⟩) (show wc.drew.cell? ⟨w.heap.size,1,none⟩=_ from e1) ((fv 1).trans e1) x
  have X2:=fun x:RE.Two wc.drew wa=>RE.Two.cell (p:=⟨w.heap.size,2,none⟩) (show wc.drew.cell? ⟨w.heap.size,2,none⟩=_ from e2) ((fv 2).trans e2) x
  clear fs fv;refine RE.wp_region_eff (by kernel_rfl) 10 [9] [9] (fun s W=>if s=0 then W=wc.drew else W=wa) (fun _ _=>True) (fun _ _=>undef) (fun _ _ _=>True) (by kernel_rfl) (fun i O h2=>by cases hi:[9].contains i<;>simp_all) (fun _ _ _ _ _ _ _=>trivial) rfl ?_
  simp only[EK,ET,EL,ES]
  repeat (refine RE.wpE_read (fun W=>∃x:RE.Two wc.drew wa,W=x.1) RE.two_class rfl rfl rfl rfl ?_;go_big_quiet_step (fail);refine wpQuiet_nil ?_)
  refine RE.wpE_turn rfl rfl ?_ (fun xs=>?_)
  ·intro W U hS _;obtain rfl:W=wc.drew:=hS rfl;refine RE.upon_skip (w':=wc.drew.setCell ⟨M,2,none⟩ (slice none 0 0)) ?_ ⟨[],rfl,hz.o.symm,trivial,trivial⟩;have ma:=sJ wc.drew M 2 y2 m2 (fz 2);simp[execOp,Act.eval,ma]
  simp only[Act.put,Nat.reduceAdd]
  repeat (refine RE.wpE_read (fun W=>∃x:RE.Two wc.drew wa,W=x.1) RE.two_class rfl rfl rfl rfl ?_;go_big_quiet_step (fail);refine wpQuiet_nil ?_)
  refine RE.wpE_nil ?_;intro W hS _;have hS:W=wa:=hS;rw[hS,hz.o];clear hS X1 X2;have av:(wc.drew.setCell ⟨M,2,none⟩ (slice none 0 0)).heap[M]?=some (.cells #[vT,.slice I rs.length J,slice none 0 0,y3,y4,y5,y6,y7] 116 (0,0)):=heap_set (show wc.drew.heap[M]?=_ from HM.o) 2 _;obtain⟨wb,hA⟩:=zzx (wc.drew.setCell ⟨M,2,none⟩ (slice none 0 0));rw[←hA]at av bq ⊢;have m3:wb.cell? ⟨M,3,none⟩=some y3:=by rw[Fq _ _ _ _ _ _ av];rfl
  have m4:wb.cell? ⟨M,4,none⟩=some y4:=by rw[Fq _ _ _ _ _ _ av];rfl
  have m5:wb.cell? ⟨M,5,none⟩=some y5:=by rw[Fq _ _ _ _ _ _ av];rfl
  have m6:wb.cell? ⟨M,6,none⟩=some y6:=by rw[Fq _ _ _ _ _ _ av];rfl
  have m7:wb.cell? ⟨M,7,none⟩=some y7:=by rw[Fq _ _ _ _ _ _ av];rfl
  have fz:=bT av;clear hA av D0;go_upto_region 4 with fail
  change Code.wp _ _ _ _ (((((wb.setCell ⟨M,3,none⟩ (.string T.text)).setCell ⟨M,4,none⟩ (int i64 T.num)).setCell ⟨M,5,none⟩ (int i64 0)).setCell ⟨M,6,none⟩ (slice none 0 0)).setCell ⟨M,7,none⟩ (slice none 0 0));rw[←bq];clear bq m3 m4 m5 m6 m7 fz fr;obtain⟨n0,n1,n2,n3,n4⟩:=cells5 cx.o;go_wp2_with fail
  go_loopw [65] (pr F d M ts rs vT (.slice I rs.length J) T (.slice p n c) n w) (fun i _=>n-(intOf i).toNat)
  case atStart=>exact⟨0,⟨[],[],[]⟩,F,slice none 0 0,slice none 0 0,slice none 0 0,EM _,rfl,rfl,EM _,EA _,EA _,l2.o,fun _ h=>h,fun _ h=>Or.inl h,(fun v hv g D=>by simp only[Fh,Ff,oB,or_self]at hv;subst hv;cases D),l4.o⟩
  case round =>
   obtain⟨j,s,F',vV,vC,vA,hj,rfl,b9,cT,fI,nu,hD,dc,dd,af,bB⟩:=hrel;have nx:(0:Int)≤j:=by omega
   have hG:=Hd b9;have B:=Hd hD;have HSub:=Hd dc;have ca:=Hd dd;have R:=Hd af;have dg:=Hd bB;have hI:Hid (Below B0 w wr):=Chg.to_below (EB B0 w) bB HO.o b1;have fT:Hid (w.heap.size≤wr.heap.size):=bB.size;clear b9 hD dc dd af bB n0 n1 n2 n3 n4
   by_cases mc:j<n
   ·have nT:(j:Int)<n:=by omega
    obtain⟨K,hK⟩:∃K,T.kids[j]?=some K:=⟨_,EE (by rw[b4.o];exact mc)⟩;have b3:=ev.o.below hI.o;rcases b3 with ⟨h0,_⟩|⟨b,off,cap,O,h2,h3,h4,he,h6⟩
    ·rw[h0]at hK;simp at hK
    rw[b4.o]at he h3;injection he with me _ mg
    subst me;subst mg;obtain⟨hJ,sK,c0,c1,c2,c3,c4,cW⟩:=h6 j K hK;have c5:=lf.o K (EU hK);have c6:=cW.slice;obtain⟨ps,cc,hL⟩:=c6;obtain⟨nk,hM⟩:=zzy (K.kids.length);rw[hM]at hL;subst hL;obtain⟨C,aq⟩:=zzx (wr.alloc (.cells #[int .u8 K.kind,.string K.text,int i64 K.num,int i64 K.place,.slice ps nk cc] 76));have y:Ft wr C:=by rw[aq];exact (EB _ wr).alloc (EA _) _
    have a1:C.heap[wr.heap.size]?=some (.cells #[int .u8 K.kind,.string K.text,int i64 K.num,int i64 K.place,.slice ps nk cc] 76 (0,0)):=by rw[aq];exact n7 wr _
    have ch:=Hd y;have hN:=Hd a1;have bR:B0≤C.heap.size:=EG b1 (EG fT.o y.size);have hP:∀b,aL M [vT,.slice I rs.length J,vV,vC,vA] b→B0≤b:=fun b q=>by
     rcases pF q with h|⟨v,hv,h⟩
     ·exact HO.o b h
     ·have:=R.o v hv b h;omega
    have br:=Hd (Ce F' d M ts rs s.vars T.text T.num 0 s.conds s.acts vT (.slice I rs.length J) vV vC vA K (.slice ps nk cc) B0 C (B.o.below y) (by omega) cT gL c5 (cW.below (y.mono (EG b1 fT.o))) bR hP);have ck:=Hd (fun (W:World) (hW:Ft C W) (hm:MkW F' d M ts rs s.vars T.text T.num 0 s.conds s.acts vT (.slice I rs.length J) vV vC vA W)=>Di F' d M ts rs s.vars T.text T.num 0 s.conds s.acts vT (.slice I rs.length J) vV vC vA K (.slice ps nk cc) B0 W hm (by omega) (by omega) gL c5 ((cW.below (y.mono (EG b1 fT.o))).below (hW.mono bR)) (EG bR hW.size));have gf:=Hd (fL (f:=dI d ts) hK hG.o);have hQ:=Hd (fun er (h:dI d ts s K=.error er)=>gJ (f:=dI d ts) (l:=T.kids) (k:=j+1) (s:=⟨[],[],[]⟩) (e:=er) (gf.o.trans h));have hT:=Hd c5;have b0:Hid (Chg (aL M [vT,.slice I rs.length J]) w C):=dg.o.trans (Chg.of_below y);have c7:Hid (∀b,aL M [vT,.slice I rs.length J,vV,vC,vA] b→aL M [vT,.slice I rs.length J] b∨w.heap.size≤b):=fun b q=>by
     rcases pF q with h|⟨v,hv,h⟩
     ·exact Or.inl h
     ·exact Or.inr (R.o v hv b h)
    have gg:Hid (w.heap.size≤C.heap.size):=b0.o.size;obtain⟨k0,k1,k2,k3,k4⟩:=cells5 a1;clear hJ cW h6 O h2 h3 h4 c5 hK y a1 bR hP hM;go_upto_region 7 with fail
    change Code.wp _ _ _ _ (wr.alloc (.cells #[int .u8 K.kind,.string K.text,int i64 K.num,int i64 K.place,.slice ps nk cc] 76));rw[←aq];clear aq c0 c1 c2 c3 c4;go_wp2_with fail
    refine br.o.mono ?_;rintro e W2 he;unfold qN at he;clear k0 k1 k2 k3 k4
    cases hc:cK K with
    | true =>
     rw[hc]at he;simp only[oA]at he;obtain⟨bt,he⟩:=he
     cases hr:eX d ts s.vars K with
     | error er =>
      rw[hr]at he;have he:e=aJ er.1 er.2:=he;subst he;refine⟨rfl,cp b0.o bt c7.o,?_⟩;rw[fm.o,hQ.o er (by rw[rn hc hT.o,hr])];rfl
     | ok x =>
      rw[hr]at he;obtain⟨rfl,F2,mu,mv,ak,a6,hX,bk,bl⟩:=he;have HR:Hid (pr F d M ts rs vT (.slice I rs.length J) T (slice (some ⟨b,off,none⟩) n c) n w (int i64 ((j+1:Nat):Int)) W2):=by
       refine⟨j+1,⟨x.1,s.conds++[x.2],s.acts⟩,F2,mu,mv,vA,by omega,rfl,?_,zB hr cT,by rw[EO];simp;omega,by show s.acts.length≤j+1;omega,ak,fun b q=>bk b (HSub.o b q),fun b q=>?_,fun v hv g D=>?_,cp b0.o bt c7.o⟩
       ·rw[gf.o,rn hc hT.o,hr]
       ·rcases bl b q with h|h
        ·exact ca.o b h
        ·exact Or.inr (EG gg.o h)
       ·simp only[Fh,Ff,oB]at hv;rcases hv with rfl|rfl|rfl
        ·rcases a6 g D with h|h
         ·exact R.o vV (by simp) g h
         ·exact EG gg.o h
        ·rcases hX g D with h|h
         ·exact R.o vC (by simp) g h
         ·exact EG gg.o h
        ·exact R.o v (by simp) g D
      clear ak a6 hX bk bl bt hr hc br ck;go_wp2_with fail
      refine⟨HR.o,?_⟩;simp[intOf];omega
    | false =>
     rw[hc]at he;simp only[EW,oi]at he;obtain⟨rfl,ar,ak⟩:=he;have hY:=aa ar hN.o (Ez.1 hN.o).1;have cl:Hid (Chg (aL M [vT,.slice I rs.length J]) w W2):=b0.o.trans (Chg.of_below ar);have HA:=Hd (ck.o W2 ar ak);have hZ:Hid (w.heap.size≤W2.heap.size):=cl.o.size;have h7:=Hd hc;obtain⟨k0,k1,k2,k3,k4⟩:=cells5 hY;clear hY ar ak hc br ck;go_wp2_with fail
     refine HA.o.mono ?_;rintro e W3 ⟨bt,he⟩;clear k0 k1 k2 k3 k4
     cases hr:ii d ts s.vars s.conds K with
     | error er =>
      rw[hr]at he;have he:e=aJ er.1 er.2:=he;subst he;refine⟨rfl,cp cl.o bt c7.o,?_⟩;rw[fm.o,hQ.o er (by rw[uP h7.o,hr])];rfl
     | ok x =>
      rw[hr]at he;obtain⟨rfl,F2,mA,ak,a6,bk,bl⟩:=he;have HR:Hid (pr F d M ts rs vT (.slice I rs.length J) T (slice (some ⟨b,off,none⟩) n c) n w (int i64 ((j+1:Nat):Int)) W3):=by
       refine⟨j+1,⟨s.vars,s.conds,s.acts++[x]⟩,F2,vV,vC,mA,by omega,rfl,?_,cT,by show s.conds.length≤j+1;omega,by rw[EO];simp;omega,ak,fun b q=>bk b (HSub.o b q),fun b q=>?_,fun v hv g D=>?_,cp cl.o bt c7.o⟩
       ·rw[gf.o,uP h7.o,hr]
       ·rcases bl b q with h|h
        ·exact ca.o b h
        ·exact Or.inr (EG hZ.o h)
       ·simp only[Fh,Ff,oB]at hv;rcases hv with rfl|rfl|rfl
        ·exact R.o v (by simp) g D
        ·exact R.o v (by simp) g D
        ·rcases a6 g D with h|h
         ·exact R.o vA (by simp) g h
         ·exact EG hZ.o h
      clear ak a6 bk bl bt hr HA;go_wp2_with fail
      refine⟨HR.o,?_⟩;simp[intOf];omega
   ·have dv:bG (dI d ts) ⟨[],[],[]⟩ T.kids=.ok s:=by
     rw[←hG.o,ER (by rw[b4.o];omega)]
    obtain⟨pV,cV,ih⟩:=B.o.v.shape;obtain⟨pC,cC,iA⟩:=B.o.c.shape;obtain⟨pA,cA,iB⟩:=B.o.a.shape;obtain⟨nv,gD⟩:=zzy (s.vars.length);obtain⟨nC,iX⟩:=zzy (s.conds.length);obtain⟨nA,i1⟩:=zzy (s.acts.length);rw[gD]at ih cT;rw[iX]at iA;rw[i1]at iB;subst ih;subst iA;subst iB;have jj:Hid (ee d ts rs T=.ok (rs++[⟨T.text,T.num,(nv:Int),s.conds,s.acts⟩])):=by
     show _=_
     rw[fm.o,dv]
     show Except.ok (rs++[⟨T.text,T.num,(s.vars.length:Int),s.conds,s.acts⟩])=_
     rw[gD]
    have hm:=B.o.m;obtain⟨C,aq⟩:=zzx (wr.setCell ⟨M,5,none⟩ (int i64 (nv:Int)));have b2:C.heap[M]?=some (.cells #[vT,.slice I rs.length J,.slice pV nv cV,.string T.text,int i64 T.num,int i64 (nv:Int),.slice pC nC cC,.slice pA nA cA] 116 (0,0)):=by rw[aq];exact heap_set hm 5 _
    have c8:∀b,b≠M→C.heap[b]?=wr.heap[b]?:=fun b q=>by rw[aq];exact ED wr ⟨M,5,none⟩ _ b q
    have ec:C.heap.size=wr.heap.size:=by rw[aq];simp[World.setCell]
    have gE:Hid (∀b,(F' b∨(slice pC nC cC).ownBlock=some b∨(slice pA nA cA).ownBlock=some b)→b<wr.heap.size∧¬aL M [vT,.slice I rs.length J] b):=fun b q=>by
     rcases q with q|q|q
     ·exact⟨(B.o.f b q).1,fun P=>(B.o.f b q).2 (by
       rcases P with rfl|⟨v,hv,P⟩
       ·exact Or.inl rfl
       ·simp only[Fh,Ff,oB]at hv;rcases hv with rfl|rfl
        ·exact Or.inr ⟨_,by simp,P⟩
        ·exact Or.inr ⟨_,by simp,P⟩)⟩
     ·obtain⟨ds,h⟩:=B.o.c.type q;refine⟨B.o.c.lt q,fun P=>?_⟩;rcases P with rfl|⟨v,hv,P⟩
      ·exact row_ne hm B.o.c (by decide) q
      ·simp only[Fh,Ff,oB]at hv;rcases hv with rfl|rfl
       ·exact row_ne h B.o.t (by decide) P
       ·exact row_ne h B.o.r (by decide) P
     ·obtain⟨ds,h⟩:=B.o.a.type q;refine⟨B.o.a.lt q,fun P=>?_⟩;rcases P with rfl|⟨v,hv,P⟩
      ·exact row_ne hm B.o.a (by decide) q
      ·simp only[Fh,Ff,oB]at hv;rcases hv with rfl|rfl
       ·exact row_ne h B.o.t (by decide) P
       ·exact row_ne h B.o.r (by decide) P
    have a1:∀b,(F' b∨(slice pC nC cC).ownBlock=some b∨(slice pA nA cA).ownBlock=some b)→∀o,wr.heap[b]?=some o→C.heap[b]?=some o:=fun b q o P=>(c8 b (fun e=>(gE.o b q).2 (Or.inl e))).trans P
    have ch:Hid (MkB (fun b=>F' b∨(slice pC nC cC).ownBlock=some b∨(slice pA nA cA).ownBlock=some b) d M ts rs vT (.slice I rs.length J) C):=
     ⟨fun b q=>⟨by rw[ec];exact (gE.o b q).1,(gE.o b q).2⟩,⟨_,_,_,_,_,_,b2⟩,
      B.o.t.keep (fun g D=>c8 g (fun e=>row_ne hm B.o.t (by decide) (e ▸ D))) (fun b q=>a1 b (Or.inl q)) (fun _ h=>Or.inl h),
      B.o.r.keep (fun g D=>c8 g (fun e=>row_ne hm B.o.r (by decide) (e ▸ D))) (fun b q=>a1 b (Or.inl q)) (fun _ h=>Or.inl h)⟩
    have mB:Hid ((bp d).row C (fun b=>F' b∨(slice pC nC cC).ownBlock=some b∨(slice pA nA cA).ownBlock=some b) s.conds (.slice pC nC cC)):=Rd.row_keep a1 (B.o.c.row (fun _ h=>Or.inl h) (fun g D=>Or.inr (Or.inl D)));have mC:Hid ((bS d).row C (fun b=>F' b∨(slice pC nC cC).ownBlock=some b∨(slice pA nA cA).ownBlock=some b) s.acts (.slice pA nA cA)):=Rd.row_keep a1 (B.o.a.row (fun _ h=>Or.inl h) (fun g D=>Or.inr (Or.inr D)));have j2:Hid (Chg (aL M [vT,.slice I rs.length J]) w C):=by show Chg _ _ _;rw[aq];exact dg.o.setCell (p:=⟨M,5,none⟩) (Or.inl (Or.inl rfl)) _
    have a7:=Hd b2;have m2:wr.cell? ⟨M,2,none⟩=some (.slice pV nv cV):=by rw[Fq _ _ _ _ _ _ hm];rfl
    have m5:wr.cell? ⟨M,5,none⟩=some (int i64 0):=by rw[Fq _ _ _ _ _ _ hm];rfl
    have fz:=bT hm;clear dv gD iX i1 hm b2 c8 ec a1;go_upto_region 11 with fail
    change Code.wp _ _ _ _ (wr.setCell ⟨M,5,none⟩ (int i64 (nv:Int)));rw[←aq];clear aq m2 m5 fz;obtain⟨us,af,fI⟩:=ch.o.r;rw[HN.o]at af;have af:C.ownsRow 0 38 5 (.slice I nR J) nR us:=af;have gF:=Hd af;have kk:=Hd fI;have kn:C.cell? ⟨M,1,none⟩=some (.slice I nR J):=by rw[Fq _ _ _ _ _ _ a7.o,←HN.o];rfl
    have b8:C.cell? ⟨M,3,none⟩=some (.string T.text):=by rw[Fq _ _ _ _ _ _ a7.o];rfl
    have kr:C.cell? ⟨M,4,none⟩=some (int i64 T.num):=by rw[Fq _ _ _ _ _ _ a7.o];rfl
    have b2:C.cell? ⟨M,5,none⟩=some (int i64 (nv:Int)):=by rw[Fq _ _ _ _ _ _ a7.o];rfl
    have ks:C.cell? ⟨M,6,none⟩=some (.slice pC nC cC):=by rw[Fq _ _ _ _ _ _ a7.o];rfl
    have kv:C.cell? ⟨M,7,none⟩=some (.slice pA nA cA):=by rw[Fq _ _ _ _ _ _ a7.o];rfl
    have hK:∀b,b=M→b<C.heap.size∧(slice I nR J).ownBlock≠some b:=fun b q=>by
     rw[←HN.o,q];exact⟨ch.o.lt,row_ne a7.o ch.o.r (by decide)⟩
    have kI:=Hd (jh (E:=38) (sz:=5) (row:=us++[.string T.text,int i64 T.num,int i64 (nv:Int),.slice pC nC cC,.slice pA nA cA]) (K:=fun b=>b=M) hK);have M1:=fun x:Ks C (fun b=>b=M)=>x.cell rfl kn
    have M3:=fun x:Ks C (fun b=>b=M)=>x.cell rfl b8
    have M4:=fun x:Ks C (fun b=>b=M)=>x.cell rfl kr
    have M5:=fun x:Ks C (fun b=>b=M)=>x.cell rfl b2
    have M6:=fun x:Ks C (fun b=>b=M)=>x.cell rfl ks
    have M7:=fun x:Ks C (fun b=>b=M)=>x.cell rfl kv
    clear af fI hK kn b8 kr b2 ks kv;refine RE.wp_region_eff (by kernel_rfl) 13 [11,12] [12] (stA 38 5 C I nR J (us++[.string T.text,int i64 T.num,int i64 (nv:Int),.slice pC nC cC,.slice pA nA cA])) (ApR C) (fun _ z=>z.getD 0 undef) (phA 38 5 C I nR J [.string T.text,int i64 T.num,int i64 (nv:Int),.slice pC nC cC,.slice pA nA cA] (us++[.string T.text,int i64 T.num,int i64 (nv:Int),.slice pC nC cC,.slice pA nA cA]) 11 12) (by kernel_rfl) (fun _ _ _ _ _ _ h q=>h.below q) (fun _ _ _ _ h _ hR=>h.keep hR) stA.zero ?_;simp only[EK,ET,EL,ES]
    repeat (refine RE.wpE_read (fun W=>∃x:Ks C (fun b=>b=M),W=x.1) (kI.o _) rfl rfl rfl stA.zero ?_;go_big_quiet_step (fail);refine wpQuiet_nil ?_)
    refine RE.wpE_turn rfl rfl ?_ (fun mD=>?_)
    ·intro W U hS L;obtain⟨s9,_,h9⟩:=U;exact dB ti (vs:=[.string T.text,int i64 T.num,int i64 (nv:Int),.slice pC nC cC,.slice pA nA cA]) _ rfl rfl rfl h9.size (fun v W' q P=>⟨[v],rfl,q,ApR.of_below q,P⟩)
    simp only[Act.put,EC,EI,EH,Nat.reduceAdd];refine RE.wpE_turn rfl rfl ?_ (fun k5=>?_)
    ·intro W U hS L;obtain⟨x,rfl⟩:∃x:Wb C,W=x.1:=hS rfl;exact fZ ti (p:=I) (n:=nR) (c:=J) (w4:=C) (vs:=[.string T.text,int i64 T.num,int i64 (nv:Int),.slice pC nC cC,.slice pA nA cA]) (xs:=us) _ _ rfl rfl (L 11 mD (by kernel_rfl) rfl) rfl (by simp[Value.oneCell']) x.2 gF.o (by omega) (fun v' W' O h2 h3=>⟨[v'],rfl,O,h2,h3⟩)
    simp only[Act.put,EC,EI,EH,Nat.reduceAdd];refine RE.wpE_nil ?_;intro W hS L;have hS:ApS 38 5 C I nR J (us++[.string T.text,int i64 T.num,int i64 (nv:Int),.slice pC nC cC,.slice pA nA cA]) W:=hS;have hV:ApV 38 5 C I nR J (us++[.string T.text,int i64 T.num,int i64 (nv:Int),.slice pC nC cC,.slice pA nA cA]) W (k5.getD 0 undef):=L 12 k5 rfl;obtain⟨g',cap,eg,D,U,ek⟩:=hU hS hV;rw[eg];have k6:Chg (fun b=>(slice I rs.length J).ownBlock=some b) C W:=by rw[HN.o];exact U
    have a6:(slice I rs.length J).ownBlock=some g'∨C.heap.size≤g':=by rw[HN.o];exact D
    have k7:(bh d).at_ C (fun b=>F' b∨(slice pC nC cC).ownBlock=some b∨(slice pA nA cA).ownBlock=some b) ⟨T.text,T.num,(nv:Int),s.conds,s.acts⟩ [.string T.text,int i64 T.num,int i64 (nv:Int),.slice pC nC cC,.slice pA nA cA]:=dY.2 ⟨lb,gM,⟨by show (-9223372036854775808:Int)≤(nv:Int);omega,by show (nv:Int)<9223372036854775808;omega⟩,_,_,rfl,mB.o,mC.o⟩;obtain⟨k8,k9,gH⟩:=ch.o.pushR HN.o kk.o k7 a6 k6 ek;have av:W.cell? ⟨M,1,none⟩=some (.slice I nR J):=by rw[Fq _ _ _ _ _ _ (gH.trans a7.o),←HN.o];rfl
    have n5:=ao (gH.trans a7.o) 1;have HP:Hid (mo F d M ts vT (.slice I rs.length J) (.ok (rs++[⟨T.text,T.num,(nv:Int),s.conds,s.acts⟩])) w (.returned (.tuple #[])) (W.setCell ⟨M,1,none⟩ (slice (some ⟨g',0,none⟩) (nR+1) cap))):=by
     refine⟨cp j2.o k9 (fun x hx=>Or.inl hx),rfl,_,_,k8,fun b q=>?_,fun b q=>Or.inl (HSub.o b q),fun b q=>?_⟩
     ·injection q with q
      have q:g'=b:=q;subst q;rcases a6 with h|h
      ·exact Or.inl h
      ·have:=j2.o.size;exact Or.inr (by omega)
     ·rcases q with q|q|q
      ·exact ca.o b q
      ·exact Or.inr (R.o _ (by simp) b q)
      ·exact Or.inr (R.o _ (by simp) b q)
    clear hS hV L eg D U ek k6 a6 k8 k9 gH M1 M3 M4 M5 M6 M7 kI k7;go_wp2_with fail
    go_end0
    rw[jj.o];exact HP.o
