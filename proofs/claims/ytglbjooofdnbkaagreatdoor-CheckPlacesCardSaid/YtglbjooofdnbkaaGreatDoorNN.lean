/- The rule checker: a rule is made; by contract. Condition: as its parts'. Printed by tools/genWhole.py. -/
import Derived.Test.YtglbjooofdnbkaaGreatDoorNL
namespace Go.Proofs.YtglbjooofdnbkaaGreatDoor
set_option maxHeartbeats 16000000
set_option maxRecDepth 100000
open Go.RowKit
def wholeM (d:Nat) (types:List CType) (rs:List CRule) (T:Tree):Except Flt (List CRule):=
 if (idxOf T.text (rs.map CRule.name)).isSome then .error (210,T.place)
 else if T.num < -1000||1000<T.num then .error (2,T.place)
 else if 64≤rs.length||8<condsM T.kids||8<T.kids.length-condsM T.kids then .error (204,T.place)
 else match foldE (partStep d types) ⟨[],[],[]⟩ T.kids with
  | .error e=>.error e
  | .ok s=>.ok (rs++[⟨T.text,T.num,s.vars.length,s.conds,s.acts⟩])
theorem condsM_le (l:List Tree):condsM l≤l.length:=by
 unfold condsM
 induction l with
 | nil=>exact Nat.le_refl _
 | cons z l ih =>
  rw[List.takeWhile_cons]
  split
  ·simp only[List.length_cons];omega
  ·simp
theorem own8_split {M:Nat}{vT vR vV vC vA:Value}{b:Nat}(h:Own8 M [vT,vR,vV,vC,vA] b):Own8 M [vT,vR] b∨∃v∈[vV,vC,vA],v.ownBlock=some b:=by
 rcases h with rfl|⟨v,hv,hb⟩
 ·exact Or.inl (Or.inl rfl)
 ·simp only[List.mem_cons,List.not_mem_nil,or_false] at hv
  rcases hv with rfl|rfl|rfl|rfl|rfl
  ·exact Or.inl (Or.inr ⟨_,by simp,hb⟩)
  ·exact Or.inl (Or.inr ⟨_,by simp,hb⟩)
  ·exact Or.inr ⟨_,by simp,hb⟩
  ·exact Or.inr ⟨_,by simp,hb⟩
  ·exact Or.inr ⟨_,by simp,hb⟩
theorem args_le16 {b:Bool}:∀(l:List Tree)(s s':List ByteArray×List CArg),foldE (argStep b) s l=.ok s'→s.1.length≤16→s'.1.length≤16
 | [],s,s',h,hs=>by injection h with h;rw[←h];exact hs
 | K::l,s,s',h,hs=>by
  unfold foldE at h
  cases hf:argStep b s K with
  | error e=>rw[hf] at h;cases h
  | ok s1 =>
   rw[hf] at h
   refine args_le16 l s1 s' h ?_
   unfold argStep at hf
   split at hf
   ·injection hf with hf;rw[←hf];exact hs
   ·split at hf
    ·split at hf
     ·injection hf with hf;rw[←hf];exact hs
     ·split at hf
      ·cases hf
      ·split at hf
       ·cases hf
       ·injection hf with hf
        rw[←hf]
        show (s.1++[K.text]).length≤16
        rw[List.length_append];simp;omega
    ·injection hf with hf;rw[←hf];exact hs
theorem cond_le16 {d:Nat}{ts:List CType}{vars:List ByteArray}{K:Tree}{x:List ByteArray×CCond}(h:condOf d ts vars K=.ok x)(hv:vars.length≤16):x.1.length≤16:=by
 have key:∀(b:Bool) (kd:Int) (tr:Except Flt Nat),condFact b kd tr vars K.kids=.ok x→x.1.length≤16:=fun b kd tr h=>by
  unfold condFact at h
  split at h
  ·cases h
  ·cases hf:foldE (argStep b) (vars,[]) K.kids with
   | error e=>rw[hf] at h;cases h
   | ok r =>
    rw[hf] at h
    injection h with h
    rw[←h]
    exact args_le16 K.kids (vars,[]) r hf hv
 unfold condOf at h
 split at h
 ·exact key _ _ _ h
 ·split at h
  ·exact key _ _ _ h
  ·split at h
   ·cases h
   ·unfold condTest at h
    split at h
    ·cases h
    ·injection h with h;rw[←h];exact hv
def WholePost (F:Nat→Prop) (d M:Nat) (ts:List CType) (vT vR:Value) (r:Except Flt (List CRule)) (w:World) (e:Ending) (w':World):Prop:=
 Chg (Own8 M [vT,vR]) w w'∧match r with
 | .ok rs'=>e=.returned (.tuple #[])∧∃(F':Nat→Prop) (vR':Value),MkB F' d M ts rs' vT vR' w'∧Grew vR vR' w.heap.size∧(∀b,F b→F' b)∧∀b,F' b→F b∨w.heap.size≤b
 | .error er=>e=faultP er.1 er.2
theorem elemRule:Elem 46 30 5 80:=Elem.of (z:=.agg #[.string ByteArray.empty,.int .i64 0,.int .i64 0,.slice none 0 0,.slice none 0 0]) Tryz.underlying30 (by kernel_rfl) (by kernel_rfl) (by decide) (by decide)
def WholeRel (F:Nat→Prop) (d M:Nat) (ts:List CType) (rs:List CRule) (vT vR:Value) (T:Tree) (_sl:Value) (n:Nat) (w:World) (i:Value) (W:World):Prop:=
 ∃(j:Nat) (s:RSt) (F':Nat→Prop) (vV vC vA:Value),j≤n∧i=.int .i64 (j:Int)∧foldE (partStep d ts) ⟨[],[],[]⟩ (T.kids.take j)=.ok s∧s.vars.length≤16∧s.conds.length≤j∧s.acts.length≤j∧MkW F' d M ts rs s.vars T.text T.num 0 s.conds s.acts vT vR vV vC vA W ∧
  (∀b,F b→F' b)∧(∀b,F' b→F b∨w.heap.size≤b)∧(∀v∈[vV,vC,vA],∀g,v.ownBlock=some g→w.heap.size≤g)∧Chg (Own8 M [vT,vR]) w W
theorem run_store_nil (W:World)(b o:Nat)(u:Value)(hc:W.cell? ⟨b,o,none⟩=some u)(hf:W.frozen? ⟨b,o,none⟩=false):(Instr.storeAt 75 (.pointer (some ⟨b,o,none⟩)) (.slice none 0 0)).run Tryz.prog W=.ok () (W.setCell ⟨b,o,none⟩ (.slice none 0 0)):=by
 simp[Instr.storeAt,Instr.sureAddr,go_sem,hc,hf]
theorem whole_any (F:Nat→Prop)(d M:Nat)(ts:List CType)(rs:List CRule)(vT vR:Value)(T:Tree)(p:Option Addr)(n c B0:Nat)(w:World)
  (hw:MkB F d M ts rs vT vR w) (hk:T.kind=4) (htn:ts.length≤10000) (hrn:rs.length≤10000) (hTn:T.kids.length=n) (hn:n≤10000) (hks:KidsAt w B0 (d+2) T.kids (.slice p n c)) (hB0:B0≤w.heap.size) (hO:∀b,Own8 M [vT,vR] b→B0≤b)
  (hsz:T.text.size≤maxLen) (hnum:I64 T.num) (hp:∀K∈T.kids,PartOk d K) :
  Calls Tryz.prog 17 #[.pointer (some ⟨M,0,none⟩),.agg #[.int .u8 T.kind,.string T.text,.int .i64 T.num,.int .i64 T.place,.slice p n c]] w (WholePost F d M ts vT vR (wholeM d ts rs T) w):=by
 rw[hk]
 change Calls Tryz.prog 17 #[.pointer (some ⟨M,0,none⟩),.agg #[.int .u8 4,.string T.text,.int .i64 T.num,.int .i64 T.place,.slice p n c]] w _
 obtain⟨pR,cR,hvR⟩:=hw.r.shape
 subst hvR
 obtain⟨nR,hnR⟩:∃nR,rs.length=nR:=⟨_,rfl⟩
 have HN:=Hd hnR
 rw[hnR] at hrn
 obtain⟨kc,hkc⟩:∃kc,condsM T.kids=kc:=⟨_,rfl⟩
 have hkn:kc≤n:=by rw[←hkc,←hTn];exact condsM_le _
 have HCo:=Hd (fun (W:World) (hW:Below w.heap.size w W)=>conds_any T.kids (.slice p n c) (d+1) W ((hks.below (hW.mono hB0)).up (Nat.le_trans hB0 hW.size)) (by omega))
 have HKc:=Hd hkc
 rw[hkc] at HCo
 obtain⟨w0,hw0⟩:∃w0,w0=w.alloc (.cells #[.int .u8 4,.string T.text,.int .i64 T.num,.int .i64 T.place,.slice p n c] 25):=⟨_,rfl⟩
 have hb0:Below w.heap.size w w0:=by rw[hw0];exact (Below.refl _ w).alloc (Nat.le_refl _) _
 have hx0:w0.heap[w.heap.size]? = some (.cells #[Value.int .u8 4,Value.string T.text,Value.int .i64 T.num,Value.int .i64 T.place,Value.slice p n c] 25 (0,0)):=by rw[hw0];exact heap_alloc_new w _
 have HX0:=Hd hx0
 have HB0:=Hd hb0
 have HW:=Hd hw
 have HRlt:=Hd (fun g hg=>hw.r.lt (g:=g) hg)
 have HOlt:=Hd (fun b hb=>hw.own_lt (b:=b) hb)
 have HFlt:=Hd (fun b (hb:F b)=>(hw.f b hb).1)
 have HKids:=Hd hks
 have HTn:=Hd hTn
 have HO:=Hd hO
 have HPa:=Hd hp
 have HCo0:=Hd (HCo.out w0 hb0)
 obtain⟨e0,e1,e2,e3,e4⟩:=cells5 hx0
 clear hb0 hw hk hks hTn hkc hO hp hx0 HCo
 go_enter Tryz.func17,Tryz.ntmps17
 go_upto_region 1 with fail
 change Code.wp _ _ _ _ (w.alloc (.cells #[.int .u8 4,.string T.text,.int .i64 T.num,.int .i64 T.place,.slice p n c] 25))
 rw[←hw0]
 clear hw0
 go_wp2_with fail
 refine HCo0.out.mono ?_
 rintro e w1 ⟨rfl,hb1⟩
 have hx1:=heap_below hb1 HX0.out (Array.getElem?_eq_some_iff.1 HX0.out).1
 have HB1:=Hd (HB0.out.trans (hb1.mono HB0.out.size))
 have HX1:=Hd hx1
 have HW1:=Hd (HW.out.below HB1.out)
 clear hb1 e0 e1 e2 e3 e4
 obtain⟨e0,e1,e2,e3,e4⟩:=cells5 hx1
 obtain⟨ix,hix⟩:∃ix,ix=idxI (idxOf T.text (rs.map CRule.name)):=⟨_,rfl⟩
 have HIx:Hid (decide ((0:Int)≤ix)=(idxOf T.text (rs.map CRule.name)).isSome):=by
  show _=_
  rw[hix]
  cases idxOf T.text (rs.map CRule.name) with
  | none=>rfl
  | some k=>show decide ((0:Int)≤(k:Int))=true;simp
 have HRu:=Hd (fun (W:World) (h:Below w1.heap.size w1 W)=>rule_any d rs T.text _ _ M W (HW1.out.below h).row_r (fun _ h=>h) (HW1.out.below h).cells.2)
 rw[←hix] at HRu
 have hmr:w1.cell? ⟨M,1,none⟩=some (.slice pR nR cR):=by rw[HW1.out.cells.2,HN.out]
 have E0:=fun x:Wb w1=>x.cell e0
 have E1:=fun x:Wb w1=>x.cell e1
 have E2:=fun x:Wb w1=>x.cell e2
 have E3:=fun x:Wb w1=>x.cell e3
 have E4:=fun x:Wb w1=>x.cell e4
 have MR:=fun x:Wb w1=>x.cell hmr
 clear hx1 hix
 have hs1:(-9223372036854775808:Int)≤(n:Int)-kc:=by omega
 have hs2:(n:Int)-kc<9223372036854775808:=by omega
 go_upto_region 2 with fail
 go_cut [] from 10 to 51 (fun W2=>Below w1.heap.size w1 W2∧(idxOf T.text (rs.map CRule.name)).isSome=false∧(decide (T.num < -1000)||decide (1000<T.num))=false∧(decide (64≤nR)||decide (8<kc)||decide (8<n-kc))=false)
 case first =>
  have hE1:(idxOf T.text (rs.map CRule.name)).isSome=true→wholeM d ts rs T=.error (210,T.place):=fun h=>by unfold wholeM;rw[if_pos h]
  have hE2:(idxOf T.text (rs.map CRule.name)).isSome=false→(decide (T.num < -1000)||decide (1000<T.num))=true→wholeM d ts rs T=.error (2,T.place):=fun h h2=>by
   unfold wholeM
   rw[h,if_neg (by decide),if_pos h2]
  have hE3:(idxOf T.text (rs.map CRule.name)).isSome=false→(decide (T.num < -1000)||decide (1000<T.num))=false→(decide (64≤nR)||decide (8<kc)||decide (8<n-kc))=true→wholeM d ts rs T=.error (204,T.place):=fun h h2 h3=>by
   unfold wholeM
   rw[h,if_neg (by decide),h2,if_neg (by decide),if_pos (by rw[HN.out,HKc.out,HTn.out];exact h3)]
  have HErr1:=Hd hE1
  have HErr2:=Hd hE2
  have HErr3:=Hd hE3
  clear hE1 hE2 hE3 hnR
  by_cases h2l:T.num < -1000
  ·have h2l:T.num < -1000:=h2l
   have HX2:=Hd h2l
   have h2b:decide (T.num < -1000)=true:=decide_eq_true h2l
   by_cases h64:64≤nR
   ·have h64i:(64:Int)≤nR:=by omega
    have h64n:=Hd h64
    refine RE.wp_region_eff (by kernel_rfl) 40 [6,39] [] (fun _ W=>∃x:Wb w1,W=x.1) (fun W W'=>Below W.heap.size W W') (fun i ys=>if i=6 then .int .i64 (ix:Int) else ys.getD 0 undef) (fun i W ys=>if i=39 then Asks w1.heap.size [(decide ((0:Int)≤ix),210),(true,2),(true,204)] W (ys.getD 0 undef) else True) (by kernel_rfl) (fun _ _ _ _ _ _ h hb=>wb_next h hb) (fun i W W' ys h _ hb=>by split at h;(rw[if_pos (by assumption)];exact h.below hb);rw[if_neg (by assumption)];trivial) ⟨⟨w1.drew,(Below.refl _ _).drew⟩,rfl⟩ ?_
    simp only[List.take_succ_cons,List.take_zero,List.drop_succ_cons,List.drop_zero]
    repeat (refine RE.wpE_read (fun W=>∃x:Wb w1,W=x.1) (fun _ _ _ h=>h) rfl rfl rfl ⟨⟨w1.drew,(Below.refl _ _).drew⟩,rfl⟩ ?_;go_big_quiet_step (fail);refine wpQuiet_nil ?_)
    refine RE.wpE_turn rfl rfl ?_ (fun ys6=>?_)
    ·intro W hC _ hE
     obtain⟨s9,_,x,rfl⟩:=hC
     refine RE.upon_call 22 _ _ rfl (enters_of Tryz.func22 (by kernel_rfl) rfl) #[.pointer (some ⟨M,0,none⟩),.string T.text] (by simp[Act.eval]) ((HRu.out x.1 x.2).mono ?_)
     rintro e W' ⟨rfl,hb⟩
     exact⟨_,rfl,[],rfl,hb,hb,trivial⟩
    simp only[Act.put,List.setIfInBounds_toArray,List.set_cons_zero,List.set_cons_succ,Nat.reduceAdd,↓reduceIte]
    repeat (refine RE.wpE_read (fun W=>∃x:Wb w1,W=x.1) (fun _ _ _ h=>h) rfl rfl rfl ⟨⟨w1.drew,(Below.refl _ _).drew⟩,rfl⟩ ?_;go_big_quiet_step (fail);refine wpQuiet_nil ?_)
    refine RE.wpE_turn rfl rfl ?_ (fun ys=>?_)
    ·intro W hC _ hE
     obtain⟨s9,_,x,rfl⟩:=hC
     exact upon_asks3 _ _ _ 210 2 204 _ _ _ rfl rfl rfl rfl x.2.size (fun v W' hb ho=>⟨[v],rfl,hb,hb,ho⟩)
    simp only[Act.put,List.setIfInBounds_toArray,List.set_cons_zero,List.set_cons_succ,Nat.reduceAdd,Nat.reduceEqDiff,↓reduceIte]
    refine RE.wpE_nil ?_
    intro W hS hE
    obtain⟨x,rfl⟩:=hS
    obtain⟨g,eg,lg,hg⟩:Asks w1.heap.size [(decide ((0:Int)≤ix),210),(true,2),(true,204)] x.1 (ys.getD 0 undef):=hE 39 ys rfl
    rw[eg]
    have HNn:=Hd (none_any [(decide ((0:Int)≤ix),210),(true,2),(true,204)] 4 T.text T.num T.place (.slice p n c) g 3 3 x.1 rfl (by omega) hg)
    have HBx:=Hd x.2
    clear hE eg lg hg E0 E1 E2 E3 E4 MR
    go_wp2_with fail
    refine HNn.out.mono ?_
    rintro e W2 ⟨hb5,he⟩
    have hb12:=HBx.out.trans (hb5.mono HBx.out.size)
    clear hb5
    have HF1:Hid (Below w.heap.size w W2):=HB1.out.trans (hb12.mono HB1.out.size)
    cases h1:decide ((0:Int)≤ix) with
    | true =>
     rw[h1] at he
     have he:e=faultP 210 T.place:=he
     subst he
     refine⟨rfl,Chg.of_below HF1.out,?_⟩
     rw[HErr1.out (HIx.out.symm.trans h1)]
     rfl
    | false =>
     rw[h1] at he
     have hix:=HIx.out.symm.trans h1
     have he:e=faultP 2 T.place:=he
     subst he
     refine⟨rfl,Chg.of_below HF1.out,?_⟩
     rw[HErr2.out hix (by rw[decide_eq_true HX2.out];rfl)]
     rfl
   ·have h64i:¬(64:Int)≤nR:=by omega
    have HX3:=Hd h64
    by_cases h8:8<kc
    ·have h8i:(8:Int)<kc:=by omega
     have h8n:=Hd h8
     refine RE.wp_region_eff (by kernel_rfl) 40 [6,39] [] (fun _ W=>∃x:Wb w1,W=x.1) (fun W W'=>Below W.heap.size W W') (fun i ys=>if i=6 then .int .i64 (ix:Int) else ys.getD 0 undef) (fun i W ys=>if i=39 then Asks w1.heap.size [(decide ((0:Int)≤ix),210),(true,2),(true,204)] W (ys.getD 0 undef) else True) (by kernel_rfl) (fun _ _ _ _ _ _ h hb=>wb_next h hb) (fun i W W' ys h _ hb=>by split at h;(rw[if_pos (by assumption)];exact h.below hb);rw[if_neg (by assumption)];trivial) ⟨⟨w1.drew,(Below.refl _ _).drew⟩,rfl⟩ ?_
     simp only[List.take_succ_cons,List.take_zero,List.drop_succ_cons,List.drop_zero]
     repeat (refine RE.wpE_read (fun W=>∃x:Wb w1,W=x.1) (fun _ _ _ h=>h) rfl rfl rfl ⟨⟨w1.drew,(Below.refl _ _).drew⟩,rfl⟩ ?_;go_big_quiet_step (fail);refine wpQuiet_nil ?_)
     refine RE.wpE_turn rfl rfl ?_ (fun ys6=>?_)
     ·intro W hC _ hE
      obtain⟨s9,_,x,rfl⟩:=hC
      refine RE.upon_call 22 _ _ rfl (enters_of Tryz.func22 (by kernel_rfl) rfl) #[.pointer (some ⟨M,0,none⟩),.string T.text] (by simp[Act.eval]) ((HRu.out x.1 x.2).mono ?_)
      rintro e W' ⟨rfl,hb⟩
      exact⟨_,rfl,[],rfl,hb,hb,trivial⟩
     simp only[Act.put,List.setIfInBounds_toArray,List.set_cons_zero,List.set_cons_succ,Nat.reduceAdd,↓reduceIte]
     repeat (refine RE.wpE_read (fun W=>∃x:Wb w1,W=x.1) (fun _ _ _ h=>h) rfl rfl rfl ⟨⟨w1.drew,(Below.refl _ _).drew⟩,rfl⟩ ?_;go_big_quiet_step (fail);refine wpQuiet_nil ?_)
     refine RE.wpE_turn rfl rfl ?_ (fun ys=>?_)
     ·intro W hC _ hE
      obtain⟨s9,_,x,rfl⟩:=hC
      exact upon_asks3 _ _ _ 210 2 204 _ _ _ rfl rfl rfl rfl x.2.size (fun v W' hb ho=>⟨[v],rfl,hb,hb,ho⟩)
     simp only[Act.put,List.setIfInBounds_toArray,List.set_cons_zero,List.set_cons_succ,Nat.reduceAdd,Nat.reduceEqDiff,↓reduceIte]
     refine RE.wpE_nil ?_
     intro W hS hE
     obtain⟨x,rfl⟩:=hS
     obtain⟨g,eg,lg,hg⟩:Asks w1.heap.size [(decide ((0:Int)≤ix),210),(true,2),(true,204)] x.1 (ys.getD 0 undef):=hE 39 ys rfl
     rw[eg]
     have HNn:=Hd (none_any [(decide ((0:Int)≤ix),210),(true,2),(true,204)] 4 T.text T.num T.place (.slice p n c) g 3 3 x.1 rfl (by omega) hg)
     have HBx:=Hd x.2
     clear hE eg lg hg E0 E1 E2 E3 E4 MR
     go_wp2_with fail
     refine HNn.out.mono ?_
     rintro e W2 ⟨hb5,he⟩
     have hb12:=HBx.out.trans (hb5.mono HBx.out.size)
     clear hb5
     have HF1:Hid (Below w.heap.size w W2):=HB1.out.trans (hb12.mono HB1.out.size)
     cases h1:decide ((0:Int)≤ix) with
     | true =>
      rw[h1] at he
      have he:e=faultP 210 T.place:=he
      subst he
      refine⟨rfl,Chg.of_below HF1.out,?_⟩
      rw[HErr1.out (HIx.out.symm.trans h1)]
      rfl
     | false =>
      rw[h1] at he
      have hix:=HIx.out.symm.trans h1
      have he:e=faultP 2 T.place:=he
      subst he
      refine⟨rfl,Chg.of_below HF1.out,?_⟩
      rw[HErr2.out hix (by rw[decide_eq_true HX2.out];rfl)]
      rfl
    ·have h8i:¬(8:Int)<kc:=by omega
     have HX4:=Hd h8
     refine RE.wp_region_eff (by kernel_rfl) 40 [6,39] [] (fun _ W=>∃x:Wb w1,W=x.1) (fun W W'=>Below W.heap.size W W') (fun i ys=>if i=6 then .int .i64 (ix:Int) else ys.getD 0 undef) (fun i W ys=>if i=39 then Asks w1.heap.size [(decide ((0:Int)≤ix),210),(true,2),(decide ((8:Int)<(n:Int)-kc),204)] W (ys.getD 0 undef) else True) (by kernel_rfl) (fun _ _ _ _ _ _ h hb=>wb_next h hb) (fun i W W' ys h _ hb=>by split at h;(rw[if_pos (by assumption)];exact h.below hb);rw[if_neg (by assumption)];trivial) ⟨⟨w1.drew,(Below.refl _ _).drew⟩,rfl⟩ ?_
     simp only[List.take_succ_cons,List.take_zero,List.drop_succ_cons,List.drop_zero]
     repeat (refine RE.wpE_read (fun W=>∃x:Wb w1,W=x.1) (fun _ _ _ h=>h) rfl rfl rfl ⟨⟨w1.drew,(Below.refl _ _).drew⟩,rfl⟩ ?_;go_big_quiet_step (fail);refine wpQuiet_nil ?_)
     refine RE.wpE_turn rfl rfl ?_ (fun ys6=>?_)
     ·intro W hC _ hE
      obtain⟨s9,_,x,rfl⟩:=hC
      refine RE.upon_call 22 _ _ rfl (enters_of Tryz.func22 (by kernel_rfl) rfl) #[.pointer (some ⟨M,0,none⟩),.string T.text] (by simp[Act.eval]) ((HRu.out x.1 x.2).mono ?_)
      rintro e W' ⟨rfl,hb⟩
      exact⟨_,rfl,[],rfl,hb,hb,trivial⟩
     simp only[Act.put,List.setIfInBounds_toArray,List.set_cons_zero,List.set_cons_succ,Nat.reduceAdd,↓reduceIte]
     repeat (refine RE.wpE_read (fun W=>∃x:Wb w1,W=x.1) (fun _ _ _ h=>h) rfl rfl rfl ⟨⟨w1.drew,(Below.refl _ _).drew⟩,rfl⟩ ?_;go_big_quiet_step (fail);refine wpQuiet_nil ?_)
     refine RE.wpE_turn rfl rfl ?_ (fun ys=>?_)
     ·intro W hC _ hE
      obtain⟨s9,_,x,rfl⟩:=hC
      exact upon_asks3 _ _ _ 210 2 204 _ _ _ rfl rfl rfl rfl x.2.size (fun v W' hb ho=>⟨[v],rfl,hb,hb,ho⟩)
     simp only[Act.put,List.setIfInBounds_toArray,List.set_cons_zero,List.set_cons_succ,Nat.reduceAdd,Nat.reduceEqDiff,↓reduceIte]
     refine RE.wpE_nil ?_
     intro W hS hE
     obtain⟨x,rfl⟩:=hS
     obtain⟨g,eg,lg,hg⟩:Asks w1.heap.size [(decide ((0:Int)≤ix),210),(true,2),(decide ((8:Int)<(n:Int)-kc),204)] x.1 (ys.getD 0 undef):=hE 39 ys rfl
     rw[eg]
     have HNn:=Hd (none_any [(decide ((0:Int)≤ix),210),(true,2),(decide ((8:Int)<(n:Int)-kc),204)] 4 T.text T.num T.place (.slice p n c) g 3 3 x.1 rfl (by omega) hg)
     have HBx:=Hd x.2
     clear hE eg lg hg E0 E1 E2 E3 E4 MR
     go_wp2_with fail
     refine HNn.out.mono ?_
     rintro e W2 ⟨hb5,he⟩
     have hb12:=HBx.out.trans (hb5.mono HBx.out.size)
     clear hb5
     have HF1:Hid (Below w.heap.size w W2):=HB1.out.trans (hb12.mono HB1.out.size)
     cases h1:decide ((0:Int)≤ix) with
     | true =>
      rw[h1] at he
      have he:e=faultP 210 T.place:=he
      subst he
      refine⟨rfl,Chg.of_below HF1.out,?_⟩
      rw[HErr1.out (HIx.out.symm.trans h1)]
      rfl
     | false =>
      rw[h1] at he
      have hix:=HIx.out.symm.trans h1
      have he:e=faultP 2 T.place:=he
      subst he
      refine⟨rfl,Chg.of_below HF1.out,?_⟩
      rw[HErr2.out hix (by rw[decide_eq_true HX2.out];rfl)]
      rfl
  ·have h2l:¬T.num < -1000:=h2l
   have HX2:=Hd h2l
   have h2b:decide (T.num < -1000)=false:=decide_eq_false h2l
   by_cases h64:64≤nR
   ·have h64i:(64:Int)≤nR:=by omega
    have h64n:=Hd h64
    refine RE.wp_region_eff (by kernel_rfl) 40 [6,39] [] (fun _ W=>∃x:Wb w1,W=x.1) (fun W W'=>Below W.heap.size W W') (fun i ys=>if i=6 then .int .i64 (ix:Int) else ys.getD 0 undef) (fun i W ys=>if i=39 then Asks w1.heap.size [(decide ((0:Int)≤ix),210),(decide ((1000:Int)<T.num),2),(true,204)] W (ys.getD 0 undef) else True) (by kernel_rfl) (fun _ _ _ _ _ _ h hb=>wb_next h hb) (fun i W W' ys h _ hb=>by split at h;(rw[if_pos (by assumption)];exact h.below hb);rw[if_neg (by assumption)];trivial) ⟨⟨w1.drew,(Below.refl _ _).drew⟩,rfl⟩ ?_
    simp only[List.take_succ_cons,List.take_zero,List.drop_succ_cons,List.drop_zero]
    repeat (refine RE.wpE_read (fun W=>∃x:Wb w1,W=x.1) (fun _ _ _ h=>h) rfl rfl rfl ⟨⟨w1.drew,(Below.refl _ _).drew⟩,rfl⟩ ?_;go_big_quiet_step (fail);refine wpQuiet_nil ?_)
    refine RE.wpE_turn rfl rfl ?_ (fun ys6=>?_)
    ·intro W hC _ hE
     obtain⟨s9,_,x,rfl⟩:=hC
     refine RE.upon_call 22 _ _ rfl (enters_of Tryz.func22 (by kernel_rfl) rfl) #[.pointer (some ⟨M,0,none⟩),.string T.text] (by simp[Act.eval]) ((HRu.out x.1 x.2).mono ?_)
     rintro e W' ⟨rfl,hb⟩
     exact⟨_,rfl,[],rfl,hb,hb,trivial⟩
    simp only[Act.put,List.setIfInBounds_toArray,List.set_cons_zero,List.set_cons_succ,Nat.reduceAdd,↓reduceIte]
    repeat (refine RE.wpE_read (fun W=>∃x:Wb w1,W=x.1) (fun _ _ _ h=>h) rfl rfl rfl ⟨⟨w1.drew,(Below.refl _ _).drew⟩,rfl⟩ ?_;go_big_quiet_step (fail);refine wpQuiet_nil ?_)
    refine RE.wpE_turn rfl rfl ?_ (fun ys=>?_)
    ·intro W hC _ hE
     obtain⟨s9,_,x,rfl⟩:=hC
     exact upon_asks3 _ _ _ 210 2 204 _ _ _ rfl rfl rfl rfl x.2.size (fun v W' hb ho=>⟨[v],rfl,hb,hb,ho⟩)
    simp only[Act.put,List.setIfInBounds_toArray,List.set_cons_zero,List.set_cons_succ,Nat.reduceAdd,Nat.reduceEqDiff,↓reduceIte]
    refine RE.wpE_nil ?_
    intro W hS hE
    obtain⟨x,rfl⟩:=hS
    obtain⟨g,eg,lg,hg⟩:Asks w1.heap.size [(decide ((0:Int)≤ix),210),(decide ((1000:Int)<T.num),2),(true,204)] x.1 (ys.getD 0 undef):=hE 39 ys rfl
    rw[eg]
    have HNn:=Hd (none_any [(decide ((0:Int)≤ix),210),(decide ((1000:Int)<T.num),2),(true,204)] 4 T.text T.num T.place (.slice p n c) g 3 3 x.1 rfl (by omega) hg)
    have HBx:=Hd x.2
    clear hE eg lg hg E0 E1 E2 E3 E4 MR
    go_wp2_with fail
    refine HNn.out.mono ?_
    rintro e W2 ⟨hb5,he⟩
    have hb12:=HBx.out.trans (hb5.mono HBx.out.size)
    clear hb5
    have HF1:Hid (Below w.heap.size w W2):=HB1.out.trans (hb12.mono HB1.out.size)
    cases h1:decide ((0:Int)≤ix) with
    | true =>
     rw[h1] at he
     have he:e=faultP 210 T.place:=he
     subst he
     refine⟨rfl,Chg.of_below HF1.out,?_⟩
     rw[HErr1.out (HIx.out.symm.trans h1)]
     rfl
    | false =>
     rw[h1] at he
     have hix:=HIx.out.symm.trans h1
     cases h2:decide ((1000:Int)<T.num) with
     | true =>
      rw[h2] at he
      have he:e=faultP 2 T.place:=he
      subst he
      refine⟨rfl,Chg.of_below HF1.out,?_⟩
      rw[HErr2.out hix (by rw[show decide (1000<T.num)=true from h2,Bool.or_true])]
      rfl
     | false =>
      rw[h2] at he
      have hx2:(decide (T.num < -1000)||decide (1000<T.num))=false:=by rw[decide_eq_false (show ¬T.num < -1000 by have:=HX2.out;omega),show decide (1000<T.num)=false from h2];rfl
      have he:e=faultP 204 T.place:=he
      subst he
      refine⟨rfl,Chg.of_below HF1.out,?_⟩
      rw[HErr3.out hix hx2 (by rw[decide_eq_true h64n.out];rfl)]
      rfl
   ·have h64i:¬(64:Int)≤nR:=by omega
    have HX3:=Hd h64
    by_cases h8:8<kc
    ·have h8i:(8:Int)<kc:=by omega
     have h8n:=Hd h8
     refine RE.wp_region_eff (by kernel_rfl) 40 [6,39] [] (fun _ W=>∃x:Wb w1,W=x.1) (fun W W'=>Below W.heap.size W W') (fun i ys=>if i=6 then .int .i64 (ix:Int) else ys.getD 0 undef) (fun i W ys=>if i=39 then Asks w1.heap.size [(decide ((0:Int)≤ix),210),(decide ((1000:Int)<T.num),2),(true,204)] W (ys.getD 0 undef) else True) (by kernel_rfl) (fun _ _ _ _ _ _ h hb=>wb_next h hb) (fun i W W' ys h _ hb=>by split at h;(rw[if_pos (by assumption)];exact h.below hb);rw[if_neg (by assumption)];trivial) ⟨⟨w1.drew,(Below.refl _ _).drew⟩,rfl⟩ ?_
     simp only[List.take_succ_cons,List.take_zero,List.drop_succ_cons,List.drop_zero]
     repeat (refine RE.wpE_read (fun W=>∃x:Wb w1,W=x.1) (fun _ _ _ h=>h) rfl rfl rfl ⟨⟨w1.drew,(Below.refl _ _).drew⟩,rfl⟩ ?_;go_big_quiet_step (fail);refine wpQuiet_nil ?_)
     refine RE.wpE_turn rfl rfl ?_ (fun ys6=>?_)
     ·intro W hC _ hE
      obtain⟨s9,_,x,rfl⟩:=hC
      refine RE.upon_call 22 _ _ rfl (enters_of Tryz.func22 (by kernel_rfl) rfl) #[.pointer (some ⟨M,0,none⟩),.string T.text] (by simp[Act.eval]) ((HRu.out x.1 x.2).mono ?_)
      rintro e W' ⟨rfl,hb⟩
      exact⟨_,rfl,[],rfl,hb,hb,trivial⟩
     simp only[Act.put,List.setIfInBounds_toArray,List.set_cons_zero,List.set_cons_succ,Nat.reduceAdd,↓reduceIte]
     repeat (refine RE.wpE_read (fun W=>∃x:Wb w1,W=x.1) (fun _ _ _ h=>h) rfl rfl rfl ⟨⟨w1.drew,(Below.refl _ _).drew⟩,rfl⟩ ?_;go_big_quiet_step (fail);refine wpQuiet_nil ?_)
     refine RE.wpE_turn rfl rfl ?_ (fun ys=>?_)
     ·intro W hC _ hE
      obtain⟨s9,_,x,rfl⟩:=hC
      exact upon_asks3 _ _ _ 210 2 204 _ _ _ rfl rfl rfl rfl x.2.size (fun v W' hb ho=>⟨[v],rfl,hb,hb,ho⟩)
     simp only[Act.put,List.setIfInBounds_toArray,List.set_cons_zero,List.set_cons_succ,Nat.reduceAdd,Nat.reduceEqDiff,↓reduceIte]
     refine RE.wpE_nil ?_
     intro W hS hE
     obtain⟨x,rfl⟩:=hS
     obtain⟨g,eg,lg,hg⟩:Asks w1.heap.size [(decide ((0:Int)≤ix),210),(decide ((1000:Int)<T.num),2),(true,204)] x.1 (ys.getD 0 undef):=hE 39 ys rfl
     rw[eg]
     have HNn:=Hd (none_any [(decide ((0:Int)≤ix),210),(decide ((1000:Int)<T.num),2),(true,204)] 4 T.text T.num T.place (.slice p n c) g 3 3 x.1 rfl (by omega) hg)
     have HBx:=Hd x.2
     clear hE eg lg hg E0 E1 E2 E3 E4 MR
     go_wp2_with fail
     refine HNn.out.mono ?_
     rintro e W2 ⟨hb5,he⟩
     have hb12:=HBx.out.trans (hb5.mono HBx.out.size)
     clear hb5
     have HF1:Hid (Below w.heap.size w W2):=HB1.out.trans (hb12.mono HB1.out.size)
     cases h1:decide ((0:Int)≤ix) with
     | true =>
      rw[h1] at he
      have he:e=faultP 210 T.place:=he
      subst he
      refine⟨rfl,Chg.of_below HF1.out,?_⟩
      rw[HErr1.out (HIx.out.symm.trans h1)]
      rfl
     | false =>
      rw[h1] at he
      have hix:=HIx.out.symm.trans h1
      cases h2:decide ((1000:Int)<T.num) with
      | true =>
       rw[h2] at he
       have he:e=faultP 2 T.place:=he
       subst he
       refine⟨rfl,Chg.of_below HF1.out,?_⟩
       rw[HErr2.out hix (by rw[show decide (1000<T.num)=true from h2,Bool.or_true])]
       rfl
      | false =>
       rw[h2] at he
       have hx2:(decide (T.num < -1000)||decide (1000<T.num))=false:=by rw[decide_eq_false (show ¬T.num < -1000 by have:=HX2.out;omega),show decide (1000<T.num)=false from h2];rfl
       have he:e=faultP 204 T.place:=he
       subst he
       refine⟨rfl,Chg.of_below HF1.out,?_⟩
       rw[HErr3.out hix hx2 (by rw[decide_eq_true h8n.out,Bool.or_true];rfl)]
       rfl
    ·have h8i:¬(8:Int)<kc:=by omega
     have HX4:=Hd h8
     refine RE.wp_region_eff (by kernel_rfl) 40 [6,39] [] (fun _ W=>∃x:Wb w1,W=x.1) (fun W W'=>Below W.heap.size W W') (fun i ys=>if i=6 then .int .i64 (ix:Int) else ys.getD 0 undef) (fun i W ys=>if i=39 then Asks w1.heap.size [(decide ((0:Int)≤ix),210),(decide ((1000:Int)<T.num),2),(decide ((8:Int)<(n:Int)-kc),204)] W (ys.getD 0 undef) else True) (by kernel_rfl) (fun _ _ _ _ _ _ h hb=>wb_next h hb) (fun i W W' ys h _ hb=>by split at h;(rw[if_pos (by assumption)];exact h.below hb);rw[if_neg (by assumption)];trivial) ⟨⟨w1.drew,(Below.refl _ _).drew⟩,rfl⟩ ?_
     simp only[List.take_succ_cons,List.take_zero,List.drop_succ_cons,List.drop_zero]
     repeat (refine RE.wpE_read (fun W=>∃x:Wb w1,W=x.1) (fun _ _ _ h=>h) rfl rfl rfl ⟨⟨w1.drew,(Below.refl _ _).drew⟩,rfl⟩ ?_;go_big_quiet_step (fail);refine wpQuiet_nil ?_)
     refine RE.wpE_turn rfl rfl ?_ (fun ys6=>?_)
     ·intro W hC _ hE
      obtain⟨s9,_,x,rfl⟩:=hC
      refine RE.upon_call 22 _ _ rfl (enters_of Tryz.func22 (by kernel_rfl) rfl) #[.pointer (some ⟨M,0,none⟩),.string T.text] (by simp[Act.eval]) ((HRu.out x.1 x.2).mono ?_)
      rintro e W' ⟨rfl,hb⟩
      exact⟨_,rfl,[],rfl,hb,hb,trivial⟩
     simp only[Act.put,List.setIfInBounds_toArray,List.set_cons_zero,List.set_cons_succ,Nat.reduceAdd,↓reduceIte]
     repeat (refine RE.wpE_read (fun W=>∃x:Wb w1,W=x.1) (fun _ _ _ h=>h) rfl rfl rfl ⟨⟨w1.drew,(Below.refl _ _).drew⟩,rfl⟩ ?_;go_big_quiet_step (fail);refine wpQuiet_nil ?_)
     refine RE.wpE_turn rfl rfl ?_ (fun ys=>?_)
     ·intro W hC _ hE
      obtain⟨s9,_,x,rfl⟩:=hC
      exact upon_asks3 _ _ _ 210 2 204 _ _ _ rfl rfl rfl rfl x.2.size (fun v W' hb ho=>⟨[v],rfl,hb,hb,ho⟩)
     simp only[Act.put,List.setIfInBounds_toArray,List.set_cons_zero,List.set_cons_succ,Nat.reduceAdd,Nat.reduceEqDiff,↓reduceIte]
     refine RE.wpE_nil ?_
     intro W hS hE
     obtain⟨x,rfl⟩:=hS
     obtain⟨g,eg,lg,hg⟩:Asks w1.heap.size [(decide ((0:Int)≤ix),210),(decide ((1000:Int)<T.num),2),(decide ((8:Int)<(n:Int)-kc),204)] x.1 (ys.getD 0 undef):=hE 39 ys rfl
     rw[eg]
     have HNn:=Hd (none_any [(decide ((0:Int)≤ix),210),(decide ((1000:Int)<T.num),2),(decide ((8:Int)<(n:Int)-kc),204)] 4 T.text T.num T.place (.slice p n c) g 3 3 x.1 rfl (by omega) hg)
     have HBx:=Hd x.2
     clear hE eg lg hg E0 E1 E2 E3 E4 MR
     go_wp2_with fail
     refine HNn.out.mono ?_
     rintro e W2 ⟨hb5,he⟩
     have hb12:=HBx.out.trans (hb5.mono HBx.out.size)
     clear hb5
     have HF1:Hid (Below w.heap.size w W2):=HB1.out.trans (hb12.mono HB1.out.size)
     cases h1:decide ((0:Int)≤ix) with
     | true =>
      rw[h1] at he
      have he:e=faultP 210 T.place:=he
      subst he
      refine⟨rfl,Chg.of_below HF1.out,?_⟩
      rw[HErr1.out (HIx.out.symm.trans h1)]
      rfl
     | false =>
      rw[h1] at he
      have hix:=HIx.out.symm.trans h1
      cases h2:decide ((1000:Int)<T.num) with
      | true =>
       rw[h2] at he
       have he:e=faultP 2 T.place:=he
       subst he
       refine⟨rfl,Chg.of_below HF1.out,?_⟩
       rw[HErr2.out hix (by rw[show decide (1000<T.num)=true from h2,Bool.or_true])]
       rfl
      | false =>
       rw[h2] at he
       have hx2:(decide (T.num < -1000)||decide (1000<T.num))=false:=by rw[decide_eq_false (show ¬T.num < -1000 by have:=HX2.out;omega),show decide (1000<T.num)=false from h2];rfl
       cases h3:decide ((8:Int)<(n:Int)-kc) with
       | true =>
        rw[h3] at he
        have h3':8<n-kc:=by have:=of_decide_eq_true h3;omega
        have he:e=faultP 204 T.place:=he
        subst he
        refine⟨rfl,Chg.of_below HF1.out,?_⟩
        rw[HErr3.out hix hx2 (by rw[decide_eq_true h3',Bool.or_true])]
        rfl
       | false =>
        rw[h3] at he
        have h3':¬8<n-kc:=by have:=of_decide_eq_false h3;omega
        have he:e=.returned (.tuple #[]):=he
        subst he
        have HP:Hid (Below w1.heap.size w1 W2∧(idxOf T.text (rs.map CRule.name)).isSome=false∧(decide (T.num < -1000)||decide (1000<T.num))=false∧(decide (64≤nR)||decide (8<kc)||decide (8<n-kc))=false):=⟨hb12,hix,hx2,by rw[decide_eq_false h3',decide_eq_false HX3.out,decide_eq_false HX4.out];rfl⟩
        clear h1 h2 h3 he hb12 e0 e1 e2 e3 e4 hmr hx2 hix
        go_wp2_with fail
        go_meet
        case rel=>exact HP.out
 case rest =>
  obtain⟨hb2,hix,hx2,hx3⟩:=hcut
  have HWm:Hid (wholeM d ts rs T=match foldE (partStep d ts) ⟨[],[],[]⟩ T.kids with | .error e=>.error e | .ok s=>.ok (rs++[⟨T.text,T.num,s.vars.length,s.conds,s.acts⟩])):=by
   show _=_
   unfold wholeM
   rw[hix,if_neg (by decide),hx2,if_neg (by decide),if_neg (by rw[HN.out,HKc.out,HTn.out,hx3];decide)]
  have HB2:=Hd (HB1.out.trans (hb2.mono HB1.out.size))
  have HW2:=Hd (HW1.out.below hb2)
  have hx2:=heap_below hb2 HX1.out (Array.getElem?_eq_some_iff.1 HX1.out).1
  have HX2:=Hd hx2
  obtain⟨y2,y3,y4,y5,y6,y7,hm⟩:=HW2.out.m
  obtain⟨w3,hw3⟩:∃w3,w3=((((((wc.drew.setCell ⟨M,2,none⟩ (.slice none 0 0)).setCell ⟨M,3,none⟩ (.string T.text)).setCell ⟨M,4,none⟩ (.int .i64 T.num)).setCell ⟨M,5,none⟩ (.int .i64 0)).setCell ⟨M,6,none⟩ (.slice none 0 0)).setCell ⟨M,7,none⟩ (.slice none 0 0)):=⟨_,rfl⟩
  have hm3:w3.heap[M]? = some (.cells #[vT,.slice pR rs.length cR,.slice none 0 0,.string T.text,.int .i64 T.num,.int .i64 0,.slice none 0 0,.slice none 0 0] 77 (0,0)):=by
   rw[hw3]
   have h2:(wc.drew.setCell ⟨M,2,none⟩ (.slice none 0 0)).heap[M]? = some (.cells #[vT,.slice pR rs.length cR,.slice none 0 0,y3,y4,y5,y6,y7] 77 (0,0)):=heap_set hm 2 _
   have h3:((wc.drew.setCell ⟨M,2,none⟩ (.slice none 0 0)).setCell ⟨M,3,none⟩ (.string T.text)).heap[M]? = some (.cells #[vT,.slice pR rs.length cR,.slice none 0 0,.string T.text,y4,y5,y6,y7] 77 (0,0)):=heap_set h2 3 _
   have h4:(((wc.drew.setCell ⟨M,2,none⟩ (.slice none 0 0)).setCell ⟨M,3,none⟩ (.string T.text)).setCell ⟨M,4,none⟩ (.int .i64 T.num)).heap[M]? = some (.cells #[vT,.slice pR rs.length cR,.slice none 0 0,.string T.text,.int .i64 T.num,y5,y6,y7] 77 (0,0)):=heap_set h3 4 _
   have h5:((((wc.drew.setCell ⟨M,2,none⟩ (.slice none 0 0)).setCell ⟨M,3,none⟩ (.string T.text)).setCell ⟨M,4,none⟩ (.int .i64 T.num)).setCell ⟨M,5,none⟩ (.int .i64 0)).heap[M]? = some (.cells #[vT,.slice pR rs.length cR,.slice none 0 0,.string T.text,.int .i64 T.num,.int .i64 0,y6,y7] 77 (0,0)):=heap_set h4 5 _
   have h6:(((((wc.drew.setCell ⟨M,2,none⟩ (.slice none 0 0)).setCell ⟨M,3,none⟩ (.string T.text)).setCell ⟨M,4,none⟩ (.int .i64 T.num)).setCell ⟨M,5,none⟩ (.int .i64 0)).setCell ⟨M,6,none⟩ (.slice none 0 0)).heap[M]? = some (.cells #[vT,.slice pR rs.length cR,.slice none 0 0,.string T.text,.int .i64 T.num,.int .i64 0,.slice none 0 0,y7] 77 (0,0)):=heap_set h5 6 _
   exact heap_set h6 7 _
  have hot3:∀b,b≠M→w3.heap[b]? = wc.heap[b]?:=fun b hb=>by
   have hh:∀(V:World) (i:Nat) (u:Value),(V.setCell ⟨M,i,none⟩ u).heap[b]? = V.heap[b]?:=fun V i u=>Below.heap_setCell V ⟨M,i,none⟩ u b hb
   rw[hw3,hh,hh,hh,hh,hh,hh]
   rfl
  have hsz3:w3.heap.size=wc.heap.size:=by rw[hw3];simp[World.setCell]
  have hMx:w.heap.size≠M:=fun e=>by have:=HOlt.out M (Or.inl rfl);omega
  have HX3:Hid (w3.heap[w.heap.size]? = some (.cells #[Value.int .u8 4,Value.string T.text,Value.int .i64 T.num,Value.int .i64 T.place,Value.slice p n c] 25 (0,0))):=(hot3 _ hMx).trans hx2
  have hO3:∀b,Own8 M [vT,.slice pR rs.length cR,.slice none 0 0,.slice none 0 0,.slice none 0 0] b→Own8 M [vT,.slice pR rs.length cR] b:=fun b hb=>by
   rcases hb with rfl|⟨v,hv,hb⟩
   ·exact Or.inl rfl
   ·simp only[List.mem_cons,List.not_mem_nil,or_false] at hv
    rcases hv with rfl|rfl|rfl|rfl|rfl
    ·exact Or.inr ⟨_,by simp,hb⟩
    ·exact Or.inr ⟨_,by simp,hb⟩
    ·cases hb
    ·cases hb
    ·cases hb
  have HW3:Hid (MkW F d M ts rs [] T.text T.num 0 [] [] vT (.slice pR rs.length cR) (.slice none 0 0) (.slice none 0 0) (.slice none 0 0) w3):=by
   have hFM:∀b,F b→b≠M:=fun b hb e=>(HW2.out.f b hb).2 (Or.inl e)
   have hk:∀b,F b→∀o,wc.heap[b]? = some o→w3.heap[b]? = some o:=fun b hb o ho=>(hot3 b (hFM b hb)).trans ho
   exact⟨fun b hb=>⟨by rw[hsz3];exact (HW2.out.f b hb).1,fun ho=>(HW2.out.f b hb).2 (hO3 b ho)⟩,hm3,
    HW2.out.t.keep (fun g hg=>hot3 g (fun e=>row_ne hm HW2.out.t (by decide) (e ▸ hg))) hk (fun _ h=>h),
    HW2.out.r.keep (fun g hg=>hot3 g (fun e=>row_ne hm HW2.out.r (by decide) (e ▸ hg))) hk (fun _ h=>h),RowIn.nil,RowIn.nil,RowIn.nil⟩
  have HC3:Hid (Chg (Own8 M [vT,.slice pR rs.length cR]) w w3):=by
   show Chg _ _ _
   rw[hw3]
   exact ((((((Chg.of_below HB2.out.drew).setCell (p:=⟨M,2,none⟩) (Or.inl (Or.inl rfl)) _).setCell (p:=⟨M,3,none⟩) (Or.inl (Or.inl rfl)) _).setCell (p:=⟨M,4,none⟩) (Or.inl (Or.inl rfl)) _).setCell (p:=⟨M,5,none⟩) (Or.inl (Or.inl rfl)) _).setCell (p:=⟨M,6,none⟩) (Or.inl (Or.inl rfl)) _).setCell (p:=⟨M,7,none⟩) (Or.inl (Or.inl rfl)) _
  clear e0 e1 e2 e3 e4 E0 E1 E2 E3 E4 MR hmr hix hx3 hb2 hnR HRu HIx
  obtain⟨e0,e1,e2,e3,e4⟩:=cells5 hx2
  have m2:wc.cell? ⟨M,2,none⟩=some y2:=by rw[cell_of_row _ _ _ _ _ _ hm];rfl
  have fz:=frozenAll hm
  have HM:=Hd hm
  clear hx2 hm hm3 hot3 hsz3
  have D0:Hid (wc.drew.setCell ⟨M,2,none⟩ (.slice none 0 0)=(wc.setCell ⟨M,2,none⟩ (.slice none 0 0)).drew):=rfl
  go_upto_region 3 with fail
  obtain⟨wa,hwa⟩:∃wa,wa=wc.drew.setCell ⟨M,2,none⟩ (.slice none 0 0):=⟨_,rfl⟩
  have HWa:=Hd hwa
  have hne:∀i,wa.cell? ⟨w.heap.size,i,none⟩=wc.cell? ⟨w.heap.size,i,none⟩:=fun i=>by
   unfold World.cell?
   rw[hwa,Below.heap_setCell _ _ _ _ hMx]
   rfl
  have X1:=fun x:RE.Two wc.drew wa=>RE.Two.cell (p:=⟨w.heap.size,1,none⟩) (show wc.drew.cell? ⟨w.heap.size,1,none⟩=_ from e1) ((hne 1).trans e1) x
  have X2:=fun x:RE.Two wc.drew wa=>RE.Two.cell (p:=⟨w.heap.size,2,none⟩) (show wc.drew.cell? ⟨w.heap.size,2,none⟩=_ from e2) ((hne 2).trans e2) x
  clear hwa hne
  refine RE.wp_region_eff (by kernel_rfl) 10 [9] [9] (fun s W=>if s=0 then W=wc.drew else W=wa) (fun _ _=>True) (fun _ _=>undef) (fun _ _ _=>True) (by kernel_rfl) (fun i h1 h2=>by cases hi:[9].contains i<;>simp_all) (fun _ _ _ _ _ _ _=>trivial) rfl ?_
  simp only[List.take_succ_cons,List.take_zero,List.drop_succ_cons,List.drop_zero]
  repeat (refine RE.wpE_read (fun W=>∃x:RE.Two wc.drew wa,W=x.1) RE.two_class rfl rfl rfl rfl ?_;go_big_quiet_step (fail);refine wpQuiet_nil ?_)
  refine RE.wpE_turn rfl rfl ?_ (fun xs=>?_)
  ·intro W hC hS _
   obtain rfl:W=wc.drew:=hS rfl
   refine RE.upon_skip (w':=wc.drew.setCell ⟨M,2,none⟩ (.slice none 0 0)) ?_ ⟨[],rfl,HWa.out.symm,trivial,trivial⟩
   have hst:=run_store_nil wc.drew M 2 y2 m2 (fz 2)
   simp[execOp,Act.eval,hst]
  simp only[Act.put,Nat.reduceAdd]
  repeat (refine RE.wpE_read (fun W=>∃x:RE.Two wc.drew wa,W=x.1) RE.two_class rfl rfl rfl rfl ?_;go_big_quiet_step (fail);refine wpQuiet_nil ?_)
  refine RE.wpE_nil ?_
  intro W hS _
  have hS:W=wa:=hS
  rw[hS,HWa.out]
  clear hS X1 X2
  have hm2:(wc.drew.setCell ⟨M,2,none⟩ (.slice none 0 0)).heap[M]? = some (.cells #[vT,.slice pR rs.length cR,.slice none 0 0,y3,y4,y5,y6,y7] 77 (0,0)):=heap_set (show wc.drew.heap[M]? = _ from HM.out) 2 _
  obtain⟨wb,hwb⟩:∃wb,wb=wc.drew.setCell ⟨M,2,none⟩ (.slice none 0 0):=⟨_,rfl⟩
  rw[←hwb] at hm2 hw3 ⊢
  have m3:wb.cell? ⟨M,3,none⟩=some y3:=by rw[cell_of_row _ _ _ _ _ _ hm2];rfl
  have m4:wb.cell? ⟨M,4,none⟩=some y4:=by rw[cell_of_row _ _ _ _ _ _ hm2];rfl
  have m5:wb.cell? ⟨M,5,none⟩=some y5:=by rw[cell_of_row _ _ _ _ _ _ hm2];rfl
  have m6:wb.cell? ⟨M,6,none⟩=some y6:=by rw[cell_of_row _ _ _ _ _ _ hm2];rfl
  have m7:wb.cell? ⟨M,7,none⟩=some y7:=by rw[cell_of_row _ _ _ _ _ _ hm2];rfl
  have fz:=frozenAll hm2
  clear hwb hm2 D0
  go_upto_region 4 with fail
  change Code.wp _ _ _ _ (((((wb.setCell ⟨M,3,none⟩ (.string T.text)).setCell ⟨M,4,none⟩ (.int .i64 T.num)).setCell ⟨M,5,none⟩ (.int .i64 0)).setCell ⟨M,6,none⟩ (.slice none 0 0)).setCell ⟨M,7,none⟩ (.slice none 0 0))
  rw[←hw3]
  clear hw3 m3 m4 m5 m6 m7 fz hMx
  obtain⟨n0,n1,n2,n3,n4⟩:=cells5 HX3.out
  go_wp2_with fail
  go_loopw [65] (WholeRel F d M ts rs vT (.slice pR rs.length cR) T (.slice p n c) n w) (fun i _=>n-(intOf i).toNat)
  case atStart=>exact⟨0,⟨[],[],[]⟩,F,.slice none 0 0,.slice none 0 0,.slice none 0 0,Nat.zero_le _,rfl,rfl,Nat.zero_le _,Nat.le_refl _,Nat.le_refl _,HW3.out,fun _ h=>h,fun _ h=>Or.inl h,(fun v hv g hg=>by simp only[List.mem_cons,List.not_mem_nil,or_false,or_self] at hv;subst hv;cases hg),HC3.out⟩
  case round =>
   obtain⟨j,s,F',vV,vC,vA,hj,rfl,hfold,hvl,hcl,hal,hmk,hsub,hsup,hown,hchg⟩:=hrel
   have hj0:(0:Int)≤j:=by omega
   have HFo:=Hd hfold
   have HMk:=Hd hmk
   have HSub:=Hd hsub
   have HSup:=Hd hsup
   have HOwn:=Hd hown
   have HChg:=Hd hchg
   have HBel:Hid (Below B0 w wr):=Chg.to_below (Below.refl B0 w) hchg HO.out hB0
   have HSz:Hid (w.heap.size≤wr.heap.size):=hchg.size
   clear hfold hmk hsub hsup hown hchg n0 n1 n2 n3 n4
   by_cases hlt:j<n
   ·have hj1:(j:Int)<n:=by omega
    obtain⟨K,hK⟩:∃K,T.kids[j]? = some K:=⟨_,List.getElem?_eq_getElem (by rw[HTn.out];exact hlt)⟩
    have hks:=HKids.out.below HBel.out
    rcases hks with ⟨h0,_⟩|⟨b,off,cap,h1,h2,h3,h4,he,h6⟩
    ·rw[h0] at hK;simp at hK
    rw[HTn.out] at he h3
    injection he with e1' _ e3'
    subst e1';subst e3'
    obtain⟨hfit,sK,c0,c1,c2,c3,c4,hkk⟩:=h6 j K hK
    have hpk:=HPa.out K (List.mem_of_getElem? hK)
    have hshape:=hkk.slice
    obtain⟨ps,cs',hsK⟩:=hshape
    obtain⟨nk,hnk⟩:∃nk,K.kids.length=nk:=⟨_,rfl⟩
    rw[hnk] at hsK
    subst hsK
    obtain⟨w5,hw5⟩:∃w5,w5=wr.alloc (.cells #[.int .u8 K.kind,.string K.text,.int .i64 K.num,.int .i64 K.place,.slice ps nk cs'] 25):=⟨_,rfl⟩
    have hb5:Below wr.heap.size wr w5:=by rw[hw5];exact (Below.refl _ wr).alloc (Nat.le_refl _) _
    have hk5:w5.heap[wr.heap.size]? = some (.cells #[.int .u8 K.kind,.string K.text,.int .i64 K.num,.int .i64 K.place,.slice ps nk cs'] 25 (0,0)):=by rw[hw5];exact heap_alloc_new wr _
    have HB5:=Hd hb5
    have HK5:=Hd hk5
    have hB05:B0≤w5.heap.size:=Nat.le_trans hB0 (Nat.le_trans HSz.out hb5.size)
    have hO5:∀b,Own8 M [vT,.slice pR rs.length cR,vV,vC,vA] b→B0≤b:=fun b hb=>by
     rcases own8_split hb with h|⟨v,hv,h⟩
     ·exact HO.out b h
     ·have:=HOwn.out v hv b h;omega
    have HCond:=Hd (cond_any F' d M ts rs s.vars T.text T.num 0 s.conds s.acts vT (.slice pR rs.length cR) vV vC vA K (.slice ps nk cs') B0 w5 (HMk.out.below hb5) (by omega) hvl htn hpk (hkk.below (hb5.mono (Nat.le_trans hB0 HSz.out))) hB05 hO5)
    have HAct:=Hd (fun (W:World) (hW:Below w5.heap.size w5 W) (hm:MkW F' d M ts rs s.vars T.text T.num 0 s.conds s.acts vT (.slice pR rs.length cR) vV vC vA W)=>act_any F' d M ts rs s.vars T.text T.num 0 s.conds s.acts vT (.slice pR rs.length cR) vV vC vA K (.slice ps nk cs') B0 W hm (by omega) (by omega) htn hpk ((hkk.below (hb5.mono (Nat.le_trans hB0 HSz.out))).below (hW.mono hB05)) (Nat.le_trans hB05 hW.size))
    have HNx:=Hd (foldE_take (f:=partStep d ts) hK HFo.out)
    have HSt:=Hd (fun er (h:partStep d ts s K=.error er)=>foldE_stop (f:=partStep d ts) (l:=T.kids) (k:=j+1) (s:=⟨[],[],[]⟩) (e:=er) (HNx.out.trans h))
    have HPk:=Hd hpk
    have HCh5:Hid (Chg (Own8 M [vT,.slice pR rs.length cR]) w w5):=HChg.out.trans (Chg.of_below hb5)
    have HO8:Hid (∀b,Own8 M [vT,.slice pR rs.length cR,vV,vC,vA] b→Own8 M [vT,.slice pR rs.length cR] b∨w.heap.size≤b):=fun b hb=>by
     rcases own8_split hb with h|⟨v,hv,h⟩
     ·exact Or.inl h
     ·exact Or.inr (HOwn.out v hv b h)
    have HS5:Hid (w.heap.size≤w5.heap.size):=HCh5.out.size
    obtain⟨k0,k1,k2,k3,k4⟩:=cells5 hk5
    clear hfit hkk h6 h1 h2 h3 h4 hpk hK hb5 hk5 hB05 hO5 hnk
    go_upto_region 7 with fail
    change Code.wp _ _ _ _ (wr.alloc (.cells #[.int .u8 K.kind,.string K.text,.int .i64 K.num,.int .i64 K.place,.slice ps nk cs'] 25))
    rw[←hw5]
    clear hw5 c0 c1 c2 c3 c4
    go_wp2_with fail
    refine HCond.out.mono ?_
    rintro e W2 he
    unfold CondOut at he
    clear k0 k1 k2 k3 k4
    cases hc:condB K with
    | true =>
     rw[hc] at he
     simp only[if_true] at he
     obtain⟨hch,he⟩:=he
     cases hr:condOf d ts s.vars K with
     | error er =>
      rw[hr] at he
      have he:e=faultP er.1 er.2:=he
      subst he
      refine⟨rfl,chg_step HCh5.out hch HO8.out,?_⟩
      rw[HWm.out,HSt.out er (by rw[part_cond hc HPk.out,hr])]
      rfl
     | ok x =>
      rw[hr] at he
      obtain⟨rfl,F2,vV2,vC2,hmk2,hg1,hg2,hs1',hs2'⟩:=he
      have HR:Hid (WholeRel F d M ts rs vT (.slice pR rs.length cR) T (.slice (some ⟨b,off,none⟩) n c) n w (.int .i64 ((j+1:Nat):Int)) W2):=by
       refine⟨j+1,⟨x.1,s.conds++[x.2],s.acts⟩,F2,vV2,vC2,vA,by omega,rfl,?_,cond_le16 hr hvl,by rw[List.length_append];simp;omega,by show s.acts.length≤j+1;omega,hmk2,fun b hb=>hs1' b (HSub.out b hb),fun b hb=>?_,fun v hv g hg=>?_,chg_step HCh5.out hch HO8.out⟩
       ·rw[HNx.out,part_cond hc HPk.out,hr]
       ·rcases hs2' b hb with h|h
        ·exact HSup.out b h
        ·exact Or.inr (Nat.le_trans HS5.out h)
       ·simp only[List.mem_cons,List.not_mem_nil,or_false] at hv
        rcases hv with rfl|rfl|rfl
        ·rcases hg1 g hg with h|h
         ·exact HOwn.out vV (by simp) g h
         ·exact Nat.le_trans HS5.out h
        ·rcases hg2 g hg with h|h
         ·exact HOwn.out vC (by simp) g h
         ·exact Nat.le_trans HS5.out h
        ·exact HOwn.out v (by simp) g hg
      clear hmk2 hg1 hg2 hs1' hs2' hch hr hc HCond HAct
      go_wp2_with fail
      refine⟨HR.out,?_⟩
      simp[intOf];omega
    | false =>
     rw[hc] at he
     simp only[Bool.false_eq_true,if_false] at he
     obtain⟨rfl,hb2,hmk2⟩:=he
     have hk2:=heap_below hb2 HK5.out (Array.getElem?_eq_some_iff.1 HK5.out).1
     have HCh2:Hid (Chg (Own8 M [vT,.slice pR rs.length cR]) w W2):=HCh5.out.trans (Chg.of_below hb2)
     have HA:=Hd (HAct.out W2 hb2 hmk2)
     have HS2:Hid (w.heap.size≤W2.heap.size):=HCh2.out.size
     have HCf:=Hd hc
     obtain⟨k0,k1,k2,k3,k4⟩:=cells5 hk2
     clear hk2 hb2 hmk2 hc HCond HAct
     go_wp2_with fail
     refine HA.out.mono ?_
     rintro e W3 ⟨hch,he⟩
     clear k0 k1 k2 k3 k4
     cases hr:actOf d ts s.vars s.conds K with
     | error er =>
      rw[hr] at he
      have he:e=faultP er.1 er.2:=he
      subst he
      refine⟨rfl,chg_step HCh2.out hch HO8.out,?_⟩
      rw[HWm.out,HSt.out er (by rw[part_act HCf.out,hr])]
      rfl
     | ok x =>
      rw[hr] at he
      obtain⟨rfl,F2,vA2,hmk2,hg1,hs1',hs2'⟩:=he
      have HR:Hid (WholeRel F d M ts rs vT (.slice pR rs.length cR) T (.slice (some ⟨b,off,none⟩) n c) n w (.int .i64 ((j+1:Nat):Int)) W3):=by
       refine⟨j+1,⟨s.vars,s.conds,s.acts++[x]⟩,F2,vV,vC,vA2,by omega,rfl,?_,hvl,by show s.conds.length≤j+1;omega,by rw[List.length_append];simp;omega,hmk2,fun b hb=>hs1' b (HSub.out b hb),fun b hb=>?_,fun v hv g hg=>?_,chg_step HCh2.out hch HO8.out⟩
       ·rw[HNx.out,part_act HCf.out,hr]
       ·rcases hs2' b hb with h|h
        ·exact HSup.out b h
        ·exact Or.inr (Nat.le_trans HS2.out h)
       ·simp only[List.mem_cons,List.not_mem_nil,or_false] at hv
        rcases hv with rfl|rfl|rfl
        ·exact HOwn.out v (by simp) g hg
        ·exact HOwn.out v (by simp) g hg
        ·rcases hg1 g hg with h|h
         ·exact HOwn.out vA (by simp) g h
         ·exact Nat.le_trans HS2.out h
      clear hmk2 hg1 hs1' hs2' hch hr HA
      go_wp2_with fail
      refine⟨HR.out,?_⟩
      simp[intOf];omega
   ·have hall:foldE (partStep d ts) ⟨[],[],[]⟩ T.kids=.ok s:=by
     rw[←HFo.out,List.take_of_length_le (by rw[HTn.out];omega)]
    obtain⟨pV,cV,hvV⟩:=HMk.out.v.shape
    obtain⟨pC,cC,hvC⟩:=HMk.out.c.shape
    obtain⟨pA,cA,hvA⟩:=HMk.out.a.shape
    obtain⟨nv,hnv⟩:∃nv,s.vars.length=nv:=⟨_,rfl⟩
    obtain⟨nC,hnC⟩:∃nC,s.conds.length=nC:=⟨_,rfl⟩
    obtain⟨nA,hnA⟩:∃nA,s.acts.length=nA:=⟨_,rfl⟩
    rw[hnv] at hvV hvl
    rw[hnC] at hvC
    rw[hnA] at hvA
    subst hvV;subst hvC;subst hvA
    have HRes:Hid (wholeM d ts rs T=.ok (rs++[⟨T.text,T.num,(nv:Int),s.conds,s.acts⟩])):=by
     show _=_
     rw[HWm.out,hall]
     show Except.ok (rs++[⟨T.text,T.num,(s.vars.length:Int),s.conds,s.acts⟩])=_
     rw[hnv]
    have hm:=HMk.out.m
    obtain⟨w5,hw5⟩:∃w5,w5=wr.setCell ⟨M,5,none⟩ (.int .i64 (nv:Int)):=⟨_,rfl⟩
    have hm5:w5.heap[M]? = some (.cells #[vT,.slice pR rs.length cR,.slice pV nv cV,.string T.text,.int .i64 T.num,.int .i64 (nv:Int),.slice pC nC cC,.slice pA nA cA] 77 (0,0)):=by rw[hw5];exact heap_set hm 5 _
    have hot:∀b,b≠M→w5.heap[b]? = wr.heap[b]?:=fun b hb=>by rw[hw5];exact Below.heap_setCell wr ⟨M,5,none⟩ _ b hb
    have hsz5:w5.heap.size=wr.heap.size:=by rw[hw5];simp[World.setCell]
    have HF2:Hid (∀b,(F' b∨(Value.slice pC nC cC).ownBlock=some b∨(Value.slice pA nA cA).ownBlock=some b)→b<wr.heap.size∧¬Own8 M [vT,.slice pR rs.length cR] b):=fun b hb=>by
     rcases hb with hb|hb|hb
     ·exact⟨(HMk.out.f b hb).1,fun ho=>(HMk.out.f b hb).2 (by
       rcases ho with rfl|⟨v,hv,ho⟩
       ·exact Or.inl rfl
       ·simp only[List.mem_cons,List.not_mem_nil,or_false] at hv
        rcases hv with rfl|rfl
        ·exact Or.inr ⟨_,by simp,ho⟩
        ·exact Or.inr ⟨_,by simp,ho⟩)⟩
     ·obtain⟨ds,h⟩:=HMk.out.c.type hb
      refine⟨HMk.out.c.lt hb,fun ho=>?_⟩
      rcases ho with rfl|⟨v,hv,ho⟩
      ·exact row_ne hm HMk.out.c (by decide) hb
      ·simp only[List.mem_cons,List.not_mem_nil,or_false] at hv
       rcases hv with rfl|rfl
       ·exact row_ne h HMk.out.t (by decide) ho
       ·exact row_ne h HMk.out.r (by decide) ho
     ·obtain⟨ds,h⟩:=HMk.out.a.type hb
      refine⟨HMk.out.a.lt hb,fun ho=>?_⟩
      rcases ho with rfl|⟨v,hv,ho⟩
      ·exact row_ne hm HMk.out.a (by decide) hb
      ·simp only[List.mem_cons,List.not_mem_nil,or_false] at hv
       rcases hv with rfl|rfl
       ·exact row_ne h HMk.out.t (by decide) ho
       ·exact row_ne h HMk.out.r (by decide) ho
    have hk5:∀b,(F' b∨(Value.slice pC nC cC).ownBlock=some b∨(Value.slice pA nA cA).ownBlock=some b)→∀o,wr.heap[b]? = some o→w5.heap[b]? = some o:=fun b hb o ho=>(hot b (fun e=>(HF2.out b hb).2 (Or.inl e))).trans ho
    have HB5:Hid (MkB (fun b=>F' b∨(Value.slice pC nC cC).ownBlock=some b∨(Value.slice pA nA cA).ownBlock=some b) d M ts rs vT (.slice pR rs.length cR) w5):=
     ⟨fun b hb=>⟨by rw[hsz5];exact (HF2.out b hb).1,(HF2.out b hb).2⟩,⟨_,_,_,_,_,_,hm5⟩,
      HMk.out.t.keep (fun g hg=>hot g (fun e=>row_ne hm HMk.out.t (by decide) (e ▸ hg))) (fun b hb=>hk5 b (Or.inl hb)) (fun _ h=>Or.inl h),
      HMk.out.r.keep (fun g hg=>hot g (fun e=>row_ne hm HMk.out.r (by decide) (e ▸ hg))) (fun b hb=>hk5 b (Or.inl hb)) (fun _ h=>Or.inl h)⟩
    have HRc:Hid ((condRd d).row w5 (fun b=>F' b∨(Value.slice pC nC cC).ownBlock=some b∨(Value.slice pA nA cA).ownBlock=some b) s.conds (.slice pC nC cC)):=Rd.row_keep hk5 (HMk.out.c.row (fun _ h=>Or.inl h) (fun g hg=>Or.inr (Or.inl hg)))
    have HRa:Hid ((actRd d).row w5 (fun b=>F' b∨(Value.slice pC nC cC).ownBlock=some b∨(Value.slice pA nA cA).ownBlock=some b) s.acts (.slice pA nA cA)):=Rd.row_keep hk5 (HMk.out.a.row (fun _ h=>Or.inl h) (fun g hg=>Or.inr (Or.inr hg)))
    have HC5:Hid (Chg (Own8 M [vT,.slice pR rs.length cR]) w w5):=by show Chg _ _ _;rw[hw5];exact HChg.out.setCell (p:=⟨M,5,none⟩) (Or.inl (Or.inl rfl)) _
    have HM5:=Hd hm5
    have m2:wr.cell? ⟨M,2,none⟩=some (.slice pV nv cV):=by rw[cell_of_row _ _ _ _ _ _ hm];rfl
    have m5:wr.cell? ⟨M,5,none⟩=some (.int .i64 0):=by rw[cell_of_row _ _ _ _ _ _ hm];rfl
    have fz:=frozenAll hm
    clear hall hnv hnC hnA hm hm5 hot hsz5 hk5
    go_upto_region 11 with fail
    change Code.wp _ _ _ _ (wr.setCell ⟨M,5,none⟩ (.int .i64 (nv:Int)))
    rw[←hw5]
    clear hw5 m2 m5 fz
    obtain⟨us,hown,hcl⟩:=HB5.out.r
    rw[HN.out] at hown
    have hown:w5.ownsRow 0 46 5 (.slice pR nR cR) nR us:=hown
    have HOwnR:=Hd hown
    have HClR:=Hd hcl
    have hm1:w5.cell? ⟨M,1,none⟩=some (.slice pR nR cR):=by rw[cell_of_row _ _ _ _ _ _ HM5.out,←HN.out];rfl
    have hm3:w5.cell? ⟨M,3,none⟩=some (.string T.text):=by rw[cell_of_row _ _ _ _ _ _ HM5.out];rfl
    have hm4:w5.cell? ⟨M,4,none⟩=some (.int .i64 T.num):=by rw[cell_of_row _ _ _ _ _ _ HM5.out];rfl
    have hm5:w5.cell? ⟨M,5,none⟩=some (.int .i64 (nv:Int)):=by rw[cell_of_row _ _ _ _ _ _ HM5.out];rfl
    have hm6:w5.cell? ⟨M,6,none⟩=some (.slice pC nC cC):=by rw[cell_of_row _ _ _ _ _ _ HM5.out];rfl
    have hm7:w5.cell? ⟨M,7,none⟩=some (.slice pA nA cA):=by rw[cell_of_row _ _ _ _ _ _ HM5.out];rfl
    have hK:∀b,b=M→b<w5.heap.size∧(Value.slice pR nR cR).ownBlock≠some b:=fun b hb=>by
     rw[←HN.out,hb]
     exact⟨HB5.out.lt,row_ne HM5.out HB5.out.r (by decide)⟩
    have HKs:=Hd (ap_ks (E:=46) (sz:=5) (row:=us++[.string T.text,.int .i64 T.num,.int .i64 (nv:Int),.slice pC nC cC,.slice pA nA cA]) (K:=fun b=>b=M) hK)
    have M1:=fun x:Ks w5 (fun b=>b=M)=>x.cell rfl hm1
    have M3:=fun x:Ks w5 (fun b=>b=M)=>x.cell rfl hm3
    have M4:=fun x:Ks w5 (fun b=>b=M)=>x.cell rfl hm4
    have M5:=fun x:Ks w5 (fun b=>b=M)=>x.cell rfl hm5
    have M6:=fun x:Ks w5 (fun b=>b=M)=>x.cell rfl hm6
    have M7:=fun x:Ks w5 (fun b=>b=M)=>x.cell rfl hm7
    clear hown hcl hK hm1 hm3 hm4 hm5 hm6 hm7
    refine RE.wp_region_eff (by kernel_rfl) 13 [11,12] [12] (stA 46 5 w5 pR nR cR (us++[.string T.text,.int .i64 T.num,.int .i64 (nv:Int),.slice pC nC cC,.slice pA nA cA])) (ApR w5) (fun _ ys=>ys.getD 0 undef) (phA 46 5 w5 pR nR cR [.string T.text,.int .i64 T.num,.int .i64 (nv:Int),.slice pC nC cC,.slice pA nA cA] (us++[.string T.text,.int .i64 T.num,.int .i64 (nv:Int),.slice pC nC cC,.slice pA nA cA]) 11 12) (by kernel_rfl) (fun _ _ _ _ _ _ h hb=>h.below hb) (fun _ _ _ _ h _ hR=>h.keep hR) stA.zero ?_
    simp only[List.take_succ_cons,List.take_zero,List.drop_succ_cons,List.drop_zero]
    repeat (refine RE.wpE_read (fun W=>∃x:Ks w5 (fun b=>b=M),W=x.1) (HKs.out _) rfl rfl rfl stA.zero ?_;go_big_quiet_step (fail);refine wpQuiet_nil ?_)
    refine RE.wpE_turn rfl rfl ?_ (fun ys7=>?_)
    ·intro W hC hS hE
     obtain⟨s9,_,h9⟩:=hC
     exact upon_one elemRule (vs:=[.string T.text,.int .i64 T.num,.int .i64 (nv:Int),.slice pC nC cC,.slice pA nA cA]) _ rfl rfl rfl h9.size (fun v W' hb ho=>⟨[v],rfl,hb,ApR.of_below hb,ho⟩)
    simp only[Act.put,List.setIfInBounds_toArray,List.set_cons_zero,List.set_cons_succ,Nat.reduceAdd]
    refine RE.wpE_turn rfl rfl ?_ (fun ys8=>?_)
    ·intro W hC hS hE
     obtain⟨x,rfl⟩:∃x:Wb w5,W=x.1:=hS rfl
     exact upon_ap elemRule (p:=pR) (n:=nR) (c:=cR) (w4:=w5) (vs:=[.string T.text,.int .i64 T.num,.int .i64 (nv:Int),.slice pC nC cC,.slice pA nA cA]) (xs:=us) _ _ rfl rfl (hE 11 ys7 (by kernel_rfl) rfl) rfl (by simp[Value.oneCell']) x.2 HOwnR.out (by omega) (fun v' W' h1 h2 h3=>⟨[v'],rfl,h1,h2,h3⟩)
    simp only[Act.put,List.setIfInBounds_toArray,List.set_cons_zero,List.set_cons_succ,Nat.reduceAdd]
    refine RE.wpE_nil ?_
    intro W hS hE
    have hS:ApS 46 5 w5 pR nR cR (us++[.string T.text,.int .i64 T.num,.int .i64 (nv:Int),.slice pC nC cC,.slice pA nA cA]) W:=hS
    have hV:ApV 46 5 w5 pR nR cR (us++[.string T.text,.int .i64 T.num,.int .i64 (nv:Int),.slice pC nC cC,.slice pA nA cA]) W (ys8.getD 0 undef):=hE 12 ys8 rfl
    obtain⟨g',cap,eg,hg,hC,hrow⟩:=ap_end hS hV
    rw[eg]
    have hC1:Chg (fun b=>(Value.slice pR rs.length cR).ownBlock=some b) w5 W:=by rw[HN.out];exact hC
    have hg1:(Value.slice pR rs.length cR).ownBlock=some g'∨w5.heap.size≤g':=by rw[HN.out];exact hg
    have hx4:(ruleRd d).at_ w5 (fun b=>F' b∨(Value.slice pC nC cC).ownBlock=some b∨(Value.slice pA nA cA).ownBlock=some b) ⟨T.text,T.num,(nv:Int),s.conds,s.acts⟩ [.string T.text,.int .i64 T.num,.int .i64 (nv:Int),.slice pC nC cC,.slice pA nA cA]:=rule_at.2 ⟨hsz,hnum,⟨by show (-9223372036854775808:Int)≤(nv:Int);omega,by show (nv:Int)<9223372036854775808;omega⟩,_,_,rfl,HRc.out,HRa.out⟩
    obtain⟨hW6,hC6,hMb⟩:=HB5.out.pushR HN.out HClR.out hx4 hg1 hC1 hrow
    have hm2:W.cell? ⟨M,1,none⟩=some (.slice pR nR cR):=by rw[cell_of_row _ _ _ _ _ _ (hMb.trans HM5.out),←HN.out];rfl
    have hf2:=frozen_of (hMb.trans HM5.out) 1
    have HP:Hid (WholePost F d M ts vT (.slice pR rs.length cR) (.ok (rs++[⟨T.text,T.num,(nv:Int),s.conds,s.acts⟩])) w (.returned (.tuple #[])) (W.setCell ⟨M,1,none⟩ (.slice (some ⟨g',0,none⟩) (nR+1) cap))):=by
     refine⟨chg_step HC5.out hC6 (fun x hx=>Or.inl hx),rfl,_,_,hW6,fun b hb=>?_,fun b hb=>Or.inl (HSub.out b hb),fun b hb=>?_⟩
     ·injection hb with hb
      have hb:g'=b:=hb
      subst hb
      rcases hg1 with h|h
      ·exact Or.inl h
      ·have:=HC5.out.size;exact Or.inr (by omega)
     ·rcases hb with hb|hb|hb
      ·exact HSup.out b hb
      ·exact Or.inr (HOwn.out _ (by simp) b hb)
      ·exact Or.inr (HOwn.out _ (by simp) b hb)
    clear hS hV hE eg hg hC hrow hC1 hg1 hW6 hC6 hMb M1 M3 M4 M5 M6 M7 HKs hx4
    go_wp2_with fail
    go_end0
    rw[HRes.out]
    exact HP.out
end Go.Proofs.YtglbjooofdnbkaaGreatDoor
