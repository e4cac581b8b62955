/- Several texts joined, each with its own sentence and conditions ahead of it: MkX, MkY. -/
import Derived.Test.YtglbjooofdnbkaaGreatDoorNK
namespace Go.Proofs.YtglbjooofdnbkaaGreatDoor
set_option maxHeartbeats 8000000
set_option maxRecDepth 100000
open Go.RowKit
def kindsM (ts:List CType) (T:Tree):Except Flt (List CType):=
 if (typeIdx T.text ts).isSome then .error (210,T.place)
 else if 32≤ts.length||6<T.kids.length then .error (204,T.place)
 else match foldE fieldStep [] T.kids with
  | .error e=>.error e
  | .ok _=>.ok (ts++[⟨T.text,T.kids.length⟩])
theorem fields_seen:∀(l:List Tree)(s s':List ByteArray),foldE fieldStep s l=.ok s'→s'=s++l.map Tree.text
 | [],s,s',h=>by injection h with h;rw[←h];simp
 | K::l,s,s',h=>by
  unfold foldE at h
  cases hf:fieldStep s K with
  | error e=>rw[hf] at h;cases h
  | ok s1 =>
   rw[hf] at h
   unfold fieldStep at hf
   split at hf
   ·cases hf
   ·injection hf with hf
    rw[fields_seen l s1 s' h,←hf]
    simp
theorem elemType:Elem 48 29 2 24:=Elem.of (z:=.agg #[.string ByteArray.empty,.int .i64 0]) Tryz.underlying29 (by kernel_rfl) (by kernel_rfl) (by decide) (by decide)
def KindsPost (F:Nat→Prop) (d M:Nat) (rs:List CRule) (vT vR:Value) (r:Except Flt (List CType)) (w:World) (e:Ending) (w':World):Prop:=
 Chg (Own8 M [vT,vR]) w w'∧match r with
 | .ok ts'=>e=.returned (.tuple #[])∧∃vT',MkB F d M ts' rs vT' vR w'∧Grew vT vT' w.heap.size
 | .error er=>e=faultP er.1 er.2
theorem KidsAt.taken {w:World}{B d:Nat}{Ts:List Tree}{p:Option Addr}{n c k:Nat}(h:KidsAt w B (d+1) Ts (.slice p n c))(hk:k≤Ts.length):KidsAt w B (d+1) (Ts.take k) (.slice p k c):=by
 rcases h with ⟨rfl,sp,cap,he⟩|⟨b,off,cap,h1,h2,h3,h4,he,h6⟩
 ·injection he with e1 e2 e3
  subst e1;subst e3
  have:k=0:=by simpa using hk
  subst this
  exact Or.inl ⟨rfl,_,_,rfl⟩
 ·injection he with e1 e2 e3
  subst e1;subst e2;subst e3
  by_cases h0:k=0
  ·subst h0;exact Or.inl ⟨rfl,_,_,rfl⟩
  ·have hl:(Ts.take k).length=k:=by rw[List.length_take];omega
   refine Or.inr ⟨b,off,c,fun e=>by rw[e] at hl;exact h0 hl.symm,h2,by omega,h4,by rw[hl],fun i T hT=>h6 i T ?_⟩
   rw[List.getElem?_take] at hT
   split at hT
   ·exact hT
   ·cases hT
theorem slice_some (b off n c m:Nat)(hm:m≤c)(W:World):(Instr.slice 23 (.slice (some ⟨b,off,none⟩) n c) none (some (.int .i64 (m:Int))) none).run Tryz.prog W=.ok (.slice (some ⟨b,off,none⟩) m c) W:=by
 rw[run_slice_h W 23 (some ⟨b,off,none⟩) n c (by kernel_rfl) .i64 m (by omega) (by omega)]
 rw[show (sizeOf (Tryz.prog.elem 23)).run Tryz.prog W=.ok 5 W from by kernel_rfl]
 show Result.ok (sliced _ _ _ _ _) W=_
 unfold sliced
 rw[Int.toNat_natCast]
 by_cases h0:c=0
 ·subst h0
  obtain rfl:m=0:=by omega
  rfl
 ·rw[if_neg h0]
  simp[Addr.add]
def FieldRel (w:World) (F:Nat→Prop) (d M:Nat) (ts:List CType) (rs:List CRule) (vT vR:Value) (T:Tree) (sl:Value) (n:Nat) (i:Value) (W:World):Prop:=
 ∃(j:Nat) (s:List ByteArray),j≤n∧i=.int .i64 (j:Int)∧foldE fieldStep [] (T.kids.take j)=.ok s∧Below w.heap.size w W∧W.heap[w.heap.size]? = some (.cells #[.int .u8 2,.string T.text,.int .i64 T.num,.int .i64 T.place,sl] 25 (0,0))∧MkB F d M ts rs vT vR W
theorem kinds_any (F:Nat→Prop)(d M:Nat)(ts:List CType)(rs:List CRule)(vT vR:Value)(T:Tree)(p:Option Addr)(n c dd:Nat)(w:World)
  (hw:MkB F d M ts rs vT vR w) (hk:T.kind=2) (htn:ts.length≤10000) (hTn:T.kids.length=n) (hn:n≤10000) (hks:KidsAt w w.heap.size (dd+1) T.kids (.slice p n c)) (hsz:T.text.size≤maxLen) :
  Calls Tryz.prog 16 #[.pointer (some ⟨M,0,none⟩),.agg #[.int .u8 T.kind,.string T.text,.int .i64 T.num,.int .i64 T.place,.slice p n c]] w (KindsPost F d M rs vT vR (kindsM ts T) w):=by
 rw[hk]
 change Calls Tryz.prog 16 #[.pointer (some ⟨M,0,none⟩),.agg #[.int .u8 2,.string T.text,.int .i64 T.num,.int .i64 T.place,.slice p n c]] w _
 obtain⟨pT,cT,hvT⟩:=hw.t.shape
 subst hvT
 obtain⟨nT,hnT⟩:∃nT,ts.length=nT:=⟨_,rfl⟩
 have HN:=Hd hnT
 rw[hnT] at htn
 obtain⟨w1,hw1⟩:∃w1,w1=w.alloc (.cells #[.int .u8 2,.string T.text,.int .i64 T.num,.int .i64 T.place,.slice p n c] 25):=⟨_,rfl⟩
 have hb1:Below w.heap.size w w1:=by rw[hw1];exact (Below.refl _ w).alloc (Nat.le_refl _) _
 have hx1:w1.heap[w.heap.size]? = some (.cells #[Value.int .u8 2,Value.string T.text,Value.int .i64 T.num,Value.int .i64 T.place,Value.slice p n c] 25 (0,0)):=by rw[hw1];exact heap_alloc_new w _
 have HX1:=Hd hx1
 have HB1:=Hd hb1
 have HW1:=Hd (hw.below hb1)
 have HTlt:=Hd (fun g hg=>hw.t.lt (g:=g) hg)
 have HKids:=Hd hks
 have HTn:=Hd hTn
 obtain⟨ix,hix⟩:∃ix,ix=idxI (typeIdx T.text ts):=⟨_,rfl⟩
 have HIx:Hid (decide ((0:Int)≤ix)=(typeIdx T.text ts).isSome):=by
  show _=_
  rw[hix]
  cases typeIdx T.text ts with
  | none=>rfl
  | some k=>show decide ((0:Int)≤(k:Int))=true;simp
 have HKi:=Hd (fun (W:World) (h:Below w1.heap.size w1 W)=>kind_any ts T.text _ _ M W ((hw.below hb1).below h).row_t (fun _ h=>h) ((hw.below hb1).below h).cells.1)
 rw[←hix] at HKi
 obtain⟨e0,e1,e2,e3,e4⟩:=cells5 hx1
 have hmt:w1.cell? ⟨M,0,none⟩=some (.slice pT nT cT):=by rw[(hw.below hb1).cells.1,hnT]
 have E0:=fun x:Wb w1=>x.cell e0
 have E1:=fun x:Wb w1=>x.cell e1
 have E2:=fun x:Wb w1=>x.cell e2
 have E3:=fun x:Wb w1=>x.cell e3
 have E4:=fun x:Wb w1=>x.cell e4
 have MT:=fun x:Wb w1=>x.cell hmt
 clear hx1 hb1 hw hk hks hTn hix
 go_enter Tryz.func16,Tryz.ntmps16
 go_upto_region 1 with fail
 change Code.wp _ _ _ _ (w.alloc (.cells #[.int .u8 2,.string T.text,.int .i64 T.num,.int .i64 T.place,.slice p n c] 25))
 rw[←hw1]
 clear hw1
 go_cut [] from 6 to 31 (fun W2=>Below w.heap.size w W2∧W2.heap[w.heap.size]? = some (.cells #[Value.int .u8 2,Value.string T.text,Value.int .i64 T.num,Value.int .i64 T.place,Value.slice p n c] 25 (0,0))∧MkB F d M ts rs (.slice pT ts.length cT) vR W2∧(typeIdx T.text ts).isSome=false∧(32≤nT||6<n)=false)
 case first =>
  have hA:(typeIdx T.text ts).isSome=true→kindsM ts T=.error (210,T.place):=fun h=>by unfold kindsM;rw[if_pos h]
  have hB:(typeIdx T.text ts).isSome=false→(decide (32≤nT)||decide (6<n))=true→kindsM ts T=.error (204,T.place):=fun h h2=>by
   unfold kindsM
   rw[h,if_neg (by decide),if_pos (by rw[HN.out,HTn.out];exact h2)]
  have HA:=Hd hA
  have HBb:=Hd hB
  clear hA hB hnT
  by_cases h32:32≤nT
  ·have h32i:(32:Int)≤nT:=by omega
   have HX32:Hid (32≤nT):=h32
   refine RE.wp_region_eff (by kernel_rfl) 25 [6,24] [] (fun _ W=>∃x:Wb w1,W=x.1) (fun W W'=>Below W.heap.size W W') (fun i ys=>if i=6 then .int .i64 (ix:Int) else ys.getD 0 undef) (fun i W ys=>if i=24 then Asks w1.heap.size [(decide ((0:Int)≤ix),210),(true,204)] W (ys.getD 0 undef) else True) (by kernel_rfl) (fun _ _ _ _ _ _ h hb=>wb_next h hb) (fun i W W' ys h _ hb=>by split at h;(rw[if_pos (by assumption)];exact h.below hb);rw[if_neg (by assumption)];trivial) ⟨⟨w1.drew,(Below.refl _ _).drew⟩,rfl⟩ ?_
   simp only[List.take_succ_cons,List.take_zero,List.drop_succ_cons,List.drop_zero]
   repeat (refine RE.wpE_read (fun W=>∃x:Wb w1,W=x.1) (fun _ _ _ h=>h) rfl rfl rfl ⟨⟨w1.drew,(Below.refl _ _).drew⟩,rfl⟩ ?_;go_big_quiet_step (fail);refine wpQuiet_nil ?_)
   refine RE.wpE_turn rfl rfl ?_ (fun ys6=>?_)
   ·intro W hC _ hE
    obtain⟨s9,_,x,rfl⟩:=hC
    refine RE.upon_call 21 _ _ rfl (enters_of Tryz.func21 (by kernel_rfl) rfl) #[.pointer (some ⟨M,0,none⟩),.string T.text] (by simp[Act.eval]) ((HKi.out x.1 x.2).mono ?_)
    rintro e W' ⟨rfl,hb⟩
    exact⟨_,rfl,[],rfl,hb,hb,trivial⟩
   simp only[Act.put,List.setIfInBounds_toArray,List.set_cons_zero,List.set_cons_succ,Nat.reduceAdd,↓reduceIte]
   repeat (refine RE.wpE_read (fun W=>∃x:Wb w1,W=x.1) (fun _ _ _ h=>h) rfl rfl rfl ⟨⟨w1.drew,(Below.refl _ _).drew⟩,rfl⟩ ?_;go_big_quiet_step (fail);refine wpQuiet_nil ?_)
   refine RE.wpE_turn rfl rfl ?_ (fun ys=>?_)
   ·intro W hC _ hE
    obtain⟨s9,_,x,rfl⟩:=hC
    exact upon_asks2 _ _ 210 204 _ _ rfl rfl rfl x.2.size (fun v W' hb ho=>⟨[v],rfl,hb,hb,ho⟩)
   simp only[Act.put,List.setIfInBounds_toArray,List.set_cons_zero,List.set_cons_succ,Nat.reduceAdd,Nat.reduceEqDiff,↓reduceIte]
   refine RE.wpE_nil ?_
   intro W hS hE
   obtain⟨x,rfl⟩:=hS
   obtain⟨g,eg,lg,hg⟩:Asks w1.heap.size [(decide ((0:Int)≤ix),210),(true,204)] x.1 (ys.getD 0 undef):=hE 24 ys rfl
   rw[eg]
   have HNn:=Hd (none_any [(decide ((0:Int)≤ix),210),(true,204)] 2 T.text T.num T.place (.slice p n c) g 2 2 x.1 rfl (by omega) hg)
   have HBx:=Hd x.2
   clear hE eg lg hg E0 E1 E2 E3 E4 MT
   go_wp2_with fail
   refine HNn.out.mono ?_
   rintro e W2 ⟨hb5,he⟩
   have hb12:=HBx.out.trans (hb5.mono HBx.out.size)
   clear hb5
   cases h1:decide ((0:Int)≤ix) with
   | true =>
    rw[h1] at he
    have he:e=faultP 210 T.place:=he
    subst he
    refine⟨rfl,Chg.of_below (HB1.out.trans (hb12.mono HB1.out.size)),?_⟩
    rw[HA.out (HIx.out.symm.trans h1)]
    rfl
   | false =>
    rw[h1] at he
    have he:e=faultP 204 T.place:=he
    subst he
    refine⟨rfl,Chg.of_below (HB1.out.trans (hb12.mono HB1.out.size)),?_⟩
    rw[HBb.out (HIx.out.symm.trans h1) (by rw[decide_eq_true HX32.out];rfl)]
    rfl
  ·have h32i:¬(32:Int)≤nT:=by omega
   have HX32:Hid (¬32≤nT):=h32
   refine RE.wp_region_eff (by kernel_rfl) 25 [6,24] [] (fun _ W=>∃x:Wb w1,W=x.1) (fun W W'=>Below W.heap.size W W') (fun i ys=>if i=6 then .int .i64 (ix:Int) else ys.getD 0 undef) (fun i W ys=>if i=24 then Asks w1.heap.size [(decide ((0:Int)≤ix),210),(decide ((6:Int)<n),204)] W (ys.getD 0 undef) else True) (by kernel_rfl) (fun _ _ _ _ _ _ h hb=>wb_next h hb) (fun i W W' ys h _ hb=>by split at h;(rw[if_pos (by assumption)];exact h.below hb);rw[if_neg (by assumption)];trivial) ⟨⟨w1.drew,(Below.refl _ _).drew⟩,rfl⟩ ?_
   simp only[List.take_succ_cons,List.take_zero,List.drop_succ_cons,List.drop_zero]
   repeat (refine RE.wpE_read (fun W=>∃x:Wb w1,W=x.1) (fun _ _ _ h=>h) rfl rfl rfl ⟨⟨w1.drew,(Below.refl _ _).drew⟩,rfl⟩ ?_;go_big_quiet_step (fail);refine wpQuiet_nil ?_)
   refine RE.wpE_turn rfl rfl ?_ (fun ys6=>?_)
   ·intro W hC _ hE
    obtain⟨s9,_,x,rfl⟩:=hC
    refine RE.upon_call 21 _ _ rfl (enters_of Tryz.func21 (by kernel_rfl) rfl) #[.pointer (some ⟨M,0,none⟩),.string T.text] (by simp[Act.eval]) ((HKi.out x.1 x.2).mono ?_)
    rintro e W' ⟨rfl,hb⟩
    exact⟨_,rfl,[],rfl,hb,hb,trivial⟩
   simp only[Act.put,List.setIfInBounds_toArray,List.set_cons_zero,List.set_cons_succ,Nat.reduceAdd,↓reduceIte]
   repeat (refine RE.wpE_read (fun W=>∃x:Wb w1,W=x.1) (fun _ _ _ h=>h) rfl rfl rfl ⟨⟨w1.drew,(Below.refl _ _).drew⟩,rfl⟩ ?_;go_big_quiet_step (fail);refine wpQuiet_nil ?_)
   refine RE.wpE_turn rfl rfl ?_ (fun ys=>?_)
   ·intro W hC _ hE
    obtain⟨s9,_,x,rfl⟩:=hC
    exact upon_asks2 _ _ 210 204 _ _ rfl rfl rfl x.2.size (fun v W' hb ho=>⟨[v],rfl,hb,hb,ho⟩)
   simp only[Act.put,List.setIfInBounds_toArray,List.set_cons_zero,List.set_cons_succ,Nat.reduceAdd,Nat.reduceEqDiff,↓reduceIte]
   refine RE.wpE_nil ?_
   intro W hS hE
   obtain⟨x,rfl⟩:=hS
   obtain⟨g,eg,lg,hg⟩:Asks w1.heap.size [(decide ((0:Int)≤ix),210),(decide ((6:Int)<n),204)] x.1 (ys.getD 0 undef):=hE 24 ys rfl
   rw[eg]
   have HNn:=Hd (none_any [(decide ((0:Int)≤ix),210),(decide ((6:Int)<n),204)] 2 T.text T.num T.place (.slice p n c) g 2 2 x.1 rfl (by omega) hg)
   have HBx:=Hd x.2
   clear hE eg lg hg E0 E1 E2 E3 E4 MT
   go_wp2_with fail
   refine HNn.out.mono ?_
   rintro e W2 ⟨hb5,he⟩
   have hb12:=HBx.out.trans (hb5.mono HBx.out.size)
   clear hb5
   cases h1:decide ((0:Int)≤ix) with
   | true =>
    rw[h1] at he
    have he:e=faultP 210 T.place:=he
    subst he
    refine⟨rfl,Chg.of_below (HB1.out.trans (hb12.mono HB1.out.size)),?_⟩
    rw[HA.out (HIx.out.symm.trans h1)]
    rfl
   | false =>
    rw[h1] at he
    cases h2:decide ((6:Int)<n) with
    | true =>
     rw[h2] at he
     have he:e=faultP 204 T.place:=he
     subst he
     refine⟨rfl,Chg.of_below (HB1.out.trans (hb12.mono HB1.out.size)),?_⟩
     have h3:6<n:=by have:=of_decide_eq_true h2;omega
     rw[HBb.out (HIx.out.symm.trans h1) (by rw[decide_eq_true h3,Bool.or_true])]
     rfl
    | false =>
     rw[h2] at he
     have he:e=.returned (.tuple #[]):=he
     subst he
     have h3:¬6<n:=by have:=of_decide_eq_false h2;omega
     have HP:Hid (Below w.heap.size w W2∧W2.heap[w.heap.size]? = some (.cells #[Value.int .u8 2,Value.string T.text,Value.int .i64 T.num,Value.int .i64 T.place,Value.slice p n c] 25 (0,0))∧MkB F d M ts rs (.slice pT ts.length cT) vR W2∧(typeIdx T.text ts).isSome=false∧(32≤nT||6<n)=false):=
      ⟨HB1.out.trans (hb12.mono HB1.out.size),heap_below hb12 HX1.out (Array.getElem?_eq_some_iff.1 HX1.out).1,HW1.out.below hb12,HIx.out.symm.trans h1,by rw[decide_eq_false HX32.out,decide_eq_false h3];rfl⟩
     clear h1 h2 he hb12 e0 e1 e2 e3 e4 hmt
     go_wp2_with fail
     go_meet
     case rel=>exact HP.out
 case rest =>
  obtain⟨hb2,hx2,hw2,hti,hbad⟩:=hcut
  have HB2:=Hd hb2
  have HX2:=Hd hx2
  have HW2:=Hd hw2
  have HKm:Hid (kindsM ts T=match foldE fieldStep [] T.kids with | .error e=>.error e | .ok _=>.ok (ts++[⟨T.text,T.kids.length⟩])):=by
   show _=_
   unfold kindsM
   rw[hti,if_neg (by decide),if_neg (by rw[HN.out,HTn.out,hbad];decide)]
  clear e0 e1 e2 e3 e4 hmt E0 E1 E2 E3 E4 MT HKi hb2 hw2 hti hbad hnT HX1 HW1 HB1
  obtain⟨e0,e1,e2,e3,e4⟩:=cells5 hx2
  clear hx2
  go_wp2_with fail
  go_loopw [35] (FieldRel w F d M ts rs (.slice pT ts.length cT) vR T (.slice p n c) n) (fun i _=>n-(intOf i).toNat)
  case atStart=>exact⟨0,[],Nat.zero_le _,rfl,rfl,HB2.out,HX2.out,HW2.out⟩
  case round =>
   obtain⟨j,s,hj,rfl,hfold,hbr,hxr,hwr⟩:=hrel
   have hj0:(0:Int)≤j:=by omega
   have HFo:=Hd hfold
   have HBr:=Hd hbr
   have HXr:=Hd hxr
   have HWr:=Hd hwr
   clear hfold hbr hxr hwr e0 e1 e2 e3 e4
   by_cases hlt:j<n
   ·have hj1:(j:Int)<n:=by omega
    obtain⟨K,hK⟩:∃K,T.kids[j]? = some K:=⟨_,List.getElem?_eq_getElem (by rw[HTn.out];exact hlt)⟩
    have hks:=HKids.out.below HBr.out
    have htk:=KidsAt.taken (k:=j) (HKids.out.below HBr.out) (by rw[HTn.out];omega)
    rcases hks with ⟨h0,_⟩|⟨b,off,cap,h1,h2,h3,h4,he,h6⟩
    ·rw[h0] at hK;simp at hK
    rw[HTn.out] at he h3
    injection he with e1' _ e3'
    subst e1';subst e3'
    obtain⟨hfit,sK,c0,c1,c2,c3,c4,hkk⟩:=h6 j K hK
    obtain⟨ps,cs',rfl⟩:=hkk.slice
    obtain⟨nk,hnk⟩:∃nk,K.kids.length=nk:=⟨_,rfl⟩
    rw[hnk] at c4
    have hseen:s=(T.kids.take j).map Tree.text:=by rw[fields_seen _ _ _ HFo.out];rfl
    obtain⟨bb,hbb⟩:∃bb,bb=(idxOf K.text ((T.kids.take j).map Tree.text)).isSome:=⟨_,rfl⟩
    have HNx:Hid (foldE fieldStep [] (T.kids.take (j+1))=if bb then .error (210,K.place) else .ok (s++[K.text])):=by
     show _=_
     rw[foldE_take hK HFo.out,hbb,←hseen]
     rfl
    obtain⟨w5,hw5⟩:∃w5,w5=wr.alloc (.cells #[.int .u8 K.kind,.string K.text,.int .i64 K.num,.int .i64 K.place,.slice ps nk cs'] 25):=⟨_,rfl⟩
    have hb5:Below wr.heap.size wr w5:=by rw[hw5];exact (Below.refl _ wr).alloc (Nat.le_refl _) _
    have hk5:w5.heap[wr.heap.size]? = some (.cells #[.int .u8 K.kind,.string K.text,.int .i64 K.num,.int .i64 K.place,.slice ps nk cs'] 25 (0,0)):=by rw[hw5];exact heap_alloc_new wr _
    have HB5:=Hd hb5
    have HK5:=Hd hk5
    have hx5:=heap_below hb5 HXr.out (Array.getElem?_eq_some_iff.1 HXr.out).1
    have HX5:=Hd hx5
    have hmf:∀(fn:Fn) (first cap:Array Value) (w:World),(Instr.makeFunc fn first cap).run Tryz.prog w=.ok (.func fn first cap) w:=fun _ _ _ _=>rfl
    have hsl:∀W,(Instr.slice 23 (.slice (some ⟨b,off,none⟩) n c) none (some (.int .i64 (j:Int))) none).run Tryz.prog W=.ok (.slice (some ⟨b,off,none⟩) j c) W:=fun W=>slice_some b off n c j (by omega) W
    have HCo:=Hd (fun (W:World) (hW:Below w5.heap.size w5 W)=>contF_any K.text wr.heap.size (T.kids.take j) (.slice (some ⟨b,off,none⟩) j c) dd W ((htk.below ((hb5.mono HBr.out.size).trans (hW.mono (Nat.le_trans HBr.out.size hb5.size)))).up (Nat.le_trans HBr.out.size (Nat.le_trans hb5.size hW.size))) (by rw[List.length_take];omega) (by rw[cell_of_row _ _ _ _ _ _ (heap_below hW hk5 (Array.getElem?_eq_some_iff.1 hk5).1)];rfl))
    rw[←hbb] at HCo
    obtain⟨k0,k1,k2,k3,k4⟩:=cells5 hk5
    obtain⟨n0,n1,n2,n3,n4⟩:=cells5 hx5
    have K0:=fun x:Wb w5=>x.cell k0
    have K1:=fun x:Wb w5=>x.cell k1
    have K2:=fun x:Wb w5=>x.cell k2
    have K3:=fun x:Wb w5=>x.cell k3
    have K4:=fun x:Wb w5=>x.cell k4
    have N4:=fun x:Wb w5=>x.cell n4
    obtain⟨e0,e1,e2,e3,e4⟩:=cells5 HXr.out
    clear hb5 hk5 hx5 hseen hbb hfit hkk h6 h1 h2 h3 h4 hnk hK htk k0 k1 k2 k3 k4 n0 n1 n2 n3 n4
    go_upto_region 5 with fail
    change Code.wp _ _ _ _ (wr.alloc (.cells #[.int .u8 K.kind,.string K.text,.int .i64 K.num,.int .i64 K.place,.slice ps nk cs'] 25))
    rw[←hw5]
    clear hw5 c0 c1 c2 c3 c4 e0 e1 e2 e3 e4
    refine RE.wp_region_eff (by kernel_rfl) 9 [6,8] [] (fun _ W=>∃x:Wb w5,W=x.1) (fun W W'=>Below W.heap.size W W') (fun i ys=>if i=6 then .bool bb else ys.getD 0 undef) (fun i W ys=>if i=8 then Asks w5.heap.size [(bb,210)] W (ys.getD 0 undef) else True) (by kernel_rfl) (fun _ _ _ _ _ _ h hb=>wb_next h hb) (fun i W W' ys h _ hb=>by split at h;(rw[if_pos (by assumption)];exact h.below hb);rw[if_neg (by assumption)];trivial) ⟨⟨w5.drew,(Below.refl _ _).drew⟩,rfl⟩ ?_
    simp only[List.take_succ_cons,List.take_zero,List.drop_succ_cons,List.drop_zero]
    repeat (refine RE.wpE_read (fun W=>∃x:Wb w5,W=x.1) (fun _ _ _ h=>h) rfl rfl rfl ⟨⟨w5.drew,(Below.refl _ _).drew⟩,rfl⟩ ?_;go_big_quiet_step (fail);refine wpQuiet_nil ?_)
    refine RE.wpE_turn rfl rfl ?_ (fun ys6=>?_)
    ·intro W hC _ hE
     obtain⟨s9,_,x,rfl⟩:=hC
     refine RE.upon_call 28 _ _ rfl (enters_of Tryz.func28 (by kernel_rfl) rfl) #[.slice (some ⟨b,off,none⟩) j c,.func (.func 29) #[] #[.pointer (some ⟨wr.heap.size,0,none⟩)]] (by simp[Act.eval]) ((HCo.out x.1 x.2).mono ?_)
     rintro e W' ⟨rfl,hb⟩
     exact⟨_,rfl,[],rfl,hb,hb,trivial⟩
    simp only[Act.put,List.setIfInBounds_toArray,List.set_cons_zero,List.set_cons_succ,Nat.reduceAdd,↓reduceIte]
    repeat (refine RE.wpE_read (fun W=>∃x:Wb w5,W=x.1) (fun _ _ _ h=>h) rfl rfl rfl ⟨⟨w5.drew,(Below.refl _ _).drew⟩,rfl⟩ ?_;go_big_quiet_step (fail);refine wpQuiet_nil ?_)
    refine RE.wpE_turn rfl rfl ?_ (fun ys=>?_)
    ·intro W hC _ hE
     obtain⟨s9,_,x,rfl⟩:=hC
     exact upon_asks1 bb 210 _ rfl rfl x.2.size (fun v W' hb ho=>⟨[v],rfl,hb,hb,ho⟩)
    simp only[Act.put,List.setIfInBounds_toArray,List.set_cons_zero,List.set_cons_succ,Nat.reduceAdd,Nat.reduceEqDiff,↓reduceIte]
    refine RE.wpE_nil ?_
    intro W hS hE
    obtain⟨x,rfl⟩:=hS
    obtain⟨g,eg,lg,hg⟩:Asks w5.heap.size [(bb,210)] x.1 (ys.getD 0 undef):=hE 8 ys rfl
    rw[eg]
    have HNn:=Hd (none_any [(bb,210)] K.kind K.text K.num K.place (.slice ps nk cs') g 1 1 x.1 rfl (by omega) hg)
    have HBx:=Hd x.2
    clear hE eg lg hg K0 K1 K2 K3 K4 N4
    go_wp2_with fail
    refine HNn.out.mono ?_
    rintro e W2 ⟨hb9,he⟩
    have hb59:=HB5.out.trans ((HBx.out.trans (hb9.mono HBx.out.size)).mono HB5.out.size)
    cases bb with
    | true =>
     have he:e=faultP 210 K.place:=he
     subst he
     have hst:=foldE_stop HNx.out
     refine⟨rfl,Chg.of_below (HBr.out.trans (hb59.mono HBr.out.size)),?_⟩
     rw[HKm.out,hst]
     rfl
    | false =>
     have he:e=.returned (.tuple #[]):=he
     subst he
     have HR:Hid (FieldRel w F d M ts rs (.slice pT ts.length cT) vR T (.slice (some ⟨b,off,none⟩) n c) n (.int .i64 ((j+1:Nat):Int)) W2):=
      ⟨j+1,s++[K.text],by omega,rfl,HNx.out,HBr.out.trans (hb59.mono HBr.out.size),heap_below hb59 HXr.out (Array.getElem?_eq_some_iff.1 HXr.out).1,HWr.out.below hb59⟩
     clear hb9 hb59 HNx he
     go_wp2_with fail
     refine⟨HR.out,?_⟩
     simp[intOf];omega
   ·have HRes:Hid (kindsM ts T=.ok (ts++[⟨T.text,(n:Int)⟩])):=by
     show _=_
     rw[HKm.out,←List.take_of_length_le (l:=T.kids) (i:=j) (by rw[HTn.out];omega),HFo.out,List.take_of_length_le (by rw[HTn.out];omega),HTn.out]
    obtain⟨us,hown,hcl⟩:=HWr.out.t
    rw[HN.out] at hown
    have hown:wr.ownsRow 0 48 2 (.slice pT nT cT) nT us:=hown
    have HOwn:=Hd hown
    have HCl:=Hd hcl
    have hmt:wr.cell? ⟨M,0,none⟩=some (.slice pT nT cT):=by rw[HWr.out.cells.1,HN.out]
    obtain⟨x2,x3,x4,x5,x6,x7,hm⟩:=HWr.out.m
    have hK:∀b,(b=M∨b=w.heap.size)→b<wr.heap.size∧(Value.slice pT nT cT).ownBlock≠some b:=fun b hb=>by
     rw[←HN.out]
     rcases hb with rfl|rfl
     ·exact⟨HWr.out.lt,row_ne hm HWr.out.t (by decide)⟩
     ·exact⟨(Array.getElem?_eq_some_iff.1 HXr.out).1,fun e=>by have:=HTlt.out _ e;omega⟩
    have HKs:=Hd (ap_ks (E:=48) (sz:=2) (row:=us++[.string T.text,.int .i64 (n:Int)]) (K:=fun b=>b=M∨b=w.heap.size) hK)
    obtain⟨e0,e1,e2,e3,e4⟩:=cells5 HXr.out
    have E1:=fun x:Ks wr (fun b=>b=M∨b=w.heap.size)=>x.cell (Or.inr rfl) e1
    have E4:=fun x:Ks wr (fun b=>b=M∨b=w.heap.size)=>x.cell (Or.inr rfl) e4
    have M0:=fun x:Ks wr (fun b=>b=M∨b=w.heap.size)=>x.cell (Or.inl rfl) hmt
    clear hown hcl hmt hm hK e0 e1 e2 e3 e4
    go_upto_region 7 with fail
    refine RE.wp_region_eff (by kernel_rfl) 15 [13,14] [14] (stA 48 2 wr pT nT cT (us++[.string T.text,.int .i64 (n:Int)])) (ApR wr) (fun _ ys=>ys.getD 0 undef) (phA 48 2 wr pT nT cT [.string T.text,.int .i64 (n:Int)] (us++[.string T.text,.int .i64 (n:Int)]) 13 14) (by kernel_rfl) (fun _ _ _ _ _ _ h hb=>h.below hb) (fun _ _ _ _ h _ hR=>h.keep hR) stA.zero ?_
    simp only[List.take_succ_cons,List.take_zero,List.drop_succ_cons,List.drop_zero]
    repeat (refine RE.wpE_read (fun W=>∃x:Ks wr (fun b=>b=M∨b=w.heap.size),W=x.1) (HKs.out _) rfl rfl rfl stA.zero ?_;go_big_quiet_step (fail);refine wpQuiet_nil ?_)
    refine RE.wpE_turn rfl rfl ?_ (fun ys7=>?_)
    ·intro W hC hS hE
     obtain⟨s9,_,h9⟩:=hC
     exact upon_one elemType (vs:=[.string T.text,.int .i64 (n:Int)]) _ rfl rfl rfl h9.size (fun v W' hb ho=>⟨[v],rfl,hb,ApR.of_below hb,ho⟩)
    simp only[Act.put,List.setIfInBounds_toArray,List.set_cons_zero,List.set_cons_succ,Nat.reduceAdd]
    refine RE.wpE_turn rfl rfl ?_ (fun ys8=>?_)
    ·intro W hC hS hE
     obtain⟨x,rfl⟩:∃x:Wb wr,W=x.1:=hS rfl
     exact upon_ap elemType (p:=pT) (n:=nT) (c:=cT) (w4:=wr) (vs:=[.string T.text,.int .i64 (n:Int)]) (xs:=us) _ _ rfl rfl (hE 13 ys7 (by kernel_rfl) rfl) rfl (by simp[Value.oneCell']) x.2 HOwn.out (by omega) (fun v' W' h1 h2 h3=>⟨[v'],rfl,h1,h2,h3⟩)
    simp only[Act.put,List.setIfInBounds_toArray,List.set_cons_zero,List.set_cons_succ,Nat.reduceAdd]
    refine RE.wpE_nil ?_
    intro W hS hE
    have hS:ApS 48 2 wr pT nT cT (us++[.string T.text,.int .i64 (n:Int)]) W:=hS
    have hV:ApV 48 2 wr pT nT cT (us++[.string T.text,.int .i64 (n:Int)]) W (ys8.getD 0 undef):=hE 14 ys8 rfl
    obtain⟨g',cap,eg,hg,hC,hrow⟩:=ap_end hS hV
    rw[eg]
    have hC1:Chg (fun b=>(Value.slice pT ts.length cT).ownBlock=some b) wr W:=by rw[HN.out];exact hC
    have hg1:(Value.slice pT ts.length cT).ownBlock=some g'∨wr.heap.size≤g':=by rw[HN.out];exact hg
    have hx4:typeRd.at_ wr F ⟨T.text,(n:Int)⟩ [.string T.text,.int .i64 (n:Int)]:=type_at.2 ⟨rfl,hsz,by show (-9223372036854775808:Int)≤(n:Int);omega,by show (n:Int)<9223372036854775808;omega⟩
    obtain⟨hW6,hC6,hMb⟩:=HWr.out.pushT HN.out HCl.out hx4 hg1 hC1 hrow
    obtain⟨y2,y3,y4,y5,y6,y7,hm⟩:=HWr.out.m
    have hm2:W.cell? ⟨M,0,none⟩=some (.slice pT nT cT):=by rw[cell_of_row _ _ _ _ _ _ (hMb.trans hm),←HN.out];rfl
    have hf2:=frozen_of (hMb.trans hm) 0
    have HP:Hid (KindsPost F d M rs (.slice pT ts.length cT) vR (.ok (ts++[⟨T.text,(n:Int)⟩])) w (.returned (.tuple #[])) (W.setCell ⟨M,0,none⟩ (.slice (some ⟨g',0,none⟩) (nT+1) cap))):=by
     refine⟨chg_step (Chg.of_below HBr.out) hC6 (fun x hx=>Or.inl hx),rfl,_,hW6,fun b hb=>?_⟩
     injection hb with hb
     have hb:g'=b:=hb
     subst hb
     rcases hg1 with h|h
     ·exact Or.inl h
     ·have:=HBr.out.size;exact Or.inr (by omega)
    clear hS hV hE eg hg hC hrow hC1 hg1 hW6 hC6 hMb E1 E4 M0 HKs hx4 hm
    go_wp2_with fail
    go_end0
    rw[HRes.out]
    exact HP.out
structure PartOk (d:Nat) (K:Tree):Prop where
 num:I64 K.num
 kids:K.kids.length≤10000
 args:K.kind=5∨K.kind=6→∀k∈K.kids,(k.kind=12∨k.kind=13∨k.kind=14∨k.kind=15)∧k.text.size≤72007
 test:K.kind=7→∃t r,K.kids=t::r∧Spare d t
 exprs:K.kind=8∨K.kind=10→∀k∈K.kids,Spare d k
def condOf (d:Nat) (ts:List CType) (vars:List ByteArray) (K:Tree):Except Flt (List ByteArray×CCond):=
 if K.kind==5 then condFact true 1 (typedM ts K) vars K.kids
 else if K.kind==6 then condFact false 2 (typedM ts K) vars K.kids
 else match K.kids with
  | []=>.error (0,0)
  | t::_=>condTest vars (mkExpr vars d t)
def actOf (d:Nat) (ts:List CType) (vars:List ByteArray) (cs:List CCond) (K:Tree):Except Flt CAct:=
 if K.kind==8 then actTyped (typedM ts K) (listE (mkExpr vars d) K.kids)
 else if K.kind==9 then actWhich cs K
 else if K.kind==10 then actRow (listE (mkExpr vars d) K.kids)
 else .ok ⟨4,0,0,[]⟩
theorem part_cond {d:Nat}{ts:List CType}{s:RSt}{K:Tree}(h:condB K=true)(hp:PartOk d K):partStep d ts s K=match condOf d ts s.vars K with | .error e=>.error e | .ok x=>.ok ⟨x.1,s.conds++[x.2],s.acts⟩:=by
 have hk:K.kind=5∨K.kind=6∨K.kind=7:=by
  unfold condB at h
  simpa using h
 rcases hk with hk|hk|hk
 ·unfold partStep condOf condFact
  simp only[hk]
  cases typedM ts K with
  | error e=>rfl
  | ok k =>
   dsimp only
   show (match foldE (argStep true) (s.vars,[]) K.kids with | .error e=>_ | .ok r=>_)=_
   cases foldE (argStep true) (s.vars,[]) K.kids<;>rfl
 ·unfold partStep condOf condFact
  simp only[hk]
  cases typedM ts K with
  | error e=>rfl
  | ok k =>
   dsimp only
   show (match foldE (argStep false) (s.vars,[]) K.kids with | .error e=>_ | .ok r=>_)=_
   cases foldE (argStep false) (s.vars,[]) K.kids<;>rfl
 ·obtain⟨t,r,hkids,_⟩:=hp.test hk
  unfold partStep condOf condTest
  simp only[hk,hkids]
  show (match mkExpr s.vars d t with | .error e=>_ | .ok x=>_)=_
  cases mkExpr s.vars d t<;>rfl
theorem part_act {d:Nat}{ts:List CType}{s:RSt}{K:Tree}(h:condB K=false):partStep d ts s K=match actOf d ts s.vars s.conds K with | .error e=>.error e | .ok x=>.ok ⟨s.vars,s.conds,s.acts++[x]⟩:=by
 have hk:K.kind≠5∧K.kind≠6∧K.kind≠7:=by
  unfold condB at h
  simpa using h
 have e5:(K.kind==5)=false:=by simpa using hk.1
 have e6:(K.kind==6)=false:=by simpa using hk.2.1
 have e7:(K.kind==7)=false:=by simpa using hk.2.2
 unfold partStep actOf
 rw[e5,e6,e7]
 simp only[Bool.or_self,Bool.false_eq_true,if_false]
 by_cases h8:K.kind=8
 ·simp only[h8]
  unfold actTyped
  show (match typedM ts K with | .error e=>_ | .ok k=>_)=_
  cases typedM ts K with
  | error e=>rfl
  | ok k =>
   show (match listE (mkExpr s.vars d) K.kids with | .error e=>_ | .ok xs=>_)=_
   cases listE (mkExpr s.vars d) K.kids<;>rfl
 ·have e8:(K.kind==8)=false:=by simpa using h8
  rw[e8]
  simp only[Bool.false_eq_true,if_false]
  by_cases h9:K.kind=9
  ·simp only[h9]
   unfold actWhich
   show (if K.num<1||decide ((factsM s.conds:Int)<K.num) then _ else _)=_
   split<;>rfl
  ·have e9:(K.kind==9)=false:=by simpa using h9
   rw[e9]
   simp only[Bool.false_eq_true,if_false]
   by_cases h10:K.kind=10
   ·simp only[h10]
    unfold actRow
    show (match listE (mkExpr s.vars d) K.kids with | .error e=>_ | .ok xs=>_)=_
    cases listE (mkExpr s.vars d) K.kids<;>rfl
   ·have e10:(K.kind==10)=false:=by simpa using h10
    rw[e10]
    rfl
theorem typed_le {ts:List CType}{K:Tree}{k:Nat}(hts:ts.length≤10000)(h:typedM ts K=.ok k):k≤10000:=by
 unfold typedM at h
 split at h
 ·cases h
 ·rename_i k' hk
  have:=typeIdx_lt' hk
  split at h
  ·injection h with h;omega
  ·cases h
section
variable {F:Nat→Prop} {d M:Nat} {ts:List CType} {rs:List CRule} {vars:List ByteArray} {nm:ByteArray} {sal nv:Int} {cs:List CCond} {acs:List CAct} {vT vR vV vC vA:Value} {w:World}
theorem MkW.row_t (h:MkW F d M ts rs vars nm sal nv cs acs vT vR vV vC vA w):typeRd.row w (fun b=>b<w.heap.size) ts vT:=h.t.row (fun b hb=>(h.f b hb).1) (fun _g hg=>h.t.lt hg)
theorem MkW.typed (h:MkW F d M ts rs vars nm sal nv cs acs vT vR vV vC vA w)(K:Tree){s:Value}(hs:∃p c,s=.slice p K.kids.length c)(hl:K.kids.length≤10000):Calls Tryz.prog 58 #[.pointer (some ⟨M,0,none⟩),.agg #[.int .u8 K.kind,.string K.text,.int .i64 K.num,.int .i64 K.place,s]] w (ResPost (typedM ts K) natV w):=by
 obtain⟨p,c,rfl⟩:=hs
 exact typed_any ts K p c vT _ M w h.row_t (fun _ h=>h) (by rw[cell_of_row _ _ _ _ _ _ h.m];rfl) (by omega)
theorem MkW.exprs (h:MkW F d M ts rs vars nm sal nv cs acs vT vR vV vC vA w){Ks:List Tree}{s:Value}(hk:KidsAt w w.heap.size (d+1) Ks s)(hl:Ks.length≤10000)(hsp:∀k∈Ks,Spare d k):Calls Tryz.prog 61 #[.pointer (some ⟨M,0,none⟩),s] w (ExprsOut d (listE (mkExpr vars d) Ks) w):=
 exprs_any d M vars vV (mkExpr vars d) Ks s w h.vars hk (by omega) (fun T hT s W hv _ hk=>expr_any M vars vV d T s W hv (hsp T hT) hk)
end
def CondOut (F:Nat→Prop) (d M:Nat) (ts:List CType) (rs:List CRule) (vars:List ByteArray) (nm:ByteArray) (sal nv:Int) (cs:List CCond) (acs:List CAct) (vT vR vV vC vA:Value) (K:Tree) (w:World) (e:Ending) (w':World):Prop:=
 if condB K then CondPost F d M ts rs nm sal nv cs acs vT vR vV vC vA (condOf d ts vars K) w e w'
 else e=.returned (.bool false)∧Below w.heap.size w w'∧MkW F d M ts rs vars nm sal nv cs acs vT vR vV vC vA w'
theorem cond_any (F:Nat→Prop)(d M:Nat)(ts:List CType)(rs:List CRule)(vars:List ByteArray)(nm:ByteArray)(sal nv:Int)(cs:List CCond)(acs:List CAct)(vT vR vV vC vA:Value)(K:Tree)(s:Value)(B0:Nat)(w:World)
  (hw:MkW F d M ts rs vars nm sal nv cs acs vT vR vV vC vA w) (hcn:cs.length≤10000) (hvn:vars.length≤16) (htn:ts.length≤10000) (hp:PartOk d K) (hks:KidsAt w B0 (d+1) K.kids s) (hB0:B0≤w.heap.size) (hO:∀b,Own8 M [vT,vR,vV,vC,vA] b→B0≤b) :
  Calls Tryz.prog 31 #[.pointer (some ⟨M,0,none⟩),.agg #[.int .u8 K.kind,.string K.text,.int .i64 K.num,.int .i64 K.place,s]] w (CondOut F d M ts rs vars nm sal nv cs acs vT vR vV vC vA K w):=by
 obtain⟨p,c,hs⟩:=hks.slice
 unfold CondOut
 by_cases h5:K.kind=5
 ·have hc:condB K=true:=by unfold condB;rw[h5];rfl
  rw[hc]
  simp only[if_true]
  have e:condOf d ts vars K=condFact true 1 (typedM ts K) vars K.kids:=by unfold condOf;rw[h5];rfl
  rw[e]
  subst hs
  exact cond_fact5 F d M ts rs vars nm sal nv cs acs vT vR vV vC vA K K.kids p K.kids.length c B0 d (typedM ts K) w hw h5 hcn hvn rfl hp.kids (fun k h=>typed_le htn h) hks hB0 hO (hp.args (Or.inl h5)) (fun W hW=>by
   have:=(hw.below hW).typed K ⟨p,c,rfl⟩ hp.kids
   rw[h5] at this
   exact this)
 by_cases h6:K.kind=6
 ·have hc:condB K=true:=by unfold condB;rw[h6];rfl
  rw[hc]
  simp only[if_true]
  have e:condOf d ts vars K=condFact false 2 (typedM ts K) vars K.kids:=by unfold condOf;rw[h6];rfl
  rw[e]
  subst hs
  exact cond_fact6 F d M ts rs vars nm sal nv cs acs vT vR vV vC vA K K.kids p K.kids.length c B0 d (typedM ts K) w hw h6 hcn hvn rfl hp.kids (fun k h=>typed_le htn h) hks hB0 hO (hp.args (Or.inr h6)) (fun W hW=>by
   have:=(hw.below hW).typed K ⟨p,c,rfl⟩ hp.kids
   rw[h6] at this
   exact this)
 by_cases h7:K.kind=7
 ·have hc:condB K=true:=by unfold condB;rw[h7];rfl
  rw[hc]
  simp only[if_true]
  obtain⟨t,r,hkids,hsp⟩:=hp.test h7
  have e:condOf d ts vars K=condTest vars (mkExpr vars d t):=by unfold condOf;rw[h7,hkids];rfl
  rw[e]
  have hks':=hks
  rcases hks with ⟨h0,_⟩|⟨b,off,cap,h1,h2,h3,h4,he,h6'⟩
  ·rw[h0] at hkids;cases hkids
  subst he
  obtain⟨hfit,st,c0,c1,c2,c3,c4,hkk⟩:=h6' 0 t (by rw[hkids];rfl)
  simp only[Nat.zero_mul,Nat.add_zero] at c0 c1 c2 c3 c4
  exact cond_test F d M ts rs vars nm sal nv cs acs vT vR vV vC vA K t b off cap st (mkExpr vars d t) K.kids.length w hw h7 hcn (by rw[hkids];simp) c0 c1 c2 c3 c4 (fun W hW=>expr_any M vars vV d t st W (hw.below hW).vars hsp ((hkk.below (hW.mono hB0)).up (Nat.le_trans hB0 hW.size)))
 ·have hc:condB K=false:=by unfold condB;simp[h5,h6,h7]
  rw[hc]
  simp only[Bool.false_eq_true,if_false]
  subst hs
  exact cond_none F d M ts rs vars nm sal nv cs acs vT vR vV vC vA K p K.kids.length c w hw ⟨h5,h6,h7⟩
theorem act_any (F:Nat→Prop)(d M:Nat)(ts:List CType)(rs:List CRule)(vars:List ByteArray)(nm:ByteArray)(sal nv:Int)(cs:List CCond)(acs:List CAct)(vT vR vV vC vA:Value)(K:Tree)(s:Value)(B0:Nat)(w:World)
  (hw:MkW F d M ts rs vars nm sal nv cs acs vT vR vV vC vA w) (hcn:cs.length≤10000) (han:acs.length≤10000) (htn:ts.length≤10000) (hp:PartOk d K) (hks:KidsAt w B0 (d+1) K.kids s) (hB0:B0≤w.heap.size) :
  Calls Tryz.prog 32 #[.pointer (some ⟨M,0,none⟩),.agg #[.int .u8 K.kind,.string K.text,.int .i64 K.num,.int .i64 K.place,s]] w (ActPost F d M ts rs vars nm sal nv cs acs vT vR vV vC vA (actOf d ts vars cs K) w):=by
 obtain⟨p,c,hs⟩:=hks.slice
 have hex:∀(hk:K.kind=8∨K.kind=10) W,Below w.heap.size w W→Calls Tryz.prog 61 #[.pointer (some ⟨M,0,none⟩),s] W (ExprsOut d (listE (mkExpr vars d) K.kids) W):=fun hk W hW=>(hw.below hW).exprs ((hks.below (hW.mono hB0)).up (Nat.le_trans hB0 hW.size)) hp.kids (hp.exprs hk)
 subst hs
 by_cases h8:K.kind=8
 ·have e:actOf d ts vars cs K=actTyped (typedM ts K) (listE (mkExpr vars d) K.kids):=by unfold actOf;rw[h8];rfl
  rw[e]
  exact act_typed F d M ts rs vars nm sal nv cs acs vT vR vV vC vA K p K.kids.length c (typedM ts K) _ w hw h8 han (fun k h=>typed_le htn h) (fun W hW=>by
   have:=(hw.below hW).typed K ⟨p,c,rfl⟩ hp.kids
   rw[h8] at this
   exact this) (hex (Or.inl h8))
 by_cases h9:K.kind=9
 ·have e:actOf d ts vars cs K=actWhich cs K:=by unfold actOf;rw[h9];rfl
  rw[e]
  exact act_which F d M ts rs vars nm sal nv cs acs vT vR vV vC vA K p K.kids.length c w hw h9 han hcn hp.num
 by_cases h10:K.kind=10
 ·have e:actOf d ts vars cs K=actRow (listE (mkExpr vars d) K.kids):=by unfold actOf;rw[h10];rfl
  rw[e]
  exact act_row F d M ts rs vars nm sal nv cs acs vT vR vV vC vA K p K.kids.length c _ w hw h10 han (hex (Or.inr h10))
 ·have e:actOf d ts vars cs K=.ok ⟨4,0,0,[]⟩:=by
   unfold actOf
   have e8:(K.kind==8)=false:=by simpa using h8
   have e9:(K.kind==9)=false:=by simpa using h9
   have e10:(K.kind==10)=false:=by simpa using h10
   rw[e8,e9,e10];rfl
  rw[e]
  exact act_other F d M ts rs vars nm sal nv cs acs vT vR vV vC vA K p K.kids.length c w hw ⟨h8,h9,h10⟩ han
end Go.Proofs.YtglbjooofdnbkaaGreatDoor
