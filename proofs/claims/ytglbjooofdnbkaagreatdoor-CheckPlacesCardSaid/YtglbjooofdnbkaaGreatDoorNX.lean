/- The rule checker's second part: are rules right (Right), by contract. No condition. Printed by tools/genSuK.py. -/
import Derived.Test.YtglbjooofdnbkaaGreatDoorNW
namespace Go.Proofs.YtglbjooofdnbkaaGreatDoor
set_option maxHeartbeats 16000000
set_option maxRecDepth 100000
open Go.RowKit
theorem apartB_prefix:∀(l k seen:List ByteArray),apartB seen (l++k)=true→apartB seen l=true
 | [],_,_,_=>rfl
 | x::l,k,seen,h=>by
  rw[List.cons_append] at h
  unfold apartB at h ⊢
  simp only[Bool.and_eq_true] at h ⊢
  exact⟨h.1,apartB_prefix l k _ h.2⟩
theorem idxB_take (x y:ByteArray):∀(l:List ByteArray)(m j:Nat),l[j]? = some y→(y.data.toList==x.data.toList)=true→idxB x l m=(match idxB x (l.take j) m with|some k=>some k|none=>some (m+j))
 | [],m,j,h,_=>by simp at h
 | z::l,m,0,h,he=>by
  simp only[List.getElem?_cons_zero,Option.some.injEq] at h
  subst h
  rw[List.take_zero]
  unfold idxB
  rw[if_pos he]
  rfl
 | z::l,m,j+1,h,he=>by
  rw[List.getElem?_cons_succ] at h
  rw[List.take_succ_cons]
  unfold idxB
  split
  ·rfl
  ·rw[idxB_take x y l (m+1) j h he]
   cases idxB x (l.take j) (m+1) with
   | none=>simp only;congr 1;omega
   | some k=>rfl
theorem idx_self {x:ByteArray}{l:List ByteArray}{j:Nat}(h:l[j]? = some x):(idxI (idxOf x l)=(j:Int))↔(idxOf x (l.take j)).isSome=false:=by
 unfold idxOf
 rw[idxB_take x x l 0 j h (by simp)]
 cases hi:idxB x (l.take j) 0 with
 | none=>simp[idxI]
 | some k =>
  have:=(idxB_ltD x (l.take j) 0 k hi).2
  rw[List.length_take] at this
  simp only[idxI,Option.isSome_some,Bool.true_eq_false,iff_false]
  omega
theorem all_takeK {α:Type}{f:α→Bool}{l:List α}{j:Nat}{x:α}(hx:l[j]? = some x)(h:(l.take j).all f=true)(hf:f x=true):(l.take (j+1)).all f=true:=by
 rw[List.take_add_one,hx,List.all_append,h]
 simp[hf]
theorem all_notK {α:Type}{f:α→Bool}{l:List α}{j:Nat}{x:α}(hx:l[j]? = some x)(hf:f x=false):l.all f=false:=by
 rw[List.all_eq_false]
 exact⟨x,List.mem_of_getElem? hx,by rw[hf];decide⟩
theorem apart_next {l:List ByteArray}{j:Nat}{x:ByteArray}(hx:l[j]? = some x)(h:apartB [] (l.take j)=true)(hn:(idxOf x (l.take j)).isSome=false):apartB [] (l.take (j+1))=true:=by
 rw[List.take_add_one,hx]
 show apartB [] (l.take j++[x])=true
 rw[apartB_snoc,h,List.nil_append,hn];rfl
theorem apart_not {l:List ByteArray}{j:Nat}{x:ByteArray}(hx:l[j]? = some x)(hn:(idxOf x (l.take j)).isSome=true):apartB [] l=false:=by
 cases hc:apartB [] l with
 | false=>rfl
 | true =>
  rw[←List.take_append_drop (j+1) l] at hc
  have h2:=apartB_prefix _ _ _ hc
  rw[List.take_add_one,hx] at h2
  have h3:apartB [] (l.take j++[x])=true:=h2
  rw[apartB_snoc,List.nil_append,hn] at h3
  simp at h3
def TyOkRel (F:Nat→Prop) (d:Nat) (R:CRules) (pT pR:Option Addr) (nT cT nR cR:Nat) (w:World) (i:Value) (W:World):Prop:=
 ∃(j:Nat),j≤nT∧i=.int .i64 (j:Int)∧(R.types.take j).all typeOk=true∧apartB [] ((R.types.map CType.name).take j)=true∧Below w.heap.size w W∧W.heap[w.heap.size]? = some (.cells #[.slice pT nT cT,.slice pR nR cR] 32 (0,0))∧SuW F (w.heap.size+1) d R.types R.rules (.slice pT nT cT) (.slice pR nR cR) 0 0 W
def RuOkRel (F:Nat→Prop) (d:Nat) (R:CRules) (pT pR:Option Addr) (nT cT nR cR:Nat) (w:World) (i:Value) (W:World):Prop:=
 ∃(j:Nat) (nv nf:Int),j≤nR∧i=.int .i64 (j:Int)∧(R.rules.take j).all (ruleOk d R.types)=true∧apartB [] ((R.rules.map CRule.name).take j)=true∧Below w.heap.size w W∧SuW F (w.heap.size+1) d R.types R.rules (.slice pT nT cT) (.slice pR nR cR) nv nf W
theorem chRight_any (F:Nat→Prop)(d:Nat)(R:CRules)(st sr:Value)(w:World)(hF:∀b,F b→b<w.heap.size)(ht:typeRd.row w F R.types st)(hr:(ruleRd d).row w F R.rules sr) :
  Calls Tryz.prog 11 #[.agg #[st,sr]] w (BoolPost (rulesOk d R) w):=by
 obtain⟨pT,cT,hst⟩:=Rd.row_shape ht
 obtain⟨pR,cR,hsr⟩:=Rd.row_shape hr
 have hmT:=Rd.row_len ht
 have hmR:=Rd.row_len hr
 obtain⟨nT,hnT⟩:∃nT,R.types.length=nT:=⟨_,rfl⟩
 obtain⟨nR,hnR⟩:∃nR,R.rules.length=nR:=⟨_,rfl⟩
 rw[hnT] at hst hmT
 rw[hnR] at hsr hmR
 subst hst;subst hsr
 have HNT:=Hd hnT
 have HNR:=Hd hnR
 obtain⟨w1,hw1⟩:∃w1,w1=(w.alloc (.cells #[.slice pT nT cT,.slice pR nR cR] 32)).alloc (.cells #[.slice pT nT cT,.slice pR nR cR,.int .i64 0,.int .i64 0] 83):=⟨_,rfl⟩
 obtain⟨hx0,hx1,_⟩:=two_new' w (.cells #[.slice pT nT cT,.slice pR nR cR] 32) (.cells #[.slice pT nT cT,.slice pR nR cR,.int .i64 0,.int .i64 0] 83)
 have hb1:Below w.heap.size w w1:=by rw[hw1];exact ((Below.refl _ w).alloc (Nat.le_refl _) _).alloc (by simp) _
 rw[←hw1] at hx0 hx1
 have HX0:=Hd hx0
 have HB1:=Hd hb1
 have HW1:Hid (SuW F (w.heap.size+1) d R.types R.rules (.slice pT nT cT) (.slice pR nR cR) 0 0 w1):=⟨hx1,fun b hb=>⟨Nat.lt_of_lt_of_le (hF b hb) hb1.size,by have:=hF b hb;omega⟩,Rd.row_below ht hF hb1,Rd.row_below hr hF hb1⟩
 have HF:=Hd hF
 have HTr:=Hd ht
 have HRr:=Hd hr
 obtain⟨res,hres⟩:∃res,res=rulesOk d R:=⟨_,rfl⟩
 have HR:Hid (res=(decide (nT≤32)&&decide (nR≤64)&&R.types.all typeOk&&apartB [] (R.types.map CType.name)&&R.rules.all (ruleOk d R.types)&&apartB [] (R.rules.map CRule.name))):=by
  show _=_
  rw[hres,←hnT,←hnR];rfl
 rw[←hres]
 have e0:w1.cell? ⟨w.heap.size,0,none⟩=some (.slice pT nT cT):=by rw[cell_of_row _ _ _ _ _ _ hx0];rfl
 have e1:w1.cell? ⟨w.heap.size,1,none⟩=some (.slice pR nR cR):=by rw[cell_of_row _ _ _ _ _ _ hx0];rfl
 clear hres hx0 hx1 hb1 hF ht hr hnT hnR
 go_enter Tryz.func11,Tryz.ntmps11
 go_upto_region 2 with fail
 change Code.wp _ _ _ _ ((w.alloc (.cells #[.slice pT nT cT,.slice pR nR cR] 32)).alloc (.cells #[.slice pT nT cT,.slice pR nR cR,.int .i64 0,.int .i64 0] 83))
 rw[←hw1]
 clear hw1
 by_cases h32:32<nT
 ·have h32i:(32:Int)<nT:=by omega
  have HRn:Hid (res=false):=by show _=_;rw[HR.out,decide_eq_false (show ¬nT≤32 by omega)];rfl
  go_wp2_with fail
  go_ret
  exact⟨by rw[HRn.out];rfl,HB1.out⟩
 have h32i:¬(32:Int)<nT:=by omega
 by_cases h64:64<nR
 ·have h64i:(64:Int)<nR:=by omega
  have HRn:Hid (res=false):=by show _=_;rw[HR.out,decide_eq_false (show ¬nR≤64 by omega)];simp
  go_wp2_with fail
  go_ret
  exact⟨by rw[HRn.out];rfl,HB1.out⟩
 have h64i:¬(64:Int)<nR:=by omega
 have HR2:Hid (res=(R.types.all typeOk&&apartB [] (R.types.map CType.name)&&R.rules.all (ruleOk d R.types)&&apartB [] (R.rules.map CRule.name))):=by
  show _=_
  rw[HR.out,decide_eq_true (show nT≤32 by omega),decide_eq_true (show nR≤64 by omega)]
  rfl
 clear HR
 go_wp2_with fail
 go_loopw [25] (TyOkRel F d R pT pR nT cT nR cR w) (fun i _=>nT-(intOf i).toNat)
 case atStart=>exact⟨0,Nat.zero_le _,rfl,rfl,rfl,HB1.out,HX0.out,HW1.out⟩
 case round =>
  obtain⟨j,hj,rfl,hall,hap,hbr,hx,hwr⟩:=hrel
  have hj0:(0:Int)≤j:=by omega
  have HAll:=Hd hall
  have HAp:=Hd hap
  have HBr:=Hd hbr
  have HX:=Hd hx
  have HWr:=Hd hwr
  clear hall hap hbr hx hwr e0 e1
  by_cases hlt:j<nT
  ·have hj1:(j:Int)<nT:=by omega
   obtain⟨t,htj⟩:∃t,R.types[j]? = some t:=⟨_,List.getElem?_eq_getElem (by rw[HNT.out];exact hlt)⟩
   have hvs:=Rd.row_at (Rd.row_below HTr.out HF.out HBr.out) htj
   rw[HNT.out] at hvs
   obtain⟨b,off,cap,vs,hev,_,_,_,_,hat,hcell⟩:=hvs
   injection hev with e1' _ e3'
   subst e1';subst e3'
   obtain⟨rfl,hnm,_⟩:=type_at.1 hat
   have c0:wr.cell? ⟨b,off+j*2,none⟩=some (.string t.name):=hcell 0 _ rfl
   have c1:wr.cell? ⟨b,off+j*2+1,none⟩=some (.int .i64 t.fields):=hcell 1 _ rfl
   obtain⟨w5,hw5⟩:∃w5,w5=wr.alloc (.cells #[.string t.name,.int .i64 t.fields] 48):=⟨_,rfl⟩
   have hb5:Below wr.heap.size wr w5:=by rw[hw5];exact (Below.refl _ wr).alloc (Nat.le_refl _) _
   have hk5:w5.heap[wr.heap.size]? = some (.cells #[.string t.name,.int .i64 t.fields] 48 (0,0)):=by rw[hw5];exact heap_alloc_new wr _
   have HB5:=Hd (HBr.out.trans (hb5.mono HBr.out.size))
   have HX5:=Hd (heap_below hb5 HX.out (Array.getElem?_eq_some_iff.1 HX.out).1)
   have HW5:=Hd (HWr.out.below hb5)
   obtain⟨ix,hix⟩:∃ix,ix=idxI (typeIdx t.name R.types):=⟨_,rfl⟩
   have HIx:Hid (ix=(j:Int)↔(idxOf t.name ((R.types.map CType.name).take j)).isSome=false):=by
    rw[hix]
    exact idx_self (by rw[List.getElem?_map,htj];rfl)
   have HNm:=Hd (fun (x:Wb w5)=>chnamed_any t.name x.1 hnm)
   have HKi:=Hd (fun (x:Wb w5)=>kind_any R.types t.name _ F (w.heap.size+1) x.1 (HW5.out.below x.2).t (fun b hb=>((HW5.out.below x.2).f b hb).1) (by rw[cell_of_row _ _ _ _ _ _ (HW5.out.below x.2).h];rfl))
   rw[←hix] at HKi
   have HT:=Hd htj
   have HTn:Hid ((R.types.map CType.name)[j]? = some t.name):=by show _=_;rw[List.getElem?_map,htj];rfl
   have k0:w5.cell? ⟨wr.heap.size,0,none⟩=some (.string t.name):=by rw[cell_of_row _ _ _ _ _ _ hk5];rfl
   have k1:w5.cell? ⟨wr.heap.size,1,none⟩=some (.int .i64 t.fields):=by rw[cell_of_row _ _ _ _ _ _ hk5];rfl
   have T0:=fun x:Wb w5=>x.cell k0
   have T1:=fun x:Wb w5=>x.cell k1
   clear hat hcell htj hb5 hk5 hnm hix
   go_upto_region 7 with fail
   change Code.wp _ _ _ _ (wr.alloc (.cells #[.string t.name,.int .i64 t.fields] 48))
   rw[←hw5]
   clear hw5 c0 c1 k0 k1
   cases hnb:namedF t.name.data.toList with
   | false =>
    rw[hnb] at HNm
    have HRn:Hid (res=false):=by show _=_;rw[HR2.out,all_notK (f:=typeOk) HT.out (by unfold typeOk;rw[hnb];rfl)];rfl
    clear hnb
    refine wp_region_below (by kernel_rfl) (by kernel_rfl) ?_
    repeat (go_big_quiet_step (first|(go_at_call 20;exact Calls.below_of (HNm.out _))|(go_at_call 21;exact Calls.below_of (HKi.out _))))
    refine wpQuiet_nil ?_
    intro W2 hw'
    have hb2:=wb_below hw'
    have HB2:=Hd (HB5.out.trans (hb2.mono HB5.out.size))
    clear hw' hb2 T0 T1
    go_wp2_with fail
    go_ret
    exact⟨by rw[HRn.out];rfl,HB2.out⟩
   | true =>
   rw[hnb] at HNm
   have HNb:=Hd hnb
   clear hnb
   by_cases hf0:t.fields<0
   ·have hf0b:decide (t.fields<0)=true:=decide_eq_true hf0
    have HRn:Hid (res=false):=by show _=_;rw[HR2.out,all_notK (f:=typeOk) HT.out (by unfold typeOk;rw[decide_eq_false (show ¬0≤t.fields by omega)];simp)];rfl
    refine wp_region_below (by kernel_rfl) (by kernel_rfl) ?_
    repeat (go_big_quiet_step (first|(go_at_call 20;exact Calls.below_of (HNm.out _))|(go_at_call 21;exact Calls.below_of (HKi.out _))))
    refine wpQuiet_nil ?_
    intro W2 hw'
    have hb2:=wb_below hw'
    have HB2:=Hd (HB5.out.trans (hb2.mono HB5.out.size))
    clear hw' hb2 T0 T1
    go_wp2_with fail
    go_ret
    exact⟨by rw[HRn.out];rfl,HB2.out⟩
   have hf0b:decide (t.fields<0)=false:=decide_eq_false hf0
   by_cases hf6:6<t.fields
   ·have hf6b:decide (6<t.fields)=true:=decide_eq_true hf6
    have HRn:Hid (res=false):=by show _=_;rw[HR2.out,all_notK (f:=typeOk) HT.out (by unfold typeOk;rw[decide_eq_false (show ¬t.fields≤6 by omega)];simp)];rfl
    refine wp_region_below (by kernel_rfl) (by kernel_rfl) ?_
    repeat (go_big_quiet_step (first|(go_at_call 20;exact Calls.below_of (HNm.out _))|(go_at_call 21;exact Calls.below_of (HKi.out _))))
    refine wpQuiet_nil ?_
    intro W2 hw'
    have hb2:=wb_below hw'
    have HB2:=Hd (HB5.out.trans (hb2.mono HB5.out.size))
    clear hw' hb2 T0 T1
    go_wp2_with fail
    go_ret
    exact⟨by rw[HRn.out];rfl,HB2.out⟩
   have hf6b:decide (6<t.fields)=false:=decide_eq_false hf6
   have HOk:Hid (typeOk t=true):=by show _=_;unfold typeOk;rw[HNb.out,decide_eq_true (show 0≤t.fields by omega),decide_eq_true (show t.fields≤6 by omega)];rfl
   by_cases hxj:ix=(j:Int)
   ·subst hxj
    have HNo:Hid ((idxOf t.name ((R.types.map CType.name).take j)).isSome=false):=HIx.out.1 rfl
    refine wp_region_below (by kernel_rfl) (by kernel_rfl) ?_
    repeat (go_big_quiet_step (first|(go_at_call 20;exact Calls.below_of (HNm.out _))|(go_at_call 21;exact Calls.below_of (HKi.out _))))
    refine wpQuiet_nil ?_
    intro W2 hw'
    have hb2:=wb_below hw'
    have HB2:=Hd (HB5.out.trans (hb2.mono HB5.out.size))
    have HRl:Hid (TyOkRel F d R (some ⟨b,off,none⟩) pR nT cT nR cR w (.int .i64 ((j+1:Nat):Int)) W2):=
     ⟨j+1,by omega,rfl,all_takeK HT.out HAll.out HOk.out,apart_next HTn.out HAp.out HNo.out,HB2.out,heap_below hb2 HX5.out (Array.getElem?_eq_some_iff.1 HX5.out).1,HW5.out.below hb2⟩
    clear hw' hb2 T0 T1 HNm HKi
    go_wp2_with fail
    refine⟨HRl.out,?_⟩
    simp[intOf];omega
   ·have hxb:(ix==(j:Int))=false:=by simpa using hxj
    have hxn:(ix != (j:Int))=true:=by simpa using hxj
    have hxd:decide (ix=(j:Int))=false:=decide_eq_false hxj
    have HRn:Hid (res=false):=by
     show _=_
     have:(idxOf t.name ((R.types.map CType.name).take j)).isSome=true:=by
      cases hc:(idxOf t.name ((R.types.map CType.name).take j)).isSome with
      | true=>rfl
      | false=>exact absurd (HIx.out.2 hc) hxj
     rw[HR2.out,apart_not HTn.out this]
     simp
    refine wp_region_below (by kernel_rfl) (by kernel_rfl) ?_
    repeat (go_big_quiet_step (first|(go_at_call 20;exact Calls.below_of (HNm.out _))|(go_at_call 21;exact Calls.below_of (HKi.out _))))
    refine wpQuiet_nil ?_
    intro W2 hw'
    have hb2:=wb_below hw'
    have HB2:=Hd (HB5.out.trans (hb2.mono HB5.out.size))
    clear hw' hb2 T0 T1
    go_wp2_with fail
    go_ret
    exact⟨by rw[HRn.out];rfl,HB2.out⟩
  ·have hallT:R.types.all typeOk=true:=by
    rw[←HAll.out,List.take_of_length_le (by rw[HNT.out];omega)]
   have hapT:apartB [] (R.types.map CType.name)=true:=by
    have h:=HAp.out
    rw[List.take_of_length_le (by rw[List.length_map,HNT.out];omega)] at h
    exact h
   have HTy6:Hid (∀t∈R.types,t.fields≤6):=fun t ht=>by
    have:=List.all_eq_true.1 hallT t ht
    unfold typeOk at this
    simp only[Bool.and_eq_true,decide_eq_true_eq] at this
    exact this.2
   have HR3:Hid (res=(R.rules.all (ruleOk d R.types)&&apartB [] (R.rules.map CRule.name))):=by
    show _=_
    rw[HR2.out,hallT,hapT]
    rfl
   have e0:wr.cell? ⟨w.heap.size,0,none⟩=some (.slice pT nT cT):=by rw[cell_of_row _ _ _ _ _ _ HX.out];rfl
   have e1:wr.cell? ⟨w.heap.size,1,none⟩=some (.slice pR nR cR):=by rw[cell_of_row _ _ _ _ _ _ HX.out];rfl
   clear hallT hapT HAll HAp
   go_wp2_with fail
   go_loopw [58] (RuOkRel F d R pT pR nT cT nR cR w) (fun i _=>nR-(intOf i).toNat)
   case atStart=>exact⟨0,0,0,Nat.zero_le _,rfl,rfl,rfl,HBr.out,HWr.out⟩
   case round =>
    clear HBr HX HWr hj0 hlt hj e0 e1
    obtain⟨j,nv,nf,hj,rfl,hall,hap,hbr,hwr⟩:=hrel
    have hj0:(0:Int)≤j:=by omega
    have HAll:=Hd hall
    have HAp:=Hd hap
    have HBr:=Hd hbr
    have HWr:=Hd hwr
    clear hall hap hbr hwr
    by_cases hlt:j<nR
    ·have hj1:(j:Int)<nR:=by omega
     obtain⟨x,hxj⟩:∃x,R.rules[j]? = some x:=⟨_,List.getElem?_eq_getElem (by rw[HNR.out];exact hlt)⟩
     have hvs:=Rd.row_at (Rd.row_below HRr.out HF.out HBr.out) hxj
     rw[HNR.out] at hvs
     obtain⟨b,off,cap,vs,hev,_,_,_,_,hat,hcell⟩:=hvs
     rw[ruleRd_n] at hcell
     injection hev with e1' _ e3'
     subst e1';subst e3'
     obtain⟨hnm,_,_,sc,sa,rfl,hrc,hra⟩:=rule_at.1 hat
     obtain⟨qc,dc,hqc⟩:=Rd.row_shape hrc
     obtain⟨qa,da,hqa⟩:=Rd.row_shape hra
     obtain⟨mc,hmc⟩:∃mc,x.conds.length=mc:=⟨_,rfl⟩
     obtain⟨ma,hma⟩:∃ma,x.acts.length=ma:=⟨_,rfl⟩
     rw[hmc] at hqc
     rw[hma] at hqa
     subst hqc;subst hqa
     have c0:wr.cell? ⟨b,off+j*5,none⟩=some (.string x.name):=hcell 0 _ rfl
     have c1:wr.cell? ⟨b,off+j*5+1,none⟩=some (.int .i64 x.sal):=hcell 1 _ rfl
     have c2:wr.cell? ⟨b,off+j*5+2,none⟩=some (.int .i64 x.vars):=hcell 2 _ rfl
     have c3:wr.cell? ⟨b,off+j*5+3,none⟩=some (.slice qc mc dc):=hcell 3 _ rfl
     have c4:wr.cell? ⟨b,off+j*5+4,none⟩=some (.slice qa ma da):=hcell 4 _ rfl
     obtain⟨w5,hw5⟩:∃w5,w5=wr.alloc (.cells #[.string x.name,.int .i64 x.sal,.int .i64 x.vars,.slice qc mc dc,.slice qa ma da] 46):=⟨_,rfl⟩
     have hb5:Below wr.heap.size wr w5:=by rw[hw5];exact (Below.refl _ wr).alloc (Nat.le_refl _) _
     have hk5:w5.heap[wr.heap.size]? = some (.cells #[.string x.name,.int .i64 x.sal,.int .i64 x.vars,.slice qc mc dc,.slice qa ma da] 46 (0,0)):=by rw[hw5];exact heap_alloc_new wr _
     have HB5:=Hd (HBr.out.trans (hb5.mono HBr.out.size))
     have HW5:=Hd (HWr.out.below hb5)
     have HSne:Hid (w.heap.size+1≠wr.heap.size):=by have:=HWr.out.lt;show _≠_;omega
     have HL5:Hid (wr.heap.size<w5.heap.size):=(Array.getElem?_eq_some_iff.1 hk5).1
     obtain⟨ix,hix⟩:∃ix,ix=idxI (idxOf x.name (R.rules.map CRule.name)):=⟨_,rfl⟩
     have HIx:Hid (ix=(j:Int)↔(idxOf x.name ((R.rules.map CRule.name).take j)).isSome=false):=by
      rw[hix]
      exact idx_self (by rw[List.getElem?_map,hxj];rfl)
     have HRu:=Hd (fun (y:Wb w5)=>rule_any d R.rules x.name _ F (w.heap.size+1) y.1 (HW5.out.below y.2).r (fun b hb=>((HW5.out.below y.2).f b hb).1) (by rw[cell_of_row _ _ _ _ _ _ (HW5.out.below y.2).h];rfl))
     rw[←hix] at HRu
     have HWh:=Hd (fun (y:Wb w5)=>suWhole_any F (w.heap.size+1) d R.types R.rules (.slice pT nT cT) (.slice (some ⟨b,off,none⟩) nR cR) nv nf x (.slice qc mc dc) (.slice qa ma da) y.1 (HW5.out.below y.2) (Rd.row_keep (fun b hb o ho=>((hb5.trans (y.2.mono hb5.size)).block b (HWr.out.f b hb).1).trans ho) hrc) (Rd.row_keep (fun b hb o ho=>((hb5.trans (y.2.mono hb5.size)).block b (HWr.out.f b hb).1).trans ho) hra) hnm HTy6.out)
     have HX:=Hd hxj
     have HXn:Hid ((R.rules.map CRule.name)[j]? = some x.name):=by show _=_;rw[List.getElem?_map,hxj];rfl
     obtain⟨k0,k1,k2,k3,k4⟩:=cells5 hk5
     have K0:=fun y:Wb w5=>y.cell k0
     have L0:=fun y:Ks w5 (fun b=>b=wr.heap.size)=>y.cell rfl k0
     have L1:=fun y:Ks w5 (fun b=>b=wr.heap.size)=>y.cell rfl k1
     have L2:=fun y:Ks w5 (fun b=>b=wr.heap.size)=>y.cell rfl k2
     have L3:=fun y:Ks w5 (fun b=>b=wr.heap.size)=>y.cell rfl k3
     have L4:=fun y:Ks w5 (fun b=>b=wr.heap.size)=>y.cell rfl k4
     clear hat hcell hxj hb5 hk5 hnm hix hrc hra hmc hma
     go_upto_region 13 with fail
     change Code.wp _ _ _ _ (wr.alloc (.cells #[.string x.name,.int .i64 x.sal,.int .i64 x.vars,.slice qc mc dc,.slice qa ma da] 46))
     rw[←hw5]
     clear hw5 c0 c1 c2 c3 c4 k0 k1 k2 k3 k4
     by_cases hxe:ix=(j:Int)
     ·have HNo:Hid ((idxOf x.name ((R.rules.map CRule.name).take j)).isSome=false):=HIx.out.1 hxe
      subst hxe
      obtain⟨ok,hok⟩:∃ok,ok=ruleOk d R.types x:=⟨_,rfl⟩
      have HOk:=Hd hok
      rw[←hok] at HWh
      clear K0 hok
      let SS:Nat→World→Prop:=fun s W=>if s=0 then (∃y:Wb w5,W=y.1) else (Chg (fun b=>b=w.heap.size+1) w5 W∧∃nv' nf',SuW F (w.heap.size+1) d R.types R.rules (.slice pT nT cT) (.slice (some ⟨b,off,none⟩) nR cR) nv' nf' W)
      have hS0:SS 0 w5.drew:=⟨⟨w5.drew,(Below.refl _ _).drew⟩,rfl⟩
      have hKs:∀(m s:Nat) (W:World),s≤m→SS s W→∃y:Ks w5 (fun b=>b=wr.heap.size),W=y.1:=fun m s W _ h=>by
       refine⟨⟨W,fun b hb=>?_⟩,rfl⟩
       subst hb
       by_cases hs0:s=0
       ·subst hs0
        obtain⟨y,rfl⟩:∃y:Wb w5,W=y.1:=h
        exact y.2.block _ HL5.out
       ·have h:(Chg (fun b=>b=w.heap.size+1) w5 W∧∃nv' nf',SuW F (w.heap.size+1) d R.types R.rules (.slice pT nT cT) (.slice (some ⟨b,off,none⟩) nR cR) nv' nf' W):=by simpa only [SS,if_neg hs0] using h
        exact h.1.block _ HL5.out (fun e=>HSne.out e.symm)
      refine RE.wp_region_eff (by kernel_rfl) 14 [5,11] [11] SS (fun _ _=>True) (fun i _=>if i=5 then .int .i64 (j:Int) else if i=11 then .bool ok else undef) (fun _ _ _=>True) (by kernel_rfl) ?_ (fun _ _ _ _ _ _ _=>trivial) hS0 ?_
      ·intro i he hc s W W' h hb
       by_cases hs0:s=0
       ·subst hs0
        exact wb_next h hb
       ·have h:(Chg (fun b=>b=w.heap.size+1) w5 W∧∃nv' nf',SuW F (w.heap.size+1) d R.types R.rules (.slice pT nT cT) (.slice (some ⟨b,off,none⟩) nR cR) nv' nf' W):=by simpa only [SS,if_neg hs0] using h
        obtain⟨h1,nv',nf',h2⟩:=h
        have h':(Chg (fun b=>b=w.heap.size+1) w5 W'∧∃nv' nf',SuW F (w.heap.size+1) d R.types R.rules (.slice pT nT cT) (.slice (some ⟨b,off,none⟩) nR cR) nv' nf' W'):=⟨h1.trans (Chg.of_below hb),nv',nf',h2.below hb⟩
        simpa only [SS,if_neg hs0] using h'
      simp only[List.take_succ_cons,List.take_zero,List.drop_succ_cons,List.drop_zero]
      repeat (refine RE.wpE_read (fun W=>∃y:Ks w5 (fun b=>b=wr.heap.size),W=y.1) (hKs _) rfl rfl rfl hS0 ?_;go_big_quiet_step (fail);refine wpQuiet_nil ?_)
      refine RE.wpE_turn rfl rfl ?_ (fun ys5=>?_)
      ·intro W hC _ hE
       obtain⟨s9,hs9,h9⟩:=hC
       have hs9:s9≤0:=Nat.le_trans hs9 (Nat.le_of_eq (by kernel_rfl))
       obtain rfl:s9=0:=by omega
       obtain⟨y,rfl⟩:∃y:Wb w5,W=y.1:=h9
       refine RE.upon_call 22 _ _ rfl (enters_of Tryz.func22 (by kernel_rfl) rfl) #[.pointer (some ⟨w.heap.size+1,0,none⟩),.string x.name] (by simp[Act.eval]) ((HRu.out y).mono ?_)
       rintro e W' ⟨rfl,hb⟩
       exact⟨_,rfl,[],rfl,hb,trivial,trivial⟩
      simp only[Act.put,List.setIfInBounds_toArray,List.set_cons_zero,List.set_cons_succ,Nat.reduceAdd,↓reduceIte]
      repeat (refine RE.wpE_read (fun W=>∃y:Ks w5 (fun b=>b=wr.heap.size),W=y.1) (hKs _) rfl rfl rfl hS0 ?_;go_big_quiet_step (fail);refine wpQuiet_nil ?_)
      refine RE.wpE_turn rfl rfl ?_ (fun ys11=>?_)
      ·intro W hC hS hE
       obtain⟨y,rfl⟩:∃y:Wb w5,W=y.1:=hS rfl
       refine RE.upon_call 23 _ _ rfl (enters_of Tryz.func23 (by kernel_rfl) rfl) #[.pointer (some ⟨w.heap.size+1,0,none⟩),.agg #[.string x.name,.int .i64 x.sal,.int .i64 x.vars,.slice qc mc dc,.slice qa ma da]] (by simp[Act.eval]) ((HWh.out y).mono ?_)
       rintro e W' ⟨hc,rfl,nv',nf',hw'⟩
       exact⟨_,rfl,[],rfl,⟨(Chg.of_below y.2).trans hc,nv',nf',hw'⟩,trivial,trivial⟩
      simp only[Act.put,List.setIfInBounds_toArray,List.set_cons_zero,List.set_cons_succ,Nat.reduceAdd,Nat.reduceEqDiff,↓reduceIte]
      repeat (refine RE.wpE_read (fun W=>∃y:Ks w5 (fun b=>b=wr.heap.size),W=y.1) (hKs _) rfl rfl rfl hS0 ?_;go_big_quiet_step (fail);refine wpQuiet_nil ?_)
      refine RE.wpE_nil ?_
      intro W hS _
      obtain⟨hc9,nv',nf',hw9⟩:(Chg (fun b=>b=w.heap.size+1) w5 W∧∃nv' nf',SuW F (w.heap.size+1) d R.types R.rules (.slice pT nT cT) (.slice (some ⟨b,off,none⟩) nR cR) nv' nf' W):=hS
      have HB9:Hid (Below w.heap.size w W):=Chg.to_below HB5.out hc9 (fun b hb=>by omega) HB5.out.size
      have HW9:=Hd hw9
      clear hc9 hw9 L0 L1 L2 L3 L4 hKs hS0
      cases ok with
      | true =>
       have HRl:Hid (RuOkRel F d R pT (some ⟨b,off,none⟩) nT cT nR cR w (.int .i64 ((j+1:Nat):Int)) W):=
        ⟨j+1,nv',nf',by omega,rfl,all_takeK HX.out HAll.out HOk.out.symm,apart_next HXn.out HAp.out HNo.out,HB9.out,HW9.out⟩
       go_wp2_with fail
       refine⟨HRl.out,?_⟩
       simp[intOf];omega
      | false =>
       have HRn:Hid (res=false):=by show _=_;rw[HR3.out,all_notK (f:=ruleOk d R.types) HX.out HOk.out.symm];rfl
       go_wp2_with fail
       go_ret
       exact⟨by rw[HRn.out];rfl,HB9.out⟩
     ·have hxb:(ix==(j:Int))=false:=by simpa using hxe
      have hxn:(ix != (j:Int))=true:=by simpa using hxe
      have hxd:decide (ix=(j:Int))=false:=decide_eq_false hxe
      have HRn:Hid (res=false):=by
       show _=_
       have:(idxOf x.name ((R.rules.map CRule.name).take j)).isSome=true:=by
        cases hc:(idxOf x.name ((R.rules.map CRule.name).take j)).isSome with
        | true=>rfl
        | false=>exact absurd (HIx.out.2 hc) hxe
       rw[HR3.out,apart_not HXn.out this]
       simp
      clear L0 L1 L2 L3 L4
      refine wp_region_below (by kernel_rfl) (by kernel_rfl) ?_
      repeat (go_big_quiet_step ((go_at_call 22;exact Calls.below_of (HRu.out _))))
      refine wpQuiet_nil ?_
      intro W2 hw'
      have hb2:=wb_below hw'
      have HB2:=Hd (HB5.out.trans (hb2.mono HB5.out.size))
      clear hw' hb2 K0
      go_wp2_with fail
      go_ret
      exact⟨by rw[HRn.out];rfl,HB2.out⟩
    ·have hallR:R.rules.all (ruleOk d R.types)=true:=by
      rw[←HAll.out,List.take_of_length_le (by rw[HNR.out];omega)]
     have hapR:apartB [] (R.rules.map CRule.name)=true:=by
      have h:=HAp.out
      rw[List.take_of_length_le (by rw[List.length_map,HNR.out];omega)] at h
      exact h
     have HRn:Hid (res=true):=by show _=_;rw[HR3.out,hallR,hapR];rfl
     clear hallR hapR
     go_wp2_with fail
     go_ret
     exact⟨by rw[HRn.out];rfl,HBr.out⟩
end Go.Proofs.YtglbjooofdnbkaaGreatDoor
