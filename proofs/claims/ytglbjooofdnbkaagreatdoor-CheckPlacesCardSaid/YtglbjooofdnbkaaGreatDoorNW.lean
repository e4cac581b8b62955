/- The rule checker's second part: a rule, by contract. Condition: types of at most six fields. Printed by tools/genSuJ.py. -/
import Derived.Test.YtglbjooofdnbkaaGreatDoorNV
namespace Go.Proofs.YtglbjooofdnbkaaGreatDoor
set_option maxHeartbeats 16000000
set_option maxRecDepth 100000
open Go.RowKit
def WholeEnd (F:Nat→Prop) (S d:Nat) (types:List CType) (rules:List CRule) (vT vR:Value) (b:Bool) (w:World) (e:Ending) (w':World):Prop:=
 Chg (fun b=>b=S) w w'∧e=.returned (.bool b)∧∃nv' nf',SuW F S d types rules vT vR nv' nf' w'
def CondsRel (F:Nat→Prop) (S d:Nat) (types:List CType) (rules:List CRule) (vT vR:Value) (r:CRule) (nc:Nat) (w:World) (rc:Array Value) (i:Value) (W:World):Prop:=
 ∃(j:Nat) (nv nf:Int),j≤nc∧i=.int .i64 (j:Int)∧condsOk d types (0,0) (r.conds.take j)=some (nv,nf)∧0≤nv∧nv≤6*j∧0≤nf∧nf≤j ∧
  W.heap[w.heap.size]? = some (.cells #[.pointer (some ⟨S,0,none⟩)] 81 (0,0))∧W.heap[w.heap.size+1]? = some (.cells rc 46 (0,0))∧SuW F S d types rules vT vR nv nf W∧Chg (fun b=>b=S) w W
theorem condOk_le {d:Nat}{types:List CType}{s s':Int×Int}{c:CCond}(hty:∀t∈types,t.fields≤6)(h:condOk d types s c=some s'):s.1≤s'.1∧s'.1≤s.1+6∧s.2≤s'.2∧s'.2≤s.2+1:=by
 have args:∀(b:Bool) (l:List CArg) (v v':Int),argsOk b v l=some v'→v≤v'∧v'≤v+l.length:=by
  intro b l
  induction l with
  | nil=>intro v v' h;injection h with h;subst h;simp
  | cons a l ih =>
   intro v v' h
   unfold argsOk at h
   cases ha:argOk b v a with
   | none=>rw[ha] at h;cases h
   | some u =>
    rw[ha] at h
    have h1:=argOk_le ha
    have h2:=ih u v' h
    simp only[List.length_cons];omega
 unfold condOk at h
 split at h
 ·split at h
  ·rename_i hfz
   simp only[Bool.and_eq_true] at hfz
   have hlen:(c.args.length:Int)≤6:=by
    have hf:=hfz.1
    unfold fitsType at hf
    simp only[Bool.and_eq_true,decide_eq_true_eq,beq_iff_eq] at hf
    obtain⟨⟨h1,h2⟩,h3⟩:=hf
    have hlt:c.type.toNat<types.length:=by omega
    rw[List.getElem?_eq_getElem hlt] at h3
    have h6:=hty _ (List.getElem_mem hlt)
    have h3:types[c.type.toNat].fields=(c.args.length:Int):=h3
    omega
   split at h
   ·cases h
   ·rename_i v hv
    injection h with h
    have h2:=args _ _ _ _ hv
    rw[←h]
    dsimp only
    refine⟨h2.1,by omega,?_,?_⟩<;>split<;>omega
  ·cases h
 ·split at h
  ·injection h with h;rw[←h];omega
  ·cases h
theorem condsOk_take {d:Nat}{types:List CType}{s s':Int×Int}{l:List CCond}{j:Nat}{c:CCond}(hc:l[j]? = some c)(h:condsOk d types s (l.take j)=some s'):condsOk d types s (l.take (j+1))=condOk d types s' c:=by
 rw[List.take_add_one,hc]
 exact condsOk_snoc d types _ _ _ _ h
theorem condsOk_stop {d:Nat}{types:List CType}:∀(l:List CCond)(s:Int×Int)(j:Nat),condsOk d types s (l.take j)=none→condsOk d types s l=none
 | [],s,j,h=>by simp[condsOk] at h
 | c::l,s,0,h=>by simp[condsOk] at h
 | c::l,s,j+1,h=>by
  rw[List.take_succ_cons] at h
  unfold condsOk at h ⊢
  cases hc:condOk d types s c with
  | none=>rfl
  | some s' =>
   rw[hc] at h
   exact condsOk_stop l s' j h
theorem run_store_int (W:World)(b o:Nat)(x:Int)(u:Value)(hc:W.cell? ⟨b,o,none⟩=some u)(hf:W.frozen? ⟨b,o,none⟩=false):(Instr.storeAt 3 (.pointer (some ⟨b,o,none⟩)) (.int .i64 x)).run Tryz.prog W=.ok () (W.setCell ⟨b,o,none⟩ (.int .i64 x)):=by
 simp[Instr.storeAt,Instr.sureAddr,go_sem,hc,hf]
theorem suWhole_any (F:Nat→Prop)(S d:Nat)(types:List CType)(rules:List CRule)(vT vR:Value)(nv0 nf0:Int)(r:CRule)(sc sa:Value)(w:World)(hw:SuW F S d types rules vT vR nv0 nf0 w)(hcr:(condRd d).row w F r.conds sc)(har:(actRd d).row w F r.acts sa)(hnm:r.name.size≤maxLen)(hty:∀t∈types,t.fields≤6) :
  Calls Tryz.prog 23 #[.pointer (some ⟨S,0,none⟩),.agg #[.string r.name,.int .i64 r.sal,.int .i64 r.vars,sc,sa]] w (WholeEnd F S d types rules vT vR (ruleOk d types r) w):=by
 have hmf:∀(fn:Fn) (first cap:Array Value) (w:World),(Instr.makeFunc fn first cap).run Tryz.prog w=.ok (.func fn first cap) w:=fun _ _ _ _=>rfl
 obtain⟨pc,cc,hsc⟩:=Rd.row_shape hcr
 obtain⟨pa,ca,hsa⟩:=Rd.row_shape har
 obtain⟨nc,hnc⟩:∃nc,r.conds.length=nc:=⟨_,rfl⟩
 obtain⟨na,hna⟩:∃na,r.acts.length=na:=⟨_,rfl⟩
 rw[hnc] at hsc
 rw[hna] at hsa
 subst hsc;subst hsa
 have HNc:=Hd hnc
 have HNa:=Hd hna
 obtain⟨w1,hw1⟩:∃w1,w1=(w.alloc (.cells #[.pointer (some ⟨S,0,none⟩)] 81)).alloc (.cells #[.string r.name,.int .i64 r.sal,.int .i64 r.vars,.slice pc nc cc,.slice pa na ca] 46):=⟨_,rfl⟩
 obtain⟨hx0,hx1,_⟩:=two_new' w (.cells #[.pointer (some ⟨S,0,none⟩)] 81) (.cells #[.string r.name,.int .i64 r.sal,.int .i64 r.vars,.slice pc nc cc,.slice pa na ca] 46)
 have hb1:Below w.heap.size w w1:=by rw[hw1];exact ((Below.refl _ w).alloc (Nat.le_refl _) _).alloc (by simp) _
 rw[←hw1] at hx0 hx1
 have hw1S:=hw.below hb1
 have HSlt:=Hd hw.lt
 have HF:=Hd (fun b (hb:F b)=>hw.f b hb)
 have HCr:=Hd hcr
 have HAr:=Hd har
 have HTy:=Hd hty
 have HNm:=Hd (fun W=>chnamed_any r.name W hnm)
 have hs2:w1.cell? ⟨S,2,none⟩=some (.int .i64 nv0):=hw1S.vars
 have hs3:w1.cell? ⟨S,3,none⟩=some (.int .i64 nf0):=by rw[cell_of_row _ _ _ _ _ _ hw1S.h];rfl
 have fz1:=frozenAll hw1S.h
 obtain⟨wa,hwa⟩:∃wa,wa=w1.drew.setCell ⟨S,2,none⟩ (.int .i64 0):=⟨_,rfl⟩
 obtain⟨wb,hwb⟩:∃wb,wb=wa.setCell ⟨S,3,none⟩ (.int .i64 0):=⟨_,rfl⟩
 have hwd:SuW F S d types rules vT vR nv0 nf0 w1.drew:=hw1S.below (Below.refl _ _).drew
 have hWa:SuW F S d types rules vT vR 0 nf0 wa:=by rw[hwa];exact hwd.setV 0
 have HWb:Hid (SuW F S d types rules vT vR 0 0 wb):=by show SuW _ _ _ _ _ _ _ _ _ _;rw[hwb];exact hWa.setF 0
 have hot:∀b,b≠S→wb.heap[b]? = w1.heap[b]?:=fun b hb=>by rw[hwb,Below.heap_setCell _ _ _ _ hb,hwa,Below.heap_setCell _ _ _ _ hb];rfl
 have hb0:wb.heap[w.heap.size]? = some (.cells #[.pointer (some ⟨S,0,none⟩)] 81 (0,0)):=(hot _ (by have:=hw.lt;omega)).trans hx0
 have hbr:wb.heap[w.heap.size+1]? = some (.cells #[.string r.name,.int .i64 r.sal,.int .i64 r.vars,.slice pc nc cc,.slice pa na ca] 46 (0,0)):=(hot _ (by have:=hw.lt;omega)).trans hx1
 have HCb:Hid (Chg (fun b=>b=S) w wb):=by
  show Chg _ _ _
  rw[hwb,hwa]
  exact Chg.setCell (F:=fun b=>b=S) (Chg.setCell (F:=fun b=>b=S) (Chg.of_below hb1.drew) (p:=⟨S,2,none⟩) (Or.inl rfl) _) (p:=⟨S,3,none⟩) (Or.inl rfl) _
 have HB0:=Hd hb0
 have HBr:=Hd hbr
 have hp0:w1.cell? ⟨w.heap.size,0,none⟩=some (.pointer (some ⟨S,0,none⟩)):=by rw[cell_of_row _ _ _ _ _ _ hx0];rfl
 have P0:=fun x:RE.Two w1.drew wa=>RE.Two.cell (p:=⟨w.heap.size,0,none⟩) (show w1.drew.cell? ⟨w.heap.size,0,none⟩=_ from hp0) (by
  have:wa.heap[w.heap.size]? = w1.heap[w.heap.size]?:=by rw[hwa,Below.heap_setCell _ _ _ _ (show w.heap.size≠S by have:=hw.lt;omega)];rfl
  rw[cell_of_row _ _ _ _ _ _ (this.trans hx0)];rfl) x
 have HWa3:Hid (wa.cell? ⟨S,3,none⟩=some (.int .i64 nf0)):=by show _=_;rw[cell_of_row _ _ _ _ _ _ hWa.h];rfl
 have HFa:=Hd (frozenAll hWa.h)
 have HWaE:=Hd hwa
 obtain⟨res,hres⟩:∃res,res=ruleOk d types r:=⟨_,rfl⟩
 have HR:Hid (res=(namedF r.name.data.toList&&decide (-1000≤r.sal)&&decide (r.sal≤1000)&&decide (nc≤8)&&decide (na≤8)&&match condsOk d types (0,0) r.conds with|none=>false|some s=>r.vars==s.1&&decide (s.1≤16)&&r.acts.all (actOk d types s))):=by
  show _=_
  rw[hres,←hnc,←hna];rfl
 rw[←hres]
 clear hres hx0 hx1 hb1 hw1S hw hcr har hty hnm hwd hWa hot hb0 hbr hnc hna
 go_enter Tryz.func23,Tryz.ntmps23
 go_upto_region 1 with fail
 change Code.wp _ _ _ _ ((w.alloc (.cells #[.pointer (some ⟨S,0,none⟩)] 81)).alloc (.cells #[.string r.name,.int .i64 r.sal,.int .i64 r.vars,.slice pc nc cc,.slice pa na ca] 46))
 rw[←hw1]
 clear hw1 hwa
 refine RE.wp_region_eff (by kernel_rfl) 7 [4] [4] (fun s W=>if s=0 then W=w1.drew else W=wa) (fun _ _=>True) (fun _ _=>undef) (fun _ _ _=>True) (by kernel_rfl) (fun i h1 h2=>by rw[h1] at h2;cases h2) (fun _ _ _ _ _ _ _=>trivial) rfl ?_
 simp only[List.take_succ_cons,List.take_zero,List.drop_succ_cons,List.drop_zero]
 repeat (refine RE.wpE_read (fun W=>∃x:RE.Two w1.drew wa,W=x.1) RE.two_class rfl rfl rfl rfl ?_;go_big_quiet_step (fail);refine wpQuiet_nil ?_)
 refine RE.wpE_turn rfl rfl ?_ (fun xs=>?_)
 ·intro W hC hS _
  obtain rfl:W=w1.drew:=hS rfl
  refine RE.upon_skip (w':=w1.drew.setCell ⟨S,2,none⟩ (.int .i64 0)) ?_ ⟨[],rfl,HWaE.out.symm,trivial,trivial⟩
  have hst:=run_store_int w1.drew S 2 0 _ hs2 (fz1 2)
  simp[execOp,Act.eval,hst]
 simp only[Act.put]
 repeat (refine RE.wpE_read (fun W=>∃x:RE.Two w1.drew wa,W=x.1) RE.two_class rfl rfl rfl rfl ?_;go_big_quiet_step (fail);refine wpQuiet_nil ?_)
 refine RE.wpE_nil ?_
 intro W hS _
 have hS:W=wa:=hS
 rw[hS]
 clear hS P0 hs2 hs3 fz1 hp0
 have hs3:=HWa3.out
 have fz:=HFa.out
 go_upto_region 2 with fail
 rw[←hwb]
 clear hwb hs3 fz
 obtain⟨e0,e1,e2,e3,e4⟩:=cells5 HBr.out
 go_wp2_with fail
 refine (HNm.out wb).mono ?_
 rintro e W3 ⟨rfl,hb3⟩
 have HC:Hid (Chg (fun b=>b=S) w W3):=HCb.out.trans (Chg.of_below hb3)
 have HW:=Hd (HWb.out.below hb3)
 have h03:=heap_below hb3 HB0.out (Array.getElem?_eq_some_iff.1 HB0.out).1
 have hr3:=heap_below hb3 HBr.out (Array.getElem?_eq_some_iff.1 HBr.out).1
 have H03:=Hd h03
 have HR3:=Hd hr3
 clear hb3 e0 e1 e2 e3 e4 HNm h03
 obtain⟨e0,e1,e2,e3,e4⟩:=cells5 hr3
 clear hr3
 cases hnb:namedF r.name.data.toList with
 | false =>
  have HRn:Hid (res=false):=by show _=_;rw[HR.out,hnb];rfl
  clear hnb
  go_wp2_with fail
  go_ret
  exact⟨HC.out,by rw[HRn.out];rfl,_,_,HW.out⟩
 | true =>
 have HNb:=Hd hnb
 clear hnb
 by_cases h1:r.sal < -1000
 ·have HRn:Hid (res=false):=by show _=_;rw[HR.out,decide_eq_false (show ¬-1000≤r.sal by omega)];simp
  go_wp2_with fail
  go_ret
  exact⟨HC.out,by rw[HRn.out];rfl,_,_,HW.out⟩
 by_cases h2:1000<r.sal
 ·have HRn:Hid (res=false):=by show _=_;rw[HR.out,decide_eq_false (show ¬r.sal≤1000 by omega)];simp
  go_wp2_with fail
  go_ret
  exact⟨HC.out,by rw[HRn.out];rfl,_,_,HW.out⟩
 by_cases h3:8<nc
 ·have h3i:(8:Int)<nc:=by omega
  have HRn:Hid (res=false):=by show _=_;rw[HR.out,decide_eq_false (show ¬nc≤8 by omega)];simp
  go_wp2_with fail
  go_ret
  exact⟨HC.out,by rw[HRn.out];rfl,_,_,HW.out⟩
 have h3i:¬(8:Int)<nc:=by omega
 by_cases h4:8<na
 ·have h4i:(8:Int)<na:=by omega
  have HRn:Hid (res=false):=by show _=_;rw[HR.out,decide_eq_false (show ¬na≤8 by omega)];simp
  go_wp2_with fail
  go_ret
  exact⟨HC.out,by rw[HRn.out];rfl,_,_,HW.out⟩
 have h4i:¬(8:Int)<na:=by omega
 have HR2:Hid (res=match condsOk d types (0,0) r.conds with|none=>false|some s=>r.vars==s.1&&decide (s.1≤16)&&r.acts.all (actOk d types s)):=by
  show _=_
  rw[HR.out,HNb.out,decide_eq_true (show -1000≤r.sal by omega),decide_eq_true (show r.sal≤1000 by omega),decide_eq_true (show nc≤8 by omega),decide_eq_true (show na≤8 by omega)]
  rfl
 clear HR
 go_wp2_with fail
 go_loopw [42] (CondsRel F S d types rules vT vR r nc w #[.string r.name,.int .i64 r.sal,.int .i64 r.vars,.slice pc nc cc,.slice pa na ca]) (fun i _=>nc-(intOf i).toNat)
 case atStart=>exact⟨0,0,0,Nat.zero_le _,rfl,rfl,Int.le_refl _,by omega,Int.le_refl _,by omega,H03.out,HR3.out,HW.out,HC.out⟩
 case round =>
  obtain⟨j,nv,nf,hj,rfl,hcs,hv1,hv2,hf1,hf2,hb0,hbr,hwr,hch⟩:=hrel
  have hj0:(0:Int)≤j:=by omega
  have HCs:=Hd hcs
  have HB0r:=Hd hb0
  have HBrr:=Hd hbr
  have HWr:=Hd hwr
  have HCh:=Hd hch
  clear hcs hb0 hbr hwr hch e0 e1 e2 e3 e4 HW HC H03 HR3
  by_cases hlt:j<nc
  ·have hj1:(j:Int)<nc:=by omega
   obtain⟨c,hc⟩:∃c,r.conds[j]? = some c:=⟨_,List.getElem?_eq_getElem (by rw[HNc.out];exact hlt)⟩
   have hrow:(condRd d).row wr F r.conds (.slice pc nc cc):=Rd.row_keep (fun b hb o ho=>(HCh.out.block b (HF.out b hb).1 (HF.out b hb).2).trans ho) HCr.out
   have hvs:=Rd.row_at hrow hc
   rw[HNc.out] at hvs
   obtain⟨b,off,cap,vs,hev,_,_,_,_,hat,hcell⟩:=hvs
   rw[condRd_n] at hcell
   injection hev with e1' _ e3'
   subst e1';subst e3'
   have hat':=hat
   obtain⟨_,_,_,sa',s',rfl,hra,hks⟩:=cond_at.1 hat'
   obtain⟨qa,da,hqa⟩:=Rd.row_shape hra
   obtain⟨q,dd,hqs⟩:=ekids_shape hks
   obtain⟨ma,hma⟩:∃ma,c.args.length=ma:=⟨_,rfl⟩
   obtain⟨m,hm⟩:∃m,c.test.kids.length=m:=⟨_,rfl⟩
   rw[hma] at hqa
   rw[hm] at hqs
   subst hqa;subst hqs
   have c0:wr.cell? ⟨b,off+j*10,none⟩=some (.int .u8 c.kind):=hcell 0 _ rfl
   have c1:wr.cell? ⟨b,off+j*10+1,none⟩=some (.int .i64 c.type):=hcell 1 _ rfl
   have c2:wr.cell? ⟨b,off+j*10+2,none⟩=some (.slice qa ma da):=hcell 2 _ rfl
   have c3:wr.cell? ⟨b,off+j*10+3,none⟩=some (.int .u8 c.test.kind):=hcell 3 _ rfl
   have c4:wr.cell? ⟨b,off+j*10+4,none⟩=some (.int .u8 c.test.val.kind):=hcell 4 _ rfl
   have c5:wr.cell? ⟨b,off+j*10+5,none⟩=some (.int .i64 c.test.val.num):=hcell 5 _ rfl
   have c6:wr.cell? ⟨b,off+j*10+6,none⟩=some (.string c.test.val.text):=hcell 6 _ rfl
   have c7:wr.cell? ⟨b,off+j*10+7,none⟩=some (.int .i64 c.test.var):=hcell 7 _ rfl
   have c8:wr.cell? ⟨b,off+j*10+8,none⟩=some (.int .u8 c.test.op):=hcell 8 _ rfl
   have c9:wr.cell? ⟨b,off+j*10+9,none⟩=some (.slice q m dd):=hcell 9 _ rfl
   obtain⟨w5,hw5⟩:∃w5,w5=wr.alloc (.cells #[.int .u8 c.kind,.int .i64 c.type,.slice qa ma da,.int .u8 c.test.kind,.int .u8 c.test.val.kind,.int .i64 c.test.val.num,.string c.test.val.text,.int .i64 c.test.var,.int .u8 c.test.op,.slice q m dd] 60):=⟨_,rfl⟩
   have hb5:Below wr.heap.size wr w5:=by rw[hw5];exact (Below.refl _ wr).alloc (Nat.le_refl _) _
   have hk5:w5.heap[wr.heap.size]? = some (.cells #[.int .u8 c.kind,.int .i64 c.type,.slice qa ma da,.int .u8 c.test.kind,.int .u8 c.test.val.kind,.int .i64 c.test.val.num,.string c.test.val.text,.int .i64 c.test.var,.int .u8 c.test.op,.slice q m dd] 60 (0,0)):=by rw[hw5];exact heap_alloc_new wr _
   have h05:=heap_below hb5 HB0r.out (Array.getElem?_eq_some_iff.1 HB0r.out).1
   have hr5:=heap_below hb5 HBrr.out (Array.getElem?_eq_some_iff.1 HBrr.out).1
   have H05:=Hd h05
   have HR5:=Hd hr5
   have HCo:=Hd (suCond_any F S d types rules vT vR nv nf c (.slice qa ma da) (.slice q m dd) w5 (HWr.out.below hb5) ((condRd d).keep (fun b hb o ho=>(hb5.block b (HWr.out.f b hb).1).trans ho) hat) (by omega) (by omega) HTy.out)
   have HC5:Hid (Chg (fun b=>b=S) w w5):=HCh.out.trans (Chg.of_below hb5)
   have HNx:=Hd (condsOk_take hc HCs.out)
   obtain⟨k0,k1,k2,k3,k4,k5,k6,k7,k8,k9⟩:=cells10 hk5
   have p0:w5.cell? ⟨w.heap.size,0,none⟩=some (.pointer (some ⟨S,0,none⟩)):=by rw[cell_of_row _ _ _ _ _ _ h05];rfl
   clear hrow hat hat' hcell hra hks hma hm hc hb5 hk5 h05 hr5
   go_upto_region 7 with fail
   change Code.wp _ _ _ _ (wr.alloc (.cells #[.int .u8 c.kind,.int .i64 c.type,.slice qa ma da,.int .u8 c.test.kind,.int .u8 c.test.val.kind,.int .i64 c.test.val.num,.string c.test.val.text,.int .i64 c.test.var,.int .u8 c.test.op,.slice q m dd] 60))
   rw[←hw5]
   clear hw5 c0 c1 c2 c3 c4 c5 c6 c7 c8 c9
   go_wp2_with fail
   refine HCo.out.mono ?_
   rintro e W4 ⟨hch4,rfl,nv',nf',hw4,hv'⟩
   have HC4:Hid (Chg (fun b=>b=S) w W4):=HC5.out.trans hch4
   have h04:=(hch4.block _ (Array.getElem?_eq_some_iff.1 H05.out).1 (by have:=HSlt.out;omega)).trans H05.out
   have hr4:=(hch4.block _ (Array.getElem?_eq_some_iff.1 HR5.out).1 (by have:=HSlt.out;omega)).trans HR5.out
   have HW4:=Hd hw4
   clear hch4 hw4 k0 k1 k2 k3 k4 k5 k6 k7 k8 k9 p0
   cases hq:condOk d types (nv,nf) c with
   | none =>
    have HRn:Hid (res=false):=by
     show _=_
     rw[HR2.out,condsOk_stop r.conds (0,0) (j+1) (HNx.out.trans hq)]
    clear hq hv' h04 hr4
    go_wp2_with fail
    go_ret
    exact⟨HC4.out,by rw[HRn.out];rfl,_,_,HW4.out⟩
   | some u =>
    obtain⟨hu1,hu2⟩:=hv' u hq
    have hle:=condOk_le HTy.out hq
    dsimp only at hle
    have HRl:Hid (CondsRel F S d types rules vT vR r nc w #[.string r.name,.int .i64 r.sal,.int .i64 r.vars,.slice (some ⟨b,off,none⟩) nc cc,.slice pa na ca] (.int .i64 ((j+1:Nat):Int)) W4):=
     ⟨j+1,u.1,u.2,by omega,rfl,HNx.out.trans hq,by omega,by omega,by omega,by omega,h04,hr4,by rw[←hu1,←hu2];exact HW4.out,HC4.out⟩
    clear hq hv' hu1 hu2 hle h04 hr4
    go_wp2_with fail
    refine⟨HRl.out,?_⟩
    simp[intOf];omega
  ·have hall:condsOk d types (0,0) r.conds=some (nv,nf):=by
    rw[←HCs.out,List.take_of_length_le (by rw[HNc.out];omega)]
   have HRs:Hid (res=(r.vars==nv&&decide (nv≤16)&&r.acts.all (actOk d types (nv,nf)))):=by show _=_;rw[HR2.out,hall]
   clear hall
   obtain⟨e0,e1,e2,e3,e4⟩:=cells5 HBrr.out
   have hp0:wr.cell? ⟨w.heap.size,0,none⟩=some (.pointer (some ⟨S,0,none⟩)):=by rw[cell_of_row _ _ _ _ _ _ HB0r.out];rfl
   have hs2:wr.cell? ⟨S,2,none⟩=some (.int .i64 nv):=HWr.out.vars
   have hrowA:(actRd d).row wr F r.acts (.slice pa na ca):=Rd.row_keep (fun b hb o ho=>(HCh.out.block b (HF.out b hb).1 (HF.out b hb).2).trans ho) HAr.out
   have HCo:=Hd (fun (x:Wb wr)=>contA_any F S d types rules vT vR nv nf r.acts (.slice pa na ca) w.heap.size x.1 (HWr.out.below x.2) (x.cell hp0) (Rd.row_keep (fun b hb o ho=>(x.2.block b (HWr.out.f b hb).1).trans ho) hrowA))
   have T0:=fun x:Wb wr=>x.cell hp0
   have R2:=fun x:Wb wr=>x.cell e2
   have R4:=fun x:Wb wr=>x.cell e4
   have V2:=fun x:Wb wr=>x.cell hs2
   clear hrowA
   go_upto_region 10 with fail
   clear e0 e1 e2 e3 e4 hp0 hs2
   by_cases hve:r.vars=nv
   ·have hveb:(r.vars==nv)=true:=by simpa using hve
    have hved:decide (r.vars=nv)=true:=decide_eq_true hve
    have HVe:=Hd hve
    by_cases h16:nv≤16
    ·have h16b:decide (nv≤16)=true:=decide_eq_true h16
     have HRn:Hid (res=r.acts.all (actOk d types (nv,nf))):=by show _=_;rw[HRs.out,hveb,h16b];rfl
     cases hall:r.acts.all (actOk d types (nv,nf)) with
     | true =>
      rw[hall] at HCo HRn
      clear hall
      refine wp_region_below (by kernel_rfl) (by kernel_rfl) ?_
      repeat (go_big_quiet_step ((go_at_call 40;exact Calls.below_of (HCo.out _))))
      refine wpQuiet_nil ?_
      intro W2 hw'
      have hb2:=wb_below hw'
      have HB2:=Hd hb2
      clear hw' hb2 T0 R2 R4 V2
      go_wp2_with fail
      go_ret
      exact⟨HCh.out.trans (Chg.of_below HB2.out),by rw[HRn.out];first|rfl|simp_all,_,_,HWr.out.below HB2.out⟩
     | false =>
      rw[hall] at HCo HRn
      clear hall
      refine wp_region_below (by kernel_rfl) (by kernel_rfl) ?_
      repeat (go_big_quiet_step ((go_at_call 40;exact Calls.below_of (HCo.out _))))
      refine wpQuiet_nil ?_
      intro W2 hw'
      have hb2:=wb_below hw'
      have HB2:=Hd hb2
      clear hw' hb2 T0 R2 R4 V2
      go_wp2_with fail
      go_ret
      exact⟨HCh.out.trans (Chg.of_below HB2.out),by rw[HRn.out];first|rfl|simp_all,_,_,HWr.out.below HB2.out⟩
    ·have h16b:decide (nv≤16)=false:=decide_eq_false h16
     have HRn:Hid (res=false):=by show _=_;rw[HRs.out,h16b];simp
     refine wp_region_below (by kernel_rfl) (by kernel_rfl) ?_
     repeat (go_big_quiet_step ((go_at_call 40;exact Calls.below_of (HCo.out _))))
     refine wpQuiet_nil ?_
     intro W2 hw'
     have hb2:=wb_below hw'
     have HB2:=Hd hb2
     clear hw' hb2 T0 R2 R4 V2
     go_wp2_with fail
     go_ret
     exact⟨HCh.out.trans (Chg.of_below HB2.out),by rw[HRn.out];first|rfl|simp_all,_,_,HWr.out.below HB2.out⟩
   ·have hveb:(r.vars==nv)=false:=by simpa using hve
    have hved:decide (r.vars=nv)=false:=decide_eq_false hve
    have HRn:Hid (res=false):=by show _=_;rw[HRs.out,hveb];rfl
    refine wp_region_below (by kernel_rfl) (by kernel_rfl) ?_
    repeat (go_big_quiet_step ((go_at_call 40;exact Calls.below_of (HCo.out _))))
    refine wpQuiet_nil ?_
    intro W2 hw'
    have hb2:=wb_below hw'
    have HB2:=Hd hb2
    clear hw' hb2 T0 R2 R4 V2
    go_wp2_with fail
    go_ret
    exact⟨HCh.out.trans (Chg.of_below HB2.out),by rw[HRn.out];first|rfl|simp_all,_,_,HWr.out.below HB2.out⟩
end Go.Proofs.YtglbjooofdnbkaaGreatDoor
