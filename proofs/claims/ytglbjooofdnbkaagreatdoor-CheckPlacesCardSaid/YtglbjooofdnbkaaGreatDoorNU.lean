/- The rule checker's second part: a condition, by contract. Condition: types of at most six fields. Printed by tools/genSuG.py. -/
import Derived.Test.YtglbjooofdnbkaaGreatDoorNS
import Derived.Test.YtglbjooofdnbkaaGreatDoorNA
namespace Go.Proofs.YtglbjooofdnbkaaGreatDoor
set_option maxHeartbeats 8000000
set_option maxRecDepth 100000
open Go.RowKit
def CondEnd (F:Nat→Prop) (S d:Nat) (types:List CType) (rules:List CRule) (vT vR:Value) (r:Option (Int×Int)) (w:World) (e:Ending) (w':World):Prop:=
 Chg (fun b=>b=S) w w'∧e=.returned (.bool r.isSome)∧∃nv' nf',SuW F S d types rules vT vR nv' nf' w'∧∀x,r=some x→nv'=x.1∧nf'=x.2
def SuArgs (F:Nat→Prop) (S d:Nat) (types:List CType) (rules:List CRule) (vT vR:Value) (nv nf:Int) (binds:Bool) (c:CCond) (na:Nat) (w:World) (cs:Array Value) (i:Value) (W:World):Prop:=
 ∃(j:Nat) (v:Int),j≤na∧i=.int .i64 (j:Int)∧argsOk binds nv (c.args.take j)=some v∧nv≤v∧v≤nv+j∧W.heap[w.heap.size]? = some (.cells cs 60 (0,0))∧SuW F S d types rules vT vR v nf W∧Chg (fun b=>b=S) w W
theorem argsOk_take {binds:Bool}{nv v:Int}{l:List CArg}{j:Nat}{a:CArg}(ha:l[j]? = some a)(h:argsOk binds nv (l.take j)=some v):argsOk binds nv (l.take (j+1))=argOk binds v a:=by
 rw[List.take_add_one,ha]
 exact argsOk_snoc binds _ _ _ _ h
theorem argsOk_stop {binds:Bool}:∀(l:List CArg)(nv:Int)(j:Nat),argsOk binds nv (l.take j)=none→argsOk binds nv l=none
 | [],nv,j,h=>by simp[argsOk] at h
 | a::l,nv,0,h=>by simp[argsOk] at h
 | a::l,nv,j+1,h=>by
  rw[List.take_succ_cons] at h
  unfold argsOk at h ⊢
  cases ha:argOk binds nv a with
  | none=>rfl
  | some v =>
   rw[ha] at h
   exact argsOk_stop l v j h
theorem argOk_le {binds:Bool}{v v':Int}{a:CArg}(h:argOk binds v a=some v'):v≤v'∧v'≤v+1:=by
 unfold argOk at h
 repeat' split at h
 all_goals first
  | (injection h with h;omega)
  | cases h
theorem suCond_fact1 (F:Nat→Prop)(S d:Nat)(types:List CType)(rules:List CRule)(vT vR:Value)(nv nf:Int)(c:CCond)(pa p:Option Addr)(na ca n cc:Nat)(w:World)(hw:SuW F S d types rules vT vR nv nf w)(hk:c.kind=1)(hna:c.args.length=na)(hn:c.test.kids.length=n)(hra:argRd.row w F c.args (.slice pa na ca))(hnv:0≤nv∧nv≤1000)(hnf:0≤nf∧nf≤1000)(hty:∀t∈types,t.fields≤6) :
  Calls Tryz.prog 39 #[.pointer (some ⟨S,0,none⟩),.agg #[.int .u8 c.kind,.int .i64 c.type,.slice pa na ca,.int .u8 c.test.kind,.int .u8 c.test.val.kind,.int .i64 c.test.val.num,.string c.test.val.text,.int .i64 c.test.var,.int .u8 c.test.op,.slice p n cc]] w (CondEnd F S d types rules vT vR (condOk d types (nv,nf) c) w):=by
 obtain⟨w1,hw1⟩:∃w1,w1=w.alloc (.cells #[.int .u8 1,.int .i64 c.type,.slice pa na ca,.int .u8 c.test.kind,.int .u8 c.test.val.kind,.int .i64 c.test.val.num,.string c.test.val.text,.int .i64 c.test.var,.int .u8 c.test.op,.slice p n cc] 60):=⟨_,rfl⟩
 have hb1:Below w.heap.size w w1:=by rw[hw1];exact (Below.refl _ w).alloc (Nat.le_refl _) _
 have hx1:w1.heap[w.heap.size]? = some (.cells #[.int .u8 1,.int .i64 c.type,.slice pa na ca,.int .u8 c.test.kind,.int .u8 c.test.val.kind,.int .i64 c.test.val.num,.string c.test.val.text,.int .i64 c.test.var,.int .u8 c.test.op,.slice p n cc] 60 (0,0)):=by rw[hw1];exact heap_alloc_new w _
 have HB1:=Hd hb1
 have HX1:=Hd hx1
 have HW1:=Hd (hw.below hb1)
 have HSlt:=Hd hw.lt
 have HF:=Hd (fun b (hb:F b)=>hw.f b hb)
 have HRa:=Hd hra
 have HNa:=Hd hna
 have HTy:=Hd (suTyped_any F S d types rules vT vR nv nf c.type (c.args.length:Int) w1 (hw.below hb1))
 have HPl:=Hd (fun W=>plain_fff c.test p n cc W hn)
 have hfit6:fitsType types c.type (c.args.length:Int)=true→na≤6:=fun h=>by
  unfold fitsType at h
  simp only[Bool.and_eq_true,decide_eq_true_eq,beq_iff_eq] at h
  obtain⟨⟨h1,h2⟩,h3⟩:=h
  have hlt:c.type.toNat<types.length:=by omega
  rw[List.getElem?_eq_getElem hlt] at h3
  have h6:=hty _ (List.getElem_mem hlt)
  have h3:types[c.type.toNat].fields=(c.args.length:Int):=h3
  rw[hna] at h3
  omega
 have HF6:=Hd hfit6
 have hm:condOk d types (nv,nf) c=if fitsType types c.type (c.args.length:Int)&&(c.test.kind==0&&plainM false false false c.test) then (match argsOk true nv c.args with|none=>none|some v=>some (v,nf+1)) else none:=by
  unfold condOk plainM zeroE
  rw[hk]
  simp only[Bool.false_or,Bool.and_assoc]
  rfl
 obtain⟨res,hres⟩:∃res,res=condOk d types (nv,nf) c:=⟨_,rfl⟩
 have HR:Hid (res=if fitsType types c.type (c.args.length:Int)&&(c.test.kind==0&&plainM false false false c.test) then (match argsOk true nv c.args with|none=>none|some v=>some (v,nf+1)) else none):=hres.trans hm
 rw[←hres,hk]
 rw[hna] at HTy HF6
 have HFt:Hid (fitsType types c.type (c.args.length:Int)=fitsType types c.type (na:Int)):=by show _=_;rw[hna]
 obtain⟨e0,e1,e2,e3,e4,e5,e6,e7,e8,e9⟩:=cells10 hx1
 clear hb1 hx1 hw hra hna hn hm hres hk hty hfit6
 go_enter Tryz.func39,Tryz.ntmps39
 go_upto_region 1 with fail
 change Code.wp _ _ _ _ (w.alloc (.cells #[.int .u8 1,.int .i64 c.type,.slice pa na ca,.int .u8 c.test.kind,.int .u8 c.test.val.kind,.int .i64 c.test.val.num,.string c.test.val.text,.int .i64 c.test.var,.int .u8 c.test.op,.slice p n cc] 60))
 rw[←hw1]
 clear hw1
 go_wp2_with fail
 refine HTy.out.mono ?_
 rintro e W2 ⟨rfl,hb2⟩
 have HB2:=Hd (HB1.out.trans (hb2.mono HB1.out.size))
 have HW2:=Hd (HW1.out.below hb2)
 have hx2:=heap_below hb2 HX1.out (Array.getElem?_eq_some_iff.1 HX1.out).1
 have HX2:=Hd hx2
 clear hb2 e0 e1 e2 e3 e4 e5 e6 e7 e8 e9 HTy HX1 HW1 HB1
 obtain⟨e0,e1,e2,e3,e4,e5,e6,e7,e8,e9⟩:=cells10 hx2
 clear hx2
 cases hf:fitsType types c.type (na:Int) with
 | false =>
  have HRn:Hid (res=none):=by show _=_;rw[HR.out,HFt.out,hf];rfl
  clear hf
  go_wp2_with fail
  go_ret
  exact⟨Chg.of_below HB2.out,by rw[HRn.out];rfl,nv,nf,HW2.out,fun x hx=>by rw[HRn.out] at hx;cases hx⟩
 | true =>
 have h6:na≤6:=HF6.out hf
 have HFv:=Hd hf
 clear hf
 by_cases hz:c.test.kind=0
 rotate_left
 ·have HRn:Hid (res=none):=by show _=_;rw[HR.out,show (c.test.kind==0)=false by simpa using hz];simp
  go_wp2_with fail
  go_ret
  exact⟨Chg.of_below HB2.out,by rw[HRn.out];rfl,nv,nf,HW2.out,fun x hx=>by rw[HRn.out] at hx;cases hx⟩
 have HZ:Hid ((c.test.kind==0)=true):=by show _=_;simpa using hz
 have HPl2:=Hd (HPl.out W2)
 rw[hz] at e3 HX2 HPl2
 clear HPl
 go_wp2_with fail
 refine HPl2.out.mono ?_
 rintro e W3 ⟨rfl,hb3⟩
 have HB3:=Hd (HB2.out.trans (hb3.mono HB2.out.size))
 have HW3:=Hd (HW2.out.below hb3)
 have hx3:=heap_below hb3 HX2.out (Array.getElem?_eq_some_iff.1 HX2.out).1
 have HX3:=Hd hx3
 clear hb3 e0 e1 e2 e3 e4 e5 e6 e7 e8 e9 HPl2 HX2 HW2 HB2
 obtain⟨e0,e1,e2,e3,e4,e5,e6,e7,e8,e9⟩:=cells10 hx3
 clear hx3
 cases hp:plainM false false false c.test with
 | false =>
  have HRn:Hid (res=none):=by show _=_;rw[HR.out,hp];simp
  clear hp
  go_wp2_with fail
  go_ret
  exact⟨Chg.of_below HB3.out,by rw[HRn.out];rfl,nv,nf,HW3.out,fun x hx=>by rw[HRn.out] at hx;cases hx⟩
 | true =>
 have HRa2:Hid (res=(match argsOk true nv c.args with|none=>none|some v=>some (v,nf+1))):=by
  show _=_
  rw[HR.out,HFt.out,HFv.out,HZ.out,hp]
  rfl
 clear hp hz HR
 go_wp2_with fail
 go_loopw [35] (SuArgs F S d types rules vT vR nv nf true c na w #[.int .u8 1,.int .i64 c.type,.slice pa na ca,.int .u8 0,.int .u8 c.test.val.kind,.int .i64 c.test.val.num,.string c.test.val.text,.int .i64 c.test.var,.int .u8 c.test.op,.slice p n cc]) (fun i _=>na-(intOf i).toNat)
 case atStart=>exact⟨0,nv,Nat.zero_le _,rfl,rfl,by omega,by omega,HX3.out,HW3.out,Chg.of_below HB3.out⟩
 case round =>
  obtain⟨j,v,hj,rfl,hargs,hv1,hv2,hbx,hwr,hchg⟩:=hrel
  have hj0:(0:Int)≤j:=by omega
  have HAr:=Hd hargs
  have HBx:=Hd hbx
  have HWr:=Hd hwr
  have HCh:=Hd hchg
  clear hargs hbx hwr hchg e0 e1 e2 e3 e4 e5 e6 e7 e8 e9
  obtain⟨e0,e1,e2,e3,e4,e5,e6,e7,e8,e9⟩:=cells10 HBx.out
  by_cases hlt:j<na
  ·have hj1:(j:Int)<na:=by omega
   obtain⟨a,ha⟩:∃a,c.args[j]? = some a:=⟨_,List.getElem?_eq_getElem (by rw[HNa.out];exact hlt)⟩
   have hrow:argRd.row wr F c.args (.slice pa na ca):=Rd.row_keep (fun b hb o ho=>(HCh.out.block b (HF.out b hb).1 (HF.out b hb).2).trans ho) HRa.out
   have hvs:=Rd.row_at hrow ha
   rw[HNa.out] at hvs
   obtain⟨b,off,cap,vs,hev,_,_,_,_,hat,hcell⟩:=hvs
   injection hev with e1' _ e3'
   subst e1';subst e3'
   obtain⟨rfl,hfit⟩:=arg_at.1 hat
   have c0:wr.cell? ⟨b,off+j*5,none⟩=some (.int .u8 a.kind):=hcell 0 _ rfl
   have c1:wr.cell? ⟨b,off+j*5+1,none⟩=some (.int .i64 a.var):=hcell 1 _ rfl
   have c2:wr.cell? ⟨b,off+j*5+2,none⟩=some (.int .u8 a.val.kind):=hcell 2 _ rfl
   have c3:wr.cell? ⟨b,off+j*5+3,none⟩=some (.int .i64 a.val.num):=hcell 3 _ rfl
   have c4:wr.cell? ⟨b,off+j*5+4,none⟩=some (.string a.val.text):=hcell 4 _ rfl
   obtain⟨w5,hw5⟩:∃w5,w5=wr.alloc (.cells #[.int .u8 a.kind,.int .i64 a.var,.int .u8 a.val.kind,.int .i64 a.val.num,.string a.val.text] 63):=⟨_,rfl⟩
   have hb5:Below wr.heap.size wr w5:=by rw[hw5];exact (Below.refl _ wr).alloc (Nat.le_refl _) _
   have hk5:w5.heap[wr.heap.size]? = some (.cells #[.int .u8 a.kind,.int .i64 a.var,.int .u8 a.val.kind,.int .i64 a.val.num,.string a.val.text] 63 (0,0)):=by rw[hw5];exact heap_alloc_new wr _
   have HB5:=Hd hb5
   have hx5:=heap_below hb5 HBx.out (Array.getElem?_eq_some_iff.1 HBx.out).1
   have HX5:=Hd hx5
   have HA:=Hd (suArg_any F S d types rules vT vR v nf a true w5 (HWr.out.below hb5) (by omega) hfit.2.2.2.2)
   have HNx:=Hd (argsOk_take (binds:=true) ha HAr.out)
   obtain⟨k0,k1,k2,k3,k4⟩:=cells5 hk5
   obtain⟨x0,x1,x2,x3,x4,x5,x6,x7,x8,x9⟩:=cells10 hx5
   clear hrow hat hcell ha hfit hb5 hk5 hx5
   go_upto_region 9 with fail
   change Code.wp _ _ _ _ (wr.alloc (.cells #[.int .u8 a.kind,.int .i64 a.var,.int .u8 a.val.kind,.int .i64 a.val.num,.string a.val.text] 63))
   rw[←hw5]
   clear hw5 c0 c1 c2 c3 c4 e0 e1 e2 e3 e4 e5 e6 e7 e8 e9
   go_wp2_with fail
   refine HA.out.mono ?_
   rintro e W4 ⟨hch4,rfl,v',hw4,hv'⟩
   have HC4:Hid (Chg (fun b=>b=S) w W4):=(HCh.out.trans (Chg.of_below HB5.out)).trans hch4
   have hbx4:=(hch4.block _ (Array.getElem?_eq_some_iff.1 HX5.out).1 (by have:=HSlt.out;omega)).trans HX5.out
   have HW4:=Hd hw4
   clear hch4 hw4 k0 k1 k2 k3 k4 x0 x1 x2 x3 x4 x5 x6 x7 x8 x9
   cases hq:argOk true v a with
   | none =>
    have HRn:Hid (res=none):=by
     show _=_
     rw[HRa2.out,argsOk_stop c.args nv (j+1) (HNx.out.trans hq)]
    clear hq hv'
    go_wp2_with fail
    go_ret
    exact⟨HC4.out,by rw[HRn.out];rfl,v',nf,HW4.out,fun x hx=>by rw[HRn.out] at hx;cases hx⟩
   | some u =>
    have hu:=hv' u hq
    have hle:=argOk_le hq
    have HR:Hid (SuArgs F S d types rules vT vR nv nf true c na w #[.int .u8 1,.int .i64 c.type,.slice (some ⟨b,off,none⟩) na ca,.int .u8 0,.int .u8 c.test.val.kind,.int .i64 c.test.val.num,.string c.test.val.text,.int .i64 c.test.var,.int .u8 c.test.op,.slice p n cc] (.int .i64 ((j+1:Nat):Int)) W4):=
     ⟨j+1,u,by omega,rfl,HNx.out.trans hq,by omega,by omega,hbx4,by rw[←hu];exact HW4.out,HC4.out⟩
    clear hq hv' hu hle hbx4
    go_wp2_with fail
    refine⟨HR.out,?_⟩
    simp[intOf];omega
  ·have hall:argsOk true nv c.args=some v:=by
    rw[←HAr.out,List.take_of_length_le (by rw[HNa.out];omega)]
   have HRs:Hid (res=some (v,nf+1)):=by show _=_;rw[HRa2.out,hall]
   clear hall
   have hs3:wr.cell? ⟨S,3,none⟩=some (.int .i64 nf):=by rw[cell_of_row _ _ _ _ _ _ HWr.out.h];rfl
   have fz:=frozenAll HWr.out.h
   have HW9:=Hd (HWr.out.setF (nf+1))
   have HC9:Hid (Chg (fun b=>b=S) w (wr.setCell ⟨S,3,none⟩ (.int .i64 (nf+1)))):=Chg.setCell (F:=fun b=>b=S) HCh.out (p:=⟨S,3,none⟩) (Or.inl rfl) _
   go_wp2_with fail
   go_ret
   exact⟨HC9.out,by rw[HRs.out];rfl,v,nf+1,HW9.out,fun x hx=>by rw[HRs.out] at hx;injection hx with hx;rw[←hx];exact⟨rfl,rfl⟩⟩
theorem suCond_fact2 (F:Nat→Prop)(S d:Nat)(types:List CType)(rules:List CRule)(vT vR:Value)(nv nf:Int)(c:CCond)(pa p:Option Addr)(na ca n cc:Nat)(w:World)(hw:SuW F S d types rules vT vR nv nf w)(hk:c.kind=2)(hna:c.args.length=na)(hn:c.test.kids.length=n)(hra:argRd.row w F c.args (.slice pa na ca))(hnv:0≤nv∧nv≤1000)(_hnf:0≤nf∧nf≤1000)(hty:∀t∈types,t.fields≤6) :
  Calls Tryz.prog 39 #[.pointer (some ⟨S,0,none⟩),.agg #[.int .u8 c.kind,.int .i64 c.type,.slice pa na ca,.int .u8 c.test.kind,.int .u8 c.test.val.kind,.int .i64 c.test.val.num,.string c.test.val.text,.int .i64 c.test.var,.int .u8 c.test.op,.slice p n cc]] w (CondEnd F S d types rules vT vR (condOk d types (nv,nf) c) w):=by
 obtain⟨w1,hw1⟩:∃w1,w1=w.alloc (.cells #[.int .u8 2,.int .i64 c.type,.slice pa na ca,.int .u8 c.test.kind,.int .u8 c.test.val.kind,.int .i64 c.test.val.num,.string c.test.val.text,.int .i64 c.test.var,.int .u8 c.test.op,.slice p n cc] 60):=⟨_,rfl⟩
 have hb1:Below w.heap.size w w1:=by rw[hw1];exact (Below.refl _ w).alloc (Nat.le_refl _) _
 have hx1:w1.heap[w.heap.size]? = some (.cells #[.int .u8 2,.int .i64 c.type,.slice pa na ca,.int .u8 c.test.kind,.int .u8 c.test.val.kind,.int .i64 c.test.val.num,.string c.test.val.text,.int .i64 c.test.var,.int .u8 c.test.op,.slice p n cc] 60 (0,0)):=by rw[hw1];exact heap_alloc_new w _
 have HB1:=Hd hb1
 have HX1:=Hd hx1
 have HW1:=Hd (hw.below hb1)
 have HSlt:=Hd hw.lt
 have HF:=Hd (fun b (hb:F b)=>hw.f b hb)
 have HRa:=Hd hra
 have HNa:=Hd hna
 have HTy:=Hd (suTyped_any F S d types rules vT vR nv nf c.type (c.args.length:Int) w1 (hw.below hb1))
 have HPl:=Hd (fun W=>plain_fff c.test p n cc W hn)
 have hfit6:fitsType types c.type (c.args.length:Int)=true→na≤6:=fun h=>by
  unfold fitsType at h
  simp only[Bool.and_eq_true,decide_eq_true_eq,beq_iff_eq] at h
  obtain⟨⟨h1,h2⟩,h3⟩:=h
  have hlt:c.type.toNat<types.length:=by omega
  rw[List.getElem?_eq_getElem hlt] at h3
  have h6:=hty _ (List.getElem_mem hlt)
  have h3:types[c.type.toNat].fields=(c.args.length:Int):=h3
  rw[hna] at h3
  omega
 have HF6:=Hd hfit6
 have hm:condOk d types (nv,nf) c=if fitsType types c.type (c.args.length:Int)&&(c.test.kind==0&&plainM false false false c.test) then (match argsOk false nv c.args with|none=>none|some v=>some (v,nf)) else none:=by
  unfold condOk plainM zeroE
  rw[hk]
  simp only[Bool.false_or,Bool.and_assoc]
  rfl
 obtain⟨res,hres⟩:∃res,res=condOk d types (nv,nf) c:=⟨_,rfl⟩
 have HR:Hid (res=if fitsType types c.type (c.args.length:Int)&&(c.test.kind==0&&plainM false false false c.test) then (match argsOk false nv c.args with|none=>none|some v=>some (v,nf)) else none):=hres.trans hm
 rw[←hres,hk]
 rw[hna] at HTy HF6
 have HFt:Hid (fitsType types c.type (c.args.length:Int)=fitsType types c.type (na:Int)):=by show _=_;rw[hna]
 obtain⟨e0,e1,e2,e3,e4,e5,e6,e7,e8,e9⟩:=cells10 hx1
 clear hb1 hx1 hw hra hna hn hm hres hk hty hfit6
 go_enter Tryz.func39,Tryz.ntmps39
 go_upto_region 1 with fail
 change Code.wp _ _ _ _ (w.alloc (.cells #[.int .u8 2,.int .i64 c.type,.slice pa na ca,.int .u8 c.test.kind,.int .u8 c.test.val.kind,.int .i64 c.test.val.num,.string c.test.val.text,.int .i64 c.test.var,.int .u8 c.test.op,.slice p n cc] 60))
 rw[←hw1]
 clear hw1
 go_wp2_with fail
 refine HTy.out.mono ?_
 rintro e W2 ⟨rfl,hb2⟩
 have HB2:=Hd (HB1.out.trans (hb2.mono HB1.out.size))
 have HW2:=Hd (HW1.out.below hb2)
 have hx2:=heap_below hb2 HX1.out (Array.getElem?_eq_some_iff.1 HX1.out).1
 have HX2:=Hd hx2
 clear hb2 e0 e1 e2 e3 e4 e5 e6 e7 e8 e9 HTy HX1 HW1 HB1
 obtain⟨e0,e1,e2,e3,e4,e5,e6,e7,e8,e9⟩:=cells10 hx2
 clear hx2
 cases hf:fitsType types c.type (na:Int) with
 | false =>
  have HRn:Hid (res=none):=by show _=_;rw[HR.out,HFt.out,hf];rfl
  clear hf
  go_wp2_with fail
  go_ret
  exact⟨Chg.of_below HB2.out,by rw[HRn.out];rfl,nv,nf,HW2.out,fun x hx=>by rw[HRn.out] at hx;cases hx⟩
 | true =>
 have h6:na≤6:=HF6.out hf
 have HFv:=Hd hf
 clear hf
 by_cases hz:c.test.kind=0
 rotate_left
 ·have HRn:Hid (res=none):=by show _=_;rw[HR.out,show (c.test.kind==0)=false by simpa using hz];simp
  go_wp2_with fail
  go_ret
  exact⟨Chg.of_below HB2.out,by rw[HRn.out];rfl,nv,nf,HW2.out,fun x hx=>by rw[HRn.out] at hx;cases hx⟩
 have HZ:Hid ((c.test.kind==0)=true):=by show _=_;simpa using hz
 have HPl2:=Hd (HPl.out W2)
 rw[hz] at e3 HX2 HPl2
 clear HPl
 go_wp2_with fail
 refine HPl2.out.mono ?_
 rintro e W3 ⟨rfl,hb3⟩
 have HB3:=Hd (HB2.out.trans (hb3.mono HB2.out.size))
 have HW3:=Hd (HW2.out.below hb3)
 have hx3:=heap_below hb3 HX2.out (Array.getElem?_eq_some_iff.1 HX2.out).1
 have HX3:=Hd hx3
 clear hb3 e0 e1 e2 e3 e4 e5 e6 e7 e8 e9 HPl2 HX2 HW2 HB2
 obtain⟨e0,e1,e2,e3,e4,e5,e6,e7,e8,e9⟩:=cells10 hx3
 clear hx3
 cases hp:plainM false false false c.test with
 | false =>
  have HRn:Hid (res=none):=by show _=_;rw[HR.out,hp];simp
  clear hp
  go_wp2_with fail
  go_ret
  exact⟨Chg.of_below HB3.out,by rw[HRn.out];rfl,nv,nf,HW3.out,fun x hx=>by rw[HRn.out] at hx;cases hx⟩
 | true =>
 have HRa2:Hid (res=(match argsOk false nv c.args with|none=>none|some v=>some (v,nf))):=by
  show _=_
  rw[HR.out,HFt.out,HFv.out,HZ.out,hp]
  rfl
 clear hp hz HR
 go_wp2_with fail
 go_loopw [35] (SuArgs F S d types rules vT vR nv nf false c na w #[.int .u8 2,.int .i64 c.type,.slice pa na ca,.int .u8 0,.int .u8 c.test.val.kind,.int .i64 c.test.val.num,.string c.test.val.text,.int .i64 c.test.var,.int .u8 c.test.op,.slice p n cc]) (fun i _=>na-(intOf i).toNat)
 case atStart=>exact⟨0,nv,Nat.zero_le _,rfl,rfl,by omega,by omega,HX3.out,HW3.out,Chg.of_below HB3.out⟩
 case round =>
  obtain⟨j,v,hj,rfl,hargs,hv1,hv2,hbx,hwr,hchg⟩:=hrel
  have hj0:(0:Int)≤j:=by omega
  have HAr:=Hd hargs
  have HBx:=Hd hbx
  have HWr:=Hd hwr
  have HCh:=Hd hchg
  clear hargs hbx hwr hchg e0 e1 e2 e3 e4 e5 e6 e7 e8 e9
  obtain⟨e0,e1,e2,e3,e4,e5,e6,e7,e8,e9⟩:=cells10 HBx.out
  by_cases hlt:j<na
  ·have hj1:(j:Int)<na:=by omega
   obtain⟨a,ha⟩:∃a,c.args[j]? = some a:=⟨_,List.getElem?_eq_getElem (by rw[HNa.out];exact hlt)⟩
   have hrow:argRd.row wr F c.args (.slice pa na ca):=Rd.row_keep (fun b hb o ho=>(HCh.out.block b (HF.out b hb).1 (HF.out b hb).2).trans ho) HRa.out
   have hvs:=Rd.row_at hrow ha
   rw[HNa.out] at hvs
   obtain⟨b,off,cap,vs,hev,_,_,_,_,hat,hcell⟩:=hvs
   injection hev with e1' _ e3'
   subst e1';subst e3'
   obtain⟨rfl,hfit⟩:=arg_at.1 hat
   have c0:wr.cell? ⟨b,off+j*5,none⟩=some (.int .u8 a.kind):=hcell 0 _ rfl
   have c1:wr.cell? ⟨b,off+j*5+1,none⟩=some (.int .i64 a.var):=hcell 1 _ rfl
   have c2:wr.cell? ⟨b,off+j*5+2,none⟩=some (.int .u8 a.val.kind):=hcell 2 _ rfl
   have c3:wr.cell? ⟨b,off+j*5+3,none⟩=some (.int .i64 a.val.num):=hcell 3 _ rfl
   have c4:wr.cell? ⟨b,off+j*5+4,none⟩=some (.string a.val.text):=hcell 4 _ rfl
   obtain⟨w5,hw5⟩:∃w5,w5=wr.alloc (.cells #[.int .u8 a.kind,.int .i64 a.var,.int .u8 a.val.kind,.int .i64 a.val.num,.string a.val.text] 63):=⟨_,rfl⟩
   have hb5:Below wr.heap.size wr w5:=by rw[hw5];exact (Below.refl _ wr).alloc (Nat.le_refl _) _
   have hk5:w5.heap[wr.heap.size]? = some (.cells #[.int .u8 a.kind,.int .i64 a.var,.int .u8 a.val.kind,.int .i64 a.val.num,.string a.val.text] 63 (0,0)):=by rw[hw5];exact heap_alloc_new wr _
   have HB5:=Hd hb5
   have hx5:=heap_below hb5 HBx.out (Array.getElem?_eq_some_iff.1 HBx.out).1
   have HX5:=Hd hx5
   have HA:=Hd (suArg_any F S d types rules vT vR v nf a false w5 (HWr.out.below hb5) (by omega) hfit.2.2.2.2)
   have HNx:=Hd (argsOk_take (binds:=false) ha HAr.out)
   obtain⟨k0,k1,k2,k3,k4⟩:=cells5 hk5
   obtain⟨x0,x1,x2,x3,x4,x5,x6,x7,x8,x9⟩:=cells10 hx5
   clear hrow hat hcell ha hfit hb5 hk5 hx5
   go_upto_region 9 with fail
   change Code.wp _ _ _ _ (wr.alloc (.cells #[.int .u8 a.kind,.int .i64 a.var,.int .u8 a.val.kind,.int .i64 a.val.num,.string a.val.text] 63))
   rw[←hw5]
   clear hw5 c0 c1 c2 c3 c4 e0 e1 e2 e3 e4 e5 e6 e7 e8 e9
   go_wp2_with fail
   refine HA.out.mono ?_
   rintro e W4 ⟨hch4,rfl,v',hw4,hv'⟩
   have HC4:Hid (Chg (fun b=>b=S) w W4):=(HCh.out.trans (Chg.of_below HB5.out)).trans hch4
   have hbx4:=(hch4.block _ (Array.getElem?_eq_some_iff.1 HX5.out).1 (by have:=HSlt.out;omega)).trans HX5.out
   have HW4:=Hd hw4
   clear hch4 hw4 k0 k1 k2 k3 k4 x0 x1 x2 x3 x4 x5 x6 x7 x8 x9
   cases hq:argOk false v a with
   | none =>
    have HRn:Hid (res=none):=by
     show _=_
     rw[HRa2.out,argsOk_stop c.args nv (j+1) (HNx.out.trans hq)]
    clear hq hv'
    go_wp2_with fail
    go_ret
    exact⟨HC4.out,by rw[HRn.out];rfl,v',nf,HW4.out,fun x hx=>by rw[HRn.out] at hx;cases hx⟩
   | some u =>
    have hu:=hv' u hq
    have hle:=argOk_le hq
    have HR:Hid (SuArgs F S d types rules vT vR nv nf false c na w #[.int .u8 2,.int .i64 c.type,.slice (some ⟨b,off,none⟩) na ca,.int .u8 0,.int .u8 c.test.val.kind,.int .i64 c.test.val.num,.string c.test.val.text,.int .i64 c.test.var,.int .u8 c.test.op,.slice p n cc] (.int .i64 ((j+1:Nat):Int)) W4):=
     ⟨j+1,u,by omega,rfl,HNx.out.trans hq,by omega,by omega,hbx4,by rw[←hu];exact HW4.out,HC4.out⟩
    clear hq hv' hu hle hbx4
    go_wp2_with fail
    refine⟨HR.out,?_⟩
    simp[intOf];omega
  ·have hall:argsOk false nv c.args=some v:=by
    rw[←HAr.out,List.take_of_length_le (by rw[HNa.out];omega)]
   have HRs:Hid (res=some (v,nf)):=by show _=_;rw[HRa2.out,hall]
   clear hall
   go_wp2_with fail
   go_ret
   exact⟨HCh.out,by rw[HRs.out];rfl,v,nf,HWr.out,fun x hx=>by rw[HRs.out] at hx;injection hx with hx;rw[←hx];exact⟨rfl,rfl⟩⟩
theorem suCond_test (F:Nat→Prop)(S d:Nat)(types:List CType)(rules:List CRule)(vT vR:Value)(nv nf:Int)(c:CCond)(pa p:Option Addr)(na ca n cc:Nat)(w:World)(hw:SuW F S d types rules vT vR nv nf w)(hk:c.kind=3)(hna:c.args.length=na)(_hn:c.test.kids.length=n)(hfit:ExprFits c.test)(hks:ekidsAt w F d c.test.kids (.slice p n cc)) :
  Calls Tryz.prog 39 #[.pointer (some ⟨S,0,none⟩),.agg #[.int .u8 c.kind,.int .i64 c.type,.slice pa na ca,.int .u8 c.test.kind,.int .u8 c.test.val.kind,.int .i64 c.test.val.num,.string c.test.val.text,.int .i64 c.test.var,.int .u8 c.test.op,.slice p n cc]] w (CondEnd F S d types rules vT vR (condOk d types (nv,nf) c) w):=by
 obtain⟨w1,hw1⟩:∃w1,w1=w.alloc (.cells #[.int .u8 3,.int .i64 c.type,.slice pa na ca,.int .u8 c.test.kind,.int .u8 c.test.val.kind,.int .i64 c.test.val.num,.string c.test.val.text,.int .i64 c.test.var,.int .u8 c.test.op,.slice p n cc] 60):=⟨_,rfl⟩
 have hb1:Below w.heap.size w w1:=by rw[hw1];exact (Below.refl _ w).alloc (Nat.le_refl _) _
 have hx1:w1.heap[w.heap.size]? = some (.cells #[.int .u8 3,.int .i64 c.type,.slice pa na ca,.int .u8 c.test.kind,.int .u8 c.test.val.kind,.int .i64 c.test.val.num,.string c.test.val.text,.int .i64 c.test.var,.int .u8 c.test.op,.slice p n cc] 60 (0,0)):=by rw[hw1];exact heap_alloc_new w _
 have HB1:=Hd hb1
 have HX1:=Hd hx1
 have HW1:=Hd (hw.below hb1)
 have HE:=Hd (suExpr_any S nv d c.test (.slice p n cc) w1 (hw.below hb1).vars hfit (ekids_sub (fun b hb=>Nat.lt_of_lt_of_le (hw.f b hb).1 hb1.size) (ekids_keep (fun b hb o ho=>(hb1.block b (hw.f b hb).1).trans ho) hks)))
 have hm:condOk d types (nv,nf) c=if decide (c.type=0)&&decide (na=0)&&exprOk nv d c.test then some (nv,nf) else none:=by
  unfold condOk
  rw[hk,show c.args.isEmpty=decide (na=0) by rw[←hna];cases c.args<;>rfl,show (c.type==0)=decide (c.type=0) from rfl]
  rfl
 obtain⟨res,hres⟩:∃res,res=condOk d types (nv,nf) c:=⟨_,rfl⟩
 have HR:Hid (res=if decide (c.type=0)&&decide (na=0)&&exprOk nv d c.test then some (nv,nf) else none):=hres.trans hm
 rw[←hres,hk]
 obtain⟨e0,e1,e2,e3,e4,e5,e6,e7,e8,e9⟩:=cells10 hx1
 clear hb1 hx1 hw hna _hn hm hres hk hks hfit
 go_enter Tryz.func39,Tryz.ntmps39
 go_upto_region 1 with fail
 change Code.wp _ _ _ _ (w.alloc (.cells #[.int .u8 3,.int .i64 c.type,.slice pa na ca,.int .u8 c.test.kind,.int .u8 c.test.val.kind,.int .i64 c.test.val.num,.string c.test.val.text,.int .i64 c.test.var,.int .u8 c.test.op,.slice p n cc] 60))
 rw[←hw1]
 clear hw1
 by_cases h0:c.type=0
 ·by_cases ha:na=0
  ·subst ha
   have H0:Hid (c.type=0):=h0
   go_wp2_with fail
   refine HE.out.mono ?_
   rintro e W2 ⟨rfl,hb2⟩
   have HB2:=Hd (HB1.out.trans (hb2.mono HB1.out.size))
   have HW2:=Hd (HW1.out.below hb2)
   clear hb2 HE e0 e1 e2 e3 e4 e5 e6 e7 e8 e9
   cases hx:exprOk nv d c.test with
   | true =>
    have HRs:Hid (res=some (nv,nf)):=by show _=_;rw[HR.out,decide_eq_true H0.out,hx];rfl
    clear hx
    go_wp2_with fail
    go_ret
    exact⟨Chg.of_below HB2.out,by rw[HRs.out];rfl,nv,nf,HW2.out,fun x hx=>by rw[HRs.out] at hx;injection hx with hx;rw[←hx];exact⟨rfl,rfl⟩⟩
   | false =>
    have HRn:Hid (res=none):=by show _=_;rw[HR.out,hx];simp
    clear hx
    go_wp2_with fail
    go_ret
    exact⟨Chg.of_below HB2.out,by rw[HRn.out];rfl,nv,nf,HW2.out,fun x hx=>by rw[HRn.out] at hx;cases hx⟩
  ·have HRn:Hid (res=none):=by show _=_;rw[HR.out,decide_eq_false ha];simp
   have hai:¬((na:Int)=0):=by omega
   have hab:((na:Int)==0)=false:=by simpa using hai
   go_wp2_with fail
   go_ret
   exact⟨Chg.of_below HB1.out,by rw[HRn.out];rfl,nv,nf,HW1.out,fun x hx=>by rw[HRn.out] at hx;cases hx⟩
 ·have HRn:Hid (res=none):=by show _=_;rw[HR.out,decide_eq_false h0];simp
  go_wp2_with fail
  go_ret
  exact⟨Chg.of_below HB1.out,by rw[HRn.out];rfl,nv,nf,HW1.out,fun x hx=>by rw[HRn.out] at hx;cases hx⟩
theorem suCond_other (F:Nat→Prop)(S d:Nat)(types:List CType)(rules:List CRule)(vT vR:Value)(nv nf:Int)(c:CCond)(pa p:Option Addr)(na ca n cc:Nat)(w:World)(hw:SuW F S d types rules vT vR nv nf w)(hk:c.kind≠1∧c.kind≠2∧c.kind≠3) :
  Calls Tryz.prog 39 #[.pointer (some ⟨S,0,none⟩),.agg #[.int .u8 c.kind,.int .i64 c.type,.slice pa na ca,.int .u8 c.test.kind,.int .u8 c.test.val.kind,.int .i64 c.test.val.num,.string c.test.val.text,.int .i64 c.test.var,.int .u8 c.test.op,.slice p n cc]] w (CondEnd F S d types rules vT vR (condOk d types (nv,nf) c) w):=by
 have hm:condOk d types (nv,nf) c=none:=by
  unfold condOk
  rw[show (c.kind==1)=false by simpa using hk.1,show (c.kind==2)=false by simpa using hk.2.1,show (c.kind==3)=false by simpa using hk.2.2]
  rfl
 rw[hm]
 have hb1:Below w.heap.size w (w.alloc (.cells #[.int .u8 c.kind,.int .i64 c.type,.slice pa na ca,.int .u8 c.test.kind,.int .u8 c.test.val.kind,.int .i64 c.test.val.num,.string c.test.val.text,.int .i64 c.test.var,.int .u8 c.test.op,.slice p n cc] 60)):=(Below.refl _ w).alloc (Nat.le_refl _) _
 have HB1:=Hd hb1
 have HW1:=Hd (hw.below hb1)
 obtain⟨h1,h2,h3⟩:=hk
 clear hb1 hw hm
 go_enter Tryz.func39,Tryz.ntmps39
 go_wp2_with fail
 go_ret
 exact⟨Chg.of_below HB1.out,rfl,nv,nf,HW1.out,fun x hx=>by cases hx⟩
theorem suCond_any (F:Nat→Prop)(S d:Nat)(types:List CType)(rules:List CRule)(vT vR:Value)(nv nf:Int)(c:CCond)(sa s:Value)(w:World)(hw:SuW F S d types rules vT vR nv nf w)(hat:(condRd d).at_ w F c (condC c sa s))(hnv:0≤nv∧nv≤1000)(hnf:0≤nf∧nf≤1000)(hty:∀t∈types,t.fields≤6) :
  Calls Tryz.prog 39 #[.pointer (some ⟨S,0,none⟩),.agg #[.int .u8 c.kind,.int .i64 c.type,sa,.int .u8 c.test.kind,.int .u8 c.test.val.kind,.int .i64 c.test.val.num,.string c.test.val.text,.int .i64 c.test.var,.int .u8 c.test.op,s]] w (CondEnd F S d types rules vT vR (condOk d types (nv,nf) c) w):=by
 obtain⟨_,_,hfit,sa',s',he,hra,hks⟩:=cond_at.1 hat
 unfold condC exprC at he
 simp only[List.cons_append,List.nil_append,List.cons.injEq,true_and,and_true] at he
 obtain⟨rfl,rfl⟩:=he
 obtain⟨pa,ca,rfl⟩:=Rd.row_shape hra
 obtain⟨p,cc,rfl⟩:=ekids_shape hks
 by_cases h1:c.kind=1
 ·exact suCond_fact1 F S d types rules vT vR nv nf c pa p _ ca _ cc w hw h1 rfl rfl hra hnv hnf hty
 by_cases h2:c.kind=2
 ·exact suCond_fact2 F S d types rules vT vR nv nf c pa p _ ca _ cc w hw h2 rfl rfl hra hnv hnf hty
 by_cases h3:c.kind=3
 ·exact suCond_test F S d types rules vT vR nv nf c pa p _ ca _ cc w hw h3 rfl rfl hfit hks
 ·exact suCond_other F S d types rules vT vR nv nf c pa p _ ca _ cc w hw ⟨h1,h2,h3⟩
end Go.Proofs.YtglbjooofdnbkaaGreatDoor
