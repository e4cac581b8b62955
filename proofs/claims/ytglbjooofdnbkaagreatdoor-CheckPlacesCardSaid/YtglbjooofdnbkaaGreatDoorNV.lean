/- Several texts joined, each with its own sentence and conditions ahead of it: SuH, SuI. -/
import Derived.Test.YtglbjooofdnbkaaGreatDoorNU
namespace Go.Proofs.YtglbjooofdnbkaaGreatDoor
set_option maxHeartbeats 8000000
set_option maxRecDepth 100000
open Go.RowKit
theorem suAct_one (F:Nat→Prop)(S d:Nat)(types:List CType)(rules:List CRule)(vT vR:Value)(nv nf:Int)(a:CAct)(p:Option Addr)(n cc:Nat)(w:World)(hw:SuW F S d types rules vT vR nv nf w)(hn:a.exprs.length=n)(hk:a.kind=1)(hrow:(exprRd d).row w F a.exprs (.slice p n cc)):Calls Tryz.prog 42 #[.pointer (some ⟨S,0,none⟩),.agg #[.int .u8 a.kind,.int .i64 a.type,.int .i64 a.which,.slice p n cc]] w (BoolPost (actOk d types (nv,nf) a) w):=by
 obtain⟨w1,hw1⟩:∃w1,w1=w.alloc (.cells #[.int .u8 1,.int .i64 a.type,.int .i64 a.which,.slice p n cc] 66):=⟨_,rfl⟩
 have hb1:Below w.heap.size w w1:=by rw[hw1];exact (Below.refl _ w).alloc (Nat.le_refl _) _
 have hx1:w1.heap[w.heap.size]? = some (.cells #[.int .u8 1,.int .i64 a.type,.int .i64 a.which,.slice p n cc] 66 (0,0)):=by rw[hw1];exact heap_alloc_new w _
 have HB1:=Hd hb1
 have HX1:=Hd hx1
 have HW1:=Hd (hw.below hb1)
 have HEx:=Hd (fun (W:World) (h:Below w1.heap.size w1 W)=>suExprs_any S nv d (exprOk nv d) (suExpr_any S nv d) a.exprs (.slice p n cc) W ((hw.below hb1).below h).vars (Rd.row_sub (fun b hb=>Nat.lt_of_lt_of_le (hw.f b hb).1 (Nat.le_trans hb1.size h.size)) (Rd.row_keep (fun b hb o ho=>((hb1.trans (h.mono hb1.size)).block b (hw.f b hb).1).trans ho) hrow)))
 have HTy:=Hd (suTyped_any F S d types rules vT vR nv nf a.type (n:Int) w1 (hw.below hb1))
 have hE:a.exprs.isEmpty=decide (n=0):=by rw[←hn];cases a.exprs<;>rfl
 have hm:actOk d types (nv,nf) a=(decide (a.which=0)&&fitsType types a.type (n:Int)&&a.exprs.all (exprOk nv d)):=by
  unfold actOk
  rw[hk,hn,show (a.which==0)=decide (a.which=0) from rfl];rfl
 obtain⟨res,hres⟩:∃res,res=actOk d types (nv,nf) a:=⟨_,rfl⟩
 have HR:Hid (res=(decide (a.which=0)&&fitsType types a.type (n:Int)&&a.exprs.all (exprOk nv d))):=hres.trans hm
 rw[←hres,hk]
 obtain⟨e0,e1,e2,e3⟩:=cells4b hx1
 clear hb1 hx1 hw hn hm hres hE hk
 go_enter Tryz.func42,Tryz.ntmps42
 go_upto_region 1 with fail
 change Code.wp _ _ _ _ (w.alloc (.cells #[.int .u8 1,.int .i64 a.type,.int .i64 a.which,.slice p n cc] 66))
 rw[←hw1]
 clear hw1
 by_cases h0:a.which=0
 ·have H0:=Hd h0
  go_wp2_with fail
  refine HTy.out.mono ?_
  rintro e W2 ⟨rfl,hb2⟩
  have HB2:=Hd (HB1.out.trans (hb2.mono HB1.out.size))
  have HEx2:=Hd (HEx.out W2 hb2)
  have hx2:=heap_below hb2 HX1.out (Array.getElem?_eq_some_iff.1 HX1.out).1
  clear hb2 HTy HEx e0 e1 e2 e3
  obtain⟨e0,e1,e2,e3⟩:=cells4b hx2
  clear hx2
  cases hf:fitsType types a.type (n:Int) with
  | false =>
   have HRn:Hid (res=false):=by show _=_;rw[HR.out,hf];simp
   clear hf
   go_wp2_with fail
   go_ret
   exact⟨by rw[HRn.out];rfl,HB2.out⟩
  | true =>
   have HRn:Hid (res=a.exprs.all (exprOk nv d)):=by show _=_;rw[HR.out,hf,decide_eq_true H0.out];rfl
   clear hf
   go_wp2_with fail
   refine HEx2.out.mono ?_
   rintro e W3 ⟨rfl,hb3⟩
   have HB3:=Hd (HB2.out.trans (hb3.mono HB2.out.size))
   clear hb3 HEx2 e0 e1 e2 e3
   go_wp2_with fail
   go_ret
   exact⟨by rw[HRn.out];rfl,HB3.out⟩
 ·have HRn:Hid (res=false):=by show _=_;rw[HR.out,decide_eq_false h0];rfl
  go_wp2_with fail
  go_ret
  exact⟨by rw[HRn.out];rfl,HB1.out⟩
theorem suAct_three (F:Nat→Prop)(S d:Nat)(types:List CType)(rules:List CRule)(vT vR:Value)(nv nf:Int)(a:CAct)(p:Option Addr)(n cc:Nat)(w:World)(hw:SuW F S d types rules vT vR nv nf w)(hn:a.exprs.length=n)(hk:a.kind=3)(hrow:(exprRd d).row w F a.exprs (.slice p n cc)):Calls Tryz.prog 42 #[.pointer (some ⟨S,0,none⟩),.agg #[.int .u8 a.kind,.int .i64 a.type,.int .i64 a.which,.slice p n cc]] w (BoolPost (actOk d types (nv,nf) a) w):=by
 obtain⟨w1,hw1⟩:∃w1,w1=w.alloc (.cells #[.int .u8 3,.int .i64 a.type,.int .i64 a.which,.slice p n cc] 66):=⟨_,rfl⟩
 have hb1:Below w.heap.size w w1:=by rw[hw1];exact (Below.refl _ w).alloc (Nat.le_refl _) _
 have hx1:w1.heap[w.heap.size]? = some (.cells #[.int .u8 3,.int .i64 a.type,.int .i64 a.which,.slice p n cc] 66 (0,0)):=by rw[hw1];exact heap_alloc_new w _
 have HB1:=Hd hb1
 have HX1:=Hd hx1
 have HW1:=Hd (hw.below hb1)
 have HEx:=Hd (fun (W:World) (h:Below w1.heap.size w1 W)=>suExprs_any S nv d (exprOk nv d) (suExpr_any S nv d) a.exprs (.slice p n cc) W ((hw.below hb1).below h).vars (Rd.row_sub (fun b hb=>Nat.lt_of_lt_of_le (hw.f b hb).1 (Nat.le_trans hb1.size h.size)) (Rd.row_keep (fun b hb o ho=>((hb1.trans (h.mono hb1.size)).block b (hw.f b hb).1).trans ho) hrow)))
 have hE:a.exprs.isEmpty=decide (n=0):=by rw[←hn];cases a.exprs<;>rfl
 have hm:actOk d types (nv,nf) a=(decide (a.type=0)&&decide (a.which=0)&&!decide (n=0)&&a.exprs.all (exprOk nv d)):=by
  unfold actOk
  rw[hk,hE,show (a.which==0)=decide (a.which=0) from rfl,show (a.type==0)=decide (a.type=0) from rfl];rfl
 obtain⟨res,hres⟩:∃res,res=actOk d types (nv,nf) a:=⟨_,rfl⟩
 have HR:Hid (res=(decide (a.type=0)&&decide (a.which=0)&&!decide (n=0)&&a.exprs.all (exprOk nv d))):=hres.trans hm
 rw[←hres,hk]
 obtain⟨e0,e1,e2,e3⟩:=cells4b hx1
 clear hb1 hx1 hw hn hm hres hE hk
 go_enter Tryz.func42,Tryz.ntmps42
 go_upto_region 1 with fail
 change Code.wp _ _ _ _ (w.alloc (.cells #[.int .u8 3,.int .i64 a.type,.int .i64 a.which,.slice p n cc] 66))
 rw[←hw1]
 clear hw1
 by_cases h0:a.type=0
 ·by_cases h1:a.which=0
  ·by_cases h2:n=0
   ·have HRn:Hid (res=false):=by show _=_;rw[HR.out,decide_eq_true h2];simp
    have h2i:¬(0:Int)<(n:Int):=by omega
    go_wp2_with fail
    go_ret
    exact⟨by rw[HRn.out];rfl,HB1.out⟩
   ·have HRn:Hid (res=a.exprs.all (exprOk nv d)):=by show _=_;rw[HR.out,decide_eq_true h0,decide_eq_true h1,decide_eq_false h2];rfl
    have h2i:(0:Int)<(n:Int):=by omega
    have HEx2:=Hd (HEx.out w1 (Below.refl _ _))
    go_wp2_with fail
    refine HEx2.out.mono ?_
    rintro e W3 ⟨rfl,hb3⟩
    have HB3:=Hd (HB1.out.trans (hb3.mono HB1.out.size))
    clear hb3 HEx2 HEx e0 e1 e2 e3
    go_wp2_with fail
    go_ret
    exact⟨by rw[HRn.out];rfl,HB3.out⟩
  ·have HRn:Hid (res=false):=by show _=_;rw[HR.out,decide_eq_false h1];simp
   go_wp2_with fail
   go_ret
   exact⟨by rw[HRn.out];rfl,HB1.out⟩
 ·have HRn:Hid (res=false):=by show _=_;rw[HR.out,decide_eq_false h0];simp
  go_wp2_with fail
  go_ret
  exact⟨by rw[HRn.out];rfl,HB1.out⟩
theorem suAct_four (F:Nat→Prop)(S d:Nat)(types:List CType)(rules:List CRule)(vT vR:Value)(nv nf:Int)(a:CAct)(p:Option Addr)(n cc:Nat)(w:World)(hw:SuW F S d types rules vT vR nv nf w)(hn:a.exprs.length=n)(hk:a.kind=4):Calls Tryz.prog 42 #[.pointer (some ⟨S,0,none⟩),.agg #[.int .u8 a.kind,.int .i64 a.type,.int .i64 a.which,.slice p n cc]] w (BoolPost (actOk d types (nv,nf) a) w):=by
 obtain⟨w1,hw1⟩:∃w1,w1=w.alloc (.cells #[.int .u8 4,.int .i64 a.type,.int .i64 a.which,.slice p n cc] 66):=⟨_,rfl⟩
 have hb1:Below w.heap.size w w1:=by rw[hw1];exact (Below.refl _ w).alloc (Nat.le_refl _) _
 have hx1:w1.heap[w.heap.size]? = some (.cells #[.int .u8 4,.int .i64 a.type,.int .i64 a.which,.slice p n cc] 66 (0,0)):=by rw[hw1];exact heap_alloc_new w _
 have HB1:=Hd hb1
 have HX1:=Hd hx1
 have HW1:=Hd (hw.below hb1)
 have hE:a.exprs.isEmpty=decide (n=0):=by rw[←hn];cases a.exprs<;>rfl
 have hm:actOk d types (nv,nf) a=(decide (a.type=0)&&decide (a.which=0)&&decide (n=0)):=by
  unfold actOk
  rw[hk,hE,show (a.which==0)=decide (a.which=0) from rfl,show (a.type==0)=decide (a.type=0) from rfl];rfl
 obtain⟨res,hres⟩:∃res,res=actOk d types (nv,nf) a:=⟨_,rfl⟩
 have HR:Hid (res=(decide (a.type=0)&&decide (a.which=0)&&decide (n=0))):=hres.trans hm
 rw[←hres,hk]
 obtain⟨e0,e1,e2,e3⟩:=cells4b hx1
 clear hb1 hx1 hw hn hm hres hE hk
 go_enter Tryz.func42,Tryz.ntmps42
 go_upto_region 1 with fail
 change Code.wp _ _ _ _ (w.alloc (.cells #[.int .u8 4,.int .i64 a.type,.int .i64 a.which,.slice p n cc] 66))
 rw[←hw1]
 clear hw1
 by_cases h0:a.type=0
 ·by_cases h1:a.which=0
  ·by_cases h2:n=0
   ·have HRn:Hid (res=true):=by show _=_;rw[HR.out,decide_eq_true h0,decide_eq_true h1,decide_eq_true h2];rfl
    subst h2
    go_wp2_with fail
    go_ret
    exact⟨by rw[HRn.out];rfl,HB1.out⟩
   ·have HRn:Hid (res=false):=by show _=_;rw[HR.out,decide_eq_false h2];simp
    have h2i:¬((n:Int)=0):=by omega
    have h2b:((n:Int)==0)=false:=by simpa using h2i
    go_wp2_with fail
    go_ret
    exact⟨by rw[HRn.out];first|rfl|simp[h2],HB1.out⟩
  ·have HRn:Hid (res=false):=by show _=_;rw[HR.out,decide_eq_false h1];simp
   go_wp2_with fail
   go_ret
   exact⟨by rw[HRn.out];rfl,HB1.out⟩
 ·have HRn:Hid (res=false):=by show _=_;rw[HR.out,decide_eq_false h0];simp
  go_wp2_with fail
  go_ret
  exact⟨by rw[HRn.out];rfl,HB1.out⟩
theorem suAct_other (F:Nat→Prop)(S d:Nat)(types:List CType)(rules:List CRule)(vT vR:Value)(nv nf:Int)(a:CAct)(p:Option Addr)(n cc:Nat)(w:World)(hw:SuW F S d types rules vT vR nv nf w)(hn:a.exprs.length=n)(hk:a.kind≠1∧a.kind≠2∧a.kind≠3∧a.kind≠4):Calls Tryz.prog 42 #[.pointer (some ⟨S,0,none⟩),.agg #[.int .u8 a.kind,.int .i64 a.type,.int .i64 a.which,.slice p n cc]] w (BoolPost (actOk d types (nv,nf) a) w):=by
 obtain⟨w1,hw1⟩:∃w1,w1=w.alloc (.cells #[.int .u8 a.kind,.int .i64 a.type,.int .i64 a.which,.slice p n cc] 66):=⟨_,rfl⟩
 have hb1:Below w.heap.size w w1:=by rw[hw1];exact (Below.refl _ w).alloc (Nat.le_refl _) _
 have hx1:w1.heap[w.heap.size]? = some (.cells #[.int .u8 a.kind,.int .i64 a.type,.int .i64 a.which,.slice p n cc] 66 (0,0)):=by rw[hw1];exact heap_alloc_new w _
 have HB1:=Hd hb1
 have HX1:=Hd hx1
 have HW1:=Hd (hw.below hb1)
 have hE:a.exprs.isEmpty=decide (n=0):=by rw[←hn];cases a.exprs<;>rfl
 have hm:actOk d types (nv,nf) a=(false):=by
  unfold actOk
  rw[show (a.kind==1)=false by simpa using hk.1,show (a.kind==2)=false by simpa using hk.2.1,show (a.kind==3)=false by simpa using hk.2.2.1,show (a.kind==4)=false by simpa using hk.2.2.2];rfl
 obtain⟨res,hres⟩:∃res,res=actOk d types (nv,nf) a:=⟨_,rfl⟩
 have HR:Hid (res=(false)):=hres.trans hm
 rw[←hres]
 obtain⟨e0,e1,e2,e3⟩:=cells4b hx1
 clear hb1 hx1 hw hn hm hres hE
 go_enter Tryz.func42,Tryz.ntmps42
 go_upto_region 1 with fail
 change Code.wp _ _ _ _ (w.alloc (.cells #[.int .u8 a.kind,.int .i64 a.type,.int .i64 a.which,.slice p n cc] 66))
 rw[←hw1]
 clear hw1
 obtain⟨h1,h2,h3,h4⟩:=hk
 go_wp2_with fail
 go_ret
 exact⟨by rw[HR.out];rfl,HB1.out⟩
theorem suAct_two (F:Nat→Prop)(S d:Nat)(types:List CType)(rules:List CRule)(vT vR:Value)(nv nf:Int)(a:CAct)(p:Option Addr)(n cc:Nat)(w:World)(hw:SuW F S d types rules vT vR nv nf w)(hn:a.exprs.length=n)(hk:a.kind=2):Calls Tryz.prog 42 #[.pointer (some ⟨S,0,none⟩),.agg #[.int .u8 a.kind,.int .i64 a.type,.int .i64 a.which,.slice p n cc]] w (BoolPost (actOk d types (nv,nf) a) w):=by
 obtain⟨w1,hw1⟩:∃w1,w1=w.alloc (.cells #[.int .u8 2,.int .i64 a.type,.int .i64 a.which,.slice p n cc] 66):=⟨_,rfl⟩
 have hb1:Below w.heap.size w w1:=by rw[hw1];exact (Below.refl _ w).alloc (Nat.le_refl _) _
 have hx1:w1.heap[w.heap.size]? = some (.cells #[.int .u8 2,.int .i64 a.type,.int .i64 a.which,.slice p n cc] 66 (0,0)):=by rw[hw1];exact heap_alloc_new w _
 have HB1:=Hd hb1
 have HX1:=Hd hx1
 have HW1:=Hd (hw.below hb1)
 have hE:a.exprs.isEmpty=decide (n=0):=by rw[←hn];cases a.exprs<;>rfl
 have hm:actOk d types (nv,nf) a=(decide (a.type=0)&&decide (n=0)&&decide (0≤a.which)&&decide (a.which<nf)):=by
  unfold actOk
  rw[hk,hE,show (a.type==0)=decide (a.type=0) from rfl];rfl
 obtain⟨res,hres⟩:∃res,res=actOk d types (nv,nf) a:=⟨_,rfl⟩
 have HR:Hid (res=(decide (a.type=0)&&decide (n=0)&&decide (0≤a.which)&&decide (a.which<nf))):=hres.trans hm
 rw[←hres,hk]
 obtain⟨e0,e1,e2,e3⟩:=cells4b hx1
 clear hb1 hx1 hw hn hm hres hE hk
 go_enter Tryz.func42,Tryz.ntmps42
 go_upto_region 1 with fail
 change Code.wp _ _ _ _ (w.alloc (.cells #[.int .u8 2,.int .i64 a.type,.int .i64 a.which,.slice p n cc] 66))
 rw[←hw1]
 clear hw1
 have hs3:w1.cell? ⟨S,3,none⟩=some (.int .i64 nf):=by rw[cell_of_row _ _ _ _ _ _ HW1.out.h];rfl
 by_cases h0:a.type=0
 ·have h0b:decide (a.type=0)=true:=decide_eq_true h0
  have h0c:(a.type==0)=true:=by simpa using h0
  by_cases h1:n=0
  ·by_cases h2:0≤a.which
   ·have h2b:decide (0≤a.which)=true:=decide_eq_true h2
    have HRn:Hid (res=decide (a.which<nf)):=by show _=_;rw[HR.out,h0b,decide_eq_true h1,h2b];rfl
    subst h1
    have E1:=fun x:Wb w1=>x.cell e1
    have E2:=fun x:Wb w1=>x.cell e2
    have E3:=fun x:Wb w1=>x.cell e3
    have V3:=fun x:Wb w1=>x.cell hs3
    go_upto_region 5 with fail
    clear e0 e1 e2 e3 hs3
    refine wp_region_below (by kernel_rfl) (by kernel_rfl) ?_
    repeat (go_big_quiet_step (fail))
    refine wpQuiet_nil ?_
    intro W2 hw'
    have hb2:=wb_below hw'
    have HB2:=Hd (HB1.out.trans (hb2.mono HB1.out.size))
    clear hw' hb2 E1 E2 E3 V3
    go_wp2_with fail
    go_ret
    exact⟨by rw[HRn.out];first|rfl|simp_all,HB2.out⟩
   ·have h2b:decide (0≤a.which)=false:=decide_eq_false h2
    have HRn:Hid (res=false):=by show _=_;rw[HR.out,h2b];simp
    subst h1
    have E1:=fun x:Wb w1=>x.cell e1
    have E2:=fun x:Wb w1=>x.cell e2
    have E3:=fun x:Wb w1=>x.cell e3
    have V3:=fun x:Wb w1=>x.cell hs3
    go_upto_region 5 with fail
    clear e0 e1 e2 e3 hs3
    refine wp_region_below (by kernel_rfl) (by kernel_rfl) ?_
    repeat (go_big_quiet_step (fail))
    refine wpQuiet_nil ?_
    intro W2 hw'
    have hb2:=wb_below hw'
    have HB2:=Hd (HB1.out.trans (hb2.mono HB1.out.size))
    clear hw' hb2 E1 E2 E3 V3
    go_wp2_with fail
    go_ret
    exact⟨by rw[HRn.out];first|rfl|simp_all,HB2.out⟩
  ·have HRn:Hid (res=false):=by show _=_;rw[HR.out,decide_eq_false h1];simp
   have h1i:¬((n:Int)=0):=by omega
   have h1b:((n:Int)==0)=false:=by simpa using h1i
   have h1c:decide ((n:Int)=0)=false:=decide_eq_false h1i
   have E1:=fun x:Wb w1=>x.cell e1
   have E2:=fun x:Wb w1=>x.cell e2
   have E3:=fun x:Wb w1=>x.cell e3
   have V3:=fun x:Wb w1=>x.cell hs3
   go_upto_region 5 with fail
   clear e0 e1 e2 e3 hs3
   refine wp_region_below (by kernel_rfl) (by kernel_rfl) ?_
   repeat (go_big_quiet_step (fail))
   refine wpQuiet_nil ?_
   intro W2 hw'
   have hb2:=wb_below hw'
   have HB2:=Hd (HB1.out.trans (hb2.mono HB1.out.size))
   clear hw' hb2 E1 E2 E3 V3
   go_wp2_with fail
   go_ret
   exact⟨by rw[HRn.out];first|rfl|simp_all,HB2.out⟩
 ·have h0b:decide (a.type=0)=false:=decide_eq_false h0
  have h0c:(a.type==0)=false:=by simpa using h0
  have HRn:Hid (res=false):=by show _=_;rw[HR.out,h0b];rfl
  have E1:=fun x:Wb w1=>x.cell e1
  have E2:=fun x:Wb w1=>x.cell e2
  have E3:=fun x:Wb w1=>x.cell e3
  have V3:=fun x:Wb w1=>x.cell hs3
  go_upto_region 5 with fail
  clear e0 e1 e2 e3 hs3
  refine wp_region_below (by kernel_rfl) (by kernel_rfl) ?_
  repeat (go_big_quiet_step (fail))
  refine wpQuiet_nil ?_
  intro W2 hw'
  have hb2:=wb_below hw'
  have HB2:=Hd (HB1.out.trans (hb2.mono HB1.out.size))
  clear hw' hb2 E1 E2 E3 V3
  go_wp2_with fail
  go_ret
  exact⟨by rw[HRn.out];first|rfl|simp_all,HB2.out⟩
theorem suAct_any (F:Nat→Prop)(S d:Nat)(types:List CType)(rules:List CRule)(vT vR:Value)(nv nf:Int)(a:CAct)(s:Value)(w:World)(hw:SuW F S d types rules vT vR nv nf w)(hrow:(exprRd d).row w F a.exprs s) :
  Calls Tryz.prog 42 #[.pointer (some ⟨S,0,none⟩),.agg #[.int .u8 a.kind,.int .i64 a.type,.int .i64 a.which,s]] w (BoolPost (actOk d types (nv,nf) a) w):=by
 obtain⟨p,cc,rfl⟩:=Rd.row_shape hrow
 by_cases h1:a.kind=1
 ·exact suAct_one F S d types rules vT vR nv nf a p _ cc w hw rfl h1 hrow
 by_cases h2:a.kind=2
 ·exact suAct_two F S d types rules vT vR nv nf a p _ cc w hw rfl h2
 by_cases h3:a.kind=3
 ·exact suAct_three F S d types rules vT vR nv nf a p _ cc w hw rfl h3 hrow
 by_cases h4:a.kind=4
 ·exact suAct_four F S d types rules vT vR nv nf a p _ cc w hw rfl h4
 ·exact suAct_other F S d types rules vT vR nv nf a p _ cc w hw rfl ⟨h1,h2,h3,h4⟩
theorem acts1_any (F:Nat→Prop)(S d:Nat)(types:List CType)(rules:List CRule)(vT vR:Value)(nv nf:Int)(a:CAct)(s:Value)(T:Nat)(w:World)(hw:SuW F S d types rules vT vR nv nf w)(ht:w.cell? ⟨T,0,none⟩=some (.pointer (some ⟨S,0,none⟩)))(hr:(exprRd d).row w F a.exprs s) :
  Calls Tryz.prog 41 #[.agg #[.int .u8 a.kind,.int .i64 a.type,.int .i64 a.which,s],.pointer (some ⟨T,0,none⟩)] w (BoolPost (!actOk d types (nv,nf) a) w):=by
 obtain⟨p,c,hs⟩:=Rd.row_shape hr
 have hb:Below w.heap.size w (w.alloc (.cells #[.int .u8 a.kind,.int .i64 a.type,.int .i64 a.which,s] 66)):=(Below.refl _ w).alloc (Nat.le_refl _) _
 have ht2:=(hb.cell (p:=⟨T,0,none⟩) (blk_lt ht)).trans ht
 have HE:=Hd (suAct_any F S d types rules vT vR nv nf a s _ (hw.below hb) (Rd.row_keep (fun b hb2 o ho=>(hb.block b (hw.f b hb2).1).trans ho) hr))
 have HB:=Hd hb
 obtain⟨nk,hnk⟩:∃nk,a.exprs.length=nk:=⟨_,rfl⟩
 rw[hnk] at hs
 subst hs
 clear hb hr hw hnk
 go_enter Tryz.func41,Tryz.ntmps41
 go_wp2_with fail
 refine HE.out.mono ?_
 rintro e2 W2 ⟨rfl,hb2⟩
 have HB2:=Hd (HB.out.trans (hb2.mono HB.out.size))
 clear hb2 HE
 go_wp2_with fail
 go_ret
 exact⟨rfl,HB2.out⟩
theorem idxA_any (F:Nat→Prop)(S d:Nat)(types:List CType)(rules:List CRule)(vT vR:Value)(nv nf:Int)(l:List CAct)(v:Value)(T:Nat)(w:World)(hw:SuW F S d types rules vT vR nv nf w)(ht:w.cell? ⟨T,0,none⟩=some (.pointer (some ⟨S,0,none⟩)))(hl:(actRd d).row w F l v) :
  Calls Tryz.prog 70 #[v,.func (.func 41) #[] #[.pointer (some ⟨T,0,none⟩)]] w (fun e w'=>e=.returned (.int .i64 (idxI (idxG (fun x=>!actOk d types (nv,nf) x) l 0)))∧Below w.heap.size w w'):=by
 obtain⟨p,c,hvv⟩:=Rd.row_shape hl
 have hmx:=Rd.row_len hl
 subst hvv
 obtain⟨n,hn⟩:∃n,l.length=n:=⟨_,rfl⟩
 have HV:=Hd (fun W (hW:Below w.heap.size w W)=>Rd.row_below hl (fun b hb=>(hw.f b hb).1) hW)
 have HTx:=Hd (fun W (hW:Below w.heap.size w W)=>(hW.cell (p:=⟨T,0,none⟩) (blk_lt ht)).trans ht)
 have HNv:=Hd (fun W (hW:Below w.heap.size w W)=>hw.below hW)
 obtain⟨q,hq⟩:∃q:CAct→Bool,q=fun x=>!actOk d types (nv,nf) x:=⟨_,rfl⟩
 have HQe:Hid (∀x,q x = !actOk d types (nv,nf) x):=fun x=>by rw[hq]
 rw[←hq]
 rw[hn] at HV hmx ⊢
 have HN:=Hd hn
 have hn3:(n:Int)≤9223372036854775807:=by unfold maxLen at hmx;omega
 clear hl hn ht hw hq hmx
 go_enter Tryz.func70,Tryz.ntmps70
 go_wp2
 go_loopw [8] (FirstG w n l q) (fun i _=>n-(intOf i).toNat)
 case atStart=>exact⟨0,Nat.zero_le _,rfl,Below.refl _ _,fun j z hj=>by omega⟩
 case round =>
  obtain⟨k,hk,rfl,hb,hno⟩:=hrel
  have hk0:(0:Int)≤k:=by omega
  have HB:=Hd hb
  have HNo:=Hd hno
  clear hno
  by_cases hlt:k<n
  ·have hk1:(k:Int)<n:=by omega
   obtain⟨a,ha⟩:∃a,l[k]? = some a:=⟨_,List.getElem?_eq_getElem (by rw[HN.out];exact hlt)⟩
   have hrow:=HV.out wr hb
   have hvs:=Rd.row_at hrow ha
   rw[HN.out] at hvs
   obtain⟨b,off,cap,vs,hev,_,_,_,_,hat,hcell⟩:=hvs
   rw[actRd_n] at hcell
   injection hev with e1 _ e3
   subst e1;subst e3
   obtain⟨_,_,_,s,rfl,hrr⟩:=act_at.1 hat
   have hsh:=Rd.row_shape hrr
   obtain⟨ps,cs',hs⟩:=hsh
   obtain⟨nk,hnk⟩:∃nk,a.exprs.length=nk:=⟨_,rfl⟩
   rw[hnk] at hs
   subst hs
   have c0:wr.cell? ⟨b,off+k*4,none⟩=some (.int .u8 a.kind):=hcell 0 _ rfl
   have c1:wr.cell? ⟨b,off+k*4+1,none⟩=some (.int .i64 a.type):=hcell 1 _ rfl
   have c2:wr.cell? ⟨b,off+k*4+2,none⟩=some (.int .i64 a.which):=hcell 2 _ rfl
   have c3:wr.cell? ⟨b,off+k*4+3,none⟩=some (.slice ps nk cs'):=hcell 3 _ rfl
   have HK:=Hd (acts1_any F S d types rules vT vR nv nf a (.slice ps nk cs') T wr (HNv.out wr hb) (HTx.out wr hb) hrr)
   have HKx:Hid (l[k]? = some a):=ha
   rw[←HQe.out a] at HK
   clear hrow hat hcell ha hb hrr hnk
   go_wp2_with fail
   refine HK.out.mono ?_
   rintro e2 w1 ⟨rfl,hb1⟩
   have HB1:=Hd (HB.out.trans (hb1.mono HB.out.size))
   clear hb1 c0 c1 c2 c3
   cases hq:q a with
   | true =>
    have HH:=Hd (idxG_hit q l 0 k a HKx.out hq HNo.out)
    clear hq
    go_wp2_with fail
    go_ret
    exact⟨by rw[HH.out,Nat.zero_add];rfl,HB1.out⟩
   | false =>
    have HQ:=Hd hq
    clear hq
    go_wp2_with fail
    exact⟨⟨k+1,by omega,by go_num,HB1.out,fun j z hj hz=>by
     by_cases h:j=k
     ·subst h
      rw[HKx.out] at hz
      injection hz with hz
      rw[←hz];exact HQ.out
     ·exact HNo.out j z (by omega) hz⟩,by simp[intOf];omega⟩
  ·have HH:Hid (idxG q l 0=none):=idxG_miss _ l 0 (fun j z hz=>HNo.out j z (by
    have:=(List.getElem?_eq_some_iff.1 hz).1
    rw[HN.out] at this
    omega) hz)
   clear hb
   go_wp2_with fail
   go_ret
   exact⟨by rw[HH.out];rfl,HB.out⟩
theorem contA_any (F:Nat→Prop)(S d:Nat)(types:List CType)(rules:List CRule)(vT vR:Value)(nv nf:Int)(l:List CAct)(v:Value)(T:Nat)(w:World)(hw:SuW F S d types rules vT vR nv nf w)(ht:w.cell? ⟨T,0,none⟩=some (.pointer (some ⟨S,0,none⟩)))(hl:(actRd d).row w F l v) :
  Calls Tryz.prog 40 #[v,.func (.func 41) #[] #[.pointer (some ⟨T,0,none⟩)]] w (BoolPost (!(l.all (actOk d types (nv,nf)))) w):=by
 have HI:=Hd (idxA_any F S d types rules vT vR nv nf l v T w hw ht hl)
 rw[←idxG_all (actOk d types (nv,nf)) l 0]
 obtain⟨p,c,hvv⟩:=Rd.row_shape hl
 obtain⟨n,hn⟩:∃n,l.length=n:=⟨_,rfl⟩
 rw[hn] at hvv
 subst hvv
 clear hl ht hw hn
 cases hi:idxG (fun x=>!actOk d types (nv,nf) x) l 0 with
 | none =>
  rw[hi] at HI
  have HI:Hid (Calls Tryz.prog 70 #[.slice p n c,.func (.func 41) #[] #[.pointer (some ⟨T,0,none⟩)]] w (fun e w'=>e=.returned (.int .i64 (-1))∧Below w.heap.size w w')):=HI
  clear hi
  go_enter Tryz.func40,Tryz.ntmps40
  go_wp2_with fail
  refine HI.out.mono ?_
  rintro e w1 ⟨rfl,hb1⟩
  have HB:=Hd hb1
  clear hb1 HI
  go_wp2_with fail
  go_ret
  exact⟨rfl,HB.out⟩
 | some k =>
  rw[hi] at HI
  have HI:Hid (Calls Tryz.prog 70 #[.slice p n c,.func (.func 41) #[] #[.pointer (some ⟨T,0,none⟩)]] w (fun e w'=>e=.returned (.int .i64 (k:Int))∧Below w.heap.size w w')):=HI
  have hk1:(0:Int)≤k:=by omega
  clear hi
  go_enter Tryz.func40,Tryz.ntmps40
  go_wp2_with fail
  refine HI.out.mono ?_
  rintro e w1 ⟨rfl,hb1⟩
  have HB:=Hd hb1
  clear hb1 HI
  go_wp2_with fail
  go_ret
  exact⟨rfl,HB.out⟩
end Go.Proofs.YtglbjooofdnbkaaGreatDoor
