/- Several texts joined, each with its own sentence and conditions ahead of it: SuD, SuE, SuF. -/
import Derived.Test.YtglbjooofdnbkaaGreatDoorNR
import Derived.Test.YtglbjooofdnbkaaGreatDoorMF
namespace Go.Proofs.YtglbjooofdnbkaaGreatDoor
set_option maxHeartbeats 8000000
set_option maxRecDepth 100000
open Go.RowKit
theorem su_const (S:Nat)(nv:Int)(e:CExpr)(p:Option Addr)(n c:Nat)(w:World)(hk:e.kind=1)(hn:e.kids.length=n)(hfit:ExprFits e) :
  Calls Tryz.prog 69 #[.pointer (some ⟨S,0,none⟩),.agg #[.int .u8 e.kind,.int .u8 e.val.kind,.int .i64 e.val.num,.string e.val.text,.int .i64 e.var,.int .u8 e.op,.slice p n c]] w (BoolPost (exprTop nv e) w):=by
 have hm:exprTop nv e=(plainM true false false e&&valOk e.val):=by
  unfold exprTop plainM
  rw[hk]
  cases (e.var==0)<;>cases (e.op==0)<;>cases e.kids.isEmpty<;>cases valOk e.val<;>rfl
 rw[hm]
 have hb1:Below w.heap.size w (w.alloc (.cells #[.int .u8 1,.int .u8 e.val.kind,.int .i64 e.val.num,.string e.val.text,.int .i64 e.var,.int .u8 e.op,.slice p n c] 58)):=(Below.refl _ w).alloc (Nat.le_refl _) _
 have HB1:=Hd hb1
 have HX1:Hid ((w.alloc (.cells #[.int .u8 1,.int .u8 e.val.kind,.int .i64 e.val.num,.string e.val.text,.int .i64 e.var,.int .u8 e.op,.slice p n c] 58)).heap[w.heap.size]? = some (.cells #[.int .u8 1,.int .u8 e.val.kind,.int .i64 e.val.num,.string e.val.text,.int .i64 e.var,.int .u8 e.op,.slice p n c] 58 (0,0))):=heap_alloc_new w _
 have HP:Hid (Calls Tryz.prog 67 #[.agg #[.int .u8 1,.int .u8 e.val.kind,.int .i64 e.val.num,.string e.val.text,.int .i64 e.var,.int .u8 e.op,.slice p n c],.bool true,.bool false,.bool false] (w.alloc (.cells #[.int .u8 1,.int .u8 e.val.kind,.int .i64 e.val.num,.string e.val.text,.int .i64 e.var,.int .u8 e.op,.slice p n c] 58)) (BoolPost (plainM true false false e) (w.alloc (.cells #[.int .u8 1,.int .u8 e.val.kind,.int .i64 e.val.num,.string e.val.text,.int .i64 e.var,.int .u8 e.op,.slice p n c] 58)))):=by
  have h:=plain_tff e p n c (w.alloc (.cells #[.int .u8 1,.int .u8 e.val.kind,.int .i64 e.val.num,.string e.val.text,.int .i64 e.var,.int .u8 e.op,.slice p n c] 58)) hn
  rw[hk] at h
  exact h
 have HVr:=Hd (fun W=>vright_any e.val W hfit.2.1.2.2)
 rw[hk]
 clear hb1 hm hfit hk hn
 go_enter Tryz.func69,Tryz.ntmps69
 go_wp2_with fail
 refine HP.out.mono ?_
 rintro e2 W2 ⟨rfl,hb2⟩
 have HB2:=Hd (HB1.out.trans (hb2.mono HB1.out.size))
 have hx2:=heap_below hb2 HX1.out (Array.getElem?_eq_some_iff.1 HX1.out).1
 have c1:W2.cell? ⟨w.heap.size,1,none⟩=some (.int .u8 e.val.kind):=by rw[cell_of_row _ _ _ _ _ _ hx2];rfl
 have c2:W2.cell? ⟨w.heap.size,1+1,none⟩=some (.int .i64 e.val.num):=by rw[cell_of_row _ _ _ _ _ _ hx2];rfl
 have c3:W2.cell? ⟨w.heap.size,1+2,none⟩=some (.string e.val.text):=by rw[cell_of_row _ _ _ _ _ _ hx2];rfl
 clear hb2 hx2
 cases hp:plainM true false false e with
 | false =>
  have HPv:=Hd hp
  clear hp
  go_wp2_with fail
  go_ret
  exact⟨by rw[HPv.out];rfl,HB2.out⟩
 | true =>
  have HPv:=Hd hp
  clear hp
  go_wp2_with fail
  refine (HVr.out W2).mono ?_
  rintro e2 W3 ⟨rfl,hb3⟩
  have HB3:=Hd (HB2.out.trans (hb3.mono HB2.out.size))
  clear hb3 c1 c2 c3
  go_wp2_with fail
  go_ret
  exact⟨by rw[HPv.out];rfl,HB3.out⟩
theorem su_other (S:Nat)(nv:Int)(e:CExpr)(p:Option Addr)(n c:Nat)(w:World)(hk:e.kind≠1∧e.kind≠2∧e.kind≠3) :
  Calls Tryz.prog 69 #[.pointer (some ⟨S,0,none⟩),.agg #[.int .u8 e.kind,.int .u8 e.val.kind,.int .i64 e.val.num,.string e.val.text,.int .i64 e.var,.int .u8 e.op,.slice p n c]] w (BoolPost (exprTop nv e) w):=by
 have hm:exprTop nv e=false:=by
  unfold exprTop
  rw[show (e.kind==1)=false by simpa using hk.1,show (e.kind==2)=false by simpa using hk.2.1,show (e.kind==3)=false by simpa using hk.2.2]
  rfl
 rw[hm]
 obtain⟨h1,h2,h3⟩:=hk
 have HB1:Hid (Below w.heap.size w (w.alloc (.cells #[.int .u8 e.kind,.int .u8 e.val.kind,.int .i64 e.val.num,.string e.val.text,.int .i64 e.var,.int .u8 e.op,.slice p n c] 58))):=(Below.refl _ w).alloc (Nat.le_refl _) _
 clear hm
 go_enter Tryz.func69,Tryz.ntmps69
 go_wp2_with fail
 go_ret
 exact⟨rfl,HB1.out⟩
theorem su_var (S:Nat)(nv:Int)(e:CExpr)(p:Option Addr)(n c:Nat)(w:World)(hk:e.kind=2)(hn:e.kids.length=n)(hv:VarsAt S nv w) :
  Calls Tryz.prog 69 #[.pointer (some ⟨S,0,none⟩),.agg #[.int .u8 e.kind,.int .u8 e.val.kind,.int .i64 e.val.num,.string e.val.text,.int .i64 e.var,.int .u8 e.op,.slice p n c]] w (BoolPost (exprTop nv e) w):=by
 have hm:exprTop nv e=(plainM false true false e&&decide (0≤e.var)&&decide (e.var<nv)):=by
  unfold exprTop plainM
  rw[hk]
  cases zeroV e.val<;>cases (e.op==0)<;>cases e.kids.isEmpty<;>rfl
 rw[hm]
 obtain⟨w1,hw1⟩:∃w1,w1=w.alloc (.cells #[.int .u8 2,.int .u8 e.val.kind,.int .i64 e.val.num,.string e.val.text,.int .i64 e.var,.int .u8 e.op,.slice p n c] 58):=⟨_,rfl⟩
 have hb1:Below w.heap.size w w1:=by rw[hw1];exact (Below.refl _ w).alloc (Nat.le_refl _) _
 have hx1:w1.heap[w.heap.size]? = some (.cells #[.int .u8 2,.int .u8 e.val.kind,.int .i64 e.val.num,.string e.val.text,.int .i64 e.var,.int .u8 e.op,.slice p n c] 58 (0,0)):=by rw[hw1];exact heap_alloc_new w _
 have HB1:=Hd hb1
 have HP:=Hd (fun (x:Wb w1)=>(show Calls Tryz.prog 67 #[.agg #[.int .u8 2,.int .u8 e.val.kind,.int .i64 e.val.num,.string e.val.text,.int .i64 e.var,.int .u8 e.op,.slice p n c],.bool false,.bool true,.bool false] x.1 (BoolPost (plainM false true false e) x.1) by
  have h:=plain_ftf e p n c x.1 hn
  rw[hk] at h
  exact h))
 have hv1:w1.cell? ⟨S,2,none⟩=some (.int .i64 nv):=hv.below hb1
 have e0:w1.cell? ⟨w.heap.size,0,none⟩=some (.int .u8 2):=by rw[cell_of_row _ _ _ _ _ _ hx1];rfl
 have e1:w1.cell? ⟨w.heap.size,1,none⟩=some (.int .u8 e.val.kind):=by rw[cell_of_row _ _ _ _ _ _ hx1];rfl
 have e2:w1.cell? ⟨w.heap.size,2,none⟩=some (.int .i64 e.val.num):=by rw[cell_of_row _ _ _ _ _ _ hx1];rfl
 have e3:w1.cell? ⟨w.heap.size,3,none⟩=some (.string e.val.text):=by rw[cell_of_row _ _ _ _ _ _ hx1];rfl
 have e4:w1.cell? ⟨w.heap.size,4,none⟩=some (.int .i64 e.var):=by rw[cell_of_row _ _ _ _ _ _ hx1];rfl
 have e5:w1.cell? ⟨w.heap.size,5,none⟩=some (.int .u8 e.op):=by rw[cell_of_row _ _ _ _ _ _ hx1];rfl
 have e6:w1.cell? ⟨w.heap.size,6,none⟩=some (.slice p n c):=by rw[cell_of_row _ _ _ _ _ _ hx1];rfl
 have E0:=fun x:Wb w1=>x.cell e0
 have E1:=fun x:Wb w1=>x.cell e1
 have E2:=fun x:Wb w1=>x.cell e2
 have E3:=fun x:Wb w1=>x.cell e3
 have E4:=fun x:Wb w1=>x.cell e4
 have E5:=fun x:Wb w1=>x.cell e5
 have E6:=fun x:Wb w1=>x.cell e6
 have V2:=fun x:Wb w1=>x.cell hv1
 rw[hk]
 clear hb1 hx1 hm hk hn hv
 go_enter Tryz.func69,Tryz.ntmps69
 go_upto_region 1 with fail
 change Code.wp _ _ _ _ (w.alloc (.cells #[.int .u8 2,.int .u8 e.val.kind,.int .i64 e.val.num,.string e.val.text,.int .i64 e.var,.int .u8 e.op,.slice p n c] 58))
 rw[←hw1]
 clear hw1
 go_upto_region 5 with fail
 clear e0 e1 e2 e3 e4 e5 e6 hv1
 cases hp:plainM false true false e with
 | false =>
  rw[hp] at HP
  have HPv:=Hd hp
  clear hp
  refine wp_region_below (by kernel_rfl) (by kernel_rfl) ?_
  repeat (go_big_quiet_step ((go_at_call 67;exact Calls.below_of (HP.out _))))
  refine wpQuiet_nil ?_
  intro W2 hw'
  have hb2:=wb_below hw'
  have HB2:=Hd (HB1.out.trans (hb2.mono HB1.out.size))
  clear hw' hb2 E0 E1 E2 E3 E4 E5 E6 V2 HP
  go_wp2_with fail
  go_ret
  exact⟨by rw[HPv.out];rfl,HB2.out⟩
 | true =>
  rw[hp] at HP
  have HPv:=Hd hp
  clear hp
  by_cases h0:0≤e.var
  ·have h0b:decide (0≤e.var)=true:=decide_eq_true h0
   refine wp_region_below (by kernel_rfl) (by kernel_rfl) ?_
   repeat (go_big_quiet_step ((go_at_call 67;exact Calls.below_of (HP.out _))))
   refine wpQuiet_nil ?_
   intro W2 hw'
   have hb2:=wb_below hw'
   have HB2:=Hd (HB1.out.trans (hb2.mono HB1.out.size))
   clear hw' hb2 E0 E1 E2 E3 E4 E5 E6 V2 HP
   go_wp2_with fail
   go_ret
   exact⟨by rw[HPv.out,decide_eq_true h0];rfl,HB2.out⟩
  ·have h0b:decide (0≤e.var)=false:=decide_eq_false h0
   have H0:Hid (¬0≤e.var):=h0
   refine wp_region_below (by kernel_rfl) (by kernel_rfl) ?_
   repeat (go_big_quiet_step ((go_at_call 67;exact Calls.below_of (HP.out _))))
   refine wpQuiet_nil ?_
   intro W2 hw'
   have hb2:=wb_below hw'
   have HB2:=Hd (HB1.out.trans (hb2.mono HB1.out.size))
   clear hw' hb2 E0 E1 E2 E3 E4 E5 E6 V2 HP
   go_wp2_with fail
   go_ret
   exact⟨by first|(rw[HPv.out,decide_eq_false H0.out];rfl)|rfl|simp_all,HB2.out⟩
theorem su_op (S:Nat)(nv:Int)(e:CExpr)(all:Bool)(p:Option Addr)(n c:Nat)(w:World)(hk:e.kind=3)(hn:e.kids.length=n)
  (hex:n≠0→∀W,Below w.heap.size w W→Calls Tryz.prog 71 #[.pointer (some ⟨S,0,none⟩),.slice p n c] W (BoolPost all W)) :
  Calls Tryz.prog 69 #[.pointer (some ⟨S,0,none⟩),.agg #[.int .u8 e.kind,.int .u8 e.val.kind,.int .i64 e.val.num,.string e.val.text,.int .i64 e.var,.int .u8 e.op,.slice p n c]] w (BoolPost (exprTop nv e&&all) w):=by
 by_cases ho4:e.op=4
 ·have hm:(exprTop nv e&&all)=(plainM false false true e&&(n==1)&&all):=by
   have hw:(if e.op==4||e.op==11 then 1 else 2)=(1:Nat):=by rw[ho4];rfl
   unfold exprTop plainM
   rw[hw,hk,ho4,hn]
   cases zeroV e.val<;>cases (e.var==0)<;>cases (n==1)<;>cases all<;>rfl
  rw[hm]
  have hb1:Below w.heap.size w (w.alloc (.cells #[.int .u8 3,.int .u8 e.val.kind,.int .i64 e.val.num,.string e.val.text,.int .i64 e.var,.int .u8 4,.slice p n c] 58)):=(Below.refl _ w).alloc (Nat.le_refl _) _
  have HB1:=Hd hb1
  have HX1:Hid ((w.alloc (.cells #[.int .u8 3,.int .u8 e.val.kind,.int .i64 e.val.num,.string e.val.text,.int .i64 e.var,.int .u8 4,.slice p n c] 58)).heap[w.heap.size]? = some (.cells #[.int .u8 3,.int .u8 e.val.kind,.int .i64 e.val.num,.string e.val.text,.int .i64 e.var,.int .u8 4,.slice p n c] 58 (0,0))):=heap_alloc_new w _
  have HP:Hid (Calls Tryz.prog 67 #[.agg #[.int .u8 3,.int .u8 e.val.kind,.int .i64 e.val.num,.string e.val.text,.int .i64 e.var,.int .u8 4,.slice p n c],.bool false,.bool false,.bool true] (w.alloc (.cells #[.int .u8 3,.int .u8 e.val.kind,.int .i64 e.val.num,.string e.val.text,.int .i64 e.var,.int .u8 4,.slice p n c] 58)) (BoolPost (plainM false false true e) (w.alloc (.cells #[.int .u8 3,.int .u8 e.val.kind,.int .i64 e.val.num,.string e.val.text,.int .i64 e.var,.int .u8 4,.slice p n c] 58)))):=by
   have h:=plain_fft e p n c (w.alloc (.cells #[.int .u8 3,.int .u8 e.val.kind,.int .i64 e.val.num,.string e.val.text,.int .i64 e.var,.int .u8 4,.slice p n c] 58)) hn
   rw[hk,ho4] at h
   exact h
  have HEx:=Hd hex
  rw[hk,ho4]
  clear hb1 hm hk hn hex
  go_enter Tryz.func69,Tryz.ntmps69
  go_wp2_with fail
  refine HP.out.mono ?_
  rintro e2 W2 ⟨rfl,hb2⟩
  have HB2:=Hd (HB1.out.trans (hb2.mono HB1.out.size))
  have HB2x:Hid (Below w.heap.size w W2):=HB2.out
  have hx2:=heap_below hb2 HX1.out (Array.getElem?_eq_some_iff.1 HX1.out).1
  have c5:W2.cell? ⟨w.heap.size,5,none⟩=some (.int .u8 4):=by rw[cell_of_row _ _ _ _ _ _ hx2];rfl
  have c6:W2.cell? ⟨w.heap.size,6,none⟩=some (.slice p n c):=by rw[cell_of_row _ _ _ _ _ _ hx2];rfl
  clear hb2 hx2 HP HX1
  cases hp:plainM false false true e with
  | false =>
   have HPv:=Hd hp
   clear hp
   go_wp2_with fail
   go_ret
   exact⟨by rw[HPv.out];rfl,HB2.out⟩
  | true =>
   have HPv:=Hd hp
   clear hp
   by_cases hlen:n=1
   ·subst hlen
    have HC:=Hd (HEx.out (by omega) W2 HB2x.out)
    go_wp2_with fail
    refine HC.out.mono ?_
    rintro e2 W3 ⟨rfl,hb3⟩
    have HB3:=Hd (HB2.out.trans (hb3.mono HB2.out.size))
    clear hb3 HC
    go_wp2_with fail
    go_ret
    exact⟨by rw[HPv.out];simp,HB3.out⟩
   ·have hli:¬((n:Int)=1):=by omega
    have hlb:((n:Int)==1)=false:=by simpa using hli
    have hlb2:(n==1)=false:=by simpa using hlen
    go_wp2_with fail
    go_ret
    exact⟨by rw[HPv.out];simp[hlb2],HB2.out⟩
 by_cases ho11:e.op=11
 ·have hm:(exprTop nv e&&all)=(plainM false false true e&&(n==1)&&all):=by
   have hw:(if e.op==4||e.op==11 then 1 else 2)=(1:Nat):=by rw[ho11];rfl
   unfold exprTop plainM
   rw[hw,hk,ho11,hn]
   cases zeroV e.val<;>cases (e.var==0)<;>cases (n==1)<;>cases all<;>rfl
  rw[hm]
  have hb1:Below w.heap.size w (w.alloc (.cells #[.int .u8 3,.int .u8 e.val.kind,.int .i64 e.val.num,.string e.val.text,.int .i64 e.var,.int .u8 11,.slice p n c] 58)):=(Below.refl _ w).alloc (Nat.le_refl _) _
  have HB1:=Hd hb1
  have HX1:Hid ((w.alloc (.cells #[.int .u8 3,.int .u8 e.val.kind,.int .i64 e.val.num,.string e.val.text,.int .i64 e.var,.int .u8 11,.slice p n c] 58)).heap[w.heap.size]? = some (.cells #[.int .u8 3,.int .u8 e.val.kind,.int .i64 e.val.num,.string e.val.text,.int .i64 e.var,.int .u8 11,.slice p n c] 58 (0,0))):=heap_alloc_new w _
  have HP:Hid (Calls Tryz.prog 67 #[.agg #[.int .u8 3,.int .u8 e.val.kind,.int .i64 e.val.num,.string e.val.text,.int .i64 e.var,.int .u8 11,.slice p n c],.bool false,.bool false,.bool true] (w.alloc (.cells #[.int .u8 3,.int .u8 e.val.kind,.int .i64 e.val.num,.string e.val.text,.int .i64 e.var,.int .u8 11,.slice p n c] 58)) (BoolPost (plainM false false true e) (w.alloc (.cells #[.int .u8 3,.int .u8 e.val.kind,.int .i64 e.val.num,.string e.val.text,.int .i64 e.var,.int .u8 11,.slice p n c] 58)))):=by
   have h:=plain_fft e p n c (w.alloc (.cells #[.int .u8 3,.int .u8 e.val.kind,.int .i64 e.val.num,.string e.val.text,.int .i64 e.var,.int .u8 11,.slice p n c] 58)) hn
   rw[hk,ho11] at h
   exact h
  have HEx:=Hd hex
  rw[hk,ho11]
  clear hb1 hm hk hn hex
  go_enter Tryz.func69,Tryz.ntmps69
  go_wp2_with fail
  refine HP.out.mono ?_
  rintro e2 W2 ⟨rfl,hb2⟩
  have HB2:=Hd (HB1.out.trans (hb2.mono HB1.out.size))
  have HB2x:Hid (Below w.heap.size w W2):=HB2.out
  have hx2:=heap_below hb2 HX1.out (Array.getElem?_eq_some_iff.1 HX1.out).1
  have c5:W2.cell? ⟨w.heap.size,5,none⟩=some (.int .u8 11):=by rw[cell_of_row _ _ _ _ _ _ hx2];rfl
  have c6:W2.cell? ⟨w.heap.size,6,none⟩=some (.slice p n c):=by rw[cell_of_row _ _ _ _ _ _ hx2];rfl
  clear hb2 hx2 HP HX1
  cases hp:plainM false false true e with
  | false =>
   have HPv:=Hd hp
   clear hp
   go_wp2_with fail
   go_ret
   exact⟨by rw[HPv.out];rfl,HB2.out⟩
  | true =>
   have HPv:=Hd hp
   clear hp
   by_cases hlen:n=1
   ·subst hlen
    have HC:=Hd (HEx.out (by omega) W2 HB2x.out)
    go_wp2_with fail
    refine HC.out.mono ?_
    rintro e2 W3 ⟨rfl,hb3⟩
    have HB3:=Hd (HB2.out.trans (hb3.mono HB2.out.size))
    clear hb3 HC
    go_wp2_with fail
    go_ret
    exact⟨by rw[HPv.out];simp,HB3.out⟩
   ·have hli:¬((n:Int)=1):=by omega
    have hlb:((n:Int)==1)=false:=by simpa using hli
    have hlb2:(n==1)=false:=by simpa using hlen
    go_wp2_with fail
    go_ret
    exact⟨by rw[HPv.out];simp[hlb2],HB2.out⟩
 have hm:(exprTop nv e&&all)=(plainM false false true e&&decide (1≤e.op)&&decide (e.op≤11)&&(n==2)&&all):=by
  have hw:(if e.op==4||e.op==11 then 1 else 2)=(2:Nat):=by rw[show (e.op==4)=false by simpa using ho4,show (e.op==11)=false by simpa using ho11];rfl
  unfold exprTop plainM
  rw[hw,hk,hn]
  cases zeroV e.val<;>cases (e.var==0)<;>cases decide (1≤e.op)<;>cases decide (e.op≤11)<;>cases (n==2)<;>cases all<;>rfl
 rw[hm]
 have hb1:Below w.heap.size w (w.alloc (.cells #[.int .u8 3,.int .u8 e.val.kind,.int .i64 e.val.num,.string e.val.text,.int .i64 e.var,.int .u8 e.op,.slice p n c] 58)):=(Below.refl _ w).alloc (Nat.le_refl _) _
 have HB1:=Hd hb1
 have HX1:Hid ((w.alloc (.cells #[.int .u8 3,.int .u8 e.val.kind,.int .i64 e.val.num,.string e.val.text,.int .i64 e.var,.int .u8 e.op,.slice p n c] 58)).heap[w.heap.size]? = some (.cells #[.int .u8 3,.int .u8 e.val.kind,.int .i64 e.val.num,.string e.val.text,.int .i64 e.var,.int .u8 e.op,.slice p n c] 58 (0,0))):=heap_alloc_new w _
 have HP:Hid (Calls Tryz.prog 67 #[.agg #[.int .u8 3,.int .u8 e.val.kind,.int .i64 e.val.num,.string e.val.text,.int .i64 e.var,.int .u8 e.op,.slice p n c],.bool false,.bool false,.bool true] (w.alloc (.cells #[.int .u8 3,.int .u8 e.val.kind,.int .i64 e.val.num,.string e.val.text,.int .i64 e.var,.int .u8 e.op,.slice p n c] 58)) (BoolPost (plainM false false true e) (w.alloc (.cells #[.int .u8 3,.int .u8 e.val.kind,.int .i64 e.val.num,.string e.val.text,.int .i64 e.var,.int .u8 e.op,.slice p n c] 58)))):=by
  have h:=plain_fft e p n c (w.alloc (.cells #[.int .u8 3,.int .u8 e.val.kind,.int .i64 e.val.num,.string e.val.text,.int .i64 e.var,.int .u8 e.op,.slice p n c] 58)) hn
  rw[hk] at h
  exact h
 have HEx:=Hd hex
 have ho4b:(e.op==4)=false:=by simpa using ho4
 have ho11b:(e.op==11)=false:=by simpa using ho11
 rw[hk]
 clear hb1 hm hk hn hex
 go_enter Tryz.func69,Tryz.ntmps69
 go_wp2_with fail
 refine HP.out.mono ?_
 rintro e2 W2 ⟨rfl,hb2⟩
 have HB2:=Hd (HB1.out.trans (hb2.mono HB1.out.size))
 have HB2x:Hid (Below w.heap.size w W2):=HB2.out
 have hx2:=heap_below hb2 HX1.out (Array.getElem?_eq_some_iff.1 HX1.out).1
 have c5:W2.cell? ⟨w.heap.size,5,none⟩=some (.int .u8 e.op):=by rw[cell_of_row _ _ _ _ _ _ hx2];rfl
 have c6:W2.cell? ⟨w.heap.size,6,none⟩=some (.slice p n c):=by rw[cell_of_row _ _ _ _ _ _ hx2];rfl
 clear hb2 hx2 HP HX1
 cases hp:plainM false false true e with
 | false =>
  have HPv:=Hd hp
  clear hp
  go_wp2_with fail
  go_ret
  exact⟨by rw[HPv.out];rfl,HB2.out⟩
 | true =>
  have HPv:=Hd hp
  clear hp
  by_cases h1:1≤e.op
  ·by_cases h11:e.op≤11
   ·by_cases hlen:n=2
    ·subst hlen
     have HC:=Hd (HEx.out (by omega) W2 HB2x.out)
     go_wp2_with fail
     refine HC.out.mono ?_
     rintro e2 W3 ⟨rfl,hb3⟩
     have HB3:=Hd (HB2.out.trans (hb3.mono HB2.out.size))
     clear hb3 HC
     go_wp2_with fail
     go_ret
     exact⟨by rw[HPv.out];simp[h1,h11],HB3.out⟩
    ·have hli:¬((n:Int)=2):=by omega
     have hlb:((n:Int)==2)=false:=by simpa using hli
     have hlb2:(n==2)=false:=by simpa using hlen
     go_wp2_with fail
     go_ret
     exact⟨by rw[HPv.out];simp[hlb2],HB2.out⟩
   ·have h11b:decide (e.op≤11)=false:=decide_eq_false h11
    go_wp2_with fail
    go_ret
    exact⟨by rw[HPv.out];simp;omega,HB2.out⟩
  ·have h1b:decide (1≤e.op)=false:=decide_eq_false h1
   go_wp2_with fail
   go_ret
   exact⟨by rw[HPv.out];simp;omega,HB2.out⟩
theorem suExpr_any (S:Nat)(nv:Int):∀d,ExprSays S nv d (exprOk nv d):=by
 intro d
 induction d with
 | zero =>
  intro e s w hv hfit hk
  obtain⟨p,c,rfl⟩:=ekids_shape hk
  have hk0:e.kids=[]:=hk.1
  by_cases h1:e.kind=1
  ·exact su_const S nv e p _ c w h1 rfl hfit
  by_cases h2:e.kind=2
  ·exact su_var S nv e p _ c w h2 rfl hv
  by_cases h3:e.kind=3
  ·have h:=su_op S nv e true p e.kids.length c w h3 rfl (fun hne=>absurd (by rw[hk0];rfl) hne)
   rw[Bool.and_true] at h
   exact h
  ·exact su_other S nv e p _ c w ⟨h1,h2,h3⟩
 | succ d ih =>
  intro e s w hv hfit hk
  obtain⟨p,c,rfl⟩:=ekids_shape hk
  have hm:exprOk nv (d+1) e=(exprTop nv e&&e.kids.all (exprOk nv d)):=rfl
  have hleaf:e.kind≠3→(exprTop nv e&&e.kids.all (exprOk nv d))=exprTop nv e:=fun h3=>by
   cases ht:exprTop nv e with
   | false=>rfl
   | true =>
    have he:e.kids.isEmpty=true:=by
     unfold exprTop at ht
     split at ht
     ·simp only[Bool.and_eq_true] at ht;exact ht.1.2
     ·split at ht
      ·simp only[Bool.and_eq_true] at ht;exact ht.1.1.2
      ·split at ht
       ·rename_i h;exact absurd (by simpa using h) h3
       ·cases ht
    rw[List.isEmpty_iff.1 he];rfl
  by_cases h1:e.kind=1
  ·rw[hm,hleaf (by omega)];exact su_const S nv e p _ c w h1 rfl hfit
  by_cases h2:e.kind=2
  ·rw[hm,hleaf (by omega)];exact su_var S nv e p _ c w h2 rfl hv
  by_cases h3:e.kind=3
  ·rw[hm]
   exact su_op S nv e _ p e.kids.length c w h3 rfl (fun _ W hW=>suExprs_any S nv d (exprOk nv d) ih e.kids _ W (hv.below hW) (Rd.row_sub (fun b (h:b<w.heap.size)=>Nat.lt_of_lt_of_le h hW.size) (Rd.row_below hk (fun _ h=>h) hW)))
  ·rw[hm,hleaf h3];exact su_other S nv e p _ c w ⟨h1,h2,h3⟩
structure SuW (F:Nat→Prop) (S d:Nat) (types:List CType) (rules:List CRule) (vT vR:Value) (nv nf:Int) (W:World):Prop where
 h:W.heap[S]? = some (.cells #[vT,vR,.int .i64 nv,.int .i64 nf] 83 (0,0))
 f:∀b,F b→b<W.heap.size∧b≠S
 t:typeRd.row W F types vT
 r:(ruleRd d).row W F rules vR
section
variable {F:Nat→Prop} {S d:Nat} {types:List CType} {rules:List CRule} {vT vR:Value} {nv nf:Int} {W W':World}
theorem SuW.lt (h:SuW F S d types rules vT vR nv nf W):S<W.heap.size:=(Array.getElem?_eq_some_iff.1 h.h).1
theorem SuW.below (h:SuW F S d types rules vT vR nv nf W)(hb:Below W.heap.size W W'):SuW F S d types rules vT vR nv nf W':=
 ⟨heap_below hb h.h h.lt,fun b hf=>⟨Nat.lt_of_lt_of_le (h.f b hf).1 hb.size,(h.f b hf).2⟩,Rd.row_below h.t (fun b hf=>(h.f b hf).1) hb,Rd.row_below h.r (fun b hf=>(h.f b hf).1) hb⟩
theorem SuW.vars (h:SuW F S d types rules vT vR nv nf W):VarsAt S nv W:=by
 unfold VarsAt
 rw[cell_of_row _ _ _ _ _ _ h.h];rfl
theorem SuW.setV (h:SuW F S d types rules vT vR nv nf W)(x:Int):SuW F S d types rules vT vR x nf (W.setCell ⟨S,2,none⟩ (.int .i64 x)):=by
 have hot:∀b,F b→∀o,W.heap[b]? = some o→(W.setCell ⟨S,2,none⟩ (.int .i64 x)).heap[b]? = some o:=fun b hf o ho=>by rw[Below.heap_setCell _ _ _ _ (h.f b hf).2];exact ho
 exact⟨heap_set h.h 2 _,fun b hf=>⟨by simp[World.setCell];exact (h.f b hf).1,(h.f b hf).2⟩,Rd.row_keep hot h.t,Rd.row_keep hot h.r⟩
theorem SuW.setF (h:SuW F S d types rules vT vR nv nf W)(x:Int):SuW F S d types rules vT vR nv x (W.setCell ⟨S,3,none⟩ (.int .i64 x)):=by
 have hot:∀b,F b→∀o,W.heap[b]? = some o→(W.setCell ⟨S,3,none⟩ (.int .i64 x)).heap[b]? = some o:=fun b hf o ho=>by rw[Below.heap_setCell _ _ _ _ (h.f b hf).2];exact ho
 exact⟨heap_set h.h 3 _,fun b hf=>⟨by simp[World.setCell];exact (h.f b hf).1,(h.f b hf).2⟩,Rd.row_keep hot h.t,Rd.row_keep hot h.r⟩
end
theorem suTyped_any (F:Nat→Prop)(S d:Nat)(types:List CType)(rules:List CRule)(vT vR:Value)(nv nf k m:Int)(w:World)(hw:SuW F S d types rules vT vR nv nf w) :
  Calls Tryz.prog 66 #[.pointer (some ⟨S,0,none⟩),.int .i64 k,.int .i64 m] w (BoolPost (fitsType types k m) w):=by
 obtain⟨p,c,hv⟩:=Rd.row_shape hw.t
 have hmx:=Rd.row_len hw.t
 obtain⟨n,hn⟩:∃n,types.length=n:=⟨_,rfl⟩
 rw[hn] at hv hmx
 subst hv
 have hn3:(n:Int)≤9223372036854775807:=by unfold maxLen at hmx;omega
 have m0:w.cell? ⟨S,0,none⟩=some (.slice p n c):=by rw[cell_of_row _ _ _ _ _ _ hw.h];rfl
 by_cases hk:0≤k
 ·obtain⟨j,rfl⟩:∃j:Nat,k=j:=⟨k.toNat,by omega⟩
  by_cases hj:j<n
  ·obtain⟨t,ht⟩:∃t,types[j]? = some t:=⟨_,List.getElem?_eq_getElem (by rw[hn];exact hj)⟩
   have hres:fitsType types (j:Int) m=(t.fields==m):=by
    unfold fitsType
    rw[decide_eq_true hk,decide_eq_true (by omega),Int.toNat_natCast,ht]
    rfl
   rw[hres]
   have hvs:=Rd.row_at hw.t ht
   rw[hn] at hvs
   obtain⟨b,off,cap,vs,hev,_,_,_,_,hat,hcell⟩:=hvs
   injection hev with e1 _ e3
   subst e1;subst e3
   obtain⟨rfl,_,_⟩:=type_at.1 hat
   have c1:w.cell? ⟨b,off+j*2+1,none⟩=some (.int .i64 t.fields):=hcell 1 _ rfl
   have hji:(j:Int)<n:=by omega
   clear hw hat hcell hres hn hmx ht
   go_enter Tryz.func66,Tryz.ntmps66
   go_wp2_with fail
   go_ret
   exact⟨rfl,Below.refl _ _⟩
  ·have hres:fitsType types (j:Int) m=false:=by
    unfold fitsType
    rw[decide_eq_true hk,decide_eq_false (show ¬(j:Int)<types.length by omega)]
    rfl
   rw[hres]
   have hji:¬(j:Int)<n:=by omega
   clear hw hres hn hmx
   go_enter Tryz.func66,Tryz.ntmps66
   go_wp2_with fail
   go_ret
   exact⟨rfl,Below.refl _ _⟩
 ·have hres:fitsType types k m=false:=by
   unfold fitsType
   rw[decide_eq_false hk]
   rfl
  rw[hres]
  clear hw hres hn hmx
  go_enter Tryz.func66,Tryz.ntmps66
  go_wp2_with fail
  go_ret
  exact⟨rfl,Below.refl _ _⟩
def ArgEnd (F:Nat→Prop) (S d:Nat) (types:List CType) (rules:List CRule) (vT vR:Value) (nf:Int) (r:Option Int) (w:World) (e:Ending) (w':World):Prop:=
 Chg (fun b=>b=S) w w'∧e=.returned (.bool r.isSome)∧∃nv',SuW F S d types rules vT vR nv' nf w'∧∀v,r=some v→nv'=v
theorem arg_end {F:Nat→Prop}{S d:Nat}{types:List CType}{rules:List CRule}{vT vR:Value}{nv nf:Int}{res:Option Int}{b:Bool}{w w1:World}(hb:Chg (fun b=>b=S) w w1)(hw:SuW F S d types rules vT vR nv nf w1)(h:res=if b then some nv else none):ArgEnd F S d types rules vT vR nf res w (.returned (.bool b)) w1:=
 ⟨hb,by rw[h];cases b<;>rfl,nv,hw,fun v hv=>by
  rw[h] at hv
  cases b with
  | true=>injection hv
  | false=>cases hv⟩
theorem suArg_one (F:Nat→Prop)(S d:Nat)(types:List CType)(rules:List CRule)(vT vR:Value)(nv nf:Int)(ak av vk vn:Int)(vt:ByteArray)(binds:Bool)(w:World)(hw:SuW F S d types rules vT vR nv nf w)(hk:ak=1):Calls Tryz.prog 68 #[.pointer (some ⟨S,0,none⟩),.agg #[.int .u8 ak,.int .i64 av,.int .u8 vk,.int .i64 vn,.string vt],.bool binds] w (ArgEnd F S d types rules vT vR nf (argOk binds nv ⟨ak,av,vk,vn,vt⟩) w):=by
 obtain⟨z,hz⟩:∃z,zeroV ⟨vk,vn,vt⟩=z:=⟨_,rfl⟩
 have HZ:Hid (z=(vk==0&&vn==0&&decide (vt.toList=[]))):=by
  show _=_
  rw[←hz]
  unfold zeroV
  rw[show decide (vt.toList=[])=vt.data.toList.isEmpty by rw[Bool.eq_iff_iff,decide_eq_true_iff];exact text_nil _]
 have hb1:Below w.heap.size w (w.alloc (.cells #[.int .u8 1,.int .i64 av,.int .u8 vk,.int .i64 vn,.string vt] 63)):=(Below.refl _ w).alloc (Nat.le_refl _) _
 have hx1:(w.alloc (.cells #[.int .u8 1,.int .i64 av,.int .u8 vk,.int .i64 vn,.string vt] 63)).heap[w.heap.size]? = some (.cells #[.int .u8 1,.int .i64 av,.int .u8 vk,.int .i64 vn,.string vt] 63 (0,0)):=heap_alloc_new w _
 have HB1:=Hd hb1
 have HX1:=Hd hx1
 have HW1:=Hd (hw.below hb1)
 have HLt:=Hd hw.lt
 have hm:argOk binds nv ⟨ak,av,vk,vn,vt⟩=if av==0&&z then some nv else none:=by
  unfold argOk
  dsimp only
  rw[hk,hz];rfl
 obtain⟨res,hres⟩:∃res,res=argOk binds nv ⟨ak,av,vk,vn,vt⟩:=⟨_,rfl⟩
 have HR:Hid (res=if av==0&&z then some nv else none):=hres.trans hm
 rw[←hres,hk]
 clear hb1 hx1 hw hz hm hres hk
 obtain⟨w1,hw1⟩:∃w1,w1=w.alloc (.cells #[.int .u8 1,.int .i64 av,.int .u8 vk,.int .i64 vn,.string vt] 63):=⟨_,rfl⟩
 rw[←hw1] at HB1 HX1 HW1
 go_enter Tryz.func68,Tryz.ntmps68
 go_upto_region 1 with fail
 change Code.wp _ _ _ _ (w.alloc (.cells #[.int .u8 1,.int .i64 av,.int .u8 vk,.int .i64 vn,.string vt] 63))
 rw[←hw1]
 clear hw1
 obtain⟨e0,e1,e2,e3,e4⟩:=cells5 HX1.out
 go_cut [7] from 8 to 11 (fun v W=>v=.bool z∧w1=W)
 case first =>
  by_cases hk0:vk=0
  ·subst hk0
   by_cases hn0:vn=0
   ·subst hn0
    by_cases ht0:vt.toList=[]
    ·go_wp2_with fail
     go_meet
     case rel=>exact⟨by rw[HZ.out];simp[ht0],rfl⟩
    ·go_wp2_with fail
     go_meet
     case rel=>exact⟨by rw[HZ.out];simp[ht0],rfl⟩
   ·go_wp2_with fail
    go_meet
    case rel=>exact⟨by rw[HZ.out];simp[hn0],rfl⟩
  ·go_wp2_with fail
   go_meet
   case rel=>exact⟨by rw[HZ.out];simp[hk0],rfl⟩
 case rest =>
  obtain⟨rfl,rfl⟩:=hcut
  by_cases h0:av=0
  ·subst h0
   go_wp2_with fail
   go_ret
   exact arg_end (Chg.of_below HB1.out) HW1.out HR.out
  ·go_wp2_with fail
   go_ret
   exact arg_end (b:=false) (Chg.of_below HB1.out) HW1.out (by rw[HR.out,show (av==0)=false by simpa using h0];rfl)
theorem suArg_two (F:Nat→Prop)(S d:Nat)(types:List CType)(rules:List CRule)(vT vR:Value)(nv nf:Int)(ak av vk vn:Int)(vt:ByteArray)(binds:Bool)(w:World)(hw:SuW F S d types rules vT vR nv nf w)(hk:ak=2)(hnv:0≤nv∧nv≤1000000):Calls Tryz.prog 68 #[.pointer (some ⟨S,0,none⟩),.agg #[.int .u8 ak,.int .i64 av,.int .u8 vk,.int .i64 vn,.string vt],.bool binds] w (ArgEnd F S d types rules vT vR nf (argOk binds nv ⟨ak,av,vk,vn,vt⟩) w):=by
 obtain⟨z,hz⟩:∃z,zeroV ⟨vk,vn,vt⟩=z:=⟨_,rfl⟩
 have HZ:Hid (z=(vk==0&&vn==0&&decide (vt.toList=[]))):=by
  show _=_
  rw[←hz]
  unfold zeroV
  rw[show decide (vt.toList=[])=vt.data.toList.isEmpty by rw[Bool.eq_iff_iff,decide_eq_true_iff];exact text_nil _]
 have hb1:Below w.heap.size w (w.alloc (.cells #[.int .u8 2,.int .i64 av,.int .u8 vk,.int .i64 vn,.string vt] 63)):=(Below.refl _ w).alloc (Nat.le_refl _) _
 have hx1:(w.alloc (.cells #[.int .u8 2,.int .i64 av,.int .u8 vk,.int .i64 vn,.string vt] 63)).heap[w.heap.size]? = some (.cells #[.int .u8 2,.int .i64 av,.int .u8 vk,.int .i64 vn,.string vt] 63 (0,0)):=heap_alloc_new w _
 have HB1:=Hd hb1
 have HX1:=Hd hx1
 have HW1:=Hd (hw.below hb1)
 have HLt:=Hd hw.lt
 have hm:argOk binds nv ⟨ak,av,vk,vn,vt⟩=if binds&&av==nv&&z then some (nv+1) else none:=by
  unfold argOk
  dsimp only
  rw[hk,hz];rfl
 obtain⟨res,hres⟩:∃res,res=argOk binds nv ⟨ak,av,vk,vn,vt⟩:=⟨_,rfl⟩
 have HR:Hid (res=if binds&&av==nv&&z then some (nv+1) else none):=hres.trans hm
 rw[←hres,hk]
 clear hb1 hx1 hw hz hm hres hk
 obtain⟨w1,hw1⟩:∃w1,w1=w.alloc (.cells #[.int .u8 2,.int .i64 av,.int .u8 vk,.int .i64 vn,.string vt] 63):=⟨_,rfl⟩
 rw[←hw1] at HB1 HX1 HW1
 go_enter Tryz.func68,Tryz.ntmps68
 go_upto_region 1 with fail
 change Code.wp _ _ _ _ (w.alloc (.cells #[.int .u8 2,.int .i64 av,.int .u8 vk,.int .i64 vn,.string vt] 63))
 rw[←hw1]
 clear hw1
 obtain⟨e0,e1,e2,e3,e4⟩:=cells5 HX1.out
 go_cut [7] from 8 to 11 (fun v W=>v=.bool z∧w1=W)
 case first =>
  by_cases hk0:vk=0
  ·subst hk0
   by_cases hn0:vn=0
   ·subst hn0
    by_cases ht0:vt.toList=[]
    ·go_wp2_with fail
     go_meet
     case rel=>exact⟨by rw[HZ.out];simp[ht0],rfl⟩
    ·go_wp2_with fail
     go_meet
     case rel=>exact⟨by rw[HZ.out];simp[ht0],rfl⟩
   ·go_wp2_with fail
    go_meet
    case rel=>exact⟨by rw[HZ.out];simp[hn0],rfl⟩
  ·go_wp2_with fail
   go_meet
   case rel=>exact⟨by rw[HZ.out];simp[hk0],rfl⟩
 case rest =>
  obtain⟨rfl,rfl⟩:=hcut
  have hv2:w1.cell? ⟨S,2,none⟩=some (.int .i64 nv):=HW1.out.vars
  have fz:=frozenAll HW1.out.h
  obtain⟨w2,hw2⟩:∃w2,w2=w1.setCell ⟨S,2,none⟩ (.int .i64 (nv+1)):=⟨_,rfl⟩
  have HW2:Hid (SuW F S d types rules vT vR (nv+1) nf w2):=by show SuW _ _ _ _ _ _ _ _ _ _;rw[hw2];exact HW1.out.setV _
  have HC2:Hid (Chg (fun b=>b=S) w w2):=by show Chg _ _ _;rw[hw2];exact Chg.setCell (F:=fun b=>b=S) (Chg.of_below HB1.out) (p:=⟨S,2,none⟩) (Or.inl rfl) _
  have hne:w.heap.size≠S:=by have:=HLt.out;omega
  have hx2:w2.heap[w.heap.size]? = some (.cells #[.int .u8 2,.int .i64 av,.int .u8 vk,.int .i64 vn,.string vt] 63 (0,0)):=by rw[hw2,Below.heap_setCell _ _ _ _ hne];exact HX1.out
  have HX2:=Hd hx2
  clear hne hx2
  go_upto_region 7 with fail
  change Code.wp _ _ _ _ (w1.setCell ⟨S,2,none⟩ (.int .i64 (nv+1)))
  rw[←hw2]
  clear hw2 hv2 fz e0 e1 e2 e3 e4
  have hv2:w2.cell? ⟨S,2,none⟩=some (.int .i64 (nv+1)):=HW2.out.vars
  cases binds with
  | false =>
   obtain⟨e0,e1,e2,e3,e4⟩:=cells5 HX2.out
   have V2:=fun x:Wb w2=>x.cell hv2
   have E1:=fun x:Wb w2=>x.cell e1
   go_upto_region 7 with fail
   clear hv2 e0 e1 e2 e3 e4
   refine wp_region_below (by kernel_rfl) (by kernel_rfl) ?_
   repeat (go_big_quiet_step (fail))
   refine wpQuiet_nil ?_
   intro W2 hw'
   have hb2:=wb_below hw'
   have HB2:=Hd hb2
   clear hw' hb2 E1 V2
   go_wp2_with fail
   go_ret
   exact arg_end (b:=false) (HC2.out.trans (Chg.of_below HB2.out)) (HW2.out.below HB2.out) HR.out
  | true =>
   by_cases hav:av=nv
   ·subst hav
    obtain⟨e0,e1,e2,e3,e4⟩:=cells5 HX2.out
    have V2:=fun x:Wb w2=>x.cell hv2
    have E1:=fun x:Wb w2=>x.cell e1
    go_upto_region 7 with fail
    clear hv2 e0 e1 e2 e3 e4
    refine wp_region_below (by kernel_rfl) (by kernel_rfl) ?_
    repeat (go_big_quiet_step (fail))
    refine wpQuiet_nil ?_
    intro W2 hw'
    have hb2:=wb_below hw'
    have HB2:=Hd hb2
    clear hw' hb2 E1 V2
    go_wp2_with fail
    go_ret
    exact arg_end (HC2.out.trans (Chg.of_below HB2.out)) (HW2.out.below HB2.out) (by rw[HR.out];simp)
   ·have hab:(av==nv)=false:=by simpa using hav
    obtain⟨e0,e1,e2,e3,e4⟩:=cells5 HX2.out
    have V2:=fun x:Wb w2=>x.cell hv2
    have E1:=fun x:Wb w2=>x.cell e1
    go_upto_region 7 with fail
    clear hv2 e0 e1 e2 e3 e4
    refine wp_region_below (by kernel_rfl) (by kernel_rfl) ?_
    repeat (go_big_quiet_step (fail))
    refine wpQuiet_nil ?_
    intro W2 hw'
    have hb2:=wb_below hw'
    have HB2:=Hd hb2
    clear hw' hb2 E1 V2
    go_wp2_with fail
    go_ret
    exact arg_end (b:=false) (HC2.out.trans (Chg.of_below HB2.out)) (HW2.out.below HB2.out) (by rw[HR.out];simp[hav])
theorem suArg_three (F:Nat→Prop)(S d:Nat)(types:List CType)(rules:List CRule)(vT vR:Value)(nv nf:Int)(ak av vk vn:Int)(vt:ByteArray)(binds:Bool)(w:World)(hw:SuW F S d types rules vT vR nv nf w)(hk:ak=3):Calls Tryz.prog 68 #[.pointer (some ⟨S,0,none⟩),.agg #[.int .u8 ak,.int .i64 av,.int .u8 vk,.int .i64 vn,.string vt],.bool binds] w (ArgEnd F S d types rules vT vR nf (argOk binds nv ⟨ak,av,vk,vn,vt⟩) w):=by
 obtain⟨z,hz⟩:∃z,zeroV ⟨vk,vn,vt⟩=z:=⟨_,rfl⟩
 have HZ:Hid (z=(vk==0&&vn==0&&decide (vt.toList=[]))):=by
  show _=_
  rw[←hz]
  unfold zeroV
  rw[show decide (vt.toList=[])=vt.data.toList.isEmpty by rw[Bool.eq_iff_iff,decide_eq_true_iff];exact text_nil _]
 have hb1:Below w.heap.size w (w.alloc (.cells #[.int .u8 3,.int .i64 av,.int .u8 vk,.int .i64 vn,.string vt] 63)):=(Below.refl _ w).alloc (Nat.le_refl _) _
 have hx1:(w.alloc (.cells #[.int .u8 3,.int .i64 av,.int .u8 vk,.int .i64 vn,.string vt] 63)).heap[w.heap.size]? = some (.cells #[.int .u8 3,.int .i64 av,.int .u8 vk,.int .i64 vn,.string vt] 63 (0,0)):=heap_alloc_new w _
 have HB1:=Hd hb1
 have HX1:=Hd hx1
 have HW1:=Hd (hw.below hb1)
 have HLt:=Hd hw.lt
 have hm:argOk binds nv ⟨ak,av,vk,vn,vt⟩=if decide (0≤av)&&decide (av<nv)&&z then some nv else none:=by
  unfold argOk
  dsimp only
  rw[hk,hz];rfl
 obtain⟨res,hres⟩:∃res,res=argOk binds nv ⟨ak,av,vk,vn,vt⟩:=⟨_,rfl⟩
 have HR:Hid (res=if decide (0≤av)&&decide (av<nv)&&z then some nv else none):=hres.trans hm
 rw[←hres,hk]
 clear hb1 hx1 hw hz hm hres hk
 obtain⟨w1,hw1⟩:∃w1,w1=w.alloc (.cells #[.int .u8 3,.int .i64 av,.int .u8 vk,.int .i64 vn,.string vt] 63):=⟨_,rfl⟩
 rw[←hw1] at HB1 HX1 HW1
 go_enter Tryz.func68,Tryz.ntmps68
 go_upto_region 1 with fail
 change Code.wp _ _ _ _ (w.alloc (.cells #[.int .u8 3,.int .i64 av,.int .u8 vk,.int .i64 vn,.string vt] 63))
 rw[←hw1]
 clear hw1
 obtain⟨e0,e1,e2,e3,e4⟩:=cells5 HX1.out
 go_cut [7] from 8 to 11 (fun v W=>v=.bool z∧w1=W)
 case first =>
  by_cases hk0:vk=0
  ·subst hk0
   by_cases hn0:vn=0
   ·subst hn0
    by_cases ht0:vt.toList=[]
    ·go_wp2_with fail
     go_meet
     case rel=>exact⟨by rw[HZ.out];simp[ht0],rfl⟩
    ·go_wp2_with fail
     go_meet
     case rel=>exact⟨by rw[HZ.out];simp[ht0],rfl⟩
   ·go_wp2_with fail
    go_meet
    case rel=>exact⟨by rw[HZ.out];simp[hn0],rfl⟩
  ·go_wp2_with fail
   go_meet
   case rel=>exact⟨by rw[HZ.out];simp[hk0],rfl⟩
 case rest =>
  obtain⟨rfl,rfl⟩:=hcut
  have hv2:w1.cell? ⟨S,2,none⟩=some (.int .i64 nv):=HW1.out.vars
  clear e0 e1 e2 e3 e4
  by_cases h0:0≤av
  ·by_cases hlt:av<nv
   ·have h0b:decide (0≤av)=true:=decide_eq_true h0
    have hltb:decide (av<nv)=true:=decide_eq_true hlt
    obtain⟨e0,e1,e2,e3,e4⟩:=cells5 HX1.out
    have V2:=fun x:Wb w1=>x.cell hv2
    have E1:=fun x:Wb w1=>x.cell e1
    go_upto_region 9 with fail
    clear hv2 e0 e1 e2 e3 e4
    refine wp_region_below (by kernel_rfl) (by kernel_rfl) ?_
    repeat (go_big_quiet_step (fail))
    refine wpQuiet_nil ?_
    intro W2 hw'
    have hb2:=wb_below hw'
    have HB2:=Hd hb2
    clear hw' hb2 E1 V2
    go_wp2_with fail
    go_ret
    exact arg_end ((Chg.of_below HB1.out).trans (Chg.of_below HB2.out)) (HW1.out.below HB2.out) (by rw[HR.out,h0b,hltb];rfl)
   ·have h0b:decide (0≤av)=true:=decide_eq_true h0
    have hltb:decide (av<nv)=false:=decide_eq_false hlt
    obtain⟨e0,e1,e2,e3,e4⟩:=cells5 HX1.out
    have V2:=fun x:Wb w1=>x.cell hv2
    have E1:=fun x:Wb w1=>x.cell e1
    go_upto_region 9 with fail
    clear hv2 e0 e1 e2 e3 e4
    refine wp_region_below (by kernel_rfl) (by kernel_rfl) ?_
    repeat (go_big_quiet_step (fail))
    refine wpQuiet_nil ?_
    intro W2 hw'
    have hb2:=wb_below hw'
    have HB2:=Hd hb2
    clear hw' hb2 E1 V2
    go_wp2_with fail
    go_ret
    exact arg_end (b:=false) ((Chg.of_below HB1.out).trans (Chg.of_below HB2.out)) (HW1.out.below HB2.out) (by rw[HR.out,h0b,hltb];rfl)
  ·have h0b:decide (0≤av)=false:=decide_eq_false h0
   obtain⟨e0,e1,e2,e3,e4⟩:=cells5 HX1.out
   have V2:=fun x:Wb w1=>x.cell hv2
   have E1:=fun x:Wb w1=>x.cell e1
   go_upto_region 9 with fail
   clear hv2 e0 e1 e2 e3 e4
   refine wp_region_below (by kernel_rfl) (by kernel_rfl) ?_
   repeat (go_big_quiet_step (fail))
   refine wpQuiet_nil ?_
   intro W2 hw'
   have hb2:=wb_below hw'
   have HB2:=Hd hb2
   clear hw' hb2 E1 V2
   go_wp2_with fail
   go_ret
   exact arg_end (b:=false) ((Chg.of_below HB1.out).trans (Chg.of_below HB2.out)) (HW1.out.below HB2.out) (by rw[HR.out,h0b];rfl)
theorem suArg_four (F:Nat→Prop)(S d:Nat)(types:List CType)(rules:List CRule)(vT vR:Value)(nv nf:Int)(ak av vk vn:Int)(vt:ByteArray)(binds:Bool)(w:World)(hw:SuW F S d types rules vT vR nv nf w)(hk:ak=4)(hvs:vt.size≤maxLen):Calls Tryz.prog 68 #[.pointer (some ⟨S,0,none⟩),.agg #[.int .u8 ak,.int .i64 av,.int .u8 vk,.int .i64 vn,.string vt],.bool binds] w (ArgEnd F S d types rules vT vR nf (argOk binds nv ⟨ak,av,vk,vn,vt⟩) w):=by
 obtain⟨z,hz⟩:∃z,zeroV ⟨vk,vn,vt⟩=z:=⟨_,rfl⟩
 have HZ:Hid (z=(vk==0&&vn==0&&decide (vt.toList=[]))):=by
  show _=_
  rw[←hz]
  unfold zeroV
  rw[show decide (vt.toList=[])=vt.data.toList.isEmpty by rw[Bool.eq_iff_iff,decide_eq_true_iff];exact text_nil _]
 have hb1:Below w.heap.size w (w.alloc (.cells #[.int .u8 4,.int .i64 av,.int .u8 vk,.int .i64 vn,.string vt] 63)):=(Below.refl _ w).alloc (Nat.le_refl _) _
 have hx1:(w.alloc (.cells #[.int .u8 4,.int .i64 av,.int .u8 vk,.int .i64 vn,.string vt] 63)).heap[w.heap.size]? = some (.cells #[.int .u8 4,.int .i64 av,.int .u8 vk,.int .i64 vn,.string vt] 63 (0,0)):=heap_alloc_new w _
 have HB1:=Hd hb1
 have HX1:=Hd hx1
 have HW1:=Hd (hw.below hb1)
 have HLt:=Hd hw.lt
 have hm:argOk binds nv ⟨ak,av,vk,vn,vt⟩=if av==0&&valOk ⟨vk,vn,vt⟩ then some nv else none:=by
  unfold argOk
  dsimp only
  rw[hk,hz];rfl
 obtain⟨res,hres⟩:∃res,res=argOk binds nv ⟨ak,av,vk,vn,vt⟩:=⟨_,rfl⟩
 have HR:Hid (res=if av==0&&valOk ⟨vk,vn,vt⟩ then some nv else none):=hres.trans hm
 rw[←hres,hk]
 clear hb1 hx1 hw hz hm hres hk
 obtain⟨w1,hw1⟩:∃w1,w1=w.alloc (.cells #[.int .u8 4,.int .i64 av,.int .u8 vk,.int .i64 vn,.string vt] 63):=⟨_,rfl⟩
 rw[←hw1] at HB1 HX1 HW1
 go_enter Tryz.func68,Tryz.ntmps68
 go_upto_region 1 with fail
 change Code.wp _ _ _ _ (w.alloc (.cells #[.int .u8 4,.int .i64 av,.int .u8 vk,.int .i64 vn,.string vt] 63))
 rw[←hw1]
 clear hw1
 obtain⟨e0,e1,e2,e3,e4⟩:=cells5 HX1.out
 go_cut [7] from 8 to 11 (fun v W=>v=.bool z∧w1=W)
 case first =>
  by_cases hk0:vk=0
  ·subst hk0
   by_cases hn0:vn=0
   ·subst hn0
    by_cases ht0:vt.toList=[]
    ·go_wp2_with fail
     go_meet
     case rel=>exact⟨by rw[HZ.out];simp[ht0],rfl⟩
    ·go_wp2_with fail
     go_meet
     case rel=>exact⟨by rw[HZ.out];simp[ht0],rfl⟩
   ·go_wp2_with fail
    go_meet
    case rel=>exact⟨by rw[HZ.out];simp[hn0],rfl⟩
  ·go_wp2_with fail
   go_meet
   case rel=>exact⟨by rw[HZ.out];simp[hk0],rfl⟩
 case rest =>
  obtain⟨rfl,rfl⟩:=hcut
  by_cases h0:av=0
  ·subst h0
   have HVr:=Hd (vright_any ⟨vk,vn,vt⟩ w1 hvs)
   go_wp2_with fail
   refine HVr.out.mono ?_
   rintro e W2 ⟨rfl,hb2⟩
   have HB2:=Hd hb2
   clear hb2 HVr e0 e1 e2 e3 e4
   go_wp2_with fail
   go_ret
   exact arg_end ((Chg.of_below HB1.out).trans (Chg.of_below HB2.out)) (HW1.out.below HB2.out) (by rw[HR.out];rfl)
  ·go_wp2_with fail
   go_ret
   exact arg_end (b:=false) (Chg.of_below HB1.out) HW1.out (by rw[HR.out,show (av==0)=false by simpa using h0];rfl)
theorem suArg_other (F:Nat→Prop)(S d:Nat)(types:List CType)(rules:List CRule)(vT vR:Value)(nv nf:Int)(ak av vk vn:Int)(vt:ByteArray)(binds:Bool)(w:World)(hw:SuW F S d types rules vT vR nv nf w)(hk:ak≠1∧ak≠2∧ak≠3∧ak≠4):Calls Tryz.prog 68 #[.pointer (some ⟨S,0,none⟩),.agg #[.int .u8 ak,.int .i64 av,.int .u8 vk,.int .i64 vn,.string vt],.bool binds] w (ArgEnd F S d types rules vT vR nf (argOk binds nv ⟨ak,av,vk,vn,vt⟩) w):=by
 obtain⟨z,hz⟩:∃z,zeroV ⟨vk,vn,vt⟩=z:=⟨_,rfl⟩
 have HZ:Hid (z=(vk==0&&vn==0&&decide (vt.toList=[]))):=by
  show _=_
  rw[←hz]
  unfold zeroV
  rw[show decide (vt.toList=[])=vt.data.toList.isEmpty by rw[Bool.eq_iff_iff,decide_eq_true_iff];exact text_nil _]
 have hb1:Below w.heap.size w (w.alloc (.cells #[.int .u8 ak,.int .i64 av,.int .u8 vk,.int .i64 vn,.string vt] 63)):=(Below.refl _ w).alloc (Nat.le_refl _) _
 have hx1:(w.alloc (.cells #[.int .u8 ak,.int .i64 av,.int .u8 vk,.int .i64 vn,.string vt] 63)).heap[w.heap.size]? = some (.cells #[.int .u8 ak,.int .i64 av,.int .u8 vk,.int .i64 vn,.string vt] 63 (0,0)):=heap_alloc_new w _
 have HB1:=Hd hb1
 have HX1:=Hd hx1
 have HW1:=Hd (hw.below hb1)
 have HLt:=Hd hw.lt
 have hm:argOk binds nv ⟨ak,av,vk,vn,vt⟩=none:=by
  unfold argOk
  dsimp only
  rw[show (ak==1)=false by simpa using hk.1,show (ak==2)=false by simpa using hk.2.1,show (ak==3)=false by simpa using hk.2.2.1,show (ak==4)=false by simpa using hk.2.2.2]
  rfl
 obtain⟨res,hres⟩:∃res,res=argOk binds nv ⟨ak,av,vk,vn,vt⟩:=⟨_,rfl⟩
 have HR:Hid (res=none):=hres.trans hm
 rw[←hres]
 clear hb1 hx1 hw hz hm hres
 obtain⟨w1,hw1⟩:∃w1,w1=w.alloc (.cells #[.int .u8 ak,.int .i64 av,.int .u8 vk,.int .i64 vn,.string vt] 63):=⟨_,rfl⟩
 rw[←hw1] at HB1 HX1 HW1
 go_enter Tryz.func68,Tryz.ntmps68
 go_upto_region 1 with fail
 change Code.wp _ _ _ _ (w.alloc (.cells #[.int .u8 ak,.int .i64 av,.int .u8 vk,.int .i64 vn,.string vt] 63))
 rw[←hw1]
 clear hw1
 obtain⟨e0,e1,e2,e3,e4⟩:=cells5 HX1.out
 go_cut [7] from 8 to 11 (fun v W=>v=.bool z∧w1=W)
 case first =>
  by_cases hk0:vk=0
  ·subst hk0
   by_cases hn0:vn=0
   ·subst hn0
    by_cases ht0:vt.toList=[]
    ·go_wp2_with fail
     go_meet
     case rel=>exact⟨by rw[HZ.out];simp[ht0],rfl⟩
    ·go_wp2_with fail
     go_meet
     case rel=>exact⟨by rw[HZ.out];simp[ht0],rfl⟩
   ·go_wp2_with fail
    go_meet
    case rel=>exact⟨by rw[HZ.out];simp[hn0],rfl⟩
  ·go_wp2_with fail
   go_meet
   case rel=>exact⟨by rw[HZ.out];simp[hk0],rfl⟩
 case rest =>
  obtain⟨rfl,rfl⟩:=hcut
  obtain⟨h1,h2,h3,h4⟩:=hk
  go_wp2_with fail
  go_ret
  exact arg_end (nv:=nv) (b:=false) (Chg.of_below HB1.out) HW1.out (by rw[HR.out];rfl)
theorem suArg_any (F:Nat→Prop)(S d:Nat)(types:List CType)(rules:List CRule)(vT vR:Value)(nv nf:Int)(a:CArg)(binds:Bool)(w:World)(hw:SuW F S d types rules vT vR nv nf w)(hnv:0≤nv∧nv≤1000000)(hvs:a.val.text.size≤maxLen) :
  Calls Tryz.prog 68 #[.pointer (some ⟨S,0,none⟩),.agg #[.int .u8 a.kind,.int .i64 a.var,.int .u8 a.val.kind,.int .i64 a.val.num,.string a.val.text],.bool binds] w (ArgEnd F S d types rules vT vR nf (argOk binds nv a) w):=by
 obtain⟨ak,av,vk,vn,vt⟩:=a
 by_cases h1:ak=1
 ·exact suArg_one F S d types rules vT vR nv nf ak av vk vn vt binds w hw h1
 by_cases h2:ak=2
 ·exact suArg_two F S d types rules vT vR nv nf ak av vk vn vt binds w hw h2 hnv
 by_cases h3:ak=3
 ·exact suArg_three F S d types rules vT vR nv nf ak av vk vn vt binds w hw h3
 by_cases h4:ak=4
 ·exact suArg_four F S d types rules vT vR nv nf ak av vk vn vt binds w hw h4 hvs
 ·exact suArg_other F S d types rules vT vR nv nf ak av vk vn vt binds w hw ⟨h1,h2,h3,h4⟩
end Go.Proofs.YtglbjooofdnbkaaGreatDoor
