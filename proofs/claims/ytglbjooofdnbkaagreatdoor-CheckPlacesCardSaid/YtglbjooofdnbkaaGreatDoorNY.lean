/- Several texts joined, each with its own sentence and conditions ahead of it: Awk8A, Awk8B. -/
import Derived.Test.YtglbjooofdnbkaaGreatDoorNO
import Derived.Test.YtglbjooofdnbkaaGreatDoorNX
namespace Go.Proofs.YtglbjooofdnbkaaGreatDoor
set_option maxHeartbeats 4000000
set_option maxRecDepth 100000
open Go.RowKit
def srcE:ByteArray:=⟨#[102,97,99,116,32,112,40,97,44,32,98,41,59,32,114,117,108,101,32,114,32,123,32,112,40,63,120,44,32,49,41,59,32,112,40,63,120,44,32,63,121,41,59,32,61,62,32,97,115,115,101,114,116,32,112,40,63,121,44,32,63,120,32,43,32,49,41,59,32,114,101,116,114,97,99,116,32,50,59,32,125]⟩
def srcG:ByteArray:=⟨#[114,117,108,101,32,114,32,123,32,113,40,41,59,32,61,62,32,104,97,108,116,59,32,125]⟩
def R8:CRules:=match sourceF srcE with | .ok R=>R | .error _=>⟨[],[]⟩
theorem srcE_is:sourceF srcE=.ok R8:=by kernel_rfl
theorem srcG_is:sourceF srcG=.error (211,9):=by kernel_rfl
theorem R8_ok:rulesOk 30 R8=true:=by kernel_rfl
def facts8 (R:CRules):Bool:=match R with
 | ⟨[t],[r]⟩=>decide (t.fields=2)&&decide (r.vars=2)&&(match r.conds with
  | [_,c]=>(match c.args with
   | [a,b]=>decide (a.kind=3)&&decide (b.var=1)
   | _=>false)
  | _=>false)&&(match r.acts with
  | [_,x]=>decide (x.which=1)
  | _=>false)
 | _=>false
theorem R8_facts:facts8 R8=true:=by kernel_rfl
theorem R8_is:∃t r c0 c x0 x a b,R8.types=[t]∧R8.rules=[r]∧t.fields=2∧r.vars=2∧r.conds=[c0,c]∧r.acts=[x0,x]∧x.which=1∧c.args=[a,b]∧a.kind=3∧b.var=1:=by
 have h:=R8_facts
 unfold facts8 at h
 split at h
 ·rename_i t r hR
  rw[hR]
  simp only[Bool.and_eq_true,decide_eq_true_eq] at h
  obtain⟨⟨⟨h1,h2⟩,h3⟩,h4⟩:=h
  split at h3
  ·rename_i c0 c hc
   split at h3
   ·rename_i a b ha
    split at h4
    ·rename_i x0 x hx
     simp only[Bool.and_eq_true,decide_eq_true_eq] at h3 h4
     exact⟨t,r,c0,c,x0,x,a,b,rfl,rfl,h1,h2,hc,hx,h4,ha,h3.1,h3.2⟩
    ·cases h4
   ·cases h3
  ·cases h3
 ·cases h
theorem R8_cells {w:World}{F:Nat→Prop}{d:Nat}{R:CRules}{st sr:Value}{t:CType}{r:CRule}{c0 c:CCond}{x0 x:CAct}{a b:CArg}(h1:R.types=[t])(h2:R.rules=[r])(h3:r.conds=[c0,c])(h4:r.acts=[x0,x])(h5:c.args=[a,b])
  (ht:typeRd.row w F R.types st) (hr:(ruleRd d).row w F R.rules sr) :
  ∃bt ot ct br or_ cr bc oc cc bx ox cx ba oa ca,st=.slice (some ⟨bt,ot,none⟩) 1 ct∧sr=.slice (some ⟨br,or_,none⟩) 1 cr∧(F bt∧F br∧F bc∧F bx∧F ba) ∧
   w.cell? ⟨bt,ot+1,none⟩=some (.int .i64 t.fields)∧w.cell? ⟨br,or_,none⟩=some (.string r.name)∧w.cell? ⟨br,or_+1,none⟩=some (.int .i64 r.sal)∧w.cell? ⟨br,or_+2,none⟩=some (.int .i64 r.vars) ∧
   w.cell? ⟨br,or_+3,none⟩=some (.slice (some ⟨bc,oc,none⟩) 2 cc)∧w.cell? ⟨br,or_+4,none⟩=some (.slice (some ⟨bx,ox,none⟩) 2 cx) ∧
   w.cell? ⟨bc,oc+12,none⟩=some (.slice (some ⟨ba,oa,none⟩) 2 ca)∧w.cell? ⟨ba,oa,none⟩=some (.int .u8 a.kind)∧w.cell? ⟨ba,oa+6,none⟩=some (.int .i64 b.var)∧w.cell? ⟨bx,ox+6,none⟩=some (.int .i64 x.which):=by
 rw[h1] at ht
 rw[h2] at hr
 obtain⟨bt,ot,ct,vt,hvt,_,_,hFt,_,hat,hct⟩:=Rd.row_at (i:=0) ht rfl
 obtain⟨br,or_,cr,vr,hvr,_,_,hFr,_,har,hcr⟩:=Rd.row_at (i:=0) hr rfl
 obtain⟨rfl,_⟩:=type_at.1 hat
 obtain⟨_,_,_,sc,sa,rfl,hsc,hsa⟩:=rule_at.1 har
 rw[h3] at hsc
 rw[h4] at hsa
 obtain⟨bc,oc,cc,vc,hvc,_,_,hFc,_,hac,hcc⟩:=Rd.row_at (i:=1) hsc rfl
 obtain⟨bx,ox,cx,vx,hvx,_,_,hFx,_,hax,hcx⟩:=Rd.row_at (i:=1) hsa rfl
 obtain⟨_,_,_,sar,s,rfl,hsar,_⟩:=cond_at.1 hac
 obtain⟨_,_,_,s',rfl,_⟩:=act_at.1 hax
 rw[h5] at hsar
 obtain⟨ba,oa,ca,va,hva,_,_,hFa,_,haa,hca⟩:=Rd.row_at (i:=0) hsar rfl
 obtain⟨ba2,oa2,ca2,va2,hva2,_,_,_,_,hab,hcb⟩:=Rd.row_at (i:=1) hsar rfl
 rw[hva] at hva2
 injection hva2 with e1 _ e3
 injection e1 with e1
 injection e1 with e1 e4
 subst e1;subst e4;subst e3
 obtain⟨rfl,_⟩:=arg_at.1 haa
 obtain⟨rfl,_⟩:=arg_at.1 hab
 subst hvc;subst hvx;subst hva
 rw[condRd_n] at hcc
 refine⟨bt,ot,ct,br,or_,cr,bc,oc,cc,bx,ox,cx,ba,oa,ca,hvt,hvr,⟨hFt,hFr,hFc,hFx,hFa⟩,hct 1 _ rfl,hcr 0 _ rfl,hcr 1 _ rfl,hcr 2 _ rfl,hcr 3 _ rfl,hcr 4 _ rfl,hcc 2 _ rfl,hca 0 _ rfl,hcb 1 _ rfl,hcx 2 _ rfl⟩
theorem awake8_any (w:World)(ht:AsciiTab w):Calls Tryz.prog 4 #[] w (BoolPost true w):=by
 have HP1:=Hd (source_any srcE w ht)
 rw[srcE_is] at HP1
 have hP2:=fun W (hW:Below w.heap.size w W)=>source_any srcG W (ht.below hW)
 rw[srcG_is] at hP2
 unfold srcE at HP1
 unfold srcG at hP2
 have HP2:=Hd hP2
 obtain⟨t,r,c0,c,x0,x,a,b,q1,q2,q3,q4,q5,q6,q7,q8,q9,q10⟩:=R8_is
 have HOk:=Hd R8_ok
 generalize R8=R at *
 clear ht hP2
 go_enter Tryz.func4,Tryz.ntmps4
 go_wp2_with fail
 refine Calls.mono HP1.out ?_
 rintro e w1 ⟨hb1,st,sr,rfl,hst,hsr⟩
 obtain⟨bt,ot,ct,br,or_,cr,bc,oc,cc,bx,ox,cx,ba,oa,ca,rfl,rfl,⟨⟨_,F1⟩,⟨_,F2⟩,⟨_,F3⟩,⟨_,F4⟩,⟨_,F5⟩⟩,d1,d2,d3,d4,d5,d6,d7,d8,d9,d10⟩:=R8_cells q1 q2 q5 q6 q8 hst hsr
 rw[q3] at d1
 rw[q4] at d4
 rw[q9] at d8
 rw[q10] at d9
 rw[q7] at d10
 have HX:Hid (∀W,Below w1.heap.size w1 W→W.cell? ⟨bt,ot+1,none⟩=some (.int .i64 2)∧W.cell? ⟨br,or_,none⟩=some (.string r.name)∧W.cell? ⟨br,or_+1,none⟩=some (.int .i64 r.sal)∧W.cell? ⟨br,or_+2,none⟩=some (.int .i64 2) ∧
   W.cell? ⟨br,or_+3,none⟩=some (.slice (some ⟨bc,oc,none⟩) 2 cc)∧W.cell? ⟨br,or_+4,none⟩=some (.slice (some ⟨bx,ox,none⟩) 2 cx) ∧
   W.cell? ⟨bc,oc+12,none⟩=some (.slice (some ⟨ba,oa,none⟩) 2 ca)∧W.cell? ⟨ba,oa,none⟩=some (.int .u8 3)∧W.cell? ⟨ba,oa+6,none⟩=some (.int .i64 1)∧W.cell? ⟨bx,ox+6,none⟩=some (.int .i64 1)):=by
  intro W hW
  refine⟨(hW.cell (p:=⟨bt,_,none⟩) F1).trans d1,(hW.cell (p:=⟨br,_,none⟩) F2).trans d2,(hW.cell (p:=⟨br,_,none⟩) F2).trans d3,(hW.cell (p:=⟨br,_,none⟩) F2).trans d4,(hW.cell (p:=⟨br,_,none⟩) F2).trans d5,(hW.cell (p:=⟨br,_,none⟩) F2).trans d6,(hW.cell (p:=⟨bc,_,none⟩) F3).trans d7,(hW.cell (p:=⟨ba,_,none⟩) F5).trans d8,(hW.cell (p:=⟨ba,_,none⟩) F5).trans d9,(hW.cell (p:=⟨bx,_,none⟩) F4).trans d10⟩
 have HR:Hid (∀W,Below w1.heap.size w1 W→Calls Tryz.prog 11 #[.agg #[.slice (some ⟨bt,ot,none⟩) 1 ct,.slice (some ⟨br,or_,none⟩) 1 cr]] W (BoolPost true W)):=by
  intro W hW
  have:=chRight_any (fun b=>b<w1.heap.size) 30 R _ _ W (fun b h=>Nat.lt_of_lt_of_le h hW.size) (Rd.row_below (Rd.row_sub (fun b h=>h.2) hst) (fun _ h=>h) hW) (Rd.row_below (Rd.row_sub (fun b h=>h.2) hsr) (fun _ h=>h) hW)
  rw[HOk.out] at this
  exact this
 obtain⟨wA,hwA⟩:∃wA,wA=((w1.alloc (.cells #[.slice (some ⟨bt,ot,none⟩) 1 ct,.slice (some ⟨br,or_,none⟩) 1 cr] 32)).alloc (.cells #[.int .i64 0,.int .i64 0] 35)):=⟨_,rfl⟩
 have hbA:Below w1.heap.size w1 wA:=by rw[hwA];exact below_two w1 _ _
 obtain⟨X0,X1,_⟩:=two_new' w1 (.cells #[.slice (some ⟨bt,ot,none⟩) 1 ct,.slice (some ⟨br,or_,none⟩) 1 cr] 32) (.cells #[.int .i64 0,.int .i64 0] 35)
 rw[←hwA] at X0 X1
 have hszA:w1.heap.size+1<wA.heap.size:=(Array.getElem?_eq_some_iff.1 X1).1
 have HBA:=Hd hbA
 have HB1:=Hd hb1
 have HC:=Hd (HP2.out wA (hb1.trans (hbA.mono hb1.size)))
 have HX0:=Hd X0
 have HX1:=Hd X1
 clear hb1 hst hsr d1 d2 d3 d4 d5 d6 d7 d8 d9 d10 hbA X0 X1 HP1 HP2 q1 q2 q3 q4 q5 q6 q7 q8 q9 q10 F1 F2 F3 F4 F5
 go_upto_region 2 with fail
 change Code.wp _ _ _ _ ((w1.alloc (.cells #[.slice (some ⟨bt,ot,none⟩) 1 ct,.slice (some ⟨br,or_,none⟩) 1 cr] 32)).alloc (.cells #[.int .i64 0,.int .i64 0] 35))
 rw[←hwA]
 clear hwA
 go_wp2_with fail
 refine Calls.mono HC.out ?_
 rintro e w2 ⟨hb2,rfl⟩
 obtain⟨wB,hwB⟩:∃wB,wB=((w2.alloc (.cells #[.slice none 0 0,.slice none 0 0] 32)).alloc (.cells #[.int .i64 211,.int .i64 9] 35)):=⟨_,rfl⟩
 have hbB:Below w2.heap.size w2 wB:=by rw[hwB];exact below_two w2 _ _
 obtain⟨Y0,Y1,_⟩:=two_new' w2 (.cells #[.slice none 0 0,.slice none 0 0] 32) (.cells #[.int .i64 211,.int .i64 9] 35)
 rw[←hwB] at Y0 Y1
 have hszB:w2.heap.size+1<wB.heap.size:=(Array.getElem?_eq_some_iff.1 Y1).1
 have hsz2:wA.heap.size≤w2.heap.size:=hb2.size
 have hbAB:=hb2.trans (hbB.mono hb2.size)
 have Z0:=heap_below hbAB HX0.out (by omega)
 have Z1:=heap_below hbAB HX1.out (by omega)
 have HBB:=Hd (HBA.out.trans (hbAB.mono HBA.out.size))
 have HZ0:=Hd Z0
 have HZ1:=Hd Z1
 have HY1:=Hd Y1
 clear hb2 hbB hbAB HX0 HX1 Z0 Z1 Y0 Y1 HC
 go_upto_region 3 with fail
 change Code.wp _ _ _ _ ((w2.alloc (.cells #[.slice none 0 0,.slice none 0 0] 32)).alloc (.cells #[.int .i64 211,.int .i64 9] 35))
 rw[←hwB]
 clear hwB
 obtain⟨a0,a1,_,_⟩:=cells2p HZ0.out
 obtain⟨b0,b1,_,_⟩:=cells2p HZ1.out
 obtain⟨c0,c1,_,_⟩:=cells2p HY1.out
 obtain⟨d1,d2,d3,d4,d5,d6,_⟩:=HX.out wB HBB.out
 go_upto_region 6 with fail
 clear a0 a1 b0 b1 c0 c1 d1 d2 d3 d4 d5 d6
 change Code.wp _ _ _ _ (wB.alloc (.cells #[.string r.name,.int .i64 r.sal,.int .i64 2,.slice (some ⟨bc,oc,none⟩) 2 cc,.slice (some ⟨bx,ox,none⟩) 2 cx] 46))
 obtain⟨wC,hwC⟩:∃wC,wC=(wB.alloc (.cells #[.string r.name,.int .i64 r.sal,.int .i64 2,.slice (some ⟨bc,oc,none⟩) 2 cc,.slice (some ⟨bx,ox,none⟩) 2 cx] 46)):=⟨_,rfl⟩
 have hbC:Below wB.heap.size wB wC:=by rw[hwC];exact (Below.refl _ wB).alloc (Nat.le_refl _) _
 have V:=heap_alloc_new wB (.cells #[.string r.name,.int .i64 r.sal,.int .i64 2,.slice (some ⟨bc,oc,none⟩) 2 cc,.slice (some ⟨bx,ox,none⟩) 2 cx] 46)
 rw[←hwC] at V ⊢
 have HBC:=Hd (HBB.out.trans (hbC.mono HBB.out.size))
 obtain⟨v0,v1,v2,v3,v4⟩:=cells5 V
 obtain⟨a0,a1,_,_⟩:=cells2p (heap_below hbC HZ0.out (by omega))
 obtain⟨d1,d2,d3,d4,d5,d6,d7,d8,d9,d10⟩:=HX.out wC HBC.out
 have HRC:=Hd (HR.out wC HBC.out)
 clear hwC V hbC HX HR
 go_wp2_with fail
 refine Calls.mono HRC.out ?_
 rintro e w3 ⟨rfl,hb3⟩
 have HB3:=Hd (HB1.out.trans ((HBC.out.trans (hb3.mono HBC.out.size)).mono HB1.out.size))
 clear hb3
 go_wp2_with fail
 go_ret
 exact⟨rfl,HB3.out⟩
end Go.Proofs.YtglbjooofdnbkaaGreatDoor
