/- Several texts joined, each with its own sentence and conditions ahead of it: ParsJ, ParsK, ParsL, ParsM, ParsO, Upn. -/
import Derived.Test.YtglbjooofdnbkaaGreatDoorMW
namespace Go.Proofs.YtglbjooofdnbkaaGreatDoor
set_option maxHeartbeats 2000000
set_option maxRecDepth 100000
open Go.RowKit
def tAssert:ByteArray:=⟨#[97,115,115,101,114,116]⟩
def tRetract:ByteArray:=⟨#[114,101,116,114,97,99,116]⟩
def tSay:ByteArray:=⟨#[115,97,121]⟩
def tHalt:ByteArray:=⟨#[104,97,108,116]⟩
def actM (ts:List Tok) (σ:PS):Tree×PS:=
 if isM ts σ [tAssert]=true then (.mk 8 (ofM ts (nextM ts σ) 2 8).1.text 0 (atM ts σ) (listM ts (exprM ts) (ofM ts (nextM ts σ) 2 8).2).1,wantM ts (listM ts (exprM ts) (ofM ts (nextM ts σ) 2 8).2).2 tSemi)
 else if isM ts σ [tRetract]=true then (.mk 9 ⟨#[]⟩ (numM ts (nextM ts σ)).1 (atM ts σ) [],wantM ts (numM ts (nextM ts σ)).2 tSemi)
 else if isM ts σ [tSay]=true then (.mk 10 ⟨#[]⟩ 0 (atM ts σ) (rowM ts (exprM ts) (nextM ts σ)).1,wantM ts (rowM ts (exprM ts) (nextM ts σ)).2 tSemi)
 else (.mk 11 ⟨#[]⟩ 0 (atM ts σ) [],wantM ts (wantM ts σ tHalt) tSemi)
theorem actM_ge (ts:List Tok)(σ:PS):σ.1≤(actM ts σ).2.1:=by
 unfold actM
 have h2:=(nextM_ge ts σ).1
 (repeat' split)
 ·exact Nat.le_trans h2 (Nat.le_trans (ofM_ge ts _ 2 8) (Nat.le_trans (listM_ge (exprM_ge ts) _) (wantM_ge ts _ _)))
 ·exact Nat.le_trans h2 (Nat.le_trans (numM_ge ts _) (wantM_ge ts _ _))
 ·exact Nat.le_trans h2 (Nat.le_trans (rowM_ge (exprM_ge ts) _) (wantM_ge ts _ _))
 ·exact Nat.le_trans (wantM_ge ts _ _) (wantM_ge ts _ _)
theorem reads_expr {ts:List Tok}(hts:TsOk ts):ReadsN ts 130 (exprM ts):=fun _σ _w _P _L _cap h=>pexpr_all hts h
theorem fits_num {kind:Nat}{n:Nat}{pl:Int}{ks:List Tree}(hk:kind<256)(hn:n≤2147483647)(h0:0≤pl)(h1:pl≤16384):Fits (.mk kind ⟨#[]⟩ n pl ks):=
 ⟨hk,by show (0:Nat)≤maxLen;exact Nat.zero_le _,by show (-9223372036854775808:Int)≤n;omega,by show (n:Int)<9223372036854775808;omega,by show (-9223372036854775808:Int)≤pl;omega,by show pl<9223372036854775808;omega⟩
theorem pact_any {ts:List Tok}(hts:TsOk ts):ReadsN ts 106 (actM ts):=by
 intro σ w P L cap h
 have hb0:Below w.heap.size w (w.alloc (.cells zeroN 25)):=(Below.refl _ w).alloc (Nat.le_refl _) _
 have HC:=Hd (pnow_res (h.below hb0))
 have H0:=Hd (h.turns hb0)
 have hP:=h.lt.1
 have HL:=Hd h.lt.2
 have HX:=Hd (heap_alloc_new w (.cells zeroN 25))
 have HTS:=Hd hts
 have HList:=Hd (fun σ w P L cap h=>plist_any hts (enters_of Tryz.func130 (by kernel_rfl) rfl) (reads_expr hts) (exprM_ge ts) σ w P L cap h)
 have HRow:=Hd (fun σ w P L cap h=>prow_any hts (enters_of Tryz.func130 (by kernel_rfl) rfl) (reads_expr hts) (exprM_ge ts) σ w P L cap h)
 obtain⟨R,hRR⟩:∃R,actM ts σ=R:=⟨_,rfl⟩
 rw[hRR]
 have hR:=hRR
 unfold actM at hR
 obtain⟨at_,hat⟩:∃a,atM ts σ=a:=⟨_,rfl⟩
 rw[hat] at HC hR
 have HR0:=Hd hR
 have HAt:Hid (0≤at_∧at_≤16384):=by
  show _∧_
  obtain⟨_,_,g3⟩:=tokM_ok HTS.out σ.1
  rw[←hat]
  unfold atM
  omega
 clear h hb0 hts hRR hR hat
 generalize kdM ts σ=kd at HC
 generalize txM ts σ=tx at HC
 go_enter Tryz.func106,Tryz.ntmps106
 go_wp2_with fail
 refine Calls.mono HC.out ?_
 rintro e w1 ⟨rfl,hb1⟩
 have hFA:=run_lexAt kd tx at_ w1
 have HT1:=Hd (H0.out.of_below hb1)
 have HX1:=Hd (heap_below hb1 HX.out (by simp))
 have hl1:w.heap.size<w1.heap.size:=(Array.getElem?_eq_some_iff.1 HX1.out).1
 clear hb1
 obtain⟨wA,hwA⟩:∃wA,wA=w1.alloc (.cells #[.int .u8 0,.string ⟨#[]⟩,.int .i64 0,.int .i64 at_,.slice none 0 0] 25):=⟨_,rfl⟩
 have hlA:w1.heap.size<wA.heap.size:=by rw[hwA];simp
 have HTA:Hid (Turns w P L cap ts σ.1 σ.2 wA):=by rw[hwA];exact HT1.out.alloc _
 have HNA:Hid (wA.heap[w1.heap.size]? = some (.cells #[.int .u8 0,.string ⟨#[]⟩,.int .i64 0,.int .i64 at_,.slice none 0 0] 25 (0,0))):=by rw[hwA];exact heap_alloc_new w1 _
 have HXA:Hid (wA.heap[w.heap.size]? = some (.cells zeroN 25 (0,0))):=by rw[hwA];exact (Below.heap_alloc w1 _ _ hl1).trans HX1.out
 go_upto_region 4 with fail
 change Code.wp _ _ _ _ (w1.alloc (.cells #[.int .u8 0,.string ⟨#[]⟩,.int .i64 0,.int .i64 at_,.slice none 0 0] 25))
 rw[←hwA]
 clear hFA hwA
 have HTB:=Hd (HTA.out.alloc (.cells #[.string tAssert] 9))
 have HNB:=Hd ((Below.heap_alloc wA (.cells #[.string tAssert] 9) w1.heap.size hlA).trans HNA.out)
 have HXB:=Hd ((Below.heap_alloc wA (.cells #[.string tAssert] 9) w.heap.size (by omega)).trans HXA.out)
 have HSk:=Hd (pskip_res HTB.out.2 wA.heap.size 0 1 1 [tAssert] (textsAt_new [tAssert]) rfl (by omega))
 go_wp2_with fail
 refine Calls.mono HSk.out ?_
 rintro e w2 ⟨rfl,ht⟩
 have HT2:=Hd (HTB.out.trans ht)
 have HX2:=Hd (ht.box HXB.out hP (Nat.le_refl _))
 have HN2:=Hd (ht.box HNB.out hP (Nat.le_of_lt hl1))
 have hl2:w1.heap.size<w2.heap.size:=(Array.getElem?_eq_some_iff.1 HN2.out).1
 clear ht HTB HNB HXB HSk
 by_cases hm:isM ts σ [tAssert]=true
 ·have hR:=HR0.out
  rw[if_pos hm] at hR
  have hsk:skipM ts σ [tAssert]=nextM ts σ:=by unfold skipM;rw[if_pos hm]
  rw[hsk] at HT2
  have hm':isM ts σ [tAssert]=true:=by simpa using hm
  rw[hm']
  have HR1:=Hd hR
  clear hR hsk hm hm'
  obtain⟨w3,hw3⟩:∃w3,w3=(w2.setCell ⟨w1.heap.size,0,none⟩ (.int .u8 8)):=⟨_,rfl⟩
  have hs3:w3.heap.size=w2.heap.size:=by rw[hw3];simp[World.setCell]
  have hl3:w1.heap.size<w3.heap.size:=by omega
  have HT3:Hid (Turns w P L cap ts (nextM ts σ).1 (nextM ts σ).2 w3):=by rw[hw3];exact (HT2.out.setCell hP HL.out (by omega) 0 _)
  have HX3:Hid (w3.heap[w.heap.size]? = some (.cells zeroN 25 (0,0))):=by rw[hw3];exact ((Below.heap_setCell _ _ _ _ (show w.heap.size≠w1.heap.size by omega)).trans HX2.out)
  have HN3:Hid (w3.heap[w1.heap.size]? = some (.cells #[.int .u8 8,.string ⟨#[]⟩,.int .i64 0,.int .i64 at_,.slice none 0 0] 25 (0,0))):=by rw[hw3];exact (heap_set HN2.out 0 _)
  have f0:=frozen5 HN2.out 0
  obtain⟨n0,n1,n2,n3,n4⟩:=cells5 HN2.out
  have H3:=Hd hw3
  clear hw3
  go_upto_region 6 with fail
  change Code.wp _ _ _ _ (w2.setCell ⟨w1.heap.size,0,none⟩ (.int .u8 8))
  rw[←H3.out]
  clear n0 n1 n2 n3 n4 f0
  have HNm:=Hd (pname_any HTS.out HT3.out.2 8 (by omega))
  have hfit:(ofM ts (nextM ts σ) 2 8).1.text.size≤16384:=(tokM_ok HTS.out _).2.1
  generalize ofM ts (nextM ts σ) 2 8=nm at *
  have HFit:=Hd hfit
  obtain⟨n0,n1,n2,n3,n4⟩:=cells5 HN3.out
  clear hfit
  go_wp2_with fail
  refine Calls.mono HNm.out ?_
  rintro e w4 ⟨d,s,rfl,hT4,ho,hf⟩
  have HT4:=Hd (HT3.out.trans hT4)
  have HX4:=Hd (hT4.box HX3.out hP (Nat.le_refl _))
  have HN4:=Hd (hT4.box HN3.out hP (Nat.le_of_lt hl1))
  have hl4:w1.heap.size<w4.heap.size:=(Array.getElem?_eq_some_iff.1 HN4.out).1
  have hg4:w3.heap.size≤w4.heap.size:=hT4.1.size
  obtain⟨p,c,rfl⟩:=ho.shape
  have hFT:=run_nodeText nm.1.kind nm.1.text nm.1.num nm.1.place nm.1.kids.length p c w4
  clear hT4 ho hf n0 n1 n2 n3 n4
  obtain⟨w5,hw5⟩:∃w5,w5=(w4.setCell ⟨w1.heap.size,1,none⟩ (.string nm.1.text)):=⟨_,rfl⟩
  have hs5:w5.heap.size=w4.heap.size:=by rw[hw5];simp[World.setCell]
  have hl5:w1.heap.size<w5.heap.size:=by omega
  have HT5:Hid (Turns w P L cap ts nm.2.1 nm.2.2 w5):=by rw[hw5];exact (HT4.out.setCell hP HL.out (by omega) 1 _)
  have HX5:Hid (w5.heap[w.heap.size]? = some (.cells zeroN 25 (0,0))):=by rw[hw5];exact ((Below.heap_setCell _ _ _ _ (show w.heap.size≠w1.heap.size by omega)).trans HX4.out)
  have HN5:Hid (w5.heap[w1.heap.size]? = some (.cells #[.int .u8 8,.string nm.1.text,.int .i64 0,.int .i64 at_,.slice none 0 0] 25 (0,0))):=by rw[hw5];exact (heap_set HN4.out 1 _)
  have f1:=frozen5 HN4.out 1
  obtain⟨n0,n1,n2,n3,n4⟩:=cells5 HN4.out
  have H5:=Hd hw5
  clear hw5
  go_upto_region 7 with fail
  change Code.wp _ _ _ _ (w4.setCell ⟨w1.heap.size,1,none⟩ (.string nm.1.text))
  rw[←H5.out]
  clear n0 n1 n2 n3 n4 f1
  clear hFT
  have HLi:=Hd (HList.out nm.2 w5 P L cap HT5.out.2)
  generalize listM ts (exprM ts) nm.2=l at *
  go_wp2_with fail
  refine Calls.mono HLi.out ?_
  rintro e w6 ⟨d2,s2,rfl,hT6,ho2⟩
  have HT6:=Hd (HT5.out.trans hT6)
  have HX6:=Hd (hT6.box HX5.out hP (Nat.le_refl _))
  have HN6:=Hd (hT6.box HN5.out hP (Nat.le_of_lt hl1))
  have hl6:w1.heap.size<w6.heap.size:=(Array.getElem?_eq_some_iff.1 HN6.out).1
  have hg6:w5.heap.size≤w6.heap.size:=hT6.1.size
  obtain⟨p2,c2,rfl⟩:=ho2.shape
  have HO6:=Hd ho2
  clear hT6 ho2
  obtain⟨w7,hw7⟩:∃w7,w7=(w6.setCell ⟨w1.heap.size,4,none⟩ (.slice p2 l.1.length c2)):=⟨_,rfl⟩
  have hs7:w7.heap.size=w6.heap.size:=by rw[hw7];simp[World.setCell]
  have hl7:w1.heap.size<w7.heap.size:=by omega
  have HT7:Hid (Turns w P L cap ts l.2.1 l.2.2 w7):=by rw[hw7];exact (HT6.out.setCell hP HL.out (by omega) 4 _)
  have HX7:Hid (w7.heap[w.heap.size]? = some (.cells zeroN 25 (0,0))):=by rw[hw7];exact ((Below.heap_setCell _ _ _ _ (show w.heap.size≠w1.heap.size by omega)).trans HX6.out)
  have HN7:Hid (w7.heap[w1.heap.size]? = some (.cells #[.int .u8 8,.string nm.1.text,.int .i64 0,.int .i64 at_,.slice p2 l.1.length c2] 25 (0,0))):=by rw[hw7];exact (heap_set HN6.out 4 _)
  have f4:=frozen5 HN6.out 4
  obtain⟨n0,n1,n2,n3,n4⟩:=cells5 HN6.out
  have H7:=Hd hw7
  clear hw7
  go_upto_region 12 with fail
  change Code.wp _ _ _ _ (w6.setCell ⟨w1.heap.size,4,none⟩ (.slice p2 l.1.length c2))
  rw[←H7.out]
  clear n0 n1 n2 n3 n4 f4
  have HO7:Hid (OwnAt w7 d2 l.1 (.slice p2 l.1.length c2) (Between w5.heap.size w7.heap.size)):=by rw[hs7,H7.out];exact HO6.out.keep fun b o hb hx=>(Below.heap_setCell _ _ _ _ (show b≠w1.heap.size by have:=hb.1;omega)).trans hx
  have HW:=Hd (pwant_res HT7.out.2 tSemi)
  go_wp2_with fail
  refine Calls.mono HW.out ?_
  rintro e w8 ⟨rfl,hT8⟩
  have HT8:=Hd (HT7.out.trans hT8)
  have HX8:=Hd (hT8.box HX7.out hP (Nat.le_refl _))
  have HN8:=Hd (hT8.box HN7.out hP (Nat.le_of_lt hl1))
  have hl8:w1.heap.size<w8.heap.size:=(Array.getElem?_eq_some_iff.1 HN8.out).1
  have hg8:w7.heap.size≤w8.heap.size:=hT8.1.size
  have HO8:=Hd ((HO7.out.keep fun b o hb hx=>grownBy_keep hT8.1 hx (by have:=hb.1;omega)).sub (G:=Between w5.heap.size w8.heap.size) fun b hb=>⟨hb.1,Nat.lt_of_lt_of_le hb.2 hT8.1.size⟩)
  obtain⟨n0,n1,n2,n3,n4⟩:=cells5 HN8.out
  obtain⟨a0,a1,a2,a3,a4⟩:=cells5 HX8.out
  have z0:=frozen5 HX8.out 0
  have z1:=frozen5 HX8.out 1
  have z2:=frozen5 HX8.out 2
  have z3:=frozen5 HX8.out 3
  have z4:=frozen5 HX8.out 4
  clear hT8
  go_wp2_with fail
  refine ret_node Tryz.results106 rfl (heap_set5 HX8.out _ _ _ _ _) rfl ?_
  rw[←HR1.out]
  exact NodeRes.stored (r:=(.mk 8 nm.1.text 0 at_ l.1,wantM ts l.2 tSemi)) (B:=w5.heap.size) hP HL.out HT8.out HO8.out (fits_mk (by omega) HFit.out HAt.out.1 HAt.out.2) (Nat.le_refl _) (by omega) _ _ _ _ _
 ·have hR:=HR0.out
  rw[if_neg hm] at hR
  have hsk:skipM ts σ [tAssert]=σ:=by unfold skipM;rw[if_neg hm]
  rw[hsk] at HT2
  have hm':isM ts σ [tAssert]=false:=by simpa using hm
  rw[hm']
  have HR1:=Hd hR
  clear hR hsk hm hm'
  have HTB:=Hd (HT2.out.alloc (.cells #[.string tRetract] 9))
  have HNB:=Hd ((Below.heap_alloc w2 (.cells #[.string tRetract] 9) w1.heap.size hl2).trans HN2.out)
  have HXB:=Hd ((Below.heap_alloc w2 (.cells #[.string tRetract] 9) w.heap.size (by omega)).trans HX2.out)
  have HSk:=Hd (pskip_res HTB.out.2 w2.heap.size 0 1 1 [tRetract] (textsAt_new [tRetract]) rfl (by omega))
  go_wp2_with fail
  refine Calls.mono HSk.out ?_
  rintro e w3 ⟨rfl,ht⟩
  have HT3:=Hd (HTB.out.trans ht)
  have HX3:=Hd (ht.box HXB.out hP (Nat.le_refl _))
  have HN3:=Hd (ht.box HNB.out hP (Nat.le_of_lt hl1))
  have hl3:w1.heap.size<w3.heap.size:=(Array.getElem?_eq_some_iff.1 HN3.out).1
  clear ht HTB HNB HXB HSk
  by_cases hm:isM ts σ [tRetract]=true
  ·have hR:=HR1.out
   rw[if_pos hm] at hR
   have hsk:skipM ts σ [tRetract]=nextM ts σ:=by unfold skipM;rw[if_pos hm]
   rw[hsk] at HT3
   have hm':isM ts σ [tRetract]=true:=by simpa using hm
   rw[hm']
   have HR2:=Hd hR
   clear hR hsk hm hm'
   have HNu:=Hd (pnumber_any HTS.out HT3.out.2)
   have hsm:=numM_small ts (nextM ts σ)
   generalize numM ts (nextM ts σ)=nu at *
   have HSm:=Hd hsm
   clear hsm
   go_wp2_with fail
   refine Calls.mono HNu.out ?_
   rintro e w4 ⟨rfl,hT4⟩
   have HT4:=Hd (HT3.out.trans hT4)
   have HX4:=Hd (hT4.box HX3.out hP (Nat.le_refl _))
   have HN4:=Hd (hT4.box HN3.out hP (Nat.le_of_lt hl1))
   have hl4:w1.heap.size<w4.heap.size:=(Array.getElem?_eq_some_iff.1 HN4.out).1
   have hg4:w3.heap.size≤w4.heap.size:=hT4.1.size
   clear hT4
   obtain⟨w5,hw5⟩:∃w5,w5=((w4.setCell ⟨w1.heap.size,0,none⟩ (.int .u8 9)).setCell ⟨w1.heap.size,2,none⟩ (.int .i64 nu.1)):=⟨_,rfl⟩
   have hs5:w5.heap.size=w4.heap.size:=by rw[hw5];simp[World.setCell]
   have hl5:w1.heap.size<w5.heap.size:=by omega
   have HT5:Hid (Turns w P L cap ts nu.2.1 nu.2.2 w5):=by rw[hw5];exact ((HT4.out.setCell hP HL.out (by omega) 0 _).setCell hP HL.out (by omega) 2 _)
   have HX5:Hid (w5.heap[w.heap.size]? = some (.cells zeroN 25 (0,0))):=by rw[hw5];exact ((Below.heap_setCell _ _ _ _ (show w.heap.size≠w1.heap.size by omega)).trans ((Below.heap_setCell _ _ _ _ (show w.heap.size≠w1.heap.size by omega)).trans HX4.out))
   have HN5:Hid (w5.heap[w1.heap.size]? = some (.cells #[.int .u8 9,.string ⟨#[]⟩,.int .i64 nu.1,.int .i64 at_,.slice none 0 0] 25 (0,0))):=by rw[hw5];exact (heap_set (heap_set HN4.out 0 _) 2 _)
   have f0:=frozen5 HN4.out 0
   have f2:=frozen5 HN4.out 2
   obtain⟨n0,n1,n2,n3,n4⟩:=cells5 HN4.out
   have H5:=Hd hw5
   clear hw5
   go_upto_region 12 with fail
   change Code.wp _ _ _ _ ((w4.setCell ⟨w1.heap.size,0,none⟩ (.int .u8 9)).setCell ⟨w1.heap.size,2,none⟩ (.int .i64 nu.1))
   rw[←H5.out]
   clear n0 n1 n2 n3 n4 f0 f2
   have HO5:Hid (OwnAt w5 0 [] (.slice none 0 0) (Between w5.heap.size w5.heap.size)):=own_nil _ _
   have HW:=Hd (pwant_res HT5.out.2 tSemi)
   go_wp2_with fail
   refine Calls.mono HW.out ?_
   rintro e w6 ⟨rfl,hT6⟩
   have HT6:=Hd (HT5.out.trans hT6)
   have HX6:=Hd (hT6.box HX5.out hP (Nat.le_refl _))
   have HN6:=Hd (hT6.box HN5.out hP (Nat.le_of_lt hl1))
   have hl6:w1.heap.size<w6.heap.size:=(Array.getElem?_eq_some_iff.1 HN6.out).1
   have hg6:w5.heap.size≤w6.heap.size:=hT6.1.size
   have HO6:=Hd ((HO5.out.keep fun b o hb hx=>grownBy_keep hT6.1 hx (by have:=hb.1;omega)).sub (G:=Between w5.heap.size w6.heap.size) fun b hb=>⟨hb.1,Nat.lt_of_lt_of_le hb.2 hT6.1.size⟩)
   obtain⟨n0,n1,n2,n3,n4⟩:=cells5 HN6.out
   obtain⟨a0,a1,a2,a3,a4⟩:=cells5 HX6.out
   have z0:=frozen5 HX6.out 0
   have z1:=frozen5 HX6.out 1
   have z2:=frozen5 HX6.out 2
   have z3:=frozen5 HX6.out 3
   have z4:=frozen5 HX6.out 4
   clear hT6
   go_wp2_with fail
   refine ret_node Tryz.results106 rfl (heap_set5 HX6.out _ _ _ _ _) rfl ?_
   rw[←HR2.out]
   exact NodeRes.stored (r:=(.mk 9 ⟨#[]⟩ nu.1 at_ [],wantM ts nu.2 tSemi)) (B:=w5.heap.size) hP HL.out HT6.out HO6.out (fits_num (by omega) HSm.out HAt.out.1 HAt.out.2) (Nat.le_refl _) (by omega) _ _ _ _ _
  ·have hR:=HR1.out
   rw[if_neg hm] at hR
   have hsk:skipM ts σ [tRetract]=σ:=by unfold skipM;rw[if_neg hm]
   rw[hsk] at HT3
   have hm':isM ts σ [tRetract]=false:=by simpa using hm
   rw[hm']
   have HR2:=Hd hR
   clear hR hsk hm hm'
   have HTB:=Hd (HT3.out.alloc (.cells #[.string tSay] 9))
   have HNB:=Hd ((Below.heap_alloc w3 (.cells #[.string tSay] 9) w1.heap.size hl3).trans HN3.out)
   have HXB:=Hd ((Below.heap_alloc w3 (.cells #[.string tSay] 9) w.heap.size (by omega)).trans HX3.out)
   have HSk:=Hd (pskip_res HTB.out.2 w3.heap.size 0 1 1 [tSay] (textsAt_new [tSay]) rfl (by omega))
   go_wp2_with fail
   refine Calls.mono HSk.out ?_
   rintro e w4 ⟨rfl,ht⟩
   have HT4:=Hd (HTB.out.trans ht)
   have HX4:=Hd (ht.box HXB.out hP (Nat.le_refl _))
   have HN4:=Hd (ht.box HNB.out hP (Nat.le_of_lt hl1))
   have hl4:w1.heap.size<w4.heap.size:=(Array.getElem?_eq_some_iff.1 HN4.out).1
   clear ht HTB HNB HXB HSk
   by_cases hm:isM ts σ [tSay]=true
   ·have hR:=HR2.out
    rw[if_pos hm] at hR
    have hsk:skipM ts σ [tSay]=nextM ts σ:=by unfold skipM;rw[if_pos hm]
    rw[hsk] at HT4
    have hm':isM ts σ [tSay]=true:=by simpa using hm
    rw[hm']
    have HR3:=Hd hR
    clear hR hsk hm hm'
    have HLi:=Hd (HRow.out (nextM ts σ) w4 P L cap HT4.out.2)
    generalize rowM ts (exprM ts) (nextM ts σ)=l at *
    go_wp2_with fail
    refine Calls.mono HLi.out ?_
    rintro e w5 ⟨d2,s2,rfl,hT5,ho2⟩
    have HT5:=Hd (HT4.out.trans hT5)
    have HX5:=Hd (hT5.box HX4.out hP (Nat.le_refl _))
    have HN5:=Hd (hT5.box HN4.out hP (Nat.le_of_lt hl1))
    have hl5:w1.heap.size<w5.heap.size:=(Array.getElem?_eq_some_iff.1 HN5.out).1
    have hg5:w4.heap.size≤w5.heap.size:=hT5.1.size
    obtain⟨p2,c2,rfl⟩:=ho2.shape
    have HO5:=Hd ho2
    clear hT5 ho2
    obtain⟨w6,hw6⟩:∃w6,w6=((w5.setCell ⟨w1.heap.size,0,none⟩ (.int .u8 10)).setCell ⟨w1.heap.size,4,none⟩ (.slice p2 l.1.length c2)):=⟨_,rfl⟩
    have hs6:w6.heap.size=w5.heap.size:=by rw[hw6];simp[World.setCell]
    have hl6:w1.heap.size<w6.heap.size:=by omega
    have HT6:Hid (Turns w P L cap ts l.2.1 l.2.2 w6):=by rw[hw6];exact ((HT5.out.setCell hP HL.out (by omega) 0 _).setCell hP HL.out (by omega) 4 _)
    have HX6:Hid (w6.heap[w.heap.size]? = some (.cells zeroN 25 (0,0))):=by rw[hw6];exact ((Below.heap_setCell _ _ _ _ (show w.heap.size≠w1.heap.size by omega)).trans ((Below.heap_setCell _ _ _ _ (show w.heap.size≠w1.heap.size by omega)).trans HX5.out))
    have HN6:Hid (w6.heap[w1.heap.size]? = some (.cells #[.int .u8 10,.string ⟨#[]⟩,.int .i64 0,.int .i64 at_,.slice p2 l.1.length c2] 25 (0,0))):=by rw[hw6];exact (heap_set (heap_set HN5.out 0 _) 4 _)
    have f0:=frozen5 HN5.out 0
    have f4:=frozen5 HN5.out 4
    obtain⟨n0,n1,n2,n3,n4⟩:=cells5 HN5.out
    have H6:=Hd hw6
    clear hw6
    go_upto_region 12 with fail
    change Code.wp _ _ _ _ ((w5.setCell ⟨w1.heap.size,0,none⟩ (.int .u8 10)).setCell ⟨w1.heap.size,4,none⟩ (.slice p2 l.1.length c2))
    rw[←H6.out]
    clear n0 n1 n2 n3 n4 f0 f4
    have HO6:Hid (OwnAt w6 d2 l.1 (.slice p2 l.1.length c2) (Between w4.heap.size w6.heap.size)):=by rw[hs6,H6.out];exact HO5.out.keep fun b o hb hx=>(Below.heap_setCell _ _ _ _ (show b≠w1.heap.size by have:=hb.1;omega)).trans ((Below.heap_setCell _ _ _ _ (show b≠w1.heap.size by have:=hb.1;omega)).trans hx)
    have HW:=Hd (pwant_res HT6.out.2 tSemi)
    go_wp2_with fail
    refine Calls.mono HW.out ?_
    rintro e w7 ⟨rfl,hT7⟩
    have HT7:=Hd (HT6.out.trans hT7)
    have HX7:=Hd (hT7.box HX6.out hP (Nat.le_refl _))
    have HN7:=Hd (hT7.box HN6.out hP (Nat.le_of_lt hl1))
    have hl7:w1.heap.size<w7.heap.size:=(Array.getElem?_eq_some_iff.1 HN7.out).1
    have hg7:w6.heap.size≤w7.heap.size:=hT7.1.size
    have HO7:=Hd ((HO6.out.keep fun b o hb hx=>grownBy_keep hT7.1 hx (by have:=hb.1;omega)).sub (G:=Between w4.heap.size w7.heap.size) fun b hb=>⟨hb.1,Nat.lt_of_lt_of_le hb.2 hT7.1.size⟩)
    obtain⟨n0,n1,n2,n3,n4⟩:=cells5 HN7.out
    obtain⟨a0,a1,a2,a3,a4⟩:=cells5 HX7.out
    have z0:=frozen5 HX7.out 0
    have z1:=frozen5 HX7.out 1
    have z2:=frozen5 HX7.out 2
    have z3:=frozen5 HX7.out 3
    have z4:=frozen5 HX7.out 4
    clear hT7
    go_wp2_with fail
    refine ret_node Tryz.results106 rfl (heap_set5 HX7.out _ _ _ _ _) rfl ?_
    rw[←HR3.out]
    exact NodeRes.stored (r:=(.mk 10 ⟨#[]⟩ 0 at_ l.1,wantM ts l.2 tSemi)) (B:=w4.heap.size) hP HL.out HT7.out HO7.out (fits_mk (by omega) (by show (0:Nat)≤16384;omega) HAt.out.1 HAt.out.2) (Nat.le_refl _) (by omega) _ _ _ _ _
   ·have hR:=HR2.out
    rw[if_neg hm] at hR
    have hsk:skipM ts σ [tSay]=σ:=by unfold skipM;rw[if_neg hm]
    rw[hsk] at HT4
    have hm':isM ts σ [tSay]=false:=by simpa using hm
    rw[hm']
    have HR3:=Hd hR
    clear hR hsk hm hm'
    obtain⟨w5,hw5⟩:∃w5,w5=(w4.setCell ⟨w1.heap.size,0,none⟩ (.int .u8 11)):=⟨_,rfl⟩
    have hs5:w5.heap.size=w4.heap.size:=by rw[hw5];simp[World.setCell]
    have hl5:w1.heap.size<w5.heap.size:=by omega
    have HT5:Hid (Turns w P L cap ts σ.1 σ.2 w5):=by rw[hw5];exact (HT4.out.setCell hP HL.out (by omega) 0 _)
    have HX5:Hid (w5.heap[w.heap.size]? = some (.cells zeroN 25 (0,0))):=by rw[hw5];exact ((Below.heap_setCell _ _ _ _ (show w.heap.size≠w1.heap.size by omega)).trans HX4.out)
    have HN5:Hid (w5.heap[w1.heap.size]? = some (.cells #[.int .u8 11,.string ⟨#[]⟩,.int .i64 0,.int .i64 at_,.slice none 0 0] 25 (0,0))):=by rw[hw5];exact (heap_set HN4.out 0 _)
    have f0:=frozen5 HN4.out 0
    obtain⟨n0,n1,n2,n3,n4⟩:=cells5 HN4.out
    have H5:=Hd hw5
    clear hw5
    go_upto_region 3 with fail
    change Code.wp _ _ _ _ (w4.setCell ⟨w1.heap.size,0,none⟩ (.int .u8 11))
    rw[←H5.out]
    clear n0 n1 n2 n3 n4 f0
    have HWh:=Hd (pwant_res HT5.out.2 tHalt)
    generalize wantM ts σ tHalt=σh at *
    go_wp2_with fail
    refine Calls.mono HWh.out ?_
    rintro e w6 ⟨rfl,hT6⟩
    have HT6:=Hd (HT5.out.trans hT6)
    have HX6:=Hd (hT6.box HX5.out hP (Nat.le_refl _))
    have HN6:=Hd (hT6.box HN5.out hP (Nat.le_of_lt hl1))
    have hl6:w1.heap.size<w6.heap.size:=(Array.getElem?_eq_some_iff.1 HN6.out).1
    have hg6:w5.heap.size≤w6.heap.size:=hT6.1.size
    clear hT6
    have HO6:Hid (OwnAt w6 0 [] (.slice none 0 0) (Between w6.heap.size w6.heap.size)):=own_nil _ _
    have HW:=Hd (pwant_res HT6.out.2 tSemi)
    go_wp2_with fail
    refine Calls.mono HW.out ?_
    rintro e w7 ⟨rfl,hT7⟩
    have HT7:=Hd (HT6.out.trans hT7)
    have HX7:=Hd (hT7.box HX6.out hP (Nat.le_refl _))
    have HN7:=Hd (hT7.box HN6.out hP (Nat.le_of_lt hl1))
    have hl7:w1.heap.size<w7.heap.size:=(Array.getElem?_eq_some_iff.1 HN7.out).1
    have hg7:w6.heap.size≤w7.heap.size:=hT7.1.size
    have HO7:=Hd ((HO6.out.keep fun b o hb hx=>grownBy_keep hT7.1 hx (by have:=hb.1;omega)).sub (G:=Between w6.heap.size w7.heap.size) fun b hb=>⟨hb.1,Nat.lt_of_lt_of_le hb.2 hT7.1.size⟩)
    obtain⟨n0,n1,n2,n3,n4⟩:=cells5 HN7.out
    obtain⟨a0,a1,a2,a3,a4⟩:=cells5 HX7.out
    have z0:=frozen5 HX7.out 0
    have z1:=frozen5 HX7.out 1
    have z2:=frozen5 HX7.out 2
    have z3:=frozen5 HX7.out 3
    have z4:=frozen5 HX7.out 4
    clear hT7
    go_wp2_with fail
    refine ret_node Tryz.results106 rfl (heap_set5 HX7.out _ _ _ _ _) rfl ?_
    rw[←HR3.out]
    exact NodeRes.stored (r:=(.mk 11 ⟨#[]⟩ 0 at_ [],wantM ts σh tSemi)) (B:=w6.heap.size) hP HL.out HT7.out HO7.out (fits_mk (by omega) (by show (0:Nat)≤16384;omega) HAt.out.1 HAt.out.2) (Nat.le_refl _) (by omega) _ _ _ _ _
def tAny:ByteArray:=⟨#[95]⟩
def argM (ts:List Tok) (σ:PS):Tree×PS:=
 if isM ts σ [tAny]=true then (.mk 12 ⟨#[]⟩ 0 (atM ts σ) [],nextM ts σ)
 else if isM ts σ [tMinus]=true then (.mk 14 (tMinus++txM ts (nextM ts σ)) 0 (atM ts σ) [],(ofM ts (nextM ts σ) 4 14).2)
 else if kdM ts σ=5 then ofM ts σ 5 15
 else if kdM ts σ=3 then ofM ts σ 3 13
 else ofM ts σ 4 14
theorem argM_ge (ts:List Tok)(σ:PS):σ.1≤(argM ts σ).2.1:=by
 unfold argM
 have h2:=(nextM_ge ts σ).1
 (repeat' split)
 ·exact h2
 ·exact Nat.le_trans h2 (ofM_ge ts _ 4 14)
 ·exact ofM_ge _ _ _ _
 ·exact ofM_ge _ _ _ _
 ·exact ofM_ge _ _ _ _
theorem fits_long {kind:Nat}{tx:ByteArray}{pl:Int}{ks:List Tree}(hk:kind<256)(ht:tx.size≤16385)(h0:0≤pl)(h1:pl≤16384):Fits (.mk kind tx 0 pl ks):=
 ⟨hk,by show tx.size≤maxLen;unfold maxLen;omega,by show (-9223372036854775808:Int)≤0;omega,by show (0:Int)<9223372036854775808;omega,by show (-9223372036854775808:Int)≤pl;omega,by show pl<9223372036854775808;omega⟩
theorem parg_any {ts:List Tok}(hts:TsOk ts):ReadsN ts 131 (argM ts):=by
 intro σ w P L cap h
 have hb0:Below w.heap.size w (w.alloc (.cells zeroN 25)):=(Below.refl _ w).alloc (Nat.le_refl _) _
 have HC:=Hd (pnow_res (h.below hb0))
 have H0:=Hd (h.turns hb0)
 have hP:=h.lt.1
 have HL:=Hd h.lt.2
 have HX:=Hd (heap_alloc_new w (.cells zeroN 25))
 have HTS:=Hd hts
 obtain⟨R,hRR⟩:∃R,argM ts σ=R:=⟨_,rfl⟩
 rw[hRR]
 have hR:=hRR.symm
 unfold argM at hR
 obtain⟨kd,hkd⟩:∃kd,kdM ts σ=kd:=⟨_,rfl⟩
 obtain⟨at_,hat⟩:∃a,atM ts σ=a:=⟨_,rfl⟩
 rw[hkd,hat] at HC hR
 have HR0:=Hd hR
 have HAt:Hid (0≤at_∧at_≤16384):=by
  show _∧_
  obtain⟨_,_,g3⟩:=tokM_ok HTS.out σ.1
  rw[←hat]
  unfold atM
  omega
 clear h hb0 hts hRR hR hat hkd
 generalize txM ts σ=tx at HC
 go_enter Tryz.func131,Tryz.ntmps131
 go_wp2_with fail
 refine Calls.mono HC.out ?_
 rintro e w1 ⟨rfl,hb1⟩
 have HT1:=Hd (H0.out.of_below hb1)
 have HX1:=Hd (heap_below hb1 HX.out (by simp))
 have hl1:w.heap.size<w1.heap.size:=(Array.getElem?_eq_some_iff.1 HX1.out).1
 clear hb1
 obtain⟨wA,hwA⟩:∃wA,wA=w1.alloc (.cells #[.int .u8 kd,.string tx,.int .i64 at_] 119):=⟨_,rfl⟩
 have hlA:w1.heap.size<wA.heap.size:=by rw[hwA];simp
 have HTA:Hid (Turns w P L cap ts σ.1 σ.2 wA):=by rw[hwA];exact HT1.out.alloc _
 have HNA:Hid (wA.heap[w1.heap.size]? = some (.cells #[.int .u8 kd,.string tx,.int .i64 at_] 119 (0,0))):=by rw[hwA];exact heap_alloc_new w1 _
 have HXA:Hid (wA.heap[w.heap.size]? = some (.cells zeroN 25 (0,0))):=by rw[hwA];exact (Below.heap_alloc w1 _ _ hl1).trans HX1.out
 go_upto_region 2 with fail
 change Code.wp _ _ _ _ (w1.alloc (.cells #[.int .u8 kd,.string tx,.int .i64 at_] 119))
 rw[←hwA]
 clear hwA
 have HTB:=Hd (HTA.out.alloc (.cells #[.string tAny] 9))
 have HNB:=Hd ((Below.heap_alloc wA (.cells #[.string tAny] 9) w1.heap.size hlA).trans HNA.out)
 have HXB:=Hd ((Below.heap_alloc wA (.cells #[.string tAny] 9) w.heap.size (by omega)).trans HXA.out)
 have HSk:=Hd (pskip_res HTB.out.2 wA.heap.size 0 1 1 [tAny] (textsAt_new [tAny]) rfl (by omega))
 go_wp2_with fail
 refine Calls.mono HSk.out ?_
 rintro e w2 ⟨rfl,ht⟩
 have HT2:=Hd (HTB.out.trans ht)
 have HX2:=Hd (ht.box HXB.out hP (Nat.le_refl _))
 have HN2:=Hd (ht.box HNB.out hP (Nat.le_of_lt hl1))
 have hl2:w1.heap.size<w2.heap.size:=(Array.getElem?_eq_some_iff.1 HN2.out).1
 clear ht HTB HNB HXB HSk
 by_cases hm:isM ts σ [tAny]=true
 ·have hR:=HR0.out
  rw[if_pos hm] at hR
  have hsk:skipM ts σ [tAny]=nextM ts σ:=by unfold skipM;rw[if_pos hm]
  rw[hsk] at HT2
  have hm':isM ts σ [tAny]=true:=by simpa using hm
  rw[hm']
  have HR1:=Hd hR
  clear hR hsk hm hm'
  have HR1':=HR1
  obtain⟨m0,m1,m2,_,_,_⟩:=cells3 HN2.out
  obtain⟨a0,a1,a2,a3,a4⟩:=cells5 HX2.out
  have z0:=frozen5 HX2.out 0
  have z1:=frozen5 HX2.out 1
  have z2:=frozen5 HX2.out 2
  have z3:=frozen5 HX2.out 3
  have z4:=frozen5 HX2.out 4
  go_wp2_with fail
  refine ret_node Tryz.results131 rfl (heap_set5 HX2.out _ _ _ _ _) rfl ?_
  rw[HR1.out]
  exact NodeRes.stored (r:=(.mk 12 ⟨#[]⟩ 0 at_ [],nextM ts σ)) (B:=w1.heap.size) hP HL.out HT2.out (own_nil _ _) (fits_mk (by omega) (by show (0:Nat)≤16384;omega) HAt.out.1 HAt.out.2) (Nat.le_refl _) hl1 _ _ _ _ _
 ·have hR:=HR0.out
  rw[if_neg hm] at hR
  have hsk:skipM ts σ [tAny]=σ:=by unfold skipM;rw[if_neg hm]
  rw[hsk] at HT2
  have hm':isM ts σ [tAny]=false:=by simpa using hm
  rw[hm']
  have HR1:=Hd hR
  clear hR hsk hm hm'
  have HTB:=Hd (HT2.out.alloc (.cells #[.string tMinus] 9))
  have HNB:=Hd ((Below.heap_alloc w2 (.cells #[.string tMinus] 9) w1.heap.size hl2).trans HN2.out)
  have HXB:=Hd ((Below.heap_alloc w2 (.cells #[.string tMinus] 9) w.heap.size (by omega)).trans HX2.out)
  have HSk:=Hd (pskip_res HTB.out.2 w2.heap.size 0 1 1 [tMinus] (textsAt_new [tMinus]) rfl (by omega))
  go_wp2_with fail
  refine Calls.mono HSk.out ?_
  rintro e w3 ⟨rfl,ht⟩
  have HT3:=Hd (HTB.out.trans ht)
  have HX3:=Hd (ht.box HXB.out hP (Nat.le_refl _))
  have HN3:=Hd (ht.box HNB.out hP (Nat.le_of_lt hl1))
  have hl3:w1.heap.size<w3.heap.size:=(Array.getElem?_eq_some_iff.1 HN3.out).1
  clear ht HTB HNB HXB HSk
  by_cases hm:isM ts σ [tMinus]=true
  ·have hR:=HR1.out
   rw[if_pos hm] at hR
   have hsk:skipM ts σ [tMinus]=nextM ts σ:=by unfold skipM;rw[if_pos hm]
   rw[hsk] at HT3
   have hm':isM ts σ [tMinus]=true:=by simpa using hm
   rw[hm']
   have HR2:=Hd hR
   clear hR hsk hm hm'
   have HO:=Hd (pof_any HT3.out.2 (tokM_at HT3.out.2.k) 4 14)
   have hto:=tokM_ok HTS.out (nextM ts σ).1
   have hRn:R=(.mk 14 (tMinus++(tokM ts (nextM ts σ).1).2.1) 0 at_ [],(nextK ts.length (nextM ts σ).1 ((nextM ts σ).2||(tokM ts (nextM ts σ).1).1 != 4),((nextM ts σ).2||(tokM ts (nextM ts σ).1).1 != 4))):=HR2.out
   generalize nextK ts.length (nextM ts σ).1 ((nextM ts σ).2||(tokM ts (nextM ts σ).1).1 != 4)=kn at *
   generalize ((nextM ts σ).2||(tokM ts (nextM ts σ).1).1 != 4)=bn at *
   obtain⟨_,ho2,ho3⟩:=hto
   generalize (tokM ts (nextM ts σ).1).2.1=tx2 at *
   generalize (tokM ts (nextM ts σ).1).2.2=at2 at *
   have HSz:=Hd ho2
   have HRn:=Hd hRn
   clear HR2 ho2 ho3 hRn
   go_wp2_with fail
   refine Calls.mono HO.out ?_
   rintro e w4 ⟨rfl,hT4⟩
   have HT4:=Hd (HT3.out.trans hT4)
   have hx4:=hT4.box HX3.out hP (Nat.le_refl _)
   have hn4:=hT4.box HN3.out hP (Nat.le_of_lt hl1)
   have hl4:w1.heap.size<w4.heap.size:=(Array.getElem?_eq_some_iff.1 hn4).1
   obtain⟨w5,hw5⟩:∃w5,w5=w4.alloc (.cells #[.int .u8 14,.string tx2,.int .i64 0,.int .i64 at2,.slice none 0 0] 25):=⟨_,rfl⟩
   have hb5:Below w4.heap.size w4 w5:=by rw[hw5];exact (Below.refl _ w4).alloc (Nat.le_refl _) _
   have HT5:=Hd (HT4.out.of_below hb5)
   have HX5:=Hd (heap_below hb5 hx4 (by omega))
   have HN5:=Hd (heap_below hb5 hn4 (by omega))
   have HM5:Hid (w5.heap[w4.heap.size]? = some (.cells #[.int .u8 14,.string tx2,.int .i64 0,.int .i64 at2,.slice none 0 0] 25 (0,0))):=by show _=_;rw[hw5];exact heap_alloc_new w4 _
   have hl5:w4.heap.size<w5.heap.size:=(Array.getElem?_eq_some_iff.1 HM5.out).1
   clear hT4 hx4 hn4 hb5
   go_upto_region 6 with fail
   change Code.wp _ _ _ _ (w4.alloc (.cells #[.int .u8 14,.string tx2,.int .i64 0,.int .i64 at2,.slice none 0 0] 25))
   rw[←hw5]
   clear hw5
   obtain⟨m0,m1,m2,_,_,_⟩:=cells3 HN5.out
   obtain⟨e0,e1,e2,e3,e4⟩:=cells5 HM5.out
   have fz1:=frozen5 HM5.out 1
   have hne:w1.heap.size≠w4.heap.size:=by omega
   obtain⟨w6,hw6⟩:∃w6,w6=w5.drew.setCell ⟨w4.heap.size,1,none⟩ (.string (tMinus++tx2)):=⟨_,rfl⟩
   have hm6:w6.cell? ⟨w1.heap.size,2,none⟩=some (.int .i64 at_):=by
    rw[hw6]
    exact cell_of_row _ _ _ _ _ _ ((Below.heap_setCell _ _ _ _ hne).trans HN5.out)
   have M2:=fun x:RE.Two w5.drew w6=>RE.Two.cell (show w5.drew.cell? _=_ from m2) hm6 x
   have E1:=fun x:RE.Two w5.drew w5.drew=>RE.Two.cell (show w5.drew.cell? _=_ from e1) (show w5.drew.cell? _=_ from e1) x
   have hM6:w6.heap[w4.heap.size]? = some (.cells #[.int .u8 14,.string (tMinus++tx2),.int .i64 0,.int .i64 at2,.slice none 0 0] 25 (0,0)):=by
    rw[hw6]
    exact heap_set (show w5.drew.heap[w4.heap.size]? = _ from HM5.out) 1 _
   have hX6:w6.heap[w.heap.size]? = some (.cells zeroN 25 (0,0)):=by
    rw[hw6]
    exact (Below.heap_setCell _ _ _ _ (show w.heap.size≠w4.heap.size by omega)).trans HX5.out
   have hT6:Turns w P L cap ts kn bn w6:=by
    rw[hw6]
    exact Turns.setCell ⟨World.grownBy.trans HT5.out.1 (grown_drewN (World.grownBy.refl w5 _) 1),HT5.out.2.drew⟩ hP HL.out (by omega) 1 _
   have HM6:=Hd hM6
   have HX6:=Hd hX6
   have HT6:=Hd hT6
   have H6:=Hd hw6
   have hcl:w5.drew.cell? ⟨w4.heap.size,1,none⟩=some (.string tx2):=e1
   have hfz:w5.drew.frozen? ⟨w4.heap.size,1,none⟩=false:=fz1
   have hadd:∀W:World,(Op.stringOp .add ⟨#[45]⟩ tx2).run Tryz.prog W=.ok (.string (tMinus++tx2)) W:=fun W=>run_string_add W _ _ (by show ((1:Nat):Int)≤8388608;omega) (by have:=HSz.out;omega)
   have hs1:(tx2.size:Int)≤8388608:=by have:=HSz.out;omega
   have hs2:((⟨#[45]⟩:ByteArray).size:Int)≤8388608:=by show ((1:Nat):Int)≤8388608;omega
   clear m0 m1 m2 e0 e1 e2 e3 e4 fz1 hm6 hM6 hX6 hT6 hw6
   refine RE.wp_region_eff (by kernel_rfl) 7 [6] [6] (fun s W=>if s=0 then W=w5.drew else W=w6) (fun _ _=>True) (fun _ _=>undef) (fun _ _ _=>True) (by kernel_rfl) (fun i h1 h2=>by rw[h1] at h2;cases h2) (fun _ _ _ _ _ _ _=>trivial) rfl ?_
   simp only[List.take_succ_cons,List.take_zero,List.drop_succ_cons,List.drop_zero,List.length_cons,List.length_nil,Nat.reduceAdd]
   repeat (first
    | (refine RE.wpE_read (fun W=>∃x:RE.Two w5.drew w6,W=x.1) RE.two_class rfl rfl rfl rfl ?_;go_big_quiet_step (fail);refine wpQuiet_nil ?_)
    | (refine RE.wpE_read (fun W=>∃x:RE.Two w5.drew w5.drew,W=x.1) (RE.one_class (by kernel_rfl)) rfl rfl rfl rfl ?_;go_big_quiet_step (fail);refine wpQuiet_nil ?_))
   refine RE.wpE_turn rfl rfl ?_ (fun xs=>?_)
   ·intro W hC hS _
    obtain rfl:W=w5.drew:=hS rfl
    refine RE.Upon.told (v:=undef) (w':=w5.drew.setCell ⟨w4.heap.size,1,none⟩ (.string (tMinus++tx2))) ?_ ⟨[],rfl,H6.out.symm,trivial,trivial⟩
    unfold RE.Upon
    go_simp
    try exact⟨rfl,rfl⟩
   simp only[Act.put]
   refine RE.wpE_nil ?_
   intro W hS _
   obtain rfl:w6=W:=(show W=w6 from hS).symm
   clear M2 E1 hcl hfz H6 hadd hs1 hs2
   obtain⟨e0,e1,e2,e3,e4⟩:=cells5 HM6.out
   have fz3:=frozen5 HM6.out 3
   obtain⟨a0,a1,a2,a3,a4⟩:=cells5 HX6.out
   have z0:=frozen5 HX6.out 0
   have z1:=frozen5 HX6.out 1
   have z2:=frozen5 HX6.out 2
   have z3:=frozen5 HX6.out 3
   have z4:=frozen5 HX6.out 4
   have HXn:=Hd ((Below.heap_setCell w6 ⟨w4.heap.size,3,none⟩ (.int .i64 at_) _ (show w.heap.size≠w4.heap.size by omega)).trans HX6.out)
   have HTn:=Hd (HT6.out.setCell hP HL.out (b:=w4.heap.size) (by omega) 3 (.int .i64 at_))
   have HLong:Hid ((tMinus++tx2).size≤16385):=by
    show _≤_
    rw[ByteArray.size_append,show tMinus.size=1 from rfl]
    have:=HSz.out
    omega
   generalize tMinus++tx2=tl at *
   go_wp2_with fail
   refine ret_node Tryz.results131 rfl (heap_set5 HXn.out _ _ _ _ _) rfl ?_
   rw[HRn.out]
   exact NodeRes.stored (r:=(.mk 14 tl 0 at_ [],(kn,bn))) (B:=w1.heap.size) hP HL.out HTn.out (own_nil _ _) (fits_long (by omega) HLong.out HAt.out.1 HAt.out.2) (Nat.le_refl _) hl1 _ _ _ _ _
  ·have hR:=HR1.out
   rw[if_neg hm] at hR
   have hsk:skipM ts σ [tMinus]=σ:=by unfold skipM;rw[if_neg hm]
   rw[hsk] at HT3
   have hm':isM ts σ [tMinus]=false:=by simpa using hm
   rw[hm']
   have HR2:=Hd hR
   clear hR hsk hm hm'
   have hR:=HR2.out
   have HM3:=HN3
   clear HN3
   by_cases hk5:kd=5
   ·subst hk5
    rw[if_pos rfl] at hR
    subst hR
    have hT4:=HT3.out
    have HO4:=Hd (pof_res HTS.out (w:=w3.drew) hT4.2.drew 5 15 (by omega))
    obtain⟨c0,_,_,_,_,_⟩:=cells3 HM3.out
    have hw1P:w1.heap.size≠P:=by omega
    have C0:=fun x:RE.Gr w3 P=>x.cell c0 hw1P
    have hP3:P<w3.heap.size:=hT4.2.lt.1
    have hcl:∀(n s:Nat) (W:World),s≤n→(if s=0 then W=w3.drew else Turns w3 P L cap ts (ofM ts σ 5 15).2.1 (ofM ts σ 5 15).2.2 W)→∃x:RE.Gr w3 P,W=x.1:=fun n s W _ h=>by
     split at h
     ·exact⟨⟨W,by rw[h];exact grown_drewN (World.grownBy.refl w3 _) 1⟩,rfl⟩
     ·exact⟨⟨W,h.1⟩,rfl⟩
    have HCl:=Hd hcl
    have HFit:=Hd (ofM_fits HTS.out σ 5 15 (by omega))
    have hkk:(ofM ts σ 5 15).1.kids=[]:=rfl
    have HKK:=Hd hkk
    generalize ofM ts σ 5 15=r at *
    clear hcl hT4 hkk
    go_wp2_with fail
    clear c0
    refine RE.wp_region_eff (by kernel_rfl) 6 [5] [5] (fun s W=>if s=0 then W=w3.drew else Turns w3 P L cap ts r.2.1 r.2.2 W) (fun W W'=>W.grownBy W' (some P))
     (fun i xs=>.agg #[.int .u8 r.1.kind,.string r.1.text,.int .i64 r.1.num,.int .i64 r.1.place,xs.getD 0 undef])
     (fun i W xs=>GotN w3.heap.size r.1 W xs) (by kernel_rfl) (fun i h1 h2=>by rw[h1] at h2;cases h2) (fun k W W' xs h _ hg=>h.grown hP3 hg) rfl ?_
    simp only[List.take_succ_cons,List.take_zero,List.drop_succ_cons,List.drop_zero,List.length_cons,List.length_nil,Nat.reduceAdd]
    repeat (refine RE.wpE_read (fun W=>∃x:RE.Gr w3 P,W=x.1) (HCl.out _) rfl rfl rfl rfl ?_;go_big_quiet_step (fail);refine wpQuiet_nil ?_)
    refine RE.wpE_turn rfl rfl ?_ (fun xs5=>?_)
    ·intro W _ hS _
     obtain rfl:W=w3.drew:=hS rfl
     refine RE.upon_call 102 _ _ rfl (enters_of Tryz.func102 (by kernel_rfl) rfl) #[.pointer (some ⟨P,0,none⟩),.int .u8 5,.int .u8 15] (by simp[Act.eval]) (HO4.out.mono ?_)
     rintro e W' ⟨d,s,rfl,hT,ho,hf⟩
     exact⟨_,rfl,[s],rfl,hT.of_drew,hT.1,⟨d,s,rfl,ho,hf⟩⟩
    simp only[Act.put,List.setIfInBounds_toArray,List.set_cons_zero,List.set_cons_succ]
    refine RE.wpE_nil ?_
    intro W4 hS hE
    have hT5:Turns w3 P L cap ts r.2.1 r.2.2 W4:=hS
    obtain⟨d,s,rfl,ho,hf⟩:=(show GotN w3.heap.size r.1 W4 xs5 from hE 5 xs5 rfl)
    obtain⟨p,c,rfl⟩:=ho.shape
    have HO:=Hd ho
    have HT5:=Hd (HT3.out.trans hT5)
    have y0:=hT5.box HX3.out hP (Nat.le_refl _)
    have HY0:=Hd y0
    obtain⟨a0,a1,a2,a3,a4⟩:=cells5 y0
    have z0:=frozen5 y0 0
    have z1:=frozen5 y0 1
    have z2:=frozen5 y0 2
    have z3:=frozen5 y0 3
    have z4:=frozen5 y0 4
    have hb3:w.heap.size<w3.heap.size:=(Array.getElem?_eq_some_iff.1 HX3.out).1
    clear C0 hE hS ho hT5 y0 hf
    go_wp2_with fail
    refine ret_node Tryz.results131 rfl (heap_set5 HY0.out _ _ _ _ _) rfl ?_
    exact NodeRes.stored hP HL.out HT5.out HO.out HFit.out (Nat.le_refl _) hb3 _ _ _ _ _
   rw[if_neg hk5] at hR
   have hk5':((kd:Int)==5)=false:=by simp;omega
   by_cases hk3:kd=3
   ·subst hk3
    rw[if_pos rfl] at hR
    subst hR
    have hT4:=HT3.out
    have HO4:=Hd (pof_res HTS.out (w:=w3.drew) hT4.2.drew 3 13 (by omega))
    obtain⟨c0,_,_,_,_,_⟩:=cells3 HM3.out
    have hw1P:w1.heap.size≠P:=by omega
    have C0:=fun x:RE.Gr w3 P=>x.cell c0 hw1P
    have hP3:P<w3.heap.size:=hT4.2.lt.1
    have hcl:∀(n s:Nat) (W:World),s≤n→(if s=0 then W=w3.drew else Turns w3 P L cap ts (ofM ts σ 3 13).2.1 (ofM ts σ 3 13).2.2 W)→∃x:RE.Gr w3 P,W=x.1:=fun n s W _ h=>by
     split at h
     ·exact⟨⟨W,by rw[h];exact grown_drewN (World.grownBy.refl w3 _) 1⟩,rfl⟩
     ·exact⟨⟨W,h.1⟩,rfl⟩
    have HCl:=Hd hcl
    have HFit:=Hd (ofM_fits HTS.out σ 3 13 (by omega))
    have hkk:(ofM ts σ 3 13).1.kids=[]:=rfl
    have HKK:=Hd hkk
    generalize ofM ts σ 3 13=r at *
    clear hcl hT4 hkk
    go_wp2_with fail
    clear c0
    refine RE.wp_region_eff (by kernel_rfl) 6 [5] [5] (fun s W=>if s=0 then W=w3.drew else Turns w3 P L cap ts r.2.1 r.2.2 W) (fun W W'=>W.grownBy W' (some P))
     (fun i xs=>.agg #[.int .u8 r.1.kind,.string r.1.text,.int .i64 r.1.num,.int .i64 r.1.place,xs.getD 0 undef])
     (fun i W xs=>GotN w3.heap.size r.1 W xs) (by kernel_rfl) (fun i h1 h2=>by rw[h1] at h2;cases h2) (fun k W W' xs h _ hg=>h.grown hP3 hg) rfl ?_
    simp only[List.take_succ_cons,List.take_zero,List.drop_succ_cons,List.drop_zero,List.length_cons,List.length_nil,Nat.reduceAdd]
    repeat (refine RE.wpE_read (fun W=>∃x:RE.Gr w3 P,W=x.1) (HCl.out _) rfl rfl rfl rfl ?_;go_big_quiet_step (fail);refine wpQuiet_nil ?_)
    refine RE.wpE_turn rfl rfl ?_ (fun xs5=>?_)
    ·intro W _ hS _
     obtain rfl:W=w3.drew:=hS rfl
     refine RE.upon_call 102 _ _ rfl (enters_of Tryz.func102 (by kernel_rfl) rfl) #[.pointer (some ⟨P,0,none⟩),.int .u8 3,.int .u8 13] (by simp[Act.eval]) (HO4.out.mono ?_)
     rintro e W' ⟨d,s,rfl,hT,ho,hf⟩
     exact⟨_,rfl,[s],rfl,hT.of_drew,hT.1,⟨d,s,rfl,ho,hf⟩⟩
    simp only[Act.put,List.setIfInBounds_toArray,List.set_cons_zero,List.set_cons_succ]
    refine RE.wpE_nil ?_
    intro W4 hS hE
    have hT5:Turns w3 P L cap ts r.2.1 r.2.2 W4:=hS
    obtain⟨d,s,rfl,ho,hf⟩:=(show GotN w3.heap.size r.1 W4 xs5 from hE 5 xs5 rfl)
    obtain⟨p,c,rfl⟩:=ho.shape
    have HO:=Hd ho
    have HT5:=Hd (HT3.out.trans hT5)
    have y0:=hT5.box HX3.out hP (Nat.le_refl _)
    have HY0:=Hd y0
    obtain⟨a0,a1,a2,a3,a4⟩:=cells5 y0
    have z0:=frozen5 y0 0
    have z1:=frozen5 y0 1
    have z2:=frozen5 y0 2
    have z3:=frozen5 y0 3
    have z4:=frozen5 y0 4
    have hb3:w.heap.size<w3.heap.size:=(Array.getElem?_eq_some_iff.1 HX3.out).1
    clear C0 hE hS ho hT5 y0 hf
    go_wp2_with fail
    refine ret_node Tryz.results131 rfl (heap_set5 HY0.out _ _ _ _ _) rfl ?_
    exact NodeRes.stored hP HL.out HT5.out HO.out HFit.out (Nat.le_refl _) hb3 _ _ _ _ _
   rw[if_neg hk3] at hR
   have hk3':((kd:Int)==3)=false:=by simp;omega
   subst hR
   have HO4:=Hd (pof_res HTS.out HT3.out.2 4 14 (by omega))
   obtain⟨c0,_,_,_,_,_⟩:=cells3 HM3.out
   generalize ofM ts σ 4 14=r at *
   clear hk5 hk3
   go_wp2_with fail
   refine Calls.mono HO4.out ?_
   rintro e w4 ⟨d,s,rfl,hT4,ho,hf⟩
   obtain⟨p,c,rfl⟩:=ho.shape
   have HT4:=Hd (HT3.out.trans hT4)
   have y0:=hT4.box HX3.out hP (Nat.le_refl _)
   have HY0:=Hd y0
   obtain⟨a0,a1,a2,a3,a4⟩:=cells5 y0
   have z0:=frozen5 y0 0
   have z1:=frozen5 y0 1
   have z2:=frozen5 y0 2
   have z3:=frozen5 y0 3
   have z4:=frozen5 y0 4
   have HO:=Hd ho
   have HF:=Hd hf
   have hb3:w.heap.size<w3.heap.size:=(Array.getElem?_eq_some_iff.1 HX3.out).1
   clear hT4 y0 ho hf c0
   go_wp2_with fail
   refine ret_node Tryz.results131 rfl (heap_set5 HY0.out _ _ _ _ _) rfl ?_
   exact NodeRes.stored hP HL.out HT4.out HO.out HF.out (Nat.le_refl _) hb3 _ _ _ _ _
def tFact:ByteArray:=⟨#[102,97,99,116]⟩
def tRule:ByteArray:=⟨#[114,117,108,101]⟩
def declM (ts:List Tok) (ru:Int→PS→Tree×PS) (σ:PS):Tree×PS:=
 if isM ts σ [tFact]=true then (.mk 2 (ofM ts (nextM ts σ) 2 2).1.text 0 (atM ts σ) (listM ts (fun σ=>ofM ts σ 2 3) (ofM ts (nextM ts σ) 2 2).2).1,wantM ts (listM ts (fun σ=>ofM ts σ 2 3) (ofM ts (nextM ts σ) 2 2).2).2 tSemi)
 else ru (atM ts σ) (wantM ts σ tRule)
theorem declM_ge {ts:List Tok}{ru:Int→PS→Tree×PS}(h:∀a σ,σ.1≤(ru a σ).2.1)(σ:PS):σ.1≤(declM ts ru σ).2.1:=by
 unfold declM
 have h2:=(nextM_ge ts σ).1
 split
 ·exact Nat.le_trans h2 (Nat.le_trans (ofM_ge ts _ 2 2) (Nat.le_trans (listM_ge (fun σ=>ofM_ge ts σ 2 3) _) (wantM_ge ts _ _)))
 ·exact Nat.le_trans (wantM_ge ts σ tRule) (h _ _)
def RuleOk (ts:List Tok) (ru:Int→PS→Tree×PS):Prop:=∀(a:Int) (σ:PS) (w:World) (P L cap:Nat),0≤a→a≤16384→PAt w P L cap ts σ.1 σ.2 →
 Calls Tryz.prog 79 #[.pointer (some ⟨P,0,none⟩),.agg #[.int .u8 0,.string ⟨#[]⟩,.int .i64 0,.int .i64 a,.slice none 0 0]] w (NodeRes w P L cap ts (ru a σ))
theorem pdecl_any {ts:List Tok}(hts:TsOk ts){ru:Int→PS→Tree×PS}(hru:RuleOk ts ru):ReadsN ts 45 (declM ts ru):=by
 intro σ w P L cap h
 have hb0:Below w.heap.size w (w.alloc (.cells zeroN 25)):=(Below.refl _ w).alloc (Nat.le_refl _) _
 have HC:=Hd (pnow_res (h.below hb0))
 have H0:=Hd (h.turns hb0)
 have hP:=h.lt.1
 have HL:=Hd h.lt.2
 have HX:=Hd (heap_alloc_new w (.cells zeroN 25))
 have HTS:=Hd hts
 have HList:=Hd (fun σ w P L cap h=>plist_any hts (enters_of Tryz.func77 (by kernel_rfl) rfl) (pfield_any hts) (fun σ=>ofM_ge ts σ 2 3) σ w P L cap h)
 have HRu:=Hd hru
 obtain⟨R,hRR⟩:∃R,declM ts ru σ=R:=⟨_,rfl⟩
 rw[hRR]
 have hR:=hRR
 unfold declM at hR
 obtain⟨at_,hat⟩:∃a,atM ts σ=a:=⟨_,rfl⟩
 rw[hat] at HC hR
 have HR0:=Hd hR
 have HAt:Hid (0≤at_∧at_≤16384):=by
  show _∧_
  obtain⟨_,_,g3⟩:=tokM_ok HTS.out σ.1
  rw[←hat]
  unfold atM
  omega
 clear h hb0 hts hru hRR hR hat
 generalize kdM ts σ=kd at HC
 generalize txM ts σ=tx at HC
 go_enter Tryz.func45,Tryz.ntmps45
 go_wp2_with fail
 refine Calls.mono HC.out ?_
 rintro e w1 ⟨rfl,hb1⟩
 have hFA:=run_lexAt kd tx at_ w1
 have HT1:=Hd (H0.out.of_below hb1)
 have HX1:=Hd (heap_below hb1 HX.out (by simp))
 have hl1:w.heap.size<w1.heap.size:=(Array.getElem?_eq_some_iff.1 HX1.out).1
 clear hb1
 obtain⟨wA,hwA⟩:∃wA,wA=w1.alloc (.cells #[.int .u8 0,.string ⟨#[]⟩,.int .i64 0,.int .i64 at_,.slice none 0 0] 25):=⟨_,rfl⟩
 have hlA:w1.heap.size<wA.heap.size:=by rw[hwA];simp
 have HTA:Hid (Turns w P L cap ts σ.1 σ.2 wA):=by rw[hwA];exact HT1.out.alloc _
 have HNA:Hid (wA.heap[w1.heap.size]? = some (.cells #[.int .u8 0,.string ⟨#[]⟩,.int .i64 0,.int .i64 at_,.slice none 0 0] 25 (0,0))):=by rw[hwA];exact heap_alloc_new w1 _
 have HXA:Hid (wA.heap[w.heap.size]? = some (.cells zeroN 25 (0,0))):=by rw[hwA];exact (Below.heap_alloc w1 _ _ hl1).trans HX1.out
 go_upto_region 2 with fail
 change Code.wp _ _ _ _ (w1.alloc (.cells #[.int .u8 0,.string ⟨#[]⟩,.int .i64 0,.int .i64 at_,.slice none 0 0] 25))
 rw[←hwA]
 clear hFA hwA
 have HTB:=Hd (HTA.out.alloc (.cells #[.string tFact] 9))
 have HNB:=Hd ((Below.heap_alloc wA (.cells #[.string tFact] 9) w1.heap.size hlA).trans HNA.out)
 have HXB:=Hd ((Below.heap_alloc wA (.cells #[.string tFact] 9) w.heap.size (by omega)).trans HXA.out)
 have HSk:=Hd (pskip_res HTB.out.2 wA.heap.size 0 1 1 [tFact] (textsAt_new [tFact]) rfl (by omega))
 go_wp2_with fail
 refine Calls.mono HSk.out ?_
 rintro e w2 ⟨rfl,ht⟩
 have HT2:=Hd (HTB.out.trans ht)
 have HX2:=Hd (ht.box HXB.out hP (Nat.le_refl _))
 have HN2:=Hd (ht.box HNB.out hP (Nat.le_of_lt hl1))
 have hl2:w1.heap.size<w2.heap.size:=(Array.getElem?_eq_some_iff.1 HN2.out).1
 clear ht HTB HNB HXB HSk
 by_cases hm:isM ts σ [tFact]=true
 ·have hR:=HR0.out
  rw[if_pos hm] at hR
  have hsk:skipM ts σ [tFact]=nextM ts σ:=by unfold skipM;rw[if_pos hm]
  rw[hsk] at HT2
  have hm':isM ts σ [tFact]=true:=by simpa using hm
  rw[hm']
  have HR1:=Hd hR
  clear hR hsk hm hm'
  have HNm:=Hd (pname_any HTS.out HT2.out.2 2 (by omega))
  have hfit:(ofM ts (nextM ts σ) 2 2).1.text.size≤16384:=(tokM_ok HTS.out _).2.1
  generalize ofM ts (nextM ts σ) 2 2=nm at *
  have HFit:=Hd hfit
  clear hfit
  go_wp2_with fail
  refine Calls.mono HNm.out ?_
  rintro e w4 ⟨d,s,rfl,hT4,ho,hf⟩
  have HT4:=Hd (HT2.out.trans hT4)
  have HX4:=Hd (hT4.box HX2.out hP (Nat.le_refl _))
  have HN4:=Hd (hT4.box HN2.out hP (Nat.le_of_lt hl1))
  have hl4:w1.heap.size<w4.heap.size:=(Array.getElem?_eq_some_iff.1 HN4.out).1
  have hg4:w2.heap.size≤w4.heap.size:=hT4.1.size
  obtain⟨p,c,rfl⟩:=ho.shape
  have hFT:=run_nodeText nm.1.kind nm.1.text nm.1.num nm.1.place nm.1.kids.length p c w4
  clear hT4 ho hf
  obtain⟨w5,hw5⟩:∃w5,w5=((w4.setCell ⟨w1.heap.size,0,none⟩ (.int .u8 2)).setCell ⟨w1.heap.size,1,none⟩ (.string nm.1.text)):=⟨_,rfl⟩
  have hs5:w5.heap.size=w4.heap.size:=by rw[hw5];simp[World.setCell]
  have hl5:w1.heap.size<w5.heap.size:=by omega
  have HT5:Hid (Turns w P L cap ts nm.2.1 nm.2.2 w5):=by rw[hw5];exact ((HT4.out.setCell hP HL.out (by omega) 0 _).setCell hP HL.out (by omega) 1 _)
  have HX5:Hid (w5.heap[w.heap.size]? = some (.cells zeroN 25 (0,0))):=by rw[hw5];exact ((Below.heap_setCell _ _ _ _ (show w.heap.size≠w1.heap.size by omega)).trans ((Below.heap_setCell _ _ _ _ (show w.heap.size≠w1.heap.size by omega)).trans HX4.out))
  have HN5:Hid (w5.heap[w1.heap.size]? = some (.cells #[.int .u8 2,.string nm.1.text,.int .i64 0,.int .i64 at_,.slice none 0 0] 25 (0,0))):=by rw[hw5];exact (heap_set (heap_set HN4.out 0 _) 1 _)
  have f0:=frozen5 HN4.out 0
  have f1:=frozen5 HN4.out 1
  obtain⟨n0,n1,n2,n3,n4⟩:=cells5 HN4.out
  have H5:=Hd hw5
  clear hw5
  go_upto_region 4 with fail
  change Code.wp _ _ _ _ ((w4.setCell ⟨w1.heap.size,0,none⟩ (.int .u8 2)).setCell ⟨w1.heap.size,1,none⟩ (.string nm.1.text))
  rw[←H5.out]
  clear n0 n1 n2 n3 n4 f0 f1
  clear hFT
  have HLi:=Hd (HList.out nm.2 w5 P L cap HT5.out.2)
  generalize listM ts (fun σ=>ofM ts σ 2 3) nm.2=l at *
  go_wp2_with fail
  refine Calls.mono HLi.out ?_
  rintro e w6 ⟨d2,s2,rfl,hT6,ho2⟩
  have HT6:=Hd (HT5.out.trans hT6)
  have HX6:=Hd (hT6.box HX5.out hP (Nat.le_refl _))
  have HN6:=Hd (hT6.box HN5.out hP (Nat.le_of_lt hl1))
  have hl6:w1.heap.size<w6.heap.size:=(Array.getElem?_eq_some_iff.1 HN6.out).1
  have hg6:w5.heap.size≤w6.heap.size:=hT6.1.size
  obtain⟨p2,c2,rfl⟩:=ho2.shape
  have HO6:=Hd ho2
  clear hT6 ho2
  obtain⟨w7,hw7⟩:∃w7,w7=(w6.setCell ⟨w1.heap.size,4,none⟩ (.slice p2 l.1.length c2)):=⟨_,rfl⟩
  have hs7:w7.heap.size=w6.heap.size:=by rw[hw7];simp[World.setCell]
  have hl7:w1.heap.size<w7.heap.size:=by omega
  have HT7:Hid (Turns w P L cap ts l.2.1 l.2.2 w7):=by rw[hw7];exact (HT6.out.setCell hP HL.out (by omega) 4 _)
  have HX7:Hid (w7.heap[w.heap.size]? = some (.cells zeroN 25 (0,0))):=by rw[hw7];exact ((Below.heap_setCell _ _ _ _ (show w.heap.size≠w1.heap.size by omega)).trans HX6.out)
  have HN7:Hid (w7.heap[w1.heap.size]? = some (.cells #[.int .u8 2,.string nm.1.text,.int .i64 0,.int .i64 at_,.slice p2 l.1.length c2] 25 (0,0))):=by rw[hw7];exact (heap_set HN6.out 4 _)
  have f4:=frozen5 HN6.out 4
  obtain⟨n0,n1,n2,n3,n4⟩:=cells5 HN6.out
  have H7:=Hd hw7
  clear hw7
  go_upto_region 5 with fail
  change Code.wp _ _ _ _ (w6.setCell ⟨w1.heap.size,4,none⟩ (.slice p2 l.1.length c2))
  rw[←H7.out]
  clear n0 n1 n2 n3 n4 f4
  have HO7:Hid (OwnAt w7 d2 l.1 (.slice p2 l.1.length c2) (Between w5.heap.size w7.heap.size)):=by rw[hs7,H7.out];exact HO6.out.keep fun b o hb hx=>(Below.heap_setCell _ _ _ _ (show b≠w1.heap.size by have:=hb.1;omega)).trans hx
  have HW:=Hd (pwant_res HT7.out.2 tSemi)
  go_wp2_with fail
  refine Calls.mono HW.out ?_
  rintro e w8 ⟨rfl,hT8⟩
  have HT8:=Hd (HT7.out.trans hT8)
  have HX8:=Hd (hT8.box HX7.out hP (Nat.le_refl _))
  have HN8:=Hd (hT8.box HN7.out hP (Nat.le_of_lt hl1))
  have hl8:w1.heap.size<w8.heap.size:=(Array.getElem?_eq_some_iff.1 HN8.out).1
  have hg8:w7.heap.size≤w8.heap.size:=hT8.1.size
  have HO8:=Hd ((HO7.out.keep fun b o hb hx=>grownBy_keep hT8.1 hx (by have:=hb.1;omega)).sub (G:=Between w5.heap.size w8.heap.size) fun b hb=>⟨hb.1,Nat.lt_of_lt_of_le hb.2 hT8.1.size⟩)
  obtain⟨n0,n1,n2,n3,n4⟩:=cells5 HN8.out
  obtain⟨a0,a1,a2,a3,a4⟩:=cells5 HX8.out
  have z0:=frozen5 HX8.out 0
  have z1:=frozen5 HX8.out 1
  have z2:=frozen5 HX8.out 2
  have z3:=frozen5 HX8.out 3
  have z4:=frozen5 HX8.out 4
  clear hT8
  go_wp2_with fail
  refine ret_node Tryz.results45 rfl (heap_set5 HX8.out _ _ _ _ _) rfl ?_
  rw[←HR1.out]
  exact NodeRes.stored (r:=(.mk 2 nm.1.text 0 at_ l.1,wantM ts l.2 tSemi)) (B:=w5.heap.size) hP HL.out HT8.out HO8.out (fits_mk (by omega) HFit.out HAt.out.1 HAt.out.2) (Nat.le_refl _) (by omega) _ _ _ _ _
 ·have hR:=HR0.out
  rw[if_neg hm] at hR
  have hsk:skipM ts σ [tFact]=σ:=by unfold skipM;rw[if_neg hm]
  rw[hsk] at HT2
  have hm':isM ts σ [tFact]=false:=by simpa using hm
  rw[hm']
  have HR1:=Hd hR
  clear hR hsk hm hm'
  have HWr:=Hd (pwant_res HT2.out.2 tRule)
  generalize wantM ts σ tRule=σr at *
  go_wp2_with fail
  refine Calls.mono HWr.out ?_
  rintro e w4 ⟨rfl,hT4⟩
  have HT4:=Hd (HT2.out.trans hT4)
  have HX4:=Hd (hT4.box HX2.out hP (Nat.le_refl _))
  have HN4:=Hd (hT4.box HN2.out hP (Nat.le_of_lt hl1))
  have hl4:w1.heap.size<w4.heap.size:=(Array.getElem?_eq_some_iff.1 HN4.out).1
  have hg4:w2.heap.size≤w4.heap.size:=hT4.1.size
  clear hT4
  have HRule:=Hd (HRu.out at_ σr w4 P L cap HAt.out.1 HAt.out.2 HT4.out.2)
  rw[HR1.out] at HRule
  obtain⟨n0,n1,n2,n3,n4⟩:=cells5 HN4.out
  go_wp2_with fail
  refine Calls.mono HRule.out ?_
  rintro e w5 ⟨d,s,rfl,hT5,ho,hf⟩
  obtain⟨p,c,rfl⟩:=ho.shape
  have HT5:=Hd (HT4.out.trans hT5)
  have HX5:=Hd (hT5.box HX4.out hP (Nat.le_refl _))
  obtain⟨a0,a1,a2,a3,a4⟩:=cells5 HX5.out
  have z0:=frozen5 HX5.out 0
  have z1:=frozen5 HX5.out 1
  have z2:=frozen5 HX5.out 2
  have z3:=frozen5 HX5.out 3
  have z4:=frozen5 HX5.out 4
  have HO:=Hd ho
  have HF:=Hd hf
  clear hT5 ho hf n0 n1 n2 n3 n4
  go_wp2_with fail
  refine ret_node Tryz.results45 rfl (heap_set5 HX5.out _ _ _ _ _) rfl ?_
  exact NodeRes.stored hP HL.out HT5.out HO.out HF.out (Nat.le_refl _) (by omega) _ _ _ _ _
section
variable {ts:List Tok} {σ:PS}
theorem isM_bad (h:σ.2=true)(texts:List ByteArray):isM ts σ texts=false:=by unfold isM;rw[h];rfl
theorem wantM_bad (h:σ.2=true)(x:ByteArray):(wantM ts σ x).2=true:=by
 show wantB σ.2 _ _=true
 unfold wantB;rw[h];rfl
theorem ofM_bad (h:σ.2=true)(tok kind:Nat):(ofM ts σ tok kind).2.2=true:=by
 show (σ.2||_)=true
 rw[h];rfl
end
theorem argM_bad {ts:List Tok}{σ:PS}(h:σ.2=true):(argM ts σ).2.2=true:=by
 unfold argM
 rw[if_neg (by rw[isM_bad h];decide),if_neg (by rw[isM_bad h];decide)]
 split
 ·exact ofM_bad h _ _
 ·split
  ·exact ofM_bad h _ _
  ·exact ofM_bad h _ _
theorem rowLoop_bad {ts:List Tok}{one:PS→Tree×PS}{σ:PS}(h:σ.2=true):∀(g:Nat)(ks:List Tree),rowLoop ts one g ks σ=(ks,σ):=by
 intro g ks
 cases g with
 | zero=>rfl
 | succ g=>unfold rowLoop;rw[if_neg (by rw[isM_bad h];decide)]
theorem rowM_bad {ts:List Tok}{one:PS→Tree×PS}(h1:∀σ:PS,σ.2=true→(one σ).2.2=true){σ:PS}(h:σ.2=true):(rowM ts one σ).2.2=true:=by
 unfold rowM
 rw[rowLoop_bad (h1 σ h)]
 exact h1 σ h
theorem listM_bad {ts:List Tok}{one:PS→Tree×PS}(h1:∀σ:PS,σ.2=true→(one σ).2.2=true){σ:PS}(h:σ.2=true):(listM ts one σ).2.2=true:=by
 unfold listM
 rw[if_neg (by rw[isM_bad (wantM_bad h _)];decide)]
 exact wantM_bad (rowM_bad h1 (wantM_bad h _)) _
theorem ofM_on {ts:List Tok}(hts:TsOk ts){σ:PS}(hk:σ.1<ts.length){tok:Nat}(ht:tok≠7)(kind:Nat):(ofM ts σ tok kind).2.2=true∨σ.1<(ofM ts σ tok kind).2.1:=by
 cases hb:(ofM ts σ tok kind).2.2 with
 | true=>exact Or.inl rfl
 | false =>
  right
  have hb':(σ.2||(tokM ts σ.1).1 != tok)=false:=hb
  show σ.1<nextK ts.length σ.1 (σ.2||(tokM ts σ.1).1 != tok)
  rw[hb']
  have hkd:(tokM ts σ.1).1=tok:=by
   cases h2:σ.2<;>simp[h2] at hb'
   exact hb'
  have hlt:σ.1+1<ts.length:=by
   by_cases hlt:σ.1+1<ts.length
   ·exact hlt
   ·exfalso
    have:=hts.last σ.1 _ (tokM_at hk) hlt
    omega
  rw[nextK_on hlt]
  omega
theorem condM_on {ts:List Tok}(hts:TsOk ts){ar:PS→Tree×PS}(hge:∀σ,σ.1≤(ar σ).2.1)(hbad:∀σ:PS,σ.2=true→(ar σ).2.2=true){σ:PS}(hk:σ.1<ts.length):(condM ts ar σ).2.2=true∨σ.1<(condM ts ar σ).2.1:=by
 unfold condM
 by_cases h1:isM ts σ [tTest]=true
 ·rw[if_pos h1]
  obtain⟨q1,_,_⟩:=next_on hts hk h1
  right
  have h2:=exprM_ge ts (nextM ts σ)
  have h3:=wantM_ge ts (exprM ts (nextM ts σ)).2 tSemi
  dsimp only
  omega
 ·rw[if_neg h1]
  by_cases h2:isM ts σ [tNot]=true
  ·rw[if_pos h2]
   obtain⟨q1,_,_⟩:=next_on hts hk h2
   right
   have h3:=ofM_ge ts (nextM ts σ) 2 6
   have h4:=listM_ge (ts:=ts) hge (ofM ts (nextM ts σ) 2 6).2
   have h5:=wantM_ge ts (listM ts ar (ofM ts (nextM ts σ) 2 6).2).2 tSemi
   dsimp only
   omega
  ·rw[if_neg h2]
   rcases ofM_on hts hk (show 2≠7 by omega) 5 with h|h
   ·left
    exact wantM_bad (listM_bad hbad h) _
   ·right
    have h4:=listM_ge (ts:=ts) hge (ofM ts σ 2 5).2
    have h5:=wantM_ge ts (listM ts ar (ofM ts σ 2 5).2).2 tSemi
    dsimp only
    omega
theorem actM_on {ts:List Tok}(hts:TsOk ts){σ:PS}(hk:σ.1<ts.length):(actM ts σ).2.2=true∨σ.1<(actM ts σ).2.1:=by
 unfold actM
 by_cases h1:isM ts σ [tAssert]=true
 ·rw[if_pos h1]
  obtain⟨q1,_,_⟩:=next_on hts hk h1
  right
  have h3:=ofM_ge ts (nextM ts σ) 2 8
  have h4:=listM_ge (ts:=ts) (exprM_ge ts) (ofM ts (nextM ts σ) 2 8).2
  have h5:=wantM_ge ts (listM ts (exprM ts) (ofM ts (nextM ts σ) 2 8).2).2 tSemi
  dsimp only
  omega
 ·rw[if_neg h1]
  by_cases h2:isM ts σ [tRetract]=true
  ·rw[if_pos h2]
   obtain⟨q1,_,_⟩:=next_on hts hk h2
   right
   have h3:=numM_ge ts (nextM ts σ)
   have h5:=wantM_ge ts (numM ts (nextM ts σ)).2 tSemi
   dsimp only
   omega
  ·rw[if_neg h2]
   by_cases h3:isM ts σ [tSay]=true
   ·rw[if_pos h3]
    obtain⟨q1,_,_⟩:=next_on hts hk h3
    right
    have h4:=rowM_ge (ts:=ts) (exprM_ge ts) (nextM ts σ)
    have h5:=wantM_ge ts (rowM ts (exprM ts) (nextM ts σ)).2 tSemi
    dsimp only
    omega
   ·rw[if_neg h3]
    dsimp only
    by_cases h4:isM ts σ [tHalt]=true
    ·obtain⟨q1,_,_⟩:=next_on hts hk h4
     right
     have h5:=wantM_ge ts (wantM ts σ tHalt) tSemi
     have h6:(wantM ts σ tHalt).1=σ.1+1:=by
      rw[←q1,←congrArg Prod.fst (show skipM ts σ [tHalt]=nextM ts σ by unfold skipM;rw[if_pos h4])]
      exact (skipM_place ts σ [tHalt]).1.symm
     omega
    ·left
     refine wantM_bad ?_ _
     show (!isM ts σ [tHalt])=true
     rw[Bool.eq_false_iff.2 h4];rfl
def upTo (ts:List Tok) (one:PS→Tree×PS) (stop:ByteArray):Nat→List Tree→PS→List Tree×PS
 | 0,ks,σ=>(ks,σ)
 | g+1,ks,σ=>if σ.2=true then (ks,σ) else if isM ts σ [stop]=true then (ks,σ) else upTo ts one stop g (ks++[(one σ).1]) (one σ).2
theorem upTo_ge {ts:List Tok}{one:PS→Tree×PS}(h1:∀σ,σ.1≤(one σ).2.1)(stop:ByteArray):∀(g:Nat)(ks:List Tree)(σ:PS),σ.1≤(upTo ts one stop g ks σ).2.1:=by
 intro g
 induction g with
 | zero=>intro ks σ;exact Nat.le_refl _
 | succ g ih =>
  intro ks σ
  unfold upTo
  split
  ·exact Nat.le_refl _
  ·split
   ·exact Nat.le_refl _
   ·exact Nat.le_trans (h1 σ) (ih _ _)
def tSal:ByteArray:=⟨#[115,97,108,105,101,110,99,101]⟩
def tTo:ByteArray:=⟨#[61,62]⟩
def tLeft:ByteArray:=⟨#[123]⟩
def tRight:ByteArray:=⟨#[125]⟩
def salM (ts:List Tok) (σ:PS):Int×PS:=
 if isM ts σ [tSal]=true then
  if isM ts (nextM ts σ) [tMinus]=true then (-((numM ts (nextM ts (nextM ts σ))).1:Int),(numM ts (nextM ts (nextM ts σ))).2)
  else ((numM ts (nextM ts σ)).1,(numM ts (nextM ts σ)).2)
 else (0,σ)
theorem salM_ge (ts:List Tok)(σ:PS):σ.1≤(salM ts σ).2.1:=by
 unfold salM
 have h1:=(nextM_ge ts σ).1
 split
 ·split
  ·exact Nat.le_trans h1 (Nat.le_trans (nextM_ge ts _).1 (numM_ge ts _))
  ·exact Nat.le_trans h1 (numM_ge ts _)
 ·exact Nat.le_refl _
def ruleM (ts:List Tok) (a:Int) (σ:PS):Tree×PS:=
 let nm:=ofM ts σ 2 4
 let sa:=salM ts nm.2
 let cs:=upTo ts (condM ts (argM ts)) tTo (ts.length+1) [] (wantM ts sa.2 tLeft)
 let zs:=upTo ts (actM ts) tRight (ts.length+1) cs.1 (wantM ts cs.2 tTo)
 (.mk 4 nm.1.text sa.1 a zs.1,wantM ts zs.2 tRight)
theorem ruleM_ge (ts:List Tok)(a:Int)(σ:PS):σ.1≤(ruleM ts a σ).2.1:=by
 unfold ruleM
 dsimp only
 have h1:=ofM_ge ts σ 2 4
 have h2:=salM_ge ts (ofM ts σ 2 4).2
 have h3:=wantM_ge ts (salM ts (ofM ts σ 2 4).2).2 tLeft
 have h4:=upTo_ge (ts:=ts) (condM_ge (ts:=ts) (argM_ge ts)) tTo (ts.length+1) [] (wantM ts (salM ts (ofM ts σ 2 4).2).2 tLeft)
 generalize upTo ts (condM ts (argM ts)) tTo (ts.length+1) [] (wantM ts (salM ts (ofM ts σ 2 4).2).2 tLeft)=cs at *
 have h5:=wantM_ge ts cs.2 tTo
 have h6:=upTo_ge (ts:=ts) (actM_ge ts) tRight (ts.length+1) cs.1 (wantM ts cs.2 tTo)
 generalize upTo ts (actM ts) tRight (ts.length+1) cs.1 (wantM ts cs.2 tTo)=zs at *
 have h7:=wantM_ge ts zs.2 tRight
 omega
def dpM:Nat→Tree→Option Int
 | 0,T=>some T.place
 | n+1,T=>T.kids.findSome? (dpM n)
def DpPost (x:Option Int) (w:World) (e:Ending) (w':World):Prop:=e=.returned (.tuple #[.int .i64 (x.getD 0),.bool x.isSome])∧Below w.heap.size w w'
def DpRel (w0:World) (n m:Nat) (ks:List Tree) (i:Value) (W:World):Prop:=∃(W1:World) (k:Nat),W1=W∧k≤m∧i=.int .i64 k∧Below w0.heap.size w0 W1∧(ks.take k).findSome? (dpM n)=none
theorem pdeep_any:∀(n:Nat)(a d:Nat)(T:Tree)(u:Value)(B:Nat)(w:World),a+n=30→NodeAt w B d T u→B≤w.heap.size→SlimK d T.kids→Calls Tryz.prog 46 #[u,.int .i64 a] w (DpPost (dpM n T) w):=by
 intro n
 induction n with
 | zero =>
  intro a d T u B w ha hu hB hs
  obtain⟨_,s,rfl,hk⟩:=hu
  obtain⟨p,l,c,rfl⟩:=hk.shape
  obtain rfl:a=30:=by omega
  have hbox:=box_new w T (.slice p l c)
  have HB:=Hd ((Below.refl _ w).alloc (Nat.le_refl _) (.cells #[.int .u8 T.kind,.string T.text,.int .i64 T.num,.int .i64 T.place,.slice p l c] 25))
  obtain⟨x0,x1,x2,x3,x4⟩:=cells5 (heap_alloc_new w (.cells #[.int .u8 T.kind,.string T.text,.int .i64 T.num,.int .i64 T.place,.slice p l c] 25))
  clear hbox
  go_enter Tryz.func46,Tryz.ntmps46
  go_wp2_with fail
  go_ret2
  exact⟨rfl,HB.out⟩
 | succ n ih =>
  intro a d T u B w ha hu hB hs
  obtain⟨_,s,rfl,hk⟩:=hu
  have hn9:T.kids.length≤20000:=by
   cases d with
   | zero=>rw[hk.1];exact Nat.zero_le _
   | succ d=>exact hs.1
  have hslim:∀t∈T.kids,SlimK (d-1) t.kids:=by
   cases d with
   | zero=>intro t hT;rw[hk.1] at hT;cases hT
   | succ d=>intro t hT;exact (hs.2 t hT).kids
  obtain⟨p,c,rfl,_,hrow⟩:=hk.rows
  have HDp:Hid (dpM (n+1) T=T.kids.findSome? (dpM n)):=rfl
  obtain⟨x,hx⟩:∃x,dpM (n+1) T=x:=⟨_,rfl⟩
  rw[hx] at HDp ⊢
  obtain⟨m,hm⟩:∃m,T.kids.length=m:=⟨_,rfl⟩
  rw[hm] at hn9
  have HN:=Hd hm
  have HRow:=Hd hrow
  have HSl:=Hd hslim
  have HIH:=Hd ih
  have ha2:(a:Int)<30:=by omega
  have HA:Hid ((a+1)+n=30):=by show _=_;omega
  obtain⟨W0,hW0⟩:∃W0,W0=w.alloc (.cells #[.int .u8 T.kind,.string T.text,.int .i64 T.num,.int .i64 T.place,.slice p T.kids.length c] 25):=⟨_,rfl⟩
  have HX:Hid (W0.heap[w.heap.size]? = some (.cells #[.int .u8 T.kind,.string T.text,.int .i64 T.num,.int .i64 T.place,.slice p T.kids.length c] 25 (0,0))):=by rw[hW0];exact heap_alloc_new w _
  have HB0:Hid (Below w.heap.size w W0):=by rw[hW0];exact (Below.refl _ w).alloc (Nat.le_refl _) _
  obtain⟨x0,x1,x2,x3,x4⟩:=cells5 (heap_alloc_new w (.cells #[.int .u8 T.kind,.string T.text,.int .i64 T.num,.int .i64 T.place,.slice p T.kids.length c] 25))
  clear hk hs hslim hrow ih hm hx ha
  obtain⟨ks,hks⟩:∃ks,T.kids=ks:=⟨_,rfl⟩
  rw[hks] at HDp HN HRow HSl
  have HKs:=Hd hks
  clear hks
  go_enter Tryz.func46,Tryz.ntmps46
  go_upto_region 3 with fail
  change Code.wp _ _ _ _ (w.alloc (.cells #[.int .u8 T.kind,.string T.text,.int .i64 T.num,.int .i64 T.place,.slice p T.kids.length c] 25))
  rw[←hW0]
  clear x0 x1 x2 x3 x4 hW0
  obtain⟨y0,y1,y2,y3,y4⟩:=cells5 HX.out
  rw[show T.kids.length=m by rw[HKs.out];exact HN.out] at y4
  go_wp2_with fail
  clear y0 y1 y2 y3 y4
  go_loopw [17] (DpRel W0 n m ks) (fun i _=>m-(intOf i).toNat)
  case atStart=>exact⟨_,0,rfl,Nat.zero_le _,rfl,Below.refl _ _,rfl⟩
  case round =>
   obtain⟨W1,k,rfl,hk,rfl,hb,hno⟩:=hrel
   have hk0:(0:Int)≤k:=by omega
   have hbw:=HB0.out.trans (hb.mono HB0.out.size)
   have HBw:=Hd hbw
   have HNo:=Hd hno
   have HB1:=Hd hb
   clear hno hb
   by_cases hlt:k<m
   ·obtain⟨t,ht⟩:∃t,ks[k]? = some t:=⟨ks[k]'(by rw[HN.out];exact hlt),List.getElem?_eq_getElem (by rw[HN.out];exact hlt)⟩
    have hmem:t∈ks:=List.mem_of_getElem? ht
    obtain⟨hd,b,off,rfl,hbB,hkid⟩:=HRow.out k t ht
    obtain⟨p',l',c',d0,d1,d2,d3,d4,hnode⟩:=hkid.node (hbw.mono hB) hbB
    have hk1:(k:Int)<m:=by omega
    have HCall:=Hd (HIH.out (a+1) _ t _ B _ HA.out (hnode.alloc (Nat.le_trans hB hbw.size) (.cells #[.int .u8 t.kind,.string t.text,.int .i64 t.num,.int .i64 t.place,.slice p' l' c'] 25)) (by have:=hbw.size;rw[World.size_alloc];omega) (HSl.out t hmem))
    rw[Int.natCast_succ] at HCall
    have HBa:=Hd ((Below.refl _ W1).alloc (Nat.le_refl _) (.cells #[.int .u8 t.kind,.string t.text,.int .i64 t.num,.int .i64 t.place,.slice p' l' c'] 25))
    have HNext:=Hd (show (ks.take (k+1)).findSome? (dpM n)=(dpM n t) by
     rw[List.take_add_one,ht,List.findSome?_append,HNo.out]
     simp)
    have HTake:Hid (ks.findSome? (dpM n)=((ks.take (k+1)).findSome? (dpM n)).or ((ks.drop (k+1)).findSome? (dpM n))):=by
     show _=_
     conv=>lhs;rw[←List.take_append_drop (k+1) ks]
     rw[List.findSome?_append]
    generalize hy:dpM n t=y at *
    clear hnode hkid hmem ht hd hbw hy
    go_wp2_with fail
    refine HCall.out.mono ?_
    rintro e W2 ⟨rfl,hb2⟩
    have HB2:=Hd (HBa.out.trans (hb2.mono HBa.out.size))
    clear hb2 d0 d1 d2 d3 d4
    cases y with
    | none =>
     go_wp2_with fail
     exact⟨⟨_,k+1,rfl,by omega,by go_num,HB1.out.trans (HB2.out.mono HB1.out.size),HNext.out⟩,by simp[intOf];omega⟩
    | some q =>
     have hxq:x=some q:=by rw[HDp.out,HTake.out,HNext.out];rfl
     have HXq:=Hd hxq
     clear hxq
     go_wp2_with fail
     go_ret2
     rw[HXq.out]
     exact⟨rfl,HBw.out.trans (HB2.out.mono HBw.out.size)⟩
   ·obtain rfl:k=m:=by omega
    have hxn:x=none:=by rw[HDp.out,←HNo.out,←HN.out,List.take_length]
    have HXn:=Hd hxn
    clear hk hlt hk0 hxn hbw
    go_wp2_with fail
    go_ret2
    rw[HXn.out]
    exact⟨rfl,HBw.out⟩
theorem up_next {w X W3 w7:World}{P L cap k k3:Nat}{bad bad3:Bool}{ts:List Tok}{bB Bs d g7 cap7:Nat}{ks:List Tree}{rows:List (List Value)}{Fs:Nat→Nat→Prop}{o c0 c1 c2 c3:Value}{t:Tree}{gg N d2:Nat}{s2:Value}
  (hP:P<w.heap.size) (hL:L<w.heap.size) (hwB:w.heap.size≤bB) (hBs:bB<Bs) (hX:Bs≤X.heap.size) (hT:Turns w P L cap ts k bad X)
  (hbB:X.heap[bB]? = some (.cells #[c0,c1,c2,c3,o] 25 (0,0))) (hown:X.ownsRow Bs 25 5 o ks.length rows.flatten) (hrows:RowsOwn X Bs d ks ks.length o.ownBlock rows Fs)
  (hT3:Turns X P L cap ts k3 bad3 W3) (hgg:W3.heap[gg]? = some (.cells (nodeCells t s2).toArray 25 (0,0))) (ho:OwnAt W3 d2 t.kids s2 (Between X.heap.size N)) (hf:Fits t) (hN1:X.heap.size≤N) (hN2:N≤gg)
  (happ:w7.ownsRow Bs 25 5 (.slice (some ⟨g7,0,none⟩) (ks.length+1) cap7) (ks.length+1) (rows.flatten++nodeCells t s2)) (hgrow:W3.grownBy w7 o.ownBlock) (hlies:o.ownBlock=some g7∨g7=W3.heap.size) :
  ∃d' rows' Fs',Turns w P L cap ts k3 bad3 (w7.setCell ⟨bB,4,none⟩ (.slice (some ⟨g7,0,none⟩) (ks.length+1) cap7)) ∧
   (∀b,b<Bs→b≠P→b≠bB→(w7.setCell ⟨bB,4,none⟩ (.slice (some ⟨g7,0,none⟩) (ks.length+1) cap7)).heap[b]? = X.heap[b]?) ∧
   (w7.setCell ⟨bB,4,none⟩ (.slice (some ⟨g7,0,none⟩) (ks.length+1) cap7)).heap[bB]? = some (.cells #[c0,c1,c2,c3,.slice (some ⟨g7,0,none⟩) (ks.length+1) cap7] 25 (0,0)) ∧
   (w7.setCell ⟨bB,4,none⟩ (.slice (some ⟨g7,0,none⟩) (ks.length+1) cap7)).ownsRow Bs 25 5 (.slice (some ⟨g7,0,none⟩) (ks.length+1) cap7) (ks++[t]).length rows'.flatten ∧
   RowsOwn (w7.setCell ⟨bB,4,none⟩ (.slice (some ⟨g7,0,none⟩) (ks.length+1) cap7)) Bs d' (ks++[t]) (ks++[t]).length (some g7) rows' Fs'∧w7.heap[bB]? = some (.cells #[c0,c1,c2,c3,o] 25 (0,0)):=by
 have hob:=own_block hown
 have hl0:=hT.1.size
 have hl3:=hT3.1.size
 have hgl:gg<W3.heap.size:=(Array.getElem?_eq_some_iff.1 hgg).1
 have hl7:=hgrow.size
 have hrow:∀g,o.ownBlock=some g→w.heap.size≤g:=fun g hg=>by have:=(hob g hg).1;omega
 have HT7:=(hT.trans hT3).grownO hP hL hgrow hrow
 have hk3:∀b,b<W3.heap.size→o.ownBlock≠some b→w7.heap[b]? = W3.heap[b]?:=fun b h1 h2=>hgrow.block b h1 (fun e=>h2 e.symm)
 have hne:∀b,b<Bs→o.ownBlock≠some b:=fun b hb e=>by have:=(hob b e).1;omega
 have e2:=ho.mores d
 rw[Nat.add_comm d2 d] at e2
 have hgR:∀b,b<Bs→b≠P→w7.heap[b]? = X.heap[b]?:=fun b h1 h2=>(hk3 b (by omega) (hne b h1)).trans (hT3.1.block b (by omega) (fun e=>by injection e with e;exact h2 e))
 obtain⟨Fs',hnext⟩:=RowsOwn.nextT (W':=w7) (N:=N) (own':=some g7) (t:=t) ((hrows.deeper d2).longer rfl [t]) (by simp) hf
  (e2.keep fun x o' hx ho'=>(hk3 x (by have:=hx.2;omega) (fun e=>by have:=(hob x e).2;have:=hx.1;omega)).trans ho') hN1 (by omega) (by omega) (by omega)
  (fun x h1 h2 hne'=>(hk3 x (by omega) hne').trans (hT3.1.block x h2 (fun e=>by injection e with e;omega))) (fun x hx=>by
   injection hx with hx
   subst hx
   rcases hlies with h|h
   ·exact Or.inl ⟨h,by have:=(hob _ h).2;omega⟩
   ·right;omega)
 obtain⟨sl,hsl⟩:∃sl,sl=Value.slice (some ⟨g7,0,none⟩) (ks.length+1) cap7:=⟨_,rfl⟩
 rw[←hsl] at happ ⊢
 have hset:w7.grownBy (w7.setCell ⟨bB,4,none⟩ sl) (some bB):=grown_set (World.grownBy.refl w7 _) _ _
 have hb7:w7.heap[bB]? = some (.cells #[c0,c1,c2,c3,o] 25 (0,0)):=(hgR bB hBs (by omega)).trans hbB
 refine⟨d+d2,rows++[nodeCells t s2],Fs',HT7.setCell hP hL hwB 4 sl,?_,?_,?_,?_,hb7⟩
 ·exact fun b h1 h2 h3=>(Below.heap_setCell _ _ _ b h3).trans (hgR b h1 h2)
 ·rw[heap_set hb7 4 sl];rfl
 ·have:=ownsRow_turn happ hset hBs
  rw[List.length_append,List.length_singleton,List.flatten_append]
  simpa using this
 ·rw[List.length_append,List.length_singleton]
  exact hnext.turn hset hBs
end Go.Proofs.YtglbjooofdnbkaaGreatDoor
