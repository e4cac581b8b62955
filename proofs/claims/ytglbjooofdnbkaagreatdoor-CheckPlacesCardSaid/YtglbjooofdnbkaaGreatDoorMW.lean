/- Several texts joined, each with its own sentence and conditions ahead of it: ParsF, ParsG, ParsH, ParsI. -/
import Derived.Test.YtglbjooofdnbkaaGreatDoorMV
namespace Go.Proofs.YtglbjooofdnbkaaGreatDoor
set_option maxHeartbeats 2000000
set_option maxRecDepth 100000
open Go.RowKit
theorem OwnAt.mores {w:World}{d:Nat}{ks:List Tree}{sl:Value}{F:Nat→Prop}(h:OwnAt w d ks sl F):∀n,OwnAt w (d+n) ks sl F:=by
 intro n
 induction n with
 | zero=>exact h
 | succ n ih=>exact ih.more
theorem nodeCells_two {T1 T2:Tree}{s1 s2:Value}{m:Nat}{u:Value}:((nodeCells T1 s1)[m]? = some u→(nodeCells T1 s1++nodeCells T2 s2).toArray[0*5+m]? = some u)∧((nodeCells T2 s2)[m]? = some u→(nodeCells T1 s1++nodeCells T2 s2).toArray[1*5+m]? = some u):=by
 refine⟨fun h=>?_,fun h=>?_⟩
 ·have hm:m<(nodeCells T1 s1).length:=(List.getElem?_eq_some_iff.1 h).1
  rw[List.getElem?_toArray,Nat.zero_mul,Nat.zero_add,List.getElem?_append_left hm];exact h
 ·have hl:(nodeCells T1 s1).length=5:=by simp[nodeCells]
  rw[List.getElem?_toArray,List.getElem?_append_right (by omega),hl]
  rw[show 1*5+m-5=m by omega];exact h
theorem own_two {W:World}{d1 d2 g:Nat}{T1 T2:Tree}{s1 s2:Value}{F1 F2 F:Nat→Prop}(h1:OwnAt W d1 T1.kids s1 F1)(h2:OwnAt W d2 T2.kids s2 F2)(f1:Fits T1)(f2:Fits T2)
  (hg:W.heap[g]? = some (.cells (nodeCells T1 s1++nodeCells T2 s2).toArray 25 (0,0))) (hF:F g) (hs1:∀b,F1 b→F b∧b≠g) (hs2:∀b,F2 b→F b∧b≠g) (hap:∀b,F1 b→¬F2 b) :
  OwnAt W (d1+d2+1) [T1,T2] (.slice (some ⟨g,0,none⟩) 2 2) F:=by
 have e1:=h1.mores d2
 have e2:=h2.mores d1
 rw[Nat.add_comm d2 d1] at e2
 refine Or.inr ⟨g,2,(nodeCells T1 s1++nodeCells T2 s2).toArray,fun i b=>(i=0∧F1 b)∨(i=1∧F2 b),by simp,hF,Nat.le_refl _,by unfold maxLen;omega,rfl,hg,by simp[nodeCells],fun i T' hT'=>?_,fun i b hb=>?_,fun i j b hij hi hj=>?_⟩
 ·cases i with
  | zero =>
   simp at hT';subst hT'
   exact⟨f1,s1,fun m u hu=>nodeCells_two.1 hu,e1.sub fun b hb=>Or.inl ⟨rfl,hb⟩⟩
  | succ i =>
   cases i with
   | zero =>
    simp at hT';subst hT'
    exact⟨f2,s2,fun m u hu=>nodeCells_two.2 hu,e2.sub fun b hb=>Or.inr ⟨rfl,hb⟩⟩
   | succ i=>simp at hT'
 ·rcases hb with ⟨_,hb⟩|⟨_,hb⟩
  ·exact hs1 b hb
  ·exact hs2 b hb
 ·rcases hi with ⟨a,hi⟩|⟨a,hi⟩
  ·rcases hj with ⟨b',hj⟩|⟨b',hj⟩
   ·omega
   ·exact hap b hi hj
  ·rcases hj with ⟨b',hj⟩|⟨b',hj⟩
   ·exact hap b hj hi
   ·omega
def GotTwo (L0:Nat) (T1:Tree) (s1:Value) (T2:Tree) (W:World) (xs:List Value):Prop:=∃(d g N:Nat) (s:Value),xs=[.int .i64 g]∧W.heap[g]? = some (.cells (nodeCells T1 s1++nodeCells T2 s).toArray 25 (0,0))∧OwnAt W d T2.kids s (Between L0 N)∧Fits T2∧L0≤N∧N≤g
theorem GotTwo.grown {L0 Q:Nat}{T1 T2:Tree}{s1:Value}{W W':World}{xs:List Value}(h:GotTwo L0 T1 s1 T2 W xs)(hQ:Q<L0)(hg:W.grownBy W' (some Q)):GotTwo L0 T1 s1 T2 W' xs:=by
 obtain⟨d,g,N,s,h1,h2,h3,h4,h5,h6⟩:=h
 exact⟨d,g,N,s,h1,grownBy_keep hg h2 (by omega),h3.keep fun b o hb ho=>grownBy_keep hg ho (by have:=hb.1;omega),h4,h5,h6⟩
def leftOf (P:Nat) (w:World):Nat:=match w.cell? ⟨P,0,none⟩ with|some (.slice _ m _)=>m|_=>0
theorem PAt.left {w:World}{P L cap:Nat}{ts:List Tok}{k:Nat}{bad:Bool}(h:PAt w P L cap ts k bad):leftOf P w=ts.length-k:=by
 obtain⟨m,c,e1,e2,c0,_⟩:=h.cells
 unfold leftOf
 rw[c0]
 show m=_
 omega
theorem lv30_at {lvl:Nat}(h:lvl<5){i:Nat}{s:ByteArray}(hs:(lvl6 lvl)[i]? = some s):(lv30.map Value.string)[lvl*6+i]? = some (.string s):=by
 have hi:i<6:=by
  have:=(List.getElem?_eq_some_iff.1 hs).1
  have e:(lvl6 lvl).length=6:=by
   match lvl,h with
   | 0,_=>rfl
   | 1,_=>rfl
   | 2,_=>rfl
   | 3,_=>rfl
   | 4,_=>rfl
  omega
 match lvl,h,i,hi with
 | 0,_,0,_|0,_,1,_|0,_,2,_|0,_,3,_|0,_,4,_|0,_,5,_
 | 1,_,0,_|1,_,1,_|1,_,2,_|1,_,3,_|1,_,4,_|1,_,5,_
 | 2,_,0,_|2,_,1,_|2,_,2,_|2,_,3,_|2,_,4,_|2,_,5,_
 | 3,_,0,_|3,_,1,_|3,_,2,_|3,_,3,_|3,_,4,_|3,_,5,_
 | 4,_,0,_|4,_,1,_|4,_,2,_|4,_,3,_|4,_,4,_|4,_,5,_ =>
  first|(injection hs with hs;subst hs;rfl)
theorem lvl6_len {lvl:Nat}(h:lvl<5):(lvl6 lvl).length=6:=by
 match lvl,h with
 | 0,_=>rfl
 | 1,_=>rfl
 | 2,_=>rfl
 | 3,_=>rfl
 | 4,_=>rfl
theorem textsAt_lvl {w:World}{b lvl:Nat}(hb:w.heap[b]? = some (.cells (lv30.map Value.string).toArray 226 (0,0)))(h:lvl<5):TextsAt w b (lvl*6) (lvl6 lvl):=
 ⟨(Array.getElem?_eq_some_iff.1 hb).1,fun i s hs=>by
  rw[cell_of_row _ _ _ _ _ _ hb,List.getElem?_toArray]
  exact lv30_at h hs⟩
theorem run_lexText (a:Int)(x:ByteArray)(p:Int)(W:World):(Instr.field 119 (.agg #[.int .u8 a,.string x,.int .i64 p]) 1).run Tryz.prog W=.ok (.string x) W:=by kernel_rfl
theorem run_lexAt (a:Int)(x:ByteArray)(p:Int)(W:World):(Instr.field 119 (.agg #[.int .u8 a,.string x,.int .i64 p]) 2).run Tryz.prog W=.ok (.int .i64 p) W:=by kernel_rfl
def TwoRel (w:World) (P L cap:Nat) (ts:List Tok) (ex:PS→Tree×PS) (lvl:Nat) (pl:Int) (R:Tree×PS) (b0 b1 b3 k0:Nat) (wr:World):Prop:=
 ∃(g:Nat) (T:Tree) (σ:PS) (d:Nat) (s:Value),loopM ts ex lvl pl g T σ=R∧ts.length-σ.1≤g∧k0≤σ.1∧Turns w P L cap ts σ.1 σ.2 wr∧wr.heap[b0]? = some (.cells zeroN 25 (0,0))∧wr.heap[b1]? = some (.cells (lv30.map Value.string).toArray 226 (0,0)) ∧
  wr.heap[b3]? = some (.cells (nodeCells T s).toArray 25 (0,0))∧OwnAt wr d T.kids s (fun b=>b1<b∧b<wr.heap.size∧b≠b3)∧Fits T
theorem ptwo_of {ts:List Tok}(hts:TsOk ts){f:Nat}(h1:OneOk ts (f+1))(hE:ExOk ts f):ExOk ts (f+1):=by
 intro lvl σ w P L cap hlvl h hf
 have hb0:Below w.heap.size w (w.alloc (.cells zeroN 25)):=(Below.refl _ w).alloc (Nat.le_refl _) _
 have H0:=Hd (h.turns hb0)
 have HPt:=Hd h
 have hP:=h.lt.1
 have HL:=Hd h.lt.2
 have HX:=Hd (heap_alloc_new w (.cells zeroN 25))
 have HTS:=Hd hts
 have HOne:=Hd h1
 have HEx:=Hd hE
 have HFu:=Hd hf
 obtain⟨R,hRR⟩:∃R,exM ts (f+1) lvl σ=R:=⟨_,rfl⟩
 rw[hRR]
 have HR:=Hd hRR
 clear h hb0 hts h1 hE hf hRR
 have HLv:=Hd (plevels_any (w.alloc (.cells zeroN 25)))
 go_enter Tryz.func143,Tryz.ntmps143
 go_wp2_with fail
 refine Calls.mono HLv.out ?_
 rintro e w1 ⟨rfl,hb1⟩
 have HT1:=Hd (H0.out.of_below hb1)
 have HX1:=Hd (heap_below hb1 HX.out (by simp))
 have hl1:w.heap.size<w1.heap.size:=(Array.getElem?_eq_some_iff.1 HX1.out).1
 clear hb1
 obtain⟨vs,hvs⟩:∃vs,lv30.map Value.string=vs:=⟨_,rfl⟩
 rw[hvs]
 have hlen:vs.length=30:=by rw[←hvs];rfl
 have hone:vs.toArray.all (·.oneCell')=true:=by rw[←hvs];exact lv30_one
 dsimp only
 iterate 4 (first|go_step|go_back)
 have hN:=heap_alloc_new w1 (.cells blank30 226)
 have hB:=(Below.refl _ w1).alloc (Nat.le_refl _) (.cells blank30 226)
 change wpList _ _ _ _ _ (w1.alloc (.cells blank30 226))
 generalize w1.alloc (.cells blank30 226)=w2' at *
 refine wpList_store_mid rfl 226 _ _ rfl w1.heap.size 0 vs.toArray rfl rfl (there_whole hN (by simp[hlen,blank30])) (by simp only[List.size_toArray,hlen];kernel_rfl) hone ?_
 have hN2:=scells_whole (vs:=vs) hN (by simp[hlen,blank30])
 have hB2:=scells_below (Nat.le_refl _) vs 0 w2' hB
 change wpList _ _ _ _ _ (w2'.setCells w1.heap.size 0 vs)
 generalize w2'.setCells w1.heap.size 0 vs=w2 at *
 rw[←hvs] at hN2
 have HV2:=Hd hN2
 have HT2:=Hd (HT1.out.of_below hB2)
 have HX2:=Hd (heap_below hB2 HX1.out hl1)
 have hl2:w1.heap.size<w2.heap.size:=(Array.getElem?_eq_some_iff.1 hN2).1
 have HLv:Hid (lvl≤5):=hlvl
 obtain⟨m,c,e1,e2,c0,c1,f0,f1⟩:=HT2.out.2.cells
 clear hN hB hB2 hN2 hone hvs hlen e1 e2 c0 f0 f1 w2' hlvl
 cases hbad:σ.2 with
 | true =>
  rw[hbad] at c1
  have hR:(zeroT,σ)=R:=by rw[←HR.out];unfold exM;rw[if_pos hbad]
  have HBad:=Hd hbad
  obtain⟨a0,a1,a2,a3,a4⟩:=cells5 HX2.out
  have z0:=frozen5 HX2.out 0
  have z1:=frozen5 HX2.out 1
  have z2:=frozen5 HX2.out 2
  have z3:=frozen5 HX2.out 3
  have z4:=frozen5 HX2.out 4
  clear hbad
  go_wp2_with fail
  refine ret_node Tryz.results143 rfl (heap_set5 HX2.out _ _ _ _ _) rfl ?_
  rw[←hR]
  exact NodeRes.stored (r:=(zeroT,σ)) hP HL.out HT2.out (own_nil _ _) (fits_mk (by omega) (by show (0:Nat)≤16384;omega) (by omega) (by omega)) (Nat.le_refl _) (Nat.lt_trans hl1 hl2) _ _ _ _ _
 | false =>
  rw[hbad] at c1
  have HBad:=Hd hbad
  by_cases hl5:lvl=5
  ·subst hl5
   have HO:=Hd (HOne.out σ w2 P L cap hbad HT2.out.2 (by have:=HFu.out;omega))
   rw[HR.out] at HO
   clear hbad
   go_wp2_with fail
   refine Calls.mono HO.out ?_
   rintro e w4 ⟨d,s,rfl,hT4,ho,hf⟩
   obtain⟨p,c,rfl⟩:=ho.shape
   have HT4:=Hd (HT2.out.trans hT4)
   have y0:=hT4.box HX2.out hP (Nat.le_refl _)
   have HY0:=Hd y0
   obtain⟨a0,a1,a2,a3,a4⟩:=cells5 y0
   have z0:=frozen5 y0 0
   have z1:=frozen5 y0 1
   have z2:=frozen5 y0 2
   have z3:=frozen5 y0 3
   have z4:=frozen5 y0 4
   have HO:=Hd ho
   have HF:=Hd hf
   clear hT4 y0 ho hf c1
   go_wp2_with fail
   refine ret_node Tryz.results143 rfl (heap_set5 HY0.out _ _ _ _ _) rfl ?_
   exact NodeRes.stored hP HL.out HT4.out HO.out HF.out (Nat.le_refl _) (Nat.lt_trans hl1 hl2) _ _ _ _ _
  have hR:loopM ts (exM ts f (lvl+1)) lvl (atM ts σ) ts.length (exM ts f (lvl+1) σ).1 (exM ts f (lvl+1) σ).2=R:=by
   rw[←HR.out]
   conv=>rhs;unfold exM
   rw[if_neg (by rw[hbad];decide),if_neg hl5]
  have hlt:lvl<5:=by have:=HLv.out;omega
  have hl5':((lvl:Int)==5)=false:=by simp;omega
  have HNow:=Hd (pnow_res HT2.out.2)
  have HLt:=Hd hlt
  have hat:0≤atM ts σ∧atM ts σ≤16384:=by
   obtain⟨_,_,g3⟩:=tokM_ok HTS.out σ.1
   unfold atM
   omega
  obtain⟨at_,hatE⟩:∃a,atM ts σ=a:=⟨_,rfl⟩
  rw[hatE] at hat hR HNow
  have HAt:=Hd hat
  generalize kdM ts σ=kd at HNow
  generalize txM ts σ=tx at HNow
  have HR':=Hd hR
  clear HR hR hat hatE hbad hl5
  go_wp2_with fail
  refine Calls.mono HNow.out ?_
  rintro e w3 ⟨rfl,hb3⟩
  have HT3:=Hd (HT2.out.of_below hb3)
  have HX3:=Hd (heap_below hb3 HX2.out (Nat.lt_trans hl1 hl2))
  have HV3:=Hd (heap_below hb3 HV2.out hl2)
  have hl3:w2.heap.size≤w3.heap.size:=hb3.size
  have HCall:=Hd (HEx.out (lvl+1) σ w3 P L cap (by omega) HT3.out.2 (by have:=HFu.out;omega))
  rw[Int.natCast_succ] at HCall
  clear hb3 c1
  have hFA:=run_lexAt kd tx at_ w3
  go_wp2_with fail
  refine Calls.mono HCall.out ?_
  rintro e w4 ⟨d,s,rfl,hT4,ho,hf⟩
  clear hFA HCall HLv HPt H0 HX HX1 HT1 hl5' HBad m c
  obtain⟨p,c,rfl⟩:=ho.shape
  have HCall:Hid (∀(σ:PS) (W:World),PAt W P L cap ts σ.1 σ.2→(ts.length-σ.1)*7+(6-(lvl+1))≤f→Calls Tryz.prog 143 #[.pointer (some ⟨P,0,none⟩),.int .i64 (lvl+1)] W (NodeRes W P L cap ts (exM ts f (lvl+1) σ))):=by
   intro σ W h1 h2
   have:=HEx.out (lvl+1) σ W P L cap (by omega) h1 h2
   rw[Int.natCast_succ] at this
   exact this
  have HGe:Hid (∀σ,σ.1≤(exM ts f (lvl+1) σ).2.1):=fun σ=>exM_ge ts f (lvl+1) σ
  have HFu':Hid ((ts.length-σ.1)*7+(6-(lvl+1))≤f):=by show _≤_;have:=HFu.out;omega
  have HSt:Hid (σ.1≤(exM ts f (lvl+1) σ).2.1):=HGe.out σ
  generalize exM ts f (lvl+1)=ex at *
  generalize ex σ=r at *
  obtain⟨W0,hW0⟩:∃W0,W0=w4.alloc (.cells (nodeCells r.1 (.slice p r.1.kids.length c)).toArray 25):=⟨_,rfl⟩
  have hBW:Below w4.heap.size w4 W0:=by rw[hW0];exact (Below.refl _ w4).alloc (Nat.le_refl _) _
  have hNW:W0.heap[w4.heap.size]? = some (.cells (nodeCells r.1 (.slice p r.1.kids.length c)).toArray 25 (0,0)):=by rw[hW0];exact heap_alloc_new w4 _
  have hl4:w3.heap.size≤w4.heap.size:=hT4.1.size
  have hX4:=hT4.box HX3.out hP (Nat.le_refl _)
  have hV4:=hT4.box HV3.out hP (Nat.le_of_lt hl1)
  have HRel:Hid (TwoRel w P L cap ts ex lvl at_ R w.heap.size w1.heap.size w4.heap.size σ.1 W0):=by
   refine⟨ts.length,r.1,r.2,d,.slice p r.1.kids.length c,HR'.out,Nat.sub_le _ _,HSt.out,(HT3.out.trans hT4).of_below hBW,heap_below hBW hX4 (by omega),heap_below hBW hV4 (by omega),hNW,?_,hf⟩
   refine (ho.below (fun b hb=>hb.2) hBW).sub fun b hb=>?_
   have h1:=hb.1
   have h2:=hb.2
   have h3:w4.heap.size<W0.heap.size:=(Array.getElem?_eq_some_iff.1 hNW).1
   exact⟨by omega,by omega,by omega⟩
  have hl14:w1.heap.size<w4.heap.size:=by omega
  clear hBW hNW hX4 hV4 hT4 ho hf hl4 HFu HEx HR' HX3 HV3 HT3 HX2 HV2 HT2 hl2 hl3
  go_wp2_with fail
  change Code.wp _ _ _ _ (w4.alloc (.cells (nodeCells r.1 (.slice p r.1.kids.length c)).toArray 25))
  rw[←hW0]
  clear hW0
  go_loopw [8] (fun _ wr=>TwoRel w P L cap ts ex lvl at_ R w.heap.size w1.heap.size w4.heap.size σ.1 wr) (fun _ wr=>leftOf P wr)
  case atStart=>exact HRel.out
  case round =>
   clear HRel W0
   obtain⟨g,T,σ1,d1,s1,hloop,hg,hk0,hT,hx0,hx1,hx3,ho,hf⟩:=hrel
   obtain⟨p1,c1,rfl⟩:=ho.shape
   have HT:=Hd hT
   have HO:=Hd ho
   have HF:=Hd hf
   have HX0:=Hd hx0
   have HX1:=Hd hx1
   have HX3:=Hd hx3
   have HLoop:=Hd hloop
   have HG:=Hd hg
   have HK0:=Hd hk0
   have hb3l:w4.heap.size<wr.heap.size:=(Array.getElem?_eq_some_iff.1 hx3).1
   clear hT ho hf hx0 hx1 hx3 hloop hg hk0
   have hl0:(0:Int)≤lvl:=by omega
   have hl5:(lvl:Int)<5:=by omega
   have hIs:∀x:Wb wr,Calls Tryz.prog 100 #[.pointer (some ⟨P,0,none⟩),.slice (some ⟨w1.heap.size,lvl*6,none⟩) 6 6] x.1 fun e w'=>e=.returned (.bool (isM ts σ1 (lvl6 lvl)))∧Below x.1.heap.size x.1 w':=fun x =>
    pis_any (HT.out.2.below x.2) (tokM_at HT.out.2.k) w1.heap.size (lvl*6) 6 6 (lvl6 lvl) (textsAt_lvl (heap_below x.2 HX1.out (by omega)) hlt) (lvl6_len hlt) (by omega)
   have HIs:=Hd hIs
   have HM:Hid (isM ts σ1 (lvl6 lvl)=isM ts σ1 (lvl6 lvl)):=rfl
   obtain⟨b,hb⟩:∃b,isM ts σ1 (lvl6 lvl)=b:=⟨_,rfl⟩
   rw[hb] at HIs
   have HB:=Hd hb
   clear hIs HM hb
   go_wp2_with fail
   refine wp_region_below (by kernel_rfl) (by kernel_rfl) ?_
   repeat (go_big_quiet_step ((go_at_call 100;exact Calls.below_of (HIs.out _))))
   refine wpQuiet_nil ?_
   intro W2 hw'
   obtain⟨⟨_,hb2⟩,rfl⟩:=hw'
   have HB2:=Hd hb2
   have hlW:wr.heap.size≤W2.heap.size:=hb2.size
   have HT2:=Hd (HT.out.of_below hb2)
   have HY0:=Hd (heap_below hb2 HX0.out (by omega))
   have HY1:=Hd (heap_below hb2 HX1.out (by omega))
   have HY3:=Hd (heap_below hb2 HX3.out hb3l)
   have HO2:=Hd (HO.out.below (fun b hb=>hb.2.1) hb2)
   clear hb2
   cases b with
   | false =>
    have hRR:(T,σ1)=R:=by
     rw[←HLoop.out]
     cases g with
     | zero=>rfl
     | succ g=>unfold loopM;rw[if_neg (by rw[HB.out];decide)]
    have HRR:=Hd hRR
    obtain⟨a0,a1,a2,a3,a4⟩:=cells5 HY0.out
    have z0:=frozen5 HY0.out 0
    have z1:=frozen5 HY0.out 1
    have z2:=frozen5 HY0.out 2
    have z3:=frozen5 HY0.out 3
    have z4:=frozen5 HY0.out 4
    obtain⟨d0,d1',d2,d3,d4⟩:=cells5 HY3.out
    clear hRR
    go_wp2_with fail
    refine ret_node Tryz.results143 rfl (heap_set5 HY0.out _ _ _ _ _) rfl ?_
    rw[←HRR.out]
    exact NodeRes.stored (r:=(T,σ1)) (B:=w1.heap.size) hP HL.out HT2.out (HO2.out.sub (fun b hb=>⟨Nat.le_of_lt hb.1,Nat.lt_of_lt_of_le hb.2.1 hlW⟩)) HF.out (Nat.le_refl _) hl1 _ _ _ _ _
   | true =>
    have HNow2:=Hd (pnow_res HT2.out.2)
    obtain⟨tx2,htx2⟩:∃t,txM ts σ1=t:=⟨_,rfl⟩
    rw[htx2] at HNow2
    have HTx:=Hd htx2
    generalize kdM ts σ1=kd2 at HNow2
    generalize atM ts σ1=at2 at HNow2
    clear htx2
    go_wp2_with fail
    refine Calls.mono HNow2.out ?_
    rintro e w5 ⟨rfl,hb5⟩
    have hFT:=run_lexText kd2 tx2 at2 w5
    have hl5':W2.heap.size≤w5.heap.size:=hb5.size
    obtain⟨w6,hw6⟩:∃w6,w6=w5.alloc (.cells #[.int .u8 16,.string tx2,.int .i64 0,.int .i64 at_,.slice none 0 0] 25):=⟨_,rfl⟩
    have hb6:Below w5.heap.size w5 w6:=by rw[hw6];exact (Below.refl _ w5).alloc (Nat.le_refl _) _
    have HN6:Hid (w6.heap[w5.heap.size]? = some (.cells #[.int .u8 16,.string tx2,.int .i64 0,.int .i64 at_,.slice none 0 0] 25 (0,0))):=by show _=_;rw[hw6];exact heap_alloc_new w5 _
    have hb26:Below W2.heap.size W2 w6:=hb5.trans (hb6.mono hb5.size)
    have hl6:w5.heap.size<w6.heap.size:=(Array.getElem?_eq_some_iff.1 HN6.out).1
    have HT6:=Hd (HT2.out.of_below hb26)
    have HZ0:=Hd (heap_below hb26 HY0.out (by omega))
    have HZ1:=Hd (heap_below hb26 HY1.out (by omega))
    have HZ3:=Hd (heap_below hb26 HY3.out (by omega))
    have HO6:=Hd (HO2.out.below (fun b hb=>Nat.lt_of_lt_of_le hb.2.1 hlW) hb26)
    have HNx:=Hd (pnext_any HT6.out.2)
    clear hb5 hb6 hb26
    go_wp2_with fail
    rw[←hw6]
    refine Calls.mono HNx.out ?_
    rintro e w7 ⟨rfl,hT7'⟩
    have hT7:Turns w6 P L cap ts (nextM ts σ1).1 (nextM ts σ1).2 w7:=hT7'
    have HT7:=Hd (HT6.out.trans hT7)
    have hl7:w6.heap.size≤w7.heap.size:=hT7.1.size
    have HU0:=Hd (hT7.box HZ0.out hP (Nat.le_refl _))
    have HU1:=Hd (hT7.box HZ1.out hP (Nat.le_of_lt hl1))
    have HU3:=Hd (hT7.box HZ3.out hP (by omega))
    have HU8:=Hd (hT7.box HN6.out hP (by omega))
    have HO7:=Hd (HO6.out.keep fun b o hb ho=>grownBy_keep hT7.1 ho (by have:=hb.1;omega))
    obtain⟨q1,q2,q3⟩:=next_on HTS.out HT.out.2.k HB.out
    have HC2:=Hd (HCall.out (nextM ts σ1) w7.drew HT7.out.2.drew (by rw[q1];have:=HFu'.out;have:=HK0.out;omega))
    have hge:=HGe.out (nextM ts σ1)
    rw[q1] at hge
    have HGt:=Hd hge
    have HK1:=Hd (show σ.1≤(ex (nextM ts σ1)).2.1 by have:=HK0.out;omega)
    obtain⟨g',hg',hR2⟩:∃g',ts.length-(ex (nextM ts σ1)).2.1≤g'∧(if lvl=2 then (.mk 16 tx2 0 at_ [T,(ex (nextM ts σ1)).1],(ex (nextM ts σ1)).2) else loopM ts ex lvl at_ g' (.mk 16 tx2 0 at_ [T,(ex (nextM ts σ1)).1]) (ex (nextM ts σ1)).2)=R:=by
     have h1:=HLoop.out
     have h2:=HG.out
     cases g with
     | zero=>omega
     | succ g =>
      refine⟨g,by omega,?_⟩
      unfold loopM at h1
      rw[if_pos HB.out,HTx.out] at h1
      exact h1
    have HG':=Hd hg'
    have HR2:=Hd hR2
    clear hg' hR2 hge q1 q2 q3 hT7' hT7
    generalize ex (nextM ts σ1)=r2 at *
    have HTxS:Hid (tx2.size≤16384):=by show _≤_;rw[←HTx.out];exact (tokM_ok HTS.out σ1.1).2.1
    obtain⟨d0,d1',d2,d3,d4⟩:=cells5 HU3.out
    have hbP:w4.heap.size≠P:=by omega
    have C0:=fun x:RE.Gr w7 P=>x.cell d0 hbP
    have C1:=fun x:RE.Gr w7 P=>x.cell d1' hbP
    have C2:=fun x:RE.Gr w7 P=>x.cell d2 hbP
    have C3:=fun x:RE.Gr w7 P=>x.cell d3 hbP
    have C4:=fun x:RE.Gr w7 P=>x.cell d4 hbP
    have hP7:P<w7.heap.size:=by omega
    clear d0 d1' d2 d3 d4 hFT
    go_wp2_with fail
    refine RE.wp_region_eff (by kernel_rfl) 6 [4,5] [4,5] (fun s W=>if s=0 then W=w7.drew else Turns w7 P L cap ts r2.2.1 r2.2.2 W) (fun W W'=>W.grownBy W' (some P))
     (fun i xs=>if i=4 then .agg #[.int .u8 r2.1.kind,.string r2.1.text,.int .i64 r2.1.num,.int .i64 r2.1.place,xs.getD 0 undef] else .slice (some ⟨RE.natOf xs,0,none⟩) 2 2)
     (fun i W xs=>if i=4 then GotN w7.heap.size r2.1 W xs else GotTwo w7.heap.size T (.slice p1 T.kids.length c1) r2.1 W xs) (by kernel_rfl) (fun i h1 h2=>by rw[h1] at h2;cases h2) ?_ rfl ?_
    ·intro k W W' xs h _ hg
     split at h
     ·rw[if_pos (by assumption)];exact h.grown hP7 hg
     ·rw[if_neg (by assumption)];exact h.grown hP7 hg
    simp only[List.take_succ_cons,List.take_zero,List.drop_succ_cons,List.drop_zero,List.length_cons,List.length_nil,Nat.reduceAdd]
    have hcl:∀(n s:Nat) (W:World),s≤n→(if s=0 then W=w7.drew else Turns w7 P L cap ts r2.2.1 r2.2.2 W)→∃x:RE.Gr w7 P,W=x.1:=fun n s W _ h=>by
     split at h
     ·exact⟨⟨W,by rw[h];exact grown_drewN (World.grownBy.refl w7 _) 1⟩,rfl⟩
     ·exact⟨⟨W,h.1⟩,rfl⟩
    have HCl:=Hd hcl
    clear hcl
    repeat (refine RE.wpE_read (fun W=>∃x:RE.Gr w7 P,W=x.1) (HCl.out _) rfl rfl rfl rfl ?_;go_big_quiet_step (fail);refine wpQuiet_nil ?_)
    refine RE.wpE_turn rfl rfl ?_ (fun xs4=>?_)
    ·intro W _ hS _
     obtain rfl:W=w7.drew:=hS rfl
     refine RE.upon_call 143 _ _ rfl (enters_of Tryz.func143 (by kernel_rfl) rfl) #[.pointer (some ⟨P,0,none⟩),.int .i64 (lvl+1)] (by simp[Act.eval]) (HC2.out.mono ?_)
     rintro e W' ⟨d,s,rfl,hT,ho,hf⟩
     exact⟨_,rfl,[s],rfl,hT.of_drew,hT.1,⟨d,s,rfl,ho,hf⟩⟩
    simp only[Act.put,List.setIfInBounds_toArray,List.set_cons_zero,List.set_cons_succ]
    refine RE.wpE_turn rfl rfl ?_ (fun xs5=>?_)
    ·intro W _ hS hφ
     have hT:Turns w7 P L cap ts r2.2.1 r2.2.2 W:=hS rfl
     obtain⟨d,s,rfl,ho,hf⟩:GotN w7.heap.size r2.1 W xs4:=hφ 4 xs4 (by kernel_rfl) rfl
     obtain⟨p,c,rfl⟩:=ho.shape
     refine RE.Upon.told (v:=.slice (some ⟨W.heap.size,0,none⟩) 2 2) (w':=W.alloc (.cells (nodeCells T (.slice p1 T.kids.length c1)++nodeCells r2.1 (.slice p r2.1.kids.length c)).toArray 25)) ?_ ⟨[.int .i64 W.heap.size],rfl,hT.alloc _,?_,?_⟩
     ·unfold RE.Upon
      go_simp
      rfl
     ·exact grown_of_below ((Below.refl _ W).alloc (Nat.le_refl _) _) _
     ·refine⟨d,W.heap.size,W.heap.size,_,rfl,heap_alloc_new W _,?_,hf,hT.1.size,Nat.le_refl _⟩
      exact ho.below (fun b hb=>hb.2) ((Below.refl _ W).alloc (Nat.le_refl _) _)
    simp only[Act.put,List.setIfInBounds_toArray,List.set_cons_zero,List.set_cons_succ]
    refine RE.wpE_nil ?_
    intro W3 hS hE
    have hT3:Turns w7 P L cap ts r2.2.1 r2.2.2 W3:=hS
    obtain⟨d,gg,N,s2,rfl,hgg,ho2,hf2,hN1,hN2⟩:=(show GotTwo w7.heap.size T (.slice p1 T.kids.length c1) r2.1 W3 xs5 from hE 5 xs5 rfl)
    have hggl:gg<W3.heap.size:=(Array.getElem?_eq_some_iff.1 hgg).1
    have hle3:w7.heap.size≤W3.heap.size:=hT3.1.size
    have HT3:=Hd (HT7.out.trans hT3)
    have HV0:=Hd (hT3.box HU0.out hP (Nat.le_refl _))
    have HV1:=Hd (hT3.box HU1.out hP (Nat.le_of_lt hl1))
    have HV3:=Hd (hT3.box HU3.out hP (by omega))
    have HV8:=Hd (hT3.box HU8.out hP (by omega))
    have hO3:=HO7.out.keep fun b o hb ho=>grownBy_keep hT3.1 ho (by have:=hb.1;omega)
    have HTwo:Hid (OwnAt W3 (d1+d+1) [T,r2.1] (.slice (some ⟨gg,0,none⟩) 2 2) (fun b=>w1.heap.size<b∧b<W3.heap.size∧b≠w4.heap.size∧b≠w5.heap.size)):=by
     refine own_two hO3 ho2 HF.out hf2 hgg ⟨by omega,hggl,by omega,by omega⟩ (fun b hb=>?_) (fun b hb=>?_) (fun b hb hb2=>?_)
     ·exact⟨⟨hb.1,by have:=hb.2.1;omega,hb.2.2,by have:=hb.2.1;omega⟩,by have:=hb.2.1;omega⟩
     ·exact⟨⟨by have:=hb.1;omega,by have:=hb.2;omega,by have:=hb.1;omega,by have:=hb.1;omega⟩,by have:=hb.2;omega⟩
     ·have:=hb.2.1;have:=hb2.1;omega
    obtain⟨sl,hsl⟩:∃sl,sl=Value.slice (some ⟨gg,0,none⟩) 2 2:=⟨_,rfl⟩
    obtain⟨Wn,hWn⟩:∃Wn,Wn=set5 (W3.setCell ⟨w5.heap.size,4,none⟩ sl) w4.heap.size (.int .u8 16) (.string tx2) (.int .i64 0) (.int .i64 at_) sl:=⟨_,rfl⟩
    have hszN:Wn.heap.size=W3.heap.size:=by rw[hWn,set5_size];simp[World.setCell]
    have hother:∀b,b≠w4.heap.size→b≠w5.heap.size→Wn.heap[b]? = W3.heap[b]?:=fun b h1 h2=>by rw[hWn,set5_other h1];exact Below.heap_setCell _ _ _ b h2
    have HTn:=Hd (show Turns w P L cap ts r2.2.1 r2.2.2 Wn by rw[hWn];exact (HT3.out.setCell hP HL.out (by omega) 4 sl).set5 hP HL.out (by omega) _ _ _ _ _)
    have HNn0:=Hd ((hother w.heap.size (by omega) (by omega)).trans HV0.out)
    have HNn1:=Hd ((hother w1.heap.size (by omega) (by omega)).trans HV1.out)
    have HNn3:Hid (Wn.heap[w4.heap.size]? = some (.cells (nodeCells (.mk 16 tx2 0 at_ [T,r2.1]) sl).toArray 25 (0,0))):=by
     show _=_
     rw[hWn]
     exact heap_set5 ((Below.heap_setCell _ _ _ _ (show w4.heap.size≠w5.heap.size by omega)).trans HV3.out) _ _ _ _ _
    have HOn:Hid (OwnAt Wn (d1+d+1) [T,r2.1] sl (fun b=>w1.heap.size<b∧b<Wn.heap.size∧b≠w4.heap.size)):=by
     rw[hsl]
     exact (HTwo.out.keep fun b o hb ho=>(hother b hb.2.2.1 hb.2.2.2).trans ho).sub fun b hb=>⟨hb.1,by rw[hszN];exact hb.2.1,hb.2.2.1⟩
    have hfn:Fits (.mk 16 tx2 0 at_ [T,r2.1]):=fits_mk (by omega) HTxS.out HAt.out.1 HAt.out.2
    have HFn:=Hd hfn
    have hmeas:leftOf P Wn<leftOf P wr:=by
     rw[HTn.out.2.left,HT.out.2.left]
     have:=HGt.out
     have:=HTn.out.2.k
     omega
    have HMeas:=Hd hmeas
    have y3:=HV3.out
    have y8:=HV8.out
    obtain⟨d0,d1',d2,d3,d4⟩:=cells5 y3
    have z0:=frozen5 y3 0
    have z1:=frozen5 y3 1
    have z2:=frozen5 y3 2
    have z3:=frozen5 y3 3
    have z4:=frozen5 y3 4
    obtain⟨e0,e1,e2,e3,e4⟩:=cells5 y8
    have x4:=frozen5 y8 4
    have hne:(w4.heap.size=w5.heap.size)=False:=by simp;omega
    have hne2:(w5.heap.size=w4.heap.size)=False:=by simp;omega
    clear C0 C1 C2 C3 C4 hE hS hT3 hO3 ho2 hf2 hgg y3 y8 hother hmeas hfn hszN
    subst hsl
    have HWn:=Hd hWn
    clear hWn hne hne2
    go_upto_region 13 with fail
    change Code.wp _ _ _ _ (set5 (W3.setCell ⟨w5.heap.size,4,none⟩ (.slice (some ⟨gg,0,none⟩) 2 2)) w4.heap.size (.int .u8 16) (.string tx2) (.int .i64 0) (.int .i64 at_) (.slice (some ⟨gg,0,none⟩) 2 2))
    rw[←HWn.out]
    clear HWn d0 d1' d2 d3 d4 z0 z1 z2 z3 z4 e0 e1 e2 e3 e4 x4
    by_cases hl2:lvl=2
    ·have hR:=HR2.out
     rw[if_pos hl2] at hR
     have HRR:=Hd hR
     have hl2b:((lvl:Int)==2)=true:=by simp;omega
     obtain⟨a0,a1,a2,a3,a4⟩:=cells5 HNn0.out
     have z0:=frozen5 HNn0.out 0
     have z1:=frozen5 HNn0.out 1
     have z2:=frozen5 HNn0.out 2
     have z3:=frozen5 HNn0.out 3
     have z4:=frozen5 HNn0.out 4
     obtain⟨d0,d1',d2,d3,d4⟩:=cells5 HNn3.out
     clear hR hl2
     go_wp2_with fail
     refine ret_node Tryz.results143 rfl (heap_set5 HNn0.out _ _ _ _ _) rfl ?_
     rw[←HRR.out]
     exact NodeRes.stored (r:=(.mk 16 tx2 0 at_ [T,r2.1],r2.2)) (B:=w1.heap.size) hP HL.out HTn.out (HOn.out.sub (fun b hb=>⟨Nat.le_of_lt hb.1,hb.2.1⟩)) HFn.out (Nat.le_refl _) hl1 _ _ _ _ _
    ·have hR:=HR2.out
     rw[if_neg hl2] at hR
     have hRel:TwoRel w P L cap ts ex lvl at_ R w.heap.size w1.heap.size w4.heap.size σ.1 Wn:=
      ⟨g',_,r2.2,_,_,hR,HG'.out,HK1.out,HTn.out,HNn0.out,HNn1.out,HNn3.out,HOn.out,HFn.out⟩
     have HRel:=Hd hRel
     have hl2b:((lvl:Int)==2)=false:=by simp;omega
     clear hR hl2 hRel
     go_wp2_with fail
     exact⟨HRel.out,HMeas.out⟩
theorem ex_all {ts:List Tok}(hts:TsOk ts):∀f,OneOk ts f∧ExOk ts f:=by
 intro f
 induction f with
 | zero=>exact⟨fun σ w P L cap _ _ hf=>by omega,fun lvl σ w P L cap hl _ hf=>by omega⟩
 | succ f ih =>
  have h1:=pone_of hts ih.1 ih.2
  exact⟨h1,ptwo_of hts h1 ih.2⟩
def exprM (ts:List Tok) (σ:PS):Tree×PS:=exM ts (ts.length*7+6) 0 σ
theorem exprM_ge (ts:List Tok)(σ:PS):σ.1≤(exprM ts σ).2.1:=exM_ge ts _ 0 σ
theorem pexpr_all {w:World}{P L cap:Nat}{ts:List Tok}(hts:TsOk ts){σ:PS}(h:PAt w P L cap ts σ.1 σ.2):Calls Tryz.prog 130 #[.pointer (some ⟨P,0,none⟩)] w (NodeRes w P L cap ts (exprM ts σ)):=
 pexpr_any (ex_all hts _).2 σ w P L cap h (by have:(ts.length-σ.1)*7≤ts.length*7:=Nat.mul_le_mul_right _ (Nat.sub_le _ _);omega)
def tComma:ByteArray:=⟨#[44]⟩
def rowLoop (ts:List Tok) (one:PS→Tree×PS):Nat→List Tree→PS→List Tree×PS
 | 0,ks,σ=>(ks,σ)
 | g+1,ks,σ=>if isM ts σ [tComma]=true then rowLoop ts one g (ks++[(one (nextM ts σ)).1]) (one (nextM ts σ)).2 else (ks,σ)
def rowM (ts:List Tok) (one:PS→Tree×PS) (σ:PS):List Tree×PS:=rowLoop ts one ts.length [(one σ).1] (one σ).2
def listM (ts:List Tok) (one:PS→Tree×PS) (σ:PS):List Tree×PS:=
 if isM ts (wantM ts σ tOpen) [tShut]=true then ([],nextM ts (wantM ts σ tOpen))
 else ((rowM ts one (wantM ts σ tOpen)).1,wantM ts (rowM ts one (wantM ts σ tOpen)).2 tShut)
theorem rowLoop_ge {ts:List Tok}{one:PS→Tree×PS}(h1:∀σ,σ.1≤(one σ).2.1):∀(g:Nat)(ks:List Tree)(σ:PS),σ.1≤(rowLoop ts one g ks σ).2.1:=by
 intro g
 induction g with
 | zero=>intro ks σ;exact Nat.le_refl _
 | succ g ih =>
  intro ks σ
  unfold rowLoop
  split
  ·exact Nat.le_trans (Nat.le_trans (nextM_ge ts σ).1 (h1 _)) (ih _ _)
  ·exact Nat.le_refl _
theorem rowM_ge {ts:List Tok}{one:PS→Tree×PS}(h1:∀σ,σ.1≤(one σ).2.1)(σ:PS):σ.1≤(rowM ts one σ).2.1:=Nat.le_trans (h1 σ) (rowLoop_ge h1 _ _ _)
theorem listM_ge {ts:List Tok}{one:PS→Tree×PS}(h1:∀σ,σ.1≤(one σ).2.1)(σ:PS):σ.1≤(listM ts one σ).2.1:=by
 unfold listM
 have h2:=wantM_ge ts σ tOpen
 split
 ·exact Nat.le_trans h2 (nextM_ge ts _).1
 ·exact Nat.le_trans (Nat.le_trans h2 (rowM_ge h1 _)) (wantM_ge ts _ _)
def ListRes (w:World) (P L cap:Nat) (ts:List Tok) (r:List Tree×PS) (e:Ending) (w':World):Prop:=
 ∃(d:Nat) (s:Value),e=.returned s∧Turns w P L cap ts r.2.1 r.2.2 w'∧OwnAt w' d r.1 s (Between w.heap.size w'.heap.size)
theorem news_one (w:World)(l:List Value)(t:TypeId):∀(j:Nat)(u:Value),l[j]? = some u→(w.alloc (.cells l.toArray t)).cell? ((⟨w.heap.size,0,none⟩:Addr).add j)=some u:=by
 intro j u hu
 rw[Addr.add_mid,cell_of_row _ _ _ _ _ _ (heap_alloc_new w _),Nat.zero_add]
 simpa using hu
theorem RowsOwn.deeper {W:World}{L d k:Nat}{ks:List Tree}{own:Option Nat}{rows:List (List Value)}{Fs:Nat→Nat→Prop}(h:RowsOwn W L d ks k own rows Fs)(n:Nat):RowsOwn W L (d+n) ks k own rows Fs:=by
 obtain⟨h1,h2,h3,h4⟩:=h
 exact⟨h1,h2,fun i T hi hT=>by obtain⟨a,s,b,c⟩:=h3 i T hi hT;exact⟨a,s,b,c.mores n⟩,h4⟩
theorem RowsOwn.longer {W:World}{L d k:Nat}{ks:List Tree}{own:Option Nat}{rows:List (List Value)}{Fs:Nat→Nat→Prop}(h:RowsOwn W L d ks k own rows Fs)(hk:ks.length=k)(l:List Tree):RowsOwn W L d (ks++l) k own rows Fs:=by
 obtain⟨h1,h2,h3,h4⟩:=h
 exact⟨h1,h2,fun i T hi hT=>h3 i T hi (by rw[List.getElem?_append_left (by omega)] at hT;exact hT),h4⟩
theorem RowsOwn.nextT {W W':World}{L d k N:Nat}{ks:List Tree}{own own':Option Nat}{rows:List (List Value)}{Fs:Nat→Nat→Prop}{t:Tree}{s:Value}(h:RowsOwn W L d ks k own rows Fs)
  (ht:ks[k]? = some t) (hf:Fits t) (hs:OwnAt W' d t.kids s (Between W.heap.size N)) (hWN:W.heap.size≤N) (hN:N≤W'.heap.size) (hL:L≤W.heap.size) (hsz:W.heap.size≤W'.heap.size)
  (hkeep:∀b,L≤b→b<W.heap.size→own≠some b→W'.heap[b]? = W.heap[b]?) (hown:∀b,own'=some b→(own=some b∧b<W.heap.size)∨N≤b) :
  ∃Fs',RowsOwn W' L d ks (k+1) own' (rows++[nodeCells t s]) Fs':=by
 obtain⟨h1,h2,h3,h4,h5,h6⟩:=h
 refine⟨fun i b=>if i=k then Between W.heap.size N b else Fs i b,by simp[h1],fun r hr=>?_,fun i T hi hT=>?_,fun i b hb=>?_,fun i j b hij hb hb'=>?_,fun i b hb=>?_⟩
 ·rcases List.mem_append.1 hr with hr|hr
  ·exact h2 r hr
  ·simp at hr;subst hr;rfl
 ·by_cases hik:i=k
  ·subst hik
   rw[ht] at hT
   injection hT with hT
   subst hT
   refine⟨hf,s,?_,?_⟩
   ·rw[List.getElem?_append_right (by omega),h1];simp
   ·simp only[if_true];exact hs
  ·obtain⟨a1,s',a2,a3⟩:=h3 i T (by omega) hT
   refine⟨a1,s',?_,?_⟩
   ·rw[List.getElem?_append_left (by omega)];exact a2
   ·simp only[if_neg hik]
    exact a3.keep fun b o hb ho=>(hkeep b (h4 i b hb).1 (h4 i b hb).2.1 (h4 i b hb).2.2).trans ho
 ·by_cases hik:i=k
  ·simp only[if_pos hik] at hb
   obtain⟨q1,q2⟩:=hb
   refine⟨by omega,by omega,fun e=>?_⟩
   rcases hown b e with h|h<;>omega
  ·simp only[if_neg hik] at hb
   obtain⟨q1,q2,q3⟩:=h4 i b hb
   refine⟨q1,by omega,fun e=>?_⟩
   rcases hown b e with h|h
   ·exact q3 h.1
   ·omega
 ·by_cases hik:i=k
  ·have hjk:j≠k:=fun e=>hij (hik.trans e.symm)
   simp only[if_pos hik] at hb
   simp only[if_neg hjk] at hb'
   have:=(h4 j b hb').2.1
   have:=hb.1
   omega
  ·simp only[if_neg hik] at hb
   by_cases hjk:j=k
   ·simp only[if_pos hjk] at hb'
    have:=(h4 i b hb).2.1
    have:=hb'.1
    omega
   ·simp only[if_neg hjk] at hb'
    exact h5 i j b hij hb hb'
 ·by_cases hik:i=k
  ·omega
  ·simp only[if_neg hik] at hb
   have:=h6 i b hb
   omega
theorem rows_none (W:World)(L d:Nat)(ks:List Tree):RowsOwn W L d ks 0 none [] (fun _ _=>False):=
 ⟨rfl,fun _ h=>absurd h List.not_mem_nil,fun _ _ hi _=>absurd hi (Nat.not_lt_zero _),fun _ _ h=>h.elim,fun _ _ _ _ h=>h.elim,fun _ _ h=>h.elim⟩
theorem RowsOwn.turn {W W':World}{L d k Q:Nat}{ks:List Tree}{own:Option Nat}{rows:List (List Value)}{Fs:Nat→Nat→Prop}(h:RowsOwn W L d ks k own rows Fs)(hg:W.grownBy W' (some Q))(hQ:Q<L):RowsOwn W' L d ks k own rows Fs:=by
 obtain⟨h1,h2,h3,h4,h5,h6⟩:=h
 refine⟨h1,h2,fun i T hi hT=>?_,fun i b hb=>⟨(h4 i b hb).1,Nat.lt_of_lt_of_le (h4 i b hb).2.1 hg.size,(h4 i b hb).2.2⟩,h5,h6⟩
 obtain⟨a,s,b,c⟩:=h3 i T hi hT
 exact⟨a,s,b,c.keep fun x o hx ho=>grownBy_keep hg ho (by have:=(h4 i x hx).1;omega)⟩
theorem ownsRow_turn {w w':World}{b Q:Nat}{e:TypeId}{size n:Nat}{v:Value}{xs:List Value}(h:w.ownsRow b e size v n xs)(hg:w.grownBy w' (some Q))(hQ:Q<b):w'.ownsRow b e size v n xs:=by
 refine h.kept hg ?_
 cases hv:v.ownBlock with
 | none=>exact .inl rfl
 | some k=>exact .inr (fun e=>by injection e with e;have:=(own_block h k hv).1;omega)
theorem ownsRow_one (W:World){L:Nat}(hL:L≤W.heap.size)(T:Tree)(s:Value):(W.alloc (.cells (nodeCells T s).toArray 25)).ownsRow L 25 5 (.slice (some ⟨W.heap.size,0,none⟩) 1 1) 1 (nodeCells T s):=by
 refine⟨by simp[nodeCells],Or.inr ⟨W.heap.size,1,(nodeCells T s).toArray,rfl,hL,heap_alloc_new W _,Nat.le_refl _,by unfold maxLen;omega,by simp[nodeCells],by simp[nodeCells]⟩⟩
theorem Turns.grownO {w W W':World}{P L cap:Nat}{ts:List Tok}{k:Nat}{bad:Bool}(h:Turns w P L cap ts k bad W)(hP:P<w.heap.size)(hL:L<w.heap.size){row:Option Nat}(hg:W.grownBy W' row)(hrow:∀g,row=some g→w.heap.size≤g):Turns w P L cap ts k bad W':=by
 have hk:∀i,i<w.heap.size→W'.heap[i]? = W.heap[i]?:=fun i hi=>hg.block i (Nat.lt_of_lt_of_le hi h.1.size) (fun e=>by have:=hrow i e.symm;omega)
 exact⟨⟨hg.os.trans h.1.os,hg.tape.trans h.1.tape,hg.output.trans h.1.output,Nat.le_trans h.1.size hg.size,fun i hi hne=>(hk i hi).trans (h.1.block i hi hne)⟩,h.2.keep (hk P hP) (hk L hL)⟩
def PRowRel (w:World) (P L cap:Nat) (ts:List Tok) (one:PS→Tree×PS) (R:List Tree×PS) (o:Value) (W:World):Prop:=
 ∃(g:Nat) (ks:List Tree) (σ:PS) (d:Nat) (rows:List (List Value)) (Fs:Nat→Nat→Prop),rowLoop ts one g ks σ=R∧ts.length-σ.1≤g∧ks.length≤σ.1+1∧ks≠[]∧Turns w P L cap ts σ.1 σ.2 W ∧
  W.ownsRow w.heap.size 25 5 o ks.length rows.flatten∧RowsOwn W w.heap.size d ks ks.length o.ownBlock rows Fs
def ReadsN (ts:List Tok) (g:FuncId) (one:PS→Tree×PS):Prop:=∀(σ:PS) (w:World) (P L cap:Nat),PAt w P L cap ts σ.1 σ.2→Calls Tryz.prog g #[.pointer (some ⟨P,0,none⟩)] w (NodeRes w P L cap ts (one σ))
theorem prow_any {ts:List Tok}(hts:TsOk ts){gf:FuncId}{one:PS→Tree×PS}(hent:∀(xs:Array Value)(w:World),(callFunc gf xs).run Tryz.prog w=.ok (.enter gf xs) w)(hone:ReadsN ts gf one)(hge:∀σ,σ.1≤(one σ).2.1)
  (σ:PS) (w:World) (P L cap:Nat) (h:PAt w P L cap ts σ.1 σ.2):Calls Tryz.prog 103 #[.pointer (some ⟨P,0,none⟩),.func (.func gf) #[.pointer (some ⟨P,0,none⟩)] #[]] w (ListRes w P L cap ts (rowM ts one σ)):=by
 have HTS:=Hd hts
 have HOne:=Hd hone
 have HGe:=Hd hge
 have HC:=Hd (hone σ w P L cap h)
 have hP:=h.lt.1
 have hn:=h.n
 have HPt:=Hd h
 obtain⟨R,hR⟩:∃R,rowM ts one σ=R:=⟨_,rfl⟩
 rw[hR]
 have HR:=Hd hR
 obtain⟨i0,hi0,hz0,hz1,hz2⟩:=info_parts infoNode
 clear hts hone hge h hR
 go_enter Tryz.func103,Tryz.ntmps103
 go_wp2_with fail
 refine Calls.mono HC.out ?_
 rintro e w1 ⟨d,s,rfl,hT1,ho,hf⟩
 obtain⟨p,c,rfl⟩:=ho.shape
 obtain⟨W0,hW0⟩:∃W0,W0=w1.alloc (.cells (nodeCells (one σ).1 (.slice p (one σ).1.kids.length c)).toArray 25):=⟨_,rfl⟩
 have hRel:PRowRel w P L cap ts one R (.slice (some ⟨w1.heap.size,0,none⟩) 1 1) W0:=by
  have hb:Below w1.heap.size w1 W0:=by rw[hW0];exact (Below.refl _ w1).alloc (Nat.le_refl _) _
  have hL1:=hT1.1.size
  have hge:=HGe.out σ
  have ho':=ho.below (fun b hb=>hb.2) hb
  have hsz:W0.heap.size=w1.heap.size+1:=by rw[hW0];simp
  obtain⟨Fs,hr⟩:=RowsOwn.nextT (W':=W0) (N:=w1.heap.size) (own':=some w1.heap.size) (t:=(one σ).1) (rows_none w w.heap.size d [(one σ).1]) rfl hf (ho'.sub fun b hb=>hb) hL1 (by omega) (Nat.le_refl _) (by omega)
   (fun b h1 h2 _=>by omega) (fun b hb=>by injection hb with hb;right;omega)
  refine⟨ts.length,[(one σ).1],(one σ).2,d,_,Fs,HR.out,Nat.sub_le _ _,by simp,by simp,hT1.of_below hb,?_,hr⟩
  rw[hW0]
  simpa using ownsRow_one w1 hL1 (one σ).1 (.slice p (one σ).1.kids.length c)
 have HRel:=Hd hRel
 clear hRel hT1 ho hf HC HR
 generalize one σ=r at *
 go_wp2_with fail
 change Code.wp _ _ _ _ (w1.alloc (.cells (nodeCells r.1 (.slice p r.1.kids.length c)).toArray 25))
 rw[←hW0]
 clear hW0
 go_loopw [5] (fun o wr=>PRowRel w P L cap ts one R o wr) (fun _ wr=>leftOf P wr)
 case atStart=>exact HRel.out
 case round =>
  clear HRel W0
  obtain⟨g,ks,σ1,d1,rows,Fs,hloop,hg,hlen,hne,hT,hown,hrows⟩:=hrel
  have HLoop:=Hd hloop
  have HG:=Hd hg
  have HLen:=Hd hlen
  have HNe:=Hd hne
  have HT:=Hd hT
  have HOwn:=Hd hown
  have HRows:=Hd hrows
  have hlw:w.heap.size≤wr.heap.size:=hT.1.size
  have hb0:Below wr.heap.size wr (wr.alloc (.cells #[.string tComma] 9)):=(Below.refl _ wr).alloc (Nat.le_refl _) _
  have HSk:=Hd (pskip_res (hT.2.below hb0) wr.heap.size 0 1 1 [tComma] (textsAt_new [tComma]) rfl (by omega))
  have HB0:=Hd hb0
  obtain⟨b,hb⟩:∃b,isM ts σ1 [tComma]=b:=⟨_,rfl⟩
  rw[hb] at HSk
  have HB:=Hd hb
  clear hloop hg hlen hne hT hown hrows hb0 hb
  go_wp2_with fail
  refine Calls.mono HSk.out ?_
  rintro e w2 ⟨rfl,hT2⟩
  have HT2:=Hd ((HT.out.of_below HB0.out).trans hT2)
  have hl2:wr.heap.size≤w2.heap.size:=by have:=hT2.1.size;have:=HB0.out.size;omega
  have hg02:=World.grownBy.trans (grown_of_below HB0.out (some P)) hT2.1
  have HG02:=Hd hg02
  have HOwn2:=Hd (ownsRow_turn HOwn.out hg02 hP)
  clear hT2 hg02
  cases b with
  | false =>
   have hRR:(ks,σ1)=R:=by
    rw[←HLoop.out]
    cases g with
    | zero=>rfl
    | succ g=>unfold rowLoop;rw[if_neg (by rw[HB.out];decide)]
   have hsk:skipM ts σ1 [tComma]=σ1:=by unfold skipM;rw[if_neg (by rw[HB.out];decide)]
   rw[hsk] at HT2
   have HRR:=Hd hRR
   clear hRR hsk
   go_wp2_with fail
   go_ret
   rw[←HRR.out]
   exact⟨d1+1,u5,rfl,HT2.out,own_fin (d:=d1+1) rfl HOwn2.out (HRows.out.turn HG02.out hP) (fun h=>by omega)⟩
  | true =>
   obtain⟨q1,q2,q3⟩:=next_on HTS.out HT.out.2.k HB.out
   have hsk:skipM ts σ1 [tComma]=nextM ts σ1:=by unfold skipM;rw[if_pos HB.out]
   rw[hsk] at HT2
   have HC2:=Hd (HOne.out (nextM ts σ1) w2 P L cap HT2.out.2)
   have hge:=HGe.out (nextM ts σ1)
   rw[q1] at hge
   have HGt:=Hd hge
   obtain⟨g',hg',hR2⟩:∃g',ts.length-(one (nextM ts σ1)).2.1≤g'∧rowLoop ts one g' (ks++[(one (nextM ts σ1)).1]) (one (nextM ts σ1)).2=R:=by
    have h1:=HLoop.out
    have h2:=HG.out
    cases g with
    | zero=>omega
    | succ g =>
     refine⟨g,by omega,?_⟩
     unfold rowLoop at h1
     rw[if_pos HB.out] at h1
     exact h1
   have HG':=Hd hg'
   have HR2:=Hd hR2
   clear hg' hR2 hge hsk q1 q2
   generalize one (nextM ts σ1)=r2 at *
   go_wp2_with fail
   refine Calls.mono HC2.out ?_
   rintro e w3 ⟨d2,s2,rfl,hT3,ho2,hf2⟩
   obtain⟨p2,c2,rfl⟩:=ho2.shape
   have HT3:=Hd (HT2.out.trans hT3)
   have HG3:=Hd hT3.1
   have HO2:=Hd ho2
   have HF2:=Hd hf2
   have hown3:=ownsRow_turn HOwn2.out hT3.1 hP
   have hl3:w2.heap.size≤w3.heap.size:=hT3.1.size
   have hkl:ks.length+1≤16385:=by have:=HLen.out;omega
   clear hT3 ho2 hf2
   go_wp2_with (at_builtin;go_must (refine wpList_append_lies _ rfl (.tmp 14) (.tmp 17) 23 rfl w.heap.size 25 i0 _ 5 64 Tryz.underlying23 hi0 hz0 hz1 hz2 rfl (by decide) u5 ks.length rows.flatten rfl (ownsRow_below hown3 ((Below.refl _ w3).alloc (Nat.le_refl _) _)) ⟨w3.heap.size,0,none⟩ 1 1 (nodeCells r2.1 (.slice p2 r2.1.kids.length c2)) rfl rfl (by exact news_one w3 (nodeCells r2.1 (.slice p2 r2.1.kids.length c2)) 25) (by simp[Value.oneCell',nodeCells]) (by decide) (by unfold maxLen;omega) (by omega) (by simp;omega) (w3.heap.size+1) (by simp) ?_);intro g7 cap7 w7 hown' hgrow hlies hlt7)
   have hob:=own_block HOwn.out
   obtain⟨w4,hw4⟩:∃w4,w4=w3.alloc (.cells (nodeCells r2.1 (.slice p2 r2.1.kids.length c2)).toArray 25):=⟨_,rfl⟩
   have hg4:w4.grownBy w7 u5.ownBlock:=by rw[hw4];exact hgrow
   have hb4:Below w3.heap.size w3 w4:=by rw[hw4];exact (Below.refl _ w3).alloc (Nat.le_refl _) _
   have hsz4:w4.heap.size=w3.heap.size+1:=by rw[hw4];simp
   have hs7:=hg4.size
   have HT7:=(HT3.out.of_below hb4).grownO hP HPt.out.lt.2 hg4 (fun x hx=>(hob x hx).1)
   have hk3:∀b,b<w3.heap.size→u5.ownBlock≠some b→w7.heap[b]? = w3.heap[b]?:=fun b h1 h2=>(hg4.block b (by omega) (fun e=>h2 e.symm)).trans (hb4.block b h1)
   have e2:=HO2.out.mores d1
   rw[Nat.add_comm d2 d1] at e2
   obtain⟨Fs',hnext⟩:=RowsOwn.nextT (W':=w7) (N:=w3.heap.size) (own':=some g7) (t:=r2.1) (((HRows.out.turn HG02.out hP).deeper d2).longer rfl [r2.1]) (by simp) HF2.out
    (e2.keep fun x o hx ho=>(hk3 x hx.2 (fun e=>by have:=(hob x e).2;have:=hx.1;omega)).trans ho) hl3 (by omega) (by omega) (by omega)
    (fun x h1 h2 hne=>(hk3 x (by omega) hne).trans (HG3.out.block x h2 (fun e=>by injection e with e;omega))) (fun x hx=>by
     injection hx with hx
     subst hx
     rcases hlies with h|h
     ·exact Or.inl ⟨h,by have:=(hob _ h).2;omega⟩
     ·right;omega)
   have hm1:=HGt.out
   have hm2:=HT7.2.k
   refine⟨⟨g',ks++[r2.1],r2.2,d1+d2,rows++[nodeCells r2.1 (.slice p2 r2.1.kids.length c2)],Fs',HR2.out,HG'.out,?_,by simp,HT7,?_,?_⟩,?_⟩
   ·have:=HLen.out
    rw[List.length_append,List.length_singleton]
    omega
   ·rw[List.flatten_append]
    simpa using hown'
   ·rw[List.length_append,List.length_singleton]
    exact hnext
   ·rw[HT7.2.left,HT.out.2.left]
    omega
theorem plist_any {ts:List Tok}(hts:TsOk ts){gf:FuncId}{one:PS→Tree×PS}(hent:∀(xs:Array Value)(w:World),(callFunc gf xs).run Tryz.prog w=.ok (.enter gf xs) w)(hone:ReadsN ts gf one)(hge:∀σ,σ.1≤(one σ).2.1)
  (σ:PS) (w:World) (P L cap:Nat) (h:PAt w P L cap ts σ.1 σ.2):Calls Tryz.prog 76 #[.pointer (some ⟨P,0,none⟩),.func (.func gf) #[.pointer (some ⟨P,0,none⟩)] #[]] w (ListRes w P L cap ts (listM ts one σ)):=by
 have HW:=Hd (pwant_res h tOpen)
 have HRow:=Hd (fun σ w P L cap h=>prow_any hts hent hone hge σ w P L cap h)
 have hP:=h.lt.1
 have HP:=Hd h
 obtain⟨R,hR⟩:∃R,listM ts one σ=R:=⟨_,rfl⟩
 rw[hR]
 unfold listM at hR
 obtain⟨σ1,hσ1⟩:∃σ1,wantM ts σ tOpen=σ1:=⟨_,rfl⟩
 rw[hσ1] at hR HW
 have HR:=Hd hR
 clear h hR hσ1 hent hone hge
 go_enter Tryz.func76,Tryz.ntmps76
 go_wp2_with fail
 refine Calls.mono HW.out ?_
 rintro e w1 ⟨rfl,hT1⟩
 have hb1:Below w1.heap.size w1 (w1.alloc (.cells #[.string tShut] 9)):=(Below.refl _ w1).alloc (Nat.le_refl _) _
 have HT1:=Hd (hT1.of_below hb1)
 have HSk:=Hd (pskip_res (hT1.2.below hb1) w1.heap.size 0 1 1 [tShut] (textsAt_new [tShut]) rfl (by omega))
 obtain⟨b,hb⟩:∃b,isM ts σ1 [tShut]=b:=⟨_,rfl⟩
 rw[hb] at HSk
 have HB:=Hd hb
 have hl1:w.heap.size≤w1.heap.size:=hT1.1.size
 clear hT1 hb1 hb
 go_wp2_with fail
 refine Calls.mono HSk.out ?_
 rintro e w2 ⟨rfl,hT2⟩
 have HT2:=Hd (HT1.out.trans hT2)
 clear hT2
 cases b with
 | true =>
  have hsk:skipM ts σ1 [tShut]=nextM ts σ1:=by unfold skipM;rw[if_pos HB.out]
  have hRR:=HR.out
  rw[if_pos HB.out] at hRR
  rw[hsk] at HT2
  have HRR:=Hd hRR
  clear hRR hsk
  go_wp2_with fail
  go_ret
  rw[←HRR.out]
  exact⟨0,.slice none 0 0,rfl,HT2.out,own_nil _ _⟩
 | false =>
  have hsk:skipM ts σ1 [tShut]=σ1:=by unfold skipM;rw[if_neg (by rw[HB.out];decide)]
  have hRR:=HR.out
  rw[if_neg (by rw[HB.out];decide)] at hRR
  rw[hsk] at HT2
  have HRR:=Hd hRR
  have HC:=Hd (HRow.out σ1 w2 P L cap HT2.out.2)
  clear hRR hsk
  generalize rowM ts one σ1=r at *
  go_wp2_with fail
  refine Calls.mono HC.out ?_
  rintro e w3 ⟨d,s,rfl,hT3,ho⟩
  obtain⟨p,c,rfl⟩:=ho.shape
  have HT3:=Hd (HT2.out.trans hT3)
  have HO:=Hd ho
  have HW2:=Hd (pwant_res hT3.2 tShut)
  have hl2:w.heap.size≤w2.heap.size:=HT2.out.1.size
  clear hT3 ho
  go_wp2_with fail
  refine Calls.mono HW2.out ?_
  rintro e w4 ⟨rfl,hT4⟩
  have HT4:=Hd (HT3.out.trans hT4)
  have HG4:=Hd hT4.1
  clear hT4
  go_wp2_with fail
  go_ret
  rw[←HRR.out]
  exact⟨d,_,rfl,HT4.out,(HO.out.keep fun b o hb ho=>grownBy_keep HG4.out ho (by have:=hb.1;omega)).sub fun b hb=>⟨by have:=hb.1;omega,Nat.lt_of_lt_of_le hb.2 HG4.out.size⟩⟩
def tTest:ByteArray:=⟨#[116,101,115,116]⟩
def tSemi:ByteArray:=⟨#[59]⟩
def condM (ts:List Tok) (ar:PS→Tree×PS) (σ:PS):Tree×PS:=
 if isM ts σ [tTest]=true then (.mk 7 ⟨#[]⟩ 0 (atM ts σ) [(exprM ts (nextM ts σ)).1],wantM ts (exprM ts (nextM ts σ)).2 tSemi)
 else if isM ts σ [tNot]=true then (.mk 6 (ofM ts (nextM ts σ) 2 6).1.text 0 (atM ts σ) (listM ts ar (ofM ts (nextM ts σ) 2 6).2).1,wantM ts (listM ts ar (ofM ts (nextM ts σ) 2 6).2).2 tSemi)
 else (.mk 5 (ofM ts σ 2 5).1.text 0 (atM ts σ) (listM ts ar (ofM ts σ 2 5).2).1,wantM ts (listM ts ar (ofM ts σ 2 5).2).2 tSemi)
theorem condM_ge {ts:List Tok}{ar:PS→Tree×PS}(h1:∀σ,σ.1≤(ar σ).2.1)(σ:PS):σ.1≤(condM ts ar σ).2.1:=by
 unfold condM
 have h2:=(nextM_ge ts σ).1
 (repeat' split)
 ·exact Nat.le_trans h2 (Nat.le_trans (exprM_ge ts _) (wantM_ge ts _ _))
 ·exact Nat.le_trans h2 (Nat.le_trans (ofM_ge ts _ 2 6) (Nat.le_trans (listM_ge h1 _) (wantM_ge ts _ _)))
 ·exact Nat.le_trans (ofM_ge ts _ 2 5) (Nat.le_trans (listM_ge h1 _) (wantM_ge ts _ _))
theorem run_nodeText (a:Int)(x:ByteArray)(n p:Int)(l:Nat)(q:Option Addr)(c:Nat)(W:World):(Instr.field 25 (.agg #[.int .u8 a,.string x,.int .i64 n,.int .i64 p,.slice q l c]) 1).run Tryz.prog W=.ok (.string x) W:=by kernel_rfl
theorem pfield_any {ts:List Tok}(hts:TsOk ts):ReadsN ts 77 (fun σ=>ofM ts σ 2 3):=by
 intro σ w P L cap h
 have hb0:Below w.heap.size w (w.alloc (.cells #[.int .u8 0,.string ⟨#[]⟩,.int .i64 0,.int .i64 0,.slice none 0 0] 25)):=(Below.refl _ w).alloc (Nat.le_refl _) _
 have HC:=Hd (pname_any hts (h.below hb0) 3 (by omega))
 have H0:=Hd (h.turns hb0)
 have hP:=h.lt.1
 have HL:=Hd h.lt.2
 have HX:=Hd (heap_alloc_new w (.cells #[.int .u8 0,.string ⟨#[]⟩,.int .i64 0,.int .i64 0,.slice none 0 0] 25))
 clear h hb0
 show Calls _ _ _ _ (NodeRes w P L cap ts (ofM ts σ 2 3))
 generalize ofM ts σ 2 3=r at *
 go_enter Tryz.func77,Tryz.ntmps77
 go_wp2_with fail
 refine Calls.mono HC.out ?_
 rintro e w1 ⟨d,s,rfl,hT,ho,hf⟩
 obtain⟨p,c,rfl⟩:=ho.shape
 have x1:=hT.box HX.out hP (Nat.le_refl _)
 have HX1:=Hd x1
 obtain⟨a0,a1,a2,a3,a4⟩:=cells5 x1
 have z0:=frozen5 x1 0
 have z1:=frozen5 x1 1
 have z2:=frozen5 x1 2
 have z3:=frozen5 x1 3
 have z4:=frozen5 x1 4
 have HT:=Hd (H0.out.trans hT)
 have HO:=Hd ho
 have HF:=Hd hf
 clear x1 hT ho hf
 go_wp2_with fail
 exact ret_node Tryz.results77 rfl (heap_set5 HX1.out _ _ _ _ _) rfl (NodeRes.stored hP HL.out HT.out HO.out HF.out (Nat.le_refl _) (by simp) _ _ _ _ _)
theorem GotL.keep {L0:Nat}{T:Tree}{W W':World}{xs:List Value}(h:GotL L0 T W xs)(hk:∀b o,L0≤b→W.heap[b]? = some o→W'.heap[b]? = some o):GotL L0 T W' xs:=by
 obtain⟨d,g,N,s,h1,h2,h3,h4,h5,h6⟩:=h
 exact⟨d,g,N,s,h1,hk g _ (by omega) h2,h3.keep fun b o hb ho=>hk b o hb.1 ho,h4,h5,h6⟩
theorem pcond_any {ts:List Tok}(hts:TsOk ts){ar:PS→Tree×PS}(harg:ReadsN ts 131 ar)(hge:∀σ,σ.1≤(ar σ).2.1):ReadsN ts 105 (condM ts ar):=by
 intro σ w P L cap h
 have hb0:Below w.heap.size w (w.alloc (.cells zeroN 25)):=(Below.refl _ w).alloc (Nat.le_refl _) _
 have HC:=Hd (pnow_res (h.below hb0))
 have H0:=Hd (h.turns hb0)
 have hP:=h.lt.1
 have HL:=Hd h.lt.2
 have HX:=Hd (heap_alloc_new w (.cells zeroN 25))
 have HTS:=Hd hts
 have HList:=Hd (fun σ w P L cap h=>plist_any hts (enters_of Tryz.func131 (by kernel_rfl) rfl) harg hge σ w P L cap h)
 have hR:condM ts ar σ=(if isM ts σ [tTest]=true then (.mk 7 ⟨#[]⟩ 0 (atM ts σ) [(exprM ts (nextM ts σ)).1],wantM ts (exprM ts (nextM ts σ)).2 tSemi)
   else if isM ts σ [tNot]=true then (.mk 6 (ofM ts (nextM ts σ) 2 6).1.text 0 (atM ts σ) (listM ts ar (ofM ts (nextM ts σ) 2 6).2).1,wantM ts (listM ts ar (ofM ts (nextM ts σ) 2 6).2).2 tSemi)
   else (.mk 5 (ofM ts σ 2 5).1.text 0 (atM ts σ) (listM ts ar (ofM ts σ 2 5).2).1,wantM ts (listM ts ar (ofM ts σ 2 5).2).2 tSemi)):=rfl
 obtain⟨R,hRR⟩:∃R,condM ts ar σ=R:=⟨_,rfl⟩
 rw[hRR]
 rw[hRR] at hR
 obtain⟨at_,hat⟩:∃a,atM ts σ=a:=⟨_,rfl⟩
 rw[hat] at HC hR
 have HR:=Hd hR
 have HAt:Hid (0≤at_∧at_≤16384):=by
  show _∧_
  obtain⟨_,_,g3⟩:=tokM_ok HTS.out σ.1
  rw[←hat]
  unfold atM
  omega
 clear h hb0 hts harg hge hRR hR hat
 generalize kdM ts σ=kd at HC
 generalize txM ts σ=tx at HC
 go_enter Tryz.func105,Tryz.ntmps105
 go_wp2_with fail
 refine Calls.mono HC.out ?_
 rintro e w1 ⟨rfl,hb1⟩
 have hFA:=run_lexAt kd tx at_ w1
 have HT1:=Hd (H0.out.of_below hb1)
 have HX1:=Hd (heap_below hb1 HX.out (by simp))
 have hl1:w.heap.size<w1.heap.size:=(Array.getElem?_eq_some_iff.1 HX1.out).1
 clear hb1
 obtain⟨wA,hwA⟩:∃wA,wA=w1.alloc (.cells #[.int .u8 7,.string ⟨#[]⟩,.int .i64 0,.int .i64 at_,.slice none 0 0] 25):=⟨_,rfl⟩
 have hszA:wA.heap.size=w1.heap.size+1:=by rw[hwA];simp
 have HTA:Hid (Turns w P L cap ts σ.1 σ.2 wA):=by rw[hwA];exact HT1.out.alloc _
 have HNA:Hid (wA.heap[w1.heap.size]? = some (.cells #[.int .u8 7,.string ⟨#[]⟩,.int .i64 0,.int .i64 at_,.slice none 0 0] 25 (0,0))):=by rw[hwA];exact heap_alloc_new w1 _
 have HXA:Hid (wA.heap[w.heap.size]? = some (.cells zeroN 25 (0,0))):=by rw[hwA];exact (Below.heap_alloc w1 _ _ hl1).trans HX1.out
 have HTB:=Hd (HTA.out.alloc (.cells #[.string tTest] 9))
 have HNB:=Hd ((Below.heap_alloc wA (.cells #[.string tTest] 9) w1.heap.size (by omega)).trans HNA.out)
 have HXB:=Hd ((Below.heap_alloc wA (.cells #[.string tTest] 9) w.heap.size (by omega)).trans HXA.out)
 have hsk:=pskip_res HTB.out.2 wA.heap.size 0 1 1 [tTest] (textsAt_new [tTest]) rfl (by omega)
 rw[hwA,World.size_alloc] at hsk
 have HSk:=Hd hsk
 clear hsk
 go_wp2_with fail
 refine Calls.mono HSk.out ?_
 rintro e w2 ⟨rfl,ht2⟩
 rw[←hwA] at ht2
 have HT2:=Hd (HTB.out.trans ht2)
 have HX2:=Hd (ht2.box HXB.out hP (Nat.le_refl _))
 have HN2:=Hd (ht2.box HNB.out hP (Nat.le_of_lt hl1))
 have hl2:w1.heap.size<w2.heap.size:=(Array.getElem?_eq_some_iff.1 HN2.out).1
 clear ht2 hFA HTA HNA HXA HTB HNB HXB hwA hszA HSk
 by_cases hm:isM ts σ [tTest]=true
 ·have hR:=HR.out
  rw[if_pos hm] at hR
  have hsk:skipM ts σ [tTest]=nextM ts σ:=by unfold skipM;rw[if_pos hm]
  rw[hsk] at HT2
  rw[hm]
  have HE:=Hd (pexpr_all HTS.out HT2.out.2)
  generalize exprM ts (nextM ts σ)=r at *
  have HR':=Hd hR
  clear hR hsk hm HR
  go_wp2_with fail
  refine Calls.mono HE.out ?_
  rintro e w3 ⟨d,s,rfl,hT3,ho,hf⟩
  obtain⟨p,c,rfl⟩:=ho.shape
  have HT3:=Hd (HT2.out.trans hT3)
  have HX3:=Hd (hT3.box HX2.out hP (Nat.le_refl _))
  have HN3:=Hd (hT3.box HN2.out hP (Nat.le_of_lt hl1))
  have hl3:w2.heap.size≤w3.heap.size:=hT3.1.size
  obtain⟨w4,hw4⟩:∃w4,w4=w3.alloc (.cells #[.int .u8 r.1.kind,.string r.1.text,.int .i64 r.1.num,.int .i64 r.1.place,.slice p r.1.kids.length c] 25):=⟨_,rfl⟩
  have hb4:Below w3.heap.size w3 w4:=by rw[hw4];exact (Below.refl _ w3).alloc (Nat.le_refl _) _
  have hG4:GotL w2.heap.size r.1 w4 [.int .i64 w3.heap.size]:=⟨d,w3.heap.size,w3.heap.size,_,rfl,by rw[hw4];exact heap_alloc_new w3 _,ho.below (fun b hb=>hb.2) hb4,hf,hl3,Nat.le_refl _⟩
  have hx4:=heap_below hb4 HX3.out (by omega)
  have hn4:=heap_below hb4 HN3.out (by omega)
  have ht4:=HT3.out.of_below hb4
  have f4:=frozen5 hn4 4
  obtain⟨n0,n1,n2,n3,n4⟩:=cells5 hn4
  obtain⟨w5,hw5⟩:∃w5,w5=w4.setCell ⟨w1.heap.size,4,none⟩ (.slice (some ⟨w3.heap.size,0,none⟩) 1 1):=⟨_,rfl⟩
  have HT5:Hid (Turns w P L cap ts r.2.1 r.2.2 w5):=by rw[hw5];exact ht4.setCell hP HL.out (by omega) 4 _
  have HX5:Hid (w5.heap[w.heap.size]? = some (.cells zeroN 25 (0,0))):=by rw[hw5];exact (Below.heap_setCell _ _ _ _ (show w.heap.size≠w1.heap.size by omega)).trans hx4
  have HN5:Hid (w5.heap[w1.heap.size]? = some (.cells #[.int .u8 7,.string ⟨#[]⟩,.int .i64 0,.int .i64 at_,.slice (some ⟨w3.heap.size,0,none⟩) 1 1] 25 (0,0))):=by rw[hw5];exact heap_set hn4 4 _
  have HG5:Hid (GotL w2.heap.size r.1 w5 [.int .i64 w3.heap.size]):=by rw[hw5];exact hG4.keep fun b o hb hx=>(Below.heap_setCell _ _ _ _ (show b≠w1.heap.size by omega)).trans hx
  have HW:=Hd (pwant_res HT5.out.2 tSemi)
  have H4:=Hd hw4
  have H5:=Hd hw5
  have hn4h:=Hd hn4
  clear hT3 ho hf hb4 hG4 hx4 hn4 ht4 hw5
  rw[hw4] at n0 n1 n2 n3 n4 f4
  clear hw4
  go_upto_region 4 with fail
  change Code.wp _ _ _ _ ((w3.alloc (.cells #[.int .u8 r.1.kind,.string r.1.text,.int .i64 r.1.num,.int .i64 r.1.place,.slice p r.1.kids.length c] 25)).setCell ⟨w1.heap.size,4,none⟩ (.slice (some ⟨w3.heap.size,0,none⟩) 1 1))
  rw[←H4.out,←H5.out]
  clear n0 n1 n2 n3 n4 f4 H4 H5 hn4h
  go_wp2_with fail
  refine Calls.mono HW.out ?_
  rintro e w6 ⟨rfl,hT6⟩
  have HT6:=Hd (HT5.out.trans hT6)
  have y0:=hT6.box HX5.out hP (Nat.le_refl _)
  have HY0:=Hd y0
  obtain⟨n0,n1,n2,n3,n4⟩:=cells5 (hT6.box HN5.out hP (by omega))
  obtain⟨d',g',hgE,hO⟩:=(HG5.out.grown (Q:=P) (by omega) hT6.1).own
  obtain rfl:w3.heap.size=g':=by injection hgE with h1;injection h1 with _ h2;omega
  have HO:=Hd hO
  obtain⟨a0,a1,a2,a3,a4⟩:=cells5 y0
  have z0:=frozen5 y0 0
  have z1:=frozen5 y0 1
  have z2:=frozen5 y0 2
  have z3:=frozen5 y0 3
  have z4:=frozen5 y0 4
  clear hT6 y0 hgE hO
  go_wp2_with fail
  refine ret_node Tryz.results105 rfl (heap_set5 HY0.out _ _ _ _ _) rfl ?_
  rw[HR'.out]
  exact NodeRes.stored (r:=(.mk 7 ⟨#[]⟩ 0 at_ [r.1],wantM ts r.2 tSemi)) (B:=w2.heap.size) hP HL.out HT6.out HO.out (fits_mk (by omega) (by show (0:Nat)≤16384;omega) HAt.out.1 HAt.out.2) (Nat.le_refl _) (by omega) _ _ _ _ _
 ·have hR:=HR.out
  rw[if_neg hm] at hR
  have hsk:skipM ts σ [tTest]=σ:=by unfold skipM;rw[if_neg hm]
  rw[hsk] at HT2
  have hm':isM ts σ [tTest]=false:=by simpa using hm
  rw[hm']
  have HR':=Hd hR
  have HTB:=Hd (HT2.out.alloc (.cells #[.string tNot] 9))
  have HNB:=Hd ((Below.heap_alloc w2 (.cells #[.string tNot] 9) w1.heap.size hl2).trans HN2.out)
  have HXB:=Hd ((Below.heap_alloc w2 (.cells #[.string tNot] 9) w.heap.size (by omega)).trans HX2.out)
  have HSk:=Hd (pskip_res HTB.out.2 w2.heap.size 0 1 1 [tNot] (textsAt_new [tNot]) rfl (by omega))
  clear hR hsk hm hm' HR
  go_wp2_with fail
  refine Calls.mono HSk.out ?_
  rintro e w3 ⟨rfl,ht3⟩
  have HT3:=Hd (HTB.out.trans ht3)
  have HX3:=Hd (ht3.box HXB.out hP (Nat.le_refl _))
  have HN3:=Hd (ht3.box HNB.out hP (Nat.le_of_lt hl1))
  have hl3:w2.heap.size≤w3.heap.size:=by have:=ht3.1.size;rw[World.size_alloc] at this;omega
  clear ht3 HTB HNB HXB HSk
  by_cases hm:isM ts σ [tNot]=true
  ·have hR:=HR'.out
   rw[if_pos hm] at hR
   have hsk:skipM ts σ [tNot]=nextM ts σ:=by unfold skipM;rw[if_pos hm]
   rw[hsk] at HT3
   have hm':isM ts σ [tNot]=true:=by simpa using hm
   rw[hm']
   have HNm:=Hd (pname_any HTS.out HT3.out.2 6 (by omega))
   have hfit:(ofM ts (nextM ts σ) 2 6).1.text.size≤16384:=(tokM_ok HTS.out _).2.1
   generalize ofM ts (nextM ts σ) 2 6=nm at *
   have HFit:=Hd hfit
   have HR2:=Hd hR
   clear hR hsk hm hm' hfit
   go_wp2_with fail
   refine Calls.mono HNm.out ?_
   rintro e w4 ⟨d,s,rfl,hT4,ho,hf⟩
   obtain⟨p,c,rfl⟩:=ho.shape
   have HT4:=Hd (HT3.out.trans hT4)
   have hx4:=hT4.box HX3.out hP (Nat.le_refl _)
   have hn4:=hT4.box HN3.out hP (Nat.le_of_lt hl1)
   have hl4:w3.heap.size≤w4.heap.size:=hT4.1.size
   obtain⟨w5,hw5⟩:∃w5,w5=(w4.setCell ⟨w1.heap.size,0,none⟩ (.int .u8 6)).setCell ⟨w1.heap.size,1,none⟩ (.string nm.1.text):=⟨_,rfl⟩
   have hT5:Turns w P L cap ts nm.2.1 nm.2.2 w5:=by rw[hw5];exact (HT4.out.setCell hP HL.out (by omega) 0 _).setCell hP HL.out (by omega) 1 _
   have hx5:w5.heap[w.heap.size]? = some (.cells zeroN 25 (0,0)):=by rw[hw5];exact (Below.heap_setCell _ _ _ _ (show w.heap.size≠w1.heap.size by omega)).trans ((Below.heap_setCell _ _ _ _ (show w.heap.size≠w1.heap.size by omega)).trans hx4)
   have hn5:w5.heap[w1.heap.size]? = some (.cells #[.int .u8 6,.string nm.1.text,.int .i64 0,.int .i64 at_,.slice none 0 0] 25 (0,0)):=by rw[hw5];exact heap_set (heap_set hn4 0 _) 1 _
   have hs5:w5.heap.size=w4.heap.size:=by rw[hw5];simp[World.setCell]
   have HT5:=Hd hT5
   have HX5:=Hd hx5
   have HN5:=Hd hn5
   have HLi:=Hd (HList.out nm.2 w5 P L cap hT5.2)
   have f0:=frozen5 hn4 0
   have f1:=frozen5 hn4 1
   obtain⟨n0,n1,n2,n3,n4⟩:=cells5 hn4
   have H5:=Hd hw5
   have hFT:=run_nodeText nm.1.kind nm.1.text nm.1.num nm.1.place nm.1.kids.length p c w4
   generalize listM ts ar nm.2=l at *
   clear hT4 ho hf hx4 hn4 hT5 hx5 hn5 hw5
   go_upto_region 9 with fail
   change Code.wp _ _ _ _ ((w4.setCell ⟨w1.heap.size,0,none⟩ (.int .u8 6)).setCell ⟨w1.heap.size,1,none⟩ (.string nm.1.text))
   rw[←H5.out]
   clear n0 n1 n2 n3 n4 f0 f1 H5 hFT
   go_wp2_with fail
   refine Calls.mono HLi.out ?_
   rintro e w6 ⟨d2,s2,rfl,hT6,ho2⟩
   obtain⟨p2,c2,rfl⟩:=ho2.shape
   have HT6:=Hd (HT5.out.trans hT6)
   have hx6:=hT6.box HX5.out hP (Nat.le_refl _)
   have hn6:=hT6.box HN5.out hP (Nat.le_of_lt hl1)
   have hl6:w5.heap.size≤w6.heap.size:=hT6.1.size
   obtain⟨w7,hw7⟩:∃w7,w7=w6.setCell ⟨w1.heap.size,4,none⟩ (.slice p2 l.1.length c2):=⟨_,rfl⟩
   have hs7:w7.heap.size=w6.heap.size:=by rw[hw7];simp[World.setCell]
   have HT7:Hid (Turns w P L cap ts l.2.1 l.2.2 w7):=by rw[hw7];exact HT6.out.setCell hP HL.out (by omega) 4 _
   have HX7:Hid (w7.heap[w.heap.size]? = some (.cells zeroN 25 (0,0))):=by rw[hw7];exact (Below.heap_setCell _ _ _ _ (show w.heap.size≠w1.heap.size by omega)).trans hx6
   have HN7:Hid (w7.heap[w1.heap.size]? = some (.cells #[.int .u8 6,.string nm.1.text,.int .i64 0,.int .i64 at_,.slice p2 l.1.length c2] 25 (0,0))):=by rw[hw7];exact heap_set hn6 4 _
   have HO7:Hid (OwnAt w7 d2 l.1 (.slice p2 l.1.length c2) (Between w5.heap.size w7.heap.size)):=by rw[hs7,hw7];exact ho2.keep fun b o hb hx=>(Below.heap_setCell _ _ _ _ (show b≠w1.heap.size by have:=hb.1;omega)).trans hx
   have HW:=Hd (pwant_res HT7.out.2 tSemi)
   have f4:=frozen5 hn6 4
   obtain⟨n0,n1,n2,n3,n4⟩:=cells5 hn6
   have H7:=Hd hw7
   clear hT6 ho2 hx6 hn6 hw7
   go_upto_region 10 with fail
   change Code.wp _ _ _ _ (w6.setCell ⟨w1.heap.size,4,none⟩ (.slice p2 l.1.length c2))
   rw[←H7.out]
   clear n0 n1 n2 n3 n4 f4 H7
   go_wp2_with fail
   refine Calls.mono HW.out ?_
   rintro e w8 ⟨rfl,hT8⟩
   have HT8:=Hd (HT7.out.trans hT8)
   have y0:=hT8.box HX7.out hP (Nat.le_refl _)
   have HY0:=Hd y0
   obtain⟨n0,n1,n2,n3,n4⟩:=cells5 (hT8.box HN7.out hP (by omega))
   have HO8:=Hd ((HO7.out.keep fun b o hb hx=>grownBy_keep hT8.1 hx (by have:=hb.1;omega)).sub (G:=Between w5.heap.size w8.heap.size) fun b hb=>⟨hb.1,Nat.lt_of_lt_of_le hb.2 hT8.1.size⟩)
   obtain⟨a0,a1,a2,a3,a4⟩:=cells5 y0
   have z0:=frozen5 y0 0
   have z1:=frozen5 y0 1
   have z2:=frozen5 y0 2
   have z3:=frozen5 y0 3
   have z4:=frozen5 y0 4
   clear hT8 y0
   go_wp2_with fail
   refine ret_node Tryz.results105 rfl (heap_set5 HY0.out _ _ _ _ _) rfl ?_
   rw[HR2.out]
   exact NodeRes.stored (r:=(.mk 6 nm.1.text 0 at_ l.1,wantM ts l.2 tSemi)) (B:=w5.heap.size) hP HL.out HT8.out HO8.out (fits_mk (by omega) HFit.out HAt.out.1 HAt.out.2) (Nat.le_refl _) (by omega) _ _ _ _ _
  ·have hR:=HR'.out
   rw[if_neg hm] at hR
   have hsk:skipM ts σ [tNot]=σ:=by unfold skipM;rw[if_neg hm]
   rw[hsk] at HT3
   have hm':isM ts σ [tNot]=false:=by simpa using hm
   rw[hm']
   have HNm:=Hd (pname_any HTS.out HT3.out.2 5 (by omega))
   have hfit:(ofM ts σ 2 5).1.text.size≤16384:=(tokM_ok HTS.out _).2.1
   generalize ofM ts σ 2 5=nm at *
   have HFit:=Hd hfit
   have HR2:=Hd hR
   clear hR hsk hm hm' hfit
   go_wp2_with fail
   refine Calls.mono HNm.out ?_
   rintro e w4 ⟨d,s,rfl,hT4,ho,hf⟩
   obtain⟨p,c,rfl⟩:=ho.shape
   have HT4:=Hd (HT3.out.trans hT4)
   have hx4:=hT4.box HX3.out hP (Nat.le_refl _)
   have hn4:=hT4.box HN3.out hP (Nat.le_of_lt hl1)
   have hl4:w3.heap.size≤w4.heap.size:=hT4.1.size
   obtain⟨w5,hw5⟩:∃w5,w5=(w4.setCell ⟨w1.heap.size,0,none⟩ (.int .u8 5)).setCell ⟨w1.heap.size,1,none⟩ (.string nm.1.text):=⟨_,rfl⟩
   have hT5:Turns w P L cap ts nm.2.1 nm.2.2 w5:=by rw[hw5];exact (HT4.out.setCell hP HL.out (by omega) 0 _).setCell hP HL.out (by omega) 1 _
   have hx5:w5.heap[w.heap.size]? = some (.cells zeroN 25 (0,0)):=by rw[hw5];exact (Below.heap_setCell _ _ _ _ (show w.heap.size≠w1.heap.size by omega)).trans ((Below.heap_setCell _ _ _ _ (show w.heap.size≠w1.heap.size by omega)).trans hx4)
   have hn5:w5.heap[w1.heap.size]? = some (.cells #[.int .u8 5,.string nm.1.text,.int .i64 0,.int .i64 at_,.slice none 0 0] 25 (0,0)):=by rw[hw5];exact heap_set (heap_set hn4 0 _) 1 _
   have hs5:w5.heap.size=w4.heap.size:=by rw[hw5];simp[World.setCell]
   have HT5:=Hd hT5
   have HX5:=Hd hx5
   have HN5:=Hd hn5
   have HLi:=Hd (HList.out nm.2 w5 P L cap hT5.2)
   have f0:=frozen5 hn4 0
   have f1:=frozen5 hn4 1
   obtain⟨n0,n1,n2,n3,n4⟩:=cells5 hn4
   have H5:=Hd hw5
   have hFT:=run_nodeText nm.1.kind nm.1.text nm.1.num nm.1.place nm.1.kids.length p c w4
   generalize listM ts ar nm.2=l at *
   clear hT4 ho hf hx4 hn4 hT5 hx5 hn5 hw5
   go_upto_region 9 with fail
   change Code.wp _ _ _ _ ((w4.setCell ⟨w1.heap.size,0,none⟩ (.int .u8 5)).setCell ⟨w1.heap.size,1,none⟩ (.string nm.1.text))
   rw[←H5.out]
   clear n0 n1 n2 n3 n4 f0 f1 H5 hFT
   go_wp2_with fail
   refine Calls.mono HLi.out ?_
   rintro e w6 ⟨d2,s2,rfl,hT6,ho2⟩
   obtain⟨p2,c2,rfl⟩:=ho2.shape
   have HT6:=Hd (HT5.out.trans hT6)
   have hx6:=hT6.box HX5.out hP (Nat.le_refl _)
   have hn6:=hT6.box HN5.out hP (Nat.le_of_lt hl1)
   have hl6:w5.heap.size≤w6.heap.size:=hT6.1.size
   obtain⟨w7,hw7⟩:∃w7,w7=w6.setCell ⟨w1.heap.size,4,none⟩ (.slice p2 l.1.length c2):=⟨_,rfl⟩
   have hs7:w7.heap.size=w6.heap.size:=by rw[hw7];simp[World.setCell]
   have HT7:Hid (Turns w P L cap ts l.2.1 l.2.2 w7):=by rw[hw7];exact HT6.out.setCell hP HL.out (by omega) 4 _
   have HX7:Hid (w7.heap[w.heap.size]? = some (.cells zeroN 25 (0,0))):=by rw[hw7];exact (Below.heap_setCell _ _ _ _ (show w.heap.size≠w1.heap.size by omega)).trans hx6
   have HN7:Hid (w7.heap[w1.heap.size]? = some (.cells #[.int .u8 5,.string nm.1.text,.int .i64 0,.int .i64 at_,.slice p2 l.1.length c2] 25 (0,0))):=by rw[hw7];exact heap_set hn6 4 _
   have HO7:Hid (OwnAt w7 d2 l.1 (.slice p2 l.1.length c2) (Between w5.heap.size w7.heap.size)):=by rw[hs7,hw7];exact ho2.keep fun b o hb hx=>(Below.heap_setCell _ _ _ _ (show b≠w1.heap.size by have:=hb.1;omega)).trans hx
   have HW:=Hd (pwant_res HT7.out.2 tSemi)
   have f4:=frozen5 hn6 4
   obtain⟨n0,n1,n2,n3,n4⟩:=cells5 hn6
   have H7:=Hd hw7
   clear hT6 ho2 hx6 hn6 hw7
   go_upto_region 10 with fail
   change Code.wp _ _ _ _ (w6.setCell ⟨w1.heap.size,4,none⟩ (.slice p2 l.1.length c2))
   rw[←H7.out]
   clear n0 n1 n2 n3 n4 f4 H7
   go_wp2_with fail
   refine Calls.mono HW.out ?_
   rintro e w8 ⟨rfl,hT8⟩
   have HT8:=Hd (HT7.out.trans hT8)
   have y0:=hT8.box HX7.out hP (Nat.le_refl _)
   have HY0:=Hd y0
   obtain⟨n0,n1,n2,n3,n4⟩:=cells5 (hT8.box HN7.out hP (by omega))
   have HO8:=Hd ((HO7.out.keep fun b o hb hx=>grownBy_keep hT8.1 hx (by have:=hb.1;omega)).sub (G:=Between w5.heap.size w8.heap.size) fun b hb=>⟨hb.1,Nat.lt_of_lt_of_le hb.2 hT8.1.size⟩)
   obtain⟨a0,a1,a2,a3,a4⟩:=cells5 y0
   have z0:=frozen5 y0 0
   have z1:=frozen5 y0 1
   have z2:=frozen5 y0 2
   have z3:=frozen5 y0 3
   have z4:=frozen5 y0 4
   clear hT8 y0
   go_wp2_with fail
   refine ret_node Tryz.results105 rfl (heap_set5 HY0.out _ _ _ _ _) rfl ?_
   rw[HR2.out]
   exact NodeRes.stored (r:=(.mk 5 nm.1.text 0 at_ l.1,wantM ts l.2 tSemi)) (B:=w5.heap.size) hP HL.out HT8.out HO8.out (fits_mk (by omega) HFit.out HAt.out.1 HAt.out.2) (Nat.le_refl _) (by omega) _ _ _ _ _
def smallOk (ts:List Tok) (σ:PS):Bool:=kdM ts σ==4&&((number (txM ts σ).data.toList).isSome&&decide ((number (txM ts σ).data.toList).getD 0≤2147483647))
def numM (ts:List Tok) (σ:PS):Nat×PS:=if smallOk ts σ=true then ((number (txM ts σ).data.toList).getD 0,nextM ts σ) else (0,(σ.1,true))
theorem numM_ge (ts:List Tok)(σ:PS):σ.1≤(numM ts σ).2.1:=by
 unfold numM;split
 ·exact (nextM_ge ts σ).1
 ·exact Nat.le_refl _
theorem numM_small (ts:List Tok)(σ:PS):(numM ts σ).1≤2147483647:=by
 unfold numM;split
 ·rename_i h
  unfold smallOk at h
  simp only[Bool.and_eq_true,decide_eq_true_eq] at h
  exact h.2.2
 ·exact Nat.zero_le _
theorem pnumber_any {ts:List Tok}(hts:TsOk ts){w:World}{P L cap:Nat}{σ:PS}(h:PAt w P L cap ts σ.1 σ.2) :
  Calls Tryz.prog 104 #[.pointer (some ⟨P,0,none⟩)] w fun e w'=>e=.returned (.int .i64 (numM ts σ).1)∧Turns w P L cap ts (numM ts σ).2.1 (numM ts σ).2.2 w':=by
 have HC:=Hd (pnow_res h)
 have H:=Hd h
 have hP:=h.lt.1
 obtain⟨R,hR⟩:∃R,numM ts σ=R:=⟨_,rfl⟩
 rw[hR]
 unfold numM smallOk at hR
 have htx:(txM ts σ).size≤16384:=(tokM_ok hts σ.1).2.1
 generalize kdM ts σ=kd at *
 generalize txM ts σ=tx at *
 generalize atM ts σ=at_ at *
 have HR:=Hd hR
 clear h hR
 go_enter Tryz.func104,Tryz.ntmps104
 go_wp2_with fail
 refine Calls.mono HC.out ?_
 rintro e w1 ⟨rfl,hb1⟩
 have hb2:Below w1.heap.size w1 (w1.alloc (.cells #[.int .u8 kd,.string tx,.int .i64 at_] 119)):=(Below.refl _ w1).alloc (Nat.le_refl _) _
 have HN:=Hd (number_any tx (w1.alloc (.cells #[.int .u8 kd,.string tx,.int .i64 at_] 119)) htx)
 have HX:=Hd (heap_alloc_new w1 (.cells #[.int .u8 kd,.string tx,.int .i64 at_] 119))
 have HT:=Hd (H.out.turns (hb1.trans (hb2.mono hb1.size)))
 have HPl:=Hd (show P<w1.heap.size by have:=hb1.size;omega)
 clear hb1 hb2
 generalize number tx.data.toList=n at *
 go_wp2_with fail
 refine Calls.mono HN.out ?_
 rintro e w2 ⟨rfl,hb3⟩
 have HT2:=Hd (HT.out.of_below hb3)
 obtain⟨x0,x1,x2,_,_,_⟩:=cells3 (heap_below hb3 HX.out (by simp))
 obtain⟨m,c,_,_,c0,c1,f0,f1⟩:=HT2.out.2.cells
 have HBad:=Hd (HT2.out.2.setBad true)
 have HNx:=Hd (pnext_any HT2.out.2)
 clear hb3 c0
 by_cases hk:kd=4
 ·subst hk
  cases n with
  | none =>
   have hRR:(0,(σ.1,true))=R:=by rw[←HR.out];rfl
   have HRR:=Hd hRR
   clear hRR
   go_wp2_with fail
   go_ret
   rw[←HRR.out]
   exact⟨rfl,HT2.out.trans HBad.out⟩
  | some n =>
   by_cases hn:n≤2147483647
   ·have hRR:(n,nextM ts σ)=R:=by
     rw[←HR.out,if_pos (by simp;omega)];rfl
    have HRR:=Hd hRR
    have h1:decide ((2147483647:Int)<n)=false:=by simp;omega
    clear hRR
    go_wp2_with fail
    refine Calls.mono HNx.out ?_
    rintro e w3 ⟨rfl,ht3⟩
    have HT3:=Hd (HT2.out.trans ht3)
    clear ht3
    go_wp2_with fail
    go_ret
    rw[←HRR.out]
    exact⟨rfl,HT3.out⟩
   ·have hRR:(0,(σ.1,true))=R:=by
     rw[←HR.out,if_neg (by simp;omega)]
    have HRR:=Hd hRR
    have h1:decide ((2147483647:Int)<n)=true:=by simp;omega
    clear hRR
    go_wp2_with fail
    go_ret
    rw[←HRR.out]
    exact⟨rfl,HT2.out.trans HBad.out⟩
 ·have hRR:(0,(σ.1,true))=R:=by
   rw[←HR.out,if_neg (by simp[hk])]
  have HRR:=Hd hRR
  have h1:((kd:Int)==4)=false:=by simp;omega
  have h2:((kd:Int) != 4)=true:=by simp;omega
  clear hRR
  go_wp2_with fail
  go_ret
  rw[←HRR.out]
  exact⟨rfl,HT2.out.trans HBad.out⟩
end Go.Proofs.YtglbjooofdnbkaaGreatDoor
