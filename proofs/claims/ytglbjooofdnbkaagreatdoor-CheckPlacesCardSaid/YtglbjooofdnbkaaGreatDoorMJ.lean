/- Several texts joined, each with its own sentence and conditions ahead of it: TreeW, TreeX. -/
import Derived.Test.YtglbjooofdnbkaaGreatDoorMI
import Derived.Deep.Cut
namespace Go.Proofs.YtglbjooofdnbkaaGreatDoor
set_option maxHeartbeats 4000000
set_option maxRecDepth 100000
open Go.RowKit
theorem kidsFn_cases {L:Nat}{w:World}{kd:Nat}{fn:Value}(h:KidsFn L w kd fn):∃(g:FuncId)(caps:Array Value),fn=.func (.func g) #[] caps∧(caps=#[]∨∃b:Nat,caps=#[.pointer (some ⟨b,0,none⟩)])∧(∀(args:Array Value)(w:World),(callFunc g args).run Tryz.prog w=.ok (.enter g args) w) ∧
  ∀(W:World) (d B:Nat) (ks:List Tree) (v:Value),SameFrom L w W→KidsAt W B d ks v→B≤W.heap.size→ks.length≤20000→Calls Tryz.prog g (#[v]++caps) W (BoolPost (kidsOk kd ks) W):=by
 rcases h with ⟨g,h1,h0,h2⟩|⟨b,h1,h2⟩
 ·exact⟨g,#[],h1,Or.inl rfl,h0,fun W d B ks v a1 a2 a3 a4=>by simpa using h2 W d B ks v a1 a2 a3 a4⟩
 ·exact⟨_,_,h1,Or.inr ⟨b,rfl⟩,enters_of Tryz.func80 (by kernel_rfl) rfl,fun W d B ks v a1 a2 a3 a4=>h2 W d B ks v a1 a2 a3 a4⟩
theorem cells4 {w:World}{T:Nat}{a b c d:Value}{t:TypeId}(h:w.heap[T]? = some (.cells #[a,b,c,d] t (0,0))) :
  w.cell? ⟨T,0,none⟩=some a∧w.cell? ⟨T,1,none⟩=some b∧w.cell? ⟨T,2,none⟩=some c∧w.cell? ⟨T,3,none⟩=some d:=by
 simp[World.cell?,h]
theorem right_known (d:Nat)(HIH:Hid (∀d',d=d'+1→RightK d'))(T:Tree)(v:Value)(deep left lb B:Nat)(w:World)(hv:NodeAt w B d T v)(hBl:B≤lb)(hB:B≤w.heap.size)(hslim:Slim d T)(ht:AsciiTab w)(hal:0≠lb)
  (hl:w.heap[lb]? = some (.cells #[.int .i64 left] 3 (0,0))) (hd1:1≤deep) (hd2:deep≤31) (hl4:left≤4096)
  (hk1:1≤T.kind) (hk2:T.kind≤16):Calls Tryz.prog 14 #[v,.int .i64 deep,.pointer (some ⟨lb,0,none⟩)] w (RightPost d T deep left lb w):=by
 obtain⟨_,s,rfl,hks⟩:=hv
 obtain⟨p,c,rfl,_,hrow⟩:=hks.rows
 have hn9:T.kids.length≤20000:=by
  cases d with
  | zero=>rw[hks.1];exact Nat.zero_le _
  | succ d=>exact hslim.2.1
 have hz:d=0→T.kids=[]:=fun h=>by subst h;exact hks.1
 have hlt:lb<w.heap.size:=(Array.getElem?_eq_some_iff.1 hl).1
 have hl0:(0:Int)≤left:=by omega
 have hl5:(left:Int)≤4096:=by omega
 have hde1:(1:Int)≤deep:=by omega
 have hde2:(deep:Int)≤31:=by omega
 have HUn:=Hd (right_un d T deep left hz)
 have HLv:Hid (levelOk T=(textF (formOf T.kind).1 T.text.data.toList T.kids.length&&(decide ((formOf T.kind).2.1≤T.num)&&decide (T.num≤(formOf T.kind).2.2))&&decide (0≤T.place)&&kidsOk T.kind T.kids)):=by
  show levelOk T=_
  unfold levelOk
  have e1:decide (1≤T.kind)=true:=by simpa using hk1
  have e2:decide (T.kind≤16)=true:=by simpa using hk2
  rw[e1,e2,textOk_form _ hk1 hk2,numOk_form _ hk1 hk2,Bool.true_and,Bool.true_and]
 obtain⟨hf4,_,_⟩:=form_le T.kind hk1 hk2
 have HOf:=Hd (fun W=>nodeOf_any T.kind W hk1 hk2)
 unfold OfPost at HOf
 have HTx:=Hd (fun W (hW:AsciiTab W)=>lookText_any T.kind T.text T.num T.place p T.kids.length c (formOf T.kind).1 W hW hslim.text hf4)
 have HMany:=Hd (manyF_un d T hz)
 have HKs:=Hd hks
 have HRow:=Hd hrow
 have HSl:=Hd hslim
 have HT:=Hd ht
 have HZ:=Hd hz
 generalize (formOf T.kind).1=tf at *
 generalize (formOf T.kind).2.1=lo at *
 generalize (formOf T.kind).2.2=hi at *
 generalize textF tf T.text.data.toList T.kids.length=tx at *
 have hb0:Below w.heap.size w (w.alloc (.cells #[.int .u8 T.kind,.string T.text,.int .i64 T.num,.int .i64 T.place,.slice p T.kids.length c] 69)):=(Below.refl _ w).alloc (Nat.le_refl _) _
 have hX0:=heap_alloc_new w (.cells #[.int .u8 T.kind,.string T.text,.int .i64 T.num,.int .i64 T.place,.slice p T.kids.length c] 69)
 have HX0:=Hd hX0
 obtain⟨b0,b1,b2,b3,b4⟩:=cells5 hX0
 have HB0:=Hd hb0
 have HL:=Hd hl
 clear hks hl hb0 hX0 hrow hslim ht hz hk1 hk2
 go_enter Tryz.func14,Tryz.ntmps14
 go_wp2_with fail
 refine Calls.mono (HOf.out _) ?_
 rintro e w1 ⟨fn,rfl,hb1,hfn⟩
 obtain⟨g,caps,rfl,hcaps,hent,hfn⟩:=kidsFn_cases hfn
 have HFn:=Hd hfn
 have HCaps:=Hd hcaps
 have hx1:=heap_below hb1 HX0.out (by simp)
 have HB1:=Hd (HB0.out.trans (hb1.mono HB0.out.size))
 have l1:=heap_below HB1.out HL.out hlt
 have hlt1:lb<w1.heap.size:=(Array.getElem?_eq_some_iff.1 l1).1
 have hxl:w.heap.size<w1.heap.size:=(Array.getElem?_eq_some_iff.1 hx1).1
 have c2:(w1.alloc (.cells #[.int .i64 tf,.int .i64 lo,.int .i64 hi,.func (.func g) #[] caps] 91)).cell? ⟨lb,0,none⟩=some (.int .i64 left):=by
  have hba:Below w1.heap.size w1 (w1.alloc (.cells #[.int .i64 tf,.int .i64 lo,.int .i64 hi,.func (.func g) #[] caps] 91)):=(Below.refl _ w1).alloc (Nat.le_refl _) _
  exact cell_of_row _ _ 0 _ _ _ (heap_below hba l1 hlt1)
 have f2:(w1.alloc (.cells #[.int .i64 tf,.int .i64 lo,.int .i64 hi,.func (.func g) #[] caps] 91)).frozen? ⟨lb,0,none⟩=false:=by
  have hba:Below w1.heap.size w1 (w1.alloc (.cells #[.int .i64 tf,.int .i64 lo,.int .i64 hi,.func (.func g) #[] caps] 91)):=(Below.refl _ w1).alloc (Nat.le_refl _) _
  exact frozen_of (heap_below hba l1 hlt1) 0
 have HLW:=Hd (set_alloc l1 (.int .i64 ((left:Int)-1)) (.cells #[.int .i64 tf,.int .i64 lo,.int .i64 hi,.func (.func g) #[] caps] 91))
 have HGW:=Hd (grown_below (grown_set (grown_of_below HB1.out (some lb)) 0 (.int .i64 ((left:Int)-1))) ((Below.refl _ _).alloc (Nat.le_refl _) (.cells #[.int .i64 tf,.int .i64 lo,.int .i64 hi,.func (.func g) #[] caps] 91)))
 have HGW1:=Hd (grown_below (grown_set (grown_of_below (Below.refl _ w1) (some lb)) 0 (.int .i64 ((left:Int)-1))) ((Below.refl _ _).alloc (Nat.le_refl _) (.cells #[.int .i64 tf,.int .i64 lo,.int .i64 hi,.func (.func g) #[] caps] 91)))
 have HFm:Hid (((w1.setCell ⟨lb,0,none⟩ (.int .i64 ((left:Int)-1))).alloc (.cells #[.int .i64 tf,.int .i64 lo,.int .i64 hi,.func (.func g) #[] caps] 91)).heap[w1.heap.size]? = some (.cells #[.int .i64 tf,.int .i64 lo,.int .i64 hi,.func (.func g) #[] caps] 91 (0,0))):=by
  show _=_
  rw[at_alloc,if_pos (by simp[World.setCell])]
 have HSame:Hid (SameFrom (w.heap.size+1) w1 ((w1.setCell ⟨lb,0,none⟩ (.int .i64 ((left:Int)-1))).alloc (.cells #[.int .i64 tf,.int .i64 lo,.int .i64 hi,.func (.func g) #[] caps] 91))):=by
  show SameFrom _ _ _
  exact⟨HGW1.out.size,fun b h1 h2=>HGW1.out.block b h2 (by intro e;simp at e;omega)⟩
 have HXW:=Hd (heap_grown HGW1.out hx1 (by intro e;simp at e;omega))
 clear b0 b1 b2 b3 b4 hb1 l1 hfn hcaps hx1
 go_upto_region 3 with (fail)
 clear c2 f2
 generalize ((w1.setCell ⟨lb,0,none⟩ (.int .i64 ((left:Int)-1))).alloc (.cells #[.int .i64 tf,.int .i64 lo,.int .i64 hi,.func (.func g) #[] caps] 91))=w2 at *
 have c2:=cell_of_row _ _ 0 _ _ _ HLW.out
 obtain⟨b0,b1,b2,b3,b4⟩:=cells5 HXW.out
 obtain⟨m0,m1,m2,m3⟩:=cells4 HFm.out
 have hNo:∀(h:(decide (deep≤30)&&decide (1≤left)&&levelOk T)=false),rightD d T deep left=false:=fun h=>by
  rw[HUn.out]
  by_cases hle:1≤left
  ·have e:decide (1≤left)=true:=by simpa using hle
   rw[e,Bool.and_true] at h
   rw[Bool.and_comm (levelOk T),h];simp
  ·have e:decide (sumF (d-1) T.kids+1≤left)=false:=by simp;omega
   rw[e];simp
 rw[HLv.out] at hNo
 have HNo:=Hd hNo
 clear hNo
 by_cases hdeep:deep≤30
 ·have hdp:(deep:Int)≤30:=by omega
  by_cases hleft:1≤left
  ·have hlf:(1:Int)≤left:=by omega
   by_cases hplace:0≤T.place
   ·by_cases hlo:lo≤T.num
    ·by_cases hhi:T.num≤hi
     ·have hlv:levelOk T=(tx&&kidsOk T.kind T.kids):=by
       rw[HLv.out]
       have e1:decide (lo≤T.num)=true:=by simpa using hlo
       have e2:decide (T.num≤hi)=true:=by simpa using hhi
       have e3:decide (0≤T.place)=true:=by simpa using hplace
       rw[e1,e2,e3];simp
      have HLv2:=Hd hlv
      clear hlv
      clear HLv HNo
      have hHT2:=HT.out.grown HGW.out (Ne.symm hal)
      go_wp2_with fail
      refine Calls.mono (HTx.out w2 hHT2) ?_
      rintro e w3 ⟨rfl,hb3⟩
      have HB3:=Hd hb3
      have l3:=heap_below hb3 HLW.out (Array.getElem?_eq_some_iff.1 HLW.out).1
      have x3:=heap_below hb3 HXW.out (Array.getElem?_eq_some_iff.1 HXW.out).1
      have m3':=heap_below hb3 HFm.out (Array.getElem?_eq_some_iff.1 HFm.out).1
      have HT3:=Hd (hHT2.below hb3)
      clear b0 b1 b2 b3 b4 c2 m0 m1 m2 m3 hb3 hHT2
      obtain⟨b0,b1,b2,b3,b4⟩:=cells5 x3
      obtain⟨m0,m1,m2,m3⟩:=cells4 m3'
      have HL3:=Hd l3
      have HX3:=Hd x3
      clear l3 x3 m3'
      cases tx
      ·have hno:rightD d T deep left=false:=by
        rw[HUn.out,HLv2.out];simp
       have HNo2:=Hd hno
       clear hno
       go_wp2_with fail
       go_ret
       exact rightPost_no HNo2.out (grown_below HGW.out HB3.out) HL3.out
      ·have hcall:=HFn.out w3 d B T.kids (.slice p T.kids.length c) ⟨Nat.le_trans HSame.out.1 HB3.out.size,fun b h1 h2=>(HB3.out.block b (Nat.lt_of_lt_of_le h2 HSame.out.1)).trans (HSame.out.2 b (by simpa using h1) h2)⟩
        ((HKs.out.below (below_of_grown HGW.out hBl hB)).below (HB3.out.mono (Nat.le_trans hB HGW.out.size))) (Nat.le_trans (Nat.le_trans hB HGW.out.size) HB3.out.size) hn9
       have HCall:=Hd hcall
       have HLv3:Hid (levelOk T=kidsOk T.kind T.kids):=by show _=_;rw[HLv2.out,Bool.true_and]
       clear hcall HLv2
       generalize kidsOk T.kind T.kids=kk at *
       rcases HCaps.out with rfl|⟨bq,rfl⟩
       all_goals
        go_wp2_with fail
        refine Calls.mono HCall.out ?_
        rintro e w4 ⟨rfl,hb4⟩
        have HB4:=Hd hb4
        have l4:=heap_below hb4 HL3.out (Array.getElem?_eq_some_iff.1 HL3.out).1
        have x4:=heap_below hb4 HX3.out (Array.getElem?_eq_some_iff.1 HX3.out).1
        have HT4:=Hd (HT3.out.below hb4)
        clear b0 b1 b2 b3 b4 m0 m1 m2 m3 hb4
        obtain⟨b0,b1,b2,b3,b4⟩:=cells5 x4
        have HL4:=Hd l4
        clear l4 x4
        have HG4:=Hd (grown_below (grown_below HGW.out HB3.out) HB4.out)
        cases kk
        ·have hno:rightD d T deep left=false:=by
          rw[HUn.out,HLv3.out];simp
         have HNo2:=Hd hno
         clear hno
         go_wp2_with fail
         go_ret
         exact rightPost_no HNo2.out HG4.out HL4.out
        ·have HUn2:Hid (rightD d T deep left=(T.kids.all (kidD (d-1) deep)&&decide (sumF (d-1) T.kids+1≤left))):=by
          show _=_
          have e:decide (deep≤30)=true:=by simpa using hdeep
          rw[HUn.out,HLv3.out,e];simp
         clear HUn HLv3 HCall HSame HXW HFm HLW HB3 HB4 HT3 HL3 HX3 HTx HOf HFn
         obtain⟨n,hn⟩:∃n,T.kids.length=n:=⟨_,rfl⟩
         have HN:=Hd hn
         rw[hn] at hn9 b4 ⊢
         clear hn
         go_wp2_with fail
         clear b0 b1 b2 b3 b4
         go_loopw [77] (RightRel w4 (d-1) T.kids deep left lb n) (fun i _=>n-(intOf i).toNat)
         case atStart=>exact⟨_,0,left-1,rfl,Nat.zero_le _,rfl,grown_of_below (Below.refl _ _) _,by rw[HL4.out,show ((left:Int)-1)=((left-1:Nat):Int) by omega],by show left-1+0+1=left;omega,rfl⟩
         case round =>
          obtain⟨W1,k,m,rfl,hk,rfl,hg1,hl1,hm,hall⟩:=hrel
          have HG1:=Hd hg1
          have HL1:=Hd hl1
          have HA1:=Hd hall
          have HM1:=Hd hm
          have hBw:Below B w W1:=below_of_grown (grown_trans HG4.out hg1) hBl hB
          have hBW:B≤W1.heap.size:=Nat.le_trans hB (grown_trans HG4.out hg1).size
          have hk0:(0:Int)≤k:=by omega
          by_cases hlt2:k<n
          ·obtain⟨t,ht⟩:∃t,T.kids[k]? = some t:=⟨T.kids[k]'(by rw[HN.out];exact hlt2),List.getElem?_eq_getElem (by rw[HN.out];exact hlt2)⟩
           obtain⟨hd,bk,off,rfl,hbB,hkid⟩:=HRow.out k t ht
           obtain⟨p',l',c',d0,d1,d2,d3,d4,hnode⟩:=hkid.node hBw hbB
           have hkl:(k:Int)<n:=by omega
           have hba:Below W1.heap.size W1 (W1.alloc (.cells #[.int .u8 t.kind,.string t.text,.int .i64 t.num,.int .i64 t.place,.slice p' l' c'] 25)):=(Below.refl _ W1).alloc (Nat.le_refl _) _
           have hsl':Slim (d-1) t:=by
            have h1:=HSl.out
            rw[hd] at h1
            exact h1.2.2 t (List.mem_of_getElem? ht)
           have hlw:=heap_below hba hl1 (Array.getElem?_eq_some_iff.1 hl1).1
           have hcall:Calls Tryz.prog 14 #[.agg #[.int .u8 t.kind,.string t.text,.int .i64 t.num,.int .i64 t.place,.slice p' l' c'],.int .i64 ((deep:Int)+1),.pointer (some ⟨lb,0,none⟩)] _ (RightPost (d-1) t (deep+1) m lb _):=
            HIH.out (d-1) hd t _ (deep+1) m lb B _ (hnode.below (hba.mono hBW)) hBl (Nat.le_trans hBW hba.size) hsl' ((HT4.out.grown hg1 (Ne.symm hal)).below hba) hal hlw (by omega) (by omega) (by omega)
           have HCall:=Hd hcall
           have HTt:=Hd ht
           have HBa:=Hd hba
           clear hcall hlw hsl' hba hnode hkid ht hBw hBW hg1 hl1 hm hall hd
           go_wp2_with fail
           refine Calls.mono HCall.out ?_
           rintro e w5 ⟨rfl,hg5,x5,hl5',hx5⟩
           have HG5:=Hd (grown_trans HG1.out (grown_trans (grown_of_below HBa.out (some lb)) hg5))
           have HL5:=Hd hl5'
           have HX5:=Hd hx5
           have HStop:=Hd (right_stop (d:=d-1) (deep:=deep) (left:=left) HTt.out HM1.out)
           have HGo:=Hd (right_go (d:=d-1) (m:=m) HTt.out HA1.out)
           clear hg5 hl5' hx5 d0 d1 d2 d3 d4
           generalize rightD (d-1) t (deep+1) m=r at *
           cases r
           ·have hno:rightD d T deep left=false:=by
             rw[HUn2.out];exact HStop.out (by first|rfl|trivial)
            have HNo2:=Hd hno
            clear hno
            go_wp2_with fail
            go_ret
            exact rightPost_no HNo2.out (grown_trans HG4.out HG5.out) HL5.out
           ·go_wp2_with fail
            refine⟨⟨w5,k+1,m-manyF (d-1) t,rfl,by omega,by go_num,HG5.out,?_,?_,(HGo.out (by first|rfl|trivial)).1⟩,by simp[intOf];omega⟩
            ·rw[HL5.out,HX5.out (by first|rfl|trivial)]
             have:=(HGo.out (by first|rfl|trivial)).2
             rw[show ((m:Int)-manyF (d-1) t)=((m-manyF (d-1) t:Nat):Int) by omega]
            ·have h1:=sumF_snoc (d-1) T.kids k t HTt.out
             have h2:=(HGo.out (by first|rfl|trivial)).2
             have h3:=HM1.out
             omega
          ·obtain rfl:k=n:=by omega
           have hT1:T.kids.take k=T.kids:=List.take_of_length_le (by rw[HN.out];exact Nat.le_refl _)
           have hyes:rightD d T deep left=true:=by
            rw[HUn2.out]
            have h1:=HA1.out
            have h2:=HM1.out
            rw[hT1] at h1 h2
            rw[h1]
            simp
            omega
           have HYes:=Hd hyes
           have HT1:=Hd hT1
           clear hyes hT1 hm hall hl1 hg1 hBw hBW
           go_wp2_with fail
           go_ret
           refine⟨ret_bool HYes.out.symm,grown_trans HG4.out HG1.out,_,HL1.out,fun _=>?_⟩
           have h2:=HM1.out
           rw[HT1.out] at h2
           rw[HMany.out]
           omega
     ·have e2:decide (T.num≤hi)=false:=by simpa using hhi
      have hno:=HNo.out (by rw[e2];simp)
      have HNo2:=Hd hno
      clear hno e2
      have hhi':hi<T.num:=by omega
      clear hhi
      go_wp2_with fail
      go_ret
      exact rightPost_no HNo2.out HGW.out HLW.out
    ·have e2:decide (lo≤T.num)=false:=by simpa using hlo
     have hno:=HNo.out (by rw[e2];simp)
     have HNo2:=Hd hno
     clear hno e2
     have hlo':T.num<lo:=by omega
     clear hlo
     go_wp2_with fail
     go_ret
     exact rightPost_no HNo2.out HGW.out HLW.out
   ·have e2:decide (0≤T.place)=false:=by simpa using hplace
    have hno:=HNo.out (by rw[e2];simp)
    have HNo2:=Hd hno
    clear hno e2
    have hpl':T.place<0:=by omega
    clear hplace
    go_wp2_with fail
    go_ret
    exact rightPost_no HNo2.out HGW.out HLW.out
  ·obtain rfl:left=0:=by omega
   have hno:=HNo.out (by simp)
   have HNo2:=Hd hno
   clear hno
   go_wp2_with fail
   go_ret
   exact rightPost_no HNo2.out HGW.out HLW.out
 ·have hdp:(30:Int)<deep:=by omega
  have e2:decide (deep≤30)=false:=by simpa using hdeep
  have hno:=HNo.out (by rw[e2];simp)
  have HNo2:=Hd hno
  clear hno e2 hdeep
  go_wp2_with fail
  go_ret
  exact rightPost_no HNo2.out HGW.out HLW.out
theorem rightK_any:∀d,RightK d:=by
 intro d
 induction d with
 | zero =>
  intro T v deep left lb B w hv hBl hB hsl ht hal hl h1 h2 h4
  by_cases hk:1≤T.kind∧T.kind≤16
  ·exact right_known 0 (Hd fun d' h=>by omega) T v deep left lb B w hv hBl hB hsl ht hal hl h1 h2 h4 hk.1 hk.2
  ·exact right_unknown 0 T v deep left lb B w hv hB hl h4 (by omega)
 | succ d ih =>
  intro T v deep left lb B w hv hBl hB hsl ht hal hl h1 h2 h4
  by_cases hk:1≤T.kind∧T.kind≤16
  ·refine right_known (d+1) (Hd fun d' h=>?_) T v deep left lb B w hv hBl hB hsl ht hal hl h1 h2 h4 hk.1 hk.2
   have e:d'=d:=by omega
   subst e
   exact ih
  ·exact right_unknown (d+1) T v deep left lb B w hv hB hl h4 (by omega)
theorem rightF_D (d:Nat)(T:Tree):rightF d T=(T.kind==1&&rightD d T 1 4096):=by
 unfold rightF rightD
 have e:decide (1+deepF d T≤31)=decide (deepF d T≤30):=by
  rw[Bool.eq_iff_iff];simp only[decide_eq_true_eq];omega
 rw[e]
 simp only[Bool.and_assoc]
theorem nodeRight_any (d:Nat)(T:Tree)(v:Value)(B:Nat)(w:World)(hv:NodeAt w B d T v)(hB:B≤w.heap.size)(hsl:Slim d T)(ht:AsciiTab w) :
  Calls Tryz.prog 6 #[v] w (BoolPost (rightF d T) w):=by
 have hv':=hv
 obtain⟨_,s,rfl,hks⟩:=hv
 obtain⟨p,n,c,rfl⟩:=hks.shape
 obtain⟨X0,X1,XB⟩:=heap_two w (.cells #[.int .u8 T.kind,.string T.text,.int .i64 T.num,.int .i64 T.place,.slice p n c] 25) (.cells #[.int .i64 (4096:Nat)] 3)
 obtain⟨b0,b1,b2,b3,b4⟩:=cells5 X0
 have HR:=Hd (rightF_D d T)
 have hlt:=ht.lt
 have HCall:=Hd (rightK_any d T _ 1 4096 (w.heap.size+1) B _ (hv'.below (XB.mono hB)) (by omega) (Nat.le_trans hB XB.size) hsl (ht.below XB) (by omega) X1 (by omega) (by omega) (by omega))
 have HB:=Hd XB
 clear X0 X1 XB hks hv' hlt ht hsl
 generalize rightF d T=r at *
 go_enter Tryz.func6,Tryz.ntmps6
 cases hk:((T.kind:Int)==1)
 ·have hk':(T.kind==1)=false:=by simp at hk ⊢;omega
  have HK:=Hd hk'
  clear hk' HCall
  go_wp2_with fail
  go_ret
  exact⟨ret_bool (by rw[HR.out,HK.out];rfl),HB.out⟩
 ·have hk':(T.kind==1)=true:=by simp at hk ⊢;omega
  have HK:=Hd hk'
  clear hk'
  go_wp2_with fail
  refine Calls.mono HCall.out ?_
  rintro e W ⟨rfl,hg,_⟩
  have HG:=Hd hg
  clear hg
  go_wp2_with fail
  go_ret
  exact⟨ret_bool (by rw[HR.out,HK.out];rfl),HB.out.trans (below_of_grown HG.out (Nat.le_succ _) HB.out.size)⟩
end Go.Proofs.YtglbjooofdnbkaaGreatDoor
