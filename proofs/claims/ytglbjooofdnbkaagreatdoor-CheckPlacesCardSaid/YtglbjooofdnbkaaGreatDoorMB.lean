/- Several texts joined, each with its own sentence and conditions ahead of it: ScanF, ScanG, ScanH, ScanI, ScanJ, ScanK. -/
import Derived.Test.YtglbjooofdnbkaaGreatDoorMA
import Derived.Deep.RegionHeld3
import Derived.Deep.RegionWith
import Derived.Handy
import Derived.RangeFuncNested
import Derived.RangeFuncBound
import Derived.RangeFuncCalls
import Derived.RangeFuncLeaves
import Derived.Shelf.Abstract
import Derived.Shelf.RegionOpen
import Derived.OwnWalkIn
import Derived.TacticsInMore
import Derived.LoopNIn
import Derived.LoopIn
namespace Go.Proofs.YtglbjooofdnbkaaGreatDoor
set_option maxHeartbeats 1000000
open Go.RowKit
theorem any_letters:(fun c=>[lettersB].any (hasB · c))=isLow:=by
 funext c
 show (hasB lettersB c||false)=_
 rw[has_letters,Bool.or_false]
theorem any_digits:(fun c=>[digitsB].any (hasB · c))=isDig:=by
 funext c
 show (hasB digitsB c||false)=_
 rw[has_digits,Bool.or_false]
theorem any_more:(fun c=>[moreB].any (hasB · c))=isOn:=by
 funext c
 show (hasB moreB c||false)=_
 rw[has_more,Bool.or_false]
theorem any_quotes (c:UInt8):[(⟨#[63,39]⟩:ByteArray)].any (hasB · c)=(c==63||c==39):=by
 show ((([63,39]:List UInt8).contains c)||false)=_
 simp only[List.contains_cons,List.contains_nil,Bool.or_false]
theorem any_quote (c:UInt8):[(⟨#[39]⟩:ByteArray)].any (hasB · c)=(c==39):=by
 show ((([39]:List UInt8).contains c)||false)=_
 simp only[List.contains_cons,List.contains_nil,Bool.or_false]
def tokenAt (s:ByteArray) (k:Nat) (c:UInt8):Nat×ByteArray×Nat×Nat:=
 if isLow c then (if wordB (s.extract k (scanTo isOn s k)).data.toList then 1 else 2,s.extract k (scanTo isOn s k),if scanTo isOn s k-k≤24 then 0 else 201,scanTo isOn s k)
 else if c==63||c==39 then (if c==39 then 5 else 3,s.extract (k+1) (scanTo isOn s (k+1)),if namedB (s.extract (k+1) (scanTo isOn s (k+1))).data.toList then 0 else 201,scanTo isOn s (k+1))
 else if isDig c then (4,s.extract k (scanTo isDig s k),if (number (s.extract k (scanTo isDig s k)).data.toList).isSome&&!((s.data.toList.drop (scanTo isDig s k)).head?.any isOn) then 0 else 201,scanTo isDig s k)
 else match signsL.find? (fun g=>Lib.hasPrefix (s.data.toList.drop k) g.data.toList) with
  | some g=>(6,g,0,k+g.size)
  | none=>(0,⟨#[]⟩,200,k)
def TokPost (w:World) (R Q:Nat) (s:ByteArray) (k:Nat) (c:UInt8) (e:Ending) (w':World):Prop:=
 e=.returned (.tuple #[.agg #[.int .u8 (tokenAt s k c).1,.string (tokenAt s k c).2.1,.int .i64 k],.int .i64 (tokenAt s k c).2.2.1])∧w.grownBy w' (some Q)∧Rdr w' R Q s (tokenAt s k c).2.2.2
theorem tokPost_of {w:World}{R Q:Nat}{s:ByteArray}{k:Nat}{c:UInt8}{w':World}(kd:Nat)(tx:ByteArray)(er en:Nat)(h:tokenAt s k c=(kd,tx,er,en))(hg:w.grownBy w' (some Q))(hr:Rdr w' R Q s en) :
  TokPost w R Q s k c (.returned (.tuple #[.agg #[.int .u8 kd,.string tx,.int .i64 k],.int .i64 er])) w':=by
 unfold TokPost;rw[h];exact⟨rfl,hg,hr⟩
theorem token_end (w w6:World)(R Q:Nat)(s:ByteArray)(k:Nat)(c:UInt8)(T kd er en:Nat)(kdI erI:Int)(tx:ByteArray)(a0 b0 c0:Value)(hT:w6.heap[T]? = some (.cells #[a0,b0,c0] 119 (0,0)))(hTw:w.heap.size≤T)(hTR:T≠R)(hTQ:T≠Q)
  (hg:w.grownBy w6 (some Q)) (hr:Rdr w6 R Q s en) (hF:tokenAt s k c=(kd,tx,er,en)) (hkd:kdI=kd) (her:erI=er) (tmps:Array Value) (h2:tmps.getD 2 undef=.pointer (some ⟨T,0,none⟩)) (h3:tmps.getD 3 undef=.int .i64 erI) :
  bodyPost Tryz.prog Tryz.f99 (TokPost w R Q s k c) .ret ⟨tmps,[]⟩ (((w6.setCell ⟨T,0,none⟩ (.int .u8 kdI)).setCell ⟨T,1,none⟩ (.string tx)).setCell ⟨T,2,none⟩ (.int .i64 k)):=by
 subst hkd her
 have hT':(((w6.setCell ⟨T,0,none⟩ (.int .u8 kd)).setCell ⟨T,1,none⟩ (.string tx)).setCell ⟨T,2,none⟩ (.int .i64 k)).heap[T]? = some (.cells #[.int .u8 kd,.string tx,.int .i64 k] 119 (0,0)):=
  heap_set (heap_set (heap_set hT 0 _) 1 _) 2 _
 have hg':=grown_set_far (grown_set_far (grown_set_far hg hTw 0 (.int .u8 kd)) hTw 1 (.string tx)) hTw 2 (.int .i64 k)
 have hr':=((hr.set_far (i:=0) (.int .u8 kd) hTR hTQ).set_far (i:=1) (.string tx) hTR hTQ).set_far (i:=2) (.int .i64 k) hTR hTQ
 generalize ((w6.setCell ⟨T,0,none⟩ (.int .u8 kd)).setCell ⟨T,1,none⟩ (.string tx)).setCell ⟨T,2,none⟩ (.int .i64 k)=w9 at *
 obtain⟨c0,c1,c2,_⟩:=cells3 hT'
 refine bodyPost_ret (v:=.tuple #[.agg #[.int .u8 kd,.string tx,.int .i64 k],.int .i64 er]) ?_ rfl (tokPost_of kd tx er en hF hg' hr')
 have h2':tmps[2]?.getD undef=.pointer (some ⟨T,0,none⟩):=by simpa using h2
 have h3':tmps[3]?.getD undef=.int .i64 er:=by simpa using h3
 simp[results,Tryz.results99,go_sem,h2',h3',c0,c1,c2]
theorem ext_list (s:ByteArray)(a b:Nat)(h:a<b)(hb:b≤s.size):(s.extract a b).data.toList=(s[a]'(by omega))::(s.extract (a+1) b).data.toList:=by
 have e:∀x y,(s.extract x y).data.toList=(s.data.toList.drop x).take (y-x):=by
  intro x y;rw[ByteArray.data_extract,Array.toList_extract]
 rw[e,e,drop_cons s a (by omega),show b-a=(b-(a+1))+1 from by omega,List.take_succ_cons]
theorem ext_size (s:ByteArray)(a b:Nat)(hb:b≤s.size):(s.extract a b).size=b-a:=by
 rw[ByteArray.size_extract];omega
theorem namedB_low (s:ByteArray)(a b:Nat)(h:a<b)(hb:b≤s.size)(hc:isLow s[a]=true):namedB (s.extract a b).data.toList=decide (b-a≤24):=by
 have hl:(s.extract a b).data.toList.length=b-a:=by rw[Array.length_toList];exact ext_size s a b hb
 rw[ext_list s a b h hb] at hl ⊢
 simp only[namedB,hc,Bool.and_true,hl]
theorem token_name (R Q k:Nat)(s:ByteArray)(w:World)(h:Rdr w R Q s k)(hk:k<s.size)(hs:s.size≤16384)(ht:AsciiTab w)(hQ:Q≠0)
  (hc:isLow s[k]=true) :
  Calls Tryz.prog 99 #[.pointer (some ⟨R,0,none⟩)] w (TokPost w R Q s k s[k]):=by
 have hLT:∀(W:World) (T:Nat) (cs:Array Value),W.heap[T]? = some (.cells cs 119 (0,0))→Rdr W R Q s k→some T≠some Q:=fun W T cs hT hr e=>by
  obtain⟨p,hq⟩:=hr.q
  injection e with e
  exact ne_of_type hT hq (by decide) e
 have HLT:=Hd hLT
 clear hLT
 have HC:=Hd hc
 go_enter Tryz.func99,Tryz.ntmps99
 go_wp2_with fail
 have hb0:Below w.heap.size w (w.alloc (.cells #[.int .u8 0,.string ⟨#[]⟩,.int .i64 0] 119)):=(Below.refl _ w).alloc (Nat.le_refl _) _
 have T2:=heap_alloc_new w (.cells #[.int .u8 0,.string ⟨#[]⟩,.int .i64 0] 119)
 refine (at_b R Q k s _ (h.keep hb0) (by omega) hs).mono ?_;rintro e w1 ⟨rfl,hb1⟩
 have hbw1:Below w.heap.size w w1:=hb0.trans (hb1.mono hb0.size)
 have HT2:=Hd (heap_below hb1 T2 (by simp))
 have hr1:=h.keep hbw1
 clear T2 hb1 hb0
 have hb2:Below w1.heap.size w1 (w1.alloc (.cells #[.int .u8 0,.string ⟨#[]⟩,.int .i64 k] 119)):=(Below.refl _ w1).alloc (Nat.le_refl _) _
 have T4:=Hd (heap_alloc_new w1 (.cells #[.int .u8 0,.string ⟨#[]⟩,.int .i64 k] 119))
 go_wp2_with fail
 refine (one_at R Q k s _ (hr1.keep hb2) hk hs [lettersB] true (by rw[←HC.out];exact congrFun any_letters s[k]) _ rfl 1 1 rfl (by omega) _ (by simp)).mono ?_
 rintro e w3 ⟨rfl,hb3⟩
 have hb23:Below w1.heap.size w1 w3:=hb2.trans (hb3.mono hb2.size)
 have hbw3:Below w.heap.size w w3:=hbw1.trans (hb23.mono hbw1.size)
 have hr3:=hr1.keep hb23
 have HT4:=Hd (heap_below hb3 T4.out (by simp))
 have HT2b:=Hd (heap_below hb23 HT2.out (Array.getElem?_eq_some_iff.1 HT2.out).1)
 clear hb2 hb3 hb23 T4
 go_wp2_with fail
 refine (take_at R Q k s _ hr3 (by omega) hs [moreB] isOn any_more _ rfl 1 1 rfl (by omega) _ rfl).mono ?_
 rintro e w4 ⟨rfl,hg4,hr4⟩
 have hgw4:w.grownBy w4 (some Q):=World.grownBy.trans (grown_of_below hbw3 _) hg4
 have HT4b:=Hd (heap_grown hg4 HT4.out (HLT.out _ _ _ HT4.out hr3))
 have HT2c:=Hd (heap_grown hg4 HT2b.out (HLT.out _ _ _ HT2b.out hr3))
 have hsz:=ext_size s k (scanTo isOn s k) (scanTo_le isOn s k (by omega))
 have hkon:isOn s[k]=true:=by unfold isOn;rw[HC.out];rfl
 have hlt1:k<scanTo isOn s k:=by rw[←scanTo_yes isOn s k hk hkon];exact scanTo_ge _ _ _
 have hle1:=scanTo_le isOn s k (by omega)
 have hnm:=namedB_low s k (scanTo isOn s k) hlt1 hle1 HC.out
 generalize hE:scanTo isOn s k=en at *
 generalize hX:s.extract k en=tx at *
 have HE:=Hd hE
 have HX:=Hd hX
 have htx:tx.size≤16384:=by omega
 have HNB:=Hd hnm
 clear hsz hkon hnm
 clear hE hX hg4 hbw3 HT4 HT2b
 have HN1:Hid (w1.heap.size≠R∧w1.heap.size≠Q):=by
  obtain⟨_,_,_,_,_,_,_,hR1,hQ1⟩:=hr1.cells
  show w1.heap.size≠R∧w1.heap.size≠Q
  omega
 obtain⟨c0,c1,c2,f0,f1,f2⟩:=cells3 HT4b.out
 have HG:Hid (w.grownBy ((w4.setCell ⟨w1.heap.size,0,none⟩ (.int .u8 2)).setCell ⟨w1.heap.size,1,none⟩ (.string tx)) (some Q)):=grown_set_far (grown_set_far hgw4 hbw1.size _ _) hbw1.size _ _
 have HB4:=Hd (heap_set (heap_set HT4b.out 0 (.int .u8 2)) 1 (.string tx))
 have hne:w1.heap.size≠w.heap.size:=by have:=(Array.getElem?_eq_some_iff.1 HT2.out).1;omega
 have HRD:=Hd ((hr4.set_far (T:=w1.heap.size) (i:=0) (.int .u8 2) HN1.out.1 HN1.out.2).set_far (i:=1) (.string tx) HN1.out.1 HN1.out.2)
 have HT2d:=Hd (heap_set_far (heap_set_far HT2c.out hne 0 (.int .u8 2)) hne 1 (.string tx))
 go_wp2_with fail
 generalize (w4.setCell ⟨w1.heap.size,0,none⟩ (.int .u8 2)).setCell ⟨w1.heap.size,1,none⟩ (.string tx)=w5 at *
 have hr5:Rdr w5 R Q s en:=HRD.out
 have ht5:AsciiTab w5:=ht.grown HG.out hQ
 clear HT4b c0 c1 c2 f0 f1 f2 hgw4
 obtain⟨c0,c1,c2,f0,f1,f2⟩:=cells3 HB4.out
 have hlt:=(Array.getElem?_eq_some_iff.1 HB4.out).1
 go_region_held3 (fun w'=>w'.cell? ⟨w1.heap.size,1,none⟩=some (.string tx))
  (first
   | assumption
   | (exact (World.cell?_alloc_lt w5 _ ⟨w1.heap.size,1,none⟩ hlt).trans c1))
  (first
   | (go_at_call 84;refine (words_any _ (ht5.below (Below.refl _ _).drew)).mono ?_;rintro e w6 ⟨rfl,rfl⟩)
   | (go_at_call 83;refine (contains_words _ _ tx _ (by exact heap_alloc_new w5 _)).mono ?_;rintro e w6 ⟨rfl,rfl⟩))
 have hb6:Below w5.heap.size w5 (w5.alloc (.cells (wordsL.map Value.string).toArray 9)).drew:=((Below.refl _ w5).alloc (Nat.le_refl _) _).drew
 generalize (w5.alloc (.cells (wordsL.map Value.string).toArray 9)).drew=w6 at *
 have HB6:=Hd (heap_below hb6 HB4.out hlt)
 have HT6:=Hd (heap_below hb6 HT2d.out (Array.getElem?_eq_some_iff.1 HT2d.out).1)
 have HG6:=Hd (grown_below HG.out hb6)
 clear c0 c1 c2 f0 f1 f2 ht5 HG
 obtain⟨c0,c1,c2,f0,f1,f2⟩:=cells3 HB6.out
 obtain⟨d0,d1,d2,e0,e1,e2⟩:=cells3 HT6.out
 have HNM:=Hd (fun W (x:Bool) (hx:decide (en-k≤24)=x)=>(named_any tx W (by omega)).mono (R':=fun e w'=>e=.returned (.bool x)∧W=w') (fun e w' hh=>⟨by rw[hh.1,HNB.out,hx],hh.2⟩))
 have HTA:Hid (tokenAt s k s[k]=(if wordB tx.data.toList then 1 else 2,tx,if en-k≤24 then 0 else 201,en)):=by
  show tokenAt s k s[k]=_
  unfold tokenAt;rw[if_pos HC.out,HE.out,HX.out]
 have hr6:=hr5.keep hb6
 have hTR:w.heap.size≠R∧w.heap.size≠Q:=by
  obtain⟨_,_,_,_,_,_,_,hR0,hQ0⟩:=h.cells
  omega
 have HTR:=Hd hTR
 clear hTR
 cases hw:wordB tx.data.toList
 ·cases hn:decide (en-k≤24)
  ·have HN:=Hd hn
   have HF:Hid (tokenAt s k s[k]=(2,tx,201,en)):=by
    show tokenAt s k s[k]=_
    rw[HTA.out,hw,if_neg (by simp),if_neg (by simpa using hn)]
   clear hn hw HTA
   go_wp2_with (first
    | (go_at_call 129;refine (HNM.out _ _ HN.out).mono ?_;rintro e w7 ⟨rfl,rfl⟩))
   exact token_end w _ R Q s k _ _ 2 201 en 2 201 tx _ _ _ HT6.out (Nat.le_refl _) HTR.out.1 HTR.out.2 HG6.out hr6 HF.out rfl rfl _ rfl rfl
  ·have HN:=Hd hn
   have HF:Hid (tokenAt s k s[k]=(2,tx,0,en)):=by
    show tokenAt s k s[k]=_
    rw[HTA.out,hw,if_neg (by simp),if_pos (by simpa using hn)]
   clear hn hw HTA
   go_wp2_with (first
    | (go_at_call 129;refine (HNM.out _ _ HN.out).mono ?_;rintro e w7 ⟨rfl,rfl⟩))
   exact token_end w _ R Q s k _ _ 2 0 en 2 0 tx _ _ _ HT6.out (Nat.le_refl _) HTR.out.1 HTR.out.2 HG6.out hr6 HF.out rfl rfl _ rfl rfl
 ·have HT8:=Hd (heap_set_far HT6.out hne 0 (.int .u8 1))
  have HG8:=Hd (grown_set_far HG6.out hbw1.size 0 (.int .u8 1))
  have HR8:=Hd (hr6.set_far (T:=w1.heap.size) (i:=0) (.int .u8 1) HN1.out.1 HN1.out.2)
  cases hn:decide (en-k≤24)
  ·have HN:=Hd hn
   have HF:Hid (tokenAt s k s[k]=(1,tx,201,en)):=by
    show tokenAt s k s[k]=_
    rw[HTA.out,hw,if_pos rfl,if_neg (by simpa using hn)]
   clear hn hw HTA
   go_wp2_with (first
    | (go_at_call 129;refine (HNM.out _ _ HN.out).mono ?_;rintro e w7 ⟨rfl,rfl⟩))
   exact token_end w _ R Q s k _ _ 1 201 en 1 201 tx _ _ _ HT8.out (Nat.le_refl _) HTR.out.1 HTR.out.2 HG8.out HR8.out HF.out rfl rfl _ rfl rfl
  ·have HN:=Hd hn
   have HF:Hid (tokenAt s k s[k]=(1,tx,0,en)):=by
    show tokenAt s k s[k]=_
    rw[HTA.out,hw,if_pos rfl,if_pos (by simpa using hn)]
   clear hn hw HTA
   go_wp2_with (first
    | (go_at_call 129;refine (HNM.out _ _ HN.out).mono ?_;rintro e w7 ⟨rfl,rfl⟩))
   exact token_end w _ R Q s k _ _ 1 0 en 1 0 tx _ _ _ HT8.out (Nat.le_refl _) HTR.out.1 HTR.out.2 HG8.out HR8.out HF.out rfl rfl _ rfl rfl
structure TS (w:World) (R Q:Nat) (s:ByteArray) (k T2 T4 j:Nat) (kd:Int) (tx:ByteArray) (W:World):Prop where
 t2:W.heap[T2]? = some (.cells #[.int .u8 0,.string ⟨#[]⟩,.int .i64 0] 119 (0,0))
 t4:W.heap[T4]? = some (.cells #[.int .u8 kd,.string tx,.int .i64 k] 119 (0,0))
 g:w.grownBy W (some Q)
 r:Rdr W R Q s j
 n2:w.heap.size≤T2
 n4:w.heap.size≤T4
 ne:T4≠T2
 r2:T2≠R∧T2≠Q
 r4:T4≠R∧T4≠Q
section
variable {w W W':World} {R Q k T2 T4 j:Nat} {s:ByteArray} {kd:Int} {tx:ByteArray}
theorem TS.below (h:TS w R Q s k T2 T4 j kd tx W)(hb:Below W.heap.size W W'):TS w R Q s k T2 T4 j kd tx W':=
 { h with t2:=heap_below hb h.t2 (Array.getElem?_eq_some_iff.1 h.t2).1,t4:=heap_below hb h.t4 (Array.getElem?_eq_some_iff.1 h.t4).1,g:=grown_below h.g hb,r:=h.r.keep hb }
theorem TS.grown {j':Nat}(h:TS w R Q s k T2 T4 j kd tx W)(hg:W.grownBy W' (some Q))(hr:Rdr W' R Q s j'):TS w R Q s k T2 T4 j' kd tx W':=
 { h with t2:=heap_grown hg h.t2 (by intro e;injection e with e;exact h.r2.2 e),t4:=heap_grown hg h.t4 (by intro e;injection e with e;exact h.r4.2 e),g:=World.grownBy.trans h.g hg,r:=hr }
theorem TS.kind (h:TS w R Q s k T2 T4 j kd tx W)(kd':Int):TS w R Q s k T2 T4 j kd' tx (W.setCell ⟨T4,0,none⟩ (.int .u8 kd')):=
 { h with t2:=heap_set_far h.t2 h.ne _ _,t4:=heap_set h.t4 0 _,g:=grown_set_far h.g h.n4 _ _,r:=h.r.set_far _ h.r4.1 h.r4.2 }
theorem TS.text (h:TS w R Q s k T2 T4 j kd tx W)(tx':ByteArray):TS w R Q s k T2 T4 j kd tx' (W.setCell ⟨T4,1,none⟩ (.string tx')):=
 { h with t2:=heap_set_far h.t2 h.ne _ _,t4:=heap_set h.t4 1 _,g:=grown_set_far h.g h.n4 _ _,r:=h.r.set_far _ h.r4.1 h.r4.2 }
theorem TS.tab (h:TS w R Q s k T2 T4 j kd tx W)(ht:AsciiTab w)(hQ:Q≠0):AsciiTab W:=ht.grown h.g hQ
theorem TS.c4 (h:TS w R Q s k T2 T4 j kd tx W):W.cell? ⟨T4,0,none⟩=some (.int .u8 kd)∧W.cell? ⟨T4,1,none⟩=some (.string tx)∧W.cell? ⟨T4,2,none⟩=some (.int .i64 k)∧W.frozen? ⟨T4,0,none⟩=false∧W.frozen? ⟨T4,1,none⟩=false∧W.frozen? ⟨T4,2,none⟩=false:=cells3 h.t4
theorem TS.c2 (h:TS w R Q s k T2 T4 j kd tx W):W.cell? ⟨T2,0,none⟩=some (.int .u8 0)∧W.cell? ⟨T2,1,none⟩=some (.string ⟨#[]⟩)∧W.cell? ⟨T2,2,none⟩=some (.int .i64 0)∧W.frozen? ⟨T2,0,none⟩=false∧W.frozen? ⟨T2,1,none⟩=false∧W.frozen? ⟨T2,2,none⟩=false:=cells3 h.t2
end
theorem TS.start {w w1:World}{R Q k:Nat}{s:ByteArray}(h:Rdr w R Q s k)(hb1:Below (w.alloc (.cells #[.int .u8 0,.string ⟨#[]⟩,.int .i64 0] 119)).heap.size (w.alloc (.cells #[.int .u8 0,.string ⟨#[]⟩,.int .i64 0] 119)) w1) :
  TS w R Q s k w.heap.size w1.heap.size k 0 ⟨#[]⟩ (w1.alloc (.cells #[.int .u8 0,.string ⟨#[]⟩,.int .i64 k] 119)):=by
 have hb0:Below w.heap.size w (w.alloc (.cells #[.int .u8 0,.string ⟨#[]⟩,.int .i64 0] 119)):=(Below.refl _ w).alloc (Nat.le_refl _) _
 have T2:=heap_alloc_new w (.cells #[.int .u8 0,.string ⟨#[]⟩,.int .i64 0] 119)
 have hbw1:Below w.heap.size w w1:=hb0.trans (hb1.mono hb0.size)
 have HT2:=heap_below hb1 T2 (by simp)
 have hr1:=h.keep hbw1
 have hb2:Below w1.heap.size w1 (w1.alloc (.cells #[.int .u8 0,.string ⟨#[]⟩,.int .i64 k] 119)):=(Below.refl _ w1).alloc (Nat.le_refl _) _
 have hl:=(Array.getElem?_eq_some_iff.1 HT2).1
 obtain⟨_,_,_,_,_,_,_,hR0,hQ0⟩:=h.cells
 exact { t2:=heap_below hb2 HT2 hl,t4:=heap_alloc_new w1 _,g:=grown_of_below (hbw1.trans (hb2.mono hbw1.size)) _,r:=hr1.keep hb2,n2:=Nat.le_refl _,n4:=hbw1.size,ne:=by omega,r2:=by omega,r4:=by omega }
theorem TS.fin {w W:World}{R Q k T2 T4:Nat}{s:ByteArray}{c:UInt8}{kd er en:Nat}{kdI erI:Int}{tx:ByteArray}(h:TS w R Q s k T2 T4 en kdI tx W)(hF:tokenAt s k c=(kd,tx,er,en))(hkd:kdI=kd)(her:erI=er)(tmps:Array Value)(h2:tmps.getD 2 undef=.pointer (some ⟨T2,0,none⟩))(h3:tmps.getD 3 undef=.int .i64 erI) :
  bodyPost Tryz.prog Tryz.f99 (TokPost w R Q s k c) .ret ⟨tmps,[]⟩ (((W.setCell ⟨T2,0,none⟩ (.int .u8 kdI)).setCell ⟨T2,1,none⟩ (.string tx)).setCell ⟨T2,2,none⟩ (.int .i64 k)):=
 token_end w W R Q s k c T2 kd er en kdI erI tx _ _ _ h.t2 h.n2 h.r2.1 h.r2.2 h.g h.r hF hkd her tmps h2 h3
theorem token_mark (R Q k:Nat)(s:ByteArray)(w:World)(h:Rdr w R Q s k)(hk:k<s.size)(hs:s.size≤16384)
  (hc:isLow s[k]=false) (hq:(s[k]==63||s[k]==39)=true) :
  Calls Tryz.prog 99 #[.pointer (some ⟨R,0,none⟩)] w (TokPost w R Q s k s[k]):=by
 have HC:=Hd hc
 have HQ:=Hd hq
 clear hc hq
 go_enter Tryz.func99,Tryz.ntmps99
 go_wp2_with fail
 refine (at_b R Q k s _ (h.keep ((Below.refl _ w).alloc (Nat.le_refl _) _)) (by omega) hs).mono ?_;rintro e w1 ⟨rfl,hb1⟩
 have S1:=TS.start h hb1
 go_wp2_with fail
 refine (one_at R Q k s _ S1.r hk hs [lettersB] false (by rw[←HC.out];exact congrFun any_letters s[k]) _ rfl 1 1 rfl (by omega) _ (by simp)).mono ?_
 rintro e w3 ⟨rfl,hb3⟩
 have S3:=S1.below hb3
 clear S1 hb3
 generalize w1.heap.size=T4 at *
 generalize w.heap.size=T2 at S3 ⊢
 go_wp2_with fail
 refine (one_at R Q k s _ S3.r hk hs [⟨#[63,39]⟩] true (by rw[any_quotes];exact HQ.out) _ rfl 1 1 rfl (by omega) _ rfl).mono ?_
 rintro e w4 ⟨rfl,hb4⟩
 have S4:=S3.below hb4
 clear S3 hb4
 obtain⟨c0,c1,c2,f0,f1,f2⟩:=S4.c4
 have S4':=S4.kind 3
 go_wp2_with fail
 have hz:=Hd (show (w4.setCell ⟨T4,0,none⟩ (.int .u8 3)).heap.size=w4.heap.size by simp)
 generalize w4.setCell ⟨T4,0,none⟩ (.int .u8 3)=w5 at *
 clear c0 c1 c2 f0 f1 f2 S4
 cases h39:s[k]==39
 ·refine (one_at R Q k s _ S4'.r hk hs [⟨#[39]⟩] false (by rw[any_quote];exact h39) _ rfl 1 1 rfl (by omega) _ hz.out).mono ?_
  rintro e w6 ⟨rfl,hb6⟩
  have S6:=S4'.below hb6
  have H39:=Hd h39
  clear S4' hb6 h39
  obtain⟨c0,c1,c2,f0,f1,f2⟩:=S6.c4
  obtain⟨r0,r1,q0,q1,⟨p,q2⟩,_⟩:=S6.r.cells
  obtain⟨p',hQ2⟩:=S6.r.q
  have HQ2:=Hd hQ2
  clear hQ2
  go_wp2_with fail
  refine (readb_any Q k _ s _ HQ2.out hk hs).mono ?_;rintro e w7 ⟨rfl,hg7,hQ7⟩
  have S7:=S6.grown hg7 (S6.r.grown hg7 hQ7)
  clear S6 hg7 hQ7 c0 c1 c2 f0 f1 f2 r0 r1 q0 q1 q2
  go_wp2_with fail
  refine (take_at R Q (k+1) s _ S7.r (by omega) hs [moreB] isOn any_more _ rfl 1 1 rfl (by omega) _ rfl).mono ?_
  rintro e w8 ⟨rfl,hg8,hr8⟩
  have S8:=S7.grown hg8 hr8
  clear S7 hg8 hr8
  have hle1:=scanTo_le isOn s (k+1) (by omega)
  have htx:(s.extract (k+1) (scanTo isOn s (k+1))).size≤16384:=by rw[ext_size s _ _ hle1];omega
  have HTA:Hid (tokenAt s k s[k]=(3,s.extract (k+1) (scanTo isOn s (k+1)),if namedB (s.extract (k+1) (scanTo isOn s (k+1))).data.toList then 0 else 201,scanTo isOn s (k+1))):=by
   show tokenAt s k s[k]=_
   unfold tokenAt;rw[if_neg (by rw[HC.out];simp),if_pos HQ.out,if_neg (by rw[H39.out];simp)]
  generalize scanTo isOn s (k+1)=en at *
  generalize s.extract (k+1) en=tx at *
  obtain⟨c0,c1,c2,f0,f1,f2⟩:=S8.c4
  have S9:=S8.text tx
  obtain⟨d0,d1,d2,e0,e1,e2⟩:=S9.c4
  obtain⟨d0',d1',d2',e0',e1',e2'⟩:=S9.c2
  cases hn:namedB tx.data.toList
  ·have HF:Hid (tokenAt s k s[k]=(3,tx,201,en)):=by
    show tokenAt s k s[k]=_
    rw[HTA.out,hn];rfl
   have HN:=Hd hn
   clear HTA hn
   go_wp2_with (first
    | (go_at_call 129;refine (named_any tx _ htx).mono ?_;rintro e w9 ⟨rfl,rfl⟩;rw[HN.out]))
   exact S9.fin HF.out rfl rfl _ rfl rfl
  ·have HF:Hid (tokenAt s k s[k]=(3,tx,0,en)):=by
    show tokenAt s k s[k]=_
    rw[HTA.out,hn];rfl
   have HN:=Hd hn
   clear HTA hn
   go_wp2_with (first
    | (go_at_call 129;refine (named_any tx _ htx).mono ?_;rintro e w9 ⟨rfl,rfl⟩;rw[HN.out]))
   exact S9.fin HF.out rfl rfl _ rfl rfl
 ·refine (one_at R Q k s _ S4'.r hk hs [⟨#[39]⟩] true (by rw[any_quote];exact h39) _ rfl 1 1 rfl (by omega) _ hz.out).mono ?_
  rintro e w6 ⟨rfl,hb6⟩
  have S6':=S4'.below hb6
  have H39:=Hd h39
  clear S4' hb6 h39
  obtain⟨c0,c1,c2,f0,f1,f2⟩:=S6'.c4
  have S6:=S6'.kind 5
  obtain⟨r0,r1,q0,q1,⟨p,q2⟩,_⟩:=S6.r.cells
  obtain⟨p',hQ2⟩:=S6.r.q
  have HQ2:=Hd hQ2
  clear hQ2
  go_wp2_with fail
  generalize w6.setCell ⟨T4,0,none⟩ (.int .u8 5)=w6b at *
  refine (readb_any Q k _ s _ HQ2.out hk hs).mono ?_;rintro e w7 ⟨rfl,hg7,hQ7⟩
  have S7:=S6.grown hg7 (S6.r.grown hg7 hQ7)
  clear S6 S6' hg7 hQ7 c0 c1 c2 f0 f1 f2 r0 r1 q0 q1 q2
  go_wp2_with fail
  refine (take_at R Q (k+1) s _ S7.r (by omega) hs [moreB] isOn any_more _ rfl 1 1 rfl (by omega) _ rfl).mono ?_
  rintro e w8 ⟨rfl,hg8,hr8⟩
  have S8:=S7.grown hg8 hr8
  clear S7 hg8 hr8
  have hle1:=scanTo_le isOn s (k+1) (by omega)
  have htx:(s.extract (k+1) (scanTo isOn s (k+1))).size≤16384:=by rw[ext_size s _ _ hle1];omega
  have HTA:Hid (tokenAt s k s[k]=(5,s.extract (k+1) (scanTo isOn s (k+1)),if namedB (s.extract (k+1) (scanTo isOn s (k+1))).data.toList then 0 else 201,scanTo isOn s (k+1))):=by
   show tokenAt s k s[k]=_
   unfold tokenAt;rw[if_neg (by rw[HC.out];simp),if_pos HQ.out,if_pos H39.out]
  generalize scanTo isOn s (k+1)=en at *
  generalize s.extract (k+1) en=tx at *
  obtain⟨c0,c1,c2,f0,f1,f2⟩:=S8.c4
  have S9:=S8.text tx
  obtain⟨d0,d1,d2,e0,e1,e2⟩:=S9.c4
  obtain⟨d0',d1',d2',e0',e1',e2'⟩:=S9.c2
  cases hn:namedB tx.data.toList
  ·have HF:Hid (tokenAt s k s[k]=(5,tx,201,en)):=by
    show tokenAt s k s[k]=_
    rw[HTA.out,hn];rfl
   have HN:=Hd hn
   clear HTA hn
   go_wp2_with (first
    | (go_at_call 129;refine (named_any tx _ htx).mono ?_;rintro e w9 ⟨rfl,rfl⟩;rw[HN.out]))
   exact S9.fin HF.out rfl rfl _ rfl rfl
  ·have HF:Hid (tokenAt s k s[k]=(5,tx,0,en)):=by
    show tokenAt s k s[k]=_
    rw[HTA.out,hn];rfl
   have HN:=Hd hn
   clear HTA hn
   go_wp2_with (first
    | (go_at_call 129;refine (named_any tx _ htx).mono ?_;rintro e w9 ⟨rfl,rfl⟩;rw[HN.out]))
   exact S9.fin HF.out rfl rfl _ rfl rfl
theorem one_opt (R Q k:Nat)(s:ByteArray)(w:World)(h:Rdr w R Q s k)(hk:k≤s.size)(hs:s.size≤16384)(sets:List ByteArray)(p:UInt8→Bool)(hp:(fun c=>sets.any (hasB · c))=p)(x:Bool)(hx:(s.data.toList.drop k).head?.any p=x)(arr:Array Value)(harr:arr=(sets.map Value.string).toArray)(n cap:Nat)(hn:sets.length=n)(hn2:n≤100)
  (B:Nat) (hB:w.heap.size=B) :
  Calls Tryz.prog 123 #[.pointer (some ⟨R,0,none⟩),.slice (some ⟨B,0,none⟩) n cap] (w.alloc (.cells arr 9)) fun e w'=>e=.returned (.bool x)∧Below w.heap.size w w':=by
 subst hB
 by_cases hlt:k<s.size
 ·refine one_at R Q k s w h hlt hs sets x ?_ arr harr n cap hn hn2 _ rfl
  rw[←hx,drop_cons s k hlt,List.head?_cons,Option.any_some,←hp]
 ·rw[drop_end s k (by omega)] at hx
  have:x=false:=by rw[←hx];rfl
  subst this
  exact one_lit_no R Q k s w h (by omega) hs arr _
theorem token_num (R Q k:Nat)(s:ByteArray)(w:World)(h:Rdr w R Q s k)(hk:k<s.size)(hs:s.size≤16384)
  (hc:isLow s[k]=false) (hq:(s[k]==63||s[k]==39)=false) (hd:isDig s[k]=true) :
  Calls Tryz.prog 99 #[.pointer (some ⟨R,0,none⟩)] w (TokPost w R Q s k s[k]):=by
 have HC:=Hd hc
 have HQ:=Hd hq
 have HD:=Hd hd
 clear hc hq hd
 go_enter Tryz.func99,Tryz.ntmps99
 go_wp2_with fail
 refine (at_b R Q k s _ (h.keep ((Below.refl _ w).alloc (Nat.le_refl _) _)) (by omega) hs).mono ?_;rintro e w1 ⟨rfl,hb1⟩
 have S1:=TS.start h hb1
 go_wp2_with fail
 refine (one_at R Q k s _ S1.r hk hs [lettersB] false (by rw[←HC.out];exact congrFun any_letters s[k]) _ rfl 1 1 rfl (by omega) _ (by simp)).mono ?_
 rintro e w3 ⟨rfl,hb3⟩
 have S3:=S1.below hb3
 clear S1 hb3
 generalize w1.heap.size=T4 at *
 generalize w.heap.size=T2 at S3 ⊢
 go_wp2_with fail
 refine (one_at R Q k s _ S3.r hk hs [⟨#[63,39]⟩] false (by rw[any_quotes];exact HQ.out) _ rfl 1 1 rfl (by omega) _ rfl).mono ?_
 rintro e w4 ⟨rfl,hb4⟩
 have S4:=S3.below hb4
 clear S3 hb4
 go_wp2_with fail
 refine (one_at R Q k s _ S4.r hk hs [digitsB] true (by rw[←HD.out];exact congrFun any_digits s[k]) _ rfl 1 1 rfl (by omega) _ rfl).mono ?_
 rintro e w5 ⟨rfl,hb5⟩
 have S5:=S4.below hb5
 clear S4 hb5
 go_wp2_with fail
 refine (take_at R Q k s _ S5.r (by omega) hs [digitsB] isDig any_digits _ rfl 1 1 rfl (by omega) _ rfl).mono ?_
 rintro e w8 ⟨rfl,hg8,hr8⟩
 have S8:=S5.grown hg8 hr8
 clear S5 hg8 hr8
 have hle1:=scanTo_le isDig s k (by omega)
 have htx:(s.extract k (scanTo isDig s k)).size≤16384:=by rw[ext_size s _ _ hle1];omega
 have HTA:Hid (tokenAt s k s[k]=(4,s.extract k (scanTo isDig s k),if (number (s.extract k (scanTo isDig s k)).data.toList).isSome&&!((s.data.toList.drop (scanTo isDig s k)).head?.any isOn) then 0 else 201,scanTo isDig s k)):=by
  show tokenAt s k s[k]=_
  unfold tokenAt;rw[if_neg (by rw[HC.out];simp),if_neg (by rw[HQ.out];simp),if_pos HD.out]
 generalize scanTo isDig s k=en at *
 generalize s.extract k en=tx at *
 obtain⟨c0,c1,c2,f0,f1,f2⟩:=S8.c4
 have S9a:=S8.kind 4
 have S9:=S9a.text tx
 obtain⟨c0',c1',c2',f0',f1',f2'⟩:=S9a.c4
 obtain⟨d0,d1,d2,e0,e1,e2⟩:=S9.c4
 have hz:=Hd (show ((w8.setCell ⟨T4,0,none⟩ (.int .u8 4)).setCell ⟨T4,1,none⟩ (.string tx)).heap.size=w8.heap.size by simp)
 go_wp2_with fail
 generalize (w8.setCell ⟨T4,0,none⟩ (.int .u8 4)).setCell ⟨T4,1,none⟩ (.string tx)=w9 at *
 clear c0 c1 c2 f0 f1 f2 c0' c1' c2' f0' f1' f2' S8 S9a
 refine (number_any tx _ htx).mono ?_
 rintro e wa ⟨rfl,hba⟩
 have Sa:=S9.below hba
 clear S9 hba d0 d1 d2 e0 e1 e2
 obtain⟨d0,d1,d2,e0,e1,e2⟩:=Sa.c4
 obtain⟨d0',d1',d2',e0',e1',e2'⟩:=Sa.c2
 generalize hnum:number tx.data.toList=nu at *
 cases nu with
 | none =>
  have HF:Hid (tokenAt s k s[k]=(4,tx,201,en)):=by
   show tokenAt s k s[k]=_
   rw[HTA.out];rfl
  clear HTA
  go_wp2_with fail
  exact Sa.fin HF.out rfl rfl _ rfl rfl
 | some v =>
  generalize hon:(s.data.toList.drop en).head?.any isOn=on at *
  have HON:=Hd hon
  have hv:(Option.getD (some v) 0)=v:=rfl
  clear hon
  go_wp2_with fail
  refine (one_opt R Q en s _ Sa.r hle1 hs [moreB] isOn any_more on HON.out _ rfl 1 1 rfl (by omega) _ rfl).mono ?_
  rintro e wb ⟨rfl,hbb⟩
  have Sb:=Sa.below hbb
  clear Sa hbb d0 d1 d2 e0 e1 e2 d0' d1' d2' e0' e1' e2'
  obtain⟨d0,d1,d2,e0,e1,e2⟩:=Sb.c4
  obtain⟨d0',d1',d2',e0',e1',e2'⟩:=Sb.c2
  cases on
  ·have HF:Hid (tokenAt s k s[k]=(4,tx,0,en)):=by
    show tokenAt s k s[k]=_
    rw[HTA.out];rfl
   clear HTA
   go_wp2_with fail
   exact Sb.fin HF.out rfl rfl _ rfl rfl
  ·have HF:Hid (tokenAt s k s[k]=(4,tx,201,en)):=by
    show tokenAt s k s[k]=_
    rw[HTA.out];rfl
   clear HTA
   go_wp2_with fail
   exact Sb.fin HF.out rfl rfl _ rfl rfl
def signAt (s:ByteArray) (k:Nat) (g:ByteArray):Bool:=Lib.hasPrefix (s.data.toList.drop k) g.data.toList
theorem find_step (p:ByteArray→Bool)(l:List ByteArray)(i:Nat)(g:ByteArray)(hg:l[i]? = some g):(l.drop i).find? p=if p g then some g else (l.drop (i+1)).find? p:=by
 obtain⟨hi,rfl⟩:=List.getElem?_eq_some_iff.1 hg
 rw[List.drop_eq_getElem_cons hi,List.find?_cons]
 cases p l[i]<;>rfl
theorem signAt_le (s:ByteArray)(k:Nat)(g:ByteArray)(hk:k≤s.size)(h:signAt s k g=true):k+g.size≤s.size:=by
 have h1:g.data.toList.isPrefixOf (s.data.toList.drop k)=true:=h
 have h2:=(List.isPrefixOf_iff_prefix.1 h1).length_le
 simp at h2
 have h3:g.data.size=g.size:=rfl
 have h4:s.data.size=s.size:=rfl
 omega
theorem token_sign (R Q k:Nat)(s:ByteArray)(w:World)(h:Rdr w R Q s k)(hk:k<s.size)(hs:s.size≤16384)(ht:AsciiTab w)(hQA:Q≠0)
  (hc:isLow s[k]=false) (hq:(s[k]==63||s[k]==39)=false) (hd:isDig s[k]=false) :
  Calls Tryz.prog 99 #[.pointer (some ⟨R,0,none⟩)] w (TokPost w R Q s k s[k]):=by
 have HC:=Hd hc
 have HQ:=Hd hq
 have HD:=Hd hd
 have HTA:Hid (tokenAt s k s[k]=match signsL.find? (signAt s k) with|some g=>(6,g,0,k+g.size)|none=>(0,⟨#[]⟩,200,k)):=by
  show tokenAt s k s[k]=_
  unfold tokenAt;rw[if_neg (by rw[hc];simp),if_neg (by rw[hq];simp),if_neg (by rw[hd];simp)];rfl
 clear hc hq hd
 go_enter Tryz.func99,Tryz.ntmps99
 go_wp2_with fail
 refine (at_b R Q k s _ (h.keep ((Below.refl _ w).alloc (Nat.le_refl _) _)) (by omega) hs).mono ?_;rintro e w1 ⟨rfl,hb1⟩
 have S1:=TS.start h hb1
 go_wp2_with fail
 refine (one_at R Q k s _ S1.r hk hs [lettersB] false (by rw[←HC.out];exact congrFun any_letters s[k]) _ rfl 1 1 rfl (by omega) _ (by simp)).mono ?_
 rintro e w3 ⟨rfl,hb3⟩
 have S3:=S1.below hb3
 clear S1 hb3
 generalize w1.heap.size=T4 at *
 generalize w.heap.size=T2 at S3 ⊢
 go_wp2_with fail
 refine (one_at R Q k s _ S3.r hk hs [⟨#[63,39]⟩] false (by rw[any_quotes];exact HQ.out) _ rfl 1 1 rfl (by omega) _ rfl).mono ?_
 rintro e w4 ⟨rfl,hb4⟩
 have S4:=S3.below hb4
 clear S3 hb4
 go_wp2_with fail
 refine (one_at R Q k s _ S4.r hk hs [digitsB] false (by rw[←HD.out];exact congrFun any_digits s[k]) _ rfl 1 1 rfl (by omega) _ rfl).mono ?_
 rintro e w5 ⟨rfl,hb5⟩
 have S5:=S4.below hb5
 clear S4 hb5
 go_wp2_with fail
 refine (fields_signs _ (S5.tab ht hQA)).mono ?_
 rintro e w6 ⟨rfl,rfl⟩
 have hB:=Hd (heap_alloc_new w5 (.cells (signsL.map Value.string).toArray 9))
 have S6:=S5.below ((Below.refl _ w5).alloc (Nat.le_refl _) (.cells (signsL.map Value.string).toArray 9))
 generalize w5.alloc (.cells (signsL.map Value.string).toArray 9)=w6 at *
 have hBQ:some w5.heap.size≠some Q:=by
  obtain⟨p,hq⟩:=S6.r.q
  intro e;injection e with e
  exact ne_of_type hB.out hq (by decide) e
 generalize w5.heap.size=B at *
 clear S5
 go_wp2_with fail
 go_loopw [14,8] (fun i _ wr=>∃m:Nat,m≤17∧i=.int .i64 m∧TS w R Q s k T2 T4 k 0 ⟨#[]⟩ wr∧wr.heap[B]? = some (.cells (signsL.map Value.string).toArray 9 (0,0))∧(signsL.drop m).find? (signAt s k)=signsL.find? (signAt s k)) (fun i _ _=>17-(intOf i).toNat)
 case atStart=>exact⟨0,by omega,rfl,S6,hB.out,rfl⟩
 case round =>
  obtain⟨m,hm,rfl,SL,hBr,hfind⟩:=hrel
  have HFI:=Hd hfind
  have HBr:=Hd hBr
  clear hfind hBr S6 hB
  by_cases hlt:m<17
  ·obtain⟨g,hg⟩:∃g,signsL[m]? = some g:=⟨signsL[m]'hlt,List.getElem?_eq_getElem hlt⟩
   have hck:wr.cell? ⟨B,m,none⟩=some (.string g):=by
    rw[cell_of_row _ _ _ _ _ _ HBr.out];simp[hg]
   have HGM:=Hd hg
   clear hg
   go_wp2_with fail
   refine (rest_lit R Q k s _ SL.r (by omega) hs).mono ?_
   rintro e w7 ⟨⟨t,rfl,htl,hts⟩,hb7⟩
   have S7:=SL.below hb7
   have HB7:=Hd (heap_below hb7 HBr.out (Array.getElem?_eq_some_iff.1 HBr.out).1)
   have HTL:=Hd htl
   clear htl hts SL hck
   have HST:=Hd (find_step (signAt s k) signsL m g HGM.out)
   have HP:=Hd (fun (W:World) (x:Bool) (hx:signAt s k g=x)=>(Tryz.strings_HasPrefix t g W).mono (R':=fun e w'=>e=.returned (.bool x)∧W=w') (fun e w' hh=>⟨by rw[hh.1,HTL.out];exact congrArg (fun b=>Ending.returned (.bool b)) hx,hh.2.symm⟩))
   cases hsg:signAt s k g
   ·have HSG:=Hd hsg
    clear hsg hb7
    go_wp2_with (first
     | (go_at_call 82;refine (HP.out _ _ HSG.out).mono ?_;rintro e w8 ⟨rfl,rfl⟩))
    refine⟨⟨m+1,by omega,by go_num,S7,HB7.out,?_⟩,by simp[intOf];omega⟩
    rw[←HFI.out,HST.out,HSG.out];rfl
   ·have hle:=signAt_le s k g (by omega) hsg
    have HF:Hid (tokenAt s k s[k]=(6,g,0,k+g.size)):=by
     show tokenAt s k s[k]=_
     rw[HTA.out,←HFI.out,HST.out,hsg];rfl
    have HSG:=Hd hsg
    clear hsg HTA
    go_wp2_with (first
     | (go_at_call 82;refine (HP.out _ _ HSG.out).mono ?_;rintro e w8 ⟨rfl,rfl⟩))
    go_loopw [24] (fun i wi=>∃q:Nat,q≤g.size∧i=.int .i64 q∧TS w R Q s k T2 T4 (k+q) 0 ⟨#[]⟩ wi) (fun i _=>g.size-(intOf i).toNat)
    case atStart=>exact⟨0,Nat.zero_le _,rfl,S7⟩
    case round =>
     obtain⟨q,hqg,rfl,SI⟩:=hrel
     by_cases hlq:q<g.size
     ·obtain⟨r0,r1,q0,q1,⟨p,q2⟩,_⟩:=SI.r.cells
      obtain⟨p',hQ2⟩:=SI.r.q
      have HQ2:=Hd hQ2
      clear hQ2
      go_wp2_with fail
      refine (readb_any Q (k+q) _ s _ HQ2.out (by omega) hs).mono ?_;rintro e w9 ⟨rfl,hg9,hQ9⟩
      have S9:=SI.grown hg9 (SI.r.grown hg9 hQ9)
      clear SI hg9 hQ9 r0 r1 q0 q1 q2
      go_wp2_with fail
      exact⟨⟨q+1,by omega,by go_num,S9⟩,by simp[intOf];omega⟩
     ·obtain rfl:q=g.size:=by omega
      obtain⟨c0,c1,c2,f0,f1,f2⟩:=SI.c4
      have Sa:=SI.kind 6
      obtain⟨c0',c1',c2',f0',f1',f2'⟩:=Sa.c4
      have Sb:=Sa.text g
      obtain⟨d0,d1,d2,e0,e1,e2⟩:=Sb.c4
      obtain⟨d0',d1',d2',e0',e1',e2'⟩:=Sb.c2
      go_wp2_with fail
      exact Sb.fin HF.out rfl rfl _ rfl rfl
  ·obtain rfl:m=17:=by omega
   have HF:Hid (tokenAt s k s[k]=(0,⟨#[]⟩,200,k)):=by
    show tokenAt s k s[k]=_
    rw[HTA.out,←HFI.out];rfl
   clear HTA
   obtain⟨d0,d1,d2,e0,e1,e2⟩:=SL.c4
   obtain⟨d0',d1',d2',e0',e1',e2'⟩:=SL.c2
   go_wp2_with fail
   exact SL.fin HF.out rfl rfl _ rfl rfl
theorem token_any (R Q k:Nat)(s:ByteArray)(w:World)(h:Rdr w R Q s k)(hk:k<s.size)(hs:s.size≤16384)(ht:AsciiTab w)(hQA:Q≠0) :
  Calls Tryz.prog 99 #[.pointer (some ⟨R,0,none⟩)] w (TokPost w R Q s k s[k]):=by
 cases hc:isLow s[k]
 ·cases hq:s[k]==63||s[k]==39
  ·cases hd:isDig s[k]
   ·exact token_sign R Q k s w h hk hs ht hQA hc hq hd
   ·exact token_num R Q k s w h hk hs hc hq hd
  ·exact token_mark R Q k s w h hk hs hc hq
 ·exact token_name R Q k s w h hk hs ht hQA hc
attribute [local go_sem] Oper.semAt_some
abbrev Tok:=Nat×ByteArray×Nat
def toks:Nat→ByteArray→Nat→List Tok×Option (Nat×Nat)
 | 0,_,_=>([],none)
 | f+1,s,k =>
  if h:skip s k<s.size then
   if (tokenAt s (skip s k) s[skip s k]).2.2.1=0 then
    (((tokenAt s (skip s k) s[skip s k]).1,(tokenAt s (skip s k) s[skip s k]).2.1,skip s k)::(toks f s (tokenAt s (skip s k) s[skip s k]).2.2.2).1,(toks f s (tokenAt s (skip s k) s[skip s k]).2.2.2).2)
   else ([],some ((tokenAt s (skip s k) s[skip s k]).2.2.1,skip s k))
  else ([],none)
theorem signs_pos (g:ByteArray)(h:g∈signsL):0<g.size:=by
 have:signsL.all (fun g=>decide (0<g.size))=true:=by kernel_rfl
 simpa using List.all_eq_true.1 this g h
theorem tokenAt_next (s:ByteArray)(k:Nat)(hk:k<s.size)(h0:(tokenAt s k s[k]).2.2.1=0):k<(tokenAt s k s[k]).2.2.2∧(tokenAt s k s[k]).2.2.2≤s.size:=by
 unfold tokenAt at h0 ⊢
 by_cases hc:isLow s[k]=true
 ·rw[if_pos hc]
  have hon:isOn s[k]=true:=by unfold isOn;rw[hc];rfl
  have:=scanTo_ge isOn s (k+1)
  rw[scanTo_yes isOn s k hk hon] at this
  exact⟨this,scanTo_le _ _ _ (by omega)⟩
 ·rw[if_neg hc] at h0 ⊢
  by_cases hq:(s[k]==63||s[k]==39)=true
  ·rw[if_pos hq]
   have:=scanTo_ge isOn s (k+1)
   exact⟨this,scanTo_le _ _ _ (by omega)⟩
  ·rw[if_neg hq] at h0 ⊢
   by_cases hd:isDig s[k]=true
   ·rw[if_pos hd]
    have:=scanTo_ge isDig s (k+1)
    rw[scanTo_yes isDig s k hk hd] at this
    exact⟨this,scanTo_le _ _ _ (by omega)⟩
   ·rw[if_neg hd] at h0 ⊢
    cases hf:signsL.find? (fun g=>Lib.hasPrefix (s.data.toList.drop k) g.data.toList) with
    | none=>rw[hf] at h0;simp at h0
    | some g =>
     have h1:=signs_pos g (List.mem_of_find?_eq_some hf)
     have h2:=signAt_le s k g (by omega) (List.find?_some hf)
     exact⟨by show k<k+g.size;omega,h2⟩
theorem toks_more (s:ByteArray):∀(n f g k:Nat),s.size-k<n→s.size-k<f→s.size-k<g→toks f s k=toks g s k:=by
 intro n
 induction n with
 | zero=>intro f g k h;omega
 | succ n ih =>
  intro f g k hn hf hg
  obtain⟨f,rfl⟩:∃f',f=f'+1:=⟨f-1,by omega⟩
  obtain⟨g,rfl⟩:∃g',g=g'+1:=⟨g-1,by omega⟩
  unfold toks
  by_cases hk:skip s k<s.size
  ·rw[dif_pos hk,dif_pos hk]
   by_cases h0:(tokenAt s (skip s k) s[skip s k]).2.2.1=0
   ·rw[if_pos h0,if_pos h0]
    have h1:=tokenAt_next s (skip s k) hk h0
    have h2:=skip_ge s _ k (Nat.le_refl _)
    rw[ih f g _ (by omega) (by omega) (by omega)]
   ·rw[if_neg h0,if_neg h0]
  ·rw[dif_neg hk,dif_neg hk]
theorem toks_len (s:ByteArray):∀(f k:Nat),k≤s.size→(toks f s k).1.length+k≤s.size:=by
 intro f
 induction f with
 | zero=>intro k hk;simpa [toks] using hk
 | succ f ih =>
  intro k hk
  unfold toks
  by_cases h:skip s k<s.size
  ·rw[dif_pos h]
   by_cases h0:(tokenAt s (skip s k) s[skip s k]).2.2.1=0
   ·rw[if_pos h0]
    have h1:=tokenAt_next s (skip s k) h h0
    have h2:=skip_ge s _ k (Nat.le_refl _)
    have h3:=ih _ h1.2
    simp only[List.length_cons]
    omega
   ·rw[if_neg h0];simpa using hk
  ·rw[dif_neg h];simpa using hk
def toksFrom (s:ByteArray) (k:Nat):List Tok×Option (Nat×Nat):=toks (s.size+1) s k
theorem toksFrom_end (s:ByteArray)(k:Nat)(h:¬skip s k<s.size):toksFrom s k=([],none):=by
 unfold toksFrom toks;rw[dif_neg h]
theorem toksFrom_bad (s:ByteArray)(k:Nat)(h:skip s k<s.size)(h0:(tokenAt s (skip s k) s[skip s k]).2.2.1≠0):toksFrom s k=([],some ((tokenAt s (skip s k) s[skip s k]).2.2.1,skip s k)):=by
 unfold toksFrom toks;rw[dif_pos h,if_neg h0]
theorem toksFrom_ok (s:ByteArray)(k:Nat)(h:skip s k<s.size)(h0:(tokenAt s (skip s k) s[skip s k]).2.2.1=0) :
  toksFrom s k=(((tokenAt s (skip s k) s[skip s k]).1,(tokenAt s (skip s k) s[skip s k]).2.1,skip s k)::(toksFrom s (tokenAt s (skip s k) s[skip s k]).2.2.2).1,(toksFrom s (tokenAt s (skip s k) s[skip s k]).2.2.2).2):=by
 have h1:=tokenAt_next s (skip s k) h h0
 conv=>lhs;unfold toksFrom toks
 rw[dif_pos h,if_pos h0]
 unfold toksFrom
 rw[toks_more s (s.size+1) s.size (s.size+1) _ (by omega) (by omega) (by omega)]
theorem skip_skip (s:ByteArray)(k:Nat):skip s (skip s k)=skip s k:=by
 by_cases h:skip s k<s.size
 ·obtain⟨h1,h2⟩:=skip_at s _ k (Nat.le_refl _) h
  exact skip_stop s _ h h1 h2
 ·exact skip_end s _ (by omega)
theorem toksFrom_skip (s:ByteArray)(k:Nat):toksFrom s (skip s k)=toksFrom s k:=by
 have e:=skip_skip s k
 by_cases h:skip s k<s.size
 ·by_cases h0:(tokenAt s (skip s k) s[skip s k]).2.2.1=0
  ·rw[toksFrom_ok s k h h0,toksFrom_ok s (skip s k) (by rw[e];exact h) (by simp only[e];exact h0)]
   simp only[e]
  ·rw[toksFrom_bad s k h h0,toksFrom_bad s (skip s k) (by rw[e];exact h) (by simp only[e];exact h0)]
   simp only[e]
 ·rw[toksFrom_end s k h,toksFrom_end s (skip s k) (by rw[e];exact h)]
open Go.Shelf
attribute [local go_sem] Oper.semAt_some
def AllPost (s:ByteArray) (J:List Tok→World→Prop) (Jx:Nat→Nat→World→Prop) (e:Ending) (W:World):Prop:=
 (∃v,e=.returned v)∧(((toksFrom s 0).2=none∧J (toksFrom s 0).1 W)∨∃er pl,(toksFrom s 0).2=some (er,pl)∧Jx er pl W)
def YieldPost (R Q:Nat) (s:ByteArray) (k:Nat) (t:Nat×ByteArray×Nat×Nat) (pre:List Tok) (J:List Tok→World→Prop) (Jx:Nat→Nat→World→Prop) (W:World) (e:Ending) (W':World):Prop:=
 (t.2.2.1=0∧e=.returned (.bool true)∧J (pre++[(t.1,t.2.1,k)]) W'∧∀j,Rdr W R Q s j→Rdr W' R Q s j)∨(t.2.2.1≠0∧e=.returned (.bool false)∧Jx t.2.2.1 k W')
theorem all1_in (n l Bx R Q:Nat)(s:ByteArray)(hs:s.size≤16384)(hQ:Q≠0)(J:List Tok→World→Prop)(Jx:Nat→Nat→World→Prop)
  (hJ:∀pre W W',J pre W→W.grownBy W' (some Q)→J pre W')
  (hJR:∀pre W,J pre W→AsciiTab W∧W.cell? ⟨Bx,0,none⟩=some (.pointer (some ⟨R,0,none⟩)))
  (hY:∀pre k W,(hk:k<s.size)→pre.length≤s.size→J pre W→YieldAt Fence.wide (n-1) Tryz.prog l #[.agg #[.int .u8 (tokenAt s k s[k]).1,.string (tokenAt s k s[k]).2.1,.int .i64 k],.int .i64 (tokenAt s k s[k]).2.2.1] W (YieldPost R Q s k (tokenAt s k s[k]) pre J Jx W))
  (W:World) (hr:Rdr W R Q s 0) (h0:J [] W) :
  CallsIn Fence.wide n Tryz.prog 96 #[.func (.yield l) #[] #[],.pointer (some ⟨Bx,0,none⟩)] W (AllPost s J Jx):=by
 have HJ:=Hd hJ
 have HJR:=Hd hJR
 have HY:=Hd hY
 clear hJ hJR hY
 refine callsIn_of_wp Tryz.func96 rfl trivial ?_ rfl
 simp only[Tryz.ntmps96,List.size_toArray,List.length_cons,List.length_nil,Nat.reduceAdd,Nat.reduceSub,Array.replicate_succ,Array.replicate_zero,List.push_toArray,List.append_toArray,List.nil_append,List.cons_append]
 obtain⟨ht,hbx⟩:=HJR.out _ _ h0
 gi_wp2_with fail
 refine⟨trivial,(fun h=>by cases h),callsIn_wide.2 ((blank_any R Q 0 s W hr (Nat.zero_le _) hs).mono ?_)⟩
 rintro e w1 ⟨rfl,hg1,hr1⟩
 have hj1:=HJ.out _ _ _ h0 hg1
 clear ht hbx
 gi_wp2_with fail
 gi_loopw [5,20] (fun _ _ wr=>∃pre k,k≤s.size∧skip s k=k∧Rdr wr R Q s k∧J pre wr∧pre++(toksFrom s k).1=(toksFrom s 0).1∧(toksFrom s k).2=(toksFrom s 0).2) (fun _ _ wr=>s.size-posOf wr Q)
 case atStart=>exact⟨[],skip s 0,skip_le _ _ _ (Nat.le_refl _) (Nat.zero_le _),skip_skip _ _,hr1,hj1,by rw[toksFrom_skip];rfl,by rw[toksFrom_skip]⟩
 case round =>
  obtain⟨pre,k,hk,hsk,hrk,hjk,hp1,hp2⟩:=hrel
  have HSK:=Hd hsk
  have HP1:=Hd hp1
  have HP2:=Hd hp2
  clear hsk hp1 hp2 h0 hr hr1 hj1 hg1
  obtain⟨ht,hbx⟩:=HJR.out _ _ hjk
  obtain⟨r0,r1,q0,q1,⟨p,q2⟩,f1,f2,hRl,hQl⟩:=hrk.cells
  gi_wp2_with fail
  refine⟨trivial,(fun h=>by cases h),callsIn_wide.2 ((rlen_any Q k s wr q0 q1 hk hs).mono ?_)⟩
  rintro e w2 ⟨rfl,nd,rfl⟩
  have hb2:Below wr.heap.size wr (wr.drewN nd):=below_drewN (Below.refl _ _) nd
  have hr2:=hrk.keep hb2
  have hj2:=HJ.out _ _ _ hjk (grown_of_below hb2 _)
  generalize wr.drewN nd=w2 at *
  clear ht hbx r0 r1 q0 q1 q2 f1 f2 hRl hQl
  obtain⟨ht,hbx⟩:=HJR.out _ _ hj2
  by_cases hlt:k<s.size
  ·gi_wp2_with fail
   refine⟨trivial,(fun h=>by cases h),callsIn_wide.2 ((token_any R Q k s w2 hr2 hlt hs ht hQ).mono ?_)⟩
   rintro e w3 ⟨rfl,hg3,hr3⟩
   have hj3:=HJ.out _ _ _ hj2 hg3
   clear ht hbx
   obtain⟨ht,hbx⟩:=HJR.out _ _ hj3
   have hpl:pre.length≤s.size:=by
    have h1:=toks_len s (s.size+1) 0 (Nat.zero_le _)
    have h2:=congrArg List.length HP1.out
    simp only[List.length_append] at h2
    have h3:(toksFrom s 0).1.length+0≤s.size:=h1
    omega
   have hY:=HY.out pre k w3 hlt hpl hj3
   clear hpl
   generalize hT:tokenAt s k s[k]=t at *
   obtain⟨kd,tx,er,en⟩:=t
   dsimp only at hY hr3 ⊢
   have HT:=Hd hT
   clear hT
   obtain⟨fn,tmps,assign,body,hy,hR⟩:=hY
   have hss:skip s k<s.size:=by rw[HSK.out];exact hlt
   have hE:tokenAt s (skip s k) s[skip s k]=(kd,tx,er,en):=by simp only[HSK.out];exact HT.out
   have HE:=Hd hE
   clear hE
   gi_wp2_with fail
   refine⟨(fun h=>by cases h),hR.mono ?_⟩
   rintro e w4 (⟨her,rfl,hj4,hkeep⟩|⟨her,rfl,hjx⟩)
   ·have hr4:=hkeep _ hr3
    have HER:=Hd her
    clear her hy ht hbx hkeep
    obtain⟨ht,hbx⟩:=HJR.out _ _ hj4
    have hnx:=tokenAt_next s k hlt (by rw[HT.out];exact HER.out)
    rw[HT.out] at hnx
    obtain⟨hn1,hn2⟩:k<en∧en≤s.size:=hnx
    gi_wp2_with fail
    refine⟨trivial,(fun h=>by cases h),callsIn_wide.2 ((blank_any R Q en s w4 hr4 hn2 hs).mono ?_)⟩
    rintro e w5 ⟨rfl,hg5,hr5⟩
    have hj5:=HJ.out _ _ _ hj4 hg5
    have hle:=skip_le s _ en (Nat.le_refl _) hn2
    have hge:=skip_ge s _ en (Nat.le_refl _)
    clear ht hbx
    have hok:=toksFrom_ok s k hss (by rw[HE.out];exact HER.out)
    rw[HE.out] at hok
    have HOK:=Hd hok
    clear hok
    gi_wp2_with fail
    refine⟨⟨pre++[(kd,tx,k)],skip s en,hle,skip_skip _ _,hr5,hj5,?_,?_⟩,?_⟩
    ·rw[toksFrom_skip,←HP1.out,HOK.out]
     simp[HSK.out]
    ·rw[toksFrom_skip,←HP2.out,HOK.out]
    ·rw[hr5.pos,hrk.pos];omega
   ·have hbad:=toksFrom_bad s k hss (by rw[HE.out];exact her)
    rw[HE.out] at hbad
    have HB:=Hd hbad
    have HER:=Hd her
    clear hbad her hy
    gi_wp2_with fail
    refine bodyPost_ret (results_none rfl _ _ _) rfl ?_
    refine⟨⟨_,rfl⟩,.inr ⟨er,k,?_,hjx⟩⟩
    rw[←HP2.out,HB.out]
    simp only[HSK.out]
  ·have hend:=toksFrom_end s k (by rw[HSK.out];exact hlt)
   have HEND:=Hd hend
   clear hend
   gi_wp2_with fail
   go_end0
   refine⟨⟨_,rfl⟩,.inl ⟨?_,?_⟩⟩
   ·rw[←HP2.out,HEND.out]
   ·rw[←HP1.out,HEND.out]
    simpa using hj2
end Go.Proofs.YtglbjooofdnbkaaGreatDoor
