/- The rule checker: a condition that asks for a fact, or for none; by contract. Condition: as an expression's. Printed by tools/genCond.py. -/
import Derived.Test.YtglbjooofdnbkaaGreatDoorNH
import Derived.Test.YtglbjooofdnbkaaGreatDoorNB
namespace Go.Proofs.YtglbjooofdnbkaaGreatDoor
set_option maxHeartbeats 8000000
set_option maxRecDepth 100000
open Go.RowKit
def condFact (binds:Bool) (kd:Int) (tr:Except Flt Nat) (vars:List ByteArray) (Ts:List Tree):Except Flt (List ByteArray×CCond):=match tr with
 | .error e=>.error e
 | .ok k=>match foldE (argStep binds) (vars,[]) Ts with
  | .error e=>.error e
  | .ok r=>.ok (r.1,⟨kd,k,r.2,.zero⟩)
theorem elemArg:Elem 63 50 5 48:=Elem.of (z:=.agg #[.int .u8 0,.int .i64 0,.int .u8 0,.int .i64 0,.string ByteArray.empty]) Tryz.underlying50 (by kernel_rfl) (by kernel_rfl) (by decide) (by decide)
theorem ekids_nil {w:World}{F:Nat→Prop}{d:Nat}:ekidsAt w F d [] (.slice none 0 0):=by
 cases d with
 | zero=>exact⟨rfl,none,0,rfl⟩
 | succ d=>exact Rd.row_nil
def okArg:Except Flt (List ByteArray×CArg)→CArg
 | .ok x=>x.2
 | .error _=>⟨0,0,.zero⟩
theorem idxB_lt16 (x:ByteArray)(l:List ByteArray)(k:Nat)(h:idxOf x l=some k):k<l.length:=by
 have:=(idxB_ltD x l 0 k h).2
 omega
theorem argOne_fits {b:Bool}{vars:List ByteArray}{T:Tree}{x:List ByteArray×CArg}(ht:T.text.size≤72007)(hv:vars.length≤16)(h:argOne b vars T=.ok x):ArgFits x.2∧x.1.length≤16:=by
 have z:ValFits CVal.zero:=⟨⟨by decide,by decide⟩,⟨by decide,by decide⟩,by decide⟩
 unfold argOne at h
 split at h
 ·injection h with h;subst h;exact⟨⟨show U8 1 from ⟨by decide,by decide⟩,show I64 0 from ⟨by decide,by decide⟩,z⟩,hv⟩
 ·split at h
  ·cases hi:idxOf T.text vars with
   | some k =>
    rw[hi] at h
    injection h with h;subst h
    have:=idxB_lt16 _ _ _ hi
    exact⟨⟨show U8 3 from ⟨by decide,by decide⟩,⟨by show (-9223372036854775808:Int)≤(k:Int);omega,by show (k:Int)<9223372036854775808;omega⟩,z⟩,hv⟩
   | none =>
    rw[hi] at h
    dsimp only at h
    split at h
    ·cases h
    ·split at h
     ·cases h
     ·injection h with h;subst h
      refine⟨⟨show U8 2 from ⟨by decide,by decide⟩,⟨by show (-9223372036854775808:Int)≤(vars.length:Int);omega,by show (vars.length:Int)<9223372036854775808;omega⟩,z⟩,?_⟩
      show (vars++[T.text]).length≤16
      rw[List.length_append];simp;omega
  ·injection h with h;subst h;exact⟨⟨show U8 4 from ⟨by decide,by decide⟩,show I64 0 from ⟨by decide,by decide⟩,const_fits T ht⟩,hv⟩
theorem own8_vars {M:Nat}{vT vR vV' vC vA:Value}{b:Nat}(vV:Value)(h:Own8 M [vT,vR,vV',vC,vA] b):Own8 M [vT,vR,vV,vC,vA] b∨vV'.ownBlock=some b:=by
 rcases h with rfl|⟨v,hv,hb⟩
 ·exact Or.inl (Or.inl rfl)
 ·simp only[List.mem_cons,List.not_mem_nil,or_false] at hv
  rcases hv with rfl|rfl|rfl|rfl|rfl
  ·exact Or.inl (Or.inr ⟨_,by simp,hb⟩)
  ·exact Or.inl (Or.inr ⟨_,by simp,hb⟩)
  ·exact Or.inr hb
  ·exact Or.inl (Or.inr ⟨_,by simp,hb⟩)
  ·exact Or.inl (Or.inr ⟨_,by simp,hb⟩)
def ArgS (F:Nat→Prop) (d M:Nat) (ts:List CType) (rs:List CRule) (vars:List ByteArray) (nm:ByteArray) (sal nv:Int) (cs:List CCond) (acs:List CAct) (vT vR vV vC vA:Value) (b:Bool) (K:Tree) (w5 W:World):Prop:=
 Chg (Own8 M [vT,vR,vV,vC,vA]) w5 W∧∃x vV2,argOne b vars K=.ok x∧MkW F d M ts rs x.1 nm sal nv cs acs vT vR vV2 vC vA W∧Grew vV vV2 w5.heap.size
theorem ArgS.below {F:Nat→Prop}{d M:Nat}{ts:List CType}{rs:List CRule}{vars:List ByteArray}{nm:ByteArray}{sal nv:Int}{cs:List CCond}{acs:List CAct}{vT vR vV vC vA:Value}{b:Bool}{K:Tree}{w5 W W':World}(h:ArgS F d M ts rs vars nm sal nv cs acs vT vR vV vC vA b K w5 W)(hb:Below W.heap.size W W'):ArgS F d M ts rs vars nm sal nv cs acs vT vR vV vC vA b K w5 W':=by
 obtain⟨h1,x,vV2,h2,h3,h4⟩:=h
 exact⟨h1.trans (Chg.of_below hb),x,vV2,h2,h3.below hb,h4⟩
def CondRel (F:Nat→Prop) (d M:Nat) (ts:List CType) (rs:List CRule) (vars:List ByteArray) (nm:ByteArray) (sal nv:Int) (cs:List CCond) (acs:List CAct) (vT vR vV vC vA:Value) (T:Tree) (k:Int) (w:World) (binds:Bool) (kd:Int) (kk:Nat) (Ts:List Tree) (n:Nat) (sl i:Value) (W:World):Prop:=
 ∃(j:Nat) (vs:List ByteArray) (args:List CArg) (v vV':Value),j≤n∧i=.int .i64 (j:Int)∧foldE (argStep binds) (vars,[]) (Ts.take j)=.ok (vs,args)∧args.length=j∧vs.length≤16 ∧
  W.heap[w.heap.size+1]? = some (.cells #[Value.int .u8 kd,Value.int .i64 kk,v,Value.int .u8 0,Value.int .u8 0,Value.int .i64 0,Value.string ⟨#[]⟩,Value.int .i64 0,Value.int .u8 0,Value.slice none 0 0] 60 (0,0))∧W.heap[w.heap.size]? = some (.cells #[.int .u8 k,.string T.text,.int .i64 T.num,.int .i64 T.place,sl] 25 (0,0)) ∧
  RowIn W (fun _=>False) 63 argRd args v∧(∀g,v.ownBlock=some g→w.heap.size+2≤g)∧MkW F d M ts rs vs nm sal nv cs acs vT vR vV' vC vA W∧Grew vV vV' w.heap.size∧Chg (Own8 M [vT,vR,vV,vC,vA]) w W
theorem cond_fact5 (F:Nat→Prop)(d M:Nat)(ts:List CType)(rs:List CRule)(vars:List ByteArray)(nm:ByteArray)(sal nv:Int)(cs:List CCond)(acs:List CAct)(vT vR vV vC vA:Value)(T:Tree)(Ts:List Tree)(p:Option Addr)(n c B0 dd:Nat)(tr:Except Flt Nat)(w:World)
  (hw:MkW F d M ts rs vars nm sal nv cs acs vT vR vV vC vA w) (hk:T.kind=5) (hcn:cs.length≤10000) (hvn:vars.length≤16) (hTn:Ts.length=n) (hn:n≤10000) (htr:∀k,tr=.ok k→k≤10000)
  (hks:KidsAt w B0 (dd+1) Ts (.slice p n c)) (hB0:B0≤w.heap.size) (hO:∀b,Own8 M [vT,vR,vV,vC,vA] b→B0≤b) (hkk:∀K∈Ts,(K.kind=12∨K.kind=13∨K.kind=14∨K.kind=15)∧K.text.size≤72007)
  (hty:∀W,Below w.heap.size w W→Calls Tryz.prog 58 #[.pointer (some ⟨M,0,none⟩),.agg #[.int .u8 5,.string T.text,.int .i64 T.num,.int .i64 T.place,.slice p n c]] W (ResPost tr natV W)) :
  Calls Tryz.prog 31 #[.pointer (some ⟨M,0,none⟩),.agg #[.int .u8 T.kind,.string T.text,.int .i64 T.num,.int .i64 T.place,.slice p n c]] w (CondPost F d M ts rs nm sal nv cs acs vT vR vV vC vA (condFact true 1 tr vars Ts) w):=by
 rw[hk]
 obtain⟨pC,cC,hvC⟩:=hw.c.shape
 subst hvC
 obtain⟨nC,hnC⟩:∃nC,cs.length=nC:=⟨_,rfl⟩
 have HN:=Hd hnC
 rw[hnC] at hcn
 obtain⟨w1,hw1⟩:∃w1,w1=(w.alloc (.cells #[.int .u8 5,.string T.text,.int .i64 T.num,.int .i64 T.place,.slice p n c] 25)).alloc (.cells #[.int .u8 0,.int .i64 0,.slice none 0 0,.int .u8 0,.int .u8 0,.int .i64 0,.string ⟨#[]⟩,.int .i64 0,.int .u8 0,.slice none 0 0] 60):=⟨_,rfl⟩
 obtain⟨hx0,hx1,_⟩:=two_new' w (.cells #[.int .u8 5,.string T.text,.int .i64 T.num,.int .i64 T.place,.slice p n c] 25) (.cells #[.int .u8 0,.int .i64 0,.slice none 0 0,.int .u8 0,.int .u8 0,.int .i64 0,.string ⟨#[]⟩,.int .i64 0,.int .u8 0,.slice none 0 0] 60)
 have hb1:Below w.heap.size w w1:=by rw[hw1];exact ((Below.refl _ w).alloc (Nat.le_refl _) _).alloc (by simp) _
 rw[←hw1] at hx0 hx1
 have HClt:=Hd (fun g hg=>hw.c.lt (g:=g) hg)
 have HOlt:=Hd (fun b hb=>hw.own_lt (b:=b) hb)
 have HFlt:=Hd (fun b (hb:F b)=>(hw.f b hb).1)
 have HX0:=Hd hx0
 have HX1:=Hd hx1
 have HB1:=Hd hb1
 have HW1:=Hd (hw.below hb1)
 have HS1:Hid (w.heap.size+2≤w1.heap.size):=by
  have h:=(Array.getElem?_eq_some_iff.1 HX1.out).1
  show _≤_
  omega
 have HKids:=Hd hks
 have HO:=Hd hO
 have HKK:=Hd hkk
 have HTn:=Hd hTn
 have HTy:=Hd (fun (W:World) (h:Below w1.heap.size w1 W)=>hty W (hb1.trans (h.mono hb1.size)))
 obtain⟨w2,hw2⟩:∃w2,w2=(w1.setCell ⟨w.heap.size+1,0,none⟩ (.int .u8 1)):=⟨_,rfl⟩
 have hx2:w2.heap[w.heap.size+1]? = some (.cells #[Value.int .u8 1,Value.int .i64 0,Value.slice none 0 0,Value.int .u8 0,Value.int .u8 0,Value.int .i64 0,Value.string ⟨#[]⟩,Value.int .i64 0,Value.int .u8 0,Value.slice none 0 0] 60 (0,0)):=by rw[hw2];exact heap_set hx1 0 _
 have hb2:Below w.heap.size w w2:=by rw[hw2];exact hb1.setCell (p:=⟨w.heap.size+1,0,none⟩) (Nat.le_succ _) _
 have hn2:w2.heap[w.heap.size]? = some (.cells #[Value.int .u8 5,Value.string T.text,Value.int .i64 T.num,Value.int .i64 T.place,Value.slice p n c] 25 (0,0)):=by rw[hw2];rw[Below.heap_setCell _ _ _ _ (show w.heap.size≠w.heap.size+1 by omega)];exact hx0
 have HX2:=Hd hx2
 have HB2:=Hd hb2
 have HN2:=Hd hn2
 have HS2:Hid (w.heap.size+2≤w2.heap.size):=by show _≤_;have h:=(Array.getElem?_eq_some_iff.1 hx2).1;omega
 have HTy2:=Hd (hty w2 hb2)
 obtain⟨kk,hkq⟩:∃kk:Nat,kk=okN tr:=⟨_,rfl⟩
 have HTr:Hid (∀k,tr=.ok k→kk=k):=fun k h=>by rw[hkq,h];rfl
 have hkb:kk≤10000:=by
  rw[hkq]
  cases tr with
  | ok k=>exact htr k rfl
  | error e=>exact Nat.zero_le _
 have HChg0:=Hd (Chg.of_below (F:=Own8 M [vT,vR,vV,.slice pC cs.length cC,vA]) hb2)
 have HW2:=Hd (hw.below hb2)
 have HVt:=Hd (fun g hg=>hw.v.lt (g:=g) hg)
 obtain⟨e0,e1,e2,e3,e4⟩:=cells5 hx0
 obtain⟨b0,b1,b2,b3,b4,b5,b6,b7,b8,b9⟩:=cells10 hx1
 have fz:=frozenAll hx1
 clear hx0 hx1 hb1 hw hk hnC hks hO hty htr hTn hkq hkk hx2 hb2 hn2
 go_enter Tryz.func31,Tryz.ntmps31
 go_upto_region 6 with fail
 change Code.wp _ _ _ _ ((w.alloc (.cells #[.int .u8 5,.string T.text,.int .i64 T.num,.int .i64 T.place,.slice p n c] 25)).alloc (.cells #[.int .u8 0,.int .i64 0,.slice none 0 0,.int .u8 0,.int .u8 0,.int .i64 0,.string ⟨#[]⟩,.int .i64 0,.int .u8 0,.slice none 0 0] 60))
 rw[←hw1]
 clear hw1
 go_upto_region 9 with fail
 change Code.wp _ _ _ _ (w1.setCell ⟨w.heap.size+1,0,none⟩ (.int .u8 1))
 rw[←hw2]
 clear hw2 e0 e1 e2 e3 e4 b0 b1 b2 b3 b4 b5 b6 b7 b8 b9 fz
 obtain⟨e0,e1,e2,e3,e4⟩:=cells5 HN2.out
 go_wp2_with fail
 refine HTy2.out.mono ?_
 rintro e W3 ⟨hb3,he⟩
 cases htr:tr with
 | error er =>
  rw[htr] at he
  have he:e=faultP er.1 er.2:=he
  subst he
  exact⟨rfl,Chg.of_below (HB2.out.trans (hb3.mono HB2.out.size)),rfl⟩
 | ok k =>
 rw[htr] at he
 obtain rfl:=HTr.out k htr
 have he:e=.returned (.int .i64 (kk:Int)):=he
 subst he
 have HTk:=Hd htr
 clear he htr
 have HB3:=Hd (HB2.out.trans (hb3.mono HB2.out.size))
 have hx3:=heap_below hb3 HX2.out (Array.getElem?_eq_some_iff.1 HX2.out).1
 have hn3:=heap_below hb3 HN2.out (Array.getElem?_eq_some_iff.1 HN2.out).1
 obtain⟨W4,hW4⟩:∃W4,W4=W3.setCell ⟨w.heap.size+1,1,none⟩ (.int .i64 (kk:Int)):=⟨_,rfl⟩
 have HX4:Hid (W4.heap[w.heap.size+1]? = some (.cells #[Value.int .u8 1,Value.int .i64 (kk:Int),Value.slice none 0 0,Value.int .u8 0,Value.int .u8 0,Value.int .i64 0,Value.string ⟨#[]⟩,Value.int .i64 0,Value.int .u8 0,Value.slice none 0 0] 60 (0,0))):=by show _=_;rw[hW4];exact heap_set hx3 1 _
 have HN4:Hid (W4.heap[w.heap.size]? = some (.cells #[Value.int .u8 5,Value.string T.text,Value.int .i64 T.num,Value.int .i64 T.place,Value.slice p n c] 25 (0,0))):=by show _=_;rw[hW4,Below.heap_setCell _ _ _ _ (show w.heap.size≠w.heap.size+1 by omega)];exact hn3
 have hbx:¬Own8 M [vT,vR,vV,.slice pC cs.length cC,vA] (w.heap.size+1):=fun ho=>by have:=HOlt.out _ ho;omega
 have HW4:Hid (MkW F d M ts rs vars nm sal nv cs acs vT vR vV (.slice pC cs.length cC) vA W4):=by
  show MkW _ _ _ _ _ _ _ _ _ _ _ _ _ _ _ _ _
  rw[hW4]
  refine ((HW2.out).below hb3).upd (by simp[World.setCell]) (fun x hx=>Below.heap_setCell _ _ _ _ ?_)
  rcases hx with hx|hx
  ·have:=HFlt.out x hx;intro e;simp only at e;omega
  ·intro e;simp only at e;exact hbx (e ▸ hx)
 have HC4:Hid (Chg (Own8 M [vT,vR,vV,.slice pC cs.length cC,vA]) w W4):=by show Chg _ _ _;rw[hW4];exact (Chg.of_below HB3.out).setCell (p:=⟨w.heap.size+1,1,none⟩) (Or.inr (Nat.le_succ _)) _
 obtain⟨b0,b1,b2,b3,b4,b5,b6,b7,b8,b9⟩:=cells10 hx3
 have fz:=frozenAll hx3
 clear e0 e1 e2 e3 e4 hb3 hn3 hx3 hbx
 go_upto_region 10 with fail
 change Code.wp _ _ _ _ (W3.setCell ⟨w.heap.size+1,1,none⟩ (.int .i64 (kk:Int)))
 rw[←hW4]
 clear hW4 b0 b1 b2 b3 b4 b5 b6 b7 b8 b9 fz
 obtain⟨e0,e1,e2,e3,e4⟩:=cells5 HN4.out
 go_wp2_with fail
 go_loopw [25] (CondRel F d M ts rs vars nm sal nv cs acs vT vR vV (.slice pC cs.length cC) vA T 5 w true 1 kk Ts n (.slice p n c)) (fun i _=>n-(intOf i).toNat)
 case atStart=>exact⟨0,vars,[],.slice none 0 0,vV,Nat.zero_le _,rfl,rfl,rfl,hvn,HX4.out,HN4.out,RowIn.nil,(fun g h=>by cases h),HW4.out,fun b hb=>Or.inl hb,HC4.out⟩
 case round =>
  obtain⟨j,vs,args,v,vV',hj,rfl,hfold,hlen,hvl,hbox,hnode,hrow,hge,hmk,hgr,hchg⟩:=hrel
  obtain⟨pv,cv,hvv⟩:=hrow.shape
  rw[hlen] at hvv
  subst hvv
  have hj0:(0:Int)≤j:=by omega
  have HBox:=Hd hbox
  have HNode:=Hd hnode
  have HRow:=Hd hrow
  have HGe:=Hd hge
  have HMk:=Hd hmk
  have HGr:=Hd hgr
  have HChg:=Hd hchg
  have HFold:=Hd hfold
  have HLen:=Hd hlen
  have HBel:Hid (Below B0 w wr):=Chg.to_below (Below.refl B0 w) hchg HO.out hB0
  clear hbox hnode hrow hge hmk hgr hchg hfold hlen e0 e1 e2 e3 e4
  obtain⟨e0,e1,e2,e3,e4⟩:=cells5 HNode.out
  by_cases hlt:j<n
  ·have hj1:(j:Int)<n:=by omega
   obtain⟨K,hK⟩:∃K,Ts[j]? = some K:=⟨_,List.getElem?_eq_getElem (by rw[HTn.out];exact hlt)⟩
   have hks:=HKids.out.below HBel.out
   rcases hks with ⟨rfl,_⟩|⟨b,off,cap,h1,h2,h3,h4,he,h6⟩
   ·simp at hK
   rw[HTn.out] at he
   injection he with e1' _ e3'
   subst e1';subst e3'
   obtain⟨hfit,s,c0,c1,c2,c3,c4,hkk⟩:=h6 j K hK
   obtain⟨ps,cs',rfl⟩:=hkk.slice
   obtain⟨nk,hnk⟩:∃nk,K.kids.length=nk:=⟨_,rfl⟩
   rw[hnk] at c4
   have HNx:=Hd ((foldE_take (f:=argStep true) hK HFold.out).trans (argStep_one true (vs,args) K))
   have HSt:=Hd (fun er (h:argOne true vs K=.error er)=>foldE_stop (f:=argStep true) (l:=Ts) (k:=j+1) (s:=(vars,[])) (e:=er) (by
    rw[HNx.out]
    show (match argOne true vs K with | .ok r=>_ | .error e=>_)=_
    rw[h]))
   obtain⟨A,hA⟩:∃A,A=okArg (argOne true vs K):=⟨_,rfl⟩
   have HA:Hid (∀x,argOne true vs K=.ok x→x.2=A):=fun x h=>by rw[hA,h];rfl
   have HFitA:=Hd (fun x (h:argOne true vs K=.ok x)=>argOne_fits (b:=true) (vars:=vs) (T:=K) (HKK.out K (List.mem_of_getElem? hK)).2 hvl h)
   obtain⟨w5,hw5⟩:∃w5,w5=wr.alloc (.cells #[.int .u8 K.kind,.string K.text,.int .i64 K.num,.int .i64 K.place,.slice ps nk cs'] 25):=⟨_,rfl⟩
   have hb5:Below wr.heap.size wr w5:=by rw[hw5];exact (Below.refl _ wr).alloc (Nat.le_refl _) _
   have hk5:w5.heap[wr.heap.size]? = some (.cells #[.int .u8 K.kind,.string K.text,.int .i64 K.num,.int .i64 K.place,.slice ps nk cs'] 25 (0,0)):=by rw[hw5];exact heap_alloc_new wr _
   have HB5:=Hd hb5
   have HK5:=Hd hk5
   have HArg:=Hd (fun (W:World) (hW:Below w5.heap.size w5 W)=>arg_any F d M ts rs vs nm sal nv cs acs vT vR vV' (.slice pC cs.length cC) vA K ps nk cs' true W ((HMk.out.below hb5).below hW) (HKK.out K (List.mem_of_getElem? hK)).1 (HKK.out K (List.mem_of_getElem? hK)).2 hvl)
   have hbox5:=heap_below hb5 HBox.out (Array.getElem?_eq_some_iff.1 HBox.out).1
   have hnode5:=heap_below hb5 HNode.out (Array.getElem?_eq_some_iff.1 HNode.out).1
   have HBox5:=Hd hbox5
   have HNode5:=Hd hnode5
   have HOwn5:=Hd (fun b hb=>(HMk.out.below hb5).own_lt (b:=b) hb)
   have hbx:¬Own8 M [vT,vR,vV',.slice pC cs.length cC,vA] (w.heap.size+1):=fun ho=>by
    rcases own8_vars vV ho with h|h
    ·have:=HOlt.out _ h;omega
    ·exact row_ne hbox5 (HMk.out.below hb5).v (by decide) h
   have hnx:¬Own8 M [vT,vR,vV',.slice pC cs.length cC,vA] w.heap.size:=(HMk.out.below hb5).not_own hnode5 (by kernel_rfl)
   have hkx:¬Own8 M [vT,vR,vV',.slice pC cs.length cC,vA] wr.heap.size:=(HMk.out.below hb5).not_own hk5 (by kernel_rfl)
   have hvx:∀g,(Value.slice pv j cv).ownBlock=some g→¬Own8 M [vT,vR,vV',.slice pC cs.length cC,vA] g:=fun g hg=>by
    obtain⟨ds,h⟩:=HRow.out.type hg
    exact HMk.out.not_own h (by kernel_rfl)
   have HBx:=Hd hbx
   have HNx5:=Hd hnx
   have HVx:=Hd hvx
   have hvlt:∀g,(Value.slice pv j cv).ownBlock=some g→g<wr.heap.size:=fun g hg=>HRow.out.lt hg
   have HVlt:=Hd hvlt
   have hvne:∀g,(Value.slice pv j cv).ownBlock=some g→g≠w.heap.size+1∧g≠w.heap.size∧g≠wr.heap.size:=fun g hg=>by
    have h1:=HGe.out g hg
    have h2:=hvlt g hg
    exact⟨by omega,by omega,by omega⟩
   have HVne:=Hd hvne
   obtain⟨us,hown,hcl⟩:=HRow.out
   rw[HLen.out] at hown
   have hown:wr.ownsRow 0 63 5 (.slice pv j cv) j us:=hown
   have HCl:=Hd hcl
   have HOwn:=Hd (owns_below hown hb5)
   let AS:World→Prop:=ArgS F d M ts rs vs nm sal nv cs acs vT vR vV' (.slice pC cs.length cC) vA true K w5
   let SS:Nat→World→Prop:=fun s W=>if s=0 then (∃x:Wb w5,W=x.1) else if s=1 then AS W else ∃W1,AS W1∧ApS 63 5 W1 pv j cv (us++argC A) W
   have hS0:SS 0 w5.drew:=⟨⟨w5.drew,(Below.refl _ _).drew⟩,rfl⟩
   have hKs:∀(m s:Nat) (W:World),s≤m→SS s W→∃x:Ks w5 (fun b=>b=w.heap.size+1∨b=w.heap.size∨b=wr.heap.size),W=x.1:=fun m s W _ h=>by
    have l1:=(Array.getElem?_eq_some_iff.1 hbox5).1
    have l2:=(Array.getElem?_eq_some_iff.1 hnode5).1
    have l3:=(Array.getElem?_eq_some_iff.1 hk5).1
    have h0:∀b,(b=w.heap.size+1∨b=w.heap.size∨b=wr.heap.size)→b<w5.heap.size∧¬Own8 M [vT,vR,vV',.slice pC cs.length cC,vA] b∧(Value.slice pv j cv).ownBlock≠some b:=by
     rintro b (rfl|rfl|rfl)
     ·exact⟨l1,hbx,fun e=>(hvne _ e).1 rfl⟩
     ·exact⟨l2,hnx,fun e=>(hvne _ e).2.1 rfl⟩
     ·exact⟨l3,hkx,fun e=>(hvne _ e).2.2 rfl⟩
    refine⟨⟨W,fun b hb=>?_⟩,rfl⟩
    obtain⟨q1,q2,q3⟩:=h0 b hb
    by_cases hs0:s=0
    ·subst hs0
     obtain⟨x,rfl⟩:∃x:Wb w5,W=x.1:=h
     exact x.2.block b q1
    ·by_cases hs1:s=1
     ·subst hs1
      have h:AS W:=h
      exact h.1.block b q1 q2
     ·have h:∃W1,AS W1∧ApS 63 5 W1 pv j cv (us++argC A) W:=by
       have h':SS s W:=h
       show ∃W1,AS W1∧_
       simpa only [SS,if_neg hs0,if_neg hs1] using h'
      obtain⟨W1,g1,g2⟩:=h
      exact (g2.chg.block b (Nat.lt_of_lt_of_le q1 g1.1.size) q3).trans (g1.1.block b q1 q2)
   have HKs:=Hd hKs
   obtain⟨k0,k1,k2,k3,k4⟩:=cells5 hk5
   obtain⟨n0,n1,n2,n3,n4⟩:=cells5 hnode5
   obtain⟨x0,x1,x2,x3,x4,x5,x6,x7,x8,x9⟩:=cells10 hbox5
   have B2:=fun x:Ks w5 (fun b=>b=w.heap.size+1∨b=w.heap.size∨b=wr.heap.size)=>x.cell (Or.inl rfl) x2
   have N0:=fun x:Ks w5 (fun b=>b=w.heap.size+1∨b=w.heap.size∨b=wr.heap.size)=>x.cell (Or.inr (Or.inl rfl)) n0
   have K0:=fun x:Ks w5 (fun b=>b=w.heap.size+1∨b=w.heap.size∨b=wr.heap.size)=>x.cell (Or.inr (Or.inr rfl)) k0
   have K1:=fun x:Ks w5 (fun b=>b=w.heap.size+1∨b=w.heap.size∨b=wr.heap.size)=>x.cell (Or.inr (Or.inr rfl)) k1
   have K2:=fun x:Ks w5 (fun b=>b=w.heap.size+1∨b=w.heap.size∨b=wr.heap.size)=>x.cell (Or.inr (Or.inr rfl)) k2
   have K3:=fun x:Ks w5 (fun b=>b=w.heap.size+1∨b=w.heap.size∨b=wr.heap.size)=>x.cell (Or.inr (Or.inr rfl)) k3
   have K4:=fun x:Ks w5 (fun b=>b=w.heap.size+1∨b=w.heap.size∨b=wr.heap.size)=>x.cell (Or.inr (Or.inr rfl)) k4
   clear hA hb5 hk5 hbox5 hnode5 hbx hnx hkx hvx hvlt hvne hown hcl hKs k0 k1 k2 k3 k4 n0 n1 n2 n3 n4 x0 x1 x2 x3 x4 x5 x6 x7 x8 x9 hfit hkk h6 h1 h2 h3 h4 hnk hK
   go_upto_region 13 with fail
   change Code.wp _ _ _ _ (wr.alloc (.cells #[.int .u8 K.kind,.string K.text,.int .i64 K.num,.int .i64 K.place,.slice ps nk cs'] 25))
   rw[←hw5]
   clear hw5 c0 c1 c2 c3 c4 e0 e1 e2 e3 e4
   refine RP.wp_region_effP (by kernel_rfl) 11 [7,8,9] [7,9] SS (ApR w5) (fun i ys=>if i=7 then .agg #[.int .u8 A.kind,.int .i64 A.var,.int .u8 A.val.kind,.int .i64 A.val.num,.string A.val.text] else ys.getD 0 undef)
    (fun i W ys=>if i=7 then (∃x,argOne true vs K=.ok x) else if i=8 then One 63 w5.heap.size (argC A) W (ys.getD 0 undef) else if i=9 then ApV 63 5 w5 pv j cv (us++argC A) W (ys.getD 0 undef) else True)
    (fun ch W=>Chg (Own8 M [vT,vR,vV',.slice pC cs.length cC,vA]) w5 W∧∃er,argOne true vs K=.error er∧Ending.panicked ch=faultP er.1 er.2) ?_ (by kernel_rfl) ?_ ?_ hS0 ?_
   ·rintro a ch W hd ⟨hc,er,h1,h2⟩
    refine⟨hd,chg_step (HChg.out.trans (Chg.of_below HB5.out)) hc (fun x hx=>?_),?_⟩
    ·rcases own8_vars vV hx with h|h
     ·exact Or.inl h
     ·exact (HGr.out _ h).imp (fun h=>Or.inr ⟨_,by simp,h⟩) id
    ·show match condFact true 1 tr vars Ts with | .ok x=>_ | .error er=>_
     rw[HTk.out]
     show match condFact true 1 (.ok kk) vars Ts with | .ok x=>_ | .error er=>_
     unfold condFact
     dsimp only
     rw[HSt.out er h1]
     exact h2
   ·intro i he hc s W W' h hb
    by_cases hs0:s=0
    ·subst hs0
     exact wb_next h hb
    ·by_cases hs1:s=1
     ·subst hs1
      have h:AS W:=h
      exact ArgS.below h hb
     ·have h:∃W1,AS W1∧ApS 63 5 W1 pv j cv (us++argC A) W:=by simpa only [SS,if_neg hs0,if_neg hs1] using h
      obtain⟨W1,g1,g2⟩:=h
      have h':∃W1,AS W1∧ApS 63 5 W1 pv j cv (us++argC A) W':=⟨W1,g1,g2.below hb⟩
      simpa only [SS,if_neg hs0,if_neg hs1] using h'
   ·intro k W W' ys h _ hR
    split at h
    ·rw[if_pos (by assumption)];exact h
    ·rw[if_neg (by assumption)]
     split at h
     ·rw[if_pos (by assumption)];exact h.keep hR
     ·rw[if_neg (by assumption)]
      split at h
      ·rw[if_pos (by assumption)];exact h.keep hR
      ·rw[if_neg (by assumption)];trivial
   simp only[List.take_succ_cons,List.take_zero,List.drop_succ_cons,List.drop_zero]
   repeat (refine RP.wpE_read (fun W=>∃x:Ks w5 (fun b=>b=w.heap.size+1∨b=w.heap.size∨b=wr.heap.size),W=x.1) (HKs.out _) rfl rfl rfl hS0 ?_;go_big_quiet_step (fail);refine wpQuiet_nil ?_)
   refine RP.wpE_turn rfl rfl ?_ (fun ys7=>?_)
   ·intro W hC hS hE
    obtain⟨x,rfl⟩:∃x:Wb w5,W=x.1:=hS rfl
    refine RP.uponP_call 59 _ _ rfl (enters_of Tryz.func59 (by kernel_rfl) rfl) #[.pointer (some ⟨M,0,none⟩),.agg #[.int .u8 K.kind,.string K.text,.int .i64 K.num,.int .i64 K.place,.slice ps nk cs'],.bool true] (by simp[Act.eval]) ((HArg.out x.1 x.2).mono ?_)
    rintro e W' ⟨hb,he⟩
    cases hr:argOne true vs K with
    | error er =>
     rw[hr] at he
     have he:e=faultP er.1 er.2:=he
     subst he
     exact Or.inr ⟨_,rfl,(Chg.of_below x.2).trans hb,er,rfl,rfl⟩
    | ok xa =>
     rw[hr] at he
     obtain⟨rfl,vV2,g1,g2⟩:=he
     have hxs:=x.2.size
     refine Or.inl ⟨_,rfl,[],?_,?_,?_,xa,rfl⟩
     ·show Value.agg (argC xa.2).toArray=.agg (argC A).toArray
      rw[HA.out xa hr]
     ·exact⟨(Chg.of_below x.2).trans hb,xa,vV2,hr,g1,fun b hb=>(g2 b hb).imp id (fun h=>Nat.le_trans hxs h)⟩
     ·exact ApR.of_chg hb HOwn5.out
   simp only[Act.put,List.setIfInBounds_toArray,List.set_cons_zero,List.set_cons_succ,Nat.reduceAdd,↓reduceIte]
   refine RP.wpE_turn rfl rfl ?_ (fun ys8=>?_)
   ·intro W hC hS hE
    have hsz:w5.heap.size≤W.heap.size:=by
     obtain⟨s,_,h⟩:=hC
     have h:SS s W:=h
     by_cases hs0:s=0
     ·subst hs0
      obtain⟨x,rfl⟩:∃x:Wb w5,W=x.1:=h
      exact x.2.size
     ·by_cases hs1:s=1
      ·subst hs1
       have h:AS W:=h
       exact h.1.size
      ·have h:∃W1,AS W1∧ApS 63 5 W1 pv j cv (us++argC A) W:=by simpa only [SS,if_neg hs0,if_neg hs1] using h
       obtain⟨W1,g1,g2⟩:=h
       exact Nat.le_trans g1.1.size g2.chg.size
    exact RP.UponP.of (upon_one elemArg (vs:=argC A) _ rfl rfl rfl hsz (fun v W' hb ho=>⟨[v],rfl,hb,ApR.of_below hb,ho⟩))
   simp only[Act.put,List.setIfInBounds_toArray,List.set_cons_zero,List.set_cons_succ,Nat.reduceAdd,Nat.reduceEqDiff,↓reduceIte]
   refine RP.wpE_turn rfl rfl ?_ (fun ys9=>?_)
   ·intro W hC hS hE
    have hS:AS W:=hS rfl
    have hown:W.ownsRow 0 63 5 (.slice pv j cv) j us:=owns_keep HOwn.out (fun g hg=>hS.1.block g (Nat.lt_of_lt_of_le (HVlt.out g hg) HB5.out.size) (HVx.out g hg))
    exact RP.UponP.of (upon_ap2 elemArg (p:=pv) (n:=j) (c:=cv) (L:=w5.heap.size) (vs:=argC A) (xs:=us) _ _ rfl rfl (hE 8 ys8 (by kernel_rfl) rfl) rfl (by simp[Value.oneCell',argC]) hown (by omega) (fun v' W' h1 h2 =>
     ⟨[v'],rfl,⟨W,hS,h1⟩,ApR.of_chg h1.chg (fun b hb=>Nat.lt_of_lt_of_le (HVlt.out b hb) HB5.out.size),h2.from hS.1.size⟩))
   simp only[Act.put,List.setIfInBounds_toArray,List.set_cons_zero,List.set_cons_succ,Nat.reduceAdd,Nat.reduceEqDiff,↓reduceIte]
   repeat (refine RP.wpE_read (fun W=>∃x:Ks w5 (fun b=>b=w.heap.size+1∨b=w.heap.size∨b=wr.heap.size),W=x.1) (HKs.out _) rfl rfl rfl hS0 ?_;go_big_quiet_step (fail);refine wpQuiet_nil ?_)
   refine RP.wpE_nil ?_
   intro W hS hE
   obtain⟨W1,hAS,hAp⟩:∃W1,AS W1∧ApS 63 5 W1 pv j cv (us++argC A) W:=hS
   have hV:ApV 63 5 w5 pv j cv (us++argC A) W (ys9.getD 0 undef):=hE 9 ys9 rfl
   obtain⟨g',cap',eg,hg,hC,hrow⟩:=ap_end2 hAp hV
   rw[eg]
   obtain⟨hC1,x,vV2,hxa,hmk1,hgr2⟩:=hAS
   have hxA:=HA.out x hxa
   have hfit:=HFitA.out x hxa
   have hsz5:=HB5.out.size
   have hs5:=HBox5.out
   have hszr:w.heap.size+2≤wr.heap.size:=by
    have:=(Array.getElem?_eq_some_iff.1 HBox.out).1;omega
   have hgv:∀g,(Value.slice pv j cv).ownBlock=some g→¬Own8 M [vT,vR,vV2,.slice pC cs.length cC,vA] g:=fun g hg2=>by
    obtain⟨ds,h⟩:=HRow.out.type hg2
    have h5:=heap_below HB5.out h (HVlt.out g hg2)
    have h1:=(hC1.block g (Nat.lt_of_lt_of_le (HVlt.out g hg2) hsz5) (HVx.out g hg2)).trans h5
    exact hmk1.not_own h1 (by kernel_rfl)
   have hb1:W1.heap[w.heap.size+1]? = some (.cells #[Value.int .u8 1,Value.int .i64 (kk:Int),Value.slice pv j cv,Value.int .u8 0,Value.int .u8 0,Value.int .i64 0,Value.string ⟨#[]⟩,Value.int .i64 0,Value.int .u8 0,Value.slice none 0 0] 60 (0,0)):=(hC1.block _ (Array.getElem?_eq_some_iff.1 hs5).1 HBx.out).trans hs5
   have hn1:W1.heap[w.heap.size]? = some (.cells #[Value.int .u8 5,Value.string T.text,Value.int .i64 T.num,Value.int .i64 T.place,Value.slice (some ⟨b,off,none⟩) n c] 25 (0,0)):=(hC1.block _ (Array.getElem?_eq_some_iff.1 HNode5.out).1 HNx5.out).trans HNode5.out
   have hbW:W.heap[w.heap.size+1]? = some (.cells #[Value.int .u8 1,Value.int .i64 (kk:Int),Value.slice pv j cv,Value.int .u8 0,Value.int .u8 0,Value.int .i64 0,Value.string ⟨#[]⟩,Value.int .i64 0,Value.int .u8 0,Value.slice none 0 0] 60 (0,0)):=(hC.block _ (Array.getElem?_eq_some_iff.1 hb1).1 (fun e=>(HVne.out _ e).1 rfl)).trans hb1
   have hnW:=(hC.block _ (Array.getElem?_eq_some_iff.1 hn1).1 (fun e=>(HVne.out _ e).2.1 rfl)).trans hn1
   have hmkW:MkW F d M ts rs x.1 nm sal nv cs acs vT vR vV2 (.slice pC cs.length cC) vA W:=hmk1.upd hC.size (fun q hq=>by
    rcases hq with hq|hq
    ·exact hC.block q (hmk1.f q hq).1 (fun e=>by have:=HGe.out q e;have:=HFlt.out q hq;omega)
    ·exact hC.block q (hmk1.own_lt hq) (fun e=>hgv q e hq))
   have hgb:g'≠w.heap.size+1∧g'≠w.heap.size∧w.heap.size+2≤g':=by
    rcases hg with h|h
    ·exact⟨(HVne.out g' h).1,(HVne.out g' h).2.1,HGe.out g' h⟩
    ·exact⟨by omega,by omega,by omega⟩
   have hbx2:¬Own8 M [vT,vR,vV2,.slice pC cs.length cC,vA] (w.heap.size+1):=fun ho=>by
    rcases own8_vars vV ho with h|h
    ·have:=HOlt.out _ h;omega
    ·exact row_ne hbW hmkW.v (by decide) h
   obtain⟨W6,hW6⟩:∃W6,W6=W.setCell ⟨w.heap.size+1,2,none⟩ (.slice (some ⟨g',0,none⟩) (j+1) cap'):=⟨_,rfl⟩
   have hot:∀q,q≠w.heap.size+1→W6.heap[q]? = W.heap[q]?:=fun q hq=>by rw[hW6];exact Below.heap_setCell W ⟨w.heap.size+1,2,none⟩ _ q hq
   have hsz6:W6.heap.size=W.heap.size:=by rw[hW6];simp[World.setCell]
   have HR:Hid (CondRel F d M ts rs vars nm sal nv cs acs vT vR vV (.slice pC cs.length cC) vA T 5 w true 1 kk Ts n (.slice (some ⟨b,off,none⟩) n c) (.int .i64 ((j+1:Nat):Int)) W6):=by
    refine⟨j+1,x.1,args++[x.2],.slice (some ⟨g',0,none⟩) (j+1) cap',vV2,by omega,rfl,?_,by rw[List.length_append,HLen.out];rfl,hfit.2,?_,(hot _ (by omega)).trans hnW,?_,?_,?_,?_,?_⟩
    ·rw[HNx.out]
     show (match argOne true vs K with | .ok r=>_ | .error e=>_)=_
     rw[hxa]
    ·rw[hW6];exact heap_set hbW 2 _
    ·refine⟨us++argC A,?_,?_⟩
     ·rw[List.length_append,HLen.out]
      exact owns_keep hrow (fun q hq=>by injection hq with hq;have hq:g'=q:=hq;subst hq;exact hot g' hgb.1)
     ·exact Rd.cells_snoc (Rd.cells_keep (fun _ hb=>hb.elim) HCl.out) (by rw[hxA];exact arg_at.2 ⟨rfl,by rw[←hxA];exact hfit.1⟩)
    ·intro g hg2
     injection hg2 with hg2
     have hg2:g'=g:=hg2
     subst hg2
     exact hgb.2.2
    ·refine hmkW.upd (by rw[hsz6];exact Nat.le_refl _) (fun q hq=>hot q ?_)
     rcases hq with hq|hq
     ·have:=HFlt.out q hq;omega
     ·exact fun e=>hbx2 (e ▸ hq)
    ·intro q hq
     rcases hgr2 q hq with h|h
     ·exact HGr.out q h
     ·exact Or.inr (by omega)
    ·have h1:Chg (Own8 M [vT,vR,vV,.slice pC cs.length cC,vA]) w W1:=chg_step (HChg.out.trans (Chg.of_below HB5.out)) hC1 (fun x hx=>by
      rcases own8_vars vV hx with h|h
      ·exact Or.inl h
      ·exact (HGr.out _ h).imp (fun h=>Or.inr ⟨_,by simp,h⟩) id)
     have h2:Chg (Own8 M [vT,vR,vV,.slice pC cs.length cC,vA]) w W:=chg_step h1 hC (fun x hx=>Or.inr (by have:=HGe.out x hx;omega))
     rw[hW6]
     exact h2.setCell (p:=⟨w.heap.size+1,2,none⟩) (Or.inr (Nat.le_succ _)) _
   obtain⟨x0,x1,x2,x3,x4,x5,x6,x7,x8,x9⟩:=cells10 hbW
   have fz:=frozenAll hbW
   clear hE hV eg hg hC hrow hC1 hxa hmk1 hgr2 hxA hfit hsz5 hs5 hszr hgv hb1 hn1 hbW hnW hmkW hgb hbx2 hot hsz6 hAp hS0 B2 N0 K0 K1 K2 K3 K4 x0 x1 x3 x4 x5 x6 x7 x8 x9
   go_upto_region 14 with fail
   change Code.wp _ _ _ _ (W.setCell ⟨w.heap.size+1,2,none⟩ (.slice (some ⟨g',0,none⟩) (j+1) cap'))
   rw[←hW6]
   clear hW6 x2 fz
   go_wp2_with fail
   refine⟨HR.out,?_⟩
   simp[intOf];omega
  ·have HX:Hid (foldE (argStep true) (vars,[]) Ts=.ok (vs,args)):=by
    show _=_
    rw[←HFold.out,List.take_of_length_le (by rw[HTn.out];omega)]
   have HRes:Hid (condFact true 1 tr vars Ts=.ok (vs,⟨1,(kk:Int),args,.zero⟩)):=by
    show _=_
    rw[HTk.out]
    unfold condFact
    dsimp only
    rw[HX.out]
   have HS5:Hid (w.heap.size≤wr.heap.size):=HChg.out.size
   have HWr:Hid (MkW (fun q=>F q∨(Value.slice pv j cv).ownBlock=some q) d M ts rs vs nm sal nv cs acs vT vR vV' (.slice pC cs.length cC) vA wr):=by
    refine HMk.out.grow (fun _ h=>Or.inl h) (fun q hq=>?_)
    rcases hq with hq|hq
    ·exact HMk.out.f q hq
    ·obtain⟨ds,h⟩:=HRow.out.type hq
     exact⟨HRow.out.lt hq,HMk.out.not_own h (by kernel_rfl)⟩
   have HArgs:Hid (argRd.row wr (fun q=>F q∨(Value.slice pv j cv).ownBlock=some q) args (.slice pv j cv)):=HRow.out.row (fun _ h=>h.elim) (fun g hg=>Or.inr hg)
   clear e0 e1 e2 e3 e4 HBel
   go_upto_region 17 with fail
   obtain⟨us,hown,hcl⟩:=HWr.out.c
   rw[HN.out,condRd_n] at hown
   have HOwn:=Hd hown
   have HCl:=Hd hcl
   have e0:wr.cell? ⟨w.heap.size+1,0,none⟩=some (Value.int .u8 1):=by rw[cell_of_row _ _ _ _ _ _ HBox.out];rfl
   have e1:wr.cell? ⟨w.heap.size+1,1,none⟩=some (Value.int .i64 (kk:Int)):=by rw[cell_of_row _ _ _ _ _ _ HBox.out];rfl
   have e2:wr.cell? ⟨w.heap.size+1,2,none⟩=some (Value.slice pv j cv):=by rw[cell_of_row _ _ _ _ _ _ HBox.out];rfl
   have e3:wr.cell? ⟨w.heap.size+1,3,none⟩=some (Value.int .u8 0):=by rw[cell_of_row _ _ _ _ _ _ HBox.out];rfl
   have e4:wr.cell? ⟨w.heap.size+1,4,none⟩=some (Value.int .u8 0):=by rw[cell_of_row _ _ _ _ _ _ HBox.out];rfl
   have e5:wr.cell? ⟨w.heap.size+1,5,none⟩=some (Value.int .i64 0):=by rw[cell_of_row _ _ _ _ _ _ HBox.out];rfl
   have e6:wr.cell? ⟨w.heap.size+1,6,none⟩=some (Value.string ⟨#[]⟩):=by rw[cell_of_row _ _ _ _ _ _ HBox.out];rfl
   have e7:wr.cell? ⟨w.heap.size+1,7,none⟩=some (Value.int .i64 0):=by rw[cell_of_row _ _ _ _ _ _ HBox.out];rfl
   have e8:wr.cell? ⟨w.heap.size+1,8,none⟩=some (Value.int .u8 0):=by rw[cell_of_row _ _ _ _ _ _ HBox.out];rfl
   have e9:wr.cell? ⟨w.heap.size+1,9,none⟩=some (Value.slice none 0 0):=by rw[cell_of_row _ _ _ _ _ _ HBox.out];rfl
   have hm2:wr.cell? ⟨M,6,none⟩=some (.slice pC nC cC):=by rw[cell_of_row _ _ _ _ _ _ HWr.out.m,←HN.out];rfl
   have hK:∀b,(b=M∨b=w.heap.size+1)→b<wr.heap.size∧(Value.slice pC nC cC).ownBlock≠some b:=fun b hb=>by
    rw[←HN.out]
    rcases hb with rfl|rfl
    ·exact⟨HWr.out.lt,row_ne HWr.out.m HWr.out.c (by decide)⟩
    ·exact⟨(Array.getElem?_eq_some_iff.1 HBox.out).1,fun e=>by have:=HClt.out _ e;omega⟩
   have HKs:=Hd (ap_ks (E:=60) (sz:=10) (row:=us++[Value.int .u8 1,Value.int .i64 (kk:Int),Value.slice pv j cv,Value.int .u8 0,Value.int .u8 0,Value.int .i64 0,Value.string ⟨#[]⟩,Value.int .i64 0,Value.int .u8 0,Value.slice none 0 0]) (K:=(fun b=>b=M∨b=w.heap.size+1)) hK)
   have E0:=fun x:Ks wr (fun b=>b=M∨b=w.heap.size+1)=>x.cell (Or.inr rfl) e0
   have E1:=fun x:Ks wr (fun b=>b=M∨b=w.heap.size+1)=>x.cell (Or.inr rfl) e1
   have E2:=fun x:Ks wr (fun b=>b=M∨b=w.heap.size+1)=>x.cell (Or.inr rfl) e2
   have E3:=fun x:Ks wr (fun b=>b=M∨b=w.heap.size+1)=>x.cell (Or.inr rfl) e3
   have E4:=fun x:Ks wr (fun b=>b=M∨b=w.heap.size+1)=>x.cell (Or.inr rfl) e4
   have E5:=fun x:Ks wr (fun b=>b=M∨b=w.heap.size+1)=>x.cell (Or.inr rfl) e5
   have E6:=fun x:Ks wr (fun b=>b=M∨b=w.heap.size+1)=>x.cell (Or.inr rfl) e6
   have E7:=fun x:Ks wr (fun b=>b=M∨b=w.heap.size+1)=>x.cell (Or.inr rfl) e7
   have E8:=fun x:Ks wr (fun b=>b=M∨b=w.heap.size+1)=>x.cell (Or.inr rfl) e8
   have E9:=fun x:Ks wr (fun b=>b=M∨b=w.heap.size+1)=>x.cell (Or.inr rfl) e9
   have M2:=fun x:Ks wr (fun b=>b=M∨b=w.heap.size+1)=>x.cell (Or.inl rfl) hm2
   clear hown hcl e0 e1 e2 e3 e4 e5 e6 e7 e8 e9 hm2 hK
   refine RE.wp_region_eff (by kernel_rfl) 9 [7,8] [8] (stA 60 10 wr pC nC cC (us++[Value.int .u8 1,Value.int .i64 (kk:Int),Value.slice pv j cv,Value.int .u8 0,Value.int .u8 0,Value.int .i64 0,Value.string ⟨#[]⟩,Value.int .i64 0,Value.int .u8 0,Value.slice none 0 0])) (ApR wr) (fun _ ys=>ys.getD 0 undef) (phA 60 10 wr pC nC cC [Value.int .u8 1,Value.int .i64 (kk:Int),Value.slice pv j cv,Value.int .u8 0,Value.int .u8 0,Value.int .i64 0,Value.string ⟨#[]⟩,Value.int .i64 0,Value.int .u8 0,Value.slice none 0 0] (us++[Value.int .u8 1,Value.int .i64 (kk:Int),Value.slice pv j cv,Value.int .u8 0,Value.int .u8 0,Value.int .i64 0,Value.string ⟨#[]⟩,Value.int .i64 0,Value.int .u8 0,Value.slice none 0 0]) 7 8) (by kernel_rfl) (fun _ _ _ _ _ _ h hb=>h.below hb) (fun _ _ _ _ h _ hR=>h.keep hR) stA.zero ?_
   simp only[List.take_succ_cons,List.take_zero,List.drop_succ_cons,List.drop_zero]
   repeat (refine RE.wpE_read (fun W=>∃x:Ks wr (fun b=>b=M∨b=w.heap.size+1),W=x.1) (HKs.out _) rfl rfl rfl stA.zero ?_;go_big_quiet_step (fail);refine wpQuiet_nil ?_)
   refine RE.wpE_turn rfl rfl ?_ (fun ys7=>?_)
   ·intro W hC hS hE
    obtain⟨s9,_,h9⟩:=hC
    exact upon_one elemCond (vs:=[Value.int .u8 1,Value.int .i64 (kk:Int),Value.slice pv j cv,Value.int .u8 0,Value.int .u8 0,Value.int .i64 0,Value.string ⟨#[]⟩,Value.int .i64 0,Value.int .u8 0,Value.slice none 0 0]) _ rfl rfl rfl h9.size (fun v W' hb ho=>⟨[v],rfl,hb,ApR.of_below hb,ho⟩)
   simp only[Act.put,List.setIfInBounds_toArray,List.set_cons_zero,List.set_cons_succ]
   refine RE.wpE_turn rfl rfl ?_ (fun ys8=>?_)
   ·intro W hC hS hE
    obtain⟨x,rfl⟩:∃x:Wb wr,W=x.1:=hS rfl
    exact upon_ap elemCond (p:=pC) (n:=nC) (c:=cC) (w4:=wr) (vs:=[Value.int .u8 1,Value.int .i64 (kk:Int),Value.slice pv j cv,Value.int .u8 0,Value.int .u8 0,Value.int .i64 0,Value.string ⟨#[]⟩,Value.int .i64 0,Value.int .u8 0,Value.slice none 0 0]) (xs:=us) _ _ rfl rfl (hE 7 ys7 (by kernel_rfl) rfl) rfl (by simp[Value.oneCell']) x.2 HOwn.out (by omega) (fun v' W' h1 h2 h3=>⟨[v'],rfl,h1,h2,h3⟩)
   simp only[Act.put,List.setIfInBounds_toArray,List.set_cons_zero,List.set_cons_succ]
   refine RE.wpE_nil ?_
   intro W hS hE
   have hS:ApS 60 10 wr pC nC cC (us++[Value.int .u8 1,Value.int .i64 (kk:Int),Value.slice pv j cv,Value.int .u8 0,Value.int .u8 0,Value.int .i64 0,Value.string ⟨#[]⟩,Value.int .i64 0,Value.int .u8 0,Value.slice none 0 0]) W:=hS
   have hV:ApV 60 10 wr pC nC cC (us++[Value.int .u8 1,Value.int .i64 (kk:Int),Value.slice pv j cv,Value.int .u8 0,Value.int .u8 0,Value.int .i64 0,Value.string ⟨#[]⟩,Value.int .i64 0,Value.int .u8 0,Value.slice none 0 0]) W (ys8.getD 0 undef):=hE 8 ys8 rfl
   obtain⟨g',cap,eg,hg,hC,hrow⟩:=ap_end hS hV
   rw[eg]
   have hC1:Chg (fun b=>(Value.slice pC cs.length cC).ownBlock=some b) wr W:=by rw[HN.out];exact hC
   have hg1:(Value.slice pC cs.length cC).ownBlock=some g'∨wr.heap.size≤g':=by rw[HN.out];exact hg
   have hx4:(condRd d).at_ wr (fun q=>F q∨(Value.slice pv j cv).ownBlock=some q) ⟨1,(kk:Int),args,.zero⟩ [Value.int .u8 1,Value.int .i64 (kk:Int),Value.slice pv j cv,Value.int .u8 0,Value.int .u8 0,Value.int .i64 0,Value.string ⟨#[]⟩,Value.int .i64 0,Value.int .u8 0,Value.slice none 0 0]:=cond_at.2 ⟨show U8 1 from ⟨by decide,by decide⟩,⟨by show (-9223372036854775808:Int)≤(kk:Int);omega,by show (kk:Int)<9223372036854775808;omega⟩,⟨show U8 0 from ⟨by decide,by decide⟩,⟨show U8 0 from ⟨by decide,by decide⟩,show I64 0 from ⟨by decide,by decide⟩,(show (⟨#[]⟩:ByteArray).size≤maxLen by decide)⟩,show I64 0 from ⟨by decide,by decide⟩,show U8 0 from ⟨by decide,by decide⟩⟩,.slice pv j cv,.slice none 0 0,rfl,HArgs.out,ekids_nil⟩
   obtain⟨hW6,hC6,hMb⟩:=HWr.out.pushC HN.out HCl.out hx4 hg1 hC1 (by rw[condRd_n];exact hrow)
   have hm2:W.cell? ⟨M,6,none⟩=some (.slice pC nC cC):=by rw[cell_of_row _ _ _ _ _ _ (hMb.trans HWr.out.m),←HN.out];rfl
   have hf2:=frozen_of (hMb.trans HWr.out.m) 6
   have HP:Hid (CondPost F d M ts rs nm sal nv cs acs vT vR vV (.slice pC cs.length cC) vA (.ok (vs,⟨1,(kk:Int),args,.zero⟩)) w (.returned (.bool true)) (W.setCell ⟨M,6,none⟩ (.slice (some ⟨g',0,none⟩) (nC+1) cap))):=by
    refine⟨chg_step HChg.out hC6 (fun x hx=>by rcases own8_vars vV hx with h|h;exact Or.inl h;exact (HGr.out _ h).imp (fun h=>Or.inr ⟨_,by simp,h⟩) id),rfl,(fun q=>F q∨(Value.slice pv j cv).ownBlock=some q),vV',_,hW6,HGr.out,fun b hb=>?_,fun _ h=>Or.inl h,fun b h=>h.imp id (fun h=>by have:=HGe.out b h;omega)⟩
    injection hb with hb
    have hb:g'=b:=hb
    subst hb
    rcases hg1 with h|h
    ·exact Or.inl h
    ·have:=HS5.out;exact Or.inr (by omega)
   clear hS hV hE eg hg hC hrow hC1 hg1 hW6 hC6 hMb E0 E1 E2 E3 E4 E5 E6 E7 E8 E9 M2 HKs hx4
   go_wp2_with fail
   go_ret
   rw[HRes.out]
   exact HP.out
theorem cond_fact6 (F:Nat→Prop)(d M:Nat)(ts:List CType)(rs:List CRule)(vars:List ByteArray)(nm:ByteArray)(sal nv:Int)(cs:List CCond)(acs:List CAct)(vT vR vV vC vA:Value)(T:Tree)(Ts:List Tree)(p:Option Addr)(n c B0 dd:Nat)(tr:Except Flt Nat)(w:World)
  (hw:MkW F d M ts rs vars nm sal nv cs acs vT vR vV vC vA w) (hk:T.kind=6) (hcn:cs.length≤10000) (hvn:vars.length≤16) (hTn:Ts.length=n) (hn:n≤10000) (htr:∀k,tr=.ok k→k≤10000)
  (hks:KidsAt w B0 (dd+1) Ts (.slice p n c)) (hB0:B0≤w.heap.size) (hO:∀b,Own8 M [vT,vR,vV,vC,vA] b→B0≤b) (hkk:∀K∈Ts,(K.kind=12∨K.kind=13∨K.kind=14∨K.kind=15)∧K.text.size≤72007)
  (hty:∀W,Below w.heap.size w W→Calls Tryz.prog 58 #[.pointer (some ⟨M,0,none⟩),.agg #[.int .u8 6,.string T.text,.int .i64 T.num,.int .i64 T.place,.slice p n c]] W (ResPost tr natV W)) :
  Calls Tryz.prog 31 #[.pointer (some ⟨M,0,none⟩),.agg #[.int .u8 T.kind,.string T.text,.int .i64 T.num,.int .i64 T.place,.slice p n c]] w (CondPost F d M ts rs nm sal nv cs acs vT vR vV vC vA (condFact false 2 tr vars Ts) w):=by
 rw[hk]
 obtain⟨pC,cC,hvC⟩:=hw.c.shape
 subst hvC
 obtain⟨nC,hnC⟩:∃nC,cs.length=nC:=⟨_,rfl⟩
 have HN:=Hd hnC
 rw[hnC] at hcn
 obtain⟨w1,hw1⟩:∃w1,w1=(w.alloc (.cells #[.int .u8 6,.string T.text,.int .i64 T.num,.int .i64 T.place,.slice p n c] 25)).alloc (.cells #[.int .u8 0,.int .i64 0,.slice none 0 0,.int .u8 0,.int .u8 0,.int .i64 0,.string ⟨#[]⟩,.int .i64 0,.int .u8 0,.slice none 0 0] 60):=⟨_,rfl⟩
 obtain⟨hx0,hx1,_⟩:=two_new' w (.cells #[.int .u8 6,.string T.text,.int .i64 T.num,.int .i64 T.place,.slice p n c] 25) (.cells #[.int .u8 0,.int .i64 0,.slice none 0 0,.int .u8 0,.int .u8 0,.int .i64 0,.string ⟨#[]⟩,.int .i64 0,.int .u8 0,.slice none 0 0] 60)
 have hb1:Below w.heap.size w w1:=by rw[hw1];exact ((Below.refl _ w).alloc (Nat.le_refl _) _).alloc (by simp) _
 rw[←hw1] at hx0 hx1
 have HClt:=Hd (fun g hg=>hw.c.lt (g:=g) hg)
 have HOlt:=Hd (fun b hb=>hw.own_lt (b:=b) hb)
 have HFlt:=Hd (fun b (hb:F b)=>(hw.f b hb).1)
 have HX0:=Hd hx0
 have HX1:=Hd hx1
 have HB1:=Hd hb1
 have HW1:=Hd (hw.below hb1)
 have HS1:Hid (w.heap.size+2≤w1.heap.size):=by
  have h:=(Array.getElem?_eq_some_iff.1 HX1.out).1
  show _≤_
  omega
 have HKids:=Hd hks
 have HO:=Hd hO
 have HKK:=Hd hkk
 have HTn:=Hd hTn
 have HTy:=Hd (fun (W:World) (h:Below w1.heap.size w1 W)=>hty W (hb1.trans (h.mono hb1.size)))
 obtain⟨w2,hw2⟩:∃w2,w2=((w1.setCell ⟨w.heap.size+1,0,none⟩ (.int .u8 1)).setCell ⟨w.heap.size+1,0,none⟩ (.int .u8 2)):=⟨_,rfl⟩
 have hx2:w2.heap[w.heap.size+1]? = some (.cells #[Value.int .u8 2,Value.int .i64 0,Value.slice none 0 0,Value.int .u8 0,Value.int .u8 0,Value.int .i64 0,Value.string ⟨#[]⟩,Value.int .i64 0,Value.int .u8 0,Value.slice none 0 0] 60 (0,0)):=by rw[hw2];exact heap_set (heap_set hx1 0 _) 0 _
 have hb2:Below w.heap.size w w2:=by rw[hw2];exact (hb1.setCell (p:=⟨w.heap.size+1,0,none⟩) (Nat.le_succ _) _).setCell (p:=⟨w.heap.size+1,0,none⟩) (Nat.le_succ _) _
 have hn2:w2.heap[w.heap.size]? = some (.cells #[Value.int .u8 6,Value.string T.text,Value.int .i64 T.num,Value.int .i64 T.place,Value.slice p n c] 25 (0,0)):=by rw[hw2];rw[Below.heap_setCell _ _ _ _ (show w.heap.size≠w.heap.size+1 by omega),Below.heap_setCell _ _ _ _ (show w.heap.size≠w.heap.size+1 by omega)];exact hx0
 have HX2:=Hd hx2
 have HB2:=Hd hb2
 have HN2:=Hd hn2
 have HS2:Hid (w.heap.size+2≤w2.heap.size):=by show _≤_;have h:=(Array.getElem?_eq_some_iff.1 hx2).1;omega
 have HTy2:=Hd (hty w2 hb2)
 obtain⟨kk,hkq⟩:∃kk:Nat,kk=okN tr:=⟨_,rfl⟩
 have HTr:Hid (∀k,tr=.ok k→kk=k):=fun k h=>by rw[hkq,h];rfl
 have hkb:kk≤10000:=by
  rw[hkq]
  cases tr with
  | ok k=>exact htr k rfl
  | error e=>exact Nat.zero_le _
 have HChg0:=Hd (Chg.of_below (F:=Own8 M [vT,vR,vV,.slice pC cs.length cC,vA]) hb2)
 have HW2:=Hd (hw.below hb2)
 have HVt:=Hd (fun g hg=>hw.v.lt (g:=g) hg)
 obtain⟨e0,e1,e2,e3,e4⟩:=cells5 hx0
 obtain⟨b0,b1,b2,b3,b4,b5,b6,b7,b8,b9⟩:=cells10 hx1
 have fz:=frozenAll hx1
 clear hx0 hx1 hb1 hw hk hnC hks hO hty htr hTn hkq hkk hx2 hb2 hn2
 go_enter Tryz.func31,Tryz.ntmps31
 go_upto_region 6 with fail
 change Code.wp _ _ _ _ ((w.alloc (.cells #[.int .u8 6,.string T.text,.int .i64 T.num,.int .i64 T.place,.slice p n c] 25)).alloc (.cells #[.int .u8 0,.int .i64 0,.slice none 0 0,.int .u8 0,.int .u8 0,.int .i64 0,.string ⟨#[]⟩,.int .i64 0,.int .u8 0,.slice none 0 0] 60))
 rw[←hw1]
 clear hw1
 go_upto_region 9 with fail
 change Code.wp _ _ _ _ ((w1.setCell ⟨w.heap.size+1,0,none⟩ (.int .u8 1)).setCell ⟨w.heap.size+1,0,none⟩ (.int .u8 2))
 rw[←hw2]
 clear hw2 e0 e1 e2 e3 e4 b0 b1 b2 b3 b4 b5 b6 b7 b8 b9 fz
 obtain⟨e0,e1,e2,e3,e4⟩:=cells5 HN2.out
 go_wp2_with fail
 refine HTy2.out.mono ?_
 rintro e W3 ⟨hb3,he⟩
 cases htr:tr with
 | error er =>
  rw[htr] at he
  have he:e=faultP er.1 er.2:=he
  subst he
  exact⟨rfl,Chg.of_below (HB2.out.trans (hb3.mono HB2.out.size)),rfl⟩
 | ok k =>
 rw[htr] at he
 obtain rfl:=HTr.out k htr
 have he:e=.returned (.int .i64 (kk:Int)):=he
 subst he
 have HTk:=Hd htr
 clear he htr
 have HB3:=Hd (HB2.out.trans (hb3.mono HB2.out.size))
 have hx3:=heap_below hb3 HX2.out (Array.getElem?_eq_some_iff.1 HX2.out).1
 have hn3:=heap_below hb3 HN2.out (Array.getElem?_eq_some_iff.1 HN2.out).1
 obtain⟨W4,hW4⟩:∃W4,W4=W3.setCell ⟨w.heap.size+1,1,none⟩ (.int .i64 (kk:Int)):=⟨_,rfl⟩
 have HX4:Hid (W4.heap[w.heap.size+1]? = some (.cells #[Value.int .u8 2,Value.int .i64 (kk:Int),Value.slice none 0 0,Value.int .u8 0,Value.int .u8 0,Value.int .i64 0,Value.string ⟨#[]⟩,Value.int .i64 0,Value.int .u8 0,Value.slice none 0 0] 60 (0,0))):=by show _=_;rw[hW4];exact heap_set hx3 1 _
 have HN4:Hid (W4.heap[w.heap.size]? = some (.cells #[Value.int .u8 6,Value.string T.text,Value.int .i64 T.num,Value.int .i64 T.place,Value.slice p n c] 25 (0,0))):=by show _=_;rw[hW4,Below.heap_setCell _ _ _ _ (show w.heap.size≠w.heap.size+1 by omega)];exact hn3
 have hbx:¬Own8 M [vT,vR,vV,.slice pC cs.length cC,vA] (w.heap.size+1):=fun ho=>by have:=HOlt.out _ ho;omega
 have HW4:Hid (MkW F d M ts rs vars nm sal nv cs acs vT vR vV (.slice pC cs.length cC) vA W4):=by
  show MkW _ _ _ _ _ _ _ _ _ _ _ _ _ _ _ _ _
  rw[hW4]
  refine ((HW2.out).below hb3).upd (by simp[World.setCell]) (fun x hx=>Below.heap_setCell _ _ _ _ ?_)
  rcases hx with hx|hx
  ·have:=HFlt.out x hx;intro e;simp only at e;omega
  ·intro e;simp only at e;exact hbx (e ▸ hx)
 have HC4:Hid (Chg (Own8 M [vT,vR,vV,.slice pC cs.length cC,vA]) w W4):=by show Chg _ _ _;rw[hW4];exact (Chg.of_below HB3.out).setCell (p:=⟨w.heap.size+1,1,none⟩) (Or.inr (Nat.le_succ _)) _
 obtain⟨b0,b1,b2,b3,b4,b5,b6,b7,b8,b9⟩:=cells10 hx3
 have fz:=frozenAll hx3
 clear e0 e1 e2 e3 e4 hb3 hn3 hx3 hbx
 go_upto_region 10 with fail
 change Code.wp _ _ _ _ (W3.setCell ⟨w.heap.size+1,1,none⟩ (.int .i64 (kk:Int)))
 rw[←hW4]
 clear hW4 b0 b1 b2 b3 b4 b5 b6 b7 b8 b9 fz
 obtain⟨e0,e1,e2,e3,e4⟩:=cells5 HN4.out
 go_wp2_with fail
 go_loopw [25] (CondRel F d M ts rs vars nm sal nv cs acs vT vR vV (.slice pC cs.length cC) vA T 6 w false 2 kk Ts n (.slice p n c)) (fun i _=>n-(intOf i).toNat)
 case atStart=>exact⟨0,vars,[],.slice none 0 0,vV,Nat.zero_le _,rfl,rfl,rfl,hvn,HX4.out,HN4.out,RowIn.nil,(fun g h=>by cases h),HW4.out,fun b hb=>Or.inl hb,HC4.out⟩
 case round =>
  obtain⟨j,vs,args,v,vV',hj,rfl,hfold,hlen,hvl,hbox,hnode,hrow,hge,hmk,hgr,hchg⟩:=hrel
  obtain⟨pv,cv,hvv⟩:=hrow.shape
  rw[hlen] at hvv
  subst hvv
  have hj0:(0:Int)≤j:=by omega
  have HBox:=Hd hbox
  have HNode:=Hd hnode
  have HRow:=Hd hrow
  have HGe:=Hd hge
  have HMk:=Hd hmk
  have HGr:=Hd hgr
  have HChg:=Hd hchg
  have HFold:=Hd hfold
  have HLen:=Hd hlen
  have HBel:Hid (Below B0 w wr):=Chg.to_below (Below.refl B0 w) hchg HO.out hB0
  clear hbox hnode hrow hge hmk hgr hchg hfold hlen e0 e1 e2 e3 e4
  obtain⟨e0,e1,e2,e3,e4⟩:=cells5 HNode.out
  by_cases hlt:j<n
  ·have hj1:(j:Int)<n:=by omega
   obtain⟨K,hK⟩:∃K,Ts[j]? = some K:=⟨_,List.getElem?_eq_getElem (by rw[HTn.out];exact hlt)⟩
   have hks:=HKids.out.below HBel.out
   rcases hks with ⟨rfl,_⟩|⟨b,off,cap,h1,h2,h3,h4,he,h6⟩
   ·simp at hK
   rw[HTn.out] at he
   injection he with e1' _ e3'
   subst e1';subst e3'
   obtain⟨hfit,s,c0,c1,c2,c3,c4,hkk⟩:=h6 j K hK
   obtain⟨ps,cs',rfl⟩:=hkk.slice
   obtain⟨nk,hnk⟩:∃nk,K.kids.length=nk:=⟨_,rfl⟩
   rw[hnk] at c4
   have HNx:=Hd ((foldE_take (f:=argStep false) hK HFold.out).trans (argStep_one false (vs,args) K))
   have HSt:=Hd (fun er (h:argOne false vs K=.error er)=>foldE_stop (f:=argStep false) (l:=Ts) (k:=j+1) (s:=(vars,[])) (e:=er) (by
    rw[HNx.out]
    show (match argOne false vs K with | .ok r=>_ | .error e=>_)=_
    rw[h]))
   obtain⟨A,hA⟩:∃A,A=okArg (argOne false vs K):=⟨_,rfl⟩
   have HA:Hid (∀x,argOne false vs K=.ok x→x.2=A):=fun x h=>by rw[hA,h];rfl
   have HFitA:=Hd (fun x (h:argOne false vs K=.ok x)=>argOne_fits (b:=false) (vars:=vs) (T:=K) (HKK.out K (List.mem_of_getElem? hK)).2 hvl h)
   obtain⟨w5,hw5⟩:∃w5,w5=wr.alloc (.cells #[.int .u8 K.kind,.string K.text,.int .i64 K.num,.int .i64 K.place,.slice ps nk cs'] 25):=⟨_,rfl⟩
   have hb5:Below wr.heap.size wr w5:=by rw[hw5];exact (Below.refl _ wr).alloc (Nat.le_refl _) _
   have hk5:w5.heap[wr.heap.size]? = some (.cells #[.int .u8 K.kind,.string K.text,.int .i64 K.num,.int .i64 K.place,.slice ps nk cs'] 25 (0,0)):=by rw[hw5];exact heap_alloc_new wr _
   have HB5:=Hd hb5
   have HK5:=Hd hk5
   have HArg:=Hd (fun (W:World) (hW:Below w5.heap.size w5 W)=>arg_any F d M ts rs vs nm sal nv cs acs vT vR vV' (.slice pC cs.length cC) vA K ps nk cs' false W ((HMk.out.below hb5).below hW) (HKK.out K (List.mem_of_getElem? hK)).1 (HKK.out K (List.mem_of_getElem? hK)).2 hvl)
   have hbox5:=heap_below hb5 HBox.out (Array.getElem?_eq_some_iff.1 HBox.out).1
   have hnode5:=heap_below hb5 HNode.out (Array.getElem?_eq_some_iff.1 HNode.out).1
   have HBox5:=Hd hbox5
   have HNode5:=Hd hnode5
   have HOwn5:=Hd (fun b hb=>(HMk.out.below hb5).own_lt (b:=b) hb)
   have hbx:¬Own8 M [vT,vR,vV',.slice pC cs.length cC,vA] (w.heap.size+1):=fun ho=>by
    rcases own8_vars vV ho with h|h
    ·have:=HOlt.out _ h;omega
    ·exact row_ne hbox5 (HMk.out.below hb5).v (by decide) h
   have hnx:¬Own8 M [vT,vR,vV',.slice pC cs.length cC,vA] w.heap.size:=(HMk.out.below hb5).not_own hnode5 (by kernel_rfl)
   have hkx:¬Own8 M [vT,vR,vV',.slice pC cs.length cC,vA] wr.heap.size:=(HMk.out.below hb5).not_own hk5 (by kernel_rfl)
   have hvx:∀g,(Value.slice pv j cv).ownBlock=some g→¬Own8 M [vT,vR,vV',.slice pC cs.length cC,vA] g:=fun g hg=>by
    obtain⟨ds,h⟩:=HRow.out.type hg
    exact HMk.out.not_own h (by kernel_rfl)
   have HBx:=Hd hbx
   have HNx5:=Hd hnx
   have HVx:=Hd hvx
   have hvlt:∀g,(Value.slice pv j cv).ownBlock=some g→g<wr.heap.size:=fun g hg=>HRow.out.lt hg
   have HVlt:=Hd hvlt
   have hvne:∀g,(Value.slice pv j cv).ownBlock=some g→g≠w.heap.size+1∧g≠w.heap.size∧g≠wr.heap.size:=fun g hg=>by
    have h1:=HGe.out g hg
    have h2:=hvlt g hg
    exact⟨by omega,by omega,by omega⟩
   have HVne:=Hd hvne
   obtain⟨us,hown,hcl⟩:=HRow.out
   rw[HLen.out] at hown
   have hown:wr.ownsRow 0 63 5 (.slice pv j cv) j us:=hown
   have HCl:=Hd hcl
   have HOwn:=Hd (owns_below hown hb5)
   let AS:World→Prop:=ArgS F d M ts rs vs nm sal nv cs acs vT vR vV' (.slice pC cs.length cC) vA false K w5
   let SS:Nat→World→Prop:=fun s W=>if s=0 then (∃x:Wb w5,W=x.1) else if s=1 then AS W else ∃W1,AS W1∧ApS 63 5 W1 pv j cv (us++argC A) W
   have hS0:SS 0 w5.drew:=⟨⟨w5.drew,(Below.refl _ _).drew⟩,rfl⟩
   have hKs:∀(m s:Nat) (W:World),s≤m→SS s W→∃x:Ks w5 (fun b=>b=w.heap.size+1∨b=w.heap.size∨b=wr.heap.size),W=x.1:=fun m s W _ h=>by
    have l1:=(Array.getElem?_eq_some_iff.1 hbox5).1
    have l2:=(Array.getElem?_eq_some_iff.1 hnode5).1
    have l3:=(Array.getElem?_eq_some_iff.1 hk5).1
    have h0:∀b,(b=w.heap.size+1∨b=w.heap.size∨b=wr.heap.size)→b<w5.heap.size∧¬Own8 M [vT,vR,vV',.slice pC cs.length cC,vA] b∧(Value.slice pv j cv).ownBlock≠some b:=by
     rintro b (rfl|rfl|rfl)
     ·exact⟨l1,hbx,fun e=>(hvne _ e).1 rfl⟩
     ·exact⟨l2,hnx,fun e=>(hvne _ e).2.1 rfl⟩
     ·exact⟨l3,hkx,fun e=>(hvne _ e).2.2 rfl⟩
    refine⟨⟨W,fun b hb=>?_⟩,rfl⟩
    obtain⟨q1,q2,q3⟩:=h0 b hb
    by_cases hs0:s=0
    ·subst hs0
     obtain⟨x,rfl⟩:∃x:Wb w5,W=x.1:=h
     exact x.2.block b q1
    ·by_cases hs1:s=1
     ·subst hs1
      have h:AS W:=h
      exact h.1.block b q1 q2
     ·have h:∃W1,AS W1∧ApS 63 5 W1 pv j cv (us++argC A) W:=by
       have h':SS s W:=h
       show ∃W1,AS W1∧_
       simpa only [SS,if_neg hs0,if_neg hs1] using h'
      obtain⟨W1,g1,g2⟩:=h
      exact (g2.chg.block b (Nat.lt_of_lt_of_le q1 g1.1.size) q3).trans (g1.1.block b q1 q2)
   have HKs:=Hd hKs
   obtain⟨k0,k1,k2,k3,k4⟩:=cells5 hk5
   obtain⟨n0,n1,n2,n3,n4⟩:=cells5 hnode5
   obtain⟨x0,x1,x2,x3,x4,x5,x6,x7,x8,x9⟩:=cells10 hbox5
   have B2:=fun x:Ks w5 (fun b=>b=w.heap.size+1∨b=w.heap.size∨b=wr.heap.size)=>x.cell (Or.inl rfl) x2
   have N0:=fun x:Ks w5 (fun b=>b=w.heap.size+1∨b=w.heap.size∨b=wr.heap.size)=>x.cell (Or.inr (Or.inl rfl)) n0
   have K0:=fun x:Ks w5 (fun b=>b=w.heap.size+1∨b=w.heap.size∨b=wr.heap.size)=>x.cell (Or.inr (Or.inr rfl)) k0
   have K1:=fun x:Ks w5 (fun b=>b=w.heap.size+1∨b=w.heap.size∨b=wr.heap.size)=>x.cell (Or.inr (Or.inr rfl)) k1
   have K2:=fun x:Ks w5 (fun b=>b=w.heap.size+1∨b=w.heap.size∨b=wr.heap.size)=>x.cell (Or.inr (Or.inr rfl)) k2
   have K3:=fun x:Ks w5 (fun b=>b=w.heap.size+1∨b=w.heap.size∨b=wr.heap.size)=>x.cell (Or.inr (Or.inr rfl)) k3
   have K4:=fun x:Ks w5 (fun b=>b=w.heap.size+1∨b=w.heap.size∨b=wr.heap.size)=>x.cell (Or.inr (Or.inr rfl)) k4
   clear hA hb5 hk5 hbox5 hnode5 hbx hnx hkx hvx hvlt hvne hown hcl hKs k0 k1 k2 k3 k4 n0 n1 n2 n3 n4 x0 x1 x2 x3 x4 x5 x6 x7 x8 x9 hfit hkk h6 h1 h2 h3 h4 hnk hK
   go_upto_region 13 with fail
   change Code.wp _ _ _ _ (wr.alloc (.cells #[.int .u8 K.kind,.string K.text,.int .i64 K.num,.int .i64 K.place,.slice ps nk cs'] 25))
   rw[←hw5]
   clear hw5 c0 c1 c2 c3 c4 e0 e1 e2 e3 e4
   refine RP.wp_region_effP (by kernel_rfl) 11 [7,8,9] [7,9] SS (ApR w5) (fun i ys=>if i=7 then .agg #[.int .u8 A.kind,.int .i64 A.var,.int .u8 A.val.kind,.int .i64 A.val.num,.string A.val.text] else ys.getD 0 undef)
    (fun i W ys=>if i=7 then (∃x,argOne false vs K=.ok x) else if i=8 then One 63 w5.heap.size (argC A) W (ys.getD 0 undef) else if i=9 then ApV 63 5 w5 pv j cv (us++argC A) W (ys.getD 0 undef) else True)
    (fun ch W=>Chg (Own8 M [vT,vR,vV',.slice pC cs.length cC,vA]) w5 W∧∃er,argOne false vs K=.error er∧Ending.panicked ch=faultP er.1 er.2) ?_ (by kernel_rfl) ?_ ?_ hS0 ?_
   ·rintro a ch W hd ⟨hc,er,h1,h2⟩
    refine⟨hd,chg_step (HChg.out.trans (Chg.of_below HB5.out)) hc (fun x hx=>?_),?_⟩
    ·rcases own8_vars vV hx with h|h
     ·exact Or.inl h
     ·exact (HGr.out _ h).imp (fun h=>Or.inr ⟨_,by simp,h⟩) id
    ·show match condFact false 2 tr vars Ts with | .ok x=>_ | .error er=>_
     rw[HTk.out]
     show match condFact false 2 (.ok kk) vars Ts with | .ok x=>_ | .error er=>_
     unfold condFact
     dsimp only
     rw[HSt.out er h1]
     exact h2
   ·intro i he hc s W W' h hb
    by_cases hs0:s=0
    ·subst hs0
     exact wb_next h hb
    ·by_cases hs1:s=1
     ·subst hs1
      have h:AS W:=h
      exact ArgS.below h hb
     ·have h:∃W1,AS W1∧ApS 63 5 W1 pv j cv (us++argC A) W:=by simpa only [SS,if_neg hs0,if_neg hs1] using h
      obtain⟨W1,g1,g2⟩:=h
      have h':∃W1,AS W1∧ApS 63 5 W1 pv j cv (us++argC A) W':=⟨W1,g1,g2.below hb⟩
      simpa only [SS,if_neg hs0,if_neg hs1] using h'
   ·intro k W W' ys h _ hR
    split at h
    ·rw[if_pos (by assumption)];exact h
    ·rw[if_neg (by assumption)]
     split at h
     ·rw[if_pos (by assumption)];exact h.keep hR
     ·rw[if_neg (by assumption)]
      split at h
      ·rw[if_pos (by assumption)];exact h.keep hR
      ·rw[if_neg (by assumption)];trivial
   simp only[List.take_succ_cons,List.take_zero,List.drop_succ_cons,List.drop_zero]
   repeat (refine RP.wpE_read (fun W=>∃x:Ks w5 (fun b=>b=w.heap.size+1∨b=w.heap.size∨b=wr.heap.size),W=x.1) (HKs.out _) rfl rfl rfl hS0 ?_;go_big_quiet_step (fail);refine wpQuiet_nil ?_)
   refine RP.wpE_turn rfl rfl ?_ (fun ys7=>?_)
   ·intro W hC hS hE
    obtain⟨x,rfl⟩:∃x:Wb w5,W=x.1:=hS rfl
    refine RP.uponP_call 59 _ _ rfl (enters_of Tryz.func59 (by kernel_rfl) rfl) #[.pointer (some ⟨M,0,none⟩),.agg #[.int .u8 K.kind,.string K.text,.int .i64 K.num,.int .i64 K.place,.slice ps nk cs'],.bool false] (by simp[Act.eval]) ((HArg.out x.1 x.2).mono ?_)
    rintro e W' ⟨hb,he⟩
    cases hr:argOne false vs K with
    | error er =>
     rw[hr] at he
     have he:e=faultP er.1 er.2:=he
     subst he
     exact Or.inr ⟨_,rfl,(Chg.of_below x.2).trans hb,er,rfl,rfl⟩
    | ok xa =>
     rw[hr] at he
     obtain⟨rfl,vV2,g1,g2⟩:=he
     have hxs:=x.2.size
     refine Or.inl ⟨_,rfl,[],?_,?_,?_,xa,rfl⟩
     ·show Value.agg (argC xa.2).toArray=.agg (argC A).toArray
      rw[HA.out xa hr]
     ·exact⟨(Chg.of_below x.2).trans hb,xa,vV2,hr,g1,fun b hb=>(g2 b hb).imp id (fun h=>Nat.le_trans hxs h)⟩
     ·exact ApR.of_chg hb HOwn5.out
   simp only[Act.put,List.setIfInBounds_toArray,List.set_cons_zero,List.set_cons_succ,Nat.reduceAdd,↓reduceIte]
   refine RP.wpE_turn rfl rfl ?_ (fun ys8=>?_)
   ·intro W hC hS hE
    have hsz:w5.heap.size≤W.heap.size:=by
     obtain⟨s,_,h⟩:=hC
     have h:SS s W:=h
     by_cases hs0:s=0
     ·subst hs0
      obtain⟨x,rfl⟩:∃x:Wb w5,W=x.1:=h
      exact x.2.size
     ·by_cases hs1:s=1
      ·subst hs1
       have h:AS W:=h
       exact h.1.size
      ·have h:∃W1,AS W1∧ApS 63 5 W1 pv j cv (us++argC A) W:=by simpa only [SS,if_neg hs0,if_neg hs1] using h
       obtain⟨W1,g1,g2⟩:=h
       exact Nat.le_trans g1.1.size g2.chg.size
    exact RP.UponP.of (upon_one elemArg (vs:=argC A) _ rfl rfl rfl hsz (fun v W' hb ho=>⟨[v],rfl,hb,ApR.of_below hb,ho⟩))
   simp only[Act.put,List.setIfInBounds_toArray,List.set_cons_zero,List.set_cons_succ,Nat.reduceAdd,Nat.reduceEqDiff,↓reduceIte]
   refine RP.wpE_turn rfl rfl ?_ (fun ys9=>?_)
   ·intro W hC hS hE
    have hS:AS W:=hS rfl
    have hown:W.ownsRow 0 63 5 (.slice pv j cv) j us:=owns_keep HOwn.out (fun g hg=>hS.1.block g (Nat.lt_of_lt_of_le (HVlt.out g hg) HB5.out.size) (HVx.out g hg))
    exact RP.UponP.of (upon_ap2 elemArg (p:=pv) (n:=j) (c:=cv) (L:=w5.heap.size) (vs:=argC A) (xs:=us) _ _ rfl rfl (hE 8 ys8 (by kernel_rfl) rfl) rfl (by simp[Value.oneCell',argC]) hown (by omega) (fun v' W' h1 h2 =>
     ⟨[v'],rfl,⟨W,hS,h1⟩,ApR.of_chg h1.chg (fun b hb=>Nat.lt_of_lt_of_le (HVlt.out b hb) HB5.out.size),h2.from hS.1.size⟩))
   simp only[Act.put,List.setIfInBounds_toArray,List.set_cons_zero,List.set_cons_succ,Nat.reduceAdd,Nat.reduceEqDiff,↓reduceIte]
   repeat (refine RP.wpE_read (fun W=>∃x:Ks w5 (fun b=>b=w.heap.size+1∨b=w.heap.size∨b=wr.heap.size),W=x.1) (HKs.out _) rfl rfl rfl hS0 ?_;go_big_quiet_step (fail);refine wpQuiet_nil ?_)
   refine RP.wpE_nil ?_
   intro W hS hE
   obtain⟨W1,hAS,hAp⟩:∃W1,AS W1∧ApS 63 5 W1 pv j cv (us++argC A) W:=hS
   have hV:ApV 63 5 w5 pv j cv (us++argC A) W (ys9.getD 0 undef):=hE 9 ys9 rfl
   obtain⟨g',cap',eg,hg,hC,hrow⟩:=ap_end2 hAp hV
   rw[eg]
   obtain⟨hC1,x,vV2,hxa,hmk1,hgr2⟩:=hAS
   have hxA:=HA.out x hxa
   have hfit:=HFitA.out x hxa
   have hsz5:=HB5.out.size
   have hs5:=HBox5.out
   have hszr:w.heap.size+2≤wr.heap.size:=by
    have:=(Array.getElem?_eq_some_iff.1 HBox.out).1;omega
   have hgv:∀g,(Value.slice pv j cv).ownBlock=some g→¬Own8 M [vT,vR,vV2,.slice pC cs.length cC,vA] g:=fun g hg2=>by
    obtain⟨ds,h⟩:=HRow.out.type hg2
    have h5:=heap_below HB5.out h (HVlt.out g hg2)
    have h1:=(hC1.block g (Nat.lt_of_lt_of_le (HVlt.out g hg2) hsz5) (HVx.out g hg2)).trans h5
    exact hmk1.not_own h1 (by kernel_rfl)
   have hb1:W1.heap[w.heap.size+1]? = some (.cells #[Value.int .u8 2,Value.int .i64 (kk:Int),Value.slice pv j cv,Value.int .u8 0,Value.int .u8 0,Value.int .i64 0,Value.string ⟨#[]⟩,Value.int .i64 0,Value.int .u8 0,Value.slice none 0 0] 60 (0,0)):=(hC1.block _ (Array.getElem?_eq_some_iff.1 hs5).1 HBx.out).trans hs5
   have hn1:W1.heap[w.heap.size]? = some (.cells #[Value.int .u8 6,Value.string T.text,Value.int .i64 T.num,Value.int .i64 T.place,Value.slice (some ⟨b,off,none⟩) n c] 25 (0,0)):=(hC1.block _ (Array.getElem?_eq_some_iff.1 HNode5.out).1 HNx5.out).trans HNode5.out
   have hbW:W.heap[w.heap.size+1]? = some (.cells #[Value.int .u8 2,Value.int .i64 (kk:Int),Value.slice pv j cv,Value.int .u8 0,Value.int .u8 0,Value.int .i64 0,Value.string ⟨#[]⟩,Value.int .i64 0,Value.int .u8 0,Value.slice none 0 0] 60 (0,0)):=(hC.block _ (Array.getElem?_eq_some_iff.1 hb1).1 (fun e=>(HVne.out _ e).1 rfl)).trans hb1
   have hnW:=(hC.block _ (Array.getElem?_eq_some_iff.1 hn1).1 (fun e=>(HVne.out _ e).2.1 rfl)).trans hn1
   have hmkW:MkW F d M ts rs x.1 nm sal nv cs acs vT vR vV2 (.slice pC cs.length cC) vA W:=hmk1.upd hC.size (fun q hq=>by
    rcases hq with hq|hq
    ·exact hC.block q (hmk1.f q hq).1 (fun e=>by have:=HGe.out q e;have:=HFlt.out q hq;omega)
    ·exact hC.block q (hmk1.own_lt hq) (fun e=>hgv q e hq))
   have hgb:g'≠w.heap.size+1∧g'≠w.heap.size∧w.heap.size+2≤g':=by
    rcases hg with h|h
    ·exact⟨(HVne.out g' h).1,(HVne.out g' h).2.1,HGe.out g' h⟩
    ·exact⟨by omega,by omega,by omega⟩
   have hbx2:¬Own8 M [vT,vR,vV2,.slice pC cs.length cC,vA] (w.heap.size+1):=fun ho=>by
    rcases own8_vars vV ho with h|h
    ·have:=HOlt.out _ h;omega
    ·exact row_ne hbW hmkW.v (by decide) h
   obtain⟨W6,hW6⟩:∃W6,W6=W.setCell ⟨w.heap.size+1,2,none⟩ (.slice (some ⟨g',0,none⟩) (j+1) cap'):=⟨_,rfl⟩
   have hot:∀q,q≠w.heap.size+1→W6.heap[q]? = W.heap[q]?:=fun q hq=>by rw[hW6];exact Below.heap_setCell W ⟨w.heap.size+1,2,none⟩ _ q hq
   have hsz6:W6.heap.size=W.heap.size:=by rw[hW6];simp[World.setCell]
   have HR:Hid (CondRel F d M ts rs vars nm sal nv cs acs vT vR vV (.slice pC cs.length cC) vA T 6 w false 2 kk Ts n (.slice (some ⟨b,off,none⟩) n c) (.int .i64 ((j+1:Nat):Int)) W6):=by
    refine⟨j+1,x.1,args++[x.2],.slice (some ⟨g',0,none⟩) (j+1) cap',vV2,by omega,rfl,?_,by rw[List.length_append,HLen.out];rfl,hfit.2,?_,(hot _ (by omega)).trans hnW,?_,?_,?_,?_,?_⟩
    ·rw[HNx.out]
     show (match argOne false vs K with | .ok r=>_ | .error e=>_)=_
     rw[hxa]
    ·rw[hW6];exact heap_set hbW 2 _
    ·refine⟨us++argC A,?_,?_⟩
     ·rw[List.length_append,HLen.out]
      exact owns_keep hrow (fun q hq=>by injection hq with hq;have hq:g'=q:=hq;subst hq;exact hot g' hgb.1)
     ·exact Rd.cells_snoc (Rd.cells_keep (fun _ hb=>hb.elim) HCl.out) (by rw[hxA];exact arg_at.2 ⟨rfl,by rw[←hxA];exact hfit.1⟩)
    ·intro g hg2
     injection hg2 with hg2
     have hg2:g'=g:=hg2
     subst hg2
     exact hgb.2.2
    ·refine hmkW.upd (by rw[hsz6];exact Nat.le_refl _) (fun q hq=>hot q ?_)
     rcases hq with hq|hq
     ·have:=HFlt.out q hq;omega
     ·exact fun e=>hbx2 (e ▸ hq)
    ·intro q hq
     rcases hgr2 q hq with h|h
     ·exact HGr.out q h
     ·exact Or.inr (by omega)
    ·have h1:Chg (Own8 M [vT,vR,vV,.slice pC cs.length cC,vA]) w W1:=chg_step (HChg.out.trans (Chg.of_below HB5.out)) hC1 (fun x hx=>by
      rcases own8_vars vV hx with h|h
      ·exact Or.inl h
      ·exact (HGr.out _ h).imp (fun h=>Or.inr ⟨_,by simp,h⟩) id)
     have h2:Chg (Own8 M [vT,vR,vV,.slice pC cs.length cC,vA]) w W:=chg_step h1 hC (fun x hx=>Or.inr (by have:=HGe.out x hx;omega))
     rw[hW6]
     exact h2.setCell (p:=⟨w.heap.size+1,2,none⟩) (Or.inr (Nat.le_succ _)) _
   obtain⟨x0,x1,x2,x3,x4,x5,x6,x7,x8,x9⟩:=cells10 hbW
   have fz:=frozenAll hbW
   clear hE hV eg hg hC hrow hC1 hxa hmk1 hgr2 hxA hfit hsz5 hs5 hszr hgv hb1 hn1 hbW hnW hmkW hgb hbx2 hot hsz6 hAp hS0 B2 N0 K0 K1 K2 K3 K4 x0 x1 x3 x4 x5 x6 x7 x8 x9
   go_upto_region 14 with fail
   change Code.wp _ _ _ _ (W.setCell ⟨w.heap.size+1,2,none⟩ (.slice (some ⟨g',0,none⟩) (j+1) cap'))
   rw[←hW6]
   clear hW6 x2 fz
   go_wp2_with fail
   refine⟨HR.out,?_⟩
   simp[intOf];omega
  ·have HX:Hid (foldE (argStep false) (vars,[]) Ts=.ok (vs,args)):=by
    show _=_
    rw[←HFold.out,List.take_of_length_le (by rw[HTn.out];omega)]
   have HRes:Hid (condFact false 2 tr vars Ts=.ok (vs,⟨2,(kk:Int),args,.zero⟩)):=by
    show _=_
    rw[HTk.out]
    unfold condFact
    dsimp only
    rw[HX.out]
   have HS5:Hid (w.heap.size≤wr.heap.size):=HChg.out.size
   have HWr:Hid (MkW (fun q=>F q∨(Value.slice pv j cv).ownBlock=some q) d M ts rs vs nm sal nv cs acs vT vR vV' (.slice pC cs.length cC) vA wr):=by
    refine HMk.out.grow (fun _ h=>Or.inl h) (fun q hq=>?_)
    rcases hq with hq|hq
    ·exact HMk.out.f q hq
    ·obtain⟨ds,h⟩:=HRow.out.type hq
     exact⟨HRow.out.lt hq,HMk.out.not_own h (by kernel_rfl)⟩
   have HArgs:Hid (argRd.row wr (fun q=>F q∨(Value.slice pv j cv).ownBlock=some q) args (.slice pv j cv)):=HRow.out.row (fun _ h=>h.elim) (fun g hg=>Or.inr hg)
   clear e0 e1 e2 e3 e4 HBel
   go_upto_region 17 with fail
   obtain⟨us,hown,hcl⟩:=HWr.out.c
   rw[HN.out,condRd_n] at hown
   have HOwn:=Hd hown
   have HCl:=Hd hcl
   have e0:wr.cell? ⟨w.heap.size+1,0,none⟩=some (Value.int .u8 2):=by rw[cell_of_row _ _ _ _ _ _ HBox.out];rfl
   have e1:wr.cell? ⟨w.heap.size+1,1,none⟩=some (Value.int .i64 (kk:Int)):=by rw[cell_of_row _ _ _ _ _ _ HBox.out];rfl
   have e2:wr.cell? ⟨w.heap.size+1,2,none⟩=some (Value.slice pv j cv):=by rw[cell_of_row _ _ _ _ _ _ HBox.out];rfl
   have e3:wr.cell? ⟨w.heap.size+1,3,none⟩=some (Value.int .u8 0):=by rw[cell_of_row _ _ _ _ _ _ HBox.out];rfl
   have e4:wr.cell? ⟨w.heap.size+1,4,none⟩=some (Value.int .u8 0):=by rw[cell_of_row _ _ _ _ _ _ HBox.out];rfl
   have e5:wr.cell? ⟨w.heap.size+1,5,none⟩=some (Value.int .i64 0):=by rw[cell_of_row _ _ _ _ _ _ HBox.out];rfl
   have e6:wr.cell? ⟨w.heap.size+1,6,none⟩=some (Value.string ⟨#[]⟩):=by rw[cell_of_row _ _ _ _ _ _ HBox.out];rfl
   have e7:wr.cell? ⟨w.heap.size+1,7,none⟩=some (Value.int .i64 0):=by rw[cell_of_row _ _ _ _ _ _ HBox.out];rfl
   have e8:wr.cell? ⟨w.heap.size+1,8,none⟩=some (Value.int .u8 0):=by rw[cell_of_row _ _ _ _ _ _ HBox.out];rfl
   have e9:wr.cell? ⟨w.heap.size+1,9,none⟩=some (Value.slice none 0 0):=by rw[cell_of_row _ _ _ _ _ _ HBox.out];rfl
   have hm2:wr.cell? ⟨M,6,none⟩=some (.slice pC nC cC):=by rw[cell_of_row _ _ _ _ _ _ HWr.out.m,←HN.out];rfl
   have hK:∀b,(b=M∨b=w.heap.size+1)→b<wr.heap.size∧(Value.slice pC nC cC).ownBlock≠some b:=fun b hb=>by
    rw[←HN.out]
    rcases hb with rfl|rfl
    ·exact⟨HWr.out.lt,row_ne HWr.out.m HWr.out.c (by decide)⟩
    ·exact⟨(Array.getElem?_eq_some_iff.1 HBox.out).1,fun e=>by have:=HClt.out _ e;omega⟩
   have HKs:=Hd (ap_ks (E:=60) (sz:=10) (row:=us++[Value.int .u8 2,Value.int .i64 (kk:Int),Value.slice pv j cv,Value.int .u8 0,Value.int .u8 0,Value.int .i64 0,Value.string ⟨#[]⟩,Value.int .i64 0,Value.int .u8 0,Value.slice none 0 0]) (K:=(fun b=>b=M∨b=w.heap.size+1)) hK)
   have E0:=fun x:Ks wr (fun b=>b=M∨b=w.heap.size+1)=>x.cell (Or.inr rfl) e0
   have E1:=fun x:Ks wr (fun b=>b=M∨b=w.heap.size+1)=>x.cell (Or.inr rfl) e1
   have E2:=fun x:Ks wr (fun b=>b=M∨b=w.heap.size+1)=>x.cell (Or.inr rfl) e2
   have E3:=fun x:Ks wr (fun b=>b=M∨b=w.heap.size+1)=>x.cell (Or.inr rfl) e3
   have E4:=fun x:Ks wr (fun b=>b=M∨b=w.heap.size+1)=>x.cell (Or.inr rfl) e4
   have E5:=fun x:Ks wr (fun b=>b=M∨b=w.heap.size+1)=>x.cell (Or.inr rfl) e5
   have E6:=fun x:Ks wr (fun b=>b=M∨b=w.heap.size+1)=>x.cell (Or.inr rfl) e6
   have E7:=fun x:Ks wr (fun b=>b=M∨b=w.heap.size+1)=>x.cell (Or.inr rfl) e7
   have E8:=fun x:Ks wr (fun b=>b=M∨b=w.heap.size+1)=>x.cell (Or.inr rfl) e8
   have E9:=fun x:Ks wr (fun b=>b=M∨b=w.heap.size+1)=>x.cell (Or.inr rfl) e9
   have M2:=fun x:Ks wr (fun b=>b=M∨b=w.heap.size+1)=>x.cell (Or.inl rfl) hm2
   clear hown hcl e0 e1 e2 e3 e4 e5 e6 e7 e8 e9 hm2 hK
   refine RE.wp_region_eff (by kernel_rfl) 9 [7,8] [8] (stA 60 10 wr pC nC cC (us++[Value.int .u8 2,Value.int .i64 (kk:Int),Value.slice pv j cv,Value.int .u8 0,Value.int .u8 0,Value.int .i64 0,Value.string ⟨#[]⟩,Value.int .i64 0,Value.int .u8 0,Value.slice none 0 0])) (ApR wr) (fun _ ys=>ys.getD 0 undef) (phA 60 10 wr pC nC cC [Value.int .u8 2,Value.int .i64 (kk:Int),Value.slice pv j cv,Value.int .u8 0,Value.int .u8 0,Value.int .i64 0,Value.string ⟨#[]⟩,Value.int .i64 0,Value.int .u8 0,Value.slice none 0 0] (us++[Value.int .u8 2,Value.int .i64 (kk:Int),Value.slice pv j cv,Value.int .u8 0,Value.int .u8 0,Value.int .i64 0,Value.string ⟨#[]⟩,Value.int .i64 0,Value.int .u8 0,Value.slice none 0 0]) 7 8) (by kernel_rfl) (fun _ _ _ _ _ _ h hb=>h.below hb) (fun _ _ _ _ h _ hR=>h.keep hR) stA.zero ?_
   simp only[List.take_succ_cons,List.take_zero,List.drop_succ_cons,List.drop_zero]
   repeat (refine RE.wpE_read (fun W=>∃x:Ks wr (fun b=>b=M∨b=w.heap.size+1),W=x.1) (HKs.out _) rfl rfl rfl stA.zero ?_;go_big_quiet_step (fail);refine wpQuiet_nil ?_)
   refine RE.wpE_turn rfl rfl ?_ (fun ys7=>?_)
   ·intro W hC hS hE
    obtain⟨s9,_,h9⟩:=hC
    exact upon_one elemCond (vs:=[Value.int .u8 2,Value.int .i64 (kk:Int),Value.slice pv j cv,Value.int .u8 0,Value.int .u8 0,Value.int .i64 0,Value.string ⟨#[]⟩,Value.int .i64 0,Value.int .u8 0,Value.slice none 0 0]) _ rfl rfl rfl h9.size (fun v W' hb ho=>⟨[v],rfl,hb,ApR.of_below hb,ho⟩)
   simp only[Act.put,List.setIfInBounds_toArray,List.set_cons_zero,List.set_cons_succ]
   refine RE.wpE_turn rfl rfl ?_ (fun ys8=>?_)
   ·intro W hC hS hE
    obtain⟨x,rfl⟩:∃x:Wb wr,W=x.1:=hS rfl
    exact upon_ap elemCond (p:=pC) (n:=nC) (c:=cC) (w4:=wr) (vs:=[Value.int .u8 2,Value.int .i64 (kk:Int),Value.slice pv j cv,Value.int .u8 0,Value.int .u8 0,Value.int .i64 0,Value.string ⟨#[]⟩,Value.int .i64 0,Value.int .u8 0,Value.slice none 0 0]) (xs:=us) _ _ rfl rfl (hE 7 ys7 (by kernel_rfl) rfl) rfl (by simp[Value.oneCell']) x.2 HOwn.out (by omega) (fun v' W' h1 h2 h3=>⟨[v'],rfl,h1,h2,h3⟩)
   simp only[Act.put,List.setIfInBounds_toArray,List.set_cons_zero,List.set_cons_succ]
   refine RE.wpE_nil ?_
   intro W hS hE
   have hS:ApS 60 10 wr pC nC cC (us++[Value.int .u8 2,Value.int .i64 (kk:Int),Value.slice pv j cv,Value.int .u8 0,Value.int .u8 0,Value.int .i64 0,Value.string ⟨#[]⟩,Value.int .i64 0,Value.int .u8 0,Value.slice none 0 0]) W:=hS
   have hV:ApV 60 10 wr pC nC cC (us++[Value.int .u8 2,Value.int .i64 (kk:Int),Value.slice pv j cv,Value.int .u8 0,Value.int .u8 0,Value.int .i64 0,Value.string ⟨#[]⟩,Value.int .i64 0,Value.int .u8 0,Value.slice none 0 0]) W (ys8.getD 0 undef):=hE 8 ys8 rfl
   obtain⟨g',cap,eg,hg,hC,hrow⟩:=ap_end hS hV
   rw[eg]
   have hC1:Chg (fun b=>(Value.slice pC cs.length cC).ownBlock=some b) wr W:=by rw[HN.out];exact hC
   have hg1:(Value.slice pC cs.length cC).ownBlock=some g'∨wr.heap.size≤g':=by rw[HN.out];exact hg
   have hx4:(condRd d).at_ wr (fun q=>F q∨(Value.slice pv j cv).ownBlock=some q) ⟨2,(kk:Int),args,.zero⟩ [Value.int .u8 2,Value.int .i64 (kk:Int),Value.slice pv j cv,Value.int .u8 0,Value.int .u8 0,Value.int .i64 0,Value.string ⟨#[]⟩,Value.int .i64 0,Value.int .u8 0,Value.slice none 0 0]:=cond_at.2 ⟨show U8 2 from ⟨by decide,by decide⟩,⟨by show (-9223372036854775808:Int)≤(kk:Int);omega,by show (kk:Int)<9223372036854775808;omega⟩,⟨show U8 0 from ⟨by decide,by decide⟩,⟨show U8 0 from ⟨by decide,by decide⟩,show I64 0 from ⟨by decide,by decide⟩,(show (⟨#[]⟩:ByteArray).size≤maxLen by decide)⟩,show I64 0 from ⟨by decide,by decide⟩,show U8 0 from ⟨by decide,by decide⟩⟩,.slice pv j cv,.slice none 0 0,rfl,HArgs.out,ekids_nil⟩
   obtain⟨hW6,hC6,hMb⟩:=HWr.out.pushC HN.out HCl.out hx4 hg1 hC1 (by rw[condRd_n];exact hrow)
   have hm2:W.cell? ⟨M,6,none⟩=some (.slice pC nC cC):=by rw[cell_of_row _ _ _ _ _ _ (hMb.trans HWr.out.m),←HN.out];rfl
   have hf2:=frozen_of (hMb.trans HWr.out.m) 6
   have HP:Hid (CondPost F d M ts rs nm sal nv cs acs vT vR vV (.slice pC cs.length cC) vA (.ok (vs,⟨2,(kk:Int),args,.zero⟩)) w (.returned (.bool true)) (W.setCell ⟨M,6,none⟩ (.slice (some ⟨g',0,none⟩) (nC+1) cap))):=by
    refine⟨chg_step HChg.out hC6 (fun x hx=>by rcases own8_vars vV hx with h|h;exact Or.inl h;exact (HGr.out _ h).imp (fun h=>Or.inr ⟨_,by simp,h⟩) id),rfl,(fun q=>F q∨(Value.slice pv j cv).ownBlock=some q),vV',_,hW6,HGr.out,fun b hb=>?_,fun _ h=>Or.inl h,fun b h=>h.imp id (fun h=>by have:=HGe.out b h;omega)⟩
    injection hb with hb
    have hb:g'=b:=hb
    subst hb
    rcases hg1 with h|h
    ·exact Or.inl h
    ·have:=HS5.out;exact Or.inr (by omega)
   clear hS hV hE eg hg hC hrow hC1 hg1 hW6 hC6 hMb E0 E1 E2 E3 E4 E5 E6 E7 E8 E9 M2 HKs hx4
   go_wp2_with fail
   go_ret
   rw[HRes.out]
   exact HP.out
end Go.Proofs.YtglbjooofdnbkaaGreatDoor
