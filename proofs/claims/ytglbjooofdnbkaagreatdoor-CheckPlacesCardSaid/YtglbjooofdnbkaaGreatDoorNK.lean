/- Several texts joined, each with its own sentence and conditions ahead of it: MkU, MkV. -/
import Derived.Test.YtglbjooofdnbkaaGreatDoorNJ
namespace Go.Proofs.YtglbjooofdnbkaaGreatDoor
set_option maxHeartbeats 1000000
set_option maxRecDepth 100000
open Go.RowKit
def notCond (t:Tree):Bool:=!condB t
def hasName (x:ByteArray) (t:Tree):Bool:=t.text.data.toList==x.data.toList
def idxP (q:Tree→Bool):List Tree→Nat→Option Nat
 | [],_=>none
 | K::l,k=>if q K then some k else idxP q l (k+1)
theorem idxP_hit (q:Tree→Bool):∀(l:List Tree)(m k:Nat)(K:Tree),l[k]? = some K→q K=true→(∀(j:Nat)(z:Tree),j<k→l[j]? = some z→q z=false)→idxP q l m=some (m+k)
 | [],m,k,K,h,_,_=>by simp at h
 | z::l,m,0,K,h,he,_=>by
  simp only[List.getElem?_cons_zero,Option.some.injEq] at h
  subst h
  unfold idxP
  rw[if_pos he];rfl
 | z::l,m,k+1,K,h,he,hno=>by
  rw[List.getElem?_cons_succ] at h
  have h0:=hno 0 z (by omega) rfl
  unfold idxP
  rw[h0]
  simp only[Bool.false_eq_true,if_false]
  rw[idxP_hit q l (m+1) k K h he (fun j z' hj hz=>hno (j+1) z' (by omega) (by rw[List.getElem?_cons_succ];exact hz))]
  congr 1;omega
theorem idxP_miss (q:Tree→Bool):∀(l:List Tree)(m:Nat),(∀(j:Nat)(z:Tree),l[j]? = some z→q z=false)→idxP q l m=none
 | [],m,_=>rfl
 | z::l,m,hno=>by
  unfold idxP
  rw[hno 0 z rfl]
  simp only[Bool.false_eq_true,if_false]
  exact idxP_miss q l (m+1) (fun j z' hz=>hno (j+1) z' (by rw[List.getElem?_cons_succ];exact hz))
theorem idxP_conds:∀(l:List Tree)(m:Nat),(match idxP notCond l m with|some k=>k=m+condsM l|none=>condsM l=l.length)
 | [],m=>rfl
 | z::l,m=>by
  unfold idxP condsM
  rw[List.takeWhile_cons]
  cases h:condB z with
  | true =>
   have h':notCond z=false:=by unfold notCond;rw[h];rfl
   simp only[h',Bool.false_eq_true,if_false,if_true,List.length_cons]
   have:=idxP_conds l (m+1)
   unfold condsM at this
   cases hi:idxP notCond l (m+1) with
   | none =>
    rw[hi] at this
    have this:(List.takeWhile condB l).length=l.length:=this
    show (List.takeWhile condB l).length+1=l.length+1
    omega
   | some k =>
    rw[hi] at this
    have this:k=m+1+(List.takeWhile condB l).length:=this
    show k=m+((List.takeWhile condB l).length+1)
    omega
  | false =>
   have h':notCond z=true:=by unfold notCond;rw[h];rfl
   simp[h']
theorem idxP_name (x:ByteArray):∀(l:List Tree)(m:Nat),(idxP (hasName x) l m).isSome=(idxB x (l.map Tree.text) m).isSome
 | [],m=>rfl
 | z::l,m=>by
  unfold idxP hasName
  rw[List.map_cons]
  unfold idxB
  cases h:(z.text.data.toList==x.data.toList) with
  | true=>simp
  | false =>
   simp only[Bool.false_eq_true,if_false]
   exact idxP_name x l (m+1)
def FirstRel (w:World) (n:Nat) (l:List Tree) (q:Tree→Bool) (i:Value) (W:World):Prop:=∃k:Nat,k≤n∧i=.int .i64 (k:Int)∧Below w.heap.size w W∧(∀(j:Nat) (z:Tree),j<k→l[j]? = some z→q z=false)
theorem conds1_any (T:Tree)(s:Value)(w:World) :
  Calls Tryz.prog 57 #[.agg #[.int .u8 T.kind,.string T.text,.int .i64 T.num,.int .i64 T.place,s]] w fun e w'=>e=.returned (.bool (notCond T))∧Below w.heap.size w w':=by
 have hb:Below w.heap.size w (w.alloc (.cells #[.int .u8 T.kind,.string T.text,.int .i64 T.num,.int .i64 T.place,s] 25)):=(Below.refl _ w).alloc (Nat.le_refl _) _
 have HB:=Hd hb
 obtain⟨k,hk⟩:∃k,T.kind=k:=⟨_,rfl⟩
 have HC:Hid (notCond T = !([5,6,7].contains k)):=by show _=_;rw[←hk];rfl
 obtain⟨e0,e1,e2,e3,e4⟩:=cells5 (heap_alloc_new w (.cells #[.int .u8 T.kind,.string T.text,.int .i64 T.num,.int .i64 T.place,s] 25))
 rw[hk] at e0 ⊢
 rw[hk] at HB
 clear hb hk
 by_cases h5:k=5
 ·subst h5
  go_enter Tryz.func57,Tryz.ntmps57
  go_wp2
  go_ret
  exact⟨by rw[HC.out];rfl,HB.out⟩
 by_cases h6:k=6
 ·subst h6
  go_enter Tryz.func57,Tryz.ntmps57
  go_wp2
  go_ret
  exact⟨by rw[HC.out];rfl,HB.out⟩
 by_cases h7:k=7
 ·subst h7
  go_enter Tryz.func57,Tryz.ntmps57
  go_wp2
  go_ret
  exact⟨by rw[HC.out];rfl,HB.out⟩
 have HF:Hid (notCond T=true):=by
  show _=_
  rw[HC.out]
  simp[h5,h6,h7]
 have k5:¬((k:Int)=5):=by omega
 have k6:¬((k:Int)=6):=by omega
 have k7:¬((k:Int)=7):=by omega
 go_enter Tryz.func57,Tryz.ntmps57
 go_wp2
 go_ret
 exact⟨by rw[HF.out];simp[k5,k6,k7],HB.out⟩
theorem idxC_any (Ts:List Tree)(v:Value)(dd:Nat)(w:World)(hks:KidsAt w w.heap.size (dd+1) Ts v)(hmx:Ts.length≤1000000) :
  Calls Tryz.prog 56 #[v,.func (.func 57) #[] #[]] w (fun e w'=>e=.returned (.int .i64 (idxI (idxP notCond Ts 0)))∧Below w.heap.size w w'):=by
 obtain⟨p,c,rfl⟩:=hks.slice
 obtain⟨n,hn⟩:∃n,Ts.length=n:=⟨_,rfl⟩
 have HV:=Hd (fun W (hW:Below w.heap.size w W)=>hks.below hW)
 rw[hn] at HV hmx ⊢
 have HN:=Hd hn
 clear hks hn
 go_enter Tryz.func56,Tryz.ntmps56
 go_wp2
 go_loopw [8] (FirstRel w n Ts notCond) (fun i _=>n-(intOf i).toNat)
 case atStart=>exact⟨0,Nat.zero_le _,rfl,Below.refl _ _,fun j z hj=>by omega⟩
 case round =>
  obtain⟨k,hk,rfl,hb,hno⟩:=hrel
  have hk0:(0:Int)≤k:=by omega
  have HB:=Hd hb
  have HNo:=Hd hno
  clear hno
  by_cases hlt:k<n
  ·have hk1:(k:Int)<n:=by omega
   obtain⟨K,hK⟩:∃K,Ts[k]? = some K:=⟨_,List.getElem?_eq_getElem (by rw[HN.out];exact hlt)⟩
   have hks:=HV.out wr hb
   rcases hks with ⟨rfl,_⟩|⟨b,off,cap,h1,h2,h3,h4,he,h6⟩
   ·simp at hK
   rw[HN.out] at he
   injection he with e1 _ e3
   subst e1;subst e3
   obtain⟨hfit,s,c0,c1,c2,c3,c4,hkk⟩:=h6 k K hK
   obtain⟨ps,cs',rfl⟩:=hkk.slice
   obtain⟨nk,hnk⟩:∃nk,K.kids.length=nk:=⟨_,rfl⟩
   rw[hnk] at c4
   have HK:=Hd (conds1_any K (.slice ps nk cs') wr)
   have HKx:Hid (Ts[k]? = some K):=hK
   clear hfit hkk h6 h1 h2 h3 h4 hnk hK hb
   go_wp2_with fail
   refine HK.out.mono ?_
   rintro e w1 ⟨rfl,hb1⟩
   have HB1:=Hd (HB.out.trans (hb1.mono HB.out.size))
   clear hb1 c0 c1 c2 c3 c4
   cases hq:notCond K with
   | true =>
    have HH:=Hd (idxP_hit notCond Ts 0 k K HKx.out hq HNo.out)
    clear hq
    go_wp2_with fail
    go_ret
    exact⟨by rw[HH.out,Nat.zero_add];rfl,HB1.out⟩
   | false =>
    have HQ:=Hd hq
    clear hq
    go_wp2_with fail
    exact⟨⟨k+1,by omega,by go_num,HB1.out,fun j z hj hz=>by
     by_cases h:j=k
     ·subst h
      rw[HKx.out] at hz
      injection hz with hz
      rw[←hz];exact HQ.out
     ·exact HNo.out j z (by omega) hz⟩,by simp[intOf];omega⟩
  ·have HH:Hid (idxP notCond Ts 0=none):=idxP_miss _ Ts 0 (fun j z hz=>HNo.out j z (by
    have:=(List.getElem?_eq_some_iff.1 hz).1
    rw[HN.out] at this
    omega) hz)
   clear hb
   go_wp2_with fail
   go_ret
   exact⟨by rw[HH.out];rfl,HB.out⟩
theorem conds_any (Ts:List Tree)(v:Value)(dd:Nat)(w:World)(hks:KidsAt w w.heap.size (dd+1) Ts v)(hmx:Ts.length≤1000000) :
  Calls Tryz.prog 30 #[v] w (fun e w'=>e=.returned (.int .i64 (condsM Ts:Int))∧Below w.heap.size w w'):=by
 obtain⟨p,c,hv⟩:=hks.slice
 have HI:=Hd (idxC_any Ts v dd w hks hmx)
 have HC:=Hd (idxP_conds Ts 0)
 rw[hv] at HI ⊢
 obtain⟨n,hn⟩:∃n,Ts.length=n:=⟨_,rfl⟩
 obtain⟨m,hm⟩:∃m,condsM Ts=m:=⟨_,rfl⟩
 rw[hm,hn] at HC
 rw[hn] at HI ⊢
 rw[hm]
 clear hks hv hn hm hmx
 cases hi:idxP notCond Ts 0 with
 | none =>
  rw[hi] at HC HI
  have hmn:m=n:=HC.out
  subst hmn
  have HI:Hid (Calls Tryz.prog 56 #[.slice p m c,.func (.func 57) #[] #[]] w (fun e w'=>e=.returned (.int .i64 (-1))∧Below w.heap.size w w')):=HI
  clear HC hi
  go_enter Tryz.func30,Tryz.ntmps30
  go_wp2_with fail
  refine HI.out.mono ?_
  rintro e w1 ⟨rfl,hb1⟩
  have HB:=Hd hb1
  clear hb1 HI
  go_wp2_with fail
  go_ret
  exact⟨rfl,HB.out⟩
 | some k =>
  rw[hi] at HC HI
  have hkm:k=0+m:=HC.out
  rw[Nat.zero_add] at hkm
  subst hkm
  have HI:Hid (Calls Tryz.prog 56 #[.slice p n c,.func (.func 57) #[] #[]] w (fun e w'=>e=.returned (.int .i64 (k:Int))∧Below w.heap.size w w')):=HI
  have hk0:¬((k:Int)<0):=by omega
  have hk1:(0:Int)≤k:=by omega
  clear HC hi
  go_enter Tryz.func30,Tryz.ntmps30
  go_wp2_with fail
  refine HI.out.mono ?_
  rintro e w1 ⟨rfl,hb1⟩
  have HB:=Hd hb1
  clear hb1 HI
  go_wp2_with fail
  go_ret
  exact⟨rfl,HB.out⟩
theorem kinds1_any (K:Tree)(s:Value)(x:ByteArray)(T:Nat)(w:World)(ht:w.cell? ⟨T,1,none⟩=some (.string x)) :
  Calls Tryz.prog 29 #[.agg #[.int .u8 K.kind,.string K.text,.int .i64 K.num,.int .i64 K.place,s],.pointer (some ⟨T,0,none⟩)] w fun e w'=>e=.returned (.bool (hasName x K))∧Below w.heap.size w w':=by
 have hT:=blk_lt ht
 have hb:Below w.heap.size w (w.alloc (.cells #[.int .u8 K.kind,.string K.text,.int .i64 K.num,.int .i64 K.place,s] 25)):=(Below.refl _ w).alloc (Nat.le_refl _) _
 have ht2:=(hb.cell (p:=⟨T,1,none⟩) hT).trans ht
 have HB:=Hd hb
 clear hb
 go_enter Tryz.func29,Tryz.ntmps29
 go_wp2
 go_ret
 exact⟨by unfold hasName;rw[ByteArray.toList_eq,ByteArray.toList_eq];rfl,HB.out⟩
theorem idxF_any (x:ByteArray)(T:Nat)(Ts:List Tree)(v:Value)(dd:Nat)(w:World)(hks:KidsAt w w.heap.size (dd+1) Ts v)(hmx:Ts.length≤1000000)(ht:w.cell? ⟨T,1,none⟩=some (.string x)) :
  Calls Tryz.prog 56 #[v,.func (.func 29) #[] #[.pointer (some ⟨T,0,none⟩)]] w (fun e w'=>e=.returned (.int .i64 (idxI (idxP (hasName x) Ts 0)))∧Below w.heap.size w w'):=by
 obtain⟨p,c,rfl⟩:=hks.slice
 obtain⟨n,hn⟩:∃n,Ts.length=n:=⟨_,rfl⟩
 have HV:=Hd (fun W (hW:Below w.heap.size w W)=>hks.below hW)
 have HTx:=Hd (fun W (hW:Below w.heap.size w W)=>(hW.cell (p:=⟨T,1,none⟩) (blk_lt ht)).trans ht)
 rw[hn] at HV hmx ⊢
 have HN:=Hd hn
 clear hks hn ht
 go_enter Tryz.func56,Tryz.ntmps56
 go_wp2
 go_loopw [8] (FirstRel w n Ts (hasName x)) (fun i _=>n-(intOf i).toNat)
 case atStart=>exact⟨0,Nat.zero_le _,rfl,Below.refl _ _,fun j z hj=>by omega⟩
 case round =>
  obtain⟨k,hk,rfl,hb,hno⟩:=hrel
  have hk0:(0:Int)≤k:=by omega
  have HB:=Hd hb
  have HNo:=Hd hno
  clear hno
  by_cases hlt:k<n
  ·have hk1:(k:Int)<n:=by omega
   obtain⟨K,hK⟩:∃K,Ts[k]? = some K:=⟨_,List.getElem?_eq_getElem (by rw[HN.out];exact hlt)⟩
   have hks:=HV.out wr hb
   rcases hks with ⟨rfl,_⟩|⟨b,off,cap,h1,h2,h3,h4,he,h6⟩
   ·simp at hK
   rw[HN.out] at he
   injection he with e1 _ e3
   subst e1;subst e3
   obtain⟨hfit,s,c0,c1,c2,c3,c4,hkk⟩:=h6 k K hK
   obtain⟨ps,cs',rfl⟩:=hkk.slice
   obtain⟨nk,hnk⟩:∃nk,K.kids.length=nk:=⟨_,rfl⟩
   rw[hnk] at c4
   have HK:=Hd (kinds1_any K (.slice ps nk cs') x T wr (HTx.out wr hb))
   have HKx:Hid (Ts[k]? = some K):=hK
   clear hfit hkk h6 h1 h2 h3 h4 hnk hK hb
   go_wp2_with fail
   refine HK.out.mono ?_
   rintro e w1 ⟨rfl,hb1⟩
   have HB1:=Hd (HB.out.trans (hb1.mono HB.out.size))
   clear hb1 c0 c1 c2 c3 c4
   cases hq:(hasName x) K with
   | true =>
    have HH:=Hd (idxP_hit (hasName x) Ts 0 k K HKx.out hq HNo.out)
    clear hq
    go_wp2_with fail
    go_ret
    exact⟨by rw[HH.out,Nat.zero_add];rfl,HB1.out⟩
   | false =>
    have HQ:=Hd hq
    clear hq
    go_wp2_with fail
    exact⟨⟨k+1,by omega,by go_num,HB1.out,fun j z hj hz=>by
     by_cases h:j=k
     ·subst h
      rw[HKx.out] at hz
      injection hz with hz
      rw[←hz];exact HQ.out
     ·exact HNo.out j z (by omega) hz⟩,by simp[intOf];omega⟩
  ·have HH:Hid (idxP (hasName x) Ts 0=none):=idxP_miss _ Ts 0 (fun j z hz=>HNo.out j z (by
    have:=(List.getElem?_eq_some_iff.1 hz).1
    rw[HN.out] at this
    omega) hz)
   clear hb
   go_wp2_with fail
   go_ret
   exact⟨by rw[HH.out];rfl,HB.out⟩
theorem contF_any (x:ByteArray)(T:Nat)(Ts:List Tree)(v:Value)(dd:Nat)(w:World)(hks:KidsAt w w.heap.size (dd+1) Ts v)(hmx:Ts.length≤1000000)(ht:w.cell? ⟨T,1,none⟩=some (.string x)) :
  Calls Tryz.prog 28 #[v,.func (.func 29) #[] #[.pointer (some ⟨T,0,none⟩)]] w (fun e w'=>e=.returned (.bool (idxOf x (Ts.map Tree.text)).isSome)∧Below w.heap.size w w'):=by
 have HI:=Hd (idxF_any x T Ts v dd w hks hmx ht)
 have HC:Hid ((idxOf x (Ts.map Tree.text)).isSome=(idxP (hasName x) Ts 0).isSome):=(idxP_name x Ts 0).symm
 rw[HC.out]
 obtain⟨p,c,hv⟩:=hks.slice
 rw[hv] at HI ⊢
 clear hks hmx ht HC hv
 cases hi:idxP (hasName x) Ts 0 with
 | none =>
  rw[hi] at HI
  have HI:Hid (Calls Tryz.prog 56 #[.slice p Ts.length c,.func (.func 29) #[] #[.pointer (some ⟨T,0,none⟩)]] w (fun e w'=>e=.returned (.int .i64 (-1))∧Below w.heap.size w w')):=HI
  clear hi
  go_enter Tryz.func28,Tryz.ntmps28
  go_wp2_with fail
  refine HI.out.mono ?_
  rintro e w1 ⟨rfl,hb1⟩
  have HB:=Hd hb1
  clear hb1 HI
  go_wp2_with fail
  go_ret
  exact⟨rfl,HB.out⟩
 | some k =>
  rw[hi] at HI
  have HI:Hid (Calls Tryz.prog 56 #[.slice p Ts.length c,.func (.func 29) #[] #[.pointer (some ⟨T,0,none⟩)]] w (fun e w'=>e=.returned (.int .i64 (k:Int))∧Below w.heap.size w w')):=HI
  have hk1:(0:Int)≤k:=by omega
  clear hi
  go_enter Tryz.func28,Tryz.ntmps28
  go_wp2_with fail
  refine HI.out.mono ?_
  rintro e w1 ⟨rfl,hb1⟩
  have HB:=Hd hb1
  clear hb1 HI
  go_wp2_with fail
  go_ret
  exact⟨rfl,HB.out⟩
structure MkB (F:Nat→Prop) (d M:Nat) (ts:List CType) (rs:List CRule) (vT vR:Value) (W:World):Prop where
 f:∀b,F b→b<W.heap.size∧¬Own8 M [vT,vR] b
 m:∃x2 x3 x4 x5 x6 x7,W.heap[M]? = some (.cells #[vT,vR,x2,x3,x4,x5,x6,x7] 77 (0,0))
 t:RowIn W F 48 typeRd ts vT
 r:RowIn W F 46 (ruleRd d) rs vR
section
variable {F F':Nat→Prop} {d M:Nat} {ts:List CType} {rs:List CRule} {vT vR:Value} {W W':World}
theorem MkB.lt (h:MkB F d M ts rs vT vR W):M<W.heap.size:=by
 obtain⟨x2,x3,x4,x5,x6,x7,hm⟩:=h.m
 exact (Array.getElem?_eq_some_iff.1 hm).1
theorem MkB.own_lt (h:MkB F d M ts rs vT vR W){b:Nat}(hb:Own8 M [vT,vR] b):b<W.heap.size:=by
 rcases hb with rfl|⟨v,hv,hb⟩
 ·exact h.lt
 ·simp only[List.mem_cons,List.not_mem_nil,or_false] at hv
  rcases hv with rfl|rfl
  ·exact h.t.lt hb
  ·exact h.r.lt hb
theorem MkB.upd (h:MkB F d M ts rs vT vR W)(hsz:W.heap.size≤W'.heap.size)(hk:∀b,(F b∨Own8 M [vT,vR] b)→W'.heap[b]? = W.heap[b]?):MkB F d M ts rs vT vR W':=by
 have h1:∀b,F b→∀o,W.heap[b]? = some o→W'.heap[b]? = some o:=fun b hb o ho=>(hk b (Or.inl hb)).trans ho
 have h2:∀v∈[vT,vR],∀g,v.ownBlock=some g→W'.heap[g]? = W.heap[g]?:=fun v hv g hg=>hk g (Or.inr (Or.inr ⟨v,hv,hg⟩))
 obtain⟨x2,x3,x4,x5,x6,x7,hm⟩:=h.m
 exact⟨fun b hb=>⟨Nat.lt_of_lt_of_le (h.f b hb).1 hsz,(h.f b hb).2⟩,⟨x2,x3,x4,x5,x6,x7,(hk M (Or.inr (Or.inl rfl))).trans hm⟩,h.t.keep (h2 _ (by simp)) h1 (fun _ h=>h),h.r.keep (h2 _ (by simp)) h1 (fun _ h=>h)⟩
theorem MkB.below (h:MkB F d M ts rs vT vR W)(hb:Below W.heap.size W W'):MkB F d M ts rs vT vR W':=
 h.upd hb.size fun b hb'=>hb.block b (by rcases hb' with h1|h1;exact (h.f b h1).1;exact h.own_lt h1)
theorem MkB.row_t (h:MkB F d M ts rs vT vR W):typeRd.row W (fun b=>b<W.heap.size) ts vT:=h.t.row (fun b hb=>(h.f b hb).1) (fun _g hg=>h.t.lt hg)
theorem MkB.row_r (h:MkB F d M ts rs vT vR W):(ruleRd d).row W (fun b=>b<W.heap.size) rs vR:=h.r.row (fun b hb=>(h.f b hb).1) (fun _g hg=>h.r.lt hg)
theorem MkB.cells (h:MkB F d M ts rs vT vR W):W.cell? ⟨M,0,none⟩=some vT∧W.cell? ⟨M,1,none⟩=some vR:=by
 obtain⟨x2,x3,x4,x5,x6,x7,hm⟩:=h.m
 exact⟨by rw[cell_of_row _ _ _ _ _ _ hm];rfl,by rw[cell_of_row _ _ _ _ _ _ hm];rfl⟩
theorem MkB.pushT {W4:World}{x:CType}{us vs:List Value}{g cap n:Nat}(h:MkB F d M ts rs vT vR W4)(hn:ts.length=n)(hc:typeRd.cells W4 F ts us)(hx:typeRd.at_ W4 F x vs)(hg:vT.ownBlock=some g∨W4.heap.size≤g)
  (hC:Chg (fun b=>vT.ownBlock=some b) W4 W) (hrow:W.ownsRow 0 48 typeRd.n (.slice (some ⟨g,0,none⟩) (n+1) cap) (n+1) (us++vs)) :
  MkB F d M (ts++[x]) rs (.slice (some ⟨g,0,none⟩) (n+1) cap) vR (W.setCell ⟨M,0,none⟩ (.slice (some ⟨g,0,none⟩) (n+1) cap))∧Chg (Own8 M [vT,vR]) W4 (W.setCell ⟨M,0,none⟩ (.slice (some ⟨g,0,none⟩) (n+1) cap))∧W.heap[M]? = W4.heap[M]?:=by
 obtain⟨x2,x3,x4,x5,x6,x7,hm⟩:=h.m
 have hMne:=row_ne hm h.t (by decide)
 have hw:∀b,b≠M→(W.setCell ⟨M,0,none⟩ (.slice (some ⟨g,0,none⟩) (n+1) cap)).heap[b]? = W.heap[b]?:=fun b hb=>Below.heap_setCell W ⟨M,0,none⟩ _ b hb
 have hM:W.heap[M]? = W4.heap[M]?:=hC.block M h.lt hMne
 have hgM:g≠M:=by
  rcases hg with hg|hg
  ·exact fun e=>hMne (e ▸ hg)
  ·have:=h.lt;omega
 have hF:∀b,F b→b<W4.heap.size∧vT.ownBlock≠some b∧b≠M:=fun b hb=>⟨(h.f b hb).1,fun e=>(h.f b hb).2 (Or.inr ⟨vT,by simp,e⟩),fun e=>(h.f b hb).2 (Or.inl e)⟩
 have hsz:(W.setCell ⟨M,0,none⟩ (.slice (some ⟨g,0,none⟩) (n+1) cap)).heap.size=W.heap.size:=by simp[World.setCell]
 have hs:∀b,F b→b<(W.setCell ⟨M,0,none⟩ (.slice (some ⟨g,0,none⟩) (n+1) cap)).heap.size∧¬Own8 M [(.slice (some ⟨g,0,none⟩) (n+1) cap),vR] b:=fun b hb=>by
  refine⟨by rw[hsz];exact Nat.lt_of_lt_of_le (h.f b hb).1 hC.size,fun ho=>?_⟩
  rcases ho with ho|⟨v,hv,ho⟩
  ·exact (hF b hb).2.2 ho
  ·simp only[List.mem_cons,List.not_mem_nil,or_false] at hv
   rcases hv with rfl|rfl
   ·injection ho with ho
    have ho:g=b:=ho
    subst ho
    rcases hg with hg|hg
    ·exact (hF g hb).2.1 hg
    ·have:=(hF g hb).1;omega
   ·exact (h.f b hb).2 (Or.inr ⟨v,by simp,ho⟩)
 refine⟨⟨hs,⟨x2,x3,x4,x5,x6,x7,heap_set (hM.trans hm) 0 _⟩,push_self hn hc hx hC hrow hF hgM hw,push_other h.r (row_ne hm h.r (by decide)) hC (fun g hg=>h.r.apart h.t (by decide) hg) hF hw⟩,?_,hM⟩
 exact (Chg.sub (G:=Own8 M [vT,vR]) hC (fun b hb=>Or.inr ⟨vT,by simp,hb⟩)).setCell (p:=⟨M,0,none⟩) (Or.inl (Or.inl rfl)) _
theorem MkB.pushR {W4:World}{x:CRule}{us vs:List Value}{g cap n:Nat}(h:MkB F d M ts rs vT vR W4)(hn:rs.length=n)(hc:(ruleRd d).cells W4 F rs us)(hx:(ruleRd d).at_ W4 F x vs)(hg:vR.ownBlock=some g∨W4.heap.size≤g)
  (hC:Chg (fun b=>vR.ownBlock=some b) W4 W) (hrow:W.ownsRow 0 46 (ruleRd d).n (.slice (some ⟨g,0,none⟩) (n+1) cap) (n+1) (us++vs)) :
  MkB F d M ts (rs++[x]) vT (.slice (some ⟨g,0,none⟩) (n+1) cap) (W.setCell ⟨M,1,none⟩ (.slice (some ⟨g,0,none⟩) (n+1) cap))∧Chg (Own8 M [vT,vR]) W4 (W.setCell ⟨M,1,none⟩ (.slice (some ⟨g,0,none⟩) (n+1) cap))∧W.heap[M]? = W4.heap[M]?:=by
 obtain⟨x2,x3,x4,x5,x6,x7,hm⟩:=h.m
 have hMne:=row_ne hm h.r (by decide)
 have hw:∀b,b≠M→(W.setCell ⟨M,1,none⟩ (.slice (some ⟨g,0,none⟩) (n+1) cap)).heap[b]? = W.heap[b]?:=fun b hb=>Below.heap_setCell W ⟨M,1,none⟩ _ b hb
 have hM:W.heap[M]? = W4.heap[M]?:=hC.block M h.lt hMne
 have hgM:g≠M:=by
  rcases hg with hg|hg
  ·exact fun e=>hMne (e ▸ hg)
  ·have:=h.lt;omega
 have hF:∀b,F b→b<W4.heap.size∧vR.ownBlock≠some b∧b≠M:=fun b hb=>⟨(h.f b hb).1,fun e=>(h.f b hb).2 (Or.inr ⟨vR,by simp,e⟩),fun e=>(h.f b hb).2 (Or.inl e)⟩
 have hsz:(W.setCell ⟨M,1,none⟩ (.slice (some ⟨g,0,none⟩) (n+1) cap)).heap.size=W.heap.size:=by simp[World.setCell]
 have hs:∀b,F b→b<(W.setCell ⟨M,1,none⟩ (.slice (some ⟨g,0,none⟩) (n+1) cap)).heap.size∧¬Own8 M [vT,(.slice (some ⟨g,0,none⟩) (n+1) cap)] b:=fun b hb=>by
  refine⟨by rw[hsz];exact Nat.lt_of_lt_of_le (h.f b hb).1 hC.size,fun ho=>?_⟩
  rcases ho with ho|⟨v,hv,ho⟩
  ·exact (hF b hb).2.2 ho
  ·simp only[List.mem_cons,List.not_mem_nil,or_false] at hv
   rcases hv with rfl|rfl
   ·exact (h.f b hb).2 (Or.inr ⟨v,by simp,ho⟩)
   ·injection ho with ho
    have ho:g=b:=ho
    subst ho
    rcases hg with hg|hg
    ·exact (hF g hb).2.1 hg
    ·have:=(hF g hb).1;omega
 refine⟨⟨hs,⟨x2,x3,x4,x5,x6,x7,heap_set (hM.trans hm) 1 _⟩,push_other h.t (row_ne hm h.t (by decide)) hC (fun g hg=>h.t.apart h.r (by decide) hg) hF hw,push_self hn hc hx hC hrow hF hgM hw⟩,?_,hM⟩
 exact (Chg.sub (G:=Own8 M [vT,vR]) hC (fun b hb=>Or.inr ⟨vR,by simp,hb⟩)).setCell (p:=⟨M,1,none⟩) (Or.inl (Or.inl rfl)) _
end
end Go.Proofs.YtglbjooofdnbkaaGreatDoor
