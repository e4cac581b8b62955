/- Several texts joined, each with its own sentence and conditions ahead of it: MkA, MkB, MkC, MkD, MkE. -/
import Derived.Test.YtglbjooofdnbkaaGreatDoorNA
import Derived.Test.YtglbjooofdnbkaaGreatDoorNB
import Derived.Test.YtglbjooofdnbkaaGreatDoorMF
namespace Go.Proofs.YtglbjooofdnbkaaGreatDoor
set_option maxHeartbeats 2000000
set_option maxRecDepth 100000
open Go.RowKit
def firstAsk:List (Bool×Int)→Option Int
 | []=>none
 | (b,e)::l=>if b then some e else firstAsk l
def askC (l:List (Bool×Int)):List Value:=(l.map fun x=>[Value.bool x.1,Value.int .i64 x.2]).flatten
theorem askC_at:∀(l:List (Bool×Int))(k:Nat)(x:Bool×Int),l[k]? = some x→(askC l)[k*2]? = some (.bool x.1)∧(askC l)[k*2+1]? = some (.int .i64 x.2)
 | [],k,x,h=>by simp at h
 | y::l,0,x,h=>by
  simp only[List.getElem?_cons_zero,Option.some.injEq] at h
  subst h
  exact⟨rfl,rfl⟩
 | y::l,k+1,x,h=>by
  rw[List.getElem?_cons_succ] at h
  have:=askC_at l k x h
  have e:askC (y::l)=Value.bool y.1::Value.int .i64 y.2::askC l:=rfl
  rw[e,show (k+1)*2=k*2+1+1 by omega]
  simpa using this
theorem firstAsk_take (l:List (Bool×Int)):∀k,(∀j x,j<k→l[j]? = some x→x.1=false)→firstAsk l=firstAsk (l.drop k)
 | 0,_=>rfl
 | k+1,h=>by
  rw[firstAsk_take l k (fun j x hj hx=>h j x (by omega) hx)]
  cases hd:l.drop k with
  | nil =>
   have:l.drop (k+1)=[]:=by rw[←List.drop_drop,hd];rfl
   rw[this]
  | cons y r =>
   have h1:l.drop (k+1)=r:=by rw[←List.drop_drop,hd];rfl
   have h2:l[k]? = some y:=by
    have:=congrArg (·[0]?) hd
    simpa using this
   have h3:=h k y (by omega) h2
   rw[h1]
   obtain⟨b,e⟩:=y
   have h3:b=false:=h3
   show (if b then some e else firstAsk r)=firstAsk r
   rw[h3];rfl
def faultP (er place:Int):Ending:=.panicked [{ v:=.iface 35 (.agg #[.int .i64 er,.int .i64 place]),recovered:=false }]
def NonePost (l:List (Bool×Int)) (place:Int) (w:World) (e:Ending) (w':World):Prop:=Below w.heap.size w w'∧match firstAsk l with
 | none=>e=.returned (.tuple #[])
 | some er=>e=faultP er place
def AskRel (w:World) (n:Nat) (l:List (Bool×Int)) (cs:Array Value) (i:Value) (W:World):Prop:=∃k:Nat,k≤n∧i=.int .i64 (k:Int)∧Below w.heap.size w W∧W.heap[w.heap.size]? = some (.cells cs 25 (0,0))∧(∀j x,j<k→l[j]? = some x→x.1=false)
theorem none_any (l:List (Bool×Int))(k:Nat)(t:ByteArray)(nm pl:Int)(s:Value)(g n c:Nat)(w:World)(hn:l.length=n)(hn2:n≤100)(hg:w.heap[g]? = some (.cells (askC l).toArray 97 (0,0))) :
  Calls Tryz.prog 27 #[.agg #[.int .u8 k,.string t,.int .i64 nm,.int .i64 pl,s],.slice (some ⟨g,0,none⟩) n c] w (NonePost l pl w):=by
 have hgw:g<w.heap.size:=(Array.getElem?_eq_some_iff.1 hg).1
 have HG:=Hd hg
 have HN:=Hd hn
 have hb0:Below w.heap.size w (w.alloc (.cells #[.int .u8 k,.string t,.int .i64 nm,.int .i64 pl,s] 25)):=(Below.refl _ w).alloc (Nat.le_refl _) _
 have HX:Hid ((w.alloc (.cells #[.int .u8 k,.string t,.int .i64 nm,.int .i64 pl,s] 25)).heap[w.heap.size]? = some (.cells #[.int .u8 k,.string t,.int .i64 nm,.int .i64 pl,s] 25 (0,0))):=heap_alloc_new w _
 have HB:=Hd hb0
 clear hg hn hb0
 go_enter Tryz.func27,Tryz.ntmps27
 go_wp2
 go_loopw [8] (AskRel w n l #[.int .u8 k,.string t,.int .i64 nm,.int .i64 pl,s]) (fun i _=>n-(intOf i).toNat)
 case atStart=>exact⟨0,Nat.zero_le _,rfl,HB.out,HX.out,fun j x hj=>by omega⟩
 case round =>
  clear HB HX
  obtain⟨i,hi,rfl,hb,hx,hno⟩:=hrel
  have hi0:(0:Int)≤i:=by omega
  have HBi:=Hd hb
  have HXi:=Hd hx
  have HNo:=Hd hno
  clear hb hx hno
  by_cases hlt:i<n
  ·have hi1:(i:Int)<n:=by omega
   obtain⟨x,hxl⟩:∃x,l[i]? = some x:=⟨_,List.getElem?_eq_getElem (by rw[HN.out];exact hlt)⟩
   obtain⟨b,er⟩:=x
   have hg':=heap_below HBi.out HG.out hgw
   obtain⟨a0,a1⟩:=askC_at l i (b,er) hxl
   have c0:wr.cell? ⟨g,i*2,none⟩=some (.bool b):=by rw[cell_of_row _ _ _ _ _ _ hg'];simpa using a0
   have c1:wr.cell? ⟨g,i*2+1,none⟩=some (.int .i64 er):=by rw[cell_of_row _ _ _ _ _ _ hg'];simpa using a1
   have HXl:=Hd hxl
   have hbn:Below wr.heap.size wr (wr.alloc (.cells #[.bool b,.int .i64 er] 97)):=(Below.refl _ wr).alloc (Nat.le_refl _) _
   have HBn:=Hd (HBi.out.trans (hbn.mono HBi.out.size))
   have HXn:=Hd (heap_below hbn HXi.out (Array.getElem?_eq_some_iff.1 HXi.out).1)
   have d3:(wr.alloc (.cells #[.bool b,.int .i64 er] 97)).cell? ⟨w.heap.size,3,none⟩=some (.int .i64 pl):=by rw[cell_of_row _ _ _ _ _ _ HXn.out];rfl
   clear hg' a0 a1 hxl hbn
   cases b with
   | true =>
    have HF:Hid (firstAsk l=some er):=by
     show _=_
     rw[firstAsk_take l i HNo.out]
     obtain⟨r,hr⟩:∃r,l.drop i=(true,er)::r:=by
      have:=HXl.out
      cases hd:l.drop i with
      | nil =>
       have h2:=congrArg (·[0]?) hd
       simp[this] at h2
      | cons y r =>
       have h2:=congrArg (·[0]?) hd
       simp[this] at h2
       exact⟨r,by rw[h2]⟩
     rw[hr];rfl
    go_wp2
    refine⟨rfl,HBn.out,?_⟩
    rw[HF.out]
    rfl
   | false =>
    go_wp2
    exact⟨⟨i+1,by omega,by go_num,HBn.out,HXn.out,fun j x hj hx=>by
     by_cases h:j=i
     ·subst h
      rw[HXl.out] at hx
      injection hx with hx
      rw[←hx]
     ·exact HNo.out j x (by omega) hx⟩,by simp[intOf];omega⟩
  ·go_wp2
   go_returns
   refine⟨HBi.out,?_⟩
   have hF:firstAsk l=none:=by
    rw[firstAsk_take l n (fun j x hj hx=>HNo.out j x (by omega) hx),List.drop_of_length_le (by rw[HN.out];exact Nat.le_refl _)]
    rfl
   rw[hF]
theorem idxB_hit (x:ByteArray):∀(l:List ByteArray)(m k:Nat)(y:ByteArray),l[k]? = some y→(y.data.toList==x.data.toList)=true→(∀(j:Nat)(z:ByteArray),j<k→l[j]? = some z→(z.data.toList==x.data.toList)=false)→idxB x l m=some (m+k)
 | [],m,k,y,h,_,_=>by simp at h
 | z::l,m,0,y,h,he,_=>by
  simp only[List.getElem?_cons_zero,Option.some.injEq] at h
  subst h
  unfold idxB
  rw[if_pos he];rfl
 | z::l,m,k+1,y,h,he,hno=>by
  rw[List.getElem?_cons_succ] at h
  have h0:=hno 0 z (by omega) rfl
  unfold idxB
  rw[h0]
  simp only[Bool.false_eq_true,if_false]
  rw[idxB_hit x l (m+1) k y h he (fun j z' hj hz=>hno (j+1) z' (by omega) (by rw[List.getElem?_cons_succ];exact hz))]
  congr 1;omega
theorem idxB_miss (x:ByteArray):∀(l:List ByteArray)(m:Nat),(∀(j:Nat)(z:ByteArray),l[j]? = some z→(z.data.toList==x.data.toList)=false)→idxB x l m=none
 | [],m,_=>rfl
 | z::l,m,hno=>by
  unfold idxB
  rw[hno 0 z rfl]
  simp only[Bool.false_eq_true,if_false]
  exact idxB_miss x l (m+1) (fun j z' hz=>hno (j+1) z' (by rw[List.getElem?_cons_succ];exact hz))
def idxI:Option Nat→Int
 | some k=>k
 | none=>-1
theorem idxOf_hit {x y:ByteArray}{l:List ByteArray}{k:Nat}(h:l[k]? = some y)(he:(y.data.toList==x.data.toList)=true)(hno:∀(j:Nat)(z:ByteArray),j<k→l[j]? = some z→(z.data.toList==x.data.toList)=false):idxI (idxOf x l)=k:=by
 unfold idxOf
 rw[idxB_hit x l 0 k y h he hno,Nat.zero_add];rfl
theorem idxOf_miss {x:ByteArray}{l:List ByteArray}(hno:∀(j:Nat)(z:ByteArray),l[j]? = some z→(z.data.toList==x.data.toList)=false):idxI (idxOf x l)=-1:=by
 unfold idxOf
 rw[idxB_miss x l 0 hno];rfl
theorem blk_lt {w:World}{T o:Nat}{v:Value}(h:w.cell? ⟨T,o,none⟩=some v):T<w.heap.size:=by
 cases hh:w.heap[T]? with
 | none=>unfold World.cell? at h;simp[hh] at h
 | some o=>exact (Array.getElem?_eq_some_iff.1 hh).1
theorem kind1_any (a b:ByteArray)(n:Int)(T:Nat)(w:World)(ht:w.cell? ⟨T,0,none⟩=some (.string b)) :
  Calls Tryz.prog 36 #[.agg #[.string a,.int .i64 n],.pointer (some ⟨T,0,none⟩)] w fun e w'=>e=.returned (.bool (a.data.toList==b.data.toList))∧Below w.heap.size w w':=by
 have hT:=blk_lt ht
 have hb:Below w.heap.size w (w.alloc (.cells #[.string a,.int .i64 n] 48)):=(Below.refl _ w).alloc (Nat.le_refl _) _
 have ht2:(w.alloc (.cells #[.string a,.int .i64 n] 48)).cell? ⟨T,0,none⟩=some (.string b):=(hb.cell (p:=⟨T,0,none⟩) hT).trans ht
 have HB:=Hd hb
 clear hb
 go_enter Tryz.func36,Tryz.ntmps36
 go_wp2
 go_ret
 exact⟨by rw[ByteArray.toList_eq,ByteArray.toList_eq];rfl,HB.out⟩
def NameRel (w:World) (n:Nat) (l:List ByteArray) (x:ByteArray) (i:Value) (W:World):Prop:=∃k:Nat,k≤n∧i=.int .i64 (k:Int)∧Below w.heap.size w W∧(∀(j:Nat) (z:ByteArray),j<k→l[j]? = some z→(z.data.toList==x.data.toList)=false)
theorem idxT_any (types:List CType)(x:ByteArray)(v:Value)(F:Nat→Prop)(T:Nat)(w:World)(hv:typeRd.row w F types v)(hF:∀b,F b→b<w.heap.size)(ht:w.cell? ⟨T,0,none⟩=some (.string x)) :
  Calls Tryz.prog 35 #[v,.func (.func 36) #[] #[.pointer (some ⟨T,0,none⟩)]] w (fun e w'=>e=.returned (.int .i64 (idxI (typeIdx x types)))∧Below w.heap.size w w'):=by
 obtain⟨p,c,rfl⟩:=Rd.row_shape hv
 have hmax:=Rd.row_len hv
 obtain⟨n,hn⟩:∃n,types.length=n:=⟨_,rfl⟩
 have HV:=Hd (fun W (hW:Below w.heap.size w W)=>Rd.row_below hv hF hW)
 have HTx:=Hd (fun W (hW:Below w.heap.size w W)=>(hW.cell (p:=⟨T,0,none⟩) (blk_lt ht)).trans ht)
 rw[hn] at hmax HV ⊢
 have HN:=Hd hn
 have hn3:(n:Int)≤9223372036854775807:=by unfold maxLen at hmax;omega
 clear hv ht hn hmax
 go_enter Tryz.func35,Tryz.ntmps35
 go_wp2
 go_loopw [8] (NameRel w n (types.map CType.name) x) (fun i _=>n-(intOf i).toNat)
 case atStart=>exact⟨0,Nat.zero_le _,rfl,Below.refl _ _,fun j z hj=>by omega⟩
 case round =>
  obtain⟨k,hk,rfl,hb,hno⟩:=hrel
  have hk0:(0:Int)≤k:=by omega
  have HB:=Hd hb
  have HNo:=Hd hno
  clear hno
  by_cases hlt:k<n
  ·have hk1:(k:Int)<n:=by omega
   obtain⟨t,htk⟩:∃t,types[k]? = some t:=⟨_,List.getElem?_eq_getElem (by rw[HN.out];exact hlt)⟩
   have hrow:=HV.out wr hb
   have hvs:=Rd.row_at hrow htk
   rw[HN.out] at hvs
   obtain⟨b,off,cap,vs,he,_,_,_,_,hat,hcell⟩:=hvs
   injection he with e1 _ e3
   subst e1;subst e3
   obtain⟨rfl,_,_⟩:=type_at.1 hat
   have c0:wr.cell? ⟨b,off+k*2,none⟩=some (.string t.name):=hcell 0 _ rfl
   have c1:wr.cell? ⟨b,off+k*2+1,none⟩=some (.int .i64 t.fields):=hcell 1 _ rfl
   have HK:=Hd (kind1_any t.name x t.fields T wr (HTx.out wr hb))
   have HNm:Hid ((types.map CType.name)[k]? = some t.name):=by show _=_;rw[List.getElem?_map,htk];rfl
   clear hrow hat hcell htk hb
   go_wp2_with fail
   refine HK.out.mono ?_
   rintro e w1 ⟨rfl,hb1⟩
   have HB1:=Hd (HB.out.trans (hb1.mono HB.out.size))
   clear hb1 c0 c1
   cases hq:(t.name.data.toList==x.data.toList) with
   | true =>
    have HH:=Hd (idxOf_hit HNm.out hq HNo.out)
    clear hq
    go_wp2_with fail
    go_ret
    exact⟨by rw[show typeIdx x types=idxOf x (types.map CType.name) from rfl,HH.out];rfl,HB1.out⟩
   | false =>
    have HQ:=Hd hq
    clear hq
    go_wp2_with fail
    exact⟨⟨k+1,by omega,by go_num,HB1.out,fun j z hj hz=>by
     by_cases h:j=k
     ·subst h
      rw[HNm.out] at hz
      injection hz with hz
      rw[←hz];exact HQ.out
     ·exact HNo.out j z (by omega) hz⟩,by simp[intOf];omega⟩
  ·have HH:Hid (idxI (typeIdx x types)=-1):=idxOf_miss (fun j z hz=>HNo.out j z (by
    have:=(List.getElem?_eq_some_iff.1 hz).1
    rw[List.length_map,HN.out] at this
    omega) hz)
   clear hb
   go_wp2_with fail
   go_ret
   exact⟨by rw[HH.out];rfl,HB.out⟩
theorem rule1_any (a b:ByteArray)(n m:Int)(sc sa:Value)(T:Nat)(w:World)(ht:w.cell? ⟨T,0,none⟩=some (.string b)) :
  Calls Tryz.prog 38 #[.agg #[.string a,.int .i64 n,.int .i64 m,sc,sa],.pointer (some ⟨T,0,none⟩)] w fun e w'=>e=.returned (.bool (a.data.toList==b.data.toList))∧Below w.heap.size w w':=by
 have hT:=blk_lt ht
 have hb:Below w.heap.size w (w.alloc (.cells #[.string a,.int .i64 n,.int .i64 m,sc,sa] 46)):=(Below.refl _ w).alloc (Nat.le_refl _) _
 have ht2:(w.alloc (.cells #[.string a,.int .i64 n,.int .i64 m,sc,sa] 46)).cell? ⟨T,0,none⟩=some (.string b):=(hb.cell (p:=⟨T,0,none⟩) hT).trans ht
 have HB:=Hd hb
 clear hb
 go_enter Tryz.func38,Tryz.ntmps38
 go_wp2
 go_ret
 exact⟨by rw[ByteArray.toList_eq,ByteArray.toList_eq];rfl,HB.out⟩
theorem idxR_any (d:Nat)(types:List CRule)(x:ByteArray)(v:Value)(F:Nat→Prop)(T:Nat)(w:World)(hv:(ruleRd d).row w F types v)(hF:∀b,F b→b<w.heap.size)(ht:w.cell? ⟨T,0,none⟩=some (.string x)) :
  Calls Tryz.prog 37 #[v,.func (.func 38) #[] #[.pointer (some ⟨T,0,none⟩)]] w (fun e w'=>e=.returned (.int .i64 (idxI (idxOf x (types.map CRule.name))))∧Below w.heap.size w w'):=by
 obtain⟨p,c,rfl⟩:=Rd.row_shape hv
 have hmax:=Rd.row_len hv
 obtain⟨n,hn⟩:∃n,types.length=n:=⟨_,rfl⟩
 have HV:=Hd (fun W (hW:Below w.heap.size w W)=>Rd.row_below hv hF hW)
 have HTx:=Hd (fun W (hW:Below w.heap.size w W)=>(hW.cell (p:=⟨T,0,none⟩) (blk_lt ht)).trans ht)
 rw[hn] at hmax HV ⊢
 have HN:=Hd hn
 have hn3:(n:Int)≤9223372036854775807:=by unfold maxLen at hmax;omega
 clear hv ht hn hmax
 go_enter Tryz.func37,Tryz.ntmps37
 go_wp2
 go_loopw [8] (NameRel w n (types.map CRule.name) x) (fun i _=>n-(intOf i).toNat)
 case atStart=>exact⟨0,Nat.zero_le _,rfl,Below.refl _ _,fun j z hj=>by omega⟩
 case round =>
  obtain⟨k,hk,rfl,hb,hno⟩:=hrel
  have hk0:(0:Int)≤k:=by omega
  have HB:=Hd hb
  have HNo:=Hd hno
  clear hno
  by_cases hlt:k<n
  ·have hk1:(k:Int)<n:=by omega
   obtain⟨t,htk⟩:∃t,types[k]? = some t:=⟨_,List.getElem?_eq_getElem (by rw[HN.out];exact hlt)⟩
   have hrow:=HV.out wr hb
   have hvs:=Rd.row_at hrow htk
   rw[HN.out] at hvs
   obtain⟨b,off,cap,vs,he,_,_,_,_,hat,hcell⟩:=hvs
   injection he with e1 _ e3
   subst e1;subst e3
   obtain⟨_,_,_,sc,sa,rfl,hrc,hra⟩:=rule_at.1 hat
   obtain⟨pc,cc,rfl⟩:=Rd.row_shape hrc
   obtain⟨pa,ca,rfl⟩:=Rd.row_shape hra
   have c0:wr.cell? ⟨b,off+k*5,none⟩=some (.string t.name):=hcell 0 _ rfl
   have c1:wr.cell? ⟨b,off+k*5+1,none⟩=some (.int .i64 t.sal):=hcell 1 _ rfl
   have c2:wr.cell? ⟨b,off+k*5+2,none⟩=some (.int .i64 t.vars):=hcell 2 _ rfl
   have c3:wr.cell? ⟨b,off+k*5+3,none⟩=some (.slice pc t.conds.length cc):=hcell 3 _ rfl
   have c4:wr.cell? ⟨b,off+k*5+4,none⟩=some (.slice pa t.acts.length ca):=hcell 4 _ rfl
   have HK:=Hd (rule1_any t.name x t.sal t.vars (.slice pc t.conds.length cc) (.slice pa t.acts.length ca) T wr (HTx.out wr hb))
   clear hrc hra
   have HNm:Hid ((types.map CRule.name)[k]? = some t.name):=by show _=_;rw[List.getElem?_map,htk];rfl
   clear hrow hat hcell htk hb
   go_wp2_with fail
   refine HK.out.mono ?_
   rintro e w1 ⟨rfl,hb1⟩
   have HB1:=Hd (HB.out.trans (hb1.mono HB.out.size))
   clear hb1 c0 c1 c2 c3 c4
   cases hq:(t.name.data.toList==x.data.toList) with
   | true =>
    have HH:=Hd (idxOf_hit HNm.out hq HNo.out)
    clear hq
    go_wp2_with fail
    go_ret
    exact⟨by rw[HH.out];rfl,HB1.out⟩
   | false =>
    have HQ:=Hd hq
    clear hq
    go_wp2_with fail
    exact⟨⟨k+1,by omega,by go_num,HB1.out,fun j z hj hz=>by
     by_cases h:j=k
     ·subst h
      rw[HNm.out] at hz
      injection hz with hz
      rw[←hz];exact HQ.out
     ·exact HNo.out j z (by omega) hz⟩,by simp[intOf];omega⟩
  ·have HH:Hid (idxI (idxOf x (types.map CRule.name))=-1):=idxOf_miss (fun j z hz=>HNo.out j z (by
    have:=(List.getElem?_eq_some_iff.1 hz).1
    rw[List.length_map,HN.out] at this
    omega) hz)
   clear hb
   go_wp2_with fail
   go_ret
   exact⟨by rw[HH.out];rfl,HB.out⟩
theorem kind_any (types:List CType)(x:ByteArray)(vT:Value)(F:Nat→Prop)(M:Nat)(w:World)(hv:typeRd.row w F types vT)(hF:∀b,F b→b<w.heap.size)(hm:w.cell? ⟨M,0,none⟩=some vT) :
  Calls Tryz.prog 21 #[.pointer (some ⟨M,0,none⟩),.string x] w (fun e w'=>e=.returned (.int .i64 (idxI (typeIdx x types)))∧Below w.heap.size w w'):=by
 have hmf:∀(fn:Fn) (first cap:Array Value) (w:World),(Instr.makeFunc fn first cap).run Tryz.prog w=.ok (.func fn first cap) w:=fun _ _ _ _=>rfl
 obtain⟨p,c,rfl⟩:=Rd.row_shape hv
 have hb:Below w.heap.size w (w.alloc (.cells #[.string x] 9)):=(Below.refl _ w).alloc (Nat.le_refl _) _
 have hm2:(w.alloc (.cells #[.string x] 9)).cell? ⟨M,0,none⟩=some (.slice p types.length c):=(hb.cell (p:=⟨M,0,none⟩) (blk_lt hm)).trans hm
 have HK:=Hd (idxT_any types x _ F w.heap.size (w.alloc (.cells #[.string x] 9)) (Rd.row_below hv hF hb) (fun b hf=>Nat.lt_of_lt_of_le (hF b hf) hb.size) (cell_new1 w _ _))
 have HB:=Hd hb
 clear hv hb hm
 go_enter Tryz.func21,Tryz.ntmps21
 go_wp2_with fail
 refine HK.out.mono ?_
 rintro e w1 ⟨rfl,hb1⟩
 have HB1:=Hd (HB.out.trans (hb1.mono HB.out.size))
 clear hb1 hm2
 go_wp2_with fail
 go_ret
 exact⟨rfl,HB1.out⟩
theorem rule_any (d:Nat)(rules:List CRule)(x:ByteArray)(vR:Value)(F:Nat→Prop)(M:Nat)(w:World)(hv:(ruleRd d).row w F rules vR)(hF:∀b,F b→b<w.heap.size)(hm:w.cell? ⟨M,1,none⟩=some vR) :
  Calls Tryz.prog 22 #[.pointer (some ⟨M,0,none⟩),.string x] w (fun e w'=>e=.returned (.int .i64 (idxI (idxOf x (rules.map CRule.name))))∧Below w.heap.size w w'):=by
 have hmf:∀(fn:Fn) (first cap:Array Value) (w:World),(Instr.makeFunc fn first cap).run Tryz.prog w=.ok (.func fn first cap) w:=fun _ _ _ _=>rfl
 obtain⟨p,c,rfl⟩:=Rd.row_shape hv
 have hb:Below w.heap.size w (w.alloc (.cells #[.string x] 9)):=(Below.refl _ w).alloc (Nat.le_refl _) _
 have hm2:(w.alloc (.cells #[.string x] 9)).cell? ⟨M,1,none⟩=some (.slice p rules.length c):=(hb.cell (p:=⟨M,1,none⟩) (blk_lt hm)).trans hm
 have HK:=Hd (idxR_any d rules x _ F w.heap.size (w.alloc (.cells #[.string x] 9)) (Rd.row_below hv hF hb) (fun b hf=>Nat.lt_of_lt_of_le (hF b hf) hb.size) (cell_new1 w _ _))
 have HB:=Hd hb
 clear hv hb hm
 go_enter Tryz.func22,Tryz.ntmps22
 go_wp2_with fail
 refine HK.out.mono ?_
 rintro e w1 ⟨rfl,hb1⟩
 have HB1:=Hd (HB.out.trans (hb1.mono HB.out.size))
 clear hb1 hm2
 go_wp2_with fail
 go_ret
 exact⟨rfl,HB1.out⟩
theorem numGo_le:∀(l:List UInt8)(m n:Nat),m≤maxI→numGo m l=some n→n≤maxI
 | [],m,n,hm,h=>by
  simp only[numGo] at h
  injection h with h;omega
 | c::l,m,n,hm,h=>by
  unfold numGo at h
  split at h
  ·rename_i hc
   simp only[Bool.and_eq_true,decide_eq_true_eq] at hc
   exact numGo_le l _ n hc.2 h
  ·cases h
theorem number_le (l:List UInt8):((number l).getD 0:Nat)≤maxI:=by
 unfold number
 split
 ·exact Nat.zero_le _
 ·cases h:numGo 0 l with
  | none=>exact Nat.zero_le _
  | some n=>exact numGo_le l 0 n (Nat.zero_le _) h
def stripT (t:ByteArray):ByteArray:=if negB t.data.toList then t.extract 1 t.size else t
theorem stripT_list (t:ByteArray):(stripT t).data.toList=strip t.data.toList:=by
 unfold stripT
 split
 ·rename_i h
  rw[ByteArray.data_extract,Array.toList_extract]
  cases hl:t.data.toList with
  | nil=>rw[hl] at h;cases h
  | cons c r =>
   rw[hl] at h
   have hc:c=45:=by
    unfold negB at h
    split at h
    ·rename_i heq;injection heq
    ·cases h
   subst hc
   have hs:t.size=r.length+1:=by
    have h2:t.data.toList.length=t.size:=Array.length_toList
    rw[hl] at h2
    simpa using h2.symm
   rw[hs]
   simp[strip,List.extract]
 ·rename_i h
  unfold strip
  split
  ·rename_i r heq
   exfalso
   apply h
   unfold negB
   rw[heq];rfl
  ·rfl
theorem stripT_size (t:ByteArray):(stripT t).size≤t.size:=by
 unfold stripT
 split
 ·rw[ByteArray.size_extract];omega
 ·omega
theorem hasPrefix_negC (l:List UInt8):Lib.hasPrefix l [45]=negB l:=by
 unfold Lib.hasPrefix negB
 cases l with
 | nil=>rfl
 | cons c r =>
  by_cases h:c=45
  ·subst h;rfl
  ·have:(45==c)=false:=by simpa using fun e:(45:UInt8)=c=>h e.symm
   simp only[List.isPrefixOf,this,Bool.false_and]
   split
   ·rename_i heq;injection heq with heq;exact absurd heq h
   ·rfl
theorem hasPrefix_dash' (s:ByteArray)(w:World):Calls Tryz.prog 108 #[.string s,.string ⟨#[45]⟩] w fun e w'=>e=.returned (.bool (negB s.data.toList))∧w=w':=
 (Tryz.stringslite_HasPrefix s ⟨#[45]⟩ w).mono fun e w' ⟨h1,h2⟩=>⟨by rw[h1,←hasPrefix_negC],h2.symm⟩
theorem cutDash_any (t:ByteArray)(w:World):Calls Tryz.prog 110 #[.string t,.string ⟨#[45]⟩] w fun e w'=>e=.returned (.tuple #[.string (stripT t),.bool (negB t.data.toList)])∧w=w':=by
 have h1:Calls Tryz.prog 134 #[.string t,.string ⟨#[45]⟩] w fun e w'=>e=.returned (.tuple #[.string (stripT t),.bool (negB t.data.toList)])∧w=w':=by
  have HP:=Hd (hasPrefix_dash' t w)
  have HS:Hid (stripT t=if negB t.data.toList then t.extract 1 t.size else t):=rfl
  have hn:negB t.data.toList=true→1≤t.size:=fun h=>by
   have h2:t.data.toList.length=t.size:=Array.length_toList
   cases hl:t.data.toList with
   | nil=>rw[hl] at h;cases h
   | cons c r=>rw[hl] at h2;simp at h2;omega
  go_enter Tryz.func134,Tryz.ntmps134
  go_wp2_with fail
  refine HP.out.mono ?_
  rintro e w' ⟨rfl,rfl⟩
  cases hb:negB t.data.toList with
  | true =>
   rw[hb] at HS
   have h1:=hn hb
   have hsl:∀W,(Instr.slice 9 (.string t) (some (.int .i64 1)) none none).run Tryz.prog W=.ok (.string (stripT t)) W:=fun W=>by
    rw[HS.out]
    simp only[if_true]
    exact run_slice_string_l W 9 t Tryz.underlying9 .i64 1 (by omega) (by omega)
   go_wp2_with fail
   go_ret2
   exact⟨by rw[hb];rfl,rfl⟩
  | false =>
   rw[hb] at HS
   have hs0:stripT t=t:=HS.out
   go_wp2_with fail
   go_ret2
   exact⟨by rw[hs0,hb];rfl,rfl⟩
 have H1:=Hd h1
 clear h1
 go_enter Tryz.func110,Tryz.ntmps110
 go_wp2_with fail
 refine H1.out.mono ?_
 rintro e w' ⟨rfl,rfl⟩
 go_wp2_with fail
 go_ret2
 exact⟨rfl,rfl⟩
theorem const_fin (W:World)(Rp:Ending→World→Prop)(T:Nat)(a b c:Value)(hT:W.heap[T]? = some (.cells #[a,b,c] 54 (0,0)))
  (tmps:Array Value) (h2:tmps.getD 2 undef=.pointer (some ⟨T,0,none⟩)) (hR:Rp (.returned (.agg #[a,b,c])) W):bodyPost Tryz.prog Tryz.f87 Rp .ret ⟨tmps,[]⟩ W:=by
 obtain⟨c0,c1,c2,_⟩:=cells3 hT
 have h4':tmps[2]?.getD undef=.pointer (some ⟨T,0,none⟩):=by simpa using h2
 refine bodyPost_ret (v:=.agg #[a,b,c]) ?_ rfl hR
 simp[results,Tryz.results87,go_sem,h4',c0,c1,c2]
theorem const_any (T:Tree)(s:Value)(w:World)(hk:T.kind=14∨T.kind=15)(hs:T.text.size≤72007) :
  Calls Tryz.prog 87 #[.agg #[.int .u8 T.kind,.string T.text,.int .i64 T.num,.int .i64 T.place,s]] w fun e w'=>e=.returned (.agg (valC (constM T)).toArray)∧Below w.heap.size w w':=by
 obtain⟨k,t,nm,pl,ks⟩:=T
 have hs:t.size≤72007:=hs
 have hk:k=14∨k=15:=hk
 show Calls Tryz.prog 87 #[.agg #[.int .u8 k,.string t,.int .i64 nm,.int .i64 pl,s]] w _
 rcases hk with rfl|rfl
 ·have hb0:Below w.heap.size w ((w.alloc (.cells #[.int .u8 14,.string t,.int .i64 nm,.int .i64 pl,s] 25)).alloc (.cells #[.int .u8 0,.int .i64 0,.string ⟨#[]⟩] 54)):=((Below.refl _ w).alloc (Nat.le_refl _) _).alloc (by simp) _
  obtain⟨_,hx1,_⟩:=two_new' w (.cells #[.int .u8 14,.string t,.int .i64 nm,.int .i64 pl,s] 25) (.cells #[.int .u8 0,.int .i64 0,.string ⟨#[]⟩] 54)
  have HB:=Hd hb0
  have HX:=Hd hx1
  have HN:=Hd (number_big (stripT t) ((w.alloc (.cells #[.int .u8 14,.string t,.int .i64 nm,.int .i64 pl,s] 25)).alloc (.cells #[.int .u8 0,.int .i64 0,.string ⟨#[]⟩] 54)) (by have:=stripT_size t;omega))
  have HC:=Hd (cutDash_any t ((w.alloc (.cells #[.int .u8 14,.string t,.int .i64 nm,.int .i64 pl,s] 25)).alloc (.cells #[.int .u8 0,.int .i64 0,.string ⟨#[]⟩] 54)))
  have hle:=number_le (stripT t).data.toList
  have hM:Hid (numI t=if negB t.data.toList then -(((number (stripT t).data.toList).getD 0:Nat):Int) else (((number (stripT t).data.toList).getD 0:Nat):Int)):=by
   show numI t=_
   unfold numI
   rw[stripT_list]
  clear hb0 hx1
  go_enter Tryz.func87,Tryz.ntmps87
  go_wp2_with fail
  refine HC.out.mono ?_
  rintro e w' ⟨rfl,rfl⟩
  go_wp2_with fail
  refine HN.out.mono ?_
  rintro e w1 ⟨rfl,hb1⟩
  have HB1:=Hd (HB.out.trans (hb1.mono HB.out.size))
  have hx:=heap_below hb1 HX.out (Array.getElem?_eq_some_iff.1 HX.out).1
  obtain⟨c0,c1,c2,f0,f1,f2⟩:=cells3 hx
  have HX1:=Hd hx
  clear hb1 hx HN HC
  generalize (number (stripT t).data.toList).getD 0=n at *
  have hn:(n:Int)≤9223372036854775807:=by unfold maxI at hle;omega
  have hn0:(0:Int)≤n:=by omega
  have fin:∀(z:Int),numI t=z→∀(tmps:Array Value),tmps.getD 2 undef=.pointer (some ⟨w.heap.size+1,0,none⟩)→bodyPost Tryz.prog Tryz.f87 (fun e w'=>e=.returned (.agg (valC (constM (.mk 14 t nm pl ks))).toArray)∧Below w.heap.size w w') .ret ⟨tmps,[]⟩ (((w1.setCell ⟨w.heap.size+1,0,none⟩ (.int .u8 1)).setCell ⟨w.heap.size+1,1,none⟩ (.int .i64 z)).setCell ⟨w.heap.size+1,2,none⟩ (.string ⟨#[]⟩)):=fun z hz tmps ht=>by
   refine const_fin _ _ (w.heap.size+1) (.int .u8 1) (.int .i64 z) (.string ⟨#[]⟩) ?_ tmps ht ⟨?_,((HB1.out.setCell (by simp) _).setCell (by simp) _).setCell (by simp) _⟩
   ·rw[heap_set (heap_set (heap_set HX1.out 0 _) 1 _) 2 _];rfl
   ·rw[←hz];rfl
  have HF:=Hd fin
  clear fin
  cases hb:negB t.data.toList with
  | true =>
   have hz:numI t=-(n:Int):=by rw[hM.out,hb];rfl
   have HZ:=Hd hz
   clear hz hle
   go_wp2_with fail
   exact HF.out _ HZ.out _ rfl
  | false =>
   have hz:numI t=(n:Int):=by rw[hM.out,hb];rfl
   have HZ:=Hd hz
   clear hz hle
   go_wp2_with fail
   exact HF.out _ HZ.out _ rfl
 ·have hb0:Below w.heap.size w ((w.alloc (.cells #[.int .u8 15,.string t,.int .i64 nm,.int .i64 pl,s] 25)).alloc (.cells #[.int .u8 2,.int .i64 0,.string t] 54)):=((Below.refl _ w).alloc (Nat.le_refl _) _).alloc (by simp) _
  obtain⟨_,hx1,_⟩:=two_new' w (.cells #[.int .u8 15,.string t,.int .i64 nm,.int .i64 pl,s] 25) (.cells #[.int .u8 2,.int .i64 0,.string t] 54)
  have HB:=Hd hb0
  have HX:=Hd hx1
  clear hb0 hx1
  go_enter Tryz.func87,Tryz.ntmps87
  go_wp2_with fail
  exact const_fin _ _ (w.heap.size+1) _ _ _ HX.out _ rfl ⟨rfl,HB.out⟩
def ResPost {α:Type} (r:Except Flt α) (val:α→Value) (w:World) (e:Ending) (w':World):Prop:=Below w.heap.size w w'∧match r with
 | .ok x=>e=.returned (val x)
 | .error er=>e=faultP er.1 er.2
theorem elemAsked:Elem 97 129 2 16:=Elem.of (z:=.agg #[.bool false,.int .i64 0]) Tryz.underlying129 (by kernel_rfl) rfl (by decide) (by decide)
theorem wb_next {W5 W W':World}(h:∃x:Wb W5,W=x.1)(hb:Below W.heap.size W W'):∃x:Wb W5,W'=x.1:=by
 obtain⟨x,rfl⟩:=h
 exact⟨⟨W',x.2.trans (hb.mono x.2.size)⟩,rfl⟩
theorem idxB_ltD (x:ByteArray):∀(l:List ByteArray)(m k:Nat),idxB x l m=some k→m≤k∧k<m+l.length
 | [],m,k,h=>by cases h
 | y::l,m,k,h=>by
  unfold idxB at h
  split at h
  ·injection h with h;subst h;simp
  ·have:=idxB_ltD x l (m+1) k h
   simp only[List.length_cons];omega
theorem typeIdx_lt' {x:ByteArray}{l:List CType}{k:Nat}(h:typeIdx x l=some k):k<l.length:=by
 have:=(idxB_ltD x (l.map CType.name) 0 k h).2
 simpa using this
def natV (k:Nat):Value:=.int .i64 (k:Int)
theorem typed_any (types:List CType)(T:Tree)(p:Option Addr)(c:Nat)(vT:Value)(F:Nat→Prop)(M:Nat)(w:World)(hv:typeRd.row w F types vT)(hF:∀b,F b→b<w.heap.size)(hm:w.cell? ⟨M,0,none⟩=some vT)(_hl:T.kids.length≤100000) :
  Calls Tryz.prog 58 #[.pointer (some ⟨M,0,none⟩),.agg #[.int .u8 T.kind,.string T.text,.int .i64 T.num,.int .i64 T.place,.slice p T.kids.length c]] w (ResPost (typedM types T) natV w):=by
 obtain⟨pT,cT,rfl⟩:=Rd.row_shape hv
 have hmx:=Rd.row_len hv
 obtain⟨n,hn⟩:∃n,T.kids.length=n:=⟨_,rfl⟩
 have HT:Hid (typedM types T=match typeIdx T.text types with|none=>.error (211,T.place)|some k=>if ((types[k]?).map CType.fields).getD 0==(n:Int) then .ok k else .error (212,T.place)):=by show _=_;rw[←hn];rfl
 rw[hn]
 obtain⟨w1,hw1⟩:∃w1,w1=w.alloc (.cells #[.int .u8 T.kind,.string T.text,.int .i64 T.num,.int .i64 T.place,.slice p n c] 25):=⟨_,rfl⟩
 have hb1:Below w.heap.size w w1:=by rw[hw1];exact (Below.refl _ w).alloc (Nat.le_refl _) _
 have HX:Hid (w1.heap[w.heap.size]? = some (.cells #[.int .u8 T.kind,.string T.text,.int .i64 T.num,.int .i64 T.place,.slice p n c] 25 (0,0))):=by show _=_;rw[hw1];exact heap_alloc_new w _
 have hM:=blk_lt hm
 have HV:=Hd (fun W (hW:Below w1.heap.size w1 W)=>Rd.row_below hv hF (hb1.trans (hW.mono hb1.size)))
 have HM:=Hd (fun W (hW:Below w1.heap.size w1 W)=>((hb1.trans (hW.mono hb1.size)).cell (p:=⟨M,0,none⟩) hM).trans hm)
 have HF:=Hd (fun W (hW:Below w1.heap.size w1 W) b (hf:F b)=>Nat.lt_of_lt_of_le (hF b hf) (Nat.le_trans hb1.size hW.size))
 have HB1:=Hd hb1
 clear hn hb1 hv hF hm
 go_enter Tryz.func58,Tryz.ntmps58
 go_upto_region 1 with fail
 change Code.wp _ _ _ _ (w.alloc (.cells #[.int .u8 T.kind,.string T.text,.int .i64 T.num,.int .i64 T.place,.slice p n c] 25))
 rw[←hw1]
 clear hw1
 obtain⟨x0,x1,x2,x3,x4⟩:=cells5 HX.out
 have X1:=fun x:Wb w1=>x.cell x1
 have HK:=Hd (fun x:Wb w1=>kind_any types T.text _ F M x.1 (HV.out _ x.2) (HF.out _ x.2) (HM.out _ x.2))
 refine wp_region_below (by kernel_rfl) (by kernel_rfl) ?_
 repeat (go_big_quiet_step ((go_at_call 21;exact Calls.below_of (HK.out _))))
 refine wpQuiet_nil ?_
 intro W2 hw'
 have hb2:=wb_below hw'
 have HB2:=Hd hb2
 have hx2:=heap_below hb2 HX.out (Array.getElem?_eq_some_iff.1 HX.out).1
 have HX2:=Hd hx2
 obtain⟨a0,a1,a2,a3,a4⟩:=cells5 hx2
 clear hw' hb2 hx2 X1 HK x0 x1 x2 x3 x4
 cases hti:typeIdx T.text types with
 | none =>
  rw[hti] at HT
  clear hti
  have hbn:Below W2.heap.size W2 (W2.alloc (.cells (askC [(true,211)]).toArray 97)):=(Below.refl _ W2).alloc (Nat.le_refl _) _
  have HBn:=Hd (HB1.out.trans ((HB2.out.trans (hbn.mono HB2.out.size)).mono HB1.out.size))
  have HN:=Hd (none_any [(true,211)] T.kind T.text T.num T.place (.slice p n c) W2.heap.size 1 1 (W2.alloc (.cells (askC [(true,211)]).toArray 97)) rfl (by omega) (heap_alloc_new W2 _))
  clear hbn
  go_wp2_with fail
  refine HN.out.mono ?_
  rintro e w3 ⟨hb3,he⟩
  have he:e=faultP 211 T.place:=he
  subst he
  refine⟨rfl,HBn.out.trans (hb3.mono HBn.out.size),?_⟩
  rw[HT.out]
  rfl
 | some k =>
  rw[hti] at HT
  have hkl:=typeIdx_lt' hti
  obtain⟨t,htk⟩:∃t,types[k]? = some t:=⟨_,List.getElem?_eq_getElem hkl⟩
  have HT2:Hid (typedM types T=if t.fields==(n:Int) then .ok k else .error (212,T.place)):=by show _=_;rw[HT.out];dsimp only;rw[htk];rfl
  rw[show idxI (some k)=(k:Int) from rfl]
  have hk0:¬((k:Int)<0):=by omega
  have hk1:(0:Int)≤k:=by omega
  have hkt:(k:Int)<types.length:=by omega
  have htl:(types.length:Int)≤9223372036854775807:=by unfold maxLen at hmx;omega
  clear hti HT
  obtain⟨wn,hwn⟩:∃wn,wn=W2.alloc (.cells (askC [(false,211)]).toArray 97):=⟨_,rfl⟩
  have hbn:Below W2.heap.size W2 wn:=by rw[hwn];exact (Below.refl _ W2).alloc (Nat.le_refl _) _
  have HBn:=Hd (HB2.out.trans (hbn.mono HB2.out.size))
  have HXn:=Hd (heap_below hbn HX2.out (Array.getElem?_eq_some_iff.1 HX2.out).1)
  have HN:=Hd (none_any [(false,211)] T.kind T.text T.num T.place (.slice p n c) W2.heap.size 1 1 (W2.alloc (.cells (askC [(false,211)]).toArray 97)) rfl (by omega) (heap_alloc_new W2 _))
  rw[←hwn] at HN
  clear hbn
  go_wp2_with fail
  change Calls Tryz.prog 27 #[_,_] (W2.alloc (.cells (askC [(false,211)]).toArray 97)) _
  rw[←hwn]
  clear hwn
  refine HN.out.mono ?_
  rintro e w3 ⟨hb3,he⟩
  have he:e=.returned (.tuple #[]):=he
  subst he
  have HB3:=Hd (HBn.out.trans (hb3.mono HBn.out.size))
  have hx3:=heap_below hb3 HXn.out (Array.getElem?_eq_some_iff.1 HXn.out).1
  have HX3:=Hd hx3
  clear hb3 a0 a1 a2 a3 a4 hx3 HN
  obtain⟨a0,a1,a2,a3,a4⟩:=cells5 HX3.out
  obtain⟨b,off,cap,vs,hev,_,_,_,_,hat,hcell⟩:=Rd.row_at (HV.out w3 HB3.out) htk
  obtain⟨rfl,_,_⟩:=type_at.1 hat
  injection hev with e1 _ e3
  subst e1;subst e3
  have c1:w3.cell? ⟨b,off+k*2+1,none⟩=some (.int .i64 t.fields):=hcell 1 _ rfl
  have m0:=HM.out w3 HB3.out
  have A0:=fun x:Wb w3=>x.cell a0
  have A1:=fun x:Wb w3=>x.cell a1
  have A2:=fun x:Wb w3=>x.cell a2
  have A3:=fun x:Wb w3=>x.cell a3
  have A4:=fun x:Wb w3=>x.cell a4
  have B1:=fun x:Wb w3=>x.cell c1
  have M0:=fun x:Wb w3=>x.cell m0
  clear hat hcell htk
  cases hq:(t.fields==(n:Int)) with
  | true =>
   have hq2:(t.fields != (n:Int))=false:=by simp only[bne,hq];rfl
   have HQ:=Hd hq
   go_wp2_with fail
   refine RE.wp_region_eff (by kernel_rfl) 17 [16] [] (fun _ W=>∃x:Wb w3,W=x.1) (fun W W'=>Below W.heap.size W W') (fun i ys=>ys.getD 0 undef) (fun i W ys=>if i=16 then One 97 w3.heap.size (askC [(false,212)]) W (ys.getD 0 undef) else True) (by kernel_rfl) (fun _ _ _ _ _ _ h hb=>wb_next h hb) (fun i W W' ys h _ hb=>by split at h;(rw[if_pos (by assumption)];exact h.below hb);rw[if_neg (by assumption)];trivial) ⟨⟨w3.drew,(Below.refl _ _).drew⟩,rfl⟩ ?_
   simp only[List.take_succ_cons,List.take_zero,List.drop_succ_cons,List.drop_zero]
   repeat (refine RE.wpE_read (fun W=>∃x:Wb w3,W=x.1) (fun _ _ _ h=>h) rfl rfl rfl ⟨⟨w3.drew,(Below.refl _ _).drew⟩,rfl⟩ ?_;go_big_quiet_step (fail);refine wpQuiet_nil ?_)
   refine RE.wpE_turn rfl rfl ?_ (fun ys=>?_)
   ·intro W hC _ hE
    obtain⟨s9,_,x,rfl⟩:=hC
    exact upon_one elemAsked (vs:=askC [(false,212)]) _ rfl rfl rfl x.2.size (fun v W' hb ho=>⟨[v],rfl,hb,hb,ho⟩)
   simp only[Act.put,List.setIfInBounds_toArray,List.set_cons_zero,List.set_cons_succ]
   refine RE.wpE_nil ?_
   intro W hS hE
   obtain⟨x,rfl⟩:=hS
   obtain⟨g,eg,lg,hg⟩:One 97 w3.heap.size (askC [(false,212)]) x.1 (ys.getD 0 undef):=hE 16 ys rfl
   rw[eg]
   have HN:=Hd (none_any [(false,212)] T.kind T.text T.num T.place (.slice p n c) g 1 1 x.1 rfl (by omega) hg)
   have HBx:=Hd (HB1.out.trans ((HB3.out.trans (x.2.mono HB3.out.size)).mono HB1.out.size))
   clear hE eg lg hg A0 A1 A2 A3 A4 B1 M0
   go_wp2_with fail
   refine HN.out.mono ?_
   rintro e w5 ⟨hb5,he⟩
   have he:e=.returned (.tuple #[]):=he
   subst he
   have HB5:=Hd (HBx.out.trans (hb5.mono HBx.out.size))
   clear hb5
   go_wp2_with fail
   go_ret
   refine⟨HB5.out,?_⟩
   rw[HT2.out,HQ.out]
   rfl
  | false =>
   have hq2:(t.fields != (n:Int))=true:=by simp only[bne,hq];rfl
   have HQ:=Hd hq
   go_wp2_with fail
   refine RE.wp_region_eff (by kernel_rfl) 17 [16] [] (fun _ W=>∃x:Wb w3,W=x.1) (fun W W'=>Below W.heap.size W W') (fun i ys=>ys.getD 0 undef) (fun i W ys=>if i=16 then One 97 w3.heap.size (askC [(true,212)]) W (ys.getD 0 undef) else True) (by kernel_rfl) (fun _ _ _ _ _ _ h hb=>wb_next h hb) (fun i W W' ys h _ hb=>by split at h;(rw[if_pos (by assumption)];exact h.below hb);rw[if_neg (by assumption)];trivial) ⟨⟨w3.drew,(Below.refl _ _).drew⟩,rfl⟩ ?_
   simp only[List.take_succ_cons,List.take_zero,List.drop_succ_cons,List.drop_zero]
   repeat (refine RE.wpE_read (fun W=>∃x:Wb w3,W=x.1) (fun _ _ _ h=>h) rfl rfl rfl ⟨⟨w3.drew,(Below.refl _ _).drew⟩,rfl⟩ ?_;go_big_quiet_step (fail);refine wpQuiet_nil ?_)
   refine RE.wpE_turn rfl rfl ?_ (fun ys=>?_)
   ·intro W hC _ hE
    obtain⟨s9,_,x,rfl⟩:=hC
    exact upon_one elemAsked (vs:=askC [(true,212)]) _ rfl rfl rfl x.2.size (fun v W' hb ho=>⟨[v],rfl,hb,hb,ho⟩)
   simp only[Act.put,List.setIfInBounds_toArray,List.set_cons_zero,List.set_cons_succ]
   refine RE.wpE_nil ?_
   intro W hS hE
   obtain⟨x,rfl⟩:=hS
   obtain⟨g,eg,lg,hg⟩:One 97 w3.heap.size (askC [(true,212)]) x.1 (ys.getD 0 undef):=hE 16 ys rfl
   rw[eg]
   have HN:=Hd (none_any [(true,212)] T.kind T.text T.num T.place (.slice p n c) g 1 1 x.1 rfl (by omega) hg)
   have HBx:=Hd (HB1.out.trans ((HB3.out.trans (x.2.mono HB3.out.size)).mono HB1.out.size))
   clear hE eg lg hg A0 A1 A2 A3 A4 B1 M0
   go_wp2_with fail
   refine HN.out.mono ?_
   rintro e w5 ⟨hb5,he⟩
   have he:e=faultP 212 T.place:=he
   subst he
   refine⟨rfl,HBx.out.trans (hb5.mono HBx.out.size),?_⟩
   rw[HT2.out,HQ.out]
   rfl
theorem ekids_shape {w:World}{F:Nat→Prop}{d:Nat}{ks:List CExpr}{s:Value}(h:ekidsAt w F d ks s):∃p c,s=.slice p ks.length c:=by
 cases d with
 | zero=>obtain⟨rfl,p,c,rfl⟩:=h;exact⟨p,c,rfl⟩
 | succ d=>exact Rd.row_shape h
theorem condRd_n (d:Nat):(condRd d).n=10:=by cases d<;>rfl
theorem actRd_n (d:Nat):(actRd d).n=4:=rfl
theorem ruleRd_n (d:Nat):(ruleRd d).n=5:=rfl
def FactRel (w:World) (n:Nat) (cs:List CCond) (f i:Value) (W:World):Prop:=∃k:Nat,k≤n∧i=.int .i64 (k:Int)∧f=.int .i64 ((factsM (cs.take k):Nat):Int)∧Below w.heap.size w W
theorem factsM_next (l:List CCond)(k:Nat)(c:CCond)(h:l[k]? = some c):factsM (l.take (k+1))=factsM (l.take k)+(if c.kind==1 then 1 else 0):=by
 unfold factsM
 rw[List.take_add_one,h,List.filter_append,List.length_append]
 congr 1
 show (List.filter _ [c]).length=_
 by_cases hc:(c.kind==1)=true
 ·rw[if_pos hc];simp[List.filter,hc]
 ·rw[if_neg hc]
  simp only[Bool.not_eq_true] at hc
  simp[List.filter,hc]
theorem facts_any (d:Nat)(conds:List CCond)(vC:Value)(F:Nat→Prop)(M:Nat)(w:World)(hv:(condRd d).row w F conds vC)(hF:∀b,F b→b<w.heap.size)(hm:w.cell? ⟨M,6,none⟩=some vC)(hn10:conds.length≤10000) :
  Calls Tryz.prog 62 #[.pointer (some ⟨M,0,none⟩)] w (fun e w'=>e=.returned (.int .i64 (factsM conds:Int))∧Below w.heap.size w w'):=by
 obtain⟨p,c,rfl⟩:=Rd.row_shape hv
 obtain⟨n,hn⟩:∃n,conds.length=n:=⟨_,rfl⟩
 have HV:=Hd (fun W (hW:Below w.heap.size w W)=>Rd.row_below hv hF hW)
 rw[hn] at HV hm hn10
 have HN:=Hd hn
 have hn3:(n:Int)≤10000:=by omega
 clear hv hn
 go_enter Tryz.func62,Tryz.ntmps62
 go_wp2
 go_loopw [3,12] (FactRel w n conds) (fun _ i _=>n-(intOf i).toNat)
 case atStart=>exact⟨0,Nat.zero_le _,rfl,rfl,Below.refl _ _⟩
 case round =>
  obtain⟨k,hk,rfl,rfl,hb⟩:=hrel
  have hk0:(0:Int)≤k:=by omega
  have HB:=Hd hb
  by_cases hlt:k<n
  ·have hk1:(k:Int)<n:=by omega
   obtain⟨x,hx⟩:∃x,conds[k]? = some x:=⟨_,List.getElem?_eq_getElem (by rw[HN.out];exact hlt)⟩
   obtain⟨b,off,cap,vs,he,_,_,_,_,hat,hcell⟩:=Rd.row_at (HV.out wr hb) hx
   injection he with e1 _ e3
   subst e1;subst e3
   have hcell:∀(m:Nat) (u:Value),vs[m]? = some u→wr.cell? ⟨b,off+k*10+m,none⟩=some u:=fun m u h=>by rw[←condRd_n d];exact hcell m u h
   obtain⟨_,_,_,sa,s,rfl,hra,hrk⟩:=cond_at.1 hat
   obtain⟨pa,ca,rfl⟩:=Rd.row_shape hra
   obtain⟨pk,ck,rfl⟩:=ekids_shape hrk
   have c0:wr.cell? ⟨b,off+k*10,none⟩=some (.int .u8 x.kind):=hcell 0 _ rfl
   have c1:wr.cell? ⟨b,off+k*10+1,none⟩=some (.int .i64 x.type):=hcell 1 _ rfl
   have c2:wr.cell? ⟨b,off+k*10+2,none⟩=some (.slice pa x.args.length ca):=hcell 2 _ rfl
   have c3:wr.cell? ⟨b,off+k*10+3,none⟩=some (.int .u8 x.test.kind):=hcell 3 _ rfl
   have c4:wr.cell? ⟨b,off+k*10+4,none⟩=some (.int .u8 x.test.val.kind):=hcell 4 _ rfl
   have c5:wr.cell? ⟨b,off+k*10+5,none⟩=some (.int .i64 x.test.val.num):=hcell 5 _ rfl
   have c6:wr.cell? ⟨b,off+k*10+6,none⟩=some (.string x.test.val.text):=hcell 6 _ rfl
   have c7:wr.cell? ⟨b,off+k*10+7,none⟩=some (.int .i64 x.test.var):=hcell 7 _ rfl
   have c8:wr.cell? ⟨b,off+k*10+8,none⟩=some (.int .u8 x.test.op):=hcell 8 _ rfl
   have c9:wr.cell? ⟨b,off+k*10+9,none⟩=some (.slice pk x.test.kids.length ck):=hcell 9 _ rfl
   have HNx:=Hd (factsM_next conds k x hx)
   have hfl:factsM (conds.take k)≤10000:=by
    have h1:factsM (conds.take k)≤(conds.take k).length:=List.length_filter_le _ _
    have h2:=List.length_take_le k conds
    omega
   have hfl2:((factsM (conds.take k):Nat):Int)≤10000:=by omega
   have hfl0:(0:Int)≤((factsM (conds.take k):Nat):Int):=by omega
   have hbn:Below wr.heap.size wr (wr.alloc (.cells #[.int .u8 x.kind,.int .i64 x.type,.slice pa x.args.length ca,.int .u8 x.test.kind,.int .u8 x.test.val.kind,.int .i64 x.test.val.num,.string x.test.val.text,.int .i64 x.test.var,.int .u8 x.test.op,.slice pk x.test.kids.length ck] 60)):=(Below.refl _ wr).alloc (Nat.le_refl _) _
   have HBn:=Hd (HB.out.trans (hbn.mono HB.out.size))
   clear hat hcell hra hrk hx hb hbn
   cases hq:(x.kind==1) with
   | true =>
    have HQ:Hid (factsM (conds.take (k+1))=factsM (conds.take k)+1):=by show _=_;rw[HNx.out,hq];rfl
    have hx1:x.kind=1:=by simpa using hq
    rw[hx1] at HBn
    clear hq
    go_wp2_with fail
    exact⟨⟨k+1,by omega,by go_num,by rw[HQ.out];go_num,HBn.out⟩,by simp[intOf];omega⟩
   | false =>
    have HQ:Hid (factsM (conds.take (k+1))=factsM (conds.take k)):=by show _=_;rw[HNx.out,hq];rfl
    have hx1:¬x.kind=1:=by simpa using hq
    clear hq
    go_wp2_with fail
    exact⟨⟨k+1,by omega,by go_num,by rw[HQ.out],HBn.out⟩,by simp[intOf];omega⟩
  ·have HQ:Hid (factsM (conds.take k)=factsM conds):=by show _=_;rw[List.take_of_length_le (by rw[HN.out];omega)]
   clear hb
   go_wp2_with fail
   go_ret
   exact⟨by rw[←HQ.out];rfl,HB.out⟩
end Go.Proofs.YtglbjooofdnbkaaGreatDoor
