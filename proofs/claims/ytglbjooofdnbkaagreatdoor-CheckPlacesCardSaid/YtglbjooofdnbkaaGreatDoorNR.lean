/- Several texts joined, each with its own sentence and conditions ahead of it: SuA, TrimA, SuN, SuB, SuC. -/
import Derived.Test.YtglbjooofdnbkaaGreatDoorNO
import Derived.Test.YtglbjooofdnbkaaGreatDoorNA0
import Derived.Test.YtglbjooofdnbkaaGreatDoorMD
import Derived.Shelf.Strings.SlTrimAscii
namespace Go.Proofs.YtglbjooofdnbkaaGreatDoor
set_option maxHeartbeats 4000000
set_option maxRecDepth 100000
open Go.RowKit
def plainM (a b c:Bool) (e:CExpr):Bool:=(a||zeroV e.val)&&(b||e.var==0)&&(c||(e.op==0&&e.kids.isEmpty))
theorem text_nil (t:ByteArray):(t.toList=[])↔t.data.toList.isEmpty=true:=by
 rw[ByteArray.toList_eq,List.isEmpty_iff]
theorem natz (n:Nat):((n:Int)==0)=decide (n=0):=by
 rw[Bool.eq_iff_iff];simp
theorem plain_tff (e:CExpr)(p:Option Addr)(n c:Nat)(w:World)(hn:e.kids.length=n) :
  Calls Tryz.prog 67 #[.agg #[.int .u8 e.kind,.int .u8 e.val.kind,.int .i64 e.val.num,.string e.val.text,.int .i64 e.var,.int .u8 e.op,.slice p n c],.bool true,.bool false,.bool false] w (BoolPost (plainM true false false e) w):=by
 have HB:Hid (Below w.heap.size w (w.alloc (.cells #[.int .u8 e.kind,.int .u8 e.val.kind,.int .i64 e.val.num,.string e.val.text,.int .i64 e.var,.int .u8 e.op,.slice p n c] 58))):=(Below.refl _ w).alloc (Nat.le_refl _) _
 have HN:Hid (e.kids.isEmpty=decide (n=0)):=by
  show _=_
  rw[←hn]
  cases e.kids<;>rfl
 have HP:Hid (plainM true false false e=((true||(e.val.kind==0&&e.val.num==0&&decide (e.val.text.toList=[])))&&(false||e.var==0)&&(false||(e.op==0&&decide (n=0))))):=by
  show _=_
  unfold plainM zeroV
  rw[HN.out,show decide (e.val.text.toList=[])=e.val.text.data.toList.isEmpty by rw[Bool.eq_iff_iff,decide_eq_true_iff];exact text_nil _]
 rw[HP.out]
 obtain⟨ek,ev,er,eo,es⟩:=e
 obtain⟨vk,vn,vt⟩:=ev
 simp only[CExpr.kind,CExpr.val,CExpr.var,CExpr.op] at HB ⊢
 clear hn HN HP
 go_enter Tryz.func67,Tryz.ntmps67
 go_wp2
 all_goals first
  | (go_ret;exact⟨by simp_all [natz],by simp_all;exact HB.out⟩)
  | (go_ret;exact⟨by simp_all [],by first|exact HB.out|(have:=HB.out;simp_all)⟩)
theorem plain_ftf (e:CExpr)(p:Option Addr)(n c:Nat)(w:World)(hn:e.kids.length=n) :
  Calls Tryz.prog 67 #[.agg #[.int .u8 e.kind,.int .u8 e.val.kind,.int .i64 e.val.num,.string e.val.text,.int .i64 e.var,.int .u8 e.op,.slice p n c],.bool false,.bool true,.bool false] w (BoolPost (plainM false true false e) w):=by
 have HB:Hid (Below w.heap.size w (w.alloc (.cells #[.int .u8 e.kind,.int .u8 e.val.kind,.int .i64 e.val.num,.string e.val.text,.int .i64 e.var,.int .u8 e.op,.slice p n c] 58))):=(Below.refl _ w).alloc (Nat.le_refl _) _
 have HN:Hid (e.kids.isEmpty=decide (n=0)):=by
  show _=_
  rw[←hn]
  cases e.kids<;>rfl
 have HP:Hid (plainM false true false e=((false||(e.val.kind==0&&e.val.num==0&&decide (e.val.text.toList=[])))&&(true||e.var==0)&&(false||(e.op==0&&decide (n=0))))):=by
  show _=_
  unfold plainM zeroV
  rw[HN.out,show decide (e.val.text.toList=[])=e.val.text.data.toList.isEmpty by rw[Bool.eq_iff_iff,decide_eq_true_iff];exact text_nil _]
 rw[HP.out]
 obtain⟨ek,ev,er,eo,es⟩:=e
 obtain⟨vk,vn,vt⟩:=ev
 simp only[CExpr.kind,CExpr.val,CExpr.var,CExpr.op] at HB ⊢
 clear hn HN HP
 go_enter Tryz.func67,Tryz.ntmps67
 go_wp2
 all_goals first
  | (go_ret;exact⟨by simp_all [natz],by simp_all;exact HB.out⟩)
  | (go_ret;exact⟨by simp_all [],by first|exact HB.out|(have:=HB.out;simp_all)⟩)
theorem plain_fft (e:CExpr)(p:Option Addr)(n c:Nat)(w:World)(hn:e.kids.length=n) :
  Calls Tryz.prog 67 #[.agg #[.int .u8 e.kind,.int .u8 e.val.kind,.int .i64 e.val.num,.string e.val.text,.int .i64 e.var,.int .u8 e.op,.slice p n c],.bool false,.bool false,.bool true] w (BoolPost (plainM false false true e) w):=by
 have HB:Hid (Below w.heap.size w (w.alloc (.cells #[.int .u8 e.kind,.int .u8 e.val.kind,.int .i64 e.val.num,.string e.val.text,.int .i64 e.var,.int .u8 e.op,.slice p n c] 58))):=(Below.refl _ w).alloc (Nat.le_refl _) _
 have HN:Hid (e.kids.isEmpty=decide (n=0)):=by
  show _=_
  rw[←hn]
  cases e.kids<;>rfl
 have HP:Hid (plainM false false true e=((false||(e.val.kind==0&&e.val.num==0&&decide (e.val.text.toList=[])))&&(false||e.var==0)&&(true||(e.op==0&&decide (n=0))))):=by
  show _=_
  unfold plainM zeroV
  rw[HN.out,show decide (e.val.text.toList=[])=e.val.text.data.toList.isEmpty by rw[Bool.eq_iff_iff,decide_eq_true_iff];exact text_nil _]
 rw[HP.out]
 obtain⟨ek,ev,er,eo,es⟩:=e
 obtain⟨vk,vn,vt⟩:=ev
 simp only[CExpr.kind,CExpr.val,CExpr.var,CExpr.op] at HB ⊢
 clear hn HN HP
 go_enter Tryz.func67,Tryz.ntmps67
 go_wp2
 all_goals first
  | (go_ret;exact⟨by simp_all [],by simp_all;exact HB.out⟩)
  | (go_ret;exact⟨by simp_all [],by first|exact HB.out|(have:=HB.out;simp_all)⟩)
theorem plain_fff (e:CExpr)(p:Option Addr)(n c:Nat)(w:World)(hn:e.kids.length=n) :
  Calls Tryz.prog 67 #[.agg #[.int .u8 e.kind,.int .u8 e.val.kind,.int .i64 e.val.num,.string e.val.text,.int .i64 e.var,.int .u8 e.op,.slice p n c],.bool false,.bool false,.bool false] w (BoolPost (plainM false false false e) w):=by
 have HB:Hid (Below w.heap.size w (w.alloc (.cells #[.int .u8 e.kind,.int .u8 e.val.kind,.int .i64 e.val.num,.string e.val.text,.int .i64 e.var,.int .u8 e.op,.slice p n c] 58))):=(Below.refl _ w).alloc (Nat.le_refl _) _
 have HN:Hid (e.kids.isEmpty=decide (n=0)):=by
  show _=_
  rw[←hn]
  cases e.kids<;>rfl
 have HP:Hid (plainM false false false e=((false||(e.val.kind==0&&e.val.num==0&&decide (e.val.text.toList=[])))&&(false||e.var==0)&&(false||(e.op==0&&decide (n=0))))):=by
  show _=_
  unfold plainM zeroV
  rw[HN.out,show decide (e.val.text.toList=[])=e.val.text.data.toList.isEmpty by rw[Bool.eq_iff_iff,decide_eq_true_iff];exact text_nil _]
 rw[HP.out]
 obtain⟨ek,ev,er,eo,es⟩:=e
 obtain⟨vk,vn,vt⟩:=ev
 simp only[CExpr.kind,CExpr.val,CExpr.var,CExpr.op] at HB ⊢
 clear hn HN HP
 go_enter Tryz.func67,Tryz.ntmps67
 go_wp2
 all_goals first
  | (go_ret;exact⟨by simp_all [natz],by simp_all;exact HB.out⟩)
  | (go_ret;exact⟨by simp_all [],by first|exact HB.out|(have:=HB.out;simp_all)⟩)
theorem dw_nil (p:UInt8→Bool)(l:List UInt8):l.dropWhile p=[]↔∀x∈l,p x=true:=by
 induction l with
 | nil=>simp
 | cons a l ih =>
  rw[List.dropWhile_cons]
  by_cases h:p a=true
  ·rw[if_pos h,ih];simp[h]
  ·rw[if_neg h];simp[h]
theorem trimS_nil (l cs:List UInt8):Lib.trimS l cs=[]↔∀x∈l,cs.contains x=true:=by
 unfold Lib.trimS Lib.trimLeftS Lib.trimRightS
 have hk:∀(m:List UInt8),(∀x∈(m.dropWhile (cs.contains ·)).reverse,cs.contains x=true)↔∀x∈m,cs.contains x=true:=by
  intro m
  induction m with
  | nil=>simp
  | cons a m ih =>
   rw[List.dropWhile_cons]
   by_cases h:cs.contains a=true
   ·rw[if_pos h,ih];simp only[List.mem_cons,forall_eq_or_imp,h,true_and]
   ·rw[if_neg h];simp only[List.mem_reverse]
 rw[dw_nil,hk]
 simp only[List.mem_reverse]
theorem let_is (c:UInt8):lettersB.data.toList.contains c=isLow c:=has_letters c
theorem more_is (c:UInt8):moreB.data.toList.contains c=(isLow c||isDig c||c==95):=has_more c
theorem nameFrom_pos (k:Nat)(l:List UInt8)(hk:k≠0):nameFrom k l=l.all (fun c=>isLow c||isDig c||c==95):=by
 induction l generalizing k with
 | nil=>rfl
 | cons c r ih =>
  unfold nameFrom
  rw[List.all_cons,ih (k+1) (by omega)]
  unfold nameAt
  rw[decide_eq_true hk,Bool.true_and,Bool.or_assoc]
theorem namedF_is (l:List UInt8):namedF l=(!l.isEmpty&&decide (l.length≤24)&&(match l with | []=>false|c::_=>lettersB.data.toList.contains c)&&(Lib.trimS l moreB.data.toList).isEmpty):=by
 have ht:(Lib.trimS l moreB.data.toList).isEmpty=l.all (fun c=>isLow c||isDig c||c==95):=by
  rw[Bool.eq_iff_iff,List.isEmpty_iff,trimS_nil,List.all_eq_true]
  simp only[more_is]
 rw[ht]
 unfold namedF
 cases l with
 | nil=>rfl
 | cons c r =>
  unfold nameFrom
  rw[nameFrom_pos 1 r (by omega),List.all_cons]
  simp only[let_is]
  unfold nameAt
  simp only[List.length_cons,List.isEmpty_cons]
  cases isLow c<;>cases (r.all (fun c=>isLow c||isDig c||c==95))<;>simp
theorem mk_nil (l:List UInt8):((⟨l.toArray⟩:ByteArray).toList.isEmpty)=l.isEmpty:=by
 rw[ByteArray.toList_eq]
theorem trim_call (s:ByteArray)(hs:s.size≤maxLen)(W:World):Calls Tryz.prog 93 #[.string s,.string moreB] W fun e w'=>∃t:ByteArray,e=.returned (.string t)∧t.toList.isEmpty=(Lib.trimS s.data.toList moreB.data.toList).isEmpty∧Below W.heap.size W w':=
 (Any.strings_Trim_laid Tryz.lays160 (by kernel_rfl) s moreB W (Nat.le_trans hs (by decide)) (by decide) (ascii_of_all (by decide))).mono fun e w' ⟨h1,h2⟩=>⟨_,h1,mk_nil _,h2⟩
theorem vnamed_any (s:ByteArray)(w:World)(hs:s.size≤maxLen):Calls Tryz.prog 65 #[.string s] w (BoolPost (namedF s.data.toList) w):=by
 rcases Nat.eq_zero_or_pos s.size with h0|h0
 ·have e:s.data.toList=[]:=List.eq_nil_of_length_eq_zero (by rw[Array.length_toList];exact h0)
  have he:s.toList.isEmpty=true:=by rw[ByteArray.toList_eq,e];rfl
  have HE:=Hd (show namedF s.data.toList=false by rw[e];rfl)
  clear e h0 hs
  go_enter Tryz.func65,Tryz.ntmps65
  go_wp2
  go_ret
  rw[HE.out]
  exact⟨rfl,Below.refl _ _⟩
 ·have he:s.toList.isEmpty=false:=bne_of_size s h0
  have hd:s.data.toList=s[0]::s.data.toList.drop 1:=by
   have:=drop_cons s 0 h0
   simpa using this
  have hn:namedF s.data.toList=(decide (s.size≤24)&&hasB lettersB s[0]&&(Lib.trimS s.data.toList moreB.data.toList).isEmpty):=by
   have hl:s.data.toList.length=s.size:=Array.length_toList
   rw[namedF_is,hl]
   generalize Lib.trimS s.data.toList moreB.data.toList=u
   rw[hd]
   rfl
  have HN:=Hd hn
  have HC:=Hd ((strings_IndexByte' lettersB s[0] w).mono (R':=fun e w'=>(∃i:Int,e=.returned (.int .i64 i)∧decide (0≤i)=hasB lettersB s[0])∧w=w') (fun e w' hh=>⟨⟨_,hh.1,indexbyte_has _ _⟩,hh.2⟩))
  have HT:=Hd (trim_call s hs w)
  clear hn hd hs
  generalize hx:namedF s.data.toList=x at HN ⊢
  clear hx
  generalize hu:(Lib.trimS s.data.toList moreB.data.toList).isEmpty=u at HN HT
  clear hu
  generalize hy:hasB lettersB s[0]=y at HN HC
  clear hy
  go_enter Tryz.func65,Tryz.ntmps65
  by_cases hl:s.size≤24
  ·go_wp2_with (first
    | (go_at_call 92;refine Calls.mono HC.out ?_;rintro e w' ⟨⟨i,rfl,hi⟩,rfl⟩;have HI:=Hd hi;clear hi)
    | (go_at_call 93;refine Calls.mono HT.out ?_;rintro e w' ⟨t,rfl,ht,hb⟩;have HI2:=Hd ht;have HB:=Hd hb;clear ht hb))
   all_goals go_ret
   all_goals rw[HN.out]
   ·have h0:0≤i:=by assumption
    have hy:=HI.out
    rw[decide_eq_true h0] at hy
    rw[←hy,←HI2.out]
    exact⟨by simp[hl],HB.out⟩
   ·have h0:i<0:=by assumption
    have hy:=HI.out
    rw[decide_eq_false (by omega)] at hy
    rw[←hy]
    exact⟨by simp,Below.refl _ _⟩
  ·go_wp2
   go_ret
   rw[HN.out]
   exact⟨by simp[hl],Below.refl _ _⟩
theorem isEmpty_dec (l:List UInt8):l.isEmpty=decide (l=[]):=by
 cases l<;>rfl
theorem vright_any (v:CVal)(w:World)(hs:v.text.size≤maxLen):Calls Tryz.prog 34 #[.agg #[.int .u8 v.kind,.int .i64 v.num,.string v.text]] w (BoolPost (valOk v) w):=by
 have hb1:Below w.heap.size w (w.alloc (.cells #[.int .u8 v.kind,.int .i64 v.num,.string v.text] 54)):=(Below.refl _ w).alloc (Nat.le_refl _) _
 have HB:=Hd hb1
 have HN:=Hd (vnamed_any v.text (w.alloc (.cells #[.int .u8 v.kind,.int .i64 v.num,.string v.text] 54)) hs)
 clear hb1
 by_cases h1:v.kind=1
 ·have hv:Hid (valOk v=decide (v.text.toList=[])):=by
   show _=_
   unfold valOk
   rw[h1,show decide (v.text.toList=[])=v.text.data.toList.isEmpty by rw[Bool.eq_iff_iff,decide_eq_true_iff];exact text_nil _]
   rfl
  rw[hv.out]
  rw[h1] at HB ⊢
  clear hv HN
  go_enter Tryz.func34,Tryz.ntmps34
  go_wp2
  all_goals (go_ret;exact⟨by simp_all [isEmpty_dec],by first|exact HB.out|(have:=HB.out;simp_all)⟩)
 by_cases h2:v.kind=2
 ·by_cases h0:v.num=0
  ·have hv:Hid (valOk v=namedF v.text.data.toList):=by
    show _=_
    unfold valOk
    rw[h2,h0];rfl
   rw[hv.out]
   rw[h2,h0] at HB HN ⊢
   clear hv
   go_enter Tryz.func34,Tryz.ntmps34
   go_wp2_with fail
   refine HN.out.mono ?_
   rintro e W2 ⟨rfl,hb2⟩
   have HB2:=Hd (HB.out.trans (hb2.mono HB.out.size))
   clear hb2 HN
   go_wp2_with fail
   go_ret
   exact⟨rfl,HB2.out⟩
  ·have hv:Hid (valOk v=false):=by
    show _=_
    unfold valOk
    rw[h2,show (v.num==0)=false by simpa using h0];rfl
   rw[hv.out]
   rw[h2] at HB ⊢
   clear hv HN
   go_enter Tryz.func34,Tryz.ntmps34
   go_wp2
   all_goals (go_ret;exact⟨by simp_all,by first|exact HB.out|(have:=HB.out;simp_all)⟩)
 ·have hv:Hid (valOk v=false):=by
   show _=_
   unfold valOk
   rw[show (v.kind==1)=false by simpa using h1,show (v.kind==2)=false by simpa using h2]
   rfl
  rw[hv.out]
  clear hv HN
  go_enter Tryz.func34,Tryz.ntmps34
  go_wp2
  all_goals (go_ret;exact⟨by simp_all,by first|exact HB.out|(have:=HB.out;simp_all)⟩)
theorem chnamed_any (s:ByteArray)(w:World)(hs:s.size≤maxLen):Calls Tryz.prog 20 #[.string s] w (BoolPost (namedF s.data.toList) w):=by
 have HR:Hid (Calls Tryz.prog 34 #[.agg #[.int .u8 2,.int .i64 0,.string s]] w (BoolPost (namedF s.data.toList) w)):=by
  have h:=vright_any ⟨2,0,s⟩ w hs
  exact h
 go_enter Tryz.func20,Tryz.ntmps20
 go_wp2_with fail
 refine HR.out.mono ?_
 rintro e W2 ⟨rfl,hb2⟩
 have HB2:=Hd hb2
 clear hb2 HR
 go_wp2_with fail
 go_ret
 exact⟨rfl,HB2.out⟩
def idxG {α:Type} (q:α→Bool):List α→Nat→Option Nat
 | [],_=>none
 | K::l,k=>if q K then some k else idxG q l (k+1)
theorem idxG_hit {α:Type}(q:α→Bool):∀(l:List α)(m k:Nat)(K:α),l[k]? = some K→q K=true→(∀(j:Nat)(z:α),j<k→l[j]? = some z→q z=false)→idxG q l m=some (m+k)
 | [],m,k,K,h,_,_=>by simp at h
 | z::l,m,0,K,h,he,_=>by
  simp only[List.getElem?_cons_zero,Option.some.injEq] at h
  subst h
  unfold idxG
  rw[if_pos he];rfl
 | z::l,m,k+1,K,h,he,hno=>by
  rw[List.getElem?_cons_succ] at h
  have h0:=hno 0 z (by omega) rfl
  unfold idxG
  rw[h0]
  simp only[Bool.false_eq_true,if_false]
  rw[idxG_hit q l (m+1) k K h he (fun j z' hj hz=>hno (j+1) z' (by omega) (by rw[List.getElem?_cons_succ];exact hz))]
  congr 1;omega
theorem idxG_miss {α:Type}(q:α→Bool):∀(l:List α)(m:Nat),(∀(j:Nat)(z:α),l[j]? = some z→q z=false)→idxG q l m=none
 | [],m,_=>rfl
 | z::l,m,hno=>by
  unfold idxG
  rw[hno 0 z rfl]
  simp only[Bool.false_eq_true,if_false]
  exact idxG_miss q l (m+1) (fun j z' hz=>hno (j+1) z' (by rw[List.getElem?_cons_succ];exact hz))
theorem idxG_all {α:Type}(f:α→Bool):∀(l:List α)(m:Nat),(idxG (fun x=>!f x) l m).isSome = !(l.all f)
 | [],m=>rfl
 | z::l,m=>by
  unfold idxG
  rw[List.all_cons]
  cases h:f z with
  | true=>simp only[Bool.not_true,Bool.false_eq_true,if_false,Bool.true_and];exact idxG_all f l (m+1)
  | false=>simp
def FirstG {α:Type} (w:World) (n:Nat) (l:List α) (q:α→Bool) (i:Value) (W:World):Prop:=∃k:Nat,k≤n∧i=.int .i64 (k:Int)∧Below w.heap.size w W∧(∀(j:Nat) (z:α),j<k→l[j]? = some z→q z=false)
def VarsAt (S:Nat) (nv:Int) (w:World):Prop:=w.cell? ⟨S,2,none⟩=some (.int .i64 nv)
theorem VarsAt.below {S:Nat}{nv:Int}{w w':World}(h:VarsAt S nv w)(hb:Below w.heap.size w w'):VarsAt S nv w':=(hb.cell (p:=⟨S,2,none⟩) (blk_lt h)).trans h
def ExprSays (S:Nat) (nv:Int) (d:Nat) (f:CExpr→Bool):Prop:=∀(e:CExpr) (s:Value) (w:World),VarsAt S nv w→ExprFits e→ekidsAt w (fun b=>b<w.heap.size) d e.kids s →
 Calls Tryz.prog 69 #[.pointer (some ⟨S,0,none⟩),.agg #[.int .u8 e.kind,.int .u8 e.val.kind,.int .i64 e.val.num,.string e.val.text,.int .i64 e.var,.int .u8 e.op,s]] w (BoolPost (f e) w)
theorem exprs1_any (S:Nat)(nv:Int)(d:Nat)(f:CExpr→Bool)(hf:ExprSays S nv d f)(e:CExpr)(s:Value)(T:Nat)(w:World)(hv:VarsAt S nv w)(ht:w.cell? ⟨T,0,none⟩=some (.pointer (some ⟨S,0,none⟩)))(hfit:ExprFits e)(hk:ekidsAt w (fun b=>b<w.heap.size) d e.kids s) :
  Calls Tryz.prog 95 #[.agg #[.int .u8 e.kind,.int .u8 e.val.kind,.int .i64 e.val.num,.string e.val.text,.int .i64 e.var,.int .u8 e.op,s],.pointer (some ⟨T,0,none⟩)] w (BoolPost (!f e) w):=by
 obtain⟨p,c,hs⟩:=ekids_shape hk
 have hb:Below w.heap.size w (w.alloc (.cells #[.int .u8 e.kind,.int .u8 e.val.kind,.int .i64 e.val.num,.string e.val.text,.int .i64 e.var,.int .u8 e.op,s] 58)):=(Below.refl _ w).alloc (Nat.le_refl _) _
 have ht2:=(hb.cell (p:=⟨T,0,none⟩) (blk_lt ht)).trans ht
 have HE:=Hd (hf e s _ (hv.below hb) hfit (ekids_sub (fun b (hb2:b<w.heap.size)=>Nat.lt_of_lt_of_le hb2 hb.size) (ekids_keep (fun b hb2 o ho=>(hb.block b hb2).trans ho) hk)))
 have HB:=Hd hb
 obtain⟨nk,hnk⟩:∃nk,e.kids.length=nk:=⟨_,rfl⟩
 rw[hnk] at hs
 subst hs
 clear hb hk hv hf hfit hnk
 go_enter Tryz.func95,Tryz.ntmps95
 go_wp2_with fail
 refine HE.out.mono ?_
 rintro e2 W2 ⟨rfl,hb2⟩
 have HB2:=Hd (HB.out.trans (hb2.mono HB.out.size))
 clear hb2 HE
 go_wp2_with fail
 go_ret
 exact⟨rfl,HB2.out⟩
theorem idxE_any (S:Nat)(nv:Int)(d:Nat)(f:CExpr→Bool)(hf:ExprSays S nv d f)(l:List CExpr)(v:Value)(T:Nat)(w:World)(hv:VarsAt S nv w)(ht:w.cell? ⟨T,0,none⟩=some (.pointer (some ⟨S,0,none⟩)))(hl:(exprRd d).row w (fun b=>b<w.heap.size) l v) :
  Calls Tryz.prog 122 #[v,.func (.func 95) #[] #[.pointer (some ⟨T,0,none⟩)]] w (fun e w'=>e=.returned (.int .i64 (idxI (idxG (fun x=>!f x) l 0)))∧Below w.heap.size w w'):=by
 obtain⟨p,c,hvv⟩:=Rd.row_shape hl
 have hmx:=Rd.row_len hl
 subst hvv
 obtain⟨n,hn⟩:∃n,l.length=n:=⟨_,rfl⟩
 have HV:=Hd (fun W (hW:Below w.heap.size w W)=>Rd.row_below hl (fun _ h=>h) hW)
 have HTx:=Hd (fun W (hW:Below w.heap.size w W)=>(hW.cell (p:=⟨T,0,none⟩) (blk_lt ht)).trans ht)
 have HNv:=Hd (fun W (hW:Below w.heap.size w W)=>hv.below hW)
 obtain⟨q,hq⟩:∃q:CExpr→Bool,q=fun x=>!f x:=⟨_,rfl⟩
 have HQe:Hid (∀x,q x = !f x):=fun x=>by rw[hq]
 rw[←hq]
 rw[hn] at HV hmx ⊢
 have HN:=Hd hn
 have hn3:(n:Int)≤9223372036854775807:=by unfold maxLen at hmx;omega
 clear hl hn ht hv hq hmx
 go_enter Tryz.func122,Tryz.ntmps122
 go_wp2
 go_loopw [8] (FirstG w n l q) (fun i _=>n-(intOf i).toNat)
 case atStart=>exact⟨0,Nat.zero_le _,rfl,Below.refl _ _,fun j z hj=>by omega⟩
 case round =>
  obtain⟨k,hk,rfl,hb,hno⟩:=hrel
  have hk0:(0:Int)≤k:=by omega
  have HB:=Hd hb
  have HNo:=Hd hno
  clear hno
  by_cases hlt:k<n
  ·have hk1:(k:Int)<n:=by omega
   obtain⟨e,he⟩:∃e,l[k]? = some e:=⟨_,List.getElem?_eq_getElem (by rw[HN.out];exact hlt)⟩
   have hrow:=HV.out wr hb
   have hvs:=Rd.row_at hrow he
   rw[HN.out] at hvs
   obtain⟨b,off,cap,vs,hev,_,_,_,_,hat,hcell⟩:=hvs
   rw[exprRd_n] at hcell
   injection hev with e1 _ e3
   subst e1;subst e3
   obtain⟨hfit,s,rfl,hkk⟩:=expr_at.1 hat
   have hsh:=ekids_shape hkk
   obtain⟨ps,cs',hs⟩:=hsh
   obtain⟨nk,hnk⟩:∃nk,e.kids.length=nk:=⟨_,rfl⟩
   rw[hnk] at hs
   subst hs
   have c0:wr.cell? ⟨b,off+k*7,none⟩=some (.int .u8 e.kind):=hcell 0 _ rfl
   have c1:wr.cell? ⟨b,off+k*7+1,none⟩=some (.int .u8 e.val.kind):=hcell 1 _ rfl
   have c2:wr.cell? ⟨b,off+k*7+2,none⟩=some (.int .i64 e.val.num):=hcell 2 _ rfl
   have c3:wr.cell? ⟨b,off+k*7+3,none⟩=some (.string e.val.text):=hcell 3 _ rfl
   have c4:wr.cell? ⟨b,off+k*7+4,none⟩=some (.int .i64 e.var):=hcell 4 _ rfl
   have c5:wr.cell? ⟨b,off+k*7+5,none⟩=some (.int .u8 e.op):=hcell 5 _ rfl
   have c6:wr.cell? ⟨b,off+k*7+6,none⟩=some (.slice ps nk cs'):=hcell 6 _ rfl
   have HK:=Hd (exprs1_any S nv d f hf e (.slice ps nk cs') T wr (HNv.out wr hb) (HTx.out wr hb) hfit (ekids_sub (fun b (h:b<w.heap.size)=>Nat.lt_of_lt_of_le h hb.size) hkk))
   have HKx:Hid (l[k]? = some e):=he
   rw[←HQe.out e] at HK
   clear hrow hat hcell he hb hfit hkk hnk
   go_wp2_with fail
   refine HK.out.mono ?_
   rintro e2 w1 ⟨rfl,hb1⟩
   have HB1:=Hd (HB.out.trans (hb1.mono HB.out.size))
   clear hb1 c0 c1 c2 c3 c4 c5 c6
   cases hq:q e with
   | true =>
    have HH:=Hd (idxG_hit q l 0 k e HKx.out hq HNo.out)
    clear hq
    go_wp2_with fail
    go_ret
    exact⟨by rw[HH.out,Nat.zero_add];rfl,HB1.out⟩
   | false =>
    have HQ:=Hd hq
    clear hq
    go_wp2_with fail
    exact⟨⟨k+1,by omega,by go_num,HB1.out,fun j z hj hz=>by
     by_cases h:j=k
     ·subst h
      rw[HKx.out] at hz
      injection hz with hz
      rw[←hz];exact HQ.out
     ·exact HNo.out j z (by omega) hz⟩,by simp[intOf];omega⟩
  ·have HH:Hid (idxG q l 0=none):=idxG_miss _ l 0 (fun j z hz=>HNo.out j z (by
    have:=(List.getElem?_eq_some_iff.1 hz).1
    rw[HN.out] at this
    omega) hz)
   clear hb
   go_wp2_with fail
   go_ret
   exact⟨by rw[HH.out];rfl,HB.out⟩
theorem contE_any (S:Nat)(nv:Int)(d:Nat)(f:CExpr→Bool)(hf:ExprSays S nv d f)(l:List CExpr)(v:Value)(T:Nat)(w:World)(hv:VarsAt S nv w)(ht:w.cell? ⟨T,0,none⟩=some (.pointer (some ⟨S,0,none⟩)))(hl:(exprRd d).row w (fun b=>b<w.heap.size) l v) :
  Calls Tryz.prog 94 #[v,.func (.func 95) #[] #[.pointer (some ⟨T,0,none⟩)]] w (BoolPost (!(l.all f)) w):=by
 have HI:=Hd (idxE_any S nv d f hf l v T w hv ht hl)
 rw[←idxG_all f l 0]
 obtain⟨p,c,hvv⟩:=Rd.row_shape hl
 obtain⟨n,hn⟩:∃n,l.length=n:=⟨_,rfl⟩
 rw[hn] at hvv
 subst hvv
 clear hl ht hv hf hn
 cases hi:idxG (fun x=>!f x) l 0 with
 | none =>
  rw[hi] at HI
  have HI:Hid (Calls Tryz.prog 122 #[.slice p n c,.func (.func 95) #[] #[.pointer (some ⟨T,0,none⟩)]] w (fun e w'=>e=.returned (.int .i64 (-1))∧Below w.heap.size w w')):=HI
  clear hi
  go_enter Tryz.func94,Tryz.ntmps94
  go_wp2_with fail
  refine HI.out.mono ?_
  rintro e w1 ⟨rfl,hb1⟩
  have HB:=Hd hb1
  clear hb1 HI
  go_wp2_with fail
  go_ret
  exact⟨rfl,HB.out⟩
 | some k =>
  rw[hi] at HI
  have HI:Hid (Calls Tryz.prog 122 #[.slice p n c,.func (.func 95) #[] #[.pointer (some ⟨T,0,none⟩)]] w (fun e w'=>e=.returned (.int .i64 (k:Int))∧Below w.heap.size w w')):=HI
  have hk1:(0:Int)≤k:=by omega
  clear hi
  go_enter Tryz.func94,Tryz.ntmps94
  go_wp2_with fail
  refine HI.out.mono ?_
  rintro e w1 ⟨rfl,hb1⟩
  have HB:=Hd hb1
  clear hb1 HI
  go_wp2_with fail
  go_ret
  exact⟨rfl,HB.out⟩
theorem suExprs_any (S:Nat)(nv:Int)(d:Nat)(f:CExpr→Bool)(hf:ExprSays S nv d f)(l:List CExpr)(v:Value)(w:World)(hv:VarsAt S nv w)(hl:(exprRd d).row w (fun b=>b<w.heap.size) l v) :
  Calls Tryz.prog 71 #[.pointer (some ⟨S,0,none⟩),v] w (BoolPost (l.all f) w):=by
 have hmf:∀(fn:Fn) (first cap:Array Value) (w:World),(Instr.makeFunc fn first cap).run Tryz.prog w=.ok (.func fn first cap) w:=fun _ _ _ _=>rfl
 have hb:Below w.heap.size w (w.alloc (.cells #[.pointer (some ⟨S,0,none⟩)] 81)):=(Below.refl _ w).alloc (Nat.le_refl _) _
 have HC:=Hd (contE_any S nv d f hf l v w.heap.size _ (hv.below hb) (cell_new1 w _ _) (Rd.row_sub (fun b (h:b<w.heap.size)=>Nat.lt_of_lt_of_le h hb.size) (Rd.row_below hl (fun _ h=>h) hb)))
 have HB:=Hd hb
 obtain⟨p,c,hvv⟩:=Rd.row_shape hl
 obtain⟨n,hn⟩:∃n,l.length=n:=⟨_,rfl⟩
 rw[hn] at hvv
 subst hvv
 clear hb hl hv hf hn
 go_enter Tryz.func71,Tryz.ntmps71
 go_wp2_with fail
 refine HC.out.mono ?_
 rintro e w1 ⟨rfl,hb1⟩
 have HB1:=Hd (HB.out.trans (hb1.mono HB.out.size))
 clear hb1 HC
 go_wp2_with fail
 go_ret
 exact⟨by simp,HB1.out⟩
end Go.Proofs.YtglbjooofdnbkaaGreatDoor
