/- Several texts joined, each with its own sentence and conditions ahead of it: TreeT, TreeU, TreeV. -/
import Derived.Test.YtglbjooofdnbkaaGreatDoorMH
import Derived.Test.YtglbjooofdnbkaaGreatDoorMC
import Derived.Laws.EntriesVeiled
namespace Go.Proofs.YtglbjooofdnbkaaGreatDoor
set_option maxHeartbeats 2000000
set_option maxRecDepth 100000
open Go.RowKit
theorem amongB_iff (L:List ByteArray)(x:ByteArray):Lib.containsS L x=amongB L x.data.toList:=by
 rw[Bool.eq_iff_iff,Lib.containsS_iff,amongB,List.any_eq_true]
 constructor
 ·intro h;exact⟨x,h,by simp⟩
 ·rintro ⟨y,hy,he⟩
  have e:y=x:=by
   have h1:y.data.toList=x.data.toList:=by simpa using he
   have h2:y.data=x.data:=Array.toList_inj.1 h1
   exact ByteArray.ext h2
  rwa [←e]
theorem contains_lit (L:List ByteArray)(n B c:Nat)(t:TypeId)(x:ByteArray)(w:World)(hn:L.length=n)(h100:n≤100)(h:w.heap[B]? = some (.cells (L.map Value.string).toArray t (0,0))) :
  Calls Tryz.prog 83 #[.slice (some ⟨B,0,none⟩) n c,.string x] w fun e w'=>e=.returned (.bool (amongB L x.data.toList))∧Below w.heap.size w w':=by
 refine (Tryz.slices_Contains_string B 0 n c L x w (by omega) (by omega) (fun j hj=>?_)).mono ?_
 ·rw[Nat.zero_add,cell_of_row _ _ _ _ _ _ h]
  have hj':j<L.length:=by omega
  simp[List.getD_eq_getElem?_getD,List.getElem?_eq_getElem hj']
 ·rintro e w' ⟨rfl,rfl⟩
  refine⟨?_,Below.refl _ _⟩
  rw[List.take_of_length_le (by omega),amongB_iff]
def opB (k:Nat) (t:List UInt8):Bool:=(k==1&&amongB oneL t)||(k==2&&amongB twoL t)
theorem Wb.heap {w:World}(x:Wb w){b:Nat}{o:Obj}(h:w.heap[b]? = some o):x.1.heap[b]? = some o:=heap_below x.2 h (Array.getElem?_eq_some_iff.1 h).1
theorem three_new (w:World)(a b d:Obj):(((w.alloc a).alloc b).alloc d).heap[w.heap.size]? = some a∧(((w.alloc a).alloc b).alloc d).heap[w.heap.size+1]? = some b∧(((w.alloc a).alloc b).alloc d).heap[w.heap.size+1+1]? = some d∧Below w.heap.size w (((w.alloc a).alloc b).alloc d):=by
 refine⟨?_,?_,?_,(((Below.refl _ w).alloc (Nat.le_refl _) _).alloc (by simp) _).alloc (by simp;omega) _⟩<;>(simp only[at_alloc,World.size_alloc];repeat (first|rw[if_pos trivial] | rw[if_neg (by omega)] | rw[if_pos (by omega)]))
theorem lookOp_any (kd:Nat)(t:ByteArray)(nm pl:Int)(p:Option Addr)(n c:Nat)(w:World) :
  Calls Tryz.prog 55 #[.agg #[.int .u8 kd,.string t,.int .i64 nm,.int .i64 pl,.slice p n c]] w (BoolPost (opB n t.data.toList) w):=by
 obtain⟨X0,X1,X2,XB⟩:=three_new w (.cells #[.int .u8 kd,.string t,.int .i64 nm,.int .i64 pl,.slice p n c] 69) (.cells #[.string ⟨#[45]⟩,.string ⟨#[110,111,116]⟩] 165)
  (.cells #[.string ⟨#[111,114]⟩,.string ⟨#[97,110,100]⟩,.string ⟨#[61]⟩,.string ⟨#[33,61]⟩,.string ⟨#[60]⟩,.string ⟨#[60,61]⟩,.string ⟨#[62]⟩,.string ⟨#[62,61]⟩,.string ⟨#[43]⟩,.string ⟨#[45]⟩,.string ⟨#[42]⟩] 166)
 have H1:=Hd X1
 have H2:=Hd X2
 have HB:=Hd XB
 obtain⟨b0,b1,b2,b3,b4⟩:=cells5 X0
 have HO:Hid (opB n t.data.toList=((n==1&&amongB oneL t.data.toList)||(n==2&&amongB twoL t.data.toList))):=rfl
 have HC1:=Hd (fun W (h:W.heap[w.heap.size+1]? = some (.cells (oneL.map Value.string).toArray 165 (0,0)))=>contains_lit oneL 2 (w.heap.size+1) 2 165 t W rfl (by omega) h)
 have HC2:=Hd (fun W (h:W.heap[w.heap.size+1+1]? = some (.cells (twoL.map Value.string).toArray 166 (0,0)))=>contains_lit twoL 11 (w.heap.size+1+1) 11 166 t W rfl (by omega) h)
 clear X0 X1 X2 XB
 generalize opB n t.data.toList=o at *
 generalize amongB oneL t.data.toList=o1 at *
 generalize amongB twoL t.data.toList=o2 at *
 have T1:=fun x:Wb _=>x.cell b1
 go_enter Tryz.func55,Tryz.ntmps55
 by_cases hn1:n=1
 ·subst hn1
  go_wp2_with fail
  refine wp_region_below (by kernel_rfl) (by kernel_rfl) ?_
  repeat (go_big_quiet_step ((go_at_call 83;exact Calls.below_of (HC1.out _ (Wb.heap _ H1.out)))))
  refine wpQuiet_nil ?_
  intro W2 hw'
  have HBB:=Hd (HB.out.trans ((wb_below hw').mono HB.out.size))
  clear hw' T1
  go_wp2_with fail
  go_ret
  exact⟨ret_bool (by rw[HO.out];cases o1<;>rfl),HBB.out⟩
 ·have e1:((n:Int)==1)=false:=by simp;omega
  have e1':(n==1)=false:=by simp;omega
  have E1:=Hd e1'
  clear e1'
  by_cases hn2:n=2
  ·subst hn2
   go_wp2_with fail
   refine wp_region_below (by kernel_rfl) (by kernel_rfl) ?_
   repeat (go_big_quiet_step ((go_at_call 83;exact Calls.below_of (HC2.out _ (Wb.heap _ H2.out)))))
   refine wpQuiet_nil ?_
   intro W2 hw'
   have HBB:=Hd (HB.out.trans ((wb_below hw').mono HB.out.size))
   clear hw' T1
   go_wp2_with fail
   go_ret
   exact⟨ret_bool (by rw[HO.out];cases o1<;>cases o2<;>rfl),HBB.out⟩
  ·have e2:((n:Int)==2)=false:=by simp;omega
   have e2':(n==2)=false:=by simp;omega
   have E2:=Hd e2'
   clear e2' T1
   go_wp2_with fail
   go_ret
   exact⟨ret_bool (by rw[HO.out,E1.out,E2.out];rfl),HB.out⟩
theorem negB_no (c:UInt8)(r:List UInt8)(h:c≠45):negB (c::r)=false:=by
 unfold negB
 split
 ·rename_i heq;injection heq with h2;exact absurd h2 h
 ·rfl
theorem strip_no (c:UInt8)(r:List UInt8)(h:c≠45):strip (c::r)=c::r:=by
 unfold strip
 split
 ·rename_i heq;injection heq with h2;exact absurd h2 h
 ·rfl
theorem trim_strip (l:List UInt8):Lib.trimPrefix l [45]=strip l:=by
 unfold Lib.trimPrefix
 rw[hasPrefix_neg]
 cases l with
 | nil=>rfl
 | cons c r =>
  by_cases h:c=45
  ·subst h;rfl
  ·rw[negB_no c r h,strip_no c r h];rfl
theorem strip_len (l:List UInt8):(strip l).length≤l.length:=by
 unfold strip
 split
 ·simp
 ·exact Nat.le_refl _
def textF (f:Nat) (t:List UInt8) (n:Nat):Bool:=
 if f==1 then namedF t&&!wordB t else if f==2 then namedF t else if f==3 then (number (strip t)).isSome else if f==4 then opB n t else t.isEmpty
theorem bytes_isEmpty (t:ByteArray):(t.toList==(⟨#[]⟩:ByteArray).toList)=t.data.toList.isEmpty:=by
 rw[ByteArray.toList_eq,ByteArray.toList_eq]
 cases t.data.toList<;>rfl
theorem lookText_any (kd:Nat)(t:ByteArray)(nm pl:Int)(p:Option Addr)(n c f:Nat)(w:World)(ht:AsciiTab w)(hts:t.size≤72007)(hf:f≤4) :
  Calls Tryz.prog 26 #[.agg #[.int .u8 kd,.string t,.int .i64 nm,.int .i64 pl,.slice p n c],.int .i64 f] w (BoolPost (textF f t.data.toList n) w):=by
 have hb0:Below w.heap.size w (w.alloc (.cells #[.int .u8 kd,.string t,.int .i64 nm,.int .i64 pl,.slice p n c] 69)):=(Below.refl _ w).alloc (Nat.le_refl _) _
 have h0:=heap_alloc_new w (.cells #[.int .u8 kd,.string t,.int .i64 nm,.int .i64 pl,.slice p n c] 69)
 obtain⟨b0,b1,b2,b3,b4⟩:=cells5 h0
 have HN:=Hd (fun b=>lookNamed_any kd t nm pl p n c b _ (ht.below hb0) hts)
 have HOp:=Hd (fun W=>lookOp_any kd t nm pl p n c W)
 have HB0:=Hd hb0
 have HTr:=Hd (fun W=>(Tryz.strings_TrimPrefix t ⟨#[45]⟩ W).mono (R':=fun e w'=>e=.returned (.string ⟨(strip t.data.toList).toArray⟩)∧W=w') (fun e w' hh=>⟨by rw[hh.1];show Ending.returned (Value.string ⟨(Lib.trimPrefix t.data.toList [45]).toArray⟩)=_;rw[trim_strip],hh.2.symm⟩))
 have HNu:=Hd (fun W=>number_big ⟨(strip t.data.toList).toArray⟩ W (by
  show (strip t.data.toList).toArray.size≤100000
  have h1:=strip_len t.data.toList
  have h3:t.data.toList.length=t.data.size:=Array.length_toList
  have h2:t.size=t.data.size:=rfl
  simp only[List.size_toArray]
  omega))
 clear ht h0 hb0 hts
 match f,hf with
 | 0,_ =>
  have HE:=Hd (bytes_isEmpty t)
  go_enter Tryz.func26,Tryz.ntmps26
  go_wp2_with fail
  go_ret
  exact⟨ret_bool (by show _=t.data.toList.isEmpty;rw[←HE.out,ByteArray.toList_eq,ByteArray.toList_eq];cases t.data.toList<;>rfl),HB0.out⟩
 | 1,_ =>
  go_enter Tryz.func26,Tryz.ntmps26
  go_wp2_with fail
  refine Calls.mono (HN.out false) ?_
  rintro e W2 ⟨rfl,hb2⟩
  go_wp2_with fail
  go_ret
  exact⟨ret_bool rfl,HB0.out.trans (hb2.mono HB0.out.size)⟩
 | 2,_ =>
  go_enter Tryz.func26,Tryz.ntmps26
  go_wp2_with fail
  refine Calls.mono (HN.out true) ?_
  rintro e W2 ⟨rfl,hb2⟩
  go_wp2_with fail
  go_ret
  exact⟨ret_bool rfl,HB0.out.trans (hb2.mono HB0.out.size)⟩
 | 3,_ =>
  go_enter Tryz.func26,Tryz.ntmps26
  go_wp2_with fail
  refine Calls.mono (HTr.out _) ?_
  rintro e W2 ⟨rfl,rfl⟩
  go_wp2_with fail
  refine Calls.mono (HNu.out _) ?_
  rintro e W2 ⟨rfl,hb2⟩
  go_wp2_with fail
  go_ret
  exact⟨rfl,HB0.out.trans (hb2.mono HB0.out.size)⟩
 | 4,_ =>
  go_enter Tryz.func26,Tryz.ntmps26
  go_wp2_with fail
  refine Calls.mono (HOp.out _) ?_
  rintro e W2 ⟨rfl,hb2⟩
  go_wp2_with fail
  go_ret
  exact⟨rfl,HB0.out.trans (hb2.mono HB0.out.size)⟩
def formOf (kd:Nat):Nat×Int×Int:=
 if kd==2||kd==3||kd==5||kd==6||kd==8 then (1,0,0)
 else if kd==4 then (1,-2147483647,2147483647)
 else if kd==9 then (0,0,2147483647)
 else if kd==13||kd==15 then (2,0,0)
 else if kd==14 then (3,0,0)
 else if kd==16 then (4,0,0)
 else (0,0,0)
def SameFrom (L:Nat) (w W:World):Prop:=w.heap.size≤W.heap.size∧∀b,L≤b→b<w.heap.size→W.heap[b]? = w.heap[b]?
def KidsFn (L:Nat) (w:World) (kd:Nat) (fn:Value):Prop:=
 (∃g:FuncId,fn=.func (.func g) #[] #[]∧(∀(args:Array Value) (w:World),(callFunc g args).run Tryz.prog w=.ok (.enter g args) w)∧∀(W:World) (d B:Nat) (ks:List Tree) (v:Value),SameFrom L w W→KidsAt W B d ks v→B≤W.heap.size→ks.length≤20000→Calls Tryz.prog g #[v] W (BoolPost (kidsOk kd ks) W)) ∨
 (∃b:Nat,fn=.func (.func 80) #[] #[.pointer (some ⟨b,0,none⟩)]∧∀(W:World) (d B:Nat) (ks:List Tree) (v:Value),SameFrom L w W→KidsAt W B d ks v→B≤W.heap.size→ks.length≤20000→Calls Tryz.prog 80 #[v,.pointer (some ⟨b,0,none⟩)] W (BoolPost (kidsOk kd ks) W))
theorem kinds_at {w:World}{b n:Nat}{S:List Nat}{arr:Array Value}(h:w.heap[b]? = some (.cells arr 22 (0,0)))(ha:arr=(S.map fun k:Nat=>Value.int .u8 (k:Int)).toArray)(hl:S.length≤100)(hn:S.length=n):KindsAt w S (.slice (some ⟨b,0,none⟩) n n):=by
 subst ha
 subst hn
 refine Or.inr ⟨b,0,S.length,rfl,hl,(Array.getElem?_eq_some_iff.1 h).1,fun i k hk=>?_⟩
 rw[cell_of_row _ _ _ _ _ _ h]
 simp[hk]
theorem kidsFn_among {L b b' n kd:Nat}{w:World}{S:List Nat}{arr:Array Value}(hL:L≤b)(hL':L≤b')(hb:w.heap[b]? = some (.cells #[.slice (some ⟨b',0,none⟩) n n] 159 (0,0)))(hs:w.heap[b']? = some (.cells arr 22 (0,0)))(ha:arr=(S.map fun k:Nat=>Value.int .u8 (k:Int)).toArray)(hl:S.length≤100)(hn:S.length=n)
  (h:∀ks,kidsOk kd ks=among S ks):KidsFn L w kd (.func (.func 80) #[] #[.pointer (some ⟨b,0,none⟩)]):=by
 have hlt:b<w.heap.size:=(Array.getElem?_eq_some_iff.1 hb).1
 have hlt':b'<w.heap.size:=(Array.getElem?_eq_some_iff.1 hs).1
 refine Or.inr ⟨b,rfl,fun W d B ks v hW hk hB hn9=>?_⟩
 rw[h ks]
 exact nodeAmong1_any S ks v _ d B b W hk hB hn9 (kinds_at ((hW.2 b' hL' hlt').trans hs) ha hl hn) (Nat.lt_of_lt_of_le hlt hW.1) (cell_of_row _ _ 0 _ _ _ ((hW.2 b hL hlt).trans hb))
theorem kidsFn_none {L b kd:Nat}{w:World}(hL:L≤b)(hb:w.heap[b]? = some (.cells #[.slice none 0 0] 159 (0,0)))(h:∀ks,kidsOk kd ks=among [] ks) :
  KidsFn L w kd (.func (.func 80) #[] #[.pointer (some ⟨b,0,none⟩)]):=by
 have hlt:b<w.heap.size:=(Array.getElem?_eq_some_iff.1 hb).1
 refine Or.inr ⟨b,rfl,fun W d B ks v hW hk hB hn9=>?_⟩
 rw[h ks]
 exact nodeAmong1_any [] ks v _ d B b W hk hB hn9 (Or.inl ⟨rfl,rfl⟩) (Nat.lt_of_lt_of_le hlt hW.1) (cell_of_row _ _ 0 _ _ _ ((hW.2 b hL hlt).trans hb))
theorem among_nil (ks:List Tree):ks.isEmpty=among [] ks:=by
 cases ks with
 | nil=>rfl
 | cons x l=>unfold among;simp
def OfPost (kd:Nat) (w:World) (e:Ending) (w':World):Prop:=
 ∃fn,e=.returned (.tuple #[.agg #[.int .i64 ((formOf kd).1:Nat),.int .i64 (formOf kd).2.1,.int .i64 (formOf kd).2.2,fn],.bool true])∧Below w.heap.size w w'∧KidsFn w.heap.size w' kd fn
theorem nodeOf_fin (W:World)(Rp:Ending→World→Prop)(T:Nat)(a b c d v3:Value)(hT:W.heap[T]? = some (.cells #[a,b,c,d] 91 (0,0)))
  (tmps:Array Value) (h2:tmps.getD 2 undef=.pointer (some ⟨T,0,none⟩)) (h3:tmps.getD 3 undef=v3) (hR:Rp (.returned (.tuple #[.agg #[a,b,c,d],v3])) W) :
  bodyPost Tryz.prog Tryz.f25 Rp .ret ⟨tmps,[]⟩ W:=by
 have c0:=cell_of_row _ _ 0 _ _ _ hT
 have c1:=cell_of_row _ _ 1 _ _ _ hT
 have c2:=cell_of_row _ _ 2 _ _ _ hT
 have c3:=cell_of_row _ _ 3 _ _ _ hT
 have h2':tmps[2]?.getD undef=.pointer (some ⟨T,0,none⟩):=by simpa using h2
 have h3':tmps[3]?.getD undef=v3:=by simpa using h3
 refine bodyPost_ret (v:=.tuple #[.agg #[a,b,c,d],v3]) ?_ rfl hR
 simp[results,Tryz.results25,go_sem,h2',h3',c0,c1,c2,c3]
theorem heap_two (w:World)(a b:Obj):((w.alloc a).alloc b).heap[w.heap.size]? = some a∧((w.alloc a).alloc b).heap[w.heap.size+1]? = some b∧Below w.heap.size w ((w.alloc a).alloc b):=
 ⟨(two_new' w a b).1,(two_new' w a b).2.1,below_two w a b⟩
theorem heap_four (w:World)(a b c d:Obj):((((w.alloc a).alloc b).alloc c).alloc d).heap[w.heap.size]? = some a∧((((w.alloc a).alloc b).alloc c).alloc d).heap[w.heap.size+1+1]? = some c ∧
  ((((w.alloc a).alloc b).alloc c).alloc d).heap[w.heap.size+1+1+1]? = some d∧Below w.heap.size w ((((w.alloc a).alloc b).alloc c).alloc d):=by
 refine⟨?_,?_,?_,((((Below.refl _ w).alloc (Nat.le_refl _) _).alloc (by simp) _).alloc (by simp;omega) _).alloc (by simp;omega) _⟩<;>(simp only[at_alloc,World.size_alloc];repeat (first|rw[if_pos trivial] | rw[if_neg (by omega)] | rw[if_pos (by omega)]))
theorem nodeOf_1 (w:World):Calls Tryz.prog 25 #[.int .u8 1] w (OfPost 1 w):=by
 go_enter Tryz.func25,Tryz.ntmps25
 go_wp2_with (go_at_call 47;refine (nodeAmong_any _ _ _ _).mono ?_;rintro e w6 ⟨rfl,rfl⟩)
 obtain⟨X0,X2,X3,XB⟩:=heap_four w (.cells #[.int .i64 0,.int .i64 (0),.int .i64 0,.func (.func 80) #[] #[.pointer (some ⟨w.heap.size+1+1+1,0,none⟩)]] 91) (.cells #[.slice none 0 0] 159) (.cells #[.int .u8 2,.int .u8 4] 22) (.cells #[.slice (some ⟨w.heap.size+1+1,0,none⟩) 2 2] 159)
 exact nodeOf_fin _ _ w.heap.size _ _ _ _ _ X0 _ rfl rfl ⟨_,rfl,XB,kidsFn_among (S:=[2,4]) (by omega) (by omega) X3 X2 rfl (by decide) rfl (fun ks=>rfl)⟩
theorem nodeOf_2 (w:World):Calls Tryz.prog 25 #[.int .u8 2] w (OfPost 2 w):=by
 go_enter Tryz.func25,Tryz.ntmps25
 go_wp2_with (go_at_call 47;refine (nodeAmong_any _ _ _ _).mono ?_;rintro e w6 ⟨rfl,rfl⟩)
 obtain⟨X0,X2,X3,XB⟩:=heap_four w (.cells #[.int .i64 1,.int .i64 (0),.int .i64 0,.func (.func 80) #[] #[.pointer (some ⟨w.heap.size+1+1+1,0,none⟩)]] 91) (.cells #[.slice none 0 0] 159) (.cells #[.int .u8 3] 22) (.cells #[.slice (some ⟨w.heap.size+1+1,0,none⟩) 1 1] 159)
 exact nodeOf_fin _ _ w.heap.size _ _ _ _ _ X0 _ rfl rfl ⟨_,rfl,XB,kidsFn_among (S:=[3]) (by omega) (by omega) X3 X2 rfl (by decide) rfl (fun ks=>rfl)⟩
theorem nodeOf_3 (w:World):Calls Tryz.prog 25 #[.int .u8 3] w (OfPost 3 w):=by
 go_enter Tryz.func25,Tryz.ntmps25
 go_wp2_with (go_at_call 47;refine (nodeAmong_any _ _ _ _).mono ?_;rintro e w6 ⟨rfl,rfl⟩)
 obtain⟨X0,X1,XB⟩:=heap_two w (.cells #[.int .i64 1,.int .i64 (0),.int .i64 0,.func (.func 80) #[] #[.pointer (some ⟨w.heap.size+1,0,none⟩)]] 91) (.cells #[.slice none 0 0] 159)
 exact nodeOf_fin _ _ w.heap.size _ _ _ _ _ X0 _ rfl rfl ⟨_,rfl,XB,kidsFn_none (by omega) X1 (fun ks=>(show ks.isEmpty=_ from among_nil ks))⟩
theorem nodeOf_4 (w:World):Calls Tryz.prog 25 #[.int .u8 4] w (OfPost 4 w):=by
 go_enter Tryz.func25,Tryz.ntmps25
 go_wp2_with (go_at_call 47;refine (nodeAmong_any _ _ _ _).mono ?_;rintro e w6 ⟨rfl,rfl⟩)
 obtain⟨X0,X1,XB⟩:=heap_two w (.cells #[.int .i64 1,.int .i64 (-2147483647),.int .i64 2147483647,.func (.func 48) #[] #[]] 91) (.cells #[.slice none 0 0] 159)
 exact nodeOf_fin _ _ w.heap.size _ _ _ _ _ X0 _ rfl rfl ⟨_,rfl,XB,Or.inl ⟨_,rfl,enters_of Tryz.func48 (by kernel_rfl) rfl,fun W d B ks v _ hk hB hn=>nodeRow_any ks v d B W hk hB hn⟩⟩
theorem nodeOf_5 (w:World):Calls Tryz.prog 25 #[.int .u8 5] w (OfPost 5 w):=by
 go_enter Tryz.func25,Tryz.ntmps25
 go_wp2_with (go_at_call 47;refine (nodeAmong_any _ _ _ _).mono ?_;rintro e w6 ⟨rfl,rfl⟩)
 obtain⟨X0,X2,X3,XB⟩:=heap_four w (.cells #[.int .i64 1,.int .i64 (0),.int .i64 0,.func (.func 80) #[] #[.pointer (some ⟨w.heap.size+1+1+1,0,none⟩)]] 91) (.cells #[.slice none 0 0] 159) (.cells #[.int .u8 12,.int .u8 13,.int .u8 14,.int .u8 15] 22) (.cells #[.slice (some ⟨w.heap.size+1+1,0,none⟩) 4 4] 159)
 exact nodeOf_fin _ _ w.heap.size _ _ _ _ _ X0 _ rfl rfl ⟨_,rfl,XB,kidsFn_among (S:=[12,13,14,15]) (by omega) (by omega) X3 X2 rfl (by decide) rfl (fun ks=>rfl)⟩
theorem nodeOf_6 (w:World):Calls Tryz.prog 25 #[.int .u8 6] w (OfPost 6 w):=by
 go_enter Tryz.func25,Tryz.ntmps25
 go_wp2_with (go_at_call 47;refine (nodeAmong_any _ _ _ _).mono ?_;rintro e w6 ⟨rfl,rfl⟩)
 obtain⟨X0,X2,X3,XB⟩:=heap_four w (.cells #[.int .i64 1,.int .i64 (0),.int .i64 0,.func (.func 80) #[] #[.pointer (some ⟨w.heap.size+1+1+1,0,none⟩)]] 91) (.cells #[.slice none 0 0] 159) (.cells #[.int .u8 12,.int .u8 13,.int .u8 14,.int .u8 15] 22) (.cells #[.slice (some ⟨w.heap.size+1+1,0,none⟩) 4 4] 159)
 exact nodeOf_fin _ _ w.heap.size _ _ _ _ _ X0 _ rfl rfl ⟨_,rfl,XB,kidsFn_among (S:=[12,13,14,15]) (by omega) (by omega) X3 X2 rfl (by decide) rfl (fun ks=>rfl)⟩
theorem nodeOf_7 (w:World):Calls Tryz.prog 25 #[.int .u8 7] w (OfPost 7 w):=by
 go_enter Tryz.func25,Tryz.ntmps25
 go_wp2_with (go_at_call 47;refine (nodeAmong_any _ _ _ _).mono ?_;rintro e w6 ⟨rfl,rfl⟩)
 obtain⟨X0,X1,XB⟩:=heap_two w (.cells #[.int .i64 0,.int .i64 (0),.int .i64 0,.func (.func 49) #[] #[]] 91) (.cells #[.slice none 0 0] 159)
 exact nodeOf_fin _ _ w.heap.size _ _ _ _ _ X0 _ rfl rfl ⟨_,rfl,XB,Or.inl ⟨_,rfl,enters_of Tryz.func49 (by kernel_rfl) rfl,fun W d B ks v _ hk hB hn=>nodeOf1_any ks v d B W hk hB hn⟩⟩
theorem nodeOf_8 (w:World):Calls Tryz.prog 25 #[.int .u8 8] w (OfPost 8 w):=by
 go_enter Tryz.func25,Tryz.ntmps25
 go_wp2_with (go_at_call 47;refine (nodeAmong_any _ _ _ _).mono ?_;rintro e w6 ⟨rfl,rfl⟩)
 obtain⟨X0,X1,XB⟩:=heap_two w (.cells #[.int .i64 1,.int .i64 (0),.int .i64 0,.func (.func 50) #[] #[]] 91) (.cells #[.slice none 0 0] 159)
 exact nodeOf_fin _ _ w.heap.size _ _ _ _ _ X0 _ rfl rfl ⟨_,rfl,XB,Or.inl ⟨_,rfl,enters_of Tryz.func50 (by kernel_rfl) rfl,fun W d B ks v _ hk hB hn=>nodeExprs_any ks v d B W hk hB hn⟩⟩
theorem nodeOf_9 (w:World):Calls Tryz.prog 25 #[.int .u8 9] w (OfPost 9 w):=by
 go_enter Tryz.func25,Tryz.ntmps25
 go_wp2_with (go_at_call 47;refine (nodeAmong_any _ _ _ _).mono ?_;rintro e w6 ⟨rfl,rfl⟩)
 obtain⟨X0,X1,XB⟩:=heap_two w (.cells #[.int .i64 0,.int .i64 (0),.int .i64 2147483647,.func (.func 80) #[] #[.pointer (some ⟨w.heap.size+1,0,none⟩)]] 91) (.cells #[.slice none 0 0] 159)
 exact nodeOf_fin _ _ w.heap.size _ _ _ _ _ X0 _ rfl rfl ⟨_,rfl,XB,kidsFn_none (by omega) X1 (fun ks=>(show ks.isEmpty=_ from among_nil ks))⟩
theorem nodeOf_10 (w:World):Calls Tryz.prog 25 #[.int .u8 10] w (OfPost 10 w):=by
 go_enter Tryz.func25,Tryz.ntmps25
 go_wp2_with (go_at_call 47;refine (nodeAmong_any _ _ _ _).mono ?_;rintro e w6 ⟨rfl,rfl⟩)
 obtain⟨X0,X1,XB⟩:=heap_two w (.cells #[.int .i64 0,.int .i64 (0),.int .i64 0,.func (.func 51) #[] #[]] 91) (.cells #[.slice none 0 0] 159)
 exact nodeOf_fin _ _ w.heap.size _ _ _ _ _ X0 _ rfl rfl ⟨_,rfl,XB,Or.inl ⟨_,rfl,enters_of Tryz.func51 (by kernel_rfl) rfl,fun W d B ks v _ hk hB hn=>nodeOf2_any ks v d B W hk hB hn⟩⟩
theorem nodeOf_11 (w:World):Calls Tryz.prog 25 #[.int .u8 11] w (OfPost 11 w):=by
 go_enter Tryz.func25,Tryz.ntmps25
 go_wp2_with (go_at_call 47;refine (nodeAmong_any _ _ _ _).mono ?_;rintro e w6 ⟨rfl,rfl⟩)
 obtain⟨X0,X1,XB⟩:=heap_two w (.cells #[.int .i64 0,.int .i64 (0),.int .i64 0,.func (.func 80) #[] #[.pointer (some ⟨w.heap.size+1,0,none⟩)]] 91) (.cells #[.slice none 0 0] 159)
 exact nodeOf_fin _ _ w.heap.size _ _ _ _ _ X0 _ rfl rfl ⟨_,rfl,XB,kidsFn_none (by omega) X1 (fun ks=>(show ks.isEmpty=_ from among_nil ks))⟩
theorem nodeOf_12 (w:World):Calls Tryz.prog 25 #[.int .u8 12] w (OfPost 12 w):=by
 go_enter Tryz.func25,Tryz.ntmps25
 go_wp2_with (go_at_call 47;refine (nodeAmong_any _ _ _ _).mono ?_;rintro e w6 ⟨rfl,rfl⟩)
 obtain⟨X0,X1,XB⟩:=heap_two w (.cells #[.int .i64 0,.int .i64 (0),.int .i64 0,.func (.func 80) #[] #[.pointer (some ⟨w.heap.size+1,0,none⟩)]] 91) (.cells #[.slice none 0 0] 159)
 exact nodeOf_fin _ _ w.heap.size _ _ _ _ _ X0 _ rfl rfl ⟨_,rfl,XB,kidsFn_none (by omega) X1 (fun ks=>(show ks.isEmpty=_ from among_nil ks))⟩
theorem nodeOf_13 (w:World):Calls Tryz.prog 25 #[.int .u8 13] w (OfPost 13 w):=by
 go_enter Tryz.func25,Tryz.ntmps25
 go_wp2_with (go_at_call 47;refine (nodeAmong_any _ _ _ _).mono ?_;rintro e w6 ⟨rfl,rfl⟩)
 obtain⟨X0,X1,XB⟩:=heap_two w (.cells #[.int .i64 2,.int .i64 (0),.int .i64 0,.func (.func 80) #[] #[.pointer (some ⟨w.heap.size+1,0,none⟩)]] 91) (.cells #[.slice none 0 0] 159)
 exact nodeOf_fin _ _ w.heap.size _ _ _ _ _ X0 _ rfl rfl ⟨_,rfl,XB,kidsFn_none (by omega) X1 (fun ks=>(show ks.isEmpty=_ from among_nil ks))⟩
theorem nodeOf_14 (w:World):Calls Tryz.prog 25 #[.int .u8 14] w (OfPost 14 w):=by
 go_enter Tryz.func25,Tryz.ntmps25
 go_wp2_with (go_at_call 47;refine (nodeAmong_any _ _ _ _).mono ?_;rintro e w6 ⟨rfl,rfl⟩)
 obtain⟨X0,X1,XB⟩:=heap_two w (.cells #[.int .i64 3,.int .i64 (0),.int .i64 0,.func (.func 80) #[] #[.pointer (some ⟨w.heap.size+1,0,none⟩)]] 91) (.cells #[.slice none 0 0] 159)
 exact nodeOf_fin _ _ w.heap.size _ _ _ _ _ X0 _ rfl rfl ⟨_,rfl,XB,kidsFn_none (by omega) X1 (fun ks=>(show ks.isEmpty=_ from among_nil ks))⟩
theorem nodeOf_15 (w:World):Calls Tryz.prog 25 #[.int .u8 15] w (OfPost 15 w):=by
 go_enter Tryz.func25,Tryz.ntmps25
 go_wp2_with (go_at_call 47;refine (nodeAmong_any _ _ _ _).mono ?_;rintro e w6 ⟨rfl,rfl⟩)
 obtain⟨X0,X1,XB⟩:=heap_two w (.cells #[.int .i64 2,.int .i64 (0),.int .i64 0,.func (.func 80) #[] #[.pointer (some ⟨w.heap.size+1,0,none⟩)]] 91) (.cells #[.slice none 0 0] 159)
 exact nodeOf_fin _ _ w.heap.size _ _ _ _ _ X0 _ rfl rfl ⟨_,rfl,XB,kidsFn_none (by omega) X1 (fun ks=>(show ks.isEmpty=_ from among_nil ks))⟩
theorem nodeOf_16 (w:World):Calls Tryz.prog 25 #[.int .u8 16] w (OfPost 16 w):=by
 go_enter Tryz.func25,Tryz.ntmps25
 go_wp2_with (go_at_call 47;refine (nodeAmong_any _ _ _ _).mono ?_;rintro e w6 ⟨rfl,rfl⟩)
 obtain⟨X0,X1,XB⟩:=heap_two w (.cells #[.int .i64 4,.int .i64 (0),.int .i64 0,.func (.func 50) #[] #[]] 91) (.cells #[.slice none 0 0] 159)
 exact nodeOf_fin _ _ w.heap.size _ _ _ _ _ X0 _ rfl rfl ⟨_,rfl,XB,Or.inl ⟨_,rfl,enters_of Tryz.func50 (by kernel_rfl) rfl,fun W d B ks v _ hk hB hn=>nodeExprs_any ks v d B W hk hB hn⟩⟩
theorem nodeOf_none (k:Nat)(w:World)(h:k=0∨16<k):Calls Tryz.prog 25 #[.int .u8 k] w fun e w'=>e=.returned (.tuple #[.agg #[.int .i64 0,.int .i64 0,.int .i64 0,.nilFunc],.bool false])∧Below w.heap.size w w':=by
 have e1:((k:Int)==1)=false:=by simp;omega
 have e2:((k:Int)==2)=false:=by simp;omega
 have e3:((k:Int)==3)=false:=by simp;omega
 have e4:((k:Int)==4)=false:=by simp;omega
 have e5:((k:Int)==5)=false:=by simp;omega
 have e6:((k:Int)==6)=false:=by simp;omega
 have e7:((k:Int)==7)=false:=by simp;omega
 have e8:((k:Int)==8)=false:=by simp;omega
 have e9:((k:Int)==9)=false:=by simp;omega
 have e10:((k:Int)==10)=false:=by simp;omega
 have e11:((k:Int)==11)=false:=by simp;omega
 have e12:((k:Int)==12)=false:=by simp;omega
 have e13:((k:Int)==13)=false:=by simp;omega
 have e14:((k:Int)==14)=false:=by simp;omega
 have e15:((k:Int)==15)=false:=by simp;omega
 have e16:((k:Int)==16)=false:=by simp;omega
 clear h
 go_enter Tryz.func25,Tryz.ntmps25
 go_wp2_with (go_at_call 47;refine (nodeAmong_any _ _ _ _).mono ?_;rintro e w6 ⟨rfl,rfl⟩)
 obtain⟨X0,X1,XB⟩:=heap_two w (.cells #[.int .i64 0,.int .i64 0,.int .i64 0,.nilFunc] 91) (.cells #[.slice none 0 0] 159)
 exact nodeOf_fin _ _ w.heap.size _ _ _ _ _ X0 _ rfl rfl ⟨rfl,XB⟩
theorem nodeOf_any (k:Nat)(w:World)(h1:1≤k)(h2:k≤16):Calls Tryz.prog 25 #[.int .u8 k] w (OfPost k w):=by
 have hc:k=1∨k=2∨k=3∨k=4∨k=5∨k=6∨k=7∨k=8∨k=9∨k=10∨k=11∨k=12∨k=13∨k=14∨k=15∨k=16:=by omega
 rcases hc with rfl|rfl|rfl|rfl|rfl|rfl|rfl|rfl|rfl|rfl|rfl|rfl|rfl|rfl|rfl|rfl
 ·exact nodeOf_1 w
 ·exact nodeOf_2 w
 ·exact nodeOf_3 w
 ·exact nodeOf_4 w
 ·exact nodeOf_5 w
 ·exact nodeOf_6 w
 ·exact nodeOf_7 w
 ·exact nodeOf_8 w
 ·exact nodeOf_9 w
 ·exact nodeOf_10 w
 ·exact nodeOf_11 w
 ·exact nodeOf_12 w
 ·exact nodeOf_13 w
 ·exact nodeOf_14 w
 ·exact nodeOf_15 w
 ·exact nodeOf_16 w
theorem textOk_form (k:Nat)(h1:1≤k)(h2:k≤16)(t:List UInt8)(n:Nat):textOk k t n=textF (formOf k).1 t n:=by
 have hc:k=1∨k=2∨k=3∨k=4∨k=5∨k=6∨k=7∨k=8∨k=9∨k=10∨k=11∨k=12∨k=13∨k=14∨k=15∨k=16:=by omega
 rcases hc with rfl|rfl|rfl|rfl|rfl|rfl|rfl|rfl|rfl|rfl|rfl|rfl|rfl|rfl|rfl|rfl
 ·exact rfl
 ·exact rfl
 ·exact rfl
 ·exact rfl
 ·exact rfl
 ·exact rfl
 ·exact rfl
 ·exact rfl
 ·exact rfl
 ·exact rfl
 ·exact rfl
 ·exact rfl
 ·exact rfl
 ·exact rfl
 ·exact rfl
 ·exact rfl
theorem numOk_form (k:Nat)(h1:1≤k)(h2:k≤16)(x:Int):numOk k x=(decide ((formOf k).2.1≤x)&&decide (x≤(formOf k).2.2)):=by
 have h0:(x==0)=(decide (0≤x)&&decide (x≤0)):=by rw[Bool.eq_iff_iff];simp;omega
 have hc:k=1∨k=2∨k=3∨k=4∨k=5∨k=6∨k=7∨k=8∨k=9∨k=10∨k=11∨k=12∨k=13∨k=14∨k=15∨k=16:=by omega
 rcases hc with rfl|rfl|rfl|rfl|rfl|rfl|rfl|rfl|rfl|rfl|rfl|rfl|rfl|rfl|rfl|rfl
 ·exact h0
 ·exact h0
 ·exact h0
 ·exact rfl
 ·exact h0
 ·exact h0
 ·exact h0
 ·exact h0
 ·exact rfl
 ·exact h0
 ·exact h0
 ·exact h0
 ·exact h0
 ·exact h0
 ·exact h0
 ·exact h0
theorem form_le (k:Nat)(h1:1≤k)(h2:k≤16):(formOf k).1≤4∧-2147483647≤(formOf k).2.1∧(formOf k).2.2≤2147483647:=by
 have hc:k=1∨k=2∨k=3∨k=4∨k=5∨k=6∨k=7∨k=8∨k=9∨k=10∨k=11∨k=12∨k=13∨k=14∨k=15∨k=16:=by omega
 rcases hc with rfl|rfl|rfl|rfl|rfl|rfl|rfl|rfl|rfl|rfl|rfl|rfl|rfl|rfl|rfl|rfl
 ·decide
 ·decide
 ·decide
 ·decide
 ·decide
 ·decide
 ·decide
 ·decide
 ·decide
 ·decide
 ·decide
 ·decide
 ·decide
 ·decide
 ·decide
 ·decide
def rightD (d:Nat) (T:Tree) (deep left:Nat):Bool:=okF d T&&decide (deep+deepF d T≤31)&&decide (manyF d T≤left)
def kidD (d:Nat) (deep:Nat) (t:Tree):Bool:=okF d t&&decide (deep+1+deepF d t≤31)
def sumF (d:Nat) (ks:List Tree):Nat:=(ks.map (manyF d)).foldl (· + ·) 0
theorem okF_un (d:Nat)(T:Tree)(h:d=0→T.kids=[]):okF d T=(levelOk T&&T.kids.all (okF (d-1))):=by
 cases d with
 | zero=>rw[h rfl];show levelOk T=(levelOk T&&true);rw[Bool.and_true]
 | succ d=>rfl
theorem deepF_un (d:Nat)(T:Tree)(h:d=0→T.kids=[]):deepF d T=(T.kids.map (deepF (d-1))).foldl Nat.max 0+1:=by
 cases d with
 | zero=>rw[h rfl];rfl
 | succ d=>rfl
theorem manyF_un (d:Nat)(T:Tree)(h:d=0→T.kids=[]):manyF d T=sumF (d-1) T.kids+1:=by
 cases d with
 | zero=>rw[h rfl];rfl
 | succ d=>show (T.kids.map (manyF d)).foldl (· + ·) 1=_;rw[foldl_add,Nat.add_comm];rfl
theorem max_le (f:Tree→Nat)(m:Nat):∀(l:List Tree)(a:Nat),(decide ((l.map f).foldl Nat.max a≤m))=(decide (a≤m)&&l.all fun t=>decide (f t≤m)):=by
 intro l
 induction l with
 | nil=>intro a;simp
 | cons x l ih =>
  intro a
  rw[List.map_cons,List.foldl_cons,ih,List.all_cons]
  have:decide (Nat.max a (f x)≤m)=(decide (a≤m)&&decide (f x≤m)):=by
   rw[Bool.eq_iff_iff];simp only[decide_eq_true_eq,Bool.and_eq_true];exact Nat.max_le
  rw[this,Bool.and_assoc]
theorem right_un (d:Nat)(T:Tree)(deep left:Nat)(h:d=0→T.kids=[]) :
  rightD d T deep left=(levelOk T&&decide (deep≤30)&&T.kids.all (kidD (d-1) deep)&&decide (sumF (d-1) T.kids+1≤left)):=by
 unfold rightD
 rw[okF_un d T h,deepF_un d T h,manyF_un d T h]
 by_cases hd:deep≤30
 ·have e:decide (deep+((T.kids.map (deepF (d-1))).foldl Nat.max 0+1)≤31)=decide ((T.kids.map (deepF (d-1))).foldl Nat.max 0≤30-deep):=by
   rw[Bool.eq_iff_iff];simp only[decide_eq_true_eq];omega
  rw[e,max_le]
  have e2:decide (0≤30-deep)=true:=by simp
  have e3:decide (deep≤30)=true:=by simpa using hd
  rw[e2,e3,Bool.true_and,Bool.and_true]
  have e4:T.kids.all (kidD (d-1) deep)=(T.kids.all (okF (d-1))&&T.kids.all fun t=>decide (deepF (d-1) t≤30-deep)):=by
   induction T.kids with
   | nil=>rfl
   | cons x l ih =>
    rw[List.all_cons,List.all_cons,List.all_cons,ih]
    unfold kidD
    have:decide (deep+1+deepF (d-1) x≤31)=decide (deepF (d-1) x≤30-deep):=by
     rw[Bool.eq_iff_iff];simp only[decide_eq_true_eq];omega
    rw[this]
    cases okF (d-1) x<;>cases decide (deepF (d-1) x≤30-deep)<;>simp
  rw[e4]
  simp only[Bool.and_assoc]
 ·have e1:decide (deep+((T.kids.map (deepF (d-1))).foldl Nat.max 0+1)≤31)=false:=by simp;omega
  have e3:decide (deep≤30)=false:=by simpa using hd
  rw[e1,e3];simp
theorem sumF_snoc (d:Nat)(ks:List Tree)(k:Nat)(t:Tree)(h:ks[k]? = some t):sumF d (ks.take (k+1))=sumF d (ks.take k)+manyF d t:=by
 unfold sumF
 rw[List.take_add_one,h,List.map_append,List.foldl_append]
 rfl
theorem sumF_le (d:Nat)(ks:List Tree)(k:Nat):sumF d (ks.take k)≤sumF d ks:=by
 have h:sumF d ks=sumF d (ks.take k)+sumF d (ks.drop k):=by
  unfold sumF
  conv=>lhs;rw[←List.take_append_drop k ks]
  rw[List.map_append,List.foldl_append,foldl_add]
 omega
def RightPost (d:Nat) (T:Tree) (deep left lb:Nat) (w:World) (e:Ending) (w':World):Prop:=
 e=.returned (.bool (rightD d T deep left))∧w.grownBy w' (some lb)∧∃x:Int,w'.heap[lb]? = some (.cells #[.int .i64 x] 3 (0,0))∧(rightD d T deep left=true→x=(left:Int)-manyF d T)
def RightK (d:Nat):Prop:=∀(T:Tree) (v:Value) (deep left lb B:Nat) (w:World),NodeAt w B d T v→B≤lb→B≤w.heap.size→Slim d T→AsciiTab w→0≠lb →
 w.heap[lb]? = some (.cells #[.int .i64 left] 3 (0,0))→1≤deep→deep≤31→left≤4096→Calls Tryz.prog 14 #[v,.int .i64 deep,.pointer (some ⟨lb,0,none⟩)] w (RightPost d T deep left lb w)
theorem below_of_grown {B g:Nat}{w W:World}(hg:w.grownBy W (some g))(hBg:B≤g)(hB:B≤w.heap.size):Below B w W:=
 ⟨hg.os,hg.tape,hg.output,hg.size,fun i hi=>hg.block i (Nat.lt_of_lt_of_le hi hB) (by intro e;simp at e;omega)⟩
def RightRel (w:World) (d:Nat) (ks:List Tree) (deep left lb n:Nat) (i:Value) (W:World):Prop:=
 ∃(W1:World) (k m:Nat),W1=W∧k≤n∧i=.int .i64 k∧w.grownBy W1 (some lb)∧W1.heap[lb]? = some (.cells #[.int .i64 m] 3 (0,0))∧m+sumF d (ks.take k)+1=left∧(ks.take k).all (kidD d deep)=true
theorem grown_trans {a b c:World}{row:Option Nat}(h:a.grownBy b row)(h2:b.grownBy c row):a.grownBy c row:=
 ⟨h2.os.trans h.os,h2.tape.trans h.tape,h2.output.trans h.output,Nat.le_trans h.size h2.size,fun k hk hne=>(h2.block k (Nat.lt_of_lt_of_le hk h.size) hne).trans (h.block k hk hne)⟩
theorem right_stop {d:Nat}{ks:List Tree}{k m deep left:Nat}{t:Tree}(ht:ks[k]? = some t)(hm:m+sumF d (ks.take k)+1=left)(h:rightD d t (deep+1) m=false):(ks.all (kidD d deep)&&decide (sumF d ks+1≤left))=false:=by
 by_cases hk:kidD d deep t=true
 ·have h2:m<manyF d t:=by
   unfold rightD at h
   unfold kidD at hk
   rw[hk,Bool.true_and] at h
   simpa using h
  have h3:=sumF_snoc d ks k t ht
  have h4:=sumF_le d ks (k+1)
  have e:decide (sumF d ks+1≤left)=false:=by simp;omega
  rw[e,Bool.and_false]
 ·have hk':kidD d deep t=false:=by simpa using hk
  have e:ks.all (kidD d deep)=false:=by
   rw[List.all_eq_false];exact⟨t,List.mem_of_getElem? ht,by simp[hk']⟩
  rw[e,Bool.false_and]
theorem right_go {d:Nat}{ks:List Tree}{k m deep:Nat}{t:Tree}(ht:ks[k]? = some t)(hall:(ks.take k).all (kidD d deep)=true)(h:rightD d t (deep+1) m=true):(ks.take (k+1)).all (kidD d deep)=true∧manyF d t≤m:=by
 unfold rightD at h
 rw[Bool.and_eq_true] at h
 refine⟨?_,by simpa using h.2⟩
 rw[List.take_add_one,ht,List.all_append,hall]
 simpa [kidD] using h.1
theorem rightPost_no {d deep left lb:Nat}{T:Tree}{w W:World}{x:Int}(hno:rightD d T deep left=false)(hg:w.grownBy W (some lb))(hl:W.heap[lb]? = some (.cells #[.int .i64 x] 3 (0,0))) :
  RightPost d T deep left lb w (.returned (.bool false)) W:=⟨ret_bool hno.symm,hg,x,hl,fun h=>by rw[hno] at h;cases h⟩
theorem set_alloc {w:World}{lb:Nat}{x:Value}{t:TypeId}(h:w.heap[lb]? = some (.cells #[x] t (0,0)))(y:Value)(o:Obj):((w.setCell ⟨lb,0,none⟩ y).alloc o).heap[lb]? = some (.cells #[y] t (0,0)):=by
 have h1:=heap_set h 0 y
 have h2:lb<(w.setCell ⟨lb,0,none⟩ y).heap.size:=(Array.getElem?_eq_some_iff.1 h1).1
 rw[at_alloc,if_neg (by omega)]
 exact h1
theorem right_unknown (d:Nat)(T:Tree)(v:Value)(deep left lb B:Nat)(w:World)(hv:NodeAt w B d T v)(_hB:B≤w.heap.size)(hl:w.heap[lb]? = some (.cells #[.int .i64 left] 3 (0,0)))(hl4:left≤4096)
  (hk:T.kind=0∨16<T.kind):Calls Tryz.prog 14 #[v,.int .i64 deep,.pointer (some ⟨lb,0,none⟩)] w (RightPost d T deep left lb w):=by
 obtain⟨_,s,rfl,hks⟩:=hv
 obtain⟨p,n,c,rfl⟩:=hks.shape
 have hno:rightD d T deep left=false:=by
  have h0:levelOk T=false:=by
   unfold levelOk
   rcases hk with h|h
   ·have e:decide (1≤T.kind)=false:=by simp;omega
    rw[e];rfl
   ·have e:decide (T.kind≤16)=false:=by simp;omega
    rw[e];simp
  unfold rightD
  have:okF d T=false:=by
   cases d with
   | zero=>exact h0
   | succ d=>show (levelOk T&&_)=false;rw[h0];rfl
  rw[this];rfl
 have HNo:=Hd hno
 have hlt:lb<w.heap.size:=(Array.getElem?_eq_some_iff.1 hl).1
 have hl0:(0:Int)≤left:=by omega
 have hl5:(left:Int)≤4096:=by omega
 have HOf:=Hd (fun W=>nodeOf_none T.kind W hk)
 have hb0:Below w.heap.size w (w.alloc (.cells #[.int .u8 T.kind,.string T.text,.int .i64 T.num,.int .i64 T.place,.slice p n c] 69)):=(Below.refl _ w).alloc (Nat.le_refl _) _
 obtain⟨b0,b1,b2,b3,b4⟩:=cells5 (heap_alloc_new w (.cells #[.int .u8 T.kind,.string T.text,.int .i64 T.num,.int .i64 T.place,.slice p n c] 69))
 have HB0:=Hd hb0
 have HL:=Hd hl
 clear hk hks hno hl hb0
 go_enter Tryz.func14,Tryz.ntmps14
 go_wp2_with fail
 refine Calls.mono (HOf.out _) ?_
 rintro e w1 ⟨rfl,hb1⟩
 have HB1:=Hd (HB0.out.trans (hb1.mono HB0.out.size))
 have l1:=heap_below HB1.out HL.out hlt
 have hlt1:lb<w1.heap.size:=(Array.getElem?_eq_some_iff.1 l1).1
 have hba:Below w1.heap.size w1 (w1.alloc (.cells #[.int .i64 0,.int .i64 0,.int .i64 0,.nilFunc] 91)):=(Below.refl _ w1).alloc (Nat.le_refl _) _
 have L2:=Hd (heap_below hba l1 hlt1)
 have L1:=Hd l1
 have HB2:=Hd (HB1.out.trans (hba.mono HB1.out.size))
 have c2:=cell_of_row _ _ 0 _ _ _ L2.out
 have f2:=frozen_of L2.out 0
 clear b0 b1 b2 b3 b4 hb1 l1 hba
 go_wp2_with fail
 go_ret
 exact rightPost_no HNo.out (grown_below (grown_set (grown_of_below HB1.out (some lb)) 0 _) ((Below.refl _ _).alloc (Nat.le_refl _) _)) (set_alloc L1.out _ _)
end Go.Proofs.YtglbjooofdnbkaaGreatDoor
