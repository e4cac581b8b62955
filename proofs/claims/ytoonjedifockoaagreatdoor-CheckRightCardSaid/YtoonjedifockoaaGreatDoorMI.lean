/- Parts of one proof, joined; conditions stand in each theorem. -/
import Derived.Test.YtoonjedifockoaaGreatDoorMH
import Derived.Test.YtoonjedifockoaaGreatDoorMC
import Derived.Laws.EntriesVeiled
namespace Go.Proofs.YtoonjedifockoaaGreatDoor
open Go.IntKind(i64)
open Go.Value(int string slice)
set_option maxHeartbeats 2000000
set_option maxRecDepth 100000
open Go.RowKit
theorem xM(L:List ByteArray)(x:ByteArray):Lib.containsS L x=gA L x.data.toList:=by
 rw[Fc,Lib.containsS_iff,gA,List.any_eq_true]
 constructor
 ·intro h;exact⟨x,h,by simp⟩
 ·rintro ⟨y,c,he⟩;have e:y=x:=by
   have a:y.data.toList=x.data.toList:=by simpa using he
   have b:y.data=x.data:=Array.toList_inj.1 a;exact ByteArray.ext b
  rwa [←e]
theorem mL(L:List ByteArray)(n B c:Nat)(t:TypeId)(x:ByteArray)(w:World)(d:L.length=n)(b:n≤100)(h:w.heap[B]?=some (.cells (L.map string).toArray t (0,0))) :
  Calls Tryz.prog 140 #[slice (some ⟨B,0,none⟩) n c,.string x] w fun e w'=>e=.returned (.bool (gA L x.data.toList))∧Ft w w':=by
 refine (Tryz.slices_Contains_string B 0 n c L x w (by omega) (by omega) (fun j f=>?_)).mono ?_
 ·rw[Nat.zero_add,Fq _ _ _ _ _ _ h];have a:j<L.length:=by omega
  simp[List.getD_eq_getElem?_getD,EE a]
 ·rintro e w' ⟨rfl,rfl⟩;refine⟨?_,EB _ _⟩;rw[ER (by omega),xM]
def opB(k:Nat) (t:List UInt8):Bool:=(k==1&&gA qI t)||(k==2&&gA qV t)
theorem Wb.heap{w:World}(x:Wb w){b:Nat}{o:Obj}(h:w.heap[b]?=some o):x.1.heap[b]?=some o:=aa x.2 h (Ez.1 h).1
theorem Ah(w:World)(a b d:Obj):(((w.alloc a).alloc b).alloc d).heap[w.heap.size]?=some a∧(((w.alloc a).alloc b).alloc d).heap[w.heap.size+1]?=some b∧(((w.alloc a).alloc b).alloc d).heap[w.heap.size+1+1]?=some d∧Ft w (((w.alloc a).alloc b).alloc d):=by refine⟨?_,?_,?_,(((EB _ w).alloc (EA _) _).alloc (by simp) _).alloc (by simp;omega) _⟩<;>(simp only[gn,World.size_alloc];repeat (first|rw[n9 trivial] | rw[n8 (by omega)] | rw[n9 (by omega)]))
theorem xz(kd:Nat)(t:ByteArray)(nm pl:Int)(p:Option Addr)(n c:Nat)(w:World) :
  Calls Tryz.prog 155 #[.agg #[int .u8 kd,.string t,int i64 nm,int i64 pl,.slice p n c]] w (ap (opB n t.data.toList) w):=by
 obtain⟨q,r,s,u⟩:=Ah w (.cells #[int .u8 kd,.string t,int i64 nm,int i64 pl,.slice p n c] 144) (.cells #[string ⟨#[45]⟩,string ⟨#[110,111,116]⟩] 229)
  (.cells #[string ⟨#[111,114]⟩,string ⟨#[97,110,100]⟩,string ⟨#[61]⟩,string ⟨#[33,61]⟩,string ⟨#[60]⟩,string ⟨#[60,61]⟩,string ⟨#[62]⟩,string ⟨#[62,61]⟩,string ⟨#[43]⟩,string ⟨#[45]⟩,string ⟨#[42]⟩] 230)
 have H1:=Hd r;have y:=Hd s;have d:=Hd u;obtain⟨D,z,E,F,G⟩:=cells5 q;have g:Hid (opB n t.data.toList=((n==1&&gA qI t.data.toList)||(n==2&&gA qV t.data.toList))):=rfl;have i:=Hd (fun W (h:W.heap[w.heap.size+1]?=some (.cells (qI.map string).toArray 229 (0,0)))=>mL qI 2 (w.heap.size+1) 2 229 t W rfl (by omega) h);have j:=Hd (fun W (h:W.heap[w.heap.size+1+1]?=some (.cells (qV.map string).toArray 230 (0,0)))=>mL qV 11 (w.heap.size+1+1) 11 230 t W rfl (by omega) h);clear q r s u;generalize opB n t.data.toList=o at *;generalize gA qI t.data.toList=v at *;generalize gA qV t.data.toList=A at *;have k:=fun x:Wb _=>x.cell z
 go_enter Tryz.func155,Tryz.ntmps155
 by_cases l:n=1
 ·subst l;go_wp2_with fail
  refine ae (by kernel_rfl) (by kernel_rfl) ?_
  repeat (go_big_quiet_step ((go_at_call 140;exact Calls.below_of (i.o _ (Wb.heap _ H1.o)))))
  refine wpQuiet_nil ?_;intro W2 a;have b:=Hd (d.o.trans ((az a).mono d.o.size));clear a k;go_wp2_with fail
  go_ret;exact⟨bN (by rw[g.o];cases v<;>rfl),b.o⟩
 ·have H:((n:Int)==1)=false:=by simp;omega
  have e:(n==1)=false:=by simp;omega
  have B:=Hd e;clear e
  by_cases m:n=2
  ·subst m;go_wp2_with fail
   refine ae (by kernel_rfl) (by kernel_rfl) ?_
   repeat (go_big_quiet_step ((go_at_call 140;exact Calls.below_of (j.o _ (Wb.heap _ y.o)))))
   refine wpQuiet_nil ?_;intro W2 a;have b:=Hd (d.o.trans ((az a).mono d.o.size));clear a k;go_wp2_with fail
   go_ret;exact⟨bN (by rw[g.o];cases v<;>cases A<;>rfl),b.o⟩
  ·have I:((n:Int)==2)=false:=by simp;omega
   have f:(n==2)=false:=by simp;omega
   have C:=Hd f;clear f k;go_wp2_with fail
   go_ret;exact⟨bN (by rw[g.o,B.o,C.o];rfl),d.o⟩
theorem Du(c:UInt8)(r:List UInt8)(h:c≠45):eL (c::r)=false:=by
 unfold eL
 split
 ·rename_i heq;injection heq with a;exact absurd a h
 ·rfl
theorem CB(c:UInt8)(r:List UInt8)(h:c≠45):strip (c::r)=c::r:=by
 unfold strip
 split
 ·rename_i heq;injection heq with a;exact absurd a h
 ·rfl
theorem yp(l:List UInt8):Lib.trimPrefix l [45]=strip l:=by
 unfold Lib.trimPrefix;rw[lY]
 cases l with
 | nil=>rfl
 | cons c r =>
  by_cases h:c=45
  ·subst h;rfl
  ·rw[Du c r h,CB c r h];rfl
theorem AV(l:List UInt8):(strip l).length≤l.length:=by
 unfold strip
 split
 ·simp
 ·exact EA _
def textF(f:Nat) (t:List UInt8) (n:Nat):Bool:=
 if f==1 then bv t&&!jI t else if f==2 then bv t else if f==3 then (number (strip t)).isSome else if f==4 then opB n t else t.isEmpty
theorem sh(t:ByteArray):(t.toList==(⟨#[]⟩:ByteArray).toList)=t.data.toList.isEmpty:=by
 rw[EN,EN]
 cases t.data.toList<;>rfl
theorem uq(kd:Nat)(t:ByteArray)(nm pl:Int)(p:Option Addr)(n c f:Nat)(w:World)(l:aM w)(h:t.size≤72007)(s:f≤4) :
  Calls Tryz.prog 108 #[.agg #[int .u8 kd,.string t,int i64 nm,int i64 pl,.slice p n c],int i64 f] w (ap (textF f t.data.toList n) w):=by
 have g:Ft w (w.alloc (.cells #[int .u8 kd,.string t,int i64 nm,int i64 pl,.slice p n c] 144)):=(EB _ w).alloc (EA _) _;have m:=n7 w (.cells #[int .u8 kd,.string t,int i64 nm,int i64 pl,.slice p n c] 144);obtain⟨v,x,y,z,A⟩:=cells5 m;have q:=Hd (fun b=>sd kd t nm pl p n c b _ (l.below g) h);have i:=Hd (fun W=>xz kd t nm pl p n c W);have a:=Hd g;have j:=Hd (fun W=>(Tryz.strings_TrimPrefix t ⟨#[45]⟩ W).mono (R':=fun e w'=>e=.returned (.string ⟨(strip t.data.toList).toArray⟩)∧W=w') (fun e w' r=>⟨by rw[r.1];show Ending.returned (string ⟨(Lib.trimPrefix t.data.toList [45]).toArray⟩)=_;rw[yp],r.2.symm⟩))
 have k:=Hd (fun W=>lE ⟨(strip t.data.toList).toArray⟩ W (by
  show (strip t.data.toList).toArray.size≤100000
  have B:=AV t.data.toList;have C:t.data.toList.length=t.data.size:=EY;have D:t.size=t.data.size:=rfl;simp only[List.size_toArray]
  omega))
 clear l m g h
 match f,s with
 | 0,_ =>
  have u:=Hd (sh t)
  go_enter Tryz.func108,Tryz.ntmps108
  go_wp2_with fail
  go_ret;exact⟨bN (by show _=t.data.toList.isEmpty;rw[←u.o,EN,EN];cases t.data.toList<;>rfl),a.o⟩
 | 1,_ =>
  go_enter Tryz.func108,Tryz.ntmps108
  go_wp2_with fail
  refine EJ (q.o false) ?_;rintro e W2 ⟨rfl,d⟩;go_wp2_with fail
  go_ret;exact⟨bN rfl,a.o.trans (d.mono a.o.size)⟩
 | 2,_ =>
  go_enter Tryz.func108,Tryz.ntmps108
  go_wp2_with fail
  refine EJ (q.o true) ?_;rintro e W2 ⟨rfl,d⟩;go_wp2_with fail
  go_ret;exact⟨bN rfl,a.o.trans (d.mono a.o.size)⟩
 | 3,_ =>
  go_enter Tryz.func108,Tryz.ntmps108
  go_wp2_with fail
  refine EJ (j.o _) ?_;rintro e W2 ⟨rfl,rfl⟩;go_wp2_with fail
  refine EJ (k.o _) ?_;rintro e W2 ⟨rfl,d⟩;go_wp2_with fail
  go_ret;exact⟨rfl,a.o.trans (d.mono a.o.size)⟩
 | 4,_ =>
  go_enter Tryz.func108,Tryz.ntmps108
  go_wp2_with fail
  refine EJ (i.o _) ?_;rintro e W2 ⟨rfl,d⟩;go_wp2_with fail
  go_ret;exact⟨rfl,a.o.trans (d.mono a.o.size)⟩
def ez(kd:Nat):Nat×Int×Int:=
 if kd==2||kd==3||kd==5||kd==6||kd==8 then (1,0,0)
 else if kd==4 then (1,-2147483647,2147483647)
 else if kd==9 then (0,0,2147483647)
 else if kd==13||kd==15 then (2,0,0)
 else if kd==14 then (3,0,0)
 else if kd==16 then (4,0,0)
 else (0,0,0)
def kb(L:Nat) (w W:World):Prop:=w.heap.size≤W.heap.size∧∀b,L≤b→b<w.heap.size→W.heap[b]?=w.heap[b]?
def qp(L:Nat) (w:World) (kd:Nat) (fn:Value):Prop:=
 (∃g:FuncId,fn=.func (.func g) #[] #[]∧(∀(args:Array Value) (w:World),(callFunc g args).run Tryz.prog w=.ok (.enter g args) w)∧∀(W:World) (d B:Nat) (a:List ac) (v:Value),kb L w W→aD W B d a v→B≤W.heap.size→a.length≤20000→Calls Tryz.prog g #[v] W (ap (fA kd a) W))∨
 (∃b:Nat,fn=.func (.func 174) #[] #[.pointer (some ⟨b,0,none⟩)]∧∀(W:World) (d B:Nat) (a:List ac) (v:Value),kb L w W→aD W B d a v→B≤W.heap.size→a.length≤20000→Calls Tryz.prog 174 #[v,.pointer (some ⟨b,0,none⟩)] W (ap (fA kd a) W))
theorem Cq{w:World}{b n:Nat}{S:List Nat}{arr:Array Value}(h:w.heap[b]?=some (.cells arr 73 (0,0)))(a:arr=(S.map fun k:Nat=>int .u8 (k:Int)).toArray)(c:S.length≤100)(d:S.length=n):ga w S (slice (some ⟨b,0,none⟩) n n):=by
 subst a;subst d;refine Or.inr ⟨b,0,S.length,rfl,c,(Ez.1 h).1,fun i k e=>?_⟩;rw[Fq _ _ _ _ _ _ h];simp[e]
theorem iK{L b b' n kd:Nat}{w:World}{S:List Nat}{arr:Array Value}(m:L≤b)(f:L≤b')(j:w.heap[b]?=some (.cells #[slice (some ⟨b',0,none⟩) n n] 227 (0,0)))(l:w.heap[b']?=some (.cells arr 73 (0,0)))(o:arr=(S.map fun k:Nat=>int .u8 (k:Int)).toArray)(p:S.length≤100)(q:S.length=n)
  (h:∀a,fA kd a=cZ S a):qp L w kd (.func (.func 174) #[] #[.pointer (some ⟨b,0,none⟩)]):=by
 have c:b<w.heap.size:=(Ez.1 j).1;have e:b'<w.heap.size:=(Ez.1 l).1;refine Or.inr ⟨b,rfl,fun W d B a v g r hB i=>?_⟩;rw[h a];exact i8 S a v _ d B b W r hB i (Cq ((g.2 b' f e).trans l) o p q) (EF c g.1) (Fq _ _ 0 _ _ _ ((g.2 b m c).trans j))
theorem fp{L b kd:Nat}{w:World}(i:L≤b)(f:w.heap[b]?=some (.cells #[slice none 0 0] 227 (0,0)))(h:∀a,fA kd a=cZ [] a) :
  qp L w kd (.func (.func 174) #[] #[.pointer (some ⟨b,0,none⟩)]):=by
 have c:b<w.heap.size:=(Ez.1 f).1;refine Or.inr ⟨b,rfl,fun W d B a v g j hB e=>?_⟩;rw[h a];exact i8 [] a v _ d B b W j hB e (Or.inl ⟨rfl,rfl⟩) (EF c g.1) (Fq _ _ 0 _ _ _ ((g.2 b i c).trans f))
theorem gz(a:List ac):a.isEmpty=cZ [] a:=by
 cases a with
 | nil=>rfl
 | cons x l=>unfold cZ;simp
def dV(kd:Nat) (w:World) (e:Ending) (w':World):Prop:=
 ∃fn,e=.returned (.tuple #[.agg #[int i64 ((ez kd).1:Nat),int i64 (ez kd).2.1,int i64 (ez kd).2.2,fn],.bool true])∧Ft w w'∧qp w.heap.size w' kd fn
theorem bX(W:World)(h:Ending→World→Prop)(T:Nat)(a b c d v3:Value)(e:W.heap[T]?=some (.cells #[a,b,c,d] 170 (0,0)))
  (tmps:Array Value) (i:tmps.getD 2 undef=.pointer (some ⟨T,0,none⟩)) (j:tmps.getD 3 undef=v3) (k:h (.returned (.tuple #[.agg #[a,b,c,d],v3])) W) :
  bodyPost Tryz.prog Tryz.f107 h .ret ⟨tmps,[]⟩ W:=by
 have l:=Fq _ _ 0 _ _ _ e;have m:=Fq _ _ 1 _ _ _ e;have c2:=Fq _ _ 2 _ _ _ e;have n:=Fq _ _ 3 _ _ _ e;have f:tmps[2]?.getD undef=.pointer (some ⟨T,0,none⟩):=by simpa using i
 have g:tmps[3]?.getD undef=v3:=by simpa using j
 refine bodyPost_ret (v:=.tuple #[.agg #[a,b,c,d],v3]) ?_ rfl k;simp[results,Tryz.results107,go_sem,f,g,l,m,c2,n]
theorem dJ(w:World)(a b:Obj):((w.alloc a).alloc b).heap[w.heap.size]?=some a∧((w.alloc a).alloc b).heap[w.heap.size+1]?=some b∧Ft w ((w.alloc a).alloc b):=
 ⟨(am w a b).1,(am w a b).2.1,bz w a b⟩
theorem kB(w:World)(a b c d:Obj):((((w.alloc a).alloc b).alloc c).alloc d).heap[w.heap.size]?=some a∧((((w.alloc a).alloc b).alloc c).alloc d).heap[w.heap.size+1+1]?=some c∧
  ((((w.alloc a).alloc b).alloc c).alloc d).heap[w.heap.size+1+1+1]?=some d∧Ft w ((((w.alloc a).alloc b).alloc c).alloc d):=by
 refine⟨?_,?_,?_,((((EB _ w).alloc (EA _) _).alloc (by simp) _).alloc (by simp;omega) _).alloc (by simp;omega) _⟩<;>(simp only[gn,World.size_alloc];repeat (first|rw[n9 trivial] | rw[n8 (by omega)] | rw[n9 (by omega)]))
theorem BI(w:World):Calls Tryz.prog 107 #[int .u8 1] w (dV 1 w):=by
 go_enter Tryz.func107,Tryz.ntmps107
 go_wp2_with (go_at_call 148;refine (aR _ _ _ _).mono ?_;rintro e f ⟨rfl,rfl⟩)
 obtain⟨a,b,c,d⟩:=kB w (.cells #[int i64 0,int i64 (0),int i64 0,.func (.func 174) #[] #[.pointer (some ⟨w.heap.size+1+1+1,0,none⟩)]] 170) (.cells #[slice none 0 0] 227) (.cells #[int .u8 2,int .u8 4] 73) (.cells #[slice (some ⟨w.heap.size+1+1,0,none⟩) 2 2] 227);exact bX _ _ w.heap.size _ _ _ _ _ a _ rfl rfl ⟨_,rfl,d,iK (S:=[2,4]) (by omega) (by omega) c b rfl (by decide) rfl (fun g=>rfl)⟩
theorem CH(w:World):Calls Tryz.prog 107 #[int .u8 2] w (dV 2 w):=by
 go_enter Tryz.func107,Tryz.ntmps107
 go_wp2_with (go_at_call 148;refine (aR _ _ _ _).mono ?_;rintro e f ⟨rfl,rfl⟩)
 obtain⟨a,b,c,d⟩:=kB w (.cells #[int i64 1,int i64 (0),int i64 0,.func (.func 174) #[] #[.pointer (some ⟨w.heap.size+1+1+1,0,none⟩)]] 170) (.cells #[slice none 0 0] 227) (.cells #[int .u8 3] 73) (.cells #[slice (some ⟨w.heap.size+1+1,0,none⟩) 1 1] 227);exact bX _ _ w.heap.size _ _ _ _ _ a _ rfl rfl ⟨_,rfl,d,iK (S:=[3]) (by omega) (by omega) c b rfl (by decide) rfl (fun g=>rfl)⟩
theorem Ct(w:World):Calls Tryz.prog 107 #[int .u8 3] w (dV 3 w):=by
 go_enter Tryz.func107,Tryz.ntmps107
 go_wp2_with (go_at_call 148;refine (aR _ _ _ _).mono ?_;rintro e f ⟨rfl,rfl⟩)
 obtain⟨b,c,d⟩:=dJ w (.cells #[int i64 1,int i64 (0),int i64 0,.func (.func 174) #[] #[.pointer (some ⟨w.heap.size+1,0,none⟩)]] 170) (.cells #[slice none 0 0] 227);exact bX _ _ w.heap.size _ _ _ _ _ b _ rfl rfl ⟨_,rfl,d,fp (by omega) c (fun a=>(show a.isEmpty=_ from gz a))⟩
theorem BA(w:World):Calls Tryz.prog 107 #[int .u8 4] w (dV 4 w):=by
 go_enter Tryz.func107,Tryz.ntmps107
 go_wp2_with (go_at_call 148;refine (aR _ _ _ _).mono ?_;rintro e h ⟨rfl,rfl⟩)
 obtain⟨a,i,b⟩:=dJ w (.cells #[int i64 1,int i64 (-2147483647),int i64 2147483647,.func (.func 149) #[] #[]] 170) (.cells #[slice none 0 0] 227);exact bX _ _ w.heap.size _ _ _ _ _ a _ rfl rfl ⟨_,rfl,b,Or.inl ⟨_,rfl,enters_of Tryz.func149 (by kernel_rfl) rfl,fun W d B c v _ f hB g=>vZ c v d B W f hB g⟩⟩
theorem BV(w:World):Calls Tryz.prog 107 #[int .u8 5] w (dV 5 w):=by
 go_enter Tryz.func107,Tryz.ntmps107
 go_wp2_with (go_at_call 148;refine (aR _ _ _ _).mono ?_;rintro e f ⟨rfl,rfl⟩)
 obtain⟨a,b,c,d⟩:=kB w (.cells #[int i64 1,int i64 (0),int i64 0,.func (.func 174) #[] #[.pointer (some ⟨w.heap.size+1+1+1,0,none⟩)]] 170) (.cells #[slice none 0 0] 227) (.cells #[int .u8 12,int .u8 13,int .u8 14,int .u8 15] 73) (.cells #[slice (some ⟨w.heap.size+1+1,0,none⟩) 4 4] 227);exact bX _ _ w.heap.size _ _ _ _ _ a _ rfl rfl ⟨_,rfl,d,iK (S:=[12,13,14,15]) (by omega) (by omega) c b rfl (by decide) rfl (fun g=>rfl)⟩
theorem Cr(w:World):Calls Tryz.prog 107 #[int .u8 6] w (dV 6 w):=by
 go_enter Tryz.func107,Tryz.ntmps107
 go_wp2_with (go_at_call 148;refine (aR _ _ _ _).mono ?_;rintro e f ⟨rfl,rfl⟩)
 obtain⟨a,b,c,d⟩:=kB w (.cells #[int i64 1,int i64 (0),int i64 0,.func (.func 174) #[] #[.pointer (some ⟨w.heap.size+1+1+1,0,none⟩)]] 170) (.cells #[slice none 0 0] 227) (.cells #[int .u8 12,int .u8 13,int .u8 14,int .u8 15] 73) (.cells #[slice (some ⟨w.heap.size+1+1,0,none⟩) 4 4] 227);exact bX _ _ w.heap.size _ _ _ _ _ a _ rfl rfl ⟨_,rfl,d,iK (S:=[12,13,14,15]) (by omega) (by omega) c b rfl (by decide) rfl (fun g=>rfl)⟩
theorem Cb(w:World):Calls Tryz.prog 107 #[int .u8 7] w (dV 7 w):=by
 go_enter Tryz.func107,Tryz.ntmps107
 go_wp2_with (go_at_call 148;refine (aR _ _ _ _).mono ?_;rintro e h ⟨rfl,rfl⟩)
 obtain⟨a,i,b⟩:=dJ w (.cells #[int i64 0,int i64 (0),int i64 0,.func (.func 150) #[] #[]] 170) (.cells #[slice none 0 0] 227);exact bX _ _ w.heap.size _ _ _ _ _ a _ rfl rfl ⟨_,rfl,b,Or.inl ⟨_,rfl,enters_of Tryz.func150 (by kernel_rfl) rfl,fun W d B c v _ f hB g=>vM c v d B W f hB g⟩⟩
theorem Ch(w:World):Calls Tryz.prog 107 #[int .u8 8] w (dV 8 w):=by
 go_enter Tryz.func107,Tryz.ntmps107
 go_wp2_with (go_at_call 148;refine (aR _ _ _ _).mono ?_;rintro e h ⟨rfl,rfl⟩)
 obtain⟨a,i,b⟩:=dJ w (.cells #[int i64 1,int i64 (0),int i64 0,.func (.func 151) #[] #[]] 170) (.cells #[slice none 0 0] 227);exact bX _ _ w.heap.size _ _ _ _ _ a _ rfl rfl ⟨_,rfl,b,Or.inl ⟨_,rfl,enters_of Tryz.func151 (by kernel_rfl) rfl,fun W d B c v _ f hB g=>ic c v d B W f hB g⟩⟩
theorem Bn(w:World):Calls Tryz.prog 107 #[int .u8 9] w (dV 9 w):=by
 go_enter Tryz.func107,Tryz.ntmps107
 go_wp2_with (go_at_call 148;refine (aR _ _ _ _).mono ?_;rintro e f ⟨rfl,rfl⟩)
 obtain⟨b,c,d⟩:=dJ w (.cells #[int i64 0,int i64 (0),int i64 2147483647,.func (.func 174) #[] #[.pointer (some ⟨w.heap.size+1,0,none⟩)]] 170) (.cells #[slice none 0 0] 227);exact bX _ _ w.heap.size _ _ _ _ _ b _ rfl rfl ⟨_,rfl,d,fp (by omega) c (fun a=>(show a.isEmpty=_ from gz a))⟩
theorem zS(w:World):Calls Tryz.prog 107 #[int .u8 10] w (dV 10 w):=by
 go_enter Tryz.func107,Tryz.ntmps107
 go_wp2_with (go_at_call 148;refine (aR _ _ _ _).mono ?_;rintro e h ⟨rfl,rfl⟩)
 obtain⟨a,i,b⟩:=dJ w (.cells #[int i64 0,int i64 (0),int i64 0,.func (.func 152) #[] #[]] 170) (.cells #[slice none 0 0] 227);exact bX _ _ w.heap.size _ _ _ _ _ a _ rfl rfl ⟨_,rfl,b,Or.inl ⟨_,rfl,enters_of Tryz.func152 (by kernel_rfl) rfl,fun W d B c v _ f hB g=>vz c v d B W f hB g⟩⟩
theorem A9(w:World):Calls Tryz.prog 107 #[int .u8 11] w (dV 11 w):=by
 go_enter Tryz.func107,Tryz.ntmps107
 go_wp2_with (go_at_call 148;refine (aR _ _ _ _).mono ?_;rintro e f ⟨rfl,rfl⟩)
 obtain⟨b,c,d⟩:=dJ w (.cells #[int i64 0,int i64 (0),int i64 0,.func (.func 174) #[] #[.pointer (some ⟨w.heap.size+1,0,none⟩)]] 170) (.cells #[slice none 0 0] 227);exact bX _ _ w.heap.size _ _ _ _ _ b _ rfl rfl ⟨_,rfl,d,fp (by omega) c (fun a=>(show a.isEmpty=_ from gz a))⟩
theorem zO(w:World):Calls Tryz.prog 107 #[int .u8 12] w (dV 12 w):=by
 go_enter Tryz.func107,Tryz.ntmps107
 go_wp2_with (go_at_call 148;refine (aR _ _ _ _).mono ?_;rintro e f ⟨rfl,rfl⟩)
 obtain⟨b,c,d⟩:=dJ w (.cells #[int i64 0,int i64 (0),int i64 0,.func (.func 174) #[] #[.pointer (some ⟨w.heap.size+1,0,none⟩)]] 170) (.cells #[slice none 0 0] 227);exact bX _ _ w.heap.size _ _ _ _ _ b _ rfl rfl ⟨_,rfl,d,fp (by omega) c (fun a=>(show a.isEmpty=_ from gz a))⟩
theorem Ab(w:World):Calls Tryz.prog 107 #[int .u8 13] w (dV 13 w):=by
 go_enter Tryz.func107,Tryz.ntmps107
 go_wp2_with (go_at_call 148;refine (aR _ _ _ _).mono ?_;rintro e f ⟨rfl,rfl⟩)
 obtain⟨b,c,d⟩:=dJ w (.cells #[int i64 2,int i64 (0),int i64 0,.func (.func 174) #[] #[.pointer (some ⟨w.heap.size+1,0,none⟩)]] 170) (.cells #[slice none 0 0] 227);exact bX _ _ w.heap.size _ _ _ _ _ b _ rfl rfl ⟨_,rfl,d,fp (by omega) c (fun a=>(show a.isEmpty=_ from gz a))⟩
theorem zW(w:World):Calls Tryz.prog 107 #[int .u8 14] w (dV 14 w):=by
 go_enter Tryz.func107,Tryz.ntmps107
 go_wp2_with (go_at_call 148;refine (aR _ _ _ _).mono ?_;rintro e f ⟨rfl,rfl⟩)
 obtain⟨b,c,d⟩:=dJ w (.cells #[int i64 3,int i64 (0),int i64 0,.func (.func 174) #[] #[.pointer (some ⟨w.heap.size+1,0,none⟩)]] 170) (.cells #[slice none 0 0] 227);exact bX _ _ w.heap.size _ _ _ _ _ b _ rfl rfl ⟨_,rfl,d,fp (by omega) c (fun a=>(show a.isEmpty=_ from gz a))⟩
theorem Ba(w:World):Calls Tryz.prog 107 #[int .u8 15] w (dV 15 w):=by
 go_enter Tryz.func107,Tryz.ntmps107
 go_wp2_with (go_at_call 148;refine (aR _ _ _ _).mono ?_;rintro e f ⟨rfl,rfl⟩)
 obtain⟨b,c,d⟩:=dJ w (.cells #[int i64 2,int i64 (0),int i64 0,.func (.func 174) #[] #[.pointer (some ⟨w.heap.size+1,0,none⟩)]] 170) (.cells #[slice none 0 0] 227);exact bX _ _ w.heap.size _ _ _ _ _ b _ rfl rfl ⟨_,rfl,d,fp (by omega) c (fun a=>(show a.isEmpty=_ from gz a))⟩
theorem AZ(w:World):Calls Tryz.prog 107 #[int .u8 16] w (dV 16 w):=by
 go_enter Tryz.func107,Tryz.ntmps107
 go_wp2_with (go_at_call 148;refine (aR _ _ _ _).mono ?_;rintro e h ⟨rfl,rfl⟩)
 obtain⟨a,i,b⟩:=dJ w (.cells #[int i64 4,int i64 (0),int i64 0,.func (.func 151) #[] #[]] 170) (.cells #[slice none 0 0] 227);exact bX _ _ w.heap.size _ _ _ _ _ a _ rfl rfl ⟨_,rfl,b,Or.inl ⟨_,rfl,enters_of Tryz.func151 (by kernel_rfl) rfl,fun W d B c v _ f hB g=>ic c v d B W f hB g⟩⟩
theorem vl(k:Nat)(w:World)(h:k=0∨16<k):Calls Tryz.prog 107 #[int .u8 k] w fun e w'=>e=.returned (.tuple #[.agg #[int i64 0,int i64 0,int i64 0,.nilFunc],.bool false])∧Ft w w':=by
 have m:((k:Int)==1)=false:=by simp;omega
 have n:((k:Int)==2)=false:=by simp;omega
 have o:((k:Int)==3)=false:=by simp;omega
 have p:((k:Int)==4)=false:=by simp;omega
 have q:((k:Int)==5)=false:=by simp;omega
 have r:((k:Int)==6)=false:=by simp;omega
 have s:((k:Int)==7)=false:=by simp;omega
 have t:((k:Int)==8)=false:=by simp;omega
 have u:((k:Int)==9)=false:=by simp;omega
 have a:((k:Int)==10)=false:=by simp;omega
 have b:((k:Int)==11)=false:=by simp;omega
 have c:((k:Int)==12)=false:=by simp;omega
 have d:((k:Int)==13)=false:=by simp;omega
 have f:((k:Int)==14)=false:=by simp;omega
 have g:((k:Int)==15)=false:=by simp;omega
 have i:((k:Int)==16)=false:=by simp;omega
 clear h
 go_enter Tryz.func107,Tryz.ntmps107
 go_wp2_with (go_at_call 148;refine (aR _ _ _ _).mono ?_;rintro e v ⟨rfl,rfl⟩)
 obtain⟨j,x,l⟩:=dJ w (.cells #[int i64 0,int i64 0,int i64 0,.nilFunc] 170) (.cells #[slice none 0 0] 227);exact bX _ _ w.heap.size _ _ _ _ _ j _ rfl rfl ⟨rfl,l⟩
theorem yJ(k:Nat)(w:World)(b:1≤k)(c:k≤16):Calls Tryz.prog 107 #[int .u8 k] w (dV k w):=by
 have a:k=1∨k=2∨k=3∨k=4∨k=5∨k=6∨k=7∨k=8∨k=9∨k=10∨k=11∨k=12∨k=13∨k=14∨k=15∨k=16:=by omega
 rcases a with rfl|rfl|rfl|rfl|rfl|rfl|rfl|rfl|rfl|rfl|rfl|rfl|rfl|rfl|rfl|rfl
 ·exact BI w
 ·exact CH w
 ·exact Ct w
 ·exact BA w
 ·exact BV w
 ·exact Cr w
 ·exact Cb w
 ·exact Ch w
 ·exact Bn w
 ·exact zS w
 ·exact A9 w
 ·exact zO w
 ·exact Ab w
 ·exact zW w
 ·exact Ba w
 ·exact AZ w
theorem vG(k:Nat)(b:1≤k)(c:k≤16)(t:List UInt8)(n:Nat):tH k t n=textF (ez k).1 t n:=by
 have a:k=1∨k=2∨k=3∨k=4∨k=5∨k=6∨k=7∨k=8∨k=9∨k=10∨k=11∨k=12∨k=13∨k=14∨k=15∨k=16:=by omega
 rcases a with rfl|rfl|rfl|rfl|rfl|rfl|rfl|rfl|rfl|rfl|rfl|rfl|rfl|rfl|rfl|rfl
 ·exact rfl
 ·exact rfl
 ·exact rfl
 ·exact rfl
 ·exact rfl
 ·exact rfl
 ·exact rfl
 ·exact rfl
 ·exact rfl
 ·exact rfl
 ·exact rfl
 ·exact rfl
 ·exact rfl
 ·exact rfl
 ·exact rfl
 ·exact rfl
theorem yT(k:Nat)(c:1≤k)(d:k≤16)(x:Int):sP k x=(decide ((ez k).2.1≤x)&&decide (x≤(ez k).2.2)):=by
 have a:(x==0)=(decide (0≤x)&&decide (x≤0)):=by rw[Fc];simp;omega
 have b:k=1∨k=2∨k=3∨k=4∨k=5∨k=6∨k=7∨k=8∨k=9∨k=10∨k=11∨k=12∨k=13∨k=14∨k=15∨k=16:=by omega
 rcases b with rfl|rfl|rfl|rfl|rfl|rfl|rfl|rfl|rfl|rfl|rfl|rfl|rfl|rfl|rfl|rfl
 ·exact a
 ·exact a
 ·exact a
 ·exact rfl
 ·exact a
 ·exact a
 ·exact a
 ·exact a
 ·exact rfl
 ·exact a
 ·exact a
 ·exact a
 ·exact a
 ·exact a
 ·exact a
 ·exact a
theorem Dm(k:Nat)(b:1≤k)(c:k≤16):(ez k).1≤4∧-2147483647≤(ez k).2.1∧(ez k).2.2≤2147483647:=by
 have a:k=1∨k=2∨k=3∨k=4∨k=5∨k=6∨k=7∨k=8∨k=9∨k=10∨k=11∨k=12∨k=13∨k=14∨k=15∨k=16:=by omega
 rcases a with rfl|rfl|rfl|rfl|rfl|rfl|rfl|rfl|rfl|rfl|rfl|rfl|rfl|rfl|rfl|rfl
 ·decide
 ·decide
 ·decide
 ·decide
 ·decide
 ·decide
 ·decide
 ·decide
 ·decide
 ·decide
 ·decide
 ·decide
 ·decide
 ·decide
 ·decide
 ·decide
def dD(d:Nat) (T:ac) (deep left:Nat):Bool:=okF d T&&decide (deep+fu d T≤31)&&decide (dA d T≤left)
def jd(d:Nat) (deep:Nat) (t:ac):Bool:=okF d t&&decide (deep+1+fu d t≤31)
def sumF(d:Nat) (a:List ac):Nat:=(a.map (dA d)).foldl (· + ·) 0
theorem Ee(d:Nat)(T:ac)(h:d=0→T.kids=[]):okF d T=(cw T&&T.kids.all (okF (d-1))):=by
 cases d with
 | zero=>rw[h rfl];show cw T=(cw T&&true);rw[Bool.and_true]
 | succ d=>rfl
theorem BZ(d:Nat)(T:ac)(h:d=0→T.kids=[]):fu d T=(T.kids.map (fu (d-1))).foldl Nat.max 0+1:=by
 cases d with
 | zero=>rw[h rfl];rfl
 | succ d=>rfl
theorem uh(d:Nat)(T:ac)(h:d=0→T.kids=[]):dA d T=sumF (d-1) T.kids+1:=by
 cases d with
 | zero=>rw[h rfl];rfl
 | succ d=>show (T.kids.map (dA d)).foldl (· + ·) 1=_;rw[rl,Nat.add_comm];rfl
theorem max_le(f:ac→Nat)(m:Nat):∀(l:List ac) (a:Nat),(decide ((l.map f).foldl Nat.max a≤m))=(decide (a≤m)&&l.all fun t=>decide (f t≤m)):=by
 intro l
 induction l with
 | nil=>intro a;simp
 | cons x l b =>
  intro a;rw[List.map_cons,List.foldl_cons,b,List.all_cons];have:decide (Nat.max a (f x)≤m)=(decide (a≤m)&&decide (f x≤m)):=by rw[Fc];simp only[oe,EQ];exact Nat.max_le
  rw[this,Bool.and_assoc]
theorem BM(d:Nat)(T:ac)(deep left:Nat)(h:d=0→T.kids=[]) :
  dD d T deep left=(cw T&&decide (deep≤30)&&T.kids.all (jd (d-1) deep)&&decide (sumF (d-1) T.kids+1≤left)):=by
 unfold dD;rw[Ee d T h,BZ d T h,uh d T h]
 by_cases b:deep≤30
 ·have e:decide (deep+((T.kids.map (fu (d-1))).foldl Nat.max 0+1)≤31)=decide ((T.kids.map (fu (d-1))).foldl Nat.max 0≤30-deep):=by
   rw[Fc];simp only[oe];omega
  rw[e,max_le];have c:decide (0≤30-deep)=true:=by simp
  have a:decide (deep≤30)=true:=by simpa using b
  rw[c,a,Bool.true_and,Bool.and_true];have f:T.kids.all (jd (d-1) deep)=(T.kids.all (okF (d-1))&&T.kids.all fun t=>decide (fu (d-1) t≤30-deep)):=by
   induction T.kids with
   | nil=>rfl
   | cons x l g =>
    rw[List.all_cons,List.all_cons,List.all_cons,g];unfold jd;have:decide (deep+1+fu (d-1) x≤31)=decide (fu (d-1) x≤30-deep):=by rw[Fc];simp only[oe];omega
    rw[this]
    cases okF (d-1) x<;>cases decide (fu (d-1) x≤30-deep)<;>simp
  rw[f];simp only[Bool.and_assoc]
 ·have i:decide (deep+((T.kids.map (fu (d-1))).foldl Nat.max 0+1)≤31)=false:=by simp;omega
  have a:decide (deep≤30)=false:=by simpa using b
  rw[i,a];simp
theorem rp(d:Nat)(a:List ac)(k:Nat)(t:ac)(h:a[k]?=some t):sumF d (a.take (k+1))=sumF d (a.take k)+dA d t:=by
 unfold sumF;rw[Fg,h,List.map_append,List.foldl_append];rfl
theorem CZ(d:Nat)(a:List ac)(k:Nat):sumF d (a.take k)≤sumF d a:=by
 have h:sumF d a=sumF d (a.take k)+sumF d (a.drop k):=by
  unfold sumF
  conv=>lhs;rw[←List.take_append_drop k a]
  rw[List.map_append,List.foldl_append,rl]
 omega
def jr(d:Nat) (T:ac) (deep left a:Nat) (w:World) (e:Ending) (w':World):Prop:=
 e=.returned (.bool (dD d T deep left))∧w.grownBy w' (some a)∧∃x:Int,w'.heap[a]?=some (.cells #[int i64 x] 3 (0,0))∧(dD d T deep left=true→x=(left:Int)-dA d T)
def AE(d:Nat):Prop:=∀(T:ac) (v:Value) (deep left a B:Nat) (w:World),eO w B d T v→B≤a→B≤w.heap.size→iQ d T→aM w→1≠a→
 w.heap[a]?=some (.cells #[int i64 left] 3 (0,0))→1≤deep→deep≤31→left≤4096→Calls Tryz.prog 77 #[v,int i64 deep,.pointer (some ⟨a,0,none⟩)] w (jr d T deep left a w)
theorem below_of_grown{B g:Nat}{w W:World}(a:w.grownBy W (some g))(b:B≤g)(hB:B≤w.heap.size):Below B w W:=
 ⟨a.os,a.tape,a.output,a.size,fun i c=>a.block i (EF c hB) (by intro e;simp at e;omega)⟩
def CE(w:World) (d:Nat) (b:List ac) (deep left c n:Nat) (i:Value) (W:World):Prop:=
 ∃(a:World) (k m:Nat),a=W∧k≤n∧i=int i64 k∧w.grownBy a (some c)∧a.heap[c]?=some (.cells #[int i64 m] 3 (0,0))∧m+sumF d (b.take k)+1=left∧(b.take k).all (jd d deep)=true
theorem fY{a b c:World}{row:Option Nat}(h:a.grownBy b row)(d:b.grownBy c row):a.grownBy c row:=
 ⟨d.os.trans h.os,d.tape.trans h.tape,d.output.trans h.output,EG h.size d.size,fun k f e=>(d.block k (EF f h.size) e).trans (h.block k f e)⟩
theorem right_stop{d:Nat}{a:List ac}{k m deep left:Nat}{t:ac}(f:a[k]?=some t)(hm:m+sumF d (a.take k)+1=left)(h:dD d t (deep+1) m=false):(a.all (jd d deep)&&decide (sumF d a+1≤left))=false:=by
 by_cases b:jd d deep t=true
 ·have g:m<dA d t:=by
   unfold dD at h;unfold jd at b;rw[b,Bool.true_and]at h
   simpa using h
  have i:=rp d a k t f;have j:=CZ d a (k+1);have e:decide (sumF d a+1≤left)=false:=by simp;omega
  rw[e,Bool.and_false]
 ·have c:jd d deep t=false:=by simpa using b
  have e:a.all (jd d deep)=false:=by rw[List.all_eq_false];exact⟨t,EU f,by simp[c]⟩
  rw[e,Bool.false_and]
theorem BQ{d:Nat}{b:List ac}{k m deep:Nat}{t:ac}(c:b[k]?=some t)(a:(b.take k).all (jd d deep)=true)(h:dD d t (deep+1) m=true):(b.take (k+1)).all (jd d deep)=true∧dA d t≤m:=by
 unfold dD at h;rw[EQ]at h;refine⟨?_,by simpa using h.2⟩;rw[Fg,c,List.all_append,a]
 simpa [jd]using h.1
theorem dH{d deep left b:Nat}{T:ac}{w W:World}{x:Int}(a:dD d T deep left=false)(c:w.grownBy W (some b))(e:W.heap[b]?=some (.cells #[int i64 x] 3 (0,0))) :
  jr d T deep left b w (.returned (.bool false)) W:=⟨bN a.symm,c,x,e,fun h=>by rw[a]at h;cases h⟩
theorem rR{w:World}{a:Nat}{x:Value}{t:TypeId}(h:w.heap[a]?=some (.cells #[x] t (0,0)))(y:Value)(o:Obj):((w.setCell ⟨a,0,none⟩ y).alloc o).heap[a]?=some (.cells #[y] t (0,0)):=by
 have b:=heap_set h 0 y;have c:a<(w.setCell ⟨a,0,none⟩ y).heap.size:=(Ez.1 b).1;rw[gn,n8 (by omega)];exact b
theorem lZ(d:Nat)(T:ac)(v:Value)(deep left f B:Nat)(w:World)(C:eO w B d T v)(_hB:B≤w.heap.size)(r:w.heap[f]?=some (.cells #[int i64 left] 3 (0,0)))(D:left≤4096)
  (t:T.kind=0∨16<T.kind):Calls Tryz.prog 77 #[v,int i64 deep,.pointer (some ⟨f,0,none⟩)] w (jr d T deep left f w):=by
 obtain⟨_,s,rfl,g⟩:=C;obtain⟨p,n,c,rfl⟩:=g.shape;have i:dD d T deep left=false:=by
  have z:cw T=false:=by
   unfold cw;rcases t with h|h
   ·have e:decide (1≤T.kind)=false:=by simp;omega
    rw[e];rfl
   ·have e:decide (T.kind≤16)=false:=by simp;omega
    rw[e];simp
  unfold dD;have:okF d T=false:=by
   cases d with
   | zero=>exact z
   | succ d=>show (cw T&&_)=false;rw[z];rfl
  rw[this];rfl
 have u:=Hd i;have x:f<w.heap.size:=(Ez.1 r).1;have E:(0:Int)≤left:=by omega
 have F:(left:Int)≤4096:=by omega
 have y:=Hd (fun W=>vl T.kind W t);have j:Ft w (w.alloc (.cells #[int .u8 T.kind,.string T.text,int i64 T.num,int i64 T.place,.slice p n c] 144)):=(EB _ w).alloc (EA _) _;obtain⟨G,H,I,J,K⟩:=cells5 (n7 w (.cells #[int .u8 T.kind,.string T.text,int i64 T.num,int i64 T.place,.slice p n c] 144));have k:=Hd j;have L:=Hd r;clear t g i r j
 go_enter Tryz.func77,Tryz.ntmps77
 go_wp2_with fail
 refine EJ (y.o _) ?_;rintro e w1 ⟨rfl,l⟩;have a:=Hd (k.o.trans (l.mono k.o.size));have q:=aa a.o L.o x;have m:f<w1.heap.size:=(Ez.1 q).1;have b:Ft w1 (w1.alloc (.cells #[int i64 0,int i64 0,int i64 0,.nilFunc] 170)):=(EB _ w1).alloc (EA _) _;have A:=Hd (aa b q m);have M:=Hd q;have N:=Hd (a.o.trans (b.mono a.o.size));have c2:=Fq _ _ 0 _ _ _ A.o;have f2:=ao A.o 0;clear G H I J K l q b;go_wp2_with fail
 go_ret;exact dH u.o (grown_below (fG (aH a.o (some f)) 0 _) ((EB _ _).alloc (EA _) _)) (rR M.o _ _)
