/- Parts of one proof, joined; conditions stand in each theorem. -/
import Derived.Test.YtoonjedifockoaaGreatDoorNO
import Derived.Test.YtoonjedifockoaaGreatDoorNA0
import Derived.Test.YtoonjedifockoaaGreatDoorMD
import Derived.Shelf.Strings.SlTrimAscii
namespace Go.Proofs.YtoonjedifockoaaGreatDoor
open Go.IntKind(i64)
open Go.Value(int string slice)
set_option maxHeartbeats 4000000
set_option maxRecDepth 100000
open Go.RowKit
def bm(a b c:Bool) (e:ag):Bool:=(a||zeroV e.val)&&(b||e.var==0)&&(c||(e.op==0&&e.kids.isEmpty))
theorem fj(t:ByteArray):(t.toList=[])↔t.data.toList.isEmpty=true:=by rw[EN,List.isEmpty_iff]
theorem Cg(n:Nat):((n:Int)==0)=decide (n=0):=by rw[Fc];simp
theorem zH(e:ag)(p:Option Addr)(n c:Nat)(w:World)(b:e.kids.length=n) :
  Calls Tryz.prog 59 #[.agg #[int .u8 e.kind,int .u8 e.val.kind,int i64 e.val.num,.string e.val.text,int i64 e.var,int .u8 e.op,.slice p n c],.bool true,.bool false,.bool false] w (ap (bm true false false e) w):=by
 have a:Hid (Ft w (w.alloc (.cells #[int .u8 e.kind,int .u8 e.val.kind,int i64 e.val.num,.string e.val.text,int i64 e.var,int .u8 e.op,.slice p n c] 50))):=(EB _ w).alloc (EA _) _;have d:Hid (e.kids.isEmpty=decide (n=0)):=by
  show _=_
  rw[←b]
  cases e.kids<;>rfl
 have f:Hid (bm true false false e=((true||(e.val.kind==0&&e.val.num==0&&decide (e.val.text.toList=[])))&&(false||e.var==0)&&(false||(e.op==0&&decide (n=0))))):=by
  show _=_
  unfold bm zeroV;rw[d.o,show decide (e.val.text.toList=[])=e.val.text.data.toList.isEmpty by rw[Fc,ot];exact fj _]
 rw[f.o];obtain⟨h,g,er,i,es⟩:=e;obtain⟨j,k,l⟩:=g;simp only[ag.kind,ag.val,ag.var,ag.op]at a ⊢;clear b d f
 go_enter Tryz.func59,Tryz.ntmps59
 go_wp2
 all_goals first
  | (go_ret;exact⟨by simp_all [Cg],by simp_all;exact a.o⟩)
  | (go_ret;exact⟨by simp_all [],by first|exact a.o|(have:=a.o;simp_all)⟩)
theorem Bf(e:ag)(p:Option Addr)(n c:Nat)(w:World)(b:e.kids.length=n) :
  Calls Tryz.prog 59 #[.agg #[int .u8 e.kind,int .u8 e.val.kind,int i64 e.val.num,.string e.val.text,int i64 e.var,int .u8 e.op,.slice p n c],.bool false,.bool true,.bool false] w (ap (bm false true false e) w):=by
 have a:Hid (Ft w (w.alloc (.cells #[int .u8 e.kind,int .u8 e.val.kind,int i64 e.val.num,.string e.val.text,int i64 e.var,int .u8 e.op,.slice p n c] 50))):=(EB _ w).alloc (EA _) _;have d:Hid (e.kids.isEmpty=decide (n=0)):=by
  show _=_
  rw[←b]
  cases e.kids<;>rfl
 have f:Hid (bm false true false e=((false||(e.val.kind==0&&e.val.num==0&&decide (e.val.text.toList=[])))&&(true||e.var==0)&&(false||(e.op==0&&decide (n=0))))):=by
  show _=_
  unfold bm zeroV;rw[d.o,show decide (e.val.text.toList=[])=e.val.text.data.toList.isEmpty by rw[Fc,ot];exact fj _]
 rw[f.o];obtain⟨h,g,er,i,es⟩:=e;obtain⟨j,k,l⟩:=g;simp only[ag.kind,ag.val,ag.var,ag.op]at a ⊢;clear b d f
 go_enter Tryz.func59,Tryz.ntmps59
 go_wp2
 all_goals first
  | (go_ret;exact⟨by simp_all [Cg],by simp_all;exact a.o⟩)
  | (go_ret;exact⟨by simp_all [],by first|exact a.o|(have:=a.o;simp_all)⟩)
theorem mE(e:ag)(p:Option Addr)(n c:Nat)(w:World)(b:e.kids.length=n) :
  Calls Tryz.prog 59 #[.agg #[int .u8 e.kind,int .u8 e.val.kind,int i64 e.val.num,.string e.val.text,int i64 e.var,int .u8 e.op,.slice p n c],.bool false,.bool false,.bool true] w (ap (bm false false true e) w):=by
 have a:Hid (Ft w (w.alloc (.cells #[int .u8 e.kind,int .u8 e.val.kind,int i64 e.val.num,.string e.val.text,int i64 e.var,int .u8 e.op,.slice p n c] 50))):=(EB _ w).alloc (EA _) _;have d:Hid (e.kids.isEmpty=decide (n=0)):=by
  show _=_
  rw[←b]
  cases e.kids<;>rfl
 have f:Hid (bm false false true e=((false||(e.val.kind==0&&e.val.num==0&&decide (e.val.text.toList=[])))&&(false||e.var==0)&&(true||(e.op==0&&decide (n=0))))):=by
  show _=_
  unfold bm zeroV;rw[d.o,show decide (e.val.text.toList=[])=e.val.text.data.toList.isEmpty by rw[Fc,ot];exact fj _]
 rw[f.o];obtain⟨h,g,er,i,es⟩:=e;obtain⟨j,k,l⟩:=g;simp only[ag.kind,ag.val,ag.var,ag.op]at a ⊢;clear b d f
 go_enter Tryz.func59,Tryz.ntmps59
 go_wp2
 all_goals first
  | (go_ret;exact⟨by simp_all [],by simp_all;exact a.o⟩)
  | (go_ret;exact⟨by simp_all [],by first|exact a.o|(have:=a.o;simp_all)⟩)
theorem rf(e:ag)(p:Option Addr)(n c:Nat)(w:World)(b:e.kids.length=n) :
  Calls Tryz.prog 59 #[.agg #[int .u8 e.kind,int .u8 e.val.kind,int i64 e.val.num,.string e.val.text,int i64 e.var,int .u8 e.op,.slice p n c],.bool false,.bool false,.bool false] w (ap (bm false false false e) w):=by
 have a:Hid (Ft w (w.alloc (.cells #[int .u8 e.kind,int .u8 e.val.kind,int i64 e.val.num,.string e.val.text,int i64 e.var,int .u8 e.op,.slice p n c] 50))):=(EB _ w).alloc (EA _) _;have d:Hid (e.kids.isEmpty=decide (n=0)):=by
  show _=_
  rw[←b]
  cases e.kids<;>rfl
 have f:Hid (bm false false false e=((false||(e.val.kind==0&&e.val.num==0&&decide (e.val.text.toList=[])))&&(false||e.var==0)&&(false||(e.op==0&&decide (n=0))))):=by
  show _=_
  unfold bm zeroV;rw[d.o,show decide (e.val.text.toList=[])=e.val.text.data.toList.isEmpty by rw[Fc,ot];exact fj _]
 rw[f.o];obtain⟨h,g,er,i,es⟩:=e;obtain⟨j,k,l⟩:=g;simp only[ag.kind,ag.val,ag.var,ag.op]at a ⊢;clear b d f
 go_enter Tryz.func59,Tryz.ntmps59
 go_wp2
 all_goals first
  | (go_ret;exact⟨by simp_all [Cg],by simp_all;exact a.o⟩)
  | (go_ret;exact⟨by simp_all [],by first|exact a.o|(have:=a.o;simp_all)⟩)
theorem DU(p:UInt8→Bool)(l:List UInt8):l.dropWhile p=[]↔∀x∈l,p x=true:=by
 induction l with
 | nil=>simp
 | cons a l b =>
  rw[List.dropWhile_cons]
  by_cases h:p a=true
  ·rw[n9 h,b];simp[h]
  ·rw[n8 h];simp[h]
theorem AU(l cs:List UInt8):Lib.trimS l cs=[]↔∀x∈l,cs.contains x=true:=by
 unfold Lib.trimS Lib.trimLeftS Lib.trimRightS;have b:∀(m:List UInt8),(∀x∈(m.dropWhile (cs.contains ·)).reverse,cs.contains x=true)↔∀x∈m,cs.contains x=true:=by
  intro m
  induction m with
  | nil=>simp
  | cons a m c =>
   rw[List.dropWhile_cons]
   by_cases h:cs.contains a=true
   ·rw[n9 h,c];simp only[Fh,forall_eq_or_imp,h,true_and]
   ·rw[n8 h];simp only[List.mem_reverse]
 rw[DU,b];simp only[List.mem_reverse]
theorem DY(c:UInt8):cO.data.toList.contains c=isLow c:=kQ c
theorem Dl(c:UInt8):fa.data.toList.contains c=(isLow c||bU c||c==95):=tU c
theorem tz(k:Nat)(l:List UInt8)(a:k≠0):di k l=l.all (fun c=>isLow c||bU c||c==95):=by
 induction l generalizing k with
 | nil=>rfl
 | cons c r b =>
  unfold di;rw[List.all_cons,b (k+1) (by omega)];unfold nameAt;rw[decide_eq_true a,Bool.true_and,Bool.or_assoc]
theorem zl(l:List UInt8):bv l=(!l.isEmpty&&decide (l.length≤24)&&(match l with | []=>false|c::_=>cO.data.toList.contains c)&&(Lib.trimS l fa.data.toList).isEmpty):=by
 have a:(Lib.trimS l fa.data.toList).isEmpty=l.all (fun c=>isLow c||bU c||c==95):=by
  rw[Fc,List.isEmpty_iff,AU,Fe];simp only[Dl]
 rw[a];unfold bv
 cases l with
 | nil=>rfl
 | cons c r =>
  unfold di;rw[tz 1 r (by omega),List.all_cons];simp only[DY];unfold nameAt;simp only[Fb,List.isEmpty_cons]
  cases isLow c<;>cases (r.all (fun c=>isLow c||bU c||c==95))<;>simp
theorem Ej(l:List UInt8):((⟨l.toArray⟩:ByteArray).toList.isEmpty)=l.isEmpty:=by rw[EN]
theorem zd(s:ByteArray)(a:s.size≤maxLen)(W:World):Calls Tryz.prog 89 #[.string s,.string fa] W fun e w'=>∃t:ByteArray,e=.returned (.string t)∧t.toList.isEmpty=(Lib.trimS s.data.toList fa.data.toList).isEmpty∧Ft W w':=
 (Any.strings_Trim_laid Tryz.lays160 (by kernel_rfl) s fa W (EG a (by decide)) (by decide) (ascii_of_all (by decide))).mono fun e w' ⟨b,c⟩=>⟨_,b,Ej _,c⟩
theorem xp(s:ByteArray)(w:World)(f:s.size≤maxLen):Calls Tryz.prog 57 #[.string s] w (ap (bv s.data.toList) w):=by
 rcases Nat.eq_zero_or_pos s.size with a|a
 ·have e:s.data.toList=[]:=EX (by rw[EY];exact a);have he:s.toList.isEmpty=true:=by rw[EN,e];rfl
  have v:=Hd (show bv s.data.toList=false by rw[e];rfl);clear e a f
  go_enter Tryz.func57,Tryz.ntmps57
  go_wp2
  go_ret;rw[v.o];exact⟨rfl,EB _ _⟩
 ·have he:s.toList.isEmpty=false:=hH s a;have h:s.data.toList=s[0]::s.data.toList.drop 1:=by
   have:=drop_cons s 0 a
   simpa using this
  have j:bv s.data.toList=(decide (s.size≤24)&&hasB cO s[0]&&(Lib.trimS s.data.toList fa.data.toList).isEmpty):=by
   have d:s.data.toList.length=s.size:=EY;rw[zl,d];generalize Lib.trimS s.data.toList fa.data.toList=u;rw[h];rfl
  have c:=Hd j;have k:=Hd ((gl cO s[0] w).mono (R':=fun e w'=>(∃i:Int,e=.returned (int i64 i)∧decide (0≤i)=hasB cO s[0])∧w=w') (fun e w' l=>⟨⟨_,l.1,jC _ _⟩,l.2⟩));have m:=Hd (zd s f w);clear j h f;generalize z:bv s.data.toList=x at c ⊢;clear z;generalize hu:(Lib.trimS s.data.toList fa.data.toList).isEmpty=u at c m;clear hu;generalize b:hasB cO s[0]=y at c k;clear b
  go_enter Tryz.func57,Tryz.ntmps57
  by_cases d:s.size≤24
  ·go_wp2_with (first
    | (go_at_call 88;refine EJ k.o ?_;rintro e w' ⟨⟨i,rfl,n⟩,rfl⟩;have p:=Hd n;clear n)
    | (go_at_call 89;refine EJ m.o ?_;rintro e w' ⟨t,rfl,q,r⟩;have g:=Hd q;have A:=Hd r;clear q r))
   all_goals go_ret
   all_goals rw[c.o]
   ·have a:0≤i:=by assumption
    have b:=p.o;rw[decide_eq_true a]at b;rw[←b,←g.o];exact⟨by simp[d],A.o⟩
   ·have a:i<0:=by assumption
    have b:=p.o;rw[oc (by omega)]at b;rw[←b];exact⟨by simp,EB _ _⟩
  ·go_wp2
   go_ret;rw[c.o];exact⟨by simp[d],EB _ _⟩
theorem wv(l:List UInt8):l.isEmpty=decide (l=[]):=by cases l<;>rfl
theorem lk(v:gY)(w:World)(k:v.text.size≤maxLen):Calls Tryz.prog 28 #[.agg #[int .u8 v.kind,int i64 v.num,.string v.text]] w (ap (cJ v) w):=by
 have d:Ft w (w.alloc (.cells #[int .u8 v.kind,int i64 v.num,.string v.text] 46)):=(EB _ w).alloc (EA _) _;have a:=Hd d;have c:=Hd (xp v.text (w.alloc (.cells #[int .u8 v.kind,int i64 v.num,.string v.text] 46)) k);clear d
 by_cases h:v.kind=1
 ·have b:Hid (cJ v=decide (v.text.toList=[])):=by
   show _=_
   unfold cJ;rw[h,show decide (v.text.toList=[])=v.text.data.toList.isEmpty by rw[Fc,ot];exact fj _];rfl
  rw[b.o];rw[h]at a ⊢;clear b c
  go_enter Tryz.func28,Tryz.ntmps28
  go_wp2
  all_goals (go_ret;exact⟨by simp_all [wv],by first|exact a.o|(have:=a.o;simp_all)⟩)
 by_cases f:v.kind=2
 ·by_cases i:v.num=0
  ·have b:Hid (cJ v=bv v.text.data.toList):=by
    show _=_
    unfold cJ;rw[f,i];rfl
   rw[b.o];rw[f,i]at a c ⊢;clear b
   go_enter Tryz.func28,Tryz.ntmps28
   go_wp2_with fail
   refine c.o.mono ?_;rintro e W2 ⟨rfl,g⟩;have j:=Hd (a.o.trans (g.mono a.o.size));clear g c;go_wp2_with fail
   go_ret;exact⟨rfl,j.o⟩
  ·have b:Hid (cJ v=false):=by
    show _=_
    unfold cJ;rw[f,show (v.num==0)=false by simpa using i];rfl
   rw[b.o];rw[f]at a ⊢;clear b c
   go_enter Tryz.func28,Tryz.ntmps28
   go_wp2
   all_goals (go_ret;exact⟨by simp_all,by first|exact a.o|(have:=a.o;simp_all)⟩)
 ·have b:Hid (cJ v=false):=by
   show _=_
   unfold cJ;rw[show (v.kind==1)=false by simpa using h,show (v.kind==2)=false by simpa using f];rfl
  rw[b.o];clear b c
  go_enter Tryz.func28,Tryz.ntmps28
  go_wp2
  all_goals (go_ret;exact⟨by simp_all,by first|exact a.o|(have:=a.o;simp_all)⟩)
theorem nY(s:ByteArray)(w:World)(d:s.size≤maxLen):Calls Tryz.prog 14 #[.string s] w (ap (bv s.data.toList) w):=by
 have c:Hid (Calls Tryz.prog 28 #[.agg #[int .u8 2,int i64 0,.string s]] w (ap (bv s.data.toList) w)):=by
  have h:=lk ⟨2,0,s⟩ w d;exact h
 go_enter Tryz.func14,Tryz.ntmps14
 go_wp2_with fail
 refine c.o.mono ?_;rintro e W2 ⟨rfl,a⟩;have b:=Hd a;clear a c;go_wp2_with fail
 go_ret;exact⟨rfl,b.o⟩
def iO{α:Type} (q:α→Bool):List α→Nat→Option Nat
 | [],_=>none
 | K::l,k=>if q K then some k else iO q l (k+1)
theorem pg{α:Type}(q:α→Bool):∀(l:List α) (m k:Nat) (K:α),l[k]?=some K→q K=true→(∀(j:Nat) (z:α),j<k→l[j]?=some z→q z=false)→iO q l m=some (m+k)
 | [],m,k,K,h,_,_=>by simp at h
 | z::l,m,0,K,h,he,_=>by
  simp only[List.getElem?_cons_zero,ox]at h;subst h;unfold iO;rw[n9 he];rfl
 | z::l,m,k+1,K,h,he,a=>by
  rw[Fj]at h;have b:=a 0 z (by omega) rfl;unfold iO;rw[b];simp only[EW,oi];rw[pg q l (m+1) k K h he (fun j c e d=>a (j+1) c (by omega) (by rw[Fj];exact d))]
  congr 1;omega
theorem mK{α:Type}(q:α→Bool):∀(l:List α) (m:Nat),(∀(j:Nat) (z:α),l[j]?=some z→q z=false)→iO q l m=none
 | [],m,_=>rfl
 | z::l,m,a=>by
  unfold iO;rw[a 0 z rfl];simp only[EW,oi];exact mK q l (m+1) (fun j b c=>a (j+1) b (by rw[Fj];exact c))
theorem oy{α:Type}(f:α→Bool):∀(l:List α) (m:Nat),(iO (fun x=>!f x) l m).isSome = !(l.all f)
 | [],m=>rfl
 | z::l,m=>by
  unfold iO;rw[List.all_cons]
  cases h:f z with
  | true=>simp only[Bool.not_true,EW,oi,Bool.true_and];exact oy f l (m+1)
  | false=>simp
def zG{α:Type} (w:World) (n:Nat) (l:List α) (q:α→Bool) (i:Value) (W:World):Prop:=∃k:Nat,k≤n∧i=int i64 (k:Int)∧Ft w W∧(∀(j:Nat) (z:α),j<k→l[j]?=some z→q z=false)
def gu(S:Nat) (nv:Int) (w:World):Prop:=w.cell? ⟨S,2,none⟩=some (int i64 nv)
theorem gu.below{S:Nat}{nv:Int}{w w':World}(h:gu S nv w)(a:Ft w w'):gu S nv w':=(a.cell (p:=⟨S,2,none⟩) (dG h)).trans h
def jZ(S:Nat) (nv:Int) (d:Nat) (f:ag→Bool):Prop:=∀(e:ag) (s:Value) (w:World),gu S nv w→ep e→cu w (fun b=>b<w.heap.size) d e.kids s→
 Calls Tryz.prog 61 #[.pointer (some ⟨S,0,none⟩),.agg #[int .u8 e.kind,int .u8 e.val.kind,int i64 e.val.num,.string e.val.text,int i64 e.var,int .u8 e.op,s]] w (ap (f e) w)
theorem yf(S:Nat)(nv:Int)(d:Nat)(f:ag→Bool)(l:jZ S nv d f)(e:ag)(s:Value)(T:Nat)(w:World)(m:gu S nv w)(n:w.cell? ⟨T,0,none⟩=some (.pointer (some ⟨S,0,none⟩)))(g:ep e)(j:cu w (fun b=>b<w.heap.size) d e.kids s) :
  Calls Tryz.prog 91 #[.agg #[int .u8 e.kind,int .u8 e.val.kind,int i64 e.val.num,.string e.val.text,int i64 e.var,int .u8 e.op,s],.pointer (some ⟨T,0,none⟩)] w (ap (!f e) w):=by
 obtain⟨p,c,q⟩:=aI j;have h:Ft w (w.alloc (.cells #[int .u8 e.kind,int .u8 e.val.kind,int i64 e.val.num,.string e.val.text,int i64 e.var,int .u8 e.op,s] 50)):=(EB _ w).alloc (EA _) _;have v:=(h.cell (p:=⟨T,0,none⟩) (dG n)).trans n;have r:=Hd (l e s _ (m.below h) g (eh (fun b (a:b<w.heap.size)=>EF a h.size) (ea (fun b a o x=>(h.block b a).trans x) j)));have t:=Hd h;obtain⟨u,i⟩:=zzy (e.kids.length);rw[i]at q;subst q;clear h j m l g i
 go_enter Tryz.func91,Tryz.ntmps91
 go_wp2_with fail
 refine r.o.mono ?_;rintro y W2 ⟨rfl,a⟩;have k:=Hd (t.o.trans (a.mono t.o.size));clear a r;go_wp2_with fail
 go_ret;exact⟨rfl,k.o⟩
theorem Cd(S:Nat)(nv:Int)(d:Nat)(f:ag→Bool)(hf:jZ S nv d f)(l:List ag)(v:Value)(T:Nat)(w:World)(hv:gu S nv w)(N:w.cell? ⟨T,0,none⟩=some (.pointer (some ⟨S,0,none⟩)))(L:(ay d).row w (fun b=>b<w.heap.size) l v) :
  Calls Tryz.prog 127 #[v,.func (.func 91) #[] #[.pointer (some ⟨T,0,none⟩)]] w (fun e w'=>e=.returned (int i64 (dR (iO (fun x=>!f x) l 0)))∧Ft w w'):=by
 obtain⟨p,c,O⟩:=Rd.row_shape L;have u:=Rd.row_len L;subst O;obtain⟨n,P⟩:=zzy (l.length);have HV:=Hd (fun W (C:Ft w W)=>Rd.row_below L (fun _ h=>h) C);have Q:=Hd (fun W (C:Ft w W)=>(C.cell (p:=⟨T,0,none⟩) (dG N)).trans N);have R:=Hd (fun W (C:Ft w W)=>hv.below C);obtain⟨q,g⟩:∃q:ag→Bool,q=fun x=>!f x:=⟨_,rfl⟩
 have U:Hid (∀x,q x = !f x):=fun x=>by rw[g]
 rw[←g];rw[P]at HV u ⊢;have V:=Hd P;have af:(n:Int)≤9223372036854775807:=by unfold maxLen at u;omega
 clear L P N hv g u
 go_enter Tryz.func127,Tryz.ntmps127
 go_wp2
 go_loopw [8] (zG w n l q) (fun i _=>n-(intOf i).toNat)
 case atStart=>exact⟨0,EM _,rfl,EB _ _,fun j z hj=>by omega⟩
 case round =>
  obtain⟨k,hk,rfl,y,D⟩:=hrel;have ak:(0:Int)≤k:=by omega
  have X:=Hd y;have A:=Hd D;clear D
  by_cases Y:k<n
  ·have an:(k:Int)<n:=by omega
   obtain⟨e,he⟩:∃e,l[k]?=some e:=⟨_,EE (by rw[V.o];exact Y)⟩;have m:=HV.o wr y;have E:=Rd.row_at m he;rw[V.o]at E;obtain⟨b,off,cap,vs,Z,_,_,_,_,F,a⟩:=E;rw[cB]at a;injection Z with e1 _ e3
   subst e1;subst e3;obtain⟨r,s,rfl,B⟩:=bZ.1 F;have ad:=aI B;obtain⟨ps,G,hs⟩:=ad;obtain⟨M,H⟩:=zzy (e.kids.length);rw[H]at hs;subst hs;have c0:wr.cell? ⟨b,off+k*7,none⟩=some (int .u8 e.kind):=a 0 _ rfl;have c1:wr.cell? ⟨b,off+k*7+1,none⟩=some (int .u8 e.val.kind):=a 1 _ rfl;have c2:wr.cell? ⟨b,off+k*7+2,none⟩=some (int i64 e.val.num):=a 2 _ rfl;have c3:wr.cell? ⟨b,off+k*7+3,none⟩=some (.string e.val.text):=a 3 _ rfl;have c4:wr.cell? ⟨b,off+k*7+4,none⟩=some (int i64 e.var):=a 4 _ rfl;have c5:wr.cell? ⟨b,off+k*7+5,none⟩=some (int .u8 e.op):=a 5 _ rfl;have c6:wr.cell? ⟨b,off+k*7+6,none⟩=some (.slice ps M G):=a 6 _ rfl;have HK:=Hd (yf S nv d f hf e (.slice ps M G) T wr (R.o wr y) (Q.o wr y) r (eh (fun b (h:b<w.heap.size)=>EF h y.size) B));have I:Hid (l[k]?=some e):=he;rw[←U.o e]at HK;clear m F a he y r B H;go_wp2_with fail
   refine HK.o.mono ?_;rintro e2 w1 ⟨rfl,J⟩;have K:=Hd (X.o.trans (J.mono X.o.size));clear J c0 c1 c2 c3 c4 c5 c6
   cases g:q e with
   | true =>
    have HH:=Hd (pg q l 0 k e I.o g A.o);clear g;go_wp2_with fail
    go_ret;exact⟨by rw[HH.o,Nat.zero_add];rfl,K.o⟩
   | false =>
    have HQ:=Hd g;clear g;go_wp2_with fail
    exact⟨⟨k+1,by omega,by go_num,K.o,fun j z hj t=>by
     by_cases h:j=k
     ·subst h;rw[I.o]at t;injection t with t
      rw[←t];exact HQ.o
     ·exact A.o j z (by omega) t⟩,by simp[intOf];omega⟩
  ·have HH:Hid (iO q l 0=none):=mK _ l 0 (fun j z t=>A.o j z (by
    have:=(EP.1 t).1;rw[V.o]at this
    omega) t)
   clear y;go_wp2_with fail
   go_ret;exact⟨by rw[HH.o];rfl,X.o⟩
theorem Aq(S:Nat)(nv:Int)(d:Nat)(f:ag→Bool)(q:jZ S nv d f)(l:List ag)(v:Value)(T:Nat)(w:World)(r:gu S nv w)(s:w.cell? ⟨T,0,none⟩=some (.pointer (some ⟨S,0,none⟩)))(j:(ay d).row w (fun b=>b<w.heap.size) l v) :
  Calls Tryz.prog 90 #[v,.func (.func 91) #[] #[.pointer (some ⟨T,0,none⟩)]] w (ap (!(l.all f)) w):=by
 have g:=Hd (Cd S nv d f q l v T w r s j);rw[←oy f l 0];obtain⟨p,c,h⟩:=Rd.row_shape j;obtain⟨n,t⟩:=zzy (l.length);rw[t]at h;subst h;clear j s r q t
 cases i:iO (fun x=>!f x) l 0 with
 | none =>
  rw[i]at g;have g:Hid (Calls Tryz.prog 127 #[.slice p n c,.func (.func 91) #[] #[.pointer (some ⟨T,0,none⟩)]] w (fun e w'=>e=.returned (int i64 (-1))∧Ft w w')):=g;clear i
  go_enter Tryz.func90,Tryz.ntmps90
  go_wp2_with fail
  refine g.o.mono ?_;rintro e w1 ⟨rfl,a⟩;have m:=Hd a;clear a g;go_wp2_with fail
  go_ret;exact⟨rfl,m.o⟩
 | some k =>
  rw[i]at g;have g:Hid (Calls Tryz.prog 127 #[.slice p n c,.func (.func 91) #[] #[.pointer (some ⟨T,0,none⟩)]] w (fun e w'=>e=.returned (int i64 (k:Int))∧Ft w w')):=g;have u:(0:Int)≤k:=by omega
  clear i
  go_enter Tryz.func90,Tryz.ntmps90
  go_wp2_with fail
  refine g.o.mono ?_;rintro e w1 ⟨rfl,a⟩;have m:=Hd a;clear a g;go_wp2_with fail
  go_ret;exact⟨rfl,m.o⟩
theorem kN(S:Nat)(nv:Int)(d:Nat)(f:ag→Bool)(m:jZ S nv d f)(l:List ag)(v:Value)(w:World)(q:gu S nv w)(j:(ay d).row w (fun b=>b<w.heap.size) l v) :
  Calls Tryz.prog 63 #[.pointer (some ⟨S,0,none⟩),v] w (ap (l.all f) w):=by
 have u:∀(fn:Fn) (first cap:Array Value) (w:World),(Instr.makeFunc fn first cap).run Tryz.prog w=.ok (.func fn first cap) w:=fun _ _ _ _=>rfl
 have a:Ft w (w.alloc (.cells #[.pointer (some ⟨S,0,none⟩)] 62)):=(EB _ w).alloc (EA _) _;have r:=Hd (Aq S nv d f m l v w.heap.size _ (q.below a) (cell_new1 w _ _) (Rd.row_sub (fun b (h:b<w.heap.size)=>EF h a.size) (Rd.row_below j (fun _ h=>h) a)));have s:=Hd a;obtain⟨p,c,g⟩:=Rd.row_shape j;obtain⟨n,t⟩:=zzy (l.length);rw[t]at g;subst g;clear a j q m t
 go_enter Tryz.func63,Tryz.ntmps63
 go_wp2_with fail
 refine r.o.mono ?_;rintro e w1 ⟨rfl,i⟩;have k:=Hd (s.o.trans (i.mono s.o.size));clear i r;go_wp2_with fail
 go_ret;exact⟨by simp,k.o⟩
