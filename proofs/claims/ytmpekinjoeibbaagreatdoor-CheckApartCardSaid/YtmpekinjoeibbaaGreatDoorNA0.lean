/- Parts of one proof, joined; conditions stand in each theorem. -/
import Derived.Test.YtmpekinjoeibbaaGreatDoorMD
open Except renaming ok→vb,error→wD
open Option renaming some→A,none→V
open Bool renaming false→r7
open Decidable renaming decide→r8
namespace Go.Proofs.YtmpekinjoeibbaaGreatDoor
open Go.RowKit
structure i4 where
 b:Int
 q:Int
 h:ByteArray
def i4.zero:i4:=⟨0,0,⟨#[]⟩⟩
inductive aw where
 | mk (kind:Int) (val:i4) (var:Int) (op:Int) (kids:List aw)
def aw.b:aw→Int | .mk k _ _ _ _=>k
def aw.h:aw→i4 | .mk _ v _ _ _=>v
def aw.q:aw→Int | .mk _ _ v _ _=>v
def aw.op:aw→Int | .mk _ _ _ o _=>o
def aw.u:aw→List aw | .mk _ _ _ _ l=>l
def aw.zero:aw:=.mk 0 .zero 0 0 []
structure dF where
 b:Int
 q:Int
 h:i4
structure aK where
 b:Int
 h:Int
 c:List dF
 a:aw
structure bm where
 b:Int
 h:Int
 a:Int
 y:List aw
structure ap where
 a:ByteArray
 b:Int
structure au where
 a:ByteArray
 c:Int
 b:Int
 d:List aK
 e:List bm
structure bO where
 a:List ap
 b:List au
abbrev Flt:=Int×Int
def bs{σ α:Type} (f:σ→α→Except Flt σ):σ→List α→Except Flt σ
 | s,[]=>vb s
 | s,x::l=>match f s x with
  | .error e=>wD e
  | .ok a=>bs f a l
theorem jt{σ α:Type}(f:σ→α→Except Flt σ):∀(l k:List α) (s:σ),bs f s (l++k)=match bs f s l with | .error e=>wD e | .ok a=>bs f a k
 | [],_,_=>rfl
 | x::l,k,s=>by
  show (match f s x with | .error e=>_ | .ok a=>bs f a (l++k))=match (match f s x with | .error e=>_ | .ok a=>bs f a l) with | .error e=>_ | .ok a=>_
  cases f s x with
  | error e=>rfl
  | ok a=>exact jt f l k a
theorem it{σ α:Type}{f:σ→α→Except Flt σ}{l:List α}{k:Nat}{s a:σ}{x:α}(b:l[k]?=A x)(h:bs f s (l.take k)=vb a):bs f s (l.take (k+1))=f a x:=by
 rw[FI,b,jt,h]
 show (match f a x with | .error e=>_ | .ok a=>_)=_
 cases f a x<;>rfl
theorem jm{σ α:Type}{f:σ→α→Except Flt σ}{l:List α}{k:Nat}{s:σ}{e:Flt}(h:bs f s (l.take k)=wD e):bs f s l=wD e:=by rw[←List.take_append_drop k l,jt,h]
def gl(x:ByteArray):List ByteArray→Nat→Option Nat
 | [],_=>V
 | y::l,k=>if y.data.toList==x.data.toList then A k else gl x l (k+1)
def idxOf(x:ByteArray) (l:List ByteArray):Option Nat:=gl x l 0
def lX(t:ByteArray):Int:=
 let n:Int:=(number (strip t.data.toList)).getD 0
 if fh t.data.toList then -n else n
def bu(T:ah):i4:=if T.b==15 then ⟨2,0,T.h⟩ else ⟨1,lX T.h,⟨#[]⟩⟩
def opM(t:List UInt8) (kids:Nat):Int×Bool:=
 if kids==2 then
  if t==[62] then (7,true) else if t==[62,61] then (8,true) else if t==[43] then (1,r7) else if t==[45] then (2,r7) else if t==[42] then (3,r7)
  else if t==[61] then (5,r7) else if t==[33,61] then (6,r7) else if t==[60] then (7,r7) else if t==[60,61] then (8,r7) else if t==[97,110,100] then (9,r7) else if t==[111,114] then (10,r7) else (0,r7)
 else if t==[45] then (4,r7) else (11,r7)
def dx{α β:Type} (f:α→Except Flt β) (l:List α):Except Flt (List β):=bs (fun ys x=>match f x with | .error e=>wD e | .ok y=>vb (ys++[y])) [] l
def bo(vars:List ByteArray) (d:Nat):ah→Except Flt aw:=match d with
 | 0=>fun T =>
  if T.b==14||T.b==15 then vb (.mk 1 (bu T) 0 0 [])
  else if T.b==13 then match idxOf T.h vars with
   | some k=>vb (.mk 2 .zero k 0 [])
   | none=>wD (213,T.t)
  else vb (.mk 3 .zero 0 (opM T.h.data.toList T.u.length).1 [])
 | d+1=>fun T =>
  if T.b==14||T.b==15 then vb (.mk 1 (bu T) 0 0 [])
  else if T.b==13 then match idxOf T.h vars with
   | some k=>vb (.mk 2 .zero k 0 [])
   | none=>wD (213,T.t)
  else match dx (bo vars d) T.u with
   | .error e=>wD e
   | .ok a=>vb (.mk 3 .zero 0 (opM T.h.data.toList T.u.length).1 (if (opM T.h.data.toList T.u.length).2 then a.reverse else a))
def dD(binds:Bool) (s:List ByteArray×List dF) (T:ah):Except Flt (List ByteArray×List dF):=
 if T.b==12 then vb (s.1,s.2++[⟨1,0,.zero⟩])
 else if T.b==13 then match idxOf T.h s.1 with
  | some k=>vb (s.1,s.2++[⟨3,k,.zero⟩])
  | none=>if !binds then wD (213,T.t) else if 16≤s.1.length then wD (204,T.t) else vb (s.1++[T.h],s.2++[⟨2,s.1.length,.zero⟩])
 else vb (s.1,s.2++[⟨4,0,bu T⟩])
def dC(x:ByteArray) (l:List ap):Option Nat:=idxOf x (l.map ap.a)
def dI(types:List ap) (T:ah):Except Flt Nat:=match dC T.h types with
 | none=>wD (211,T.t)
 | some k=>if ((types[k]?).map ap.b).getD 0==(T.u.length:Int) then vb k else wD (212,T.t)
structure RSt where
 b:List ByteArray
 d:List aK
 e:List bm
def eb(l:List aK):Nat:=(l.filter (fun c=>c.b==1)).length
def dy(d:Nat) (types:List ap) (s:RSt) (T:ah):Except Flt RSt:=
 if T.b==5||T.b==6 then match dI types T with
  | .error e=>wD e
  | .ok k=>match bs (dD (T.b==5)) (s.b,[]) T.u with
   | .error e=>wD e
   | .ok r=>vb ⟨r.1,s.d++[⟨if T.b==6 then 2 else 1,k,r.2,.zero⟩],s.e⟩
 else if T.b==7 then match T.u with
  | []=>vb s
  | t::_=>match bo s.b d t with
   | .error e=>wD e
   | .ok x=>vb ⟨s.b,s.d++[⟨3,0,[],x⟩],s.e⟩
 else if T.b==8 then match dI types T with
  | .error e=>wD e
  | .ok k=>match dx (bo s.b d) T.u with
   | .error e=>wD e
   | .ok xs=>vb ⟨s.b,s.d,s.e++[⟨1,k,0,xs⟩]⟩
 else if T.b==9 then
  if T.q<1||(eb s.d:Int)<T.q then wD (214,T.t) else vb ⟨s.b,s.d,s.e++[⟨2,0,T.q-1,[]⟩]⟩
 else if T.b==10 then match dx (bo s.b d) T.u with
  | .error e=>wD e
  | .ok xs=>vb ⟨s.b,s.d,s.e++[⟨3,0,0,xs⟩]⟩
 else vb ⟨s.b,s.d,s.e++[⟨4,0,0,[]⟩]⟩
def f7(l:List ah):Nat:=(l.takeWhile de).length
def i3(d:Nat) (types:List ap) (rs:List au) (T:ah):Except Flt (List au):=
 if T.b==4 then
  if (idxOf T.h (rs.map au.a)).isSome then wD (210,T.t)
  else if T.q < -1000||1000<T.q then wD (2,T.t)
  else if 64≤rs.length||8<f7 T.u||8<T.u.length-f7 T.u then wD (204,T.t)
  else match bs (dy d types) ⟨[],[],[]⟩ T.u with
   | .error e=>wD e
   | .ok s=>vb (rs++[⟨T.h,T.q,s.b.length,s.d,s.e⟩])
 else vb rs
def fieldStep(seen:List ByteArray) (T:ah):Except Flt (List ByteArray):=if (idxOf T.h seen).isSome then wD (210,T.t) else vb (seen++[T.h])
def i5(ts:List ap) (T:ah):Except Flt (List ap):=
 if T.b==2 then
  if (dC T.h ts).isSome then wD (210,T.t)
  else if 32≤ts.length||6<T.u.length then wD (204,T.t)
  else match bs fieldStep [] T.u with
   | .error e=>wD e
   | .ok _=>vb (ts++[⟨T.h,T.u.length⟩])
 else vb ts
def mi(d:Nat) (T:ah):Except Flt bO:=match bs i5 [] T.u with
 | .error e=>wD e
 | .ok ts=>match bs (i3 d ts) [] T.u with
  | .error e=>wD e
  | .ok rs=>vb ⟨ts,rs⟩
def zeroV(v:i4):Bool:=v.b==0&&v.q==0&&v.h.data.toList.isEmpty
def gu(v:i4):Bool:=if v.b==1 then v.h.data.toList.isEmpty else if v.b==2 then v.q==0&&cB v.h.data.toList else r7
def cm(vars:Int) (e:aw):Bool:=
 if e.b==1 then e.q==0&&e.op==0&&e.u.isEmpty&&gu e.h
 else if e.b==2 then zeroV e.h&&e.op==0&&e.u.isEmpty&&r8 (0≤e.q)&&r8 (e.q<vars)
 else if e.b==3 then zeroV e.h&&e.q==0&&r8 (1≤e.op)&&r8 (e.op≤11)&&e.u.length==(if e.op==4||e.op==11 then 1 else 2)
 else r7
def dL(vars:Int):Nat→aw→Bool
 | 0,e=>cm vars e
 | d+1,e=>cm vars e&&e.u.all (dL vars d)
def bT(binds:Bool) (vars:Int) (a:dF):Option Int:=
 if a.b==1 then if a.q==0&&zeroV a.h then A vars else V
 else if a.b==2 then if binds&&a.q==vars&&zeroV a.h then A (vars+1) else V
 else if a.b==3 then if r8 (0≤a.q)&&r8 (a.q<vars)&&zeroV a.h then A vars else V
 else if a.b==4&&a.q==0&&gu a.h then A vars else V
def db(binds:Bool):Int→List dF→Option Int
 | v,[]=>A v
 | v,a::l=>match bT binds v a with
  | none=>V
  | some b=>db binds b l
def bz(types:List ap) (k n:Int):Bool:=r8 (0≤k)&&r8 (k<types.length)&&(((types[k.toNat]?).map ap.b).getD 0==n)
def zeroE(e:aw):Bool:=e.b==0&&zeroV e.h&&e.q==0&&e.op==0&&e.u.isEmpty
def ci(d:Nat) (types:List ap) (s:Int×Int) (c:aK):Option (Int×Int):=
 if c.b==1||c.b==2 then
  if bz types c.h c.c.length&&zeroE c.a then match db (c.b==1) s.1 c.c with
   | none=>V
   | some v=>A (v,if c.b==1 then s.2+1 else s.2)
  else V
 else if c.b==3&&c.h==0&&c.c.isEmpty&&dL s.1 d c.a then A s else V
def dO(d:Nat) (types:List ap):Int×Int→List aK→Option (Int×Int)
 | s,[]=>A s
 | s,c::l=>match ci d types s c with
  | none=>V
  | some a=>dO d types a l
def bZ(d:Nat) (types:List ap) (s:Int×Int) (a:bm):Bool:=
 if a.b==1 then a.a==0&&bz types a.h a.y.length&&a.y.all (dL s.1 d)
 else if a.b==2 then a.h==0&&a.y.isEmpty&&r8 (0≤a.a)&&r8 (a.a<s.2)
 else if a.b==3 then a.h==0&&a.a==0&&!a.y.isEmpty&&a.y.all (dL s.1 d)
 else a.b==4&&a.h==0&&a.a==0&&a.y.isEmpty
def iR(d:Nat) (types:List ap) (r:au):Bool:=
 cB r.a.data.toList&&r8 (-1000≤r.c)&&r8 (r.c≤1000)&&r8 (r.d.length≤8)&&r8 (r.e.length≤8) &&
 match dO d types (0,0) r.d with
 | none=>r7
 | some s=>r.b==s.1&&r8 (s.1≤16)&&r.e.all (bZ d types s)
def apartB:List ByteArray→List ByteArray→Bool
 | _,[]=>true
 | seen,x::l=>!(idxOf x seen).isSome&&apartB (seen++[x]) l
def fE(t:ap):Bool:=cB t.a.data.toList&&r8 (0≤t.b)&&r8 (t.b≤6)
def rm(d:Nat) (R:bO):Bool:=
 r8 (R.a.length≤32)&&r8 (R.b.length≤64)&&R.a.all fE&&apartB [] (R.a.map ap.a)&&R.b.all (iR d R.a)&&apartB [] (R.b.map au.a)
