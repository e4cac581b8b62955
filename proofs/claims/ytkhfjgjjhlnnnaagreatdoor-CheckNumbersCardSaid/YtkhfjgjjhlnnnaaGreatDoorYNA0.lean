/- Parts of one proof, joined; conditions stand in each theorem. -/
import Derived.Test.YtkhfjgjjhlnnnaaGreatDoorYMD
open Except renaming ok→AF,error→BT
open Option renaming some→Y,none→U
open Bool renaming false→xj
open Decidable renaming decide→xv
namespace Go.Proofs.YtkhfjgjjhlnnnaaGreatDoor
open Go.RowKit
structure jA where
 b:Int
 h:Int
 f:ByteArray
def jA.zero:jA:=⟨0,0,⟨#[]⟩⟩
inductive aw where
 | mk (kind:Int) (val:jA) (var:Int) (op:Int) (kids:List aw)
def aw.b:aw→Int | .mk k _ _ _ _=>k
def aw.f:aw→jA | .mk _ v _ _ _=>v
def aw.h:aw→Int | .mk _ _ v _ _=>v
def aw.op:aw→Int | .mk _ _ _ o _=>o
def aw.u:aw→List aw | .mk _ _ _ _ l=>l
def aw.zero:aw:=.mk 0 .zero 0 0 []
structure dw where
 b:Int
 h:Int
 f:jA
structure aW where
 b:Int
 f:Int
 N:List dw
 a:aw
structure bW where
 b:Int
 f:Int
 a:Int
 y:List aw
structure ae where
 a:ByteArray
 b:Int
structure an where
 a:ByteArray
 e:Int
 b:Int
 c:List aW
 d:List bW
structure eL where
 a:List ae
 b:List an
abbrev Flt:=Int×Int
def aG{σ α:Type} (f:σ→α→Except Flt σ):σ→List α→Except Flt σ
 | s,[]=>AF s
 | s,x::l=>match f s x with
  | .error e=>BT e
  | .ok a=>aG f a l
theorem jD{σ α:Type}(f:σ→α→Except Flt σ):∀(l k:List α) (s:σ),aG f s (l++k)=match aG f s l with | .error e=>BT e | .ok a=>aG f a k
 | [],_,_=>rfl
 | x::l,k,s=>by
  show (match f s x with | .error e=>_ | .ok a=>aG f a (l++k))=match (match f s x with | .error e=>_ | .ok a=>aG f a l) with | .error e=>_ | .ok a=>_
  cases f s x with
  | error e=>rfl
  | ok a=>exact jD f l k a
theorem gA{σ α:Type}{f:σ→α→Except Flt σ}{l:List α}{k:Nat}{s a:σ}{x:α}(b:l[k]?=Y x)(h:aG f s (l.take k)=AF a):aG f s (l.take (k+1))=f a x:=by
 rw[Fz,b,jD,h]
 show (match f a x with | .error e=>_ | .ok a=>_)=_
 cases f a x<;>rfl
theorem gB{σ α:Type}{f:σ→α→Except Flt σ}{l:List α}{k:Nat}{s:σ}{e:Flt}(h:aG f s (l.take k)=BT e):aG f s l=BT e:=by rw[←List.take_append_drop k l,jD,h]
def gb(x:ByteArray):List ByteArray→Nat→Option Nat
 | [],_=>U
 | y::l,k=>if y.data.toList==x.data.toList then Y k else gb x l (k+1)
def idxOf(x:ByteArray) (l:List ByteArray):Option Nat:=gb x l 0
def ja(t:ByteArray):Int:=
 let n:Int:=(number (strip t.data.toList)).getD 0
 if dN t.data.toList then -n else n
def aF(T:ab):jA:=if T.b==15 then ⟨2,0,T.f⟩ else ⟨1,ja T.f,⟨#[]⟩⟩
def opM(t:List UInt8) (kids:Nat):Int×Bool:=
 if kids==2 then
  if t==[62] then (7,true) else if t==[62,61] then (8,true) else if t==[43] then (1,xj) else if t==[45] then (2,xj) else if t==[42] then (3,xj)
  else if t==[61] then (5,xj) else if t==[33,61] then (6,xj) else if t==[60] then (7,xj) else if t==[60,61] then (8,xj) else if t==[97,110,100] then (9,xj) else if t==[111,114] then (10,xj) else (0,xj)
 else if t==[45] then (4,xj) else (11,xj)
def bz{α β:Type} (f:α→Except Flt β) (l:List α):Except Flt (List β):=aG (fun ys x=>match f x with | .error e=>BT e | .ok y=>AF (ys++[y])) [] l
def aB(vars:List ByteArray) (d:Nat):ab→Except Flt aw:=match d with
 | 0=>fun T =>
  if T.b==14||T.b==15 then AF (.mk 1 (aF T) 0 0 [])
  else if T.b==13 then match idxOf T.f vars with
   | some k=>AF (.mk 2 .zero k 0 [])
   | none=>BT (213,T.y)
  else AF (.mk 3 .zero 0 (opM T.f.data.toList T.u.length).1 [])
 | d+1=>fun T =>
  if T.b==14||T.b==15 then AF (.mk 1 (aF T) 0 0 [])
  else if T.b==13 then match idxOf T.f vars with
   | some k=>AF (.mk 2 .zero k 0 [])
   | none=>BT (213,T.y)
  else match bz (aB vars d) T.u with
   | .error e=>BT e
   | .ok a=>AF (.mk 3 .zero 0 (opM T.f.data.toList T.u.length).1 (if (opM T.f.data.toList T.u.length).2 then a.reverse else a))
def bU(binds:Bool) (s:List ByteArray×List dw) (T:ab):Except Flt (List ByteArray×List dw):=
 if T.b==12 then AF (s.1,s.2++[⟨1,0,.zero⟩])
 else if T.b==13 then match idxOf T.f s.1 with
  | some k=>AF (s.1,s.2++[⟨3,k,.zero⟩])
  | none=>if !binds then BT (213,T.y) else if 16≤s.1.length then BT (204,T.y) else AF (s.1++[T.f],s.2++[⟨2,s.1.length,.zero⟩])
 else AF (s.1,s.2++[⟨4,0,aF T⟩])
def a8(x:ByteArray) (l:List ae):Option Nat:=idxOf x (l.map ae.a)
def bI(types:List ae) (T:ab):Except Flt Nat:=match a8 T.f types with
 | none=>BT (211,T.y)
 | some k=>if ((types[k]?).map ae.b).getD 0==(T.u.length:Int) then AF k else BT (212,T.y)
structure RSt where
 b:List ByteArray
 c:List aW
 d:List bW
def bE(l:List aW):Nat:=(l.filter (fun c=>c.b==1)).length
def aC(d:Nat) (types:List ae) (s:RSt) (T:ab):Except Flt RSt:=
 if T.b==5||T.b==6 then match bI types T with
  | .error e=>BT e
  | .ok k=>match aG (bU (T.b==5)) (s.b,[]) T.u with
   | .error e=>BT e
   | .ok r=>AF ⟨r.1,s.c++[⟨if T.b==6 then 2 else 1,k,r.2,.zero⟩],s.d⟩
 else if T.b==7 then match T.u with
  | []=>AF s
  | t::_=>match aB s.b d t with
   | .error e=>BT e
   | .ok x=>AF ⟨s.b,s.c++[⟨3,0,[],x⟩],s.d⟩
 else if T.b==8 then match bI types T with
  | .error e=>BT e
  | .ok k=>match bz (aB s.b d) T.u with
   | .error e=>BT e
   | .ok xs=>AF ⟨s.b,s.c,s.d++[⟨1,k,0,xs⟩]⟩
 else if T.b==9 then
  if T.h<1||(bE s.c:Int)<T.h then BT (214,T.y) else AF ⟨s.b,s.c,s.d++[⟨2,0,T.h-1,[]⟩]⟩
 else if T.b==10 then match bz (aB s.b d) T.u with
  | .error e=>BT e
  | .ok xs=>AF ⟨s.b,s.c,s.d++[⟨3,0,0,xs⟩]⟩
 else AF ⟨s.b,s.c,s.d++[⟨4,0,0,[]⟩]⟩
def dn(l:List ab):Nat:=(l.takeWhile aO).length
def cG(d:Nat) (types:List ae) (rs:List an) (T:ab):Except Flt (List an):=
 if T.b==4 then
  if (idxOf T.f (rs.map an.a)).isSome then BT (210,T.y)
  else if T.h < -1000||1000<T.h then BT (2,T.y)
  else if 64≤rs.length||8<dn T.u||8<T.u.length-dn T.u then BT (204,T.y)
  else match aG (aC d types) ⟨[],[],[]⟩ T.u with
   | .error e=>BT e
   | .ok s=>AF (rs++[⟨T.f,T.h,s.b.length,s.c,s.d⟩])
 else AF rs
def fieldStep(seen:List ByteArray) (T:ab):Except Flt (List ByteArray):=if (idxOf T.f seen).isSome then BT (210,T.y) else AF (seen++[T.f])
def dk(ts:List ae) (T:ab):Except Flt (List ae):=
 if T.b==2 then
  if (a8 T.f ts).isSome then BT (210,T.y)
  else if 32≤ts.length||6<T.u.length then BT (204,T.y)
  else match aG fieldStep [] T.u with
   | .error e=>BT e
   | .ok _=>AF (ts++[⟨T.f,T.u.length⟩])
 else AF ts
def kH(d:Nat) (T:ab):Except Flt eL:=match aG dk [] T.u with
 | .error e=>BT e
 | .ok ts=>match aG (cG d ts) [] T.u with
  | .error e=>BT e
  | .ok rs=>AF ⟨ts,rs⟩
def zeroV(v:jA):Bool:=v.b==0&&v.h==0&&v.f.data.toList.isEmpty
def gP(v:jA):Bool:=if v.b==1 then v.f.data.toList.isEmpty else if v.b==2 then v.h==0&&aN v.f.data.toList else xj
def cy(vars:Int) (e:aw):Bool:=
 if e.b==1 then e.h==0&&e.op==0&&e.u.isEmpty&&gP e.f
 else if e.b==2 then zeroV e.f&&e.op==0&&e.u.isEmpty&&xv (0≤e.h)&&xv (e.h<vars)
 else if e.b==3 then zeroV e.f&&e.h==0&&xv (1≤e.op)&&xv (e.op≤11)&&e.u.length==(if e.op==4||e.op==11 then 1 else 2)
 else xj
def dQ(vars:Int):Nat→aw→Bool
 | 0,e=>cy vars e
 | d+1,e=>cy vars e&&e.u.all (dQ vars d)
def bZ(binds:Bool) (vars:Int) (a:dw):Option Int:=
 if a.b==1 then if a.h==0&&zeroV a.f then Y vars else U
 else if a.b==2 then if binds&&a.h==vars&&zeroV a.f then Y (vars+1) else U
 else if a.b==3 then if xv (0≤a.h)&&xv (a.h<vars)&&zeroV a.f then Y vars else U
 else if a.b==4&&a.h==0&&gP a.f then Y vars else U
def cU(binds:Bool):Int→List dw→Option Int
 | v,[]=>Y v
 | v,a::l=>match bZ binds v a with
  | none=>U
  | some b=>cU binds b l
def bH(types:List ae) (k n:Int):Bool:=xv (0≤k)&&xv (k<types.length)&&(((types[k.toNat]?).map ae.b).getD 0==n)
def zeroE(e:aw):Bool:=e.b==0&&zeroV e.f&&e.h==0&&e.op==0&&e.u.isEmpty
def cp(d:Nat) (types:List ae) (s:Int×Int) (c:aW):Option (Int×Int):=
 if c.b==1||c.b==2 then
  if bH types c.f c.N.length&&zeroE c.a then match cU (c.b==1) s.1 c.N with
   | none=>U
   | some v=>Y (v,if c.b==1 then s.2+1 else s.2)
  else U
 else if c.b==3&&c.f==0&&c.N.isEmpty&&dQ s.1 d c.a then Y s else U
def dT(d:Nat) (types:List ae):Int×Int→List aW→Option (Int×Int)
 | s,[]=>Y s
 | s,c::l=>match cp d types s c with
  | none=>U
  | some a=>dT d types a l
def cm(d:Nat) (types:List ae) (s:Int×Int) (a:bW):Bool:=
 if a.b==1 then a.a==0&&bH types a.f a.y.length&&a.y.all (dQ s.1 d)
 else if a.b==2 then a.f==0&&a.y.isEmpty&&xv (0≤a.a)&&xv (a.a<s.2)
 else if a.b==3 then a.f==0&&a.a==0&&!a.y.isEmpty&&a.y.all (dQ s.1 d)
 else a.b==4&&a.f==0&&a.a==0&&a.y.isEmpty
def iV(d:Nat) (types:List ae) (r:an):Bool:=
 aN r.a.data.toList&&xv (-1000≤r.e)&&xv (r.e≤1000)&&xv (r.c.length≤8)&&xv (r.d.length≤8) &&
 match dT d types (0,0) r.c with
 | none=>xj
 | some s=>r.b==s.1&&xv (s.1≤16)&&r.d.all (cm d types s)
def apartB:List ByteArray→List ByteArray→Bool
 | _,[]=>true
 | seen,x::l=>!(idxOf x seen).isSome&&apartB (seen++[x]) l
def fZ(t:ae):Bool:=aN t.a.data.toList&&xv (0≤t.b)&&xv (t.b≤6)
def rC(d:Nat) (R:eL):Bool:=
 xv (R.a.length≤32)&&xv (R.b.length≤64)&&R.a.all fZ&&apartB [] (R.a.map ae.a)&&R.b.all (iV d R.a)&&apartB [] (R.b.map an.a)
