/- Parts of one proof, joined; conditions stand in each theorem. -/
import Derived.Test.YtkhfjgjjhlnnnaaGreatDoorMD
open Except renaming ok→xL,error→z8
open Option renaming some→Y,none→U
open Bool renaming false→wj
open Decidable renaming decide→wo
namespace Go.Proofs.YtkhfjgjjhlnnnaaGreatDoor
open Go.RowKit
structure jy where
 b:Int
 h:Int
 f:ByteArray
def jy.zero:jy:=⟨0,0,⟨#[]⟩⟩
inductive ax where
 | mk (kind:Int) (val:jy) (var:Int) (op:Int) (kids:List ax)
def ax.b:ax→Int | .mk k _ _ _ _=>k
def ax.f:ax→jy | .mk _ v _ _ _=>v
def ax.h:ax→Int | .mk _ _ v _ _=>v
def ax.op:ax→Int | .mk _ _ _ o _=>o
def ax.q:ax→List ax | .mk _ _ _ _ l=>l
def ax.zero:ax:=.mk 0 .zero 0 0 []
structure dy where
 b:Int
 h:Int
 f:jy
structure aX where
 b:Int
 f:Int
 C:List dy
 a:ax
structure cd where
 b:Int
 f:Int
 a:Int
 y:List ax
structure ae where
 a:ByteArray
 b:Int
structure ap where
 a:ByteArray
 e:Int
 b:Int
 c:List aX
 d:List cd
structure eN where
 a:List ae
 b:List ap
abbrev Flt:=Int×Int
def aG{σ α:Type} (f:σ→α→Except Flt σ):σ→List α→Except Flt σ
 | s,[]=>xL s
 | s,x::l=>match f s x with
  | .error e=>z8 e
  | .ok a=>aG f a l
theorem jB{σ α:Type}(f:σ→α→Except Flt σ):∀(l k:List α) (s:σ),aG f s (l++k)=match aG f s l with | .error e=>z8 e | .ok a=>aG f a k
 | [],_,_=>rfl
 | x::l,k,s=>by
  show (match f s x with | .error e=>_ | .ok a=>aG f a (l++k))=match (match f s x with | .error e=>_ | .ok a=>aG f a l) with | .error e=>_ | .ok a=>_
  cases f s x with
  | error e=>rfl
  | ok a=>exact jB f l k a
theorem gz{σ α:Type}{f:σ→α→Except Flt σ}{l:List α}{k:Nat}{s a:σ}{x:α}(b:l[k]?=Y x)(h:aG f s (l.take k)=xL a):aG f s (l.take (k+1))=f a x:=by
 rw[FY,b,jB,h]
 show (match f a x with | .error e=>_ | .ok a=>_)=_
 cases f a x<;>rfl
theorem gA{σ α:Type}{f:σ→α→Except Flt σ}{l:List α}{k:Nat}{s:σ}{e:Flt}(h:aG f s (l.take k)=z8 e):aG f s l=z8 e:=by rw[←List.take_append_drop k l,jB,h]
def f7(x:ByteArray):List ByteArray→Nat→Option Nat
 | [],_=>U
 | y::l,k=>if y.data.toList==x.data.toList then Y k else f7 x l (k+1)
def idxOf(x:ByteArray) (l:List ByteArray):Option Nat:=f7 x l 0
def i7(t:ByteArray):Int:=
 let n:Int:=(number (strip t.data.toList)).getD 0
 if dM t.data.toList then -n else n
def aF(T:ab):jy:=if T.b==15 then ⟨2,0,T.f⟩ else ⟨1,i7 T.f,⟨#[]⟩⟩
def opM(t:List UInt8) (kids:Nat):Int×Bool:=
 if kids==2 then
  if t==[62] then (7,true) else if t==[62,61] then (8,true) else if t==[43] then (1,wj) else if t==[45] then (2,wj) else if t==[42] then (3,wj)
  else if t==[61] then (5,wj) else if t==[33,61] then (6,wj) else if t==[60] then (7,wj) else if t==[60,61] then (8,wj) else if t==[97,110,100] then (9,wj) else if t==[111,114] then (10,wj) else (0,wj)
 else if t==[45] then (4,wj) else (11,wj)
def bC{α β:Type} (f:α→Except Flt β) (l:List α):Except Flt (List β):=aG (fun ys x=>match f x with | .error e=>z8 e | .ok y=>xL (ys++[y])) [] l
def aB(vars:List ByteArray) (d:Nat):ab→Except Flt ax:=match d with
 | 0=>fun T =>
  if T.b==14||T.b==15 then xL (.mk 1 (aF T) 0 0 [])
  else if T.b==13 then match idxOf T.f vars with
   | some k=>xL (.mk 2 .zero k 0 [])
   | none=>z8 (213,T.t)
  else xL (.mk 3 .zero 0 (opM T.f.data.toList T.q.length).1 [])
 | d+1=>fun T =>
  if T.b==14||T.b==15 then xL (.mk 1 (aF T) 0 0 [])
  else if T.b==13 then match idxOf T.f vars with
   | some k=>xL (.mk 2 .zero k 0 [])
   | none=>z8 (213,T.t)
  else match bC (aB vars d) T.q with
   | .error e=>z8 e
   | .ok a=>xL (.mk 3 .zero 0 (opM T.f.data.toList T.q.length).1 (if (opM T.f.data.toList T.q.length).2 then a.reverse else a))
def bY(binds:Bool) (s:List ByteArray×List dy) (T:ab):Except Flt (List ByteArray×List dy):=
 if T.b==12 then xL (s.1,s.2++[⟨1,0,.zero⟩])
 else if T.b==13 then match idxOf T.f s.1 with
  | some k=>xL (s.1,s.2++[⟨3,k,.zero⟩])
  | none=>if !binds then z8 (213,T.t) else if 16≤s.1.length then z8 (204,T.t) else xL (s.1++[T.f],s.2++[⟨2,s.1.length,.zero⟩])
 else xL (s.1,s.2++[⟨4,0,aF T⟩])
def a9(x:ByteArray) (l:List ae):Option Nat:=idxOf x (l.map ae.a)
def bK(types:List ae) (T:ab):Except Flt Nat:=match a9 T.f types with
 | none=>z8 (211,T.t)
 | some k=>if ((types[k]?).map ae.b).getD 0==(T.q.length:Int) then xL k else z8 (212,T.t)
structure RSt where
 b:List ByteArray
 c:List aX
 d:List cd
def bG(l:List aX):Nat:=(l.filter (fun c=>c.b==1)).length
def aC(d:Nat) (types:List ae) (s:RSt) (T:ab):Except Flt RSt:=
 if T.b==5||T.b==6 then match bK types T with
  | .error e=>z8 e
  | .ok k=>match aG (bY (T.b==5)) (s.b,[]) T.q with
   | .error e=>z8 e
   | .ok r=>xL ⟨r.1,s.c++[⟨if T.b==6 then 2 else 1,k,r.2,.zero⟩],s.d⟩
 else if T.b==7 then match T.q with
  | []=>xL s
  | t::_=>match aB s.b d t with
   | .error e=>z8 e
   | .ok x=>xL ⟨s.b,s.c++[⟨3,0,[],x⟩],s.d⟩
 else if T.b==8 then match bK types T with
  | .error e=>z8 e
  | .ok k=>match bC (aB s.b d) T.q with
   | .error e=>z8 e
   | .ok xs=>xL ⟨s.b,s.c,s.d++[⟨1,k,0,xs⟩]⟩
 else if T.b==9 then
  if T.h<1||(bG s.c:Int)<T.h then z8 (214,T.t) else xL ⟨s.b,s.c,s.d++[⟨2,0,T.h-1,[]⟩]⟩
 else if T.b==10 then match bC (aB s.b d) T.q with
  | .error e=>z8 e
  | .ok xs=>xL ⟨s.b,s.c,s.d++[⟨3,0,0,xs⟩]⟩
 else xL ⟨s.b,s.c,s.d++[⟨4,0,0,[]⟩]⟩
def dr(l:List ab):Nat:=(l.takeWhile aP).length
def cI(d:Nat) (types:List ae) (rs:List ap) (T:ab):Except Flt (List ap):=
 if T.b==4 then
  if (idxOf T.f (rs.map ap.a)).isSome then z8 (210,T.t)
  else if T.h < -1000||1000<T.h then z8 (2,T.t)
  else if 64≤rs.length||8<dr T.q||8<T.q.length-dr T.q then z8 (204,T.t)
  else match aG (aC d types) ⟨[],[],[]⟩ T.q with
   | .error e=>z8 e
   | .ok s=>xL (rs++[⟨T.f,T.h,s.b.length,s.c,s.d⟩])
 else xL rs
def fieldStep(seen:List ByteArray) (T:ab):Except Flt (List ByteArray):=if (idxOf T.f seen).isSome then z8 (210,T.t) else xL (seen++[T.f])
def dm(ts:List ae) (T:ab):Except Flt (List ae):=
 if T.b==2 then
  if (a9 T.f ts).isSome then z8 (210,T.t)
  else if 32≤ts.length||6<T.q.length then z8 (204,T.t)
  else match aG fieldStep [] T.q with
   | .error e=>z8 e
   | .ok _=>xL (ts++[⟨T.f,T.q.length⟩])
 else xL ts
def kC(d:Nat) (T:ab):Except Flt eN:=match aG dm [] T.q with
 | .error e=>z8 e
 | .ok ts=>match aG (cI d ts) [] T.q with
  | .error e=>z8 e
  | .ok rs=>xL ⟨ts,rs⟩
def zeroV(v:jy):Bool:=v.b==0&&v.h==0&&v.f.data.toList.isEmpty
def gK(v:jy):Bool:=if v.b==1 then v.f.data.toList.isEmpty else if v.b==2 then v.h==0&&aN v.f.data.toList else wj
def cE(vars:Int) (e:ax):Bool:=
 if e.b==1 then e.h==0&&e.op==0&&e.q.isEmpty&&gK e.f
 else if e.b==2 then zeroV e.f&&e.op==0&&e.q.isEmpty&&wo (0≤e.h)&&wo (e.h<vars)
 else if e.b==3 then zeroV e.f&&e.h==0&&wo (1≤e.op)&&wo (e.op≤11)&&e.q.length==(if e.op==4||e.op==11 then 1 else 2)
 else wj
def dQ(vars:Int):Nat→ax→Bool
 | 0,e=>cE vars e
 | d+1,e=>cE vars e&&e.q.all (dQ vars d)
def ci(binds:Bool) (vars:Int) (a:dy):Option Int:=
 if a.b==1 then if a.h==0&&zeroV a.f then Y vars else U
 else if a.b==2 then if binds&&a.h==vars&&zeroV a.f then Y (vars+1) else U
 else if a.b==3 then if wo (0≤a.h)&&wo (a.h<vars)&&zeroV a.f then Y vars else U
 else if a.b==4&&a.h==0&&gK a.f then Y vars else U
def cY(binds:Bool):Int→List dy→Option Int
 | v,[]=>Y v
 | v,a::l=>match ci binds v a with
  | none=>U
  | some b=>cY binds b l
def bJ(types:List ae) (k n:Int):Bool:=wo (0≤k)&&wo (k<types.length)&&(((types[k.toNat]?).map ae.b).getD 0==n)
def zeroE(e:ax):Bool:=e.b==0&&zeroV e.f&&e.h==0&&e.op==0&&e.q.isEmpty
def cz(d:Nat) (types:List ae) (s:Int×Int) (c:aX):Option (Int×Int):=
 if c.b==1||c.b==2 then
  if bJ types c.f c.C.length&&zeroE c.a then match cY (c.b==1) s.1 c.C with
   | none=>U
   | some v=>Y (v,if c.b==1 then s.2+1 else s.2)
  else U
 else if c.b==3&&c.f==0&&c.C.isEmpty&&dQ s.1 d c.a then Y s else U
def dT(d:Nat) (types:List ae):Int×Int→List aX→Option (Int×Int)
 | s,[]=>Y s
 | s,c::l=>match cz d types s c with
  | none=>U
  | some a=>dT d types a l
def cw(d:Nat) (types:List ae) (s:Int×Int) (a:cd):Bool:=
 if a.b==1 then a.a==0&&bJ types a.f a.y.length&&a.y.all (dQ s.1 d)
 else if a.b==2 then a.f==0&&a.y.isEmpty&&wo (0≤a.a)&&wo (a.a<s.2)
 else if a.b==3 then a.f==0&&a.a==0&&!a.y.isEmpty&&a.y.all (dQ s.1 d)
 else a.b==4&&a.f==0&&a.a==0&&a.y.isEmpty
def iS(d:Nat) (types:List ae) (r:ap):Bool:=
 aN r.a.data.toList&&wo (-1000≤r.e)&&wo (r.e≤1000)&&wo (r.c.length≤8)&&wo (r.d.length≤8) &&
 match dT d types (0,0) r.c with
 | none=>wj
 | some s=>r.b==s.1&&wo (s.1≤16)&&r.d.all (cw d types s)
def apartB:List ByteArray→List ByteArray→Bool
 | _,[]=>true
 | seen,x::l=>!(idxOf x seen).isSome&&apartB (seen++[x]) l
def fW(t:ae):Bool:=aN t.a.data.toList&&wo (0≤t.b)&&wo (t.b≤6)
def rz(d:Nat) (R:eN):Bool:=
 wo (R.a.length≤32)&&wo (R.b.length≤64)&&R.a.all fW&&apartB [] (R.a.map ae.a)&&R.b.all (iS d R.a)&&apartB [] (R.b.map ap.a)
