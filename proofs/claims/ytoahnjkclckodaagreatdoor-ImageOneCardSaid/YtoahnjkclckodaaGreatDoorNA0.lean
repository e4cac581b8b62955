/- Parts of one proof, joined; conditions stand in each theorem. -/
import Derived.Test.YtoahnjkclckodaaGreatDoorMD
open Except renaming ok→xt,error→z6
open Bool renaming false→va
namespace Go.Proofs.YtoahnjkclckodaaGreatDoor
open Go.RowKit
structure bj where
 q:Int
 u:Int
 h:ByteArray
def bj.zero:bj:=⟨0,0,⟨#[]⟩⟩
inductive a8 where
 | mk (kind:Int) (val:bj) (var:Int) (op:Int) (kids:List a8)
def a8.q:a8→Int | .mk k _ _ _ _=>k
def a8.h:a8→bj | .mk _ v _ _ _=>v
def a8.t:a8→Int | .mk _ _ v _ _=>v
def a8.op:a8→Int | .mk _ _ _ o _=>o
def a8.z:a8→List a8 | .mk _ _ _ _ l=>l
def a8.zero:a8:=.mk 0 .zero 0 0 []
structure iJ where
 q:Int
 t:Int
 h:bj
structure br where
 q:Int
 u:Int
 a:List iJ
 b:a8
structure dr where
 q:Int
 u:Int
 which:Int
 exprs:List a8
structure ay where
 c:ByteArray
 a:Int
structure aK where
 c:ByteArray
 sal:Int
 a:Int
 b:List br
 d:List dr
structure de where
 a:List ay
 c:List aK
abbrev Flt:=Int×Int
def be{σ α:Type} (f:σ→α→Except Flt σ):σ→List α→Except Flt σ
 | s,[]=>xt s
 | s,x::l=>match f s x with
  | .error e=>z6 e
  | .ok s'=>be f s' l
theorem jw{σ α:Type}(f:σ→α→Except Flt σ):∀(l k:List α) (s:σ),be f s (l++k)=match be f s l with | .error e=>z6 e | .ok s'=>be f s' k
 | [],_,_=>rfl
 | x::l,k,s=>by
  show (match f s x with | .error e=>_ | .ok s'=>be f s' (l++k))=match (match f s x with | .error e=>_ | .ok s'=>be f s' l) with | .error e=>_ | .ok s'=>_
  cases f s x with
  | error e=>rfl
  | ok s'=>exact jw f l k s'
theorem it{σ α:Type}{f:σ→α→Except Flt σ}{l:List α}{k:Nat}{s s':σ}{x:α}(a:l[k]?=some x)(h:be f s (l.take k)=xt s'):be f s (l.take (k+1))=f s' x:=by
 rw[Gd,a,jw,h]
 show (match f s' x with | .error e=>_ | .ok s'=>_)=_
 cases f s' x<;>rfl
theorem jq{σ α:Type}{f:σ→α→Except Flt σ}{l:List α}{k:Nat}{s:σ}{e:Flt}(h:be f s (l.take k)=z6 e):be f s l=z6 e:=by rw[←List.take_append_drop k l,jw,h]
def jD(x:ByteArray):List ByteArray→Nat→Option Nat
 | [],_=>none
 | y::l,k=>if y.data.toList==x.data.toList then some k else jD x l (k+1)
def idxOf(x:ByteArray) (l:List ByteArray):Option Nat:=jD x l 0
def mG(t:ByteArray):Int:=
 let n:Int:=(number (strip t.data.toList)).getD 0
 if fe t.data.toList then -n else n
def bs(T:ac):bj:=if T.q==15 then ⟨2,0,T.h⟩ else ⟨1,mG T.h,⟨#[]⟩⟩
def opM(t:List UInt8) (kids:Nat):Int×Bool:=
 if kids==2 then
  if t==[62] then (7,true) else if t==[62,61] then (8,true) else if t==[43] then (1,va) else if t==[45] then (2,va) else if t==[42] then (3,va)
  else if t==[61] then (5,va) else if t==[33,61] then (6,va) else if t==[60] then (7,va) else if t==[60,61] then (8,va) else if t==[97,110,100] then (9,va) else if t==[111,114] then (10,va) else (0,va)
 else if t==[45] then (4,va) else (11,va)
def cL{α β:Type} (f:α→Except Flt β) (l:List α):Except Flt (List β):=be (fun a x=>match f x with | .error e=>z6 e | .ok y=>xt (a++[y])) [] l
def aY(vars:List ByteArray) (d:Nat):ac→Except Flt a8:=match d with
 | 0=>fun T =>
  if T.q==14||T.q==15 then xt (.mk 1 (bs T) 0 0 [])
  else if T.q==13 then match idxOf T.h vars with
   | some k=>xt (.mk 2 .zero k 0 [])
   | none=>z6 (213,T.t)
  else xt (.mk 3 .zero 0 (opM T.h.data.toList T.z.length).1 [])
 | d+1=>fun T =>
  if T.q==14||T.q==15 then xt (.mk 1 (bs T) 0 0 [])
  else if T.q==13 then match idxOf T.h vars with
   | some k=>xt (.mk 2 .zero k 0 [])
   | none=>z6 (213,T.t)
  else match cL (aY vars d) T.z with
   | .error e=>z6 e
   | .ok ks=>xt (.mk 3 .zero 0 (opM T.h.data.toList T.z.length).1 (if (opM T.h.data.toList T.z.length).2 then ks.reverse else ks))
def dk(binds:Bool) (s:List ByteArray×List iJ) (T:ac):Except Flt (List ByteArray×List iJ):=
 if T.q==12 then xt (s.1,s.2++[⟨1,0,.zero⟩])
 else if T.q==13 then match idxOf T.h s.1 with
  | some k=>xt (s.1,s.2++[⟨3,k,.zero⟩])
  | none=>if !binds then z6 (213,T.t) else if 16≤s.1.length then z6 (204,T.t) else xt (s.1++[T.h],s.2++[⟨2,s.1.length,.zero⟩])
 else xt (s.1,s.2++[⟨4,0,bs T⟩])
def dM(x:ByteArray) (l:List ay):Option Nat:=idxOf x (l.map ay.c)
def cJ(types:List ay) (T:ac):Except Flt Nat:=match dM T.h types with
 | none=>z6 (211,T.t)
 | some k=>if ((types[k]?).map ay.a).getD 0==(T.z.length:Int) then xt k else z6 (212,T.t)
structure RSt where
 a:List ByteArray
 b:List br
 d:List dr
def bD(l:List br):Nat:=(l.filter (fun c=>c.q==1)).length
def dh(d:Nat) (types:List ay) (s:RSt) (T:ac):Except Flt RSt:=
 if T.q==5||T.q==6 then match cJ types T with
  | .error e=>z6 e
  | .ok k=>match be (dk (T.q==5)) (s.a,[]) T.z with
   | .error e=>z6 e
   | .ok r=>xt ⟨r.1,s.b++[⟨if T.q==6 then 2 else 1,k,r.2,.zero⟩],s.d⟩
 else if T.q==7 then match T.z with
  | []=>xt s
  | t::_=>match aY s.a d t with
   | .error e=>z6 e
   | .ok x=>xt ⟨s.a,s.b++[⟨3,0,[],x⟩],s.d⟩
 else if T.q==8 then match cJ types T with
  | .error e=>z6 e
  | .ok k=>match cL (aY s.a d) T.z with
   | .error e=>z6 e
   | .ok xs=>xt ⟨s.a,s.b,s.d++[⟨1,k,0,xs⟩]⟩
 else if T.q==9 then
  if T.u<1||(bD s.b:Int)<T.u then z6 (214,T.t) else xt ⟨s.a,s.b,s.d++[⟨2,0,T.u-1,[]⟩]⟩
 else if T.q==10 then match cL (aY s.a d) T.z with
  | .error e=>z6 e
  | .ok xs=>xt ⟨s.a,s.b,s.d++[⟨3,0,0,xs⟩]⟩
 else xt ⟨s.a,s.b,s.d++[⟨4,0,0,[]⟩]⟩
def f7(l:List ac):Nat:=(l.takeWhile cS).length
def gR(d:Nat) (types:List ay) (rs:List aK) (T:ac):Except Flt (List aK):=
 if T.q==4 then
  if (idxOf T.h (rs.map aK.c)).isSome then z6 (210,T.t)
  else if T.u < -1000||1000<T.u then z6 (2,T.t)
  else if 64≤rs.length||8<f7 T.z||8<T.z.length-f7 T.z then z6 (204,T.t)
  else match be (dh d types) ⟨[],[],[]⟩ T.z with
   | .error e=>z6 e
   | .ok s=>xt (rs++[⟨T.h,T.u,s.a.length,s.b,s.d⟩])
 else xt rs
def fieldStep(seen:List ByteArray) (T:ac):Except Flt (List ByteArray):=if (idxOf T.h seen).isSome then z6 (210,T.t) else xt (seen++[T.h])
def hZ(ts:List ay) (T:ac):Except Flt (List ay):=
 if T.q==2 then
  if (dM T.h ts).isSome then z6 (210,T.t)
  else if 32≤ts.length||6<T.z.length then z6 (204,T.t)
  else match be fieldStep [] T.z with
   | .error e=>z6 e
   | .ok _=>xt (ts++[⟨T.h,T.z.length⟩])
 else xt ts
def mS(d:Nat) (T:ac):Except Flt de:=match be hZ [] T.z with
 | .error e=>z6 e
 | .ok ts=>match be (gR d ts) [] T.z with
  | .error e=>z6 e
  | .ok rs=>xt ⟨ts,rs⟩
def eR(v:bj):Bool:=if v.q==1 then v.h.data.toList.isEmpty else if v.q==2 then v.u==0&&dP v.h.data.toList else va
