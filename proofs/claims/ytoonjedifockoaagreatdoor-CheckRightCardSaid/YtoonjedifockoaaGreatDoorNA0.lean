/- Parts of one proof, joined; conditions stand in each theorem. -/
import Derived.Test.YtoonjedifockoaaGreatDoorMD
namespace Go.Proofs.YtoonjedifockoaaGreatDoor
open Go.IntKind(i64)
open Go.Value(int string slice)
open Go.RowKit
structure gY where
 kind:Int
 num:Int
 text:ByteArray
def gY.zero:gY:=⟨0,0,⟨#[]⟩⟩
inductive ag where
 | mk (kind:Int) (val:gY) (var:Int) (op:Int) (kids:List ag)
def ag.kind:ag→Int | .mk k _ _ _ _=>k
def ag.val:ag→gY | .mk _ v _ _ _=>v
def ag.var:ag→Int | .mk _ _ v _ _=>v
def ag.op:ag→Int | .mk _ _ _ o _=>o
def ag.kids:ag→List ag | .mk _ _ _ _ l=>l
def ag.zero:ag:=.mk 0 .zero 0 0 []
structure cg where
 kind:Int
 var:Int
 val:gY
structure aC where
 kind:Int
 type:Int
 args:List cg
 test:ag
structure aT where
 kind:Int
 type:Int
 which:Int
 exprs:List ag
structure ai where
 name:ByteArray
 fields:Int
structure aj where
 name:ByteArray
 sal:Int
 vars:Int
 conds:List aC
 acts:List aT
structure cd where
 types:List ai
 rules:List aj
abbrev Flt:=Int×Int
def bG{σ α:Type} (f:σ→α→Except Flt σ):σ→List α→Except Flt σ
 | s,[]=>.ok s
 | s,x::l=>match f s x with
  | .error e=>.error e
  | .ok a=>bG f a l
theorem iP{σ α:Type}(f:σ→α→Except Flt σ):∀(l k:List α) (s:σ),bG f s (l++k)=match bG f s l with | .error e=>.error e | .ok a=>bG f a k
 | [],_,_=>rfl
 | x::l,k,s=>by
  show (match f s x with | .error e=>_ | .ok a=>bG f a (l++k))=match (match f s x with | .error e=>_ | .ok a=>bG f a l) with | .error e=>_ | .ok a=>_
  cases f s x with
  | error e=>rfl
  | ok a=>exact iP f l k a
theorem fL{σ α:Type}{f:σ→α→Except Flt σ}{l:List α}{k:Nat}{s a:σ}{x:α}(b:l[k]?=some x)(h:bG f s (l.take k)=.ok a):bG f s (l.take (k+1))=f a x:=by
 rw[Fg,b,iP,h]
 show (match f a x with | .error e=>_ | .ok a=>_)=_
 cases f a x<;>rfl
theorem gJ{σ α:Type}{f:σ→α→Except Flt σ}{l:List α}{k:Nat}{s:σ}{e:Flt}(h:bG f s (l.take k)=.error e):bG f s l=.error e:=by rw[←List.take_append_drop k l,iP,h]
def fi(x:ByteArray):List ByteArray→Nat→Option Nat
 | [],_=>none
 | y::l,k=>if y.data.toList==x.data.toList then some k else fi x l (k+1)
def idxOf(x:ByteArray) (l:List ByteArray):Option Nat:=fi x l 0
def lC(t:ByteArray):Int:=
 let n:Int:=(number (strip t.data.toList)).getD 0
 if eL t.data.toList then -n else n
def bC(T:ac):gY:=if T.kind==15 then ⟨2,0,T.text⟩ else ⟨1,lC T.text,⟨#[]⟩⟩
def opM(t:List UInt8) (kids:Nat):Int×Bool:=
 if kids==2 then
  if t==[62] then (7,true) else if t==[62,61] then (8,true) else if t==[43] then (1,false) else if t==[45] then (2,false) else if t==[42] then (3,false)
  else if t==[61] then (5,false) else if t==[33,61] then (6,false) else if t==[60] then (7,false) else if t==[60,61] then (8,false) else if t==[97,110,100] then (9,false) else if t==[111,114] then (10,false) else (0,false)
 else if t==[45] then (4,false) else (11,false)
def dl{α β:Type} (f:α→Except Flt β) (l:List α):Except Flt (List β):=bG (fun a x=>match f x with | .error e=>.error e | .ok y=>.ok (a++[y])) [] l
def bD(vars:List ByteArray) (d:Nat):ac→Except Flt ag:=match d with
 | 0=>fun T =>
  if T.kind==14||T.kind==15 then .ok (.mk 1 (bC T) 0 0 [])
  else if T.kind==13 then match idxOf T.text vars with
   | some k=>.ok (.mk 2 .zero k 0 [])
   | none=>.error (213,T.place)
  else .ok (.mk 3 .zero 0 (opM T.text.data.toList T.kids.length).1 [])
 | d+1=>fun T =>
  if T.kind==14||T.kind==15 then .ok (.mk 1 (bC T) 0 0 [])
  else if T.kind==13 then match idxOf T.text vars with
   | some k=>.ok (.mk 2 .zero k 0 [])
   | none=>.error (213,T.place)
  else match dl (bD vars d) T.kids with
   | .error e=>.error e
   | .ok a=>.ok (.mk 3 .zero 0 (opM T.text.data.toList T.kids.length).1 (if (opM T.text.data.toList T.kids.length).2 then a.reverse else a))
def cX(binds:Bool) (s:List ByteArray×List cg) (T:ac):Except Flt (List ByteArray×List cg):=
 if T.kind==12 then .ok (s.1,s.2++[⟨1,0,.zero⟩])
 else if T.kind==13 then match idxOf T.text s.1 with
  | some k=>.ok (s.1,s.2++[⟨3,k,.zero⟩])
  | none=>if !binds then .error (213,T.place) else if 16≤s.1.length then .error (204,T.place) else .ok (s.1++[T.text],s.2++[⟨2,s.1.length,.zero⟩])
 else .ok (s.1,s.2++[⟨4,0,bC T⟩])
def dn(x:ByteArray) (l:List ai):Option Nat:=idxOf x (l.map ai.name)
def dw(types:List ai) (T:ac):Except Flt Nat:=match dn T.text types with
 | none=>.error (211,T.place)
 | some k=>if ((types[k]?).map ai.fields).getD 0==(T.kids.length:Int) then .ok k else .error (212,T.place)
structure RSt where
 vars:List ByteArray
 conds:List aC
 acts:List aT
def dK(l:List aC):Nat:=(l.filter (fun c=>c.kind==1)).length
def dI(d:Nat) (types:List ai) (s:RSt) (T:ac):Except Flt RSt:=
 if T.kind==5||T.kind==6 then match dw types T with
  | .error e=>.error e
  | .ok k=>match bG (cX (T.kind==5)) (s.vars,[]) T.kids with
   | .error e=>.error e
   | .ok r=>.ok ⟨r.1,s.conds++[⟨if T.kind==6 then 2 else 1,k,r.2,.zero⟩],s.acts⟩
 else if T.kind==7 then match T.kids with
  | []=>.ok s
  | t::_=>match bD s.vars d t with
   | .error e=>.error e
   | .ok x=>.ok ⟨s.vars,s.conds++[⟨3,0,[],x⟩],s.acts⟩
 else if T.kind==8 then match dw types T with
  | .error e=>.error e
  | .ok k=>match dl (bD s.vars d) T.kids with
   | .error e=>.error e
   | .ok xs=>.ok ⟨s.vars,s.conds,s.acts++[⟨1,k,0,xs⟩]⟩
 else if T.kind==9 then
  if T.num<1||(dK s.conds:Int)<T.num then .error (214,T.place) else .ok ⟨s.vars,s.conds,s.acts++[⟨2,0,T.num-1,[]⟩]⟩
 else if T.kind==10 then match dl (bD s.vars d) T.kids with
  | .error e=>.error e
  | .ok xs=>.ok ⟨s.vars,s.conds,s.acts++[⟨3,0,0,xs⟩]⟩
 else .ok ⟨s.vars,s.conds,s.acts++[⟨4,0,0,[]⟩]⟩
def fB(l:List ac):Nat:=(l.takeWhile cK).length
def j1(d:Nat) (types:List ai) (rs:List aj) (T:ac):Except Flt (List aj):=
 if T.kind==4 then
  if (idxOf T.text (rs.map aj.name)).isSome then .error (210,T.place)
  else if T.num < -1000||1000<T.num then .error (2,T.place)
  else if 64≤rs.length||8<fB T.kids||8<T.kids.length-fB T.kids then .error (204,T.place)
  else match bG (dI d types) ⟨[],[],[]⟩ T.kids with
   | .error e=>.error e
   | .ok s=>.ok (rs++[⟨T.text,T.num,s.vars.length,s.conds,s.acts⟩])
 else .ok rs
def fieldStep(seen:List ByteArray) (T:ac):Except Flt (List ByteArray):=if (idxOf T.text seen).isSome then .error (210,T.place) else .ok (seen++[T.text])
def j8(ts:List ai) (T:ac):Except Flt (List ai):=
 if T.kind==2 then
  if (dn T.text ts).isSome then .error (210,T.place)
  else if 32≤ts.length||6<T.kids.length then .error (204,T.place)
  else match bG fieldStep [] T.kids with
   | .error e=>.error e
   | .ok _=>.ok (ts++[⟨T.text,T.kids.length⟩])
 else .ok ts
def qt(d:Nat) (T:ac):Except Flt cd:=match bG j8 [] T.kids with
 | .error e=>.error e
 | .ok ts=>match bG (j1 d ts) [] T.kids with
  | .error e=>.error e
  | .ok rs=>.ok ⟨ts,rs⟩
def zeroV(v:gY):Bool:=v.kind==0&&v.num==0&&v.text.data.toList.isEmpty
def cJ(v:gY):Bool:=if v.kind==1 then v.text.data.toList.isEmpty else if v.kind==2 then v.num==0&&bv v.text.data.toList else false
def aS(vars:Int) (e:ag):Bool:=
 if e.kind==1 then e.var==0&&e.op==0&&e.kids.isEmpty&&cJ e.val
 else if e.kind==2 then zeroV e.val&&e.op==0&&e.kids.isEmpty&&decide (0≤e.var)&&decide (e.var<vars)
 else if e.kind==3 then zeroV e.val&&e.var==0&&decide (1≤e.op)&&decide (e.op≤11)&&e.kids.length==(if e.op==4||e.op==11 then 1 else 2)
 else false
def bK(vars:Int):Nat→ag→Bool
 | 0,e=>aS vars e
 | d+1,e=>aS vars e&&e.kids.all (bK vars d)
def aY(binds:Bool) (vars:Int) (a:cg):Option Int:=
 if a.kind==1 then if a.var==0&&zeroV a.val then some vars else none
 else if a.kind==2 then if binds&&a.var==vars&&zeroV a.val then some (vars+1) else none
 else if a.kind==3 then if decide (0≤a.var)&&decide (a.var<vars)&&zeroV a.val then some vars else none
 else if a.kind==4&&a.var==0&&cJ a.val then some vars else none
def bQ(binds:Bool):Int→List cg→Option Int
 | v,[]=>some v
 | v,a::l=>match aY binds v a with
  | none=>none
  | some b=>bQ binds b l
def aF(types:List ai) (k n:Int):Bool:=decide (0≤k)&&decide (k<types.length)&&(((types[k.toNat]?).map ai.fields).getD 0==n)
def zeroE(e:ag):Bool:=e.kind==0&&zeroV e.val&&e.var==0&&e.op==0&&e.kids.isEmpty
def bu(d:Nat) (types:List ai) (s:Int×Int) (c:aC):Option (Int×Int):=
 if c.kind==1||c.kind==2 then
  if aF types c.type c.args.length&&zeroE c.test then match bQ (c.kind==1) s.1 c.args with
   | none=>none
   | some v=>some (v,if c.kind==1 then s.2+1 else s.2)
  else none
 else if c.kind==3&&c.type==0&&c.args.isEmpty&&bK s.1 d c.test then some s else none
def cm(d:Nat) (types:List ai):Int×Int→List aC→Option (Int×Int)
 | s,[]=>some s
 | s,c::l=>match bu d types s c with
  | none=>none
  | some a=>cm d types a l
def bf(d:Nat) (types:List ai) (s:Int×Int) (a:aT):Bool:=
 if a.kind==1 then a.which==0&&aF types a.type a.exprs.length&&a.exprs.all (bK s.1 d)
 else if a.kind==2 then a.type==0&&a.exprs.isEmpty&&decide (0≤a.which)&&decide (a.which<s.2)
 else if a.kind==3 then a.type==0&&a.which==0&&!a.exprs.isEmpty&&a.exprs.all (bK s.1 d)
 else a.kind==4&&a.type==0&&a.which==0&&a.exprs.isEmpty
def dU(d:Nat) (types:List ai) (r:aj):Bool:=
 bv r.name.data.toList&&decide (-1000≤r.sal)&&decide (r.sal≤1000)&&decide (r.conds.length≤8)&&decide (r.acts.length≤8) &&
 match cm d types (0,0) r.conds with
 | none=>false
 | some s=>r.vars==s.1&&decide (s.1≤16)&&r.acts.all (bf d types s)
def apartB:List ByteArray→List ByteArray→Bool
 | _,[]=>true
 | seen,x::l=>!(idxOf x seen).isSome&&apartB (seen++[x]) l
def dh(t:ai):Bool:=bv t.name.data.toList&&decide (0≤t.fields)&&decide (t.fields≤6)
def ja(d:Nat) (R:cd):Bool:=
 decide (R.types.length≤32)&&decide (R.rules.length≤64)&&R.types.all dh&&apartB [] (R.types.map ai.name)&&R.rules.all (dU d R.types)&&apartB [] (R.rules.map aj.name)
