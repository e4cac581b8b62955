/- Several texts joined, each with its own sentence and conditions ahead of it: MakM, RitM. -/
import Derived.Test.YtglbjooofdnbkaaGreatDoorME
namespace Go.Proofs.YtglbjooofdnbkaaGreatDoor
open Go.RowKit
structure CVal where
 kind:Int
 num:Int
 text:ByteArray
def CVal.zero:CVal:=⟨0,0,⟨#[]⟩⟩
inductive CExpr where
 | mk (kind:Int) (val:CVal) (var:Int) (op:Int) (kids:List CExpr)
def CExpr.kind:CExpr→Int | .mk k _ _ _ _=>k
def CExpr.val:CExpr→CVal | .mk _ v _ _ _=>v
def CExpr.var:CExpr→Int | .mk _ _ v _ _=>v
def CExpr.op:CExpr→Int | .mk _ _ _ o _=>o
def CExpr.kids:CExpr→List CExpr | .mk _ _ _ _ l=>l
def CExpr.zero:CExpr:=.mk 0 .zero 0 0 []
structure CArg where
 kind:Int
 var:Int
 val:CVal
structure CCond where
 kind:Int
 type:Int
 args:List CArg
 test:CExpr
structure CAct where
 kind:Int
 type:Int
 which:Int
 exprs:List CExpr
structure CType where
 name:ByteArray
 fields:Int
structure CRule where
 name:ByteArray
 sal:Int
 vars:Int
 conds:List CCond
 acts:List CAct
structure CRules where
 types:List CType
 rules:List CRule
abbrev Flt:=Int×Int
def foldE {σ α:Type} (f:σ→α→Except Flt σ):σ→List α→Except Flt σ
 | s,[]=>.ok s
 | s,x::l=>match f s x with
  | .error e=>.error e
  | .ok s'=>foldE f s' l
theorem foldE_append {σ α:Type}(f:σ→α→Except Flt σ):∀(l k:List α)(s:σ),foldE f s (l++k)=match foldE f s l with | .error e=>.error e | .ok s'=>foldE f s' k
 | [],_,_=>rfl
 | x::l,k,s=>by
  show (match f s x with | .error e=>_ | .ok s'=>foldE f s' (l++k))=match (match f s x with | .error e=>_ | .ok s'=>foldE f s' l) with | .error e=>_ | .ok s'=>_
  cases f s x with
  | error e=>rfl
  | ok s'=>exact foldE_append f l k s'
theorem foldE_take {σ α:Type}{f:σ→α→Except Flt σ}{l:List α}{k:Nat}{s s':σ}{x:α}(hx:l[k]? = some x)(h:foldE f s (l.take k)=.ok s'):foldE f s (l.take (k+1))=f s' x:=by
 rw[List.take_add_one,hx,foldE_append,h]
 show (match f s' x with | .error e=>_ | .ok s'=>_)=_
 cases f s' x<;>rfl
theorem foldE_stop {σ α:Type}{f:σ→α→Except Flt σ}{l:List α}{k:Nat}{s:σ}{e:Flt}(h:foldE f s (l.take k)=.error e):foldE f s l=.error e:=by
 rw[←List.take_append_drop k l,foldE_append,h]
def idxB (x:ByteArray):List ByteArray→Nat→Option Nat
 | [],_=>none
 | y::l,k=>if y.data.toList==x.data.toList then some k else idxB x l (k+1)
def idxOf (x:ByteArray) (l:List ByteArray):Option Nat:=idxB x l 0
def numI (t:ByteArray):Int:=
 let n:Int:=(number (strip t.data.toList)).getD 0
 if negB t.data.toList then -n else n
def constM (T:Tree):CVal:=if T.kind==15 then ⟨2,0,T.text⟩ else ⟨1,numI T.text,⟨#[]⟩⟩
def opM (t:List UInt8) (kids:Nat):Int×Bool:=
 if kids==2 then
  if t==[62] then (7,true) else if t==[62,61] then (8,true) else if t==[43] then (1,false) else if t==[45] then (2,false) else if t==[42] then (3,false)
  else if t==[61] then (5,false) else if t==[33,61] then (6,false) else if t==[60] then (7,false) else if t==[60,61] then (8,false) else if t==[97,110,100] then (9,false) else if t==[111,114] then (10,false) else (0,false)
 else if t==[45] then (4,false) else (11,false)
def listE {α β:Type} (f:α→Except Flt β) (l:List α):Except Flt (List β):=foldE (fun ys x=>match f x with | .error e=>.error e | .ok y=>.ok (ys++[y])) [] l
def mkExpr (vars:List ByteArray) (d:Nat):Tree→Except Flt CExpr:=match d with
 | 0=>fun T =>
  if T.kind==14||T.kind==15 then .ok (.mk 1 (constM T) 0 0 [])
  else if T.kind==13 then match idxOf T.text vars with
   | some k=>.ok (.mk 2 .zero k 0 [])
   | none=>.error (213,T.place)
  else .ok (.mk 3 .zero 0 (opM T.text.data.toList T.kids.length).1 [])
 | d+1=>fun T =>
  if T.kind==14||T.kind==15 then .ok (.mk 1 (constM T) 0 0 [])
  else if T.kind==13 then match idxOf T.text vars with
   | some k=>.ok (.mk 2 .zero k 0 [])
   | none=>.error (213,T.place)
  else match listE (mkExpr vars d) T.kids with
   | .error e=>.error e
   | .ok ks=>.ok (.mk 3 .zero 0 (opM T.text.data.toList T.kids.length).1 (if (opM T.text.data.toList T.kids.length).2 then ks.reverse else ks))
def argStep (binds:Bool) (s:List ByteArray×List CArg) (T:Tree):Except Flt (List ByteArray×List CArg):=
 if T.kind==12 then .ok (s.1,s.2++[⟨1,0,.zero⟩])
 else if T.kind==13 then match idxOf T.text s.1 with
  | some k=>.ok (s.1,s.2++[⟨3,k,.zero⟩])
  | none=>if !binds then .error (213,T.place) else if 16≤s.1.length then .error (204,T.place) else .ok (s.1++[T.text],s.2++[⟨2,s.1.length,.zero⟩])
 else .ok (s.1,s.2++[⟨4,0,constM T⟩])
def typeIdx (x:ByteArray) (l:List CType):Option Nat:=idxOf x (l.map CType.name)
def typedM (types:List CType) (T:Tree):Except Flt Nat:=match typeIdx T.text types with
 | none=>.error (211,T.place)
 | some k=>if ((types[k]?).map CType.fields).getD 0==(T.kids.length:Int) then .ok k else .error (212,T.place)
structure RSt where
 vars:List ByteArray
 conds:List CCond
 acts:List CAct
def factsM (l:List CCond):Nat:=(l.filter (fun c=>c.kind==1)).length
def partStep (d:Nat) (types:List CType) (s:RSt) (T:Tree):Except Flt RSt:=
 if T.kind==5||T.kind==6 then match typedM types T with
  | .error e=>.error e
  | .ok k=>match foldE (argStep (T.kind==5)) (s.vars,[]) T.kids with
   | .error e=>.error e
   | .ok r=>.ok ⟨r.1,s.conds++[⟨if T.kind==6 then 2 else 1,k,r.2,.zero⟩],s.acts⟩
 else if T.kind==7 then match T.kids with
  | []=>.ok s
  | t::_=>match mkExpr s.vars d t with
   | .error e=>.error e
   | .ok x=>.ok ⟨s.vars,s.conds++[⟨3,0,[],x⟩],s.acts⟩
 else if T.kind==8 then match typedM types T with
  | .error e=>.error e
  | .ok k=>match listE (mkExpr s.vars d) T.kids with
   | .error e=>.error e
   | .ok xs=>.ok ⟨s.vars,s.conds,s.acts++[⟨1,k,0,xs⟩]⟩
 else if T.kind==9 then
  if T.num<1||(factsM s.conds:Int)<T.num then .error (214,T.place) else .ok ⟨s.vars,s.conds,s.acts++[⟨2,0,T.num-1,[]⟩]⟩
 else if T.kind==10 then match listE (mkExpr s.vars d) T.kids with
  | .error e=>.error e
  | .ok xs=>.ok ⟨s.vars,s.conds,s.acts++[⟨3,0,0,xs⟩]⟩
 else .ok ⟨s.vars,s.conds,s.acts++[⟨4,0,0,[]⟩]⟩
def condsM (l:List Tree):Nat:=(l.takeWhile condB).length
def ruleStep (d:Nat) (types:List CType) (rs:List CRule) (T:Tree):Except Flt (List CRule):=
 if T.kind==4 then
  if (idxOf T.text (rs.map CRule.name)).isSome then .error (210,T.place)
  else if T.num < -1000||1000<T.num then .error (2,T.place)
  else if 64≤rs.length||8<condsM T.kids||8<T.kids.length-condsM T.kids then .error (204,T.place)
  else match foldE (partStep d types) ⟨[],[],[]⟩ T.kids with
   | .error e=>.error e
   | .ok s=>.ok (rs++[⟨T.text,T.num,s.vars.length,s.conds,s.acts⟩])
 else .ok rs
def fieldStep (seen:List ByteArray) (T:Tree):Except Flt (List ByteArray):=if (idxOf T.text seen).isSome then .error (210,T.place) else .ok (seen++[T.text])
def typeStep (ts:List CType) (T:Tree):Except Flt (List CType):=
 if T.kind==2 then
  if (typeIdx T.text ts).isSome then .error (210,T.place)
  else if 32≤ts.length||6<T.kids.length then .error (204,T.place)
  else match foldE fieldStep [] T.kids with
   | .error e=>.error e
   | .ok _=>.ok (ts++[⟨T.text,T.kids.length⟩])
 else .ok ts
def makeM (d:Nat) (T:Tree):Except Flt CRules:=match foldE typeStep [] T.kids with
 | .error e=>.error e
 | .ok ts=>match foldE (ruleStep d ts) [] T.kids with
  | .error e=>.error e
  | .ok rs=>.ok ⟨ts,rs⟩
def zeroV (v:CVal):Bool:=v.kind==0&&v.num==0&&v.text.data.toList.isEmpty
def valOk (v:CVal):Bool:=if v.kind==1 then v.text.data.toList.isEmpty else if v.kind==2 then v.num==0&&namedF v.text.data.toList else false
def exprTop (vars:Int) (e:CExpr):Bool:=
 if e.kind==1 then e.var==0&&e.op==0&&e.kids.isEmpty&&valOk e.val
 else if e.kind==2 then zeroV e.val&&e.op==0&&e.kids.isEmpty&&decide (0≤e.var)&&decide (e.var<vars)
 else if e.kind==3 then zeroV e.val&&e.var==0&&decide (1≤e.op)&&decide (e.op≤11)&&e.kids.length==(if e.op==4||e.op==11 then 1 else 2)
 else false
def exprOk (vars:Int):Nat→CExpr→Bool
 | 0,e=>exprTop vars e
 | d+1,e=>exprTop vars e&&e.kids.all (exprOk vars d)
def argOk (binds:Bool) (vars:Int) (a:CArg):Option Int:=
 if a.kind==1 then if a.var==0&&zeroV a.val then some vars else none
 else if a.kind==2 then if binds&&a.var==vars&&zeroV a.val then some (vars+1) else none
 else if a.kind==3 then if decide (0≤a.var)&&decide (a.var<vars)&&zeroV a.val then some vars else none
 else if a.kind==4&&a.var==0&&valOk a.val then some vars else none
def argsOk (binds:Bool):Int→List CArg→Option Int
 | v,[]=>some v
 | v,a::l=>match argOk binds v a with
  | none=>none
  | some v'=>argsOk binds v' l
def fitsType (types:List CType) (k n:Int):Bool:=decide (0≤k)&&decide (k<types.length)&&(((types[k.toNat]?).map CType.fields).getD 0==n)
def zeroE (e:CExpr):Bool:=e.kind==0&&zeroV e.val&&e.var==0&&e.op==0&&e.kids.isEmpty
def condOk (d:Nat) (types:List CType) (s:Int×Int) (c:CCond):Option (Int×Int):=
 if c.kind==1||c.kind==2 then
  if fitsType types c.type c.args.length&&zeroE c.test then match argsOk (c.kind==1) s.1 c.args with
   | none=>none
   | some v=>some (v,if c.kind==1 then s.2+1 else s.2)
  else none
 else if c.kind==3&&c.type==0&&c.args.isEmpty&&exprOk s.1 d c.test then some s else none
def condsOk (d:Nat) (types:List CType):Int×Int→List CCond→Option (Int×Int)
 | s,[]=>some s
 | s,c::l=>match condOk d types s c with
  | none=>none
  | some s'=>condsOk d types s' l
def actOk (d:Nat) (types:List CType) (s:Int×Int) (a:CAct):Bool:=
 if a.kind==1 then a.which==0&&fitsType types a.type a.exprs.length&&a.exprs.all (exprOk s.1 d)
 else if a.kind==2 then a.type==0&&a.exprs.isEmpty&&decide (0≤a.which)&&decide (a.which<s.2)
 else if a.kind==3 then a.type==0&&a.which==0&&!a.exprs.isEmpty&&a.exprs.all (exprOk s.1 d)
 else a.kind==4&&a.type==0&&a.which==0&&a.exprs.isEmpty
def ruleOk (d:Nat) (types:List CType) (r:CRule):Bool:=
 namedF r.name.data.toList&&decide (-1000≤r.sal)&&decide (r.sal≤1000)&&decide (r.conds.length≤8)&&decide (r.acts.length≤8) &&
 match condsOk d types (0,0) r.conds with
 | none=>false
 | some s=>r.vars==s.1&&decide (s.1≤16)&&r.acts.all (actOk d types s)
def apartB:List ByteArray→List ByteArray→Bool
 | _,[]=>true
 | seen,x::l=>!(idxOf x seen).isSome&&apartB (seen++[x]) l
def typeOk (t:CType):Bool:=namedF t.name.data.toList&&decide (0≤t.fields)&&decide (t.fields≤6)
def rulesOk (d:Nat) (R:CRules):Bool:=
 decide (R.types.length≤32)&&decide (R.rules.length≤64)&&R.types.all typeOk&&apartB [] (R.types.map CType.name)&&R.rules.all (ruleOk d R.types)&&apartB [] (R.rules.map CRule.name)
end Go.Proofs.YtglbjooofdnbkaaGreatDoor
