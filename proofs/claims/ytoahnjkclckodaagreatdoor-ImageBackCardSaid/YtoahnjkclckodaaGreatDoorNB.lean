/- Parts of one proof, joined; conditions stand in each theorem. -/
import Derived.Test.YtoahnjkclckodaaGreatDoorMD
import Derived.Test.YtoahnjkclckodaaGreatDoorMA
import Derived.Test.YtoahnjkclckodaaGreatDoorShelf
import Derived.Great.BuildSlice
import Derived.Test.YtoahnjkclckodaaGreatDoorMT
import Derived.Test.YtoahnjkclckodaaGreatDoorNG
open Except renaming ok→xn,error→zs
open Option renaming some→A,none→Y
open Bool renaming true→tT,false→ur
open Decidable renaming decide→wj
open Go renaming World→J,Value→tS,Addr→z7,TypeId→xD
open Go.Value renaming slice→O
open Or renaming inl→wD,inr→wF
open Go.Proofs.Tryz renaming prog→va
namespace Go.Proofs.YtoahnjkclckodaaGreatDoor
open Go.RowKit
structure aE where
 q:Int
 u:Int
 h:ByteArray
def aE.zero:aE:=⟨0,0,⟨#[]⟩⟩
inductive ak where
 | mk (kind:Int) (val:aE) (var:Int) (op:Int) (kids:List ak)
def ak.q:ak→Int | .mk k _ _ _ _=>k
def ak.h:ak→aE | .mk _ v _ _ _=>v
def ak.u:ak→Int | .mk _ _ v _ _=>v
def ak.op:ak→Int | .mk _ _ _ o _=>o
def ak.z:ak→List ak | .mk _ _ _ _ l=>l
def ak.zero:ak:=.mk 0 .zero 0 0 []
structure fe where
 q:Int
 u:Int
 h:aE
structure bj where
 q:Int
 u:Int
 c:List fe
 a:ak
structure dr where
 q:Int
 u:Int
 which:Int
 exprs:List ak
structure am where
 c:ByteArray
 a:Int
structure aD where
 c:ByteArray
 sal:Int
 b:Int
 a:List bj
 d:List dr
structure dc where
 c:List am
 a:List aD
abbrev Flt:=Int×Int
def aV{σ α:Type} (f:σ→α→Except Flt σ):σ→List α→Except Flt σ
 | s,[]=>xn s
 | s,x::l=>match f s x with
  | .error e=>zs e
  | .ok s'=>aV f s' l
theorem j1{σ α:Type}(f:σ→α→Except Flt σ):∀(l k:List α) (s:σ),aV f s (l++k)=match aV f s l with | .error e=>zs e | .ok s'=>aV f s' k
 | [],_,_=>rfl
 | x::l,k,s=>by
  show (match f s x with | .error e=>_ | .ok s'=>aV f s' (l++k))=match (match f s x with | .error e=>_ | .ok s'=>aV f s' l) with | .error e=>_ | .ok s'=>_
  cases f s x with
  | error e=>rfl
  | ok s'=>exact j1 f l k s'
theorem iU{σ α:Type}{f:σ→α→Except Flt σ}{l:List α}{k:Nat}{s s':σ}{x:α}(a:l[k]?=A x)(h:aV f s (l.take k)=xn s'):aV f s (l.take (k+1))=f s' x:=by
 rw[Kj,a,j1,h]
 show (match f s' x with | .error e=>_ | .ok s'=>_)=_
 cases f s' x<;>rfl
theorem jS{σ α:Type}{f:σ→α→Except Flt σ}{l:List α}{k:Nat}{s:σ}{e:Flt}(h:aV f s (l.take k)=zs e):aV f s l=zs e:=by rw[←List.take_append_drop k l,j1,h]
def jt(x:ByteArray):List ByteArray→Nat→Option Nat
 | [],_=>Y
 | y::l,k=>if y.data.toList==x.data.toList then A k else jt x l (k+1)
def idxOf(x:ByteArray) (l:List ByteArray):Option Nat:=jt x l 0
def ot(t:ByteArray):Int:=
 let n:Int:=(number (strip t.data.toList)).getD 0
 if fH t.data.toList then -n else n
def br(T:ac):aE:=if T.q==15 then ⟨2,0,T.h⟩ else ⟨1,ot T.h,⟨#[]⟩⟩
def opM(t:List UInt8) (kids:Nat):Int×Bool:=
 if kids==2 then
  if t==[62] then (7,tT) else if t==[62,61] then (8,tT) else if t==[43] then (1,ur) else if t==[45] then (2,ur) else if t==[42] then (3,ur)
  else if t==[61] then (5,ur) else if t==[33,61] then (6,ur) else if t==[60] then (7,ur) else if t==[60,61] then (8,ur) else if t==[97,110,100] then (9,ur) else if t==[111,114] then (10,ur) else (0,ur)
 else if t==[45] then (4,ur) else (11,ur)
def cF{α β:Type} (f:α→Except Flt β) (l:List α):Except Flt (List β):=aV (fun ys x=>match f x with | .error e=>zs e | .ok y=>xn (ys++[y])) [] l
def aJ(vars:List ByteArray) (d:Nat):ac→Except Flt ak:=match d with
 | 0=>fun T =>
  if T.q==14||T.q==15 then xn (.mk 1 (br T) 0 0 [])
  else if T.q==13 then match idxOf T.h vars with
   | some k=>xn (.mk 2 .zero k 0 [])
   | none=>zs (213,T.C)
  else xn (.mk 3 .zero 0 (opM T.h.data.toList T.z.length).1 [])
 | d+1=>fun T =>
  if T.q==14||T.q==15 then xn (.mk 1 (br T) 0 0 [])
  else if T.q==13 then match idxOf T.h vars with
   | some k=>xn (.mk 2 .zero k 0 [])
   | none=>zs (213,T.C)
  else match cF (aJ vars d) T.z with
   | .error e=>zs e
   | .ok ks=>xn (.mk 3 .zero 0 (opM T.h.data.toList T.z.length).1 (if (opM T.h.data.toList T.z.length).2 then ks.reverse else ks))
def cg(binds:Bool) (s:List ByteArray×List fe) (T:ac):Except Flt (List ByteArray×List fe):=
 if T.q==12 then xn (s.1,s.2++[⟨1,0,.zero⟩])
 else if T.q==13 then match idxOf T.h s.1 with
  | some k=>xn (s.1,s.2++[⟨3,k,.zero⟩])
  | none=>if !binds then zs (213,T.C) else if 16≤s.1.length then zs (204,T.C) else xn (s.1++[T.h],s.2++[⟨2,s.1.length,.zero⟩])
 else xn (s.1,s.2++[⟨4,0,br T⟩])
def dE(x:ByteArray) (l:List am):Option Nat:=idxOf x (l.map am.c)
def cM(types:List am) (T:ac):Except Flt Nat:=match dE T.h types with
 | none=>zs (211,T.C)
 | some k=>if ((types[k]?).map am.a).getD 0==(T.z.length:Int) then xn k else zs (212,T.C)
structure RSt where
 b:List ByteArray
 a:List bj
 d:List dr
def aK(l:List bj):Nat:=(l.filter (fun c=>c.q==1)).length
def cK(d:Nat) (types:List am) (s:RSt) (T:ac):Except Flt RSt:=
 if T.q==5||T.q==6 then match cM types T with
  | .error e=>zs e
  | .ok k=>match aV (cg (T.q==5)) (s.b,[]) T.z with
   | .error e=>zs e
   | .ok r=>xn ⟨r.1,s.a++[⟨if T.q==6 then 2 else 1,k,r.2,.zero⟩],s.d⟩
 else if T.q==7 then match T.z with
  | []=>xn s
  | t::_=>match aJ s.b d t with
   | .error e=>zs e
   | .ok x=>xn ⟨s.b,s.a++[⟨3,0,[],x⟩],s.d⟩
 else if T.q==8 then match cM types T with
  | .error e=>zs e
  | .ok k=>match cF (aJ s.b d) T.z with
   | .error e=>zs e
   | .ok xs=>xn ⟨s.b,s.a,s.d++[⟨1,k,0,xs⟩]⟩
 else if T.q==9 then
  if T.u<1||(aK s.a:Int)<T.u then zs (214,T.C) else xn ⟨s.b,s.a,s.d++[⟨2,0,T.u-1,[]⟩]⟩
 else if T.q==10 then match cF (aJ s.b d) T.z with
  | .error e=>zs e
  | .ok xs=>xn ⟨s.b,s.a,s.d++[⟨3,0,0,xs⟩]⟩
 else xn ⟨s.b,s.a,s.d++[⟨4,0,0,[]⟩]⟩
def fO(l:List ac):Nat:=(l.takeWhile a9).length
def gi(d:Nat) (types:List am) (rs:List aD) (T:ac):Except Flt (List aD):=
 if T.q==4 then
  if (idxOf T.h (rs.map aD.c)).isSome then zs (210,T.C)
  else if T.u < -1000||1000<T.u then zs (2,T.C)
  else if 64≤rs.length||8<fO T.z||8<T.z.length-fO T.z then zs (204,T.C)
  else match aV (cK d types) ⟨[],[],[]⟩ T.z with
   | .error e=>zs e
   | .ok s=>xn (rs++[⟨T.h,T.u,s.b.length,s.a,s.d⟩])
 else xn rs
def fieldStep(seen:List ByteArray) (T:ac):Except Flt (List ByteArray):=if (idxOf T.h seen).isSome then zs (210,T.C) else xn (seen++[T.h])
def gn(ts:List am) (T:ac):Except Flt (List am):=
 if T.q==2 then
  if (dE T.h ts).isSome then zs (210,T.C)
  else if 32≤ts.length||6<T.z.length then zs (204,T.C)
  else match aV fieldStep [] T.z with
   | .error e=>zs e
   | .ok _=>xn (ts++[⟨T.h,T.z.length⟩])
 else xn ts
def lz(d:Nat) (T:ac):Except Flt dc:=match aV gn [] T.z with
 | .error e=>zs e
 | .ok ts=>match aV (gi d ts) [] T.z with
  | .error e=>zs e
  | .ok rs=>xn ⟨ts,rs⟩
def zeroV(v:aE):Bool:=v.q==0&&v.u==0&&v.h.data.toList.isEmpty
def dV(v:aE):Bool:=if v.q==1 then v.h.data.toList.isEmpty else if v.q==2 then v.u==0&&cL v.h.data.toList else ur
def ey(vars:Int) (e:ak):Bool:=
 if e.q==1 then e.u==0&&e.op==0&&e.z.isEmpty&&dV e.h
 else if e.q==2 then zeroV e.h&&e.op==0&&e.z.isEmpty&&wj (0≤e.u)&&wj (e.u<vars)
 else if e.q==3 then zeroV e.h&&e.u==0&&wj (1≤e.op)&&wj (e.op≤11)&&e.z.length==(if e.op==4||e.op==11 then 1 else 2)
 else ur
def fK(vars:Int):Nat→ak→Bool
 | 0,e=>ey vars e
 | d+1,e=>ey vars e&&e.z.all (fK vars d)
def kr(binds:Bool) (vars:Int) (a:fe):Option Int:=
 if a.q==1 then if a.u==0&&zeroV a.h then A vars else Y
 else if a.q==2 then if binds&&a.u==vars&&zeroV a.h then A (vars+1) else Y
 else if a.q==3 then if wj (0≤a.u)&&wj (a.u<vars)&&zeroV a.h then A vars else Y
 else if a.q==4&&a.u==0&&dV a.h then A vars else Y
def l5(binds:Bool):Int→List fe→Option Int
 | v,[]=>A v
 | v,a::l=>match kr binds v a with
  | none=>Y
  | some b=>l5 binds b l
def oC(types:List am) (k n:Int):Bool:=wj (0≤k)&&wj (k<types.length)&&(((types[k.toNat]?).map am.a).getD 0==n)
def zeroE(e:ak):Bool:=e.q==0&&zeroV e.h&&e.u==0&&e.op==0&&e.z.isEmpty
def iJ(d:Nat) (types:List am) (s:Int×Int) (c:bj):Option (Int×Int):=
 if c.q==1||c.q==2 then
  if oC types c.u c.c.length&&zeroE c.a then match l5 (c.q==1) s.1 c.c with
   | none=>Y
   | some v=>A (v,if c.q==1 then s.2+1 else s.2)
  else Y
 else if c.q==3&&c.u==0&&c.c.isEmpty&&fK s.1 d c.a then A s else Y
def iY(d:Nat) (types:List am):Int×Int→List bj→Option (Int×Int)
 | s,[]=>A s
 | s,c::l=>match iJ d types s c with
  | none=>Y
  | some s'=>iY d types s' l
def kt(d:Nat) (types:List am) (s:Int×Int) (a:dr):Bool:=
 if a.q==1 then a.which==0&&oC types a.u a.exprs.length&&a.exprs.all (fK s.1 d)
 else if a.q==2 then a.u==0&&a.exprs.isEmpty&&wj (0≤a.which)&&wj (a.which<s.2)
 else if a.q==3 then a.u==0&&a.which==0&&!a.exprs.isEmpty&&a.exprs.all (fK s.1 d)
 else a.q==4&&a.u==0&&a.which==0&&a.exprs.isEmpty
def lP(d:Nat) (types:List am) (r:aD):Bool:=
 cL r.c.data.toList&&wj (-1000≤r.sal)&&wj (r.sal≤1000)&&wj (r.a.length≤8)&&wj (r.d.length≤8) &&
 match iY d types (0,0) r.a with
 | none=>ur
 | some s=>r.b==s.1&&wj (s.1≤16)&&r.d.all (kt d types s)
def apartB:List ByteArray→List ByteArray→Bool
 | _,[]=>tT
 | seen,x::l=>!(idxOf x seen).isSome&&apartB (seen++[x]) l
def qu(t:am):Bool:=cL t.c.data.toList&&wj (0≤t.a)&&wj (t.a≤6)
def nD(d:Nat) (R:dc):Bool:=
 wj (R.c.length≤32)&&wj (R.a.length≤64)&&R.c.all qu&&apartB [] (R.c.map am.c)&&R.a.all (lP d R.c)&&apartB [] (R.a.map aD.c)
structure Rd (α:Type) where
 n:Nat
 at_:J→(Nat→Prop)→α→List tS→Prop
 len:∀{w F x vs},at_ w F x vs→vs.length=n
 K:∀{w w':J} {F x vs},(∀b,F b→∀o,w.heap[b]?=A o→w'.heap[b]?=A o)→at_ w F x vs→at_ w' F x vs
 N:∀{w:J} {F G:Nat→Prop} {x vs},(∀b,F b→G b)→at_ w F x vs→at_ w G x vs
 one:∀{w F x vs},at_ w F x vs→∀u∈vs,u.oneCell'=tT
def Rd.h{α:Type} (r:Rd α) (w:J) (F:Nat→Prop) (xs:List α) (v:tS):Prop:=
 (xs=[]∧∃p c,v=O p 0 c)∨∃b off cap,xs≠[]∧F b∧b<w.heap.size∧xs.length≤cap∧cap≤maxLen∧v=O (A ⟨b,off,Y⟩) xs.length cap∧
  ∀i x,xs[i]?=A x→∃vs,r.at_ w F x vs∧∀m u,vs[m]?=A u→w.cell? ⟨b,off+i*r.n+m,Y⟩=A u
theorem CP{w w':J}{b:Nat}(h:∀o,w.heap[b]?=A o→w'.heap[b]?=A o){i:Nat}{u:tS}(a:w.cell? ⟨b,i,Y⟩=A u):w'.cell? ⟨b,i,Y⟩=A u:=by
 obtain⟨o,d⟩:∃o,w.heap[b]?=A o:=by
  cases f:w.heap[b]? with
  | none=>unfold World.cell? at a;simp[f]at a
  | some o=>exact⟨o,Z⟩
 have e:w'.heap[b]?=w.heap[b]?:=(h o d).trans d.symm;have:w'.cell? ⟨b,i,Y⟩=w.cell? ⟨b,i,Y⟩:=by unfold World.cell?;simp only[e]
 rw[this];exact a
section
variable {α:Type} {r:Rd α} {w w':J} {F G:Nat→Prop} {xs:List α} {v:tS}
theorem Rd.sv(d:∀b,F b→∀o,w.heap[b]?=A o→w'.heap[b]?=A o)(h:r.h w F xs v):r.h w' F xs v:=by
 rcases h with h|⟨b,off,cap,g,e,f,j,k,l,q⟩
 ·exact wD h
 ·have a:b<w'.heap.size:=(JL.1 (d b e _ (Array.getElem?_eq_getElem f))).1;refine wF ⟨b,off,cap,g,e,a,j,k,l,fun i x t=>?_⟩;obtain⟨vs,y,z⟩:=q i x t;exact⟨vs,r.K d y,fun m u hu=>CP (d b e) (z m u hu)⟩
theorem Rd.sI(d:∀b,F b→G b)(h:r.h w F xs v):r.h w G xs v:=by
 rcases h with h|⟨b,off,cap,e,f,a,g,j,k,l⟩
 ·exact wD h
 ·refine wF ⟨b,off,cap,e,d b f,a,g,j,k,fun i x m=>?_⟩;obtain⟨vs,o,q⟩:=l i x m;exact⟨vs,r.N d o,q⟩
theorem Rd.q(h:r.h w F xs v):∃p c,v=O p xs.length c:=by
 rcases h with ⟨rfl,p,c,rfl⟩|⟨b,off,cap,d,e,_,f,g,a,i⟩
 ·exact⟨p,c,Z⟩
 ·exact⟨_,_,a⟩
theorem Rd.tk{p:Option z7}{c:Nat}:r.h w F [] (O p 0 c):=wD ⟨Z,p,c,Z⟩
theorem Rd.X{i:Nat}{x:α}(h:r.h w F xs v)(d:xs[i]?=A x):∃b off cap vs,v=O (A ⟨b,off,Y⟩) xs.length cap∧xs.length≤cap∧cap≤maxLen∧F b∧b<w.heap.size∧r.at_ w F x vs∧∀m u,vs[m]?=A u→w.cell? ⟨b,off+i*r.n+m,Y⟩=A u:=by
 rcases h with ⟨rfl,_⟩|⟨b,off,cap,q,e,a,f,g,j,k⟩
 ·simp at d
 ·obtain⟨vs,l,o⟩:=k i x d;exact⟨b,off,cap,vs,j,f,g,e,a,l,o⟩
theorem Rd.sb(h:r.h w F xs v):xs.length≤maxLen:=by
 rcases h with ⟨rfl,_⟩|⟨b,off,cap,a,d,_,e,f,_⟩
 ·exact J0 _
 ·omega
end
def Rd.u(k:IntKind) (lo hi:Int):Rd Int where
 n:=1
 at_ _ _ x vs:=vs=[Value.int k x]∧lo≤x∧x<hi
 len h:=by rw[h.1];rfl
 K _ h:=h
 N _ h:=h
 one h:=by rw[h.1];intro u hu;obtain rfl:=List.mem_singleton.1 hu;rfl
def Rd.int:Rd Int:=Rd.u IntKind.i64 (-9223372036854775808) 9223372036854775808
def Rd.u8:Rd Int:=Rd.u IntKind.u8 0 256
def Rd.str:Rd ByteArray where
 n:=1
 at_ _ _ x vs:=vs=[Value.string x]∧x.size≤maxLen
 len h:=by rw[h.1];rfl
 K _ h:=h
 N _ h:=h
 one h:=by rw[h.1];intro u hu;obtain rfl:=List.mem_singleton.1 hu;rfl
def Rd.list{α:Type} (r:Rd α):Rd (List α) where
 n:=1
 at_ w F xs vs:=∃v,vs=[v]∧r.h w F xs v
 len:=by rintro w F x vs ⟨v,rfl,_⟩;rfl
 K:=by rintro w w' F x vs a ⟨v,rfl,h⟩;exact⟨v,Z,Rd.sv a h⟩
 N:=by rintro w F G x vs b ⟨v,rfl,h⟩;exact⟨v,Z,Rd.sI b h⟩
 one:=by
  rintro w F x vs ⟨v,rfl,h⟩ u hu;obtain rfl:=List.mem_singleton.1 hu;obtain⟨p,c,rfl⟩:=Rd.q h;rfl
def Rd.rv{α β:Type} (r:Rd α) (s:Rd β):Rd (α×β) where
 n:=r.n+s.n
 at_ w F x vs:=∃us ws,vs=us++ws∧r.at_ w F x.1 us∧s.at_ w F x.2 ws
 len:=by rintro w F x vs ⟨us,ws,rfl,a,b⟩;rw[J2,r.len a,s.len b]
 K:=by rintro w w' F x vs d ⟨us,ws,rfl,a,b⟩;exact⟨us,ws,Z,r.K d a,s.K d b⟩
 N:=by rintro w F G x vs e ⟨us,ws,rfl,a,b⟩;exact⟨us,ws,Z,r.N e a,s.N e b⟩
 one:=by
  rintro w F x vs ⟨us,ws,rfl,a,b⟩ u hu;rcases List.mem_append.1 hu with h|h
  ·exact r.one a u h
  ·exact s.one b u h
def Rd.as{α β:Type} (r:Rd α) (f:β→α):Rd β where
 n:=r.n
 at_ w F x vs:=r.at_ w F (f x) vs
 len h:=r.len h
 K a h:=r.K a h
 N b h:=r.N b h
 one h:=r.one h
section
variable {α:Type} {r:Rd α} {w w':J} {F G:Nat→Prop} {xs:List α} {x:α} {v:tS} {vs:List tS}
theorem Rd.sm(h:r.h w F xs v){B:Nat}(hF:∀b,F b→b<B)(a:Below B w w'):r.h w' F xs v:=
 Rd.sv (fun b d _ e=>(a.block b (hF b d)).trans e) h
def Rd.z(r:Rd α) (w:J) (F:Nat→Prop) (xs:List α) (us:List tS):Prop:=us.length=xs.length*r.n∧∀i x,xs[i]?=A x→∃vs,r.at_ w F x vs∧∀m u,vs[m]?=A u→us[i*r.n+m]?=A u
theorem Rd.tv:r.z w F [] []:=⟨by simp,fun i x a=>by simp at a⟩
theorem Rd.th{us:List tS}(h:r.z w F xs us)(d:r.at_ w F x vs):r.z w F (xs++[x]) (us++vs):=by
 obtain⟨e,f⟩:=h;have g:=r.len d;refine⟨by rw[J2,e,g,J2,Ko,Nat.add_mul,Nat.one_mul],fun i y a=>?_⟩
 by_cases hi:i<xs.length
 ·rw[Kl hi]at a;obtain⟨ws,j,k⟩:=f i y a;refine⟨ws,j,fun m u hu=>?_⟩;have:=k m u hu;rw[Kl (J3.1 this).1];exact this
 ·have b:=(J3.1 a).1;rw[J2,Ko]at b;obtain rfl:i=xs.length:=by omega
  rw[Kd (JM _),Nat.sub_self]at a;simp only[List.getElem?_cons_zero,o6]at a;subst a;refine⟨vs,d,fun m u hu=>?_⟩;rw[←e,Kd (Nat.le_add_right _ _),Nat.add_sub_cancel_left];exact hu
theorem Rd.tE{us:List tS}(a:∀b,F b→∀o,w.heap[b]?=A o→w'.heap[b]?=A o)(h:r.z w F xs us):r.z w' F xs us:=
 ⟨h.1,fun i x d=>by obtain⟨vs,e,f⟩:=h.2 i x d;exact⟨vs,r.K a e,f⟩⟩
theorem Rd.tF{us:List tS}(a:∀b,F b→G b)(h:r.z w F xs us):r.z w G xs us:=
 ⟨h.1,fun i x d=>by obtain⟨vs,e,f⟩:=h.2 i x d;exact⟨vs,r.N a e,f⟩⟩
theorem Rd.row_own{us:List tS}{base:Nat}{e:xD}(a:w.ownsRow base e r.n v xs.length us)(f:r.z w F xs us)(hF:∀g,v.ownBlock=A g→F g):r.h w F xs v:=by
 obtain⟨t,⟨rfl,h⟩|⟨g,cap,cur,rfl,y,b,j,k,z,l⟩⟩:=a
 ·have:xs=[]:=Kb h;subst this;exact wD ⟨Z,Y,0,Z⟩
 ·by_cases d:xs=[]
  ·subst d;exact wD ⟨Z,_,_,Z⟩
  ·refine wF ⟨g,0,cap,d,hF g Z,(JL.1 b).1,j,k,Z,fun i x hi=>?_⟩;obtain⟨vs,o,q⟩:=f.2 i x hi;refine⟨vs,o,fun m u hu=>?_⟩;have:=q m u hu;rw[←l,List.getElem?_take]at this
   split at this
   ·rw[Kq _ _ _ _ _ _ b,Nat.zero_add]
    simpa using this
   ·cases this
end
structure Elem (E S:xD) (n bytes:Nat):Prop where
 und:Tryz.prog.underlying S=A (.slice E)
 info:∃i z,Tryz.prog.info? E=A i∧i.zero=A z∧i.size=n∧i.bytes=bytes∧z.cells.size=n
 pos:0<n
 small:n≤64∧bytes≤1000
theorem Elem.of{E S:xD}{n bytes:Nat}{z:tS}(hu:Tryz.prog.underlying S=A (.slice E))(hi:(Tryz.prog.info? E).map (fun i=>(i.zero,i.size,i.bytes))=A (A z,n,bytes))(a:z.cells.size=n)(b:0<n)(d:n≤64∧bytes≤1000):Elem E S n bytes:=by
 obtain⟨i,e,f,g,h⟩:=info_parts hi;exact⟨hu,⟨i,z,e,f,g,h,a⟩,b,d⟩
theorem foldl_set:∀(l:List tS) (k:Nat) (a:Array tS),k+l.length≤a.size→∀i,((l.zipIdx k).foldl (fun cs (p:tS×Nat)=>cs.setIfInBounds (0+p.2) p.1) a)[i]?=if k≤i∧i<k+l.length then l[i-k]? else a[i]?
 | [],k,a,_,i=>by simp;omega
 | x::l,k,a,h,i=>by
  rw[Kf]at h;rw[List.zipIdx_cons,List.foldl_cons,foldl_set l (k+1) _ (by simp;omega) i];rw[Kf]
  by_cases d:i=k
  ·subst d;rw[oe (by omega),oj (by omega),Nat.zero_add,Array.getElem?_setIfInBounds_self,oj (by omega),Nat.sub_self];rfl
  ·by_cases b:k+1≤i∧i<k+1+l.length
   ·rw[oj b,oj (by omega),show i-k=(i-(k+1))+1 by omega,Km]
   ·rw[oe b,oe (by omega),Nat.zero_add,Array.getElem?_setIfInBounds_ne (by omega)]
theorem GT(n:Nat)(cells:Array tS)(v:tS)(e:cells.size=1*n)(d:v.cells.size=n):Instr.fill (fun i=>A (i*n,n)) cells [(0,v)]=A v.cells:=by
 have a:(wj (v.cells.size≠n)||decide (0*n+v.cells.size > cells.size))=false:=by
  have b:cells.size=n:=by omega
  rw[Nat.zero_mul,d,b];simp
 unfold Instr.fill;dsimp only;rw[a];unfold Instr.fill;simp only[Ka,oF,Nat.zero_mul]
 congr 1
 rw[←Array.foldl_toList,Array.toList_zipIdx];apply Array.ext_getElem?;intro i;have h:=foldl_set v.cells.toList 0 cells (by rw[Kc,d,e];omega) i;rw[h];have f:v.cells.toList.length=v.cells.size:=Kc
 by_cases hi:i<n
 ·rw[oj (by omega)];simp
 ·rw[oe (by omega),Kn (by omega),Kn (by omega)]
section
variable {E S:xD} {sz bytes:Nat}
def One(E:xD) (L:Nat) (vs:List tS) (W:J) (v:tS):Prop:=∃g,v=O (A ⟨g,0,Y⟩) 1 1∧L≤g∧W.heap[g]?=A (Obj.cells vs.toArray E (0,0))
theorem One.C{L:Nat}{vs:List tS}{W W':J}{v:tS}(h:One E L vs W v)(b:Kr W W'):One E L vs W' v:=by
 obtain⟨g,d,e,a⟩:=h;exact⟨g,d,e,aa b a (JL.1 a).1⟩
theorem ek(e:Elem E S sz bytes){o:Oper}{a:Act}{W:J}{G:tS→J→Prop}{L:Nat}{vs:List tS}(x:Operand)(i:o.op=.buildSlice S 1 #[(0,x)])(h:(a.eval x).cells=vs.toArray)(j:vs.length=sz)(k:L≤W.heap.size)
  (l:∀v W',Kr W W'→One E L vs W' v→G v W'):RE.Upon va o a W G:=by
 obtain⟨i0,z,f,g,b,m,q⟩:=e.info;have d:(execOp a.eval o).run va W=.ok (.value (O (A ⟨W.heap.size,0,Y⟩) 1 1)) (W.alloc (Obj.cells vs.toArray E)):=by
  unfold execOp;simp only[i,pb]
  rw[run_buildSlice W S E 1 _ vs.toArray i0 z e.und f g (by rw[b];have:=e.small;omega) (by rw[b];have:=e.pos;omega) (by
   have t:(#[(0,x)].map fun (x:Nat×Operand)=>(x.1,a.eval x.2)).toList=[(0,a.eval x)]:=by simp
   rw[t,b]
   rw[GT sz _ _ (by simp) (by rw[h];simpa using j),h])]
  rfl
 exact RE.upon_run d (l _ _ ((JO _ W).alloc (JM _) _) ⟨_,Z,k,oc W _⟩)
theorem s8(l:Elem E S sz bytes){W:J}{p:Option z7}{n c g9:Nat}{xs z:List tS}(ty:xD)(d:W.ownsRow 0 E sz (O p n c) n xs)(hz:W.heap[g9]?=A (Obj.cells z.toArray E (0,0)))(ad:z.length=sz)(N:∀u∈z,u.oneCell'=tT)(hn:n≤10000) :
  ∃k w',(Builtin.append_ #[S,S] ty #[O p n c,O (A ⟨g9,0,Y⟩) 1 1]).run va W=.ok k w'∧w'.ownsRow 0 E sz k (n+1) (xs++z)∧
   ((n<c∧∃g,p=A ⟨g,0,Y⟩∧k=O p (n+1) c∧W.grownBy w' (A g))∨(¬n<c∧∃cap,k=O (A ⟨W.heap.size,0,Y⟩) (n+1) cap∧Kr W w')):=by
 obtain⟨i0,zz,m,y,f,B,C⟩:=l.info;have D:=l.small;have H:=l.pos;have a:∀j u,z[j]?=A u→W.cell? ((⟨g9,0,Y⟩:z7).add j)=A u:=fun j u hj=>by
  have e:(⟨g9,0,Y⟩:z7).add j=⟨g9,j,Y⟩:=by
   unfold Addr.add
   by_cases K:j=0
   ·subst K;rfl
   ·rw[oe K];simp
  rw[e,Kq _ _ _ _ _ _ hz]
  simpa using hj
 have L:(n+1)*bytes≤140737488355328:=by
  have:(n+1)*bytes≤10001*1000:=Nat.mul_le_mul (by omega) D.2;omega
 obtain⟨k,w',Q,b,i⟩:=ma (P:=va) W 0 S ty E i0 zz sz bytes l.und m y f B C H (O p n c) n xs d ⟨g9,0,Y⟩ 1 1 z (by omega) a N (by unfold maxLen;omega) L (J0 _) (by decide);refine⟨k,w',Q,b,?_⟩;rcases i with ⟨g,cap,q,M,e3⟩|⟨cap,q,M⟩
 ·injection q with f1 f2 f3
  subst f1;subst f3;subst M
  left
  refine⟨?_,g,Z,Z,e3⟩;rcases b.2 with ⟨h,_⟩|⟨_,_,_,h,_,_,h2,_⟩
  ·cases h
  ·injection h with _ _ R
   omega
 ·right
  refine⟨fun hc=>?_,cap,q,M⟩;rcases d.2 with ⟨h,K⟩|⟨g,T,cur,h,_,V,h2,R,h4,h5⟩
  ·injection h with _ _ R;omega
  ·injection h with f1 _ f3
   subst f1;subst f3
   have o:=run_append_room (P:=va) W S ty E i0 l.und m g n c cur V ⟨g9,0,Y⟩ 1 1 z (by rw[f];omega) a N (by omega) (by
    rw[f,h4];have:=Nat.mul_le_mul_right sz (show n+1≤c from hc);rw[Nat.add_mul,Nat.one_mul]at this
    omega)
   rw[Q]at o;injection o with X _
   rw[q]at X;injection X with t _ _
   injection t with t
   injection t with t
   have:=(JL.1 V).1;omega
def ApS(E:xD) (sz:Nat) (w4:J) (p:Option z7) (n c:Nat) (row:List tS) (W:J):Prop:=
 if n<c then Chg (fun x=>(O p n c).ownBlock=A x) w4 W∧W.ownsRow 0 E sz (O p (n+1) c) (n+1) row else ∃x:Wb w4,W=x.1
def ApV(E:xD) (sz:Nat) (w4:J) (p:Option z7) (n c:Nat) (row:List tS) (W:J) (v:tS):Prop:=
 if n<c then v=O p (n+1) c∧∃g,p=A ⟨g,0,Y⟩ else ∃g cap,v=O (A ⟨g,0,Y⟩) (n+1) cap∧w4.heap.size≤g∧W.ownsRow 0 E sz v (n+1) row
def ApR(w4 W W':J):Prop:=∀b,w4.heap.size≤b→b<W.heap.size→W'.heap[b]?=W.heap[b]?
theorem ApR.u{w4 W W':J}(h:Kr W W'):ApR w4 W W':=fun b _ a=>h.block b a
theorem ApV.K{w4 W W':J}{p:Option z7}{n c:Nat}{row:List tS}{v:tS}(h:ApV E sz w4 p n c row W v)(j:ApR w4 W W'):ApV E sz w4 p n c row W' v:=by
 unfold ApV at *
 split
 ·rename_i b;rw[oj b]at h;exact h
 ·rename_i b
  rw[oe b]at h;obtain⟨g,cap,d,e,f⟩:=h;refine⟨g,cap,d,e,dj f fun i a=>?_⟩;have k:=(aP f i a).2;rw[d]at a;injection a with a
  have a:g=i:=a;subst a;exact j g e k
theorem One.K{w4 W W':J}{vs:List tS}{v:tS}(h:One E w4.heap.size vs W v)(d:ApR w4 W W'):One E w4.heap.size vs W' v:=by
 obtain⟨g,e,a,b⟩:=h;exact⟨g,e,a,(d g a (JL.1 b).1).trans b⟩
theorem i9(M:Elem E S sz bytes){o:Oper}{a:Act}{W w4:J}{G:tS→J→Prop}{n c:Nat}{vs:List tS}{p:Option z7}{xs:List tS}(s y:Operand)(q:o.op=.call { callee:=.builtin .append,args:=#[s,y],argTypes:=#[S,S] })
  (N:a.eval s=O p n c) (t:One E w4.heap.size vs W (a.eval y)) (P:vs.length=sz) (Q:∀u∈vs,u.oneCell'=tT) (h:Kr w4 W) (i:w4.ownsRow 0 E sz (O p n c) n xs) (R:n≤10000)
  (K:∀m W',ApS E sz w4 p n c (xs++vs) W'→ApR w4 W W'→ApV E sz w4 p n c (xs++vs) W' m→G m W'):RE.Upon va o a W G:=by
 obtain⟨g9,t,_,B⟩:=t;obtain⟨m,w',T,f,j⟩:=s8 M (p:=p) (c:=c) (z:=vs) o.type (hH i h) B P Q R;have k:(execOp a.eval o).run va W=.ok (.value m) w':=by simp[execOp,q,resolve,invoke,builtin,N,t,T,Result.andThen]
 refine RE.upon_run k ?_;rcases j with ⟨l,g,rfl,rfl,d⟩|⟨l,cap,rfl,C⟩
 ·have V:g<w4.heap.size:=(aP i g Z).2;refine K _ _ ?_ (fun b C D=>d.block b D (fun e=>by injection e with e;omega)) ?_
  ·unfold ApS;rw[oj l];refine⟨⟨d.os.trans h.os,d.tape.trans h.tape,d.output.trans h.output,JU h.size d.size,fun x L H=>?_⟩,f⟩;exact (d.block x (JS L h.size) (fun e=>H e.symm)).trans (h.block x L)
  ·unfold ApV;rw[oj l];exact⟨Z,g,Z⟩
 ·refine K _ _ ?_ (ApR.u C) ?_
  ·unfold ApS;rw[oe l];exact⟨⟨w',h.trans (C.mono h.size)⟩,Z⟩
  ·unfold ApV;rw[oe l];exact⟨_,cap,Z,h.size,f⟩
theorem jZ{w4 W:J}{p:Option z7}{n c:Nat}{row:List tS}{v:tS}(a:ApS E sz w4 p n c row W)(b:ApV E sz w4 p n c row W v) :
  ∃g cap,v=O (A ⟨g,0,Y⟩) (n+1) cap∧((O p n c).ownBlock=A g∨w4.heap.size≤g)∧Chg (fun x=>(O p n c).ownBlock=A x) w4 W∧W.ownsRow 0 E sz (O (A ⟨g,0,Y⟩) (n+1) cap) (n+1) row:=by
 unfold ApS at a;unfold ApV at b
 by_cases e:n<c
 ·rw[oj e]at a b;obtain⟨f,d⟩:=a;obtain⟨rfl,g,rfl⟩:=b;exact⟨g,c,Z,wD Z,f,d⟩
 ·rw[oe e]at a b;obtain⟨x,rfl⟩:=a;obtain⟨g,cap,rfl,d,h⟩:=b;exact⟨g,cap,Z,wF d,Chg.u x.2,h⟩
theorem ApS.C{w4 W W':J}{p:Option z7}{n c:Nat}{row:List tS}(h:ApS E sz w4 p n c row W)(a:Kr W W'):ApS E sz w4 p n c row W':=by
 unfold ApS at *
 by_cases b:n<c
 ·rw[oj b]at h ⊢;exact⟨h.1.h (Chg.u a),hH h.2 a⟩
 ·rw[oe b]at h ⊢;obtain⟨x,rfl⟩:=h;exact⟨⟨W',x.2.trans (a.mono x.2.size)⟩,Z⟩
theorem ApS.z{w4 W:J}{p:Option z7}{n c:Nat}{row:List tS}(h:ApS E sz w4 p n c row W):w4.heap.size≤W.heap.size:=by
 unfold ApS at h
 split at h
 ·exact h.1.z
 ·obtain⟨x,rfl⟩:=h;exact x.2.size
def phA(E:xD) (sz:Nat) (w4:J) (p:Option z7) (n c:Nat) (vs row:List tS) (i j k:Nat) (W:J) (ys:List tS):Prop:=
 if k=i then One E w4.heap.size vs W (ys.getD 0 undef) else if k=j then ApV E sz w4 p n c row W (ys.getD 0 undef) else True
theorem phA.K{w4:J}{p:Option z7}{n c:Nat}{vs row:List tS}{i j k:Nat}{W W':J}{ys:List tS}(h:phA E sz w4 p n c vs row i j k W ys)(b:ApR w4 W W'):phA E sz w4 p n c vs row i j k W' ys:=by
 unfold phA at *
 split
 ·rename_i a;rw[oj a]at h;exact h.K b
 ·rename_i a
  rw[oe a]at h
  split
  ·rename_i d;rw[oj d]at h;exact h.K b
  ·trivial
def stA(E:xD) (sz:Nat) (w4:J) (p:Option z7) (n c:Nat) (row:List tS) (s:Nat) (W:J):Prop:=if s=0 then (∃x:Wb w4,W=x.1) else ApS E sz w4 p n c row W
theorem stA.C{w4:J}{p:Option z7}{n c:Nat}{row:List tS}{s:Nat}{W W':J}(h:stA E sz w4 p n c row s W)(b:Kr W W'):stA E sz w4 p n c row s W':=by
 unfold stA at *
 split
 ·rename_i a
  rw[oj a]at h;obtain⟨x,rfl⟩:=h;exact⟨⟨W',x.2.trans (b.mono x.2.size)⟩,Z⟩
 ·rename_i a
  rw[oe a]at h;exact h.C b
theorem stA.z{w4:J}{p:Option z7}{n c:Nat}{row:List tS}{s:Nat}{W:J}(h:stA E sz w4 p n c row s W):w4.heap.size≤W.heap.size:=by
 unfold stA at h
 split at h
 ·obtain⟨x,rfl⟩:=h;exact x.2.size
 ·exact h.z
theorem stA.zero{w4:J}{p:Option z7}{n c:Nat}{row:List tS}:stA E sz w4 p n c row 0 w4.drew:=⟨⟨w4.drew,(JO _ _).drew⟩,Z⟩
def Ks(w:J) (K:Nat→Prop):={W:J // ∀b,K b→W.heap[b]?=w.heap[b]?}
instance (w:J) (K:Nat→Prop):Nonempty (Ks w K):=⟨⟨w,fun _ _=>rfl⟩⟩
theorem Ks.h{w:J}{K:Nat→Prop}(x:Ks w K){b o:Nat}(a:K b){v:tS}(h:w.cell? ⟨b,o,Y⟩=A v):x.1.cell? ⟨b,o,Y⟩=A v:=by
 have e:x.1.cell? ⟨b,o,Y⟩=w.cell? ⟨b,o,Y⟩:=by unfold World.cell?;rw[x.2 b a]
 rw[e];exact h
theorem jR{w4:J}{p:Option z7}{n c:Nat}{row:List tS}{K:Nat→Prop}(d:∀b,K b→b<w4.heap.size∧(O p n c).ownBlock≠A b):∀(m s:Nat) (W:J),s≤m→stA E sz w4 p n c row s W→∃x:Ks w4 K,W=x.1:=fun m s W _ h=>by
 unfold stA at h;refine⟨⟨W,fun b f=>?_⟩,Z⟩;obtain⟨a,g⟩:=d b f
 split at h
 ·obtain⟨x,rfl⟩:=h;exact x.2.block b a
 ·unfold ApS at h
  split at h
  ·exact h.1.q b a (fun e=>g e)
  ·obtain⟨x,rfl⟩:=h;exact x.2.block b a
end
def aA{α:Type} (W:J) (F:Nat→Prop) (E:xD) (r:Rd α) (xs:List α) (v:tS):Prop:=∃us,W.ownsRow 0 E r.n v xs.length us∧r.z W F xs us
section
variable {α β:Type} {W W':J} {F F' G:Nat→Prop} {E E2:xD} {r:Rd α} {s:Rd β} {xs:List α} {ys:List β} {v v2:tS}
theorem aA.nil:aA W F E r [] (O Y 0 0):=⟨[],World.ownsRow_nil _ _ _ _,Rd.tv⟩
theorem aA.lt(h:aA W F E r xs v){g:Nat}(a:v.ownBlock=A g):g<W.heap.size:=by
 obtain⟨us,b,_⟩:=h;exact (aP b g a).2
theorem aA.u(h:aA W F E r xs v){g:Nat}(a:v.ownBlock=A g):∃cs,W.heap[g]?=A (Obj.cells cs E (0,0)):=by
 obtain⟨us,⟨_,b⟩,_⟩:=h;rcases b with ⟨rfl,_⟩|⟨d,cap,cur,rfl,_,e,_⟩
 ·cases a
 ·injection a with a
  have a:d=g:=a;subst a;exact⟨cur,e⟩
theorem aA.X(h:aA W F E r xs v)(k:aA W G E2 s ys v2)(b:E≠E2){g:Nat}(d:v.ownBlock=A g):v2.ownBlock≠A g:=fun e=>by
 obtain⟨cs,f⟩:=h.u d;obtain⟨i,a⟩:=k.u e;rw[f]at a;injection a with a
 injection a with _ a
 exact b a
theorem aA.q(h:aA W F E r xs v):∃p c,v=O p xs.length c:=by
 obtain⟨us,⟨_,a⟩,_⟩:=h;rcases a with ⟨rfl,b⟩|⟨d,cap,cur,rfl,_,_,e,_⟩
 ·exact⟨Y,0,by rw[b]⟩
 ·exact⟨_,_,Z⟩
theorem aA.K(a:∀g,v.ownBlock=A g→W'.heap[g]?=W.heap[g]?)(d:∀b,F b→∀o,W.heap[b]?=A o→W'.heap[b]?=A o)(e:∀b,F b→F' b)(h:aA W F E r xs v):aA W' F' E r xs v:=by
 obtain⟨us,f,i⟩:=h;exact⟨us,dj f a,Rd.tF e (Rd.tE d i)⟩
theorem aA.other(h:aA W F E r xs v)(a:Chg (fun x=>v2.ownBlock=A x) W W')(f:∀g,v.ownBlock=A g→v2.ownBlock≠A g)(hF:∀b,F b→b<W.heap.size∧v2.ownBlock≠A b)(i:∀b,F b→F' b):aA W' F' E r xs v:=
 h.K (fun g d=>a.q g (h.lt d) (f g d)) (fun b e _ j=>(a.q b (hF b e).1 (hF b e).2).trans j) i
theorem aA.C(h:aA W F E r xs v)(a:Kr W W')(hF:∀b,F b→b<W.heap.size)(d:∀b,F b→F' b):aA W' F' E r xs v:=
 h.K (fun g e=>a.block g (h.lt e)) (fun b f _ i=>(a.block b (hF b f)).trans i) d
theorem aA.z(h:aA W F E r xs v){M:Nat}(d:v.ownBlock≠A M)(a:∀b,F b→b≠M)(f:∀b,F b→F' b)(hw:∀b,b≠M→W'.heap[b]?=W.heap[b]?):aA W' F' E r xs v:=
 h.K (fun g i=>hw g (fun e=>d (e ▸ i))) (fun b j _ k=>(hw b (a b j)).trans k) f
theorem aA.h(h:aA W F E r xs v)(a:∀b,F b→G b)(d:∀g,v.ownBlock=A g→G g):r.h W G xs v:=by
 obtain⟨us,e,f⟩:=h;exact Rd.row_own e (Rd.tF a f) d
theorem aA.N(h:aA W F E r xs v)(a:∀b,F b→F' b):aA W F' E r xs v:=h.K (fun _ _=>rfl) (fun _ _ _ d=>d) a
end
section
variable {E S:xD} {sz bytes:Nat} {W W1 W' w5:J} {n c:Nat} {p:Option z7} {row:List tS} {v:tS}
theorem yF(C:Elem E S sz bytes){o:Oper}{a:Act}{L:Nat}{G:tS→J→Prop}{vs xs:List tS}(s y:Operand)(l:o.op=.call { callee:=.builtin .append,args:=#[s,y],argTypes:=#[S,S] })
  (D:a.eval s=O p n c) (m:One E L vs W (a.eval y)) (H:vs.length=sz) (K:∀u∈vs,u.oneCell'=tT) (h:W.ownsRow 0 E sz (O p n c) n xs) (M:n≤10000)
  (B:∀k W',ApS E sz W p n c (xs++vs) W'→ApV E sz W p n c (xs++vs) W' k→G k W'):RE.Upon va o a W G:=by
 obtain⟨g9,m,_,q⟩:=m;obtain⟨k,w',N,b,f⟩:=s8 C (p:=p) (c:=c) (z:=vs) o.type h q H K M;have i:(execOp a.eval o).run va W=.ok (.value k) w':=by simp[execOp,l,resolve,invoke,builtin,D,m,N,Result.andThen]
 refine RE.upon_run i ?_;rcases f with ⟨j,g,rfl,rfl,d⟩|⟨j,cap,rfl,P⟩
 ·refine B _ _ ?_ ?_
  ·unfold ApS;rw[oj j];exact⟨⟨d.os,d.tape,d.output,d.size,fun x Q t=>d.block x Q (fun e=>t e.symm)⟩,b⟩
  ·unfold ApV;rw[oj j];exact⟨Z,g,Z⟩
 ·refine B _ _ ?_ ?_
  ·unfold ApS;rw[oe j];exact⟨⟨w',P⟩,Z⟩
  ·unfold ApV;rw[oe j];exact⟨_,cap,Z,JM _,b⟩
theorem ApS.chg(h:ApS E sz W1 p n c row W):Chg (fun x=>(O p n c).ownBlock=A x) W1 W:=by
 unfold ApS at h
 split at h
 ·exact h.1
 ·obtain⟨x,rfl⟩:=h;exact Chg.u x.2
theorem ApV.from(h:ApV E sz W1 p n c row W v)(b:w5.heap.size≤W1.heap.size):ApV E sz w5 p n c row W v:=by
 unfold ApV at *
 split
 ·rename_i a;rw[oj a]at h;exact h
 ·rename_i a
  rw[oe a]at h;obtain⟨g,cap,d,e,f⟩:=h;exact⟨g,cap,d,JU b e,f⟩
theorem ApR.of_chg{F:Nat→Prop}(h:Chg F W W')(hF:∀b,F b→b<w5.heap.size):ApR w5 W W':=fun b e a=>h.q b a (fun d=>by have:=hF b d;omega)
theorem Il(b:ApS E sz W1 p n c row W)(a:ApV E sz w5 p n c row W v):∃g cap,v=O (A ⟨g,0,Y⟩) (n+1) cap∧((O p n c).ownBlock=A g∨w5.heap.size≤g)∧Chg (fun x=>(O p n c).ownBlock=A x) W1 W∧W.ownsRow 0 E sz (O (A ⟨g,0,Y⟩) (n+1) cap) (n+1) row:=by
 have f:=b.chg;unfold ApS at b;unfold ApV at a
 by_cases e:n<c
 ·rw[oj e]at b a;obtain⟨h,d⟩:=b;obtain⟨rfl,g,rfl⟩:=a;exact⟨g,c,Z,wD Z,h,d⟩
 ·rw[oe e]at a;obtain⟨g,cap,rfl,d,i⟩:=a;exact⟨g,cap,Z,wF d,f,i⟩
end
