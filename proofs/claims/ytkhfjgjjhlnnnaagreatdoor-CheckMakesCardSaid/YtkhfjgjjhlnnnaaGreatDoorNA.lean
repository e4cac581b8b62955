/- Parts of one proof, joined; conditions stand in each theorem. -/
import Derived.Test.YtkhfjgjjhlnnnaaGreatDoorNA0
import Derived.Test.YtkhfjgjjhlnnnaaGreatDoorMA
open Option renaming some→Y,none→U
open Go renaming World→vk,Value→vn
open Go.Value renaming slice→A,int→I,string→J
open Go.IntKind renaming i64→Z,u8→O
open Except renaming error→z8
namespace Go.Proofs.YtkhfjgjjhlnnnaaGreatDoor
open Go.RowKit
def fA:Nat→ab→Prop
 | 0,T=>T.q=[]
 | d+1,T=>∀k∈T.q,fA d k
theorem fA.more:∀(d:Nat) (T:ab),fA d T→fA (d+1) T
 | 0,T,h=>fun k a=>by
  have h:T.q=[]:=h;rw[h]at a;cases a
 | d+1,T,h=>fun k a=>fA.more d k (h k a)
theorem tW:∀(d:Nat) (T:ab),fA d T→okF d T=true→okF (d+1) T=true
 | 0,T,h,a=>by
  have h:T.q=[]:=h
  show (aK T&&T.q.all (okF 0))=true
  rw[h,show aK T=true from a];rfl
 | d+1,T,h,a=>by
  have a:(aK T&&T.q.all (okF d))=true:=a;rw[FG,FW]at a
  show (aK T&&T.q.all (okF (d+1)))=true
  rw[FG,FW];exact⟨a.1,fun k b=>tW d k (h k b) (a.2 k b)⟩
theorem AM{d:Nat}{T:ab}(h:okF d T=true):aK T=true:=by
 cases d with
 | zero=>exact h
 | succ d=>exact (FG _ _ ▸ (show (aK T&&T.q.all (okF d))=true from h)).1
theorem yP{T:ab}(h:aK T=true):cL T.b T.f.data.toList T.q.length=true∧bw T.b T.q=true∧bN T.b T.h=true:=by
 unfold aK at h;simp only[FG]at h;exact⟨h.1.1.1.2,h.2,h.1.1.2⟩
theorem oN(binds:Bool):∀(l:List dy) (v c:Int) (a:dy),cY binds v l=Y c→cY binds v (l++[a])=ci binds c a
 | [],v,c,a,h=>by
  injection h with h;subst h
  show (match ci binds v a with|none=>U|some c=>Y c)=_
  cases ci binds v a<;>rfl
 | b::l,v,c,a,h=>by
  have h:(match ci binds v b with|none=>U|some c=>cY binds c l)=Y c:=h
  show (match ci binds v b with|none=>U|some c=>cY binds c (l++[a]))=_
  cases e:ci binds v b with
  | none=>rw[e]at h;cases h
  | some v1 =>
   rw[e]at h;exact oN binds l v1 c a h
theorem mZ(d:Nat)(types:List ae):∀(l:List aX) (s a:Int×Int) (c:aX),dT d types s l=Y a→dT d types s (l++[c])=cz d types a c
 | [],s,a,c,h=>by
  injection h with h;subst h
  show (match cz d types s c with|none=>U|some e=>Y e)=_
  cases cz d types s c<;>rfl
 | b::l,s,a,c,h=>by
  have h:(match cz d types s b with|none=>U|some e=>dT d types e l)=Y a:=h
  show (match cz d types s b with|none=>U|some e=>dT d types e (l++[c]))=_
  cases f:cz d types s b with
  | none=>rw[f]at h;cases h
  | some v1 =>
   rw[f]at h;exact mZ d types l v1 a c h
theorem ly:∀(l seen:List ByteArray) (x:ByteArray),apartB seen (l++[x])=(apartB seen l&&!(idxOf x (seen++l)).isSome)
 | [],seen,x=>by
  show (!(idxOf x seen).isSome&&true)=(true&&!(idxOf x (seen++[])).isSome)
  simp
 | y::l,seen,x=>by
  show (!(idxOf y seen).isSome&&apartB (seen++[y]) (l++[x]))=(!(idxOf y seen).isSome&&apartB (seen++[y]) l&&!(idxOf x (seen++y::l)).isSome)
  rw[ly l (seen++[y]) x,Bool.and_assoc];simp
structure Rd (α:Type) where
 n:Nat
 at_:vk→(Nat→Prop)→α→List vn→Prop
 len:∀{w F x vs},at_ w F x vs→vs.length=n
 z:∀{w w':vk} {F x vs},(∀b,F b→∀o,w.heap[b]?=Y o→w'.heap[b]?=Y o)→at_ w F x vs→at_ w' F x vs
 K:∀{w:vk} {F G:Nat→Prop} {x vs},(∀b,F b→G b)→at_ w F x vs→at_ w G x vs
 one:∀{w F x vs},at_ w F x vs→∀u∈vs,u.oneCell'=true
def Rd.C{α:Type} (r:Rd α) (w:vk) (F:Nat→Prop) (xs:List α) (v:vn):Prop:=
 (xs=[]∧∃p c,v=A p 0 c)∨∃b off cap,xs≠[]∧F b∧b<w.heap.size∧xs.length≤cap∧cap≤maxLen∧v=A (Y ⟨b,off,U⟩) xs.length cap∧
  ∀i x,xs[i]?=Y x→∃vs,r.at_ w F x vs∧∀m u,vs[m]?=Y u→w.cell? ⟨b,off+i*r.n+m,U⟩=Y u
theorem zm{w w':vk}{b:Nat}(h:∀o,w.heap[b]?=Y o→w'.heap[b]?=Y o){i:Nat}{u:vn}(a:w.cell? ⟨b,i,U⟩=Y u):w'.cell? ⟨b,i,U⟩=Y u:=by
 obtain⟨o,c⟩:∃o,w.heap[b]?=Y o:=by
  cases f:w.heap[b]? with
  | none=>unfold World.cell? at a;simp[f]at a
  | some o=>exact⟨o,V⟩
 have e:w'.heap[b]?=w.heap[b]?:=(h o c).trans c.symm;have:w'.cell? ⟨b,i,U⟩=w.cell? ⟨b,i,U⟩:=by unfold World.cell?;simp only[e]
 rw[this];exact a
section
variable {α:Type} {r:Rd α} {w w':vk} {F G:Nat→Prop} {xs:List α} {v:vn}
theorem Rd.f(c:∀b,F b→∀o,w.heap[b]?=Y o→w'.heap[b]?=Y o)(h:r.C w F xs v):r.C w' F xs v:=by
 rcases h with h|⟨b,off,cap,g,e,f,j,k,l,n⟩
 ·exact Or.inl h
 ·have a:b<w'.heap.size:=(Fi.1 (c b e _ (Array.getElem?_eq_getElem f))).1;refine Or.inr ⟨b,off,cap,g,e,a,j,k,l,fun i x p=>?_⟩;obtain⟨vs,q,s⟩:=n i x p;exact⟨vs,r.z c q,fun m u hu=>zm (c b e) (s m u hu)⟩
theorem Rd.q(c:∀b,F b→G b)(h:r.C w F xs v):r.C w G xs v:=by
 rcases h with h|⟨b,off,cap,e,f,a,g,j,k,l⟩
 ·exact Or.inl h
 ·refine Or.inr ⟨b,off,cap,e,c b f,a,g,j,k,fun i x m=>?_⟩;obtain⟨vs,n,o⟩:=l i x m;exact⟨vs,r.K c n,o⟩
theorem Rd.b(h:r.C w F xs v):∃p c,v=A p xs.length c:=by
 rcases h with ⟨rfl,p,c,rfl⟩|⟨b,off,cap,e,f,_,g,i,a,j⟩
 ·exact⟨p,c,V⟩
 ·exact⟨_,_,a⟩
theorem Rd.sm{p:Option Addr}{c:Nat}:r.C w F [] (A p 0 c):=Or.inl ⟨V,p,c,V⟩
theorem Rd.N{i:Nat}{x:α}(h:r.C w F xs v)(c:xs[i]?=Y x):∃b off cap vs,v=A (Y ⟨b,off,U⟩) xs.length cap∧xs.length≤cap∧cap≤maxLen∧F b∧b<w.heap.size∧r.at_ w F x vs∧∀m u,vs[m]?=Y u→w.cell? ⟨b,off+i*r.n+m,U⟩=Y u:=by
 rcases h with ⟨rfl,_⟩|⟨b,off,cap,p,e,a,f,g,j,k⟩
 ·simp at c
 ·obtain⟨vs,l,o⟩:=k i x c;exact⟨b,off,cap,vs,j,f,g,e,a,l,o⟩
theorem Rd.T(h:r.C w F xs v):xs.length≤maxLen:=by
 rcases h with ⟨rfl,_⟩|⟨b,off,cap,a,c,_,e,f,_⟩
 ·exact FA _
 ·omega
end
def Rd.h(k:IntKind) (a b:Int):Rd Int where
 n:=1
 at_ _ _ x vs:=vs=[I k x]∧a≤x∧x<b
 len h:=by rw[h.1];rfl
 z _ h:=h
 K _ h:=h
 one h:=by rw[h.1];intro u hu;obtain rfl:=List.mem_singleton.1 hu;rfl
def Rd.int:Rd Int:=Rd.h Z (-9223372036854775808) 9223372036854775808
def Rd.u8:Rd Int:=Rd.h O 0 256
def Rd.str:Rd ByteArray where
 n:=1
 at_ _ _ x vs:=vs=[J x]∧x.size≤maxLen
 len h:=by rw[h.1];rfl
 z _ h:=h
 K _ h:=h
 one h:=by rw[h.1];intro u hu;obtain rfl:=List.mem_singleton.1 hu;rfl
def Rd.list{α:Type} (r:Rd α):Rd (List α) where
 n:=1
 at_ w F xs vs:=∃v,vs=[v]∧r.C w F xs v
 len:=by rintro w F x vs ⟨v,rfl,_⟩;rfl
 z:=by rintro w w' F x vs a ⟨v,rfl,h⟩;exact⟨v,V,Rd.f a h⟩
 K:=by rintro w F G x vs b ⟨v,rfl,h⟩;exact⟨v,V,Rd.q b h⟩
 one:=by
  rintro w F x vs ⟨v,rfl,h⟩ u hu;obtain rfl:=List.mem_singleton.1 hu;obtain⟨p,c,rfl⟩:=Rd.b h;rfl
def Rd.X{α β:Type} (r:Rd α) (s:Rd β):Rd (α×β) where
 n:=r.n+s.n
 at_ w F x vs:=∃us ws,vs=us++ws∧r.at_ w F x.1 us∧s.at_ w F x.2 ws
 len:=by rintro w F x vs ⟨us,ws,rfl,a,b⟩;rw[FC,r.len a,s.len b]
 z:=by rintro w w' F x vs c ⟨us,ws,rfl,a,b⟩;exact⟨us,ws,V,r.z c a,s.z c b⟩
 K:=by rintro w F G x vs e ⟨us,ws,rfl,a,b⟩;exact⟨us,ws,V,r.K e a,s.K e b⟩
 one:=by
  rintro w F x vs ⟨us,ws,rfl,a,b⟩ u hu;rcases List.mem_append.1 hu with h|h
  ·exact r.one a u h
  ·exact s.one b u h
def Rd.as{α β:Type} (r:Rd α) (f:β→α):Rd β where
 n:=r.n
 at_ w F x vs:=r.at_ w F (f x) vs
 len h:=r.len h
 z a h:=r.z a h
 K b h:=r.K b h
 one h:=r.one h
section
variable {α:Type} {r:Rd α} {w w':vk} {F G:Nat→Prop} {xs:List α} {x:α} {v:vn} {vs:List vn}
theorem Rd.t(h:r.C w F xs v){B:Nat}(hF:∀b,F b→b<B)(a:Below B w w'):r.C w' F xs v:=
 Rd.f (fun b c _ e=>(a.block b (hF b c)).trans e) h
def Rd.y(r:Rd α) (w:vk) (F:Nat→Prop) (xs:List α) (us:List vn):Prop:=us.length=xs.length*r.n∧∀i x,xs[i]?=Y x→∃vs,r.at_ w F x vs∧∀m u,vs[m]?=Y u→us[i*r.n+m]?=Y u
theorem Rd.cells_nil:r.y w F [] []:=⟨by simp,fun i x a=>by simp at a⟩
theorem Rd.sn{us:List vn}(h:r.y w F xs us)(c:r.at_ w F x vs):r.y w F (xs++[x]) (us++vs):=by
 obtain⟨e,f⟩:=h;have g:=r.len c;refine⟨by rw[FC,e,g,FC,F9,Nat.add_mul,Nat.one_mul],fun i y a=>?_⟩
 by_cases j:i<xs.length
 ·rw[F6 j]at a;obtain⟨ws,k,l⟩:=f i y a;refine⟨ws,k,fun m u hu=>?_⟩;have:=l m u hu;rw[F6 (FD.1 this).1];exact this
 ·have b:=(FD.1 a).1;rw[FC,F9]at b;obtain rfl:i=xs.length:=by omega
  rw[FS (Fj _),Nat.sub_self]at a;simp only[List.getElem?_cons_zero,sx]at a;subst a;refine⟨vs,c,fun m u hu=>?_⟩;rw[←e,FS (Nat.le_add_right _ _),Nat.add_sub_cancel_left];exact hu
theorem Rd.qv{us:List vn}(a:∀b,F b→∀o,w.heap[b]?=Y o→w'.heap[b]?=Y o)(h:r.y w F xs us):r.y w' F xs us:=
 ⟨h.1,fun i x c=>by obtain⟨vs,e,f⟩:=h.2 i x c;exact⟨vs,r.z a e,f⟩⟩
theorem Rd.ss{us:List vn}(a:∀b,F b→G b)(h:r.y w F xs us):r.y w G xs us:=
 ⟨h.1,fun i x c=>by obtain⟨vs,e,f⟩:=h.2 i x c;exact⟨vs,r.K a e,f⟩⟩
theorem Rd.row_own{us:List vn}{base:Nat}{e:TypeId}(a:w.ownsRow base e r.n v xs.length us)(f:r.y w F xs us)(hF:∀g,v.ownBlock=Y g→F g):r.C w F xs v:=by
 obtain⟨s,⟨rfl,h⟩|⟨g,cap,cur,rfl,t,b,j,k,y,l⟩⟩:=a
 ·have:xs=[]:=FP h;subst this;exact Or.inl ⟨V,U,0,V⟩
 ·by_cases c:xs=[]
  ·subst c;exact Or.inl ⟨V,_,_,V⟩
  ·refine Or.inr ⟨g,0,cap,c,hF g V,(Fi.1 b).1,j,k,V,fun i x o=>?_⟩;obtain⟨vs,p,q⟩:=f.2 i x o;refine⟨vs,p,fun m u hu=>?_⟩;have:=q m u hu;rw[←l,List.getElem?_take]at this
   split at this
   ·rw[Gb _ _ _ _ _ _ b,Nat.zero_add]
    simpa using this
   ·cases this
end
def yD:Rd jy:=(Rd.u8.X (Rd.int.X Rd.str)).as fun v=>(v.b,v.h,v.f)
def Rd.none{α:Type}:Rd (List α) where
 n:=1
 at_ _ _ xs vs:=∃p c,vs=[A p 0 c]∧xs=[]
 len:=by rintro w F x vs ⟨p,c,rfl,_⟩;rfl
 z:=by rintro w w' F x vs _ h;exact h
 K:=by rintro w F G x vs _ h;exact h
 one:=by
  rintro w F x vs ⟨p,c,rfl,_⟩ u hu;obtain rfl:=List.mem_singleton.1 hu;rfl
def zM(r:Rd (List ax)):Rd ax:=(Rd.u8.X (yD.X (Rd.int.X (Rd.u8.X r)))).as fun e=>(e.b,e.f,e.h,e.op,e.q)
def aM:Nat→Rd ax
 | 0=>zM Rd.none
 | d+1=>zM (aM d).list
def gk:Rd dy:=(Rd.u8.X (Rd.int.X yD)).as fun a=>(a.b,a.h,a.f)
def bg(d:Nat):Rd aX:=(Rd.u8.X (Rd.int.X (gk.list.X (aM d)))).as fun c=>(c.b,c.f,c.C,c.a)
def bD(d:Nat):Rd cd:=(Rd.u8.X (Rd.int.X (Rd.int.X (aM d).list))).as fun a=>(a.b,a.f,a.a,a.y)
def bZ:Rd ae:=(Rd.str.X Rd.int).as fun t=>(t.a,t.b)
def cf(d:Nat):Rd ap:=(Rd.str.X (Rd.int.X (Rd.int.X ((bg d).list.X (bD d).list)))).as fun r=>(r.a,r.e,r.b,r.c,r.d)
def xc(d:Nat):Rd eN:=(bZ.list.X (cf d).list).as fun r=>(r.a,r.b)
theorem eW(d:Nat):(aM d).n=7:=by cases d<;>rfl
section
variable {w:vk} {F:Nat→Prop} {d:Nat} {vs:List vn}
def U8(x:Int):Prop:=0≤x∧x<256
def I64(x:Int):Prop:=-9223372036854775808≤x∧x<9223372036854775808
def kH(v:jy):Prop:=U8 v.b∧I64 v.h∧v.f.size≤maxLen
def nF(v:jy):List Value:=[I O v.b,I Z v.h,J v.f]
theorem lN{v:jy}:yD.at_ w F v vs↔vs=nF v∧kH v:=by
 constructor
 ·rintro ⟨e,f,rfl,⟨rfl,a⟩,⟨v1,v2,rfl,⟨rfl,b⟩,rfl,c⟩⟩;exact⟨V,a,b,c⟩
 ·rintro ⟨rfl,a,b,c⟩;exact⟨[_],[_,_],V,⟨V,a⟩,⟨[_],[_],V,⟨V,b⟩,V,c⟩⟩
def de(w:vk) (F:Nat→Prop):Nat→List ax→vn→Prop
 | 0,a,s=>a=[]∧∃p c,s=A p 0 c
 | d+1,a,s=>(aM d).C w F a s
def f6(e:ax):Prop:=U8 e.b∧kH e.f∧I64 e.h∧U8 e.op
def bs(e:ax) (s:vn):List Value:=[I O e.b,I O e.f.b,I Z e.f.h,J e.f.f,I Z e.h,I O e.op,s]
theorem ey{e:ax}:(aM d).at_ w F e vs↔f6 e∧∃s,vs=bs e s∧de w F d e.q s:=by
 cases d with
 | zero =>
  constructor
  ·rintro ⟨i,j,rfl,⟨rfl,a⟩,v1,v2,rfl,b,k,x2,rfl,⟨rfl,f⟩,l,m,rfl,⟨rfl,g⟩,p,c,rfl,h⟩;obtain⟨rfl,hw⟩:=lN.1 b;exact⟨⟨a,hw,f,g⟩,_,V,h,p,c,V⟩
  ·rintro ⟨⟨a,b,f,g⟩,s,rfl,h,p,c,rfl⟩;exact⟨[_],_,V,⟨V,a⟩,nF e.f,_,V,lN.2 ⟨V,b⟩,[_],_,V,⟨V,f⟩,[_],[_],V,⟨V,g⟩,p,c,V,h⟩
 | succ d =>
  constructor
  ·rintro ⟨i,j,rfl,⟨rfl,a⟩,v1,v2,rfl,b,k,x2,rfl,⟨rfl,f⟩,l,m,rfl,⟨rfl,g⟩,s,rfl,h⟩;obtain⟨rfl,hw⟩:=lN.1 b;exact⟨⟨a,hw,f,g⟩,_,V,h⟩
  ·rintro ⟨⟨a,b,f,g⟩,s,rfl,h⟩;exact⟨[_],_,V,⟨V,a⟩,nF e.f,_,V,lN.2 ⟨V,b⟩,[_],_,V,⟨V,f⟩,[_],[_],V,⟨V,g⟩,s,V,h⟩
def kJ(a:dy):Prop:=U8 a.b∧I64 a.h∧kH a.f
def ie(a:dy):List Value:=[I O a.b,I Z a.h,I O a.f.b,I Z a.f.h,J a.f.f]
theorem ke{a:dy}:gk.at_ w F a vs↔vs=ie a∧kJ a:=by
 constructor
 ·rintro ⟨f,g,rfl,⟨rfl,b⟩,v1,v2,rfl,⟨rfl,c⟩,e⟩;obtain⟨rfl,hw⟩:=lN.1 e;exact⟨V,b,c,hw⟩
 ·rintro ⟨rfl,b,c,e⟩;exact⟨[_],_,V,⟨V,b⟩,[_],nF a.f,V,⟨V,c⟩,lN.2 ⟨V,e⟩⟩
def yg(c:aX) (a s:vn):List Value:=[I O c.b,I Z c.f,a]++bs c.a s
theorem ft{c:aX}:(bg d).at_ w F c vs↔U8 c.b∧I64 c.f∧f6 c.a∧∃a s,vs=yg c a s∧gk.C w F c.C a∧de w F d c.a.q s:=by
 constructor
 ·rintro ⟨j,k,rfl,⟨rfl,b⟩,v1,v2,rfl,⟨rfl,e⟩,l,x2,rfl,⟨a,rfl,f⟩,i⟩;obtain⟨g,s,rfl,h⟩:=ey.1 i;exact⟨b,e,g,a,s,V,f,h⟩
 ·rintro ⟨b,e,g,a,s,rfl,f,h⟩;exact⟨[_],_,V,⟨V,b⟩,[_],_,V,⟨V,e⟩,[_],bs c.a s,V,⟨a,V,f⟩,ey.2 ⟨g,s,V,h⟩⟩
def actC(a:cd) (s:vn):List Value:=[I O a.b,I Z a.f,I Z a.a,s]
theorem fN{a:cd}:(bD d).at_ w F a vs↔U8 a.b∧I64 a.f∧I64 a.a∧∃s,vs=actC a s∧(aM d).C w F a.y s:=by
 constructor
 ·rintro ⟨g,h,rfl,⟨rfl,b⟩,v1,v2,rfl,⟨rfl,c⟩,i,x2,rfl,⟨rfl,e⟩,s,rfl,f⟩;exact⟨b,c,e,s,V,f⟩
 ·rintro ⟨b,c,e,s,rfl,f⟩;exact⟨[_],_,V,⟨V,b⟩,[_],_,V,⟨V,c⟩,[_],[_],V,⟨V,e⟩,s,V,f⟩
def Ff(t:ae):List Value:=[J t.a,I Z t.b]
theorem gl{t:ae}:bZ.at_ w F t vs↔vs=Ff t∧t.a.size≤maxLen∧I64 t.b:=by
 constructor
 ·rintro ⟨c,e,rfl,⟨rfl,a⟩,rfl,b⟩;exact⟨V,a,b⟩
 ·rintro ⟨rfl,a,b⟩;exact⟨[_],[_],V,⟨V,a⟩,V,b⟩
def Fh(r:ap) (a b:vn):List Value:=[J r.a,I Z r.e,I Z r.b,a,b]
theorem gX{r:ap}:(cf d).at_ w F r vs↔r.a.size≤maxLen∧I64 r.e∧I64 r.b∧∃a b,vs=Fh r a b∧(bg d).C w F r.c a∧(bD d).C w F r.d b:=by
 constructor
 ·rintro ⟨i,j,rfl,⟨rfl,c⟩,v1,v2,rfl,⟨rfl,e⟩,k,x2,rfl,⟨rfl,f⟩,l,m,rfl,⟨a,rfl,g⟩,b,rfl,h⟩;exact⟨c,e,f,a,b,V,g,h⟩
 ·rintro ⟨c,e,f,a,b,rfl,g,h⟩;exact⟨[_],_,V,⟨V,c⟩,[_],_,V,⟨V,e⟩,[_],_,V,⟨V,f⟩,[_],[_],V,⟨a,V,g⟩,b,V,h⟩
theorem mm{r:eN}:(xc d).at_ w F r vs↔∃st a,vs=[st,a]∧bZ.C w F r.a st∧(cf d).C w F r.b a:=by
 constructor
 ·rintro ⟨e,f,rfl,⟨st,rfl,b⟩,a,rfl,c⟩;exact⟨st,a,V,b,c⟩
 ·rintro ⟨st,a,rfl,b,c⟩;exact⟨[_],[_],V,⟨st,V,b⟩,a,V,c⟩
end
def hZ{σ:Type} (r:Except Flt σ):Prop:=∀er,r=z8 er→er.1≠0
theorem gZ{σ:Type}(s:σ):hZ (Except.ok s:Except Flt σ):=fun er h=>by cases h
theorem it{σ:Type}(c p:Int)(a:c≠0):hZ (z8 (c,p):Except Flt σ):=fun er h=>by cases h;exact a
theorem iD{σ a:Type}{r:Except Flt σ}{e:Flt}(b:hZ r)(he:r=z8 e):hZ (z8 e:Except Flt a):=fun er h=>by cases h;exact b _ he
theorem fQ{σ α:Type}{g:σ→α→Except Flt σ}(h:∀s x,hZ (g s x)):∀(l:List α) (s:σ),hZ (aG g s l)
 | [],s=>gZ s
 | x::l,s=>by
  unfold aG
  split
  ·exact iD (h s x) (by assumption)
  ·exact fQ h l _
theorem lT{α β:Type}{g:α→Except Flt β}(h:∀x,hZ (g x))(l:List α):hZ (bC g l):=
 fQ (fun ys x=>by
  split
  ·exact iD (h x) (by assumption)
  ·exact gZ _) l []
theorem iR(vars:List ByteArray):∀(d:Nat) (T:ab),hZ (aB vars d T)
 | 0,T=>by
  unfold aB
  repeat' (first|exact gZ _|exact it _ _ (by decide)|split)
 | d+1,T=>by
  unfold aB
  repeat' (first|exact gZ _|exact it _ _ (by decide)|exact iD (lT (iR vars d) _) (by assumption)|split)
theorem nI(b:Bool)(s:List ByteArray×List dy)(T:ab):hZ (bY b s T):=by
 unfold bY
 repeat' (first|exact gZ _|exact it _ _ (by decide)|split)
theorem l6(ts:List ae)(T:ab):hZ (bK ts T):=by
 unfold bK
 repeat' (first|exact gZ _|exact it _ _ (by decide)|split)
theorem mN(d:Nat)(ts:List ae)(s:RSt)(T:ab):hZ (aC d ts s T):=by
 unfold aC
 repeat' (first|exact gZ _|exact it _ _ (by decide)|exact iD (l6 _ _) (by assumption)|exact iD (fQ (nI _) _ _) (by assumption)|exact iD (iR _ _ _) (by assumption)|exact iD (lT (iR _ _) _) (by assumption)|split)
theorem kl(d:Nat)(ts:List ae)(rs:List ap)(T:ab):hZ (cI d ts rs T):=by
 unfold cI
 repeat' (first|exact gZ _|exact it _ _ (by decide)|exact iD (fQ (mN _ _) _ _) (by assumption)|split)
theorem lJ(s:List ByteArray)(T:ab):hZ (fieldStep s T):=by
 unfold fieldStep
 repeat' (first|exact gZ _|exact it _ _ (by decide)|split)
theorem kq(ts:List ae)(T:ab):hZ (dm ts T):=by
 unfold dm
 repeat' (first|exact gZ _|exact it _ _ (by decide)|exact iD (fQ lJ _ _) (by assumption)|split)
