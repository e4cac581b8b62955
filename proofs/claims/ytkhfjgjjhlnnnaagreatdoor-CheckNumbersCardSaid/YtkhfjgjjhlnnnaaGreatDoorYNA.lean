/- Parts of one proof, joined; conditions stand in each theorem. -/
import Derived.Test.YtkhfjgjjhlnnnaaGreatDoorYNA0
import Derived.Test.YtkhfjgjjhlnnnaaGreatDoorYMA
open Option renaming some→Y,none→U
open Go renaming World→wD,Value→wF
open Go.Value renaming slice→A,int→I,string→J
open Go.IntKind renaming i64→Z,u8→O
open Except renaming error→BT
namespace Go.Proofs.YtkhfjgjjhlnnnaaGreatDoor
open Go.RowKit
def fC:Nat→ab→Prop
 | 0,T=>T.u=[]
 | d+1,T=>∀k∈T.u,fC d k
theorem fC.more:∀(d:Nat) (T:ab),fC d T→fC (d+1) T
 | 0,T,h=>fun k a=>by
  have h:T.u=[]:=h;rw[h]at a;cases a
 | d+1,T,h=>fun k a=>fC.more d k (h k a)
theorem tU:∀(d:Nat) (T:ab),fC d T→okF d T=true→okF (d+1) T=true
 | 0,T,h,a=>by
  have h:T.u=[]:=h
  show (aI T&&T.u.all (okF 0))=true
  rw[h,show aI T=true from a];rfl
 | d+1,T,h,a=>by
  have a:(aI T&&T.u.all (okF d))=true:=a;rw[Ff,Fx]at a
  show (aI T&&T.u.all (okF (d+1)))=true
  rw[Ff,Fx];exact⟨a.1,fun k b=>tU d k (h k b) (a.2 k b)⟩
theorem AB{d:Nat}{T:ab}(h:okF d T=true):aI T=true:=by
 cases d with
 | zero=>exact h
 | succ d=>exact (Ff _ _ ▸ (show (aI T&&T.u.all (okF d))=true from h)).1
theorem yJ{T:ab}(h:aI T=true):cJ T.b T.f.data.toList T.u.length=true∧bv T.b T.u=true∧bL T.b T.h=true:=by
 unfold aI at h;simp only[Ff]at h;exact⟨h.1.1.1.2,h.2,h.1.1.2⟩
theorem oS(binds:Bool):∀(l:List dw) (v c:Int) (a:dw),cU binds v l=Y c→cU binds v (l++[a])=bZ binds c a
 | [],v,c,a,h=>by
  injection h with h;subst h
  show (match bZ binds v a with|none=>U|some c=>Y c)=_
  cases bZ binds v a<;>rfl
 | b::l,v,c,a,h=>by
  have h:(match bZ binds v b with|none=>U|some c=>cU binds c l)=Y c:=h
  show (match bZ binds v b with|none=>U|some c=>cU binds c (l++[a]))=_
  cases e:bZ binds v b with
  | none=>rw[e]at h;cases h
  | some v1 =>
   rw[e]at h;exact oS binds l v1 c a h
theorem nh(d:Nat)(types:List ae):∀(l:List aW) (s a:Int×Int) (c:aW),dT d types s l=Y a→dT d types s (l++[c])=cp d types a c
 | [],s,a,c,h=>by
  injection h with h;subst h
  show (match cp d types s c with|none=>U|some e=>Y e)=_
  cases cp d types s c<;>rfl
 | b::l,s,a,c,h=>by
  have h:(match cp d types s b with|none=>U|some e=>dT d types e l)=Y a:=h
  show (match cp d types s b with|none=>U|some e=>dT d types e (l++[c]))=_
  cases f:cp d types s b with
  | none=>rw[f]at h;cases h
  | some v1 =>
   rw[f]at h;exact nh d types l v1 a c h
theorem lE:∀(l seen:List ByteArray) (x:ByteArray),apartB seen (l++[x])=(apartB seen l&&!(idxOf x (seen++l)).isSome)
 | [],seen,x=>by
  show (!(idxOf x seen).isSome&&true)=(true&&!(idxOf x (seen++[])).isSome)
  simp
 | y::l,seen,x=>by
  show (!(idxOf y seen).isSome&&apartB (seen++[y]) (l++[x]))=(!(idxOf y seen).isSome&&apartB (seen++[y]) l&&!(idxOf x (seen++y::l)).isSome)
  rw[lE l (seen++[y]) x,Bool.and_assoc];simp
structure Rd (α:Type) where
 n:Nat
 at_:wD→(Nat→Prop)→α→List wF→Prop
 len:∀{w F x vs},at_ w F x vs→vs.length=n
 C:∀{w w':wD} {F x vs},(∀b,F b→∀o,w.heap[b]?=Y o→w'.heap[b]?=Y o)→at_ w F x vs→at_ w' F x vs
 N:∀{w:wD} {F G:Nat→Prop} {x vs},(∀b,F b→G b)→at_ w F x vs→at_ w G x vs
 one:∀{w F x vs},at_ w F x vs→∀u∈vs,u.oneCell'=true
def Rd.K{α:Type} (r:Rd α) (w:wD) (F:Nat→Prop) (xs:List α) (v:wF):Prop:=
 (xs=[]∧∃p c,v=A p 0 c)∨∃b off cap,xs≠[]∧F b∧b<w.heap.size∧xs.length≤cap∧cap≤maxLen∧v=A (Y ⟨b,off,U⟩) xs.length cap∧
  ∀i x,xs[i]?=Y x→∃vs,r.at_ w F x vs∧∀m u,vs[m]?=Y u→w.cell? ⟨b,off+i*r.n+m,U⟩=Y u
theorem ze{w w':wD}{b:Nat}(h:∀o,w.heap[b]?=Y o→w'.heap[b]?=Y o){i:Nat}{u:wF}(a:w.cell? ⟨b,i,U⟩=Y u):w'.cell? ⟨b,i,U⟩=Y u:=by
 obtain⟨o,c⟩:∃o,w.heap[b]?=Y o:=by
  cases f:w.heap[b]? with
  | none=>unfold World.cell? at a;simp[f]at a
  | some o=>exact⟨o,V⟩
 have e:w'.heap[b]?=w.heap[b]?:=(h o c).trans c.symm;have:w'.cell? ⟨b,i,U⟩=w.cell? ⟨b,i,U⟩:=by unfold World.cell?;simp only[e]
 rw[this];exact a
section
variable {α:Type} {r:Rd α} {w w':wD} {F G:Nat→Prop} {xs:List α} {v:wF}
theorem Rd.f(c:∀b,F b→∀o,w.heap[b]?=Y o→w'.heap[b]?=Y o)(h:r.K w F xs v):r.K w' F xs v:=by
 rcases h with h|⟨b,off,cap,g,e,f,j,k,l,n⟩
 ·exact Or.inl h
 ·have a:b<w'.heap.size:=(EN.1 (c b e _ (Array.getElem?_eq_getElem f))).1;refine Or.inr ⟨b,off,cap,g,e,a,j,k,l,fun i x p=>?_⟩;obtain⟨vs,q,s⟩:=n i x p;exact⟨vs,r.C c q,fun m u hu=>ze (c b e) (s m u hu)⟩
theorem Rd.y(c:∀b,F b→G b)(h:r.K w F xs v):r.K w G xs v:=by
 rcases h with h|⟨b,off,cap,e,f,a,g,j,k,l⟩
 ·exact Or.inl h
 ·refine Or.inr ⟨b,off,cap,e,c b f,a,g,j,k,fun i x m=>?_⟩;obtain⟨vs,n,o⟩:=l i x m;exact⟨vs,r.N c n,o⟩
theorem Rd.b(h:r.K w F xs v):∃p c,v=A p xs.length c:=by
 rcases h with ⟨rfl,p,c,rfl⟩|⟨b,off,cap,e,f,_,g,i,a,j⟩
 ·exact⟨p,c,V⟩
 ·exact⟨_,_,a⟩
theorem Rd.vn{p:Option Addr}{c:Nat}:r.K w F [] (A p 0 c):=Or.inl ⟨V,p,c,V⟩
theorem Rd.tS{i:Nat}{x:α}(h:r.K w F xs v)(c:xs[i]?=Y x):∃b off cap vs,v=A (Y ⟨b,off,U⟩) xs.length cap∧xs.length≤cap∧cap≤maxLen∧F b∧b<w.heap.size∧r.at_ w F x vs∧∀m u,vs[m]?=Y u→w.cell? ⟨b,off+i*r.n+m,U⟩=Y u:=by
 rcases h with ⟨rfl,_⟩|⟨b,off,cap,p,e,a,f,g,j,k⟩
 ·simp at c
 ·obtain⟨vs,l,o⟩:=k i x c;exact⟨b,off,cap,vs,j,f,g,e,a,l,o⟩
theorem Rd.tT(h:r.K w F xs v):xs.length≤maxLen:=by
 rcases h with ⟨rfl,_⟩|⟨b,off,cap,a,c,_,e,f,_⟩
 ·exact Fa _
 ·omega
end
def Rd.h(k:IntKind) (a b:Int):Rd Int where
 n:=1
 at_ _ _ x vs:=vs=[I k x]∧a≤x∧x<b
 len h:=by rw[h.1];rfl
 C _ h:=h
 N _ h:=h
 one h:=by rw[h.1];intro u hu;obtain rfl:=List.mem_singleton.1 hu;rfl
def Rd.int:Rd Int:=Rd.h Z (-9223372036854775808) 9223372036854775808
def Rd.u8:Rd Int:=Rd.h O 0 256
def Rd.str:Rd ByteArray where
 n:=1
 at_ _ _ x vs:=vs=[J x]∧x.size≤maxLen
 len h:=by rw[h.1];rfl
 C _ h:=h
 N _ h:=h
 one h:=by rw[h.1];intro u hu;obtain rfl:=List.mem_singleton.1 hu;rfl
def Rd.list{α:Type} (r:Rd α):Rd (List α) where
 n:=1
 at_ w F xs vs:=∃v,vs=[v]∧r.K w F xs v
 len:=by rintro w F x vs ⟨v,rfl,_⟩;rfl
 C:=by rintro w w' F x vs a ⟨v,rfl,h⟩;exact⟨v,V,Rd.f a h⟩
 N:=by rintro w F G x vs b ⟨v,rfl,h⟩;exact⟨v,V,Rd.y b h⟩
 one:=by
  rintro w F x vs ⟨v,rfl,h⟩ u hu;obtain rfl:=List.mem_singleton.1 hu;obtain⟨p,c,rfl⟩:=Rd.b h;rfl
def Rd.ur{α β:Type} (r:Rd α) (s:Rd β):Rd (α×β) where
 n:=r.n+s.n
 at_ w F x vs:=∃us ws,vs=us++ws∧r.at_ w F x.1 us∧s.at_ w F x.2 ws
 len:=by rintro w F x vs ⟨us,ws,rfl,a,b⟩;rw[Fc,r.len a,s.len b]
 C:=by rintro w w' F x vs c ⟨us,ws,rfl,a,b⟩;exact⟨us,ws,V,r.C c a,s.C c b⟩
 N:=by rintro w F G x vs e ⟨us,ws,rfl,a,b⟩;exact⟨us,ws,V,r.N e a,s.N e b⟩
 one:=by
  rintro w F x vs ⟨us,ws,rfl,a,b⟩ u hu;rcases List.mem_append.1 hu with h|h
  ·exact r.one a u h
  ·exact s.one b u h
def Rd.as{α β:Type} (r:Rd α) (f:β→α):Rd β where
 n:=r.n
 at_ w F x vs:=r.at_ w F (f x) vs
 len h:=r.len h
 C a h:=r.C a h
 N b h:=r.N b h
 one h:=r.one h
section
variable {α:Type} {r:Rd α} {w w':wD} {F G:Nat→Prop} {xs:List α} {x:α} {v:wF} {vs:List wF}
theorem Rd.X(h:r.K w F xs v){B:Nat}(hF:∀b,F b→b<B)(a:Below B w w'):r.K w' F xs v:=
 Rd.f (fun b c _ e=>(a.block b (hF b c)).trans e) h
def Rd.u(r:Rd α) (w:wD) (F:Nat→Prop) (xs:List α) (us:List wF):Prop:=us.length=xs.length*r.n∧∀i x,xs[i]?=Y x→∃vs,r.at_ w F x vs∧∀m u,vs[m]?=Y u→us[i*r.n+m]?=Y u
theorem Rd.cells_nil:r.u w F [] []:=⟨by simp,fun i x a=>by simp at a⟩
theorem Rd.wg{us:List wF}(h:r.u w F xs us)(c:r.at_ w F x vs):r.u w F (xs++[x]) (us++vs):=by
 obtain⟨e,f⟩:=h;have g:=r.len c;refine⟨by rw[Fc,e,g,Fc,FG,Nat.add_mul,Nat.one_mul],fun i y a=>?_⟩
 by_cases j:i<xs.length
 ·rw[FB j]at a;obtain⟨ws,k,l⟩:=f i y a;refine⟨ws,k,fun m u hu=>?_⟩;have:=l m u hu;rw[FB (Fe.1 this).1];exact this
 ·have b:=(Fe.1 a).1;rw[Fc,FG]at b;obtain rfl:i=xs.length:=by omega
  rw[Ft (EO _),Nat.sub_self]at a;simp only[List.getElem?_cons_zero,ss]at a;subst a;refine⟨vs,c,fun m u hu=>?_⟩;rw[←e,Ft (Nat.le_add_right _ _),Nat.add_sub_cancel_left];exact hu
theorem Rd.vk{us:List wF}(a:∀b,F b→∀o,w.heap[b]?=Y o→w'.heap[b]?=Y o)(h:r.u w F xs us):r.u w' F xs us:=
 ⟨h.1,fun i x c=>by obtain⟨vs,e,f⟩:=h.2 i x c;exact⟨vs,r.C a e,f⟩⟩
theorem Rd.wj{us:List wF}(a:∀b,F b→G b)(h:r.u w F xs us):r.u w G xs us:=
 ⟨h.1,fun i x c=>by obtain⟨vs,e,f⟩:=h.2 i x c;exact⟨vs,r.N a e,f⟩⟩
theorem Rd.row_own{us:List wF}{base:Nat}{e:TypeId}(a:w.ownsRow base e r.n v xs.length us)(f:r.u w F xs us)(hF:∀g,v.ownBlock=Y g→F g):r.K w F xs v:=by
 obtain⟨s,⟨rfl,h⟩|⟨g,cap,cur,rfl,t,b,j,k,y,l⟩⟩:=a
 ·have:xs=[]:=Fp h;subst this;exact Or.inl ⟨V,U,0,V⟩
 ·by_cases c:xs=[]
  ·subst c;exact Or.inl ⟨V,_,_,V⟩
  ·refine Or.inr ⟨g,0,cap,c,hF g V,(EN.1 b).1,j,k,V,fun i x o=>?_⟩;obtain⟨vs,p,q⟩:=f.2 i x o;refine⟨vs,p,fun m u hu=>?_⟩;have:=q m u hu;rw[←l,List.getElem?_take]at this
   split at this
   ·rw[FI _ _ _ _ _ _ b,Nat.zero_add]
    simpa using this
   ·cases this
end
def yz:Rd jA:=(Rd.u8.ur (Rd.int.ur Rd.str)).as fun v=>(v.b,v.h,v.f)
def Rd.none{α:Type}:Rd (List α) where
 n:=1
 at_ _ _ xs vs:=∃p c,vs=[A p 0 c]∧xs=[]
 len:=by rintro w F x vs ⟨p,c,rfl,_⟩;rfl
 C:=by rintro w w' F x vs _ h;exact h
 N:=by rintro w F G x vs _ h;exact h
 one:=by
  rintro w F x vs ⟨p,c,rfl,_⟩ u hu;obtain rfl:=List.mem_singleton.1 hu;rfl
def zF(r:Rd (List aw)):Rd aw:=(Rd.u8.ur (yz.ur (Rd.int.ur (Rd.u8.ur r)))).as fun e=>(e.b,e.f,e.h,e.op,e.u)
def aL:Nat→Rd aw
 | 0=>zF Rd.none
 | d+1=>zF (aL d).list
def gn:Rd dw:=(Rd.u8.ur (Rd.int.ur yz)).as fun a=>(a.b,a.h,a.f)
def bf(d:Nat):Rd aW:=(Rd.u8.ur (Rd.int.ur (gn.list.ur (aL d)))).as fun c=>(c.b,c.f,c.N,c.a)
def bA(d:Nat):Rd bW:=(Rd.u8.ur (Rd.int.ur (Rd.int.ur (aL d).list))).as fun a=>(a.b,a.f,a.a,a.y)
def bV:Rd ae:=(Rd.str.ur Rd.int).as fun t=>(t.a,t.b)
def bX(d:Nat):Rd an:=(Rd.str.ur (Rd.int.ur (Rd.int.ur ((bf d).list.ur (bA d).list)))).as fun r=>(r.a,r.e,r.b,r.c,r.d)
def wY(d:Nat):Rd eL:=(bV.list.ur (bX d).list).as fun r=>(r.a,r.b)
theorem eU(d:Nat):(aL d).n=7:=by cases d<;>rfl
section
variable {w:wD} {F:Nat→Prop} {d:Nat} {vs:List wF}
def U8(x:Int):Prop:=0≤x∧x<256
def I64(x:Int):Prop:=-9223372036854775808≤x∧x<9223372036854775808
def kM(v:jA):Prop:=U8 v.b∧I64 v.h∧v.f.size≤maxLen
def nK(v:jA):List Value:=[I O v.b,I Z v.h,J v.f]
theorem lS{v:jA}:yz.at_ w F v vs↔vs=nK v∧kM v:=by
 constructor
 ·rintro ⟨e,f,rfl,⟨rfl,a⟩,⟨v1,v2,rfl,⟨rfl,b⟩,rfl,c⟩⟩;exact⟨V,a,b,c⟩
 ·rintro ⟨rfl,a,b,c⟩;exact⟨[_],[_,_],V,⟨V,a⟩,⟨[_],[_],V,⟨V,b⟩,V,c⟩⟩
def cZ(w:wD) (F:Nat→Prop):Nat→List aw→wF→Prop
 | 0,a,s=>a=[]∧∃p c,s=A p 0 c
 | d+1,a,s=>(aL d).K w F a s
def ga(e:aw):Prop:=U8 e.b∧kM e.f∧I64 e.h∧U8 e.op
def bp(e:aw) (s:wF):List Value:=[I O e.b,I O e.f.b,I Z e.f.h,J e.f.f,I Z e.h,I O e.op,s]
theorem ey{e:aw}:(aL d).at_ w F e vs↔ga e∧∃s,vs=bp e s∧cZ w F d e.u s:=by
 cases d with
 | zero =>
  constructor
  ·rintro ⟨i,j,rfl,⟨rfl,a⟩,v1,v2,rfl,b,k,x2,rfl,⟨rfl,f⟩,l,m,rfl,⟨rfl,g⟩,p,c,rfl,h⟩;obtain⟨rfl,hw⟩:=lS.1 b;exact⟨⟨a,hw,f,g⟩,_,V,h,p,c,V⟩
  ·rintro ⟨⟨a,b,f,g⟩,s,rfl,h,p,c,rfl⟩;exact⟨[_],_,V,⟨V,a⟩,nK e.f,_,V,lS.2 ⟨V,b⟩,[_],_,V,⟨V,f⟩,[_],[_],V,⟨V,g⟩,p,c,V,h⟩
 | succ d =>
  constructor
  ·rintro ⟨i,j,rfl,⟨rfl,a⟩,v1,v2,rfl,b,k,x2,rfl,⟨rfl,f⟩,l,m,rfl,⟨rfl,g⟩,s,rfl,h⟩;obtain⟨rfl,hw⟩:=lS.1 b;exact⟨⟨a,hw,f,g⟩,_,V,h⟩
  ·rintro ⟨⟨a,b,f,g⟩,s,rfl,h⟩;exact⟨[_],_,V,⟨V,a⟩,nK e.f,_,V,lS.2 ⟨V,b⟩,[_],_,V,⟨V,f⟩,[_],[_],V,⟨V,g⟩,s,V,h⟩
def kN(a:dw):Prop:=U8 a.b∧I64 a.h∧kM a.f
def ii(a:dw):List Value:=[I O a.b,I Z a.h,I O a.f.b,I Z a.f.h,J a.f.f]
theorem kl{a:dw}:gn.at_ w F a vs↔vs=ii a∧kN a:=by
 constructor
 ·rintro ⟨f,g,rfl,⟨rfl,b⟩,v1,v2,rfl,⟨rfl,c⟩,e⟩;obtain⟨rfl,hw⟩:=lS.1 e;exact⟨V,b,c,hw⟩
 ·rintro ⟨rfl,b,c,e⟩;exact⟨[_],_,V,⟨V,b⟩,[_],nK a.f,V,⟨V,c⟩,lS.2 ⟨V,e⟩⟩
def ye(c:aW) (a s:wF):List Value:=[I O c.b,I Z c.f,a]++bp c.a s
theorem fw{c:aW}:(bf d).at_ w F c vs↔U8 c.b∧I64 c.f∧ga c.a∧∃a s,vs=ye c a s∧gn.K w F c.N a∧cZ w F d c.a.u s:=by
 constructor
 ·rintro ⟨j,k,rfl,⟨rfl,b⟩,v1,v2,rfl,⟨rfl,e⟩,l,x2,rfl,⟨a,rfl,f⟩,i⟩;obtain⟨g,s,rfl,h⟩:=ey.1 i;exact⟨b,e,g,a,s,V,f,h⟩
 ·rintro ⟨b,e,g,a,s,rfl,f,h⟩;exact⟨[_],_,V,⟨V,b⟩,[_],_,V,⟨V,e⟩,[_],bp c.a s,V,⟨a,V,f⟩,ey.2 ⟨g,s,V,h⟩⟩
def actC(a:bW) (s:wF):List Value:=[I O a.b,I Z a.f,I Z a.a,s]
theorem fP{a:bW}:(bA d).at_ w F a vs↔U8 a.b∧I64 a.f∧I64 a.a∧∃s,vs=actC a s∧(aL d).K w F a.y s:=by
 constructor
 ·rintro ⟨g,h,rfl,⟨rfl,b⟩,v1,v2,rfl,⟨rfl,c⟩,i,x2,rfl,⟨rfl,e⟩,s,rfl,f⟩;exact⟨b,c,e,s,V,f⟩
 ·rintro ⟨b,c,e,s,rfl,f⟩;exact⟨[_],_,V,⟨V,b⟩,[_],_,V,⟨V,c⟩,[_],[_],V,⟨V,e⟩,s,V,f⟩
def EK(t:ae):List Value:=[J t.a,I Z t.b]
theorem gp{t:ae}:bV.at_ w F t vs↔vs=EK t∧t.a.size≤maxLen∧I64 t.b:=by
 constructor
 ·rintro ⟨c,e,rfl,⟨rfl,a⟩,rfl,b⟩;exact⟨V,a,b⟩
 ·rintro ⟨rfl,a,b⟩;exact⟨[_],[_],V,⟨V,a⟩,V,b⟩
def EM(r:an) (a b:wF):List Value:=[J r.a,I Z r.e,I Z r.b,a,b]
theorem gY{r:an}:(bX d).at_ w F r vs↔r.a.size≤maxLen∧I64 r.e∧I64 r.b∧∃a b,vs=EM r a b∧(bf d).K w F r.c a∧(bA d).K w F r.d b:=by
 constructor
 ·rintro ⟨i,j,rfl,⟨rfl,c⟩,v1,v2,rfl,⟨rfl,e⟩,k,x2,rfl,⟨rfl,f⟩,l,m,rfl,⟨a,rfl,g⟩,b,rfl,h⟩;exact⟨c,e,f,a,b,V,g,h⟩
 ·rintro ⟨c,e,f,a,b,rfl,g,h⟩;exact⟨[_],_,V,⟨V,c⟩,[_],_,V,⟨V,e⟩,[_],_,V,⟨V,f⟩,[_],[_],V,⟨a,V,g⟩,b,V,h⟩
theorem mx{r:eL}:(wY d).at_ w F r vs↔∃st a,vs=[st,a]∧bV.K w F r.a st∧(bX d).K w F r.b a:=by
 constructor
 ·rintro ⟨e,f,rfl,⟨st,rfl,b⟩,a,rfl,c⟩;exact⟨st,a,V,b,c⟩
 ·rintro ⟨st,a,rfl,b,c⟩;exact⟨[_],[_],V,⟨st,V,b⟩,a,V,c⟩
end
def ib{σ:Type} (r:Except Flt σ):Prop:=∀er,r=BT er→er.1≠0
theorem hH{σ:Type}(s:σ):ib (Except.ok s:Except Flt σ):=fun er h=>by cases h
theorem iw{σ:Type}(c p:Int)(a:c≠0):ib (BT (c,p):Except Flt σ):=fun er h=>by cases h;exact a
theorem iG{σ a:Type}{r:Except Flt σ}{e:Flt}(b:ib r)(he:r=BT e):ib (BT e:Except Flt a):=fun er h=>by cases h;exact b _ he
theorem fS{σ α:Type}{g:σ→α→Except Flt σ}(h:∀s x,ib (g s x)):∀(l:List α) (s:σ),ib (aG g s l)
 | [],s=>hH s
 | x::l,s=>by
  unfold aG
  split
  ·exact iG (h s x) (by assumption)
  ·exact fS h l _
theorem lX{α β:Type}{g:α→Except Flt β}(h:∀x,ib (g x))(l:List α):ib (bz g l):=
 fS (fun ys x=>by
  split
  ·exact iG (h x) (by assumption)
  ·exact hH _) l []
theorem iU(vars:List ByteArray):∀(d:Nat) (T:ab),ib (aB vars d T)
 | 0,T=>by
  unfold aB
  repeat' (first|exact hH _|exact iw _ _ (by decide)|split)
 | d+1,T=>by
  unfold aB
  repeat' (first|exact hH _|exact iw _ _ (by decide)|exact iG (lX (iU vars d) _) (by assumption)|split)
theorem nN(b:Bool)(s:List ByteArray×List dw)(T:ab):ib (bU b s T):=by
 unfold bU
 repeat' (first|exact hH _|exact iw _ _ (by decide)|split)
theorem md(ts:List ae)(T:ab):ib (bI ts T):=by
 unfold bI
 repeat' (first|exact hH _|exact iw _ _ (by decide)|split)
theorem mQ(d:Nat)(ts:List ae)(s:RSt)(T:ab):ib (aC d ts s T):=by
 unfold aC
 repeat' (first|exact hH _|exact iw _ _ (by decide)|exact iG (md _ _) (by assumption)|exact iG (fS (nN _) _ _) (by assumption)|exact iG (iU _ _ _) (by assumption)|exact iG (lX (iU _ _) _) (by assumption)|split)
theorem kt(d:Nat)(ts:List ae)(rs:List an)(T:ab):ib (cG d ts rs T):=by
 unfold cG
 repeat' (first|exact hH _|exact iw _ _ (by decide)|exact iG (fS (mQ _ _) _ _) (by assumption)|split)
theorem lO(s:List ByteArray)(T:ab):ib (fieldStep s T):=by
 unfold fieldStep
 repeat' (first|exact hH _|exact iw _ _ (by decide)|split)
theorem kx(ts:List ae)(T:ab):ib (dk ts T):=by
 unfold dk
 repeat' (first|exact hH _|exact iw _ _ (by decide)|exact iG (fS lO _ _) (by assumption)|split)
