/- Parts of one proof, joined; conditions stand in each theorem. -/
import Derived.Test.YtmpekinjoeibbaaGreatDoorNA0
import Derived.Test.YtmpekinjoeibbaaGreatDoorNB
open Option renaming some→A,none→V
open Go.Value renaming slice→O,int→I,string→p9
open Go renaming World→p7,Value→r3
open Go.IntKind renaming u8→J,i64→Y
namespace Go.Proofs.YtmpekinjoeibbaaGreatDoor
open Go.RowKit
def dn:Nat→ah→Prop
 | 0,T=>T.u=[]
 | d+1,T=>∀k∈T.u,dn d k
theorem dn.y:∀(d:Nat) (T:ah),dn d T→dn (d+1) T
 | 0,T,h=>fun k a=>by
  have h:T.u=[]:=h;rw[h]at a;cases a
 | d+1,T,h=>fun k a=>dn.y d k (h k a)
theorem AG{d:Nat}{T:ah}(h:okF d T=true):cJ T=true:=by
 cases d with
 | zero=>exact h
 | succ d=>exact (Fp _ _ ▸ (show (cJ T&&T.u.all (okF d))=true from h)).1
theorem zf{T:ah}(h:cJ T=true):uq T.b T.h.data.toList T.u.length=true∧fZ T.b T.u=true∧tJ T.b T.q=true:=by
 unfold cJ at h;simp only[Fp]at h;exact⟨h.1.1.1.2,h.2,h.1.1.2⟩
theorem ou(binds:Bool):∀(l:List dF) (v c:Int) (a:dF),db binds v l=A c→db binds v (l++[a])=bT binds c a
 | [],v,c,a,h=>by
  injection h with h;subst h
  show (match bT binds v a with|none=>V|some c=>A c)=_
  cases bT binds v a<;>rfl
 | b::l,v,c,a,h=>by
  have h:(match bT binds v b with|none=>V|some c=>db binds c l)=A c:=h
  show (match bT binds v b with|none=>V|some c=>db binds c (l++[a]))=_
  cases e:bT binds v b with
  | none=>rw[e]at h;cases h
  | some v1 =>
   rw[e]at h;exact ou binds l v1 c a h
theorem mG(d:Nat)(types:List ap):∀(l:List aK) (s a:Int×Int) (c:aK),dO d types s l=A a→dO d types s (l++[c])=ci d types a c
 | [],s,a,c,h=>by
  injection h with h;subst h
  show (match ci d types s c with|none=>V|some e=>A e)=_
  cases ci d types s c<;>rfl
 | b::l,s,a,c,h=>by
  have h:(match ci d types s b with|none=>V|some e=>dO d types e l)=A a:=h
  show (match ci d types s b with|none=>V|some e=>dO d types e (l++[c]))=_
  cases f:ci d types s b with
  | none=>rw[f]at h;cases h
  | some v1 =>
   rw[f]at h;exact mG d types l v1 a c h
theorem lc:∀(l seen:List ByteArray) (x:ByteArray),apartB seen (l++[x])=(apartB seen l&&!(idxOf x (seen++l)).isSome)
 | [],seen,x=>by
  show (!(idxOf x seen).isSome&&true)=(true&&!(idxOf x (seen++[])).isSome)
  simp
 | y::l,seen,x=>by
  show (!(idxOf y seen).isSome&&apartB (seen++[y]) (l++[x]))=(!(idxOf y seen).isSome&&apartB (seen++[y]) l&&!(idxOf x (seen++y::l)).isSome)
  rw[lc l (seen++[y]) x,Bool.and_assoc];simp
def yU:Rd i4:=(Rd.u8.X (Rd.int.X Rd.str)).as fun v=>(v.b,v.q,v.h)
def Rd.none{α:Type}:Rd (List α) where
 n:=1
 at_ _ _ xs vs:=∃p c,vs=[O p 0 c]∧xs=[]
 len:=by rintro w F x vs ⟨p,c,rfl,_⟩;rfl
 t:=by rintro w w' F x vs _ h;exact h
 N:=by rintro w F G x vs _ h;exact h
 one:=by
  rintro w F x vs ⟨p,c,rfl,_⟩ u hu;obtain rfl:=List.mem_singleton.1 hu;rfl
def qb(r:Rd (List aw)):Rd aw:=(Rd.u8.X (yU.X (Rd.int.X (Rd.u8.X r)))).as fun e=>(e.b,e.h,e.q,e.op,e.u)
def cI:Nat→Rd aw
 | 0=>qb Rd.none
 | d+1=>qb (cI d).list
def gQ:Rd dF:=(Rd.u8.X (Rd.int.X yU)).as fun a=>(a.b,a.q,a.h)
def ec(d:Nat):Rd aK:=(Rd.u8.X (Rd.int.X (gQ.list.X (cI d)))).as fun c=>(c.b,c.h,c.c,c.a)
def fG(d:Nat):Rd bm:=(Rd.u8.X (Rd.int.X (Rd.int.X (cI d).list))).as fun a=>(a.b,a.h,a.a,a.y)
def cN:Rd ap:=(Rd.str.X Rd.int).as fun t=>(t.a,t.b)
def dP(d:Nat):Rd au:=(Rd.str.X (Rd.int.X (Rd.int.X ((ec d).list.X (fG d).list)))).as fun r=>(r.a,r.c,r.b,r.d,r.e)
def ko(d:Nat):Rd bO:=(cN.list.X (dP d).list).as fun r=>(r.a,r.b)
theorem jI(d:Nat):(cI d).n=7:=by cases d<;>rfl
section
variable {w:p7} {F:Nat→Prop} {d:Nat} {vs:List r3}
def U8(x:Int):Prop:=0≤x∧x<256
def I64(x:Int):Prop:=-9223372036854775808≤x∧x<9223372036854775808
def lz(v:i4):Prop:=U8 v.b∧I64 v.q∧v.h.size≤maxLen
def mY(v:i4):List Value:=[I J v.b,I Y v.q,p9 v.h]
theorem iN{v:i4}:yU.at_ w F v vs↔vs=mY v∧lz v:=by
 constructor
 ·rintro ⟨e,f,rfl,⟨rfl,a⟩,⟨v1,v2,rfl,⟨rfl,b⟩,rfl,c⟩⟩;exact⟨Z,a,b,c⟩
 ·rintro ⟨rfl,a,b,c⟩;exact⟨[_],[_,_],Z,⟨Z,a⟩,⟨[_],[_],Z,⟨Z,b⟩,Z,c⟩⟩
def ey(w:p7) (F:Nat→Prop):Nat→List aw→r3→Prop
 | 0,a,s=>a=[]∧∃p c,s=O p 0 c
 | d+1,a,s=>(cI d).y w F a s
def fL(e:aw):Prop:=U8 e.b∧lz e.h∧I64 e.q∧U8 e.op
def bU(e:aw) (s:r3):List Value:=[I J e.b,I J e.h.b,I Y e.h.q,p9 e.h.h,I Y e.q,I J e.op,s]
theorem fb{e:aw}:(cI d).at_ w F e vs↔fL e∧∃s,vs=bU e s∧ey w F d e.u s:=by
 cases d with
 | zero =>
  constructor
  ·rintro ⟨h,i,rfl,⟨rfl,a⟩,v1,v2,rfl,hv,j,x2,rfl,⟨rfl,b⟩,k,l,rfl,⟨rfl,f⟩,p,c,rfl,g⟩;obtain⟨rfl,hw⟩:=iN.1 hv;exact⟨⟨a,hw,b,f⟩,_,Z,g,p,c,Z⟩
  ·rintro ⟨⟨a,hv,b,f⟩,s,rfl,g,p,c,rfl⟩;exact⟨[_],_,Z,⟨Z,a⟩,mY e.h,_,Z,iN.2 ⟨Z,hv⟩,[_],_,Z,⟨Z,b⟩,[_],[_],Z,⟨Z,f⟩,p,c,Z,g⟩
 | succ d =>
  constructor
  ·rintro ⟨h,i,rfl,⟨rfl,a⟩,v1,v2,rfl,hv,j,x2,rfl,⟨rfl,b⟩,k,l,rfl,⟨rfl,f⟩,s,rfl,g⟩;obtain⟨rfl,hw⟩:=iN.1 hv;exact⟨⟨a,hw,b,f⟩,_,Z,g⟩
  ·rintro ⟨⟨a,hv,b,f⟩,s,rfl,g⟩;exact⟨[_],_,Z,⟨Z,a⟩,mY e.h,_,Z,iN.2 ⟨Z,hv⟩,[_],_,Z,⟨Z,b⟩,[_],[_],Z,⟨Z,f⟩,s,Z,g⟩
def xA(a:dF):Prop:=U8 a.b∧I64 a.q∧lz a.h
def gU(a:dF):List Value:=[I J a.b,I Y a.q,I J a.h.b,I Y a.h.q,p9 a.h.h]
theorem jx{a:dF}:gQ.at_ w F a vs↔vs=gU a∧xA a:=by
 constructor
 ·rintro ⟨e,f,rfl,⟨rfl,b⟩,v1,v2,rfl,⟨rfl,c⟩,hv⟩;obtain⟨rfl,hw⟩:=iN.1 hv;exact⟨Z,b,c,hw⟩
 ·rintro ⟨rfl,b,c,hv⟩;exact⟨[_],_,Z,⟨Z,b⟩,[_],mY a.h,Z,⟨Z,c⟩,iN.2 ⟨Z,hv⟩⟩
def tK(c:aK) (a s:r3):List Value:=[I J c.b,I Y c.h,a]++bU c.a s
theorem gh{c:aK}:(ec d).at_ w F c vs↔U8 c.b∧I64 c.h∧fL c.a∧∃a s,vs=tK c a s∧gQ.y w F c.c a∧ey w F d c.a.u s:=by
 constructor
 ·rintro ⟨j,k,rfl,⟨rfl,b⟩,v1,v2,rfl,⟨rfl,e⟩,l,x2,rfl,⟨a,rfl,f⟩,i⟩;obtain⟨g,s,rfl,h⟩:=fb.1 i;exact⟨b,e,g,a,s,Z,f,h⟩
 ·rintro ⟨b,e,g,a,s,rfl,f,h⟩;exact⟨[_],_,Z,⟨Z,b⟩,[_],_,Z,⟨Z,e⟩,[_],bU c.a s,Z,⟨a,Z,f⟩,fb.2 ⟨g,s,Z,h⟩⟩
def Ez(a:bm) (s:r3):List Value:=[I J a.b,I Y a.h,I Y a.a,s]
theorem jn{a:bm}:(fG d).at_ w F a vs↔U8 a.b∧I64 a.h∧I64 a.a∧∃s,vs=Ez a s∧(cI d).y w F a.y s:=by
 constructor
 ·rintro ⟨g,h,rfl,⟨rfl,b⟩,v1,v2,rfl,⟨rfl,c⟩,i,x2,rfl,⟨rfl,e⟩,s,rfl,f⟩;exact⟨b,c,e,s,Z,f⟩
 ·rintro ⟨b,c,e,s,rfl,f⟩;exact⟨[_],_,Z,⟨Z,b⟩,[_],_,Z,⟨Z,c⟩,[_],[_],Z,⟨Z,e⟩,s,Z,f⟩
def Dl(t:ap):List Value:=[p9 t.a,I Y t.b]
theorem fW{t:ap}:cN.at_ w F t vs↔vs=Dl t∧t.a.size≤maxLen∧I64 t.b:=by
 constructor
 ·rintro ⟨c,e,rfl,⟨rfl,a⟩,rfl,b⟩;exact⟨Z,a,b⟩
 ·rintro ⟨rfl,a,b⟩;exact⟨[_],[_],Z,⟨Z,a⟩,Z,b⟩
def Dn(r:au) (a b:r3):List Value:=[p9 r.a,I Y r.c,I Y r.b,a,b]
theorem gA{r:au}:(dP d).at_ w F r vs↔r.a.size≤maxLen∧I64 r.c∧I64 r.b∧∃a b,vs=Dn r a b∧(ec d).y w F r.d a∧(fG d).y w F r.e b:=by
 constructor
 ·rintro ⟨i,j,rfl,⟨rfl,c⟩,v1,v2,rfl,⟨rfl,e⟩,k,x2,rfl,⟨rfl,f⟩,l,m,rfl,⟨a,rfl,g⟩,b,rfl,h⟩;exact⟨c,e,f,a,b,Z,g,h⟩
 ·rintro ⟨c,e,f,a,b,rfl,g,h⟩;exact⟨[_],_,Z,⟨Z,c⟩,[_],_,Z,⟨Z,e⟩,[_],_,Z,⟨Z,f⟩,[_],[_],Z,⟨a,Z,g⟩,b,Z,h⟩
theorem md{r:bO}:(ko d).at_ w F r vs↔∃st a,vs=[st,a]∧cN.y w F r.a st∧(dP d).y w F r.b a:=by
 constructor
 ·rintro ⟨e,f,rfl,⟨st,rfl,b⟩,a,rfl,c⟩;exact⟨st,a,Z,b,c⟩
 ·rintro ⟨st,a,rfl,b,c⟩;exact⟨[_],[_],Z,⟨st,Z,b⟩,a,Z,c⟩
end
def Rd.empty{α:Type} (E:TypeId) (n:Nat):Rd (List α) where
 n:=1
 at_ w F xs vs:=∃v,vs=[v]∧xs=[]∧w.ownsRow 0 E n v 0 []∧∀g,v.ownBlock=A g→F g
 len:=by rintro w F x vs ⟨v,rfl,_⟩;rfl
 t:=by
  rintro w w' F x vs h ⟨v,rfl,f,a,c⟩;refine⟨v,Z,f,bE a (fun g e=>?_),c⟩;have b:=(eH a g e).2;rw[h g (c g e) _ (Array.getElem?_eq_getElem b)];exact (Array.getElem?_eq_getElem b).symm
 N:=by rintro w F G x vs i ⟨v,rfl,f,a,c⟩;exact⟨v,Z,f,a,fun g e=>i g (c g e)⟩
 one:=by
  rintro w F x vs ⟨v,rfl,_,a,_⟩ u hu;obtain rfl:=List.mem_singleton.1 hu;rcases a.2 with ⟨rfl,_⟩|⟨g,cap,cur,rfl,_⟩<;>rfl
def bP:Nat→Rd aw
 | 0=>qb (Rd.empty 51 7)
 | d+1=>qb ((bP d).llist 51)
def ft(d:Nat):Rd aK:=(Rd.u8.X (Rd.int.X ((gQ.llist 56).X (bP d)))).as fun c=>(c.b,c.h,c.c,c.a)
def f6(d:Nat):Rd bm:=(Rd.u8.X (Rd.int.X (Rd.int.X ((bP d).llist 51)))).as fun a=>(a.b,a.h,a.a,a.y)
def eU(d:Nat):Rd au:=(Rd.str.X (Rd.int.X (Rd.int.X (((ft d).llist 53).lpair ((f6 d).llist 59))))).as fun r=>(r.a,r.c,r.b,r.d,r.e)
theorem ge(d:Nat):(bP d).n=7:=by cases d<;>rfl
section
variable {w:p7} {F:Nat→Prop} {d:Nat} {vs:List r3}
def eS(w:p7) (F:Nat→Prop):Nat→List aw→r3→Prop
 | 0,a,s=>a=[]∧w.ownsRow 0 51 7 s 0 []∧∀g,s.ownBlock=A g→F g
 | d+1,a,s=>(bP d).lrow 51 w F a s
theorem fS{e:aw}:(bP d).at_ w F e vs↔fL e∧∃s,vs=bU e s∧eS w F d e.u s:=by
 cases d with
 | zero =>
  constructor
  ·rintro ⟨g,h,rfl,⟨rfl,a⟩,v1,v2,rfl,hv,i,x2,rfl,⟨rfl,b⟩,j,k,rfl,⟨rfl,c⟩,s,rfl,f⟩;obtain⟨rfl,hw⟩:=iN.1 hv;exact⟨⟨a,hw,b,c⟩,_,Z,f⟩
  ·rintro ⟨⟨a,hv,b,c⟩,s,rfl,f⟩;exact⟨[_],_,Z,⟨Z,a⟩,mY e.h,_,Z,iN.2 ⟨Z,hv⟩,[_],_,Z,⟨Z,b⟩,[_],[_],Z,⟨Z,c⟩,s,Z,f⟩
 | succ d =>
  constructor
  ·rintro ⟨g,h,rfl,⟨rfl,a⟩,v1,v2,rfl,hv,i,x2,rfl,⟨rfl,b⟩,j,k,rfl,⟨rfl,c⟩,s,rfl,f⟩;obtain⟨rfl,hw⟩:=iN.1 hv;exact⟨⟨a,hw,b,c⟩,_,Z,f⟩
  ·rintro ⟨⟨a,hv,b,c⟩,s,rfl,f⟩;exact⟨[_],_,Z,⟨Z,a⟩,mY e.h,_,Z,iN.2 ⟨Z,hv⟩,[_],_,Z,⟨Z,b⟩,[_],[_],Z,⟨Z,c⟩,s,Z,f⟩
theorem lS{c:aK}:(ft d).at_ w F c vs↔U8 c.b∧I64 c.h∧fL c.a∧∃a s,vs=tK c a s∧gQ.lrow 56 w F c.c a∧eS w F d c.a.u s:=by
 constructor
 ·rintro ⟨j,k,rfl,⟨rfl,b⟩,v1,v2,rfl,⟨rfl,e⟩,l,x2,rfl,⟨a,rfl,f⟩,i⟩;obtain⟨g,s,rfl,h⟩:=fS.1 i;exact⟨b,e,g,a,s,Z,f,h⟩
 ·rintro ⟨b,e,g,a,s,rfl,f,h⟩;exact⟨[_],_,Z,⟨Z,b⟩,[_],_,Z,⟨Z,e⟩,[_],bU c.a s,Z,⟨a,Z,f⟩,fS.2 ⟨g,s,Z,h⟩⟩
theorem kp{a:bm}:(f6 d).at_ w F a vs↔U8 a.b∧I64 a.h∧I64 a.a∧∃s,vs=Ez a s∧(bP d).lrow 51 w F a.y s:=by
 constructor
 ·rintro ⟨g,h,rfl,⟨rfl,b⟩,v1,v2,rfl,⟨rfl,c⟩,i,x2,rfl,⟨rfl,e⟩,s,rfl,f⟩;exact⟨b,c,e,s,Z,f⟩
 ·rintro ⟨b,c,e,s,rfl,f⟩;exact⟨[_],_,Z,⟨Z,b⟩,[_],_,Z,⟨Z,c⟩,[_],[_],Z,⟨Z,e⟩,s,Z,f⟩
theorem pE{r:au}:(eU d).at_ w F r vs↔r.a.size≤maxLen∧I64 r.c∧I64 r.b∧∃a c F1 F2,vs=Dn r a c∧(ft d).lrow 53 w F1 r.d a∧(f6 d).lrow 59 w F2 r.e c∧(∀b,F1 b→F b)∧(∀b,F2 b→F b)∧∀b,F1 b→¬F2 b:=by
 constructor
 ·rintro ⟨k,l,rfl,⟨rfl,e⟩,v1,v2,rfl,⟨rfl,f⟩,m,x2,rfl,⟨rfl,g⟩,n,o,F1,F2,rfl,⟨a,rfl,h⟩,⟨c,rfl,i⟩,j⟩;exact⟨e,f,g,a,c,F1,F2,Z,h,i,j⟩
 ·rintro ⟨e,f,g,a,c,F1,F2,rfl,h,i,j⟩;exact⟨[_],_,Z,⟨Z,e⟩,[_],_,Z,⟨Z,f⟩,[_],_,Z,⟨Z,g⟩,[_],[_],F1,F2,Z,⟨a,Z,h⟩,⟨c,Z,i⟩,j⟩
theorem lL:eS w F d [] (O V 0 0):=by
 cases d with
 | zero=>exact⟨Z,World.ownsRow_nil _ _ _ _,fun g h=>by cases h⟩
 | succ d=>exact Rd.tk
theorem jR{w':p7}{c:List aw}{s:r3}(e:∀b,F b→∀o,w.heap[b]?=A o→w'.heap[b]?=A o)(h:eS w F d c s):eS w' F d c s:=by
 cases d with
 | zero =>
  refine⟨h.1,bE h.2.1 (fun g f=>?_),h.2.2⟩;have a:=(eH h.2.1 g f).2;rw[e g (h.2.2 g f) _ (Array.getElem?_eq_getElem a)];exact (Array.getElem?_eq_getElem a).symm
 | succ d=>exact Rd.sm e h
theorem eS.b:∀{d:Nat} {a:List aw} {s:r3},eS w F d a s→∃p c,s=O p a.length c
 | 0,_,_,⟨b,e,_⟩=>by
  subst b;rcases e.2 with ⟨rfl,_⟩|⟨g,cap,cur,rfl,_⟩
  ·exact⟨_,_,Z⟩
  ·exact⟨_,_,Z⟩
 | _+1,_,_,h=>Rd.b h.h
theorem kf{α:Type}{r s:Rd α}(c:r.n=s.n)(h:∀{F:Nat→Prop}{x:α}{vs:List r3},r.at_ w F x vs→s.at_ w F x vs){xs:List α}{v:r3}(e:r.y w F xs v):s.y w F xs v:=by
 rcases e with f|⟨b,off,cap,g,j,a,k,l,o,p⟩
 ·exact Or.inl f
 ·refine Or.inr ⟨b,off,cap,g,j,a,k,l,o,fun i x q=>?_⟩;obtain⟨us,t,y⟩:=p i x q;exact⟨us,h t,fun m u hu=>by rw[←c];exact y m u hu⟩
theorem oS:∀{d:Nat} {F:Nat→Prop} {e:aw} {vs:List r3},(bP d).at_ w F e vs→(cI d).at_ w F e vs
 | 0,F,e,vs,h=>by
  obtain⟨a,s,rfl,b,c,_⟩:=fS.1 h;refine fb.2 ⟨a,s,Z,b,?_⟩;rcases c.2 with ⟨rfl,_⟩|⟨g,cap,cur,rfl,_⟩
  ·exact⟨_,_,Z⟩
  ·exact⟨_,_,Z⟩
 | d+1,F,e,vs,h=>by
  obtain⟨a,s,rfl,f⟩:=fS.1 h;exact fb.2 ⟨a,s,Z,kf (by rw[ge,jI]) (fun h=>oS h) (Rd.lrow.h f)⟩
theorem zB{a:List aw}{s:r3}:∀{d:Nat},eS w F d a s→ey w F d a s
 | 0,⟨b,c,_⟩=>by
  refine⟨b,?_⟩;rcases c.2 with ⟨rfl,_⟩|⟨g,cap,cur,rfl,_⟩
  ·exact⟨_,_,Z⟩
  ·exact⟨_,_,Z⟩
 | _+1,h=>kf (by rw[ge,jI]) (fun h=>oS h) (Rd.lrow.h h)
theorem ut{F:Nat→Prop}{c:aK}{vs:List r3}(h:(ft d).at_ w F c vs):(ec d).at_ w F c vs:=by
 obtain⟨a,b,e,f,s,rfl,g,i⟩:=lS.1 h;exact gh.2 ⟨a,b,e,f,s,Z,g.h,zB i⟩
theorem DI{F:Nat→Prop}{a:bm}{vs:List r3}(h:(f6 d).at_ w F a vs):(fG d).at_ w F a vs:=by
 obtain⟨b,c,e,s,rfl,f⟩:=kp.1 h;exact jn.2 ⟨b,c,e,s,Z,kf (by rw[ge,jI]) (fun h=>oS h) f.h⟩
theorem jG(d:Nat):(ft d).n=(ec d).n:=by cases d<;>rfl
theorem Bv(d:Nat):(f6 d).n=(fG d).n:=by cases d<;>rfl
theorem nN(d:Nat):(eU d).n=(dP d).n:=by cases d<;>rfl
theorem pn{F:Nat→Prop}{r:au}{vs:List r3}(h:(eU d).at_ w F r vs):(dP d).at_ w F r vs:=by
 obtain⟨a,b,c,e,f,F1,F2,rfl,g,i,j,k,_⟩:=pE.1 h;exact gA.2 ⟨a,b,c,e,f,Z,Rd.sb j (kf (jG d) (fun h=>ut h) g.h),Rd.sb k (kf (Bv d) (fun h=>DI h) i.h)⟩
end
