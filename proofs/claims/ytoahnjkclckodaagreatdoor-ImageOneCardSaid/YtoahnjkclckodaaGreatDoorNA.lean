/- Parts of one proof, joined; conditions stand in each theorem. -/
import Derived.Test.YtoahnjkclckodaaGreatDoorNA0
import Derived.Test.YtoahnjkclckodaaGreatDoorNB
open Go.Value renaming slice→O,int→I,string→tS
open Go.IntKind renaming u8→tF,i64→U
namespace Go.Proofs.YtoahnjkclckodaaGreatDoor
open Go.RowKit
def ga:Nat→ac→Prop
 | 0,T=>T.z=[]
 | d+1,T=>∀k∈T.z,ga d k
theorem ga.more:∀(d:Nat) (T:ac),ga d T→ga (d+1) T
 | 0,T,h=>fun k a=>by
  have h:T.z=[]:=h;rw[h]at a;cases a
 | d+1,T,h=>fun k a=>ga.more d k (h k a)
theorem AZ{d:Nat}{T:ac}(h:okF d T=true):cz T=true:=by
 cases d with
 | zero=>exact h
 | succ d=>exact (FV _ _ ▸ (show (cz T&&T.z.all (okF d))=true from h)).1
theorem zn{T:ac}(h:cz T=true):uE T.q T.h.data.toList T.z.length=true∧fY T.q T.z=true∧t7 T.q T.u=true:=by
 unfold cz at h;simp only[FV]at h;exact⟨h.1.1.1.2,h.2,h.1.1.2⟩
def bL:Rd bj:=(Rd.u8.X (Rd.int.X Rd.str)).as fun v=>(v.q,v.u,v.h)
def Rd.none{α:Type}:Rd (List α) where
 n:=1
 at_ _ _ xs vs:=∃p c,vs=[O p 0 c]∧xs=[]
 len:=by rintro w F x vs ⟨p,c,rfl,_⟩;rfl
 t:=by rintro w w' F x vs _ h;exact h
 D:=by rintro w F G x vs _ h;exact h
 one:=by
  rintro w F x vs ⟨p,c,rfl,_⟩ u hu;obtain rfl:=List.mem_singleton.1 hu;rfl
def Aa(r:Rd (List a8)):Rd a8:=(Rd.u8.X (bL.X (Rd.int.X (Rd.u8.X r)))).as fun e=>(e.q,e.h,e.t,e.op,e.z)
def bM:Nat→Rd a8
 | 0=>Aa Rd.none
 | d+1=>Aa (bM d).list
def rx:Rd iJ:=(Rd.u8.X (Rd.int.X bL)).as fun a=>(a.q,a.t,a.h)
def gu(d:Nat):Rd br:=(Rd.u8.X (Rd.int.X (rx.list.X (bM d)))).as fun c=>(c.q,c.u,c.a,c.b)
def iU(d:Nat):Rd dr:=(Rd.u8.X (Rd.int.X (Rd.int.X (bM d).list))).as fun a=>(a.q,a.u,a.which,a.exprs)
def eD:Rd ay:=(Rd.str.X Rd.int).as fun t=>(t.c,t.a)
def fh(d:Nat):Rd aK:=(Rd.str.X (Rd.int.X (Rd.int.X ((gu d).list.X (iU d).list)))).as fun r=>(r.c,r.sal,r.a,r.b,r.d)
theorem lj(d:Nat):(bM d).n=7:=by cases d<;>rfl
section
variable {w:World} {F:Nat→Prop} {d:Nat} {vs:List Value}
def U8(x:Int):Prop:=0≤x∧x<256
def I64(x:Int):Prop:=-9223372036854775808≤x∧x<9223372036854775808
def jF(v:bj):Prop:=U8 v.q∧I64 v.u∧v.h.size≤maxLen
def rU(v:bj):List Value:=[I tF v.q,I U v.u,tS v.h]
theorem eh{v:bj}:bL.at_ w F v vs↔vs=rU v∧jF v:=by
 constructor
 ·rintro ⟨e,f,rfl,⟨rfl,a⟩,⟨v1,v2,rfl,⟨rfl,b⟩,rfl,c⟩⟩;exact⟨Z,a,b,c⟩
 ·rintro ⟨rfl,a,b,c⟩;exact⟨[_],[_,_],Z,⟨Z,a⟩,⟨[_],[_],Z,⟨Z,b⟩,Z,c⟩⟩
def fu(w:World) (F:Nat→Prop):Nat→List a8→Value→Prop
 | 0,ks,s=>ks=[]∧∃p c,s=O p 0 c
 | d+1,ks,s=>(bM d).h w F ks s
def my(e:a8):Prop:=U8 e.q∧jF e.h∧I64 e.t∧U8 e.op
def cD(e:a8) (s:Value):List Value:=[I tF e.q,I tF e.h.q,I U e.h.u,tS e.h.h,I U e.t,I tF e.op,s]
theorem l7{e:a8}:(bM d).at_ w F e vs↔my e∧∃s,vs=cD e s∧fu w F d e.z s:=by
 cases d with
 | zero =>
  constructor
  ·rintro ⟨i,j,rfl,⟨rfl,a⟩,v1,v2,rfl,b,k,x2,rfl,⟨rfl,f⟩,l,m,rfl,⟨rfl,g⟩,p,c,rfl,h⟩;obtain⟨rfl,hw⟩:=eh.1 b;exact⟨⟨a,hw,f,g⟩,_,Z,h,p,c,Z⟩
  ·rintro ⟨⟨a,b,f,g⟩,s,rfl,h,p,c,rfl⟩;exact⟨[_],_,Z,⟨Z,a⟩,rU e.h,_,Z,eh.2 ⟨Z,b⟩,[_],_,Z,⟨Z,f⟩,[_],[_],Z,⟨Z,g⟩,p,c,Z,h⟩
 | succ d =>
  constructor
  ·rintro ⟨i,j,rfl,⟨rfl,a⟩,v1,v2,rfl,b,k,x2,rfl,⟨rfl,f⟩,l,m,rfl,⟨rfl,g⟩,s,rfl,h⟩;obtain⟨rfl,hw⟩:=eh.1 b;exact⟨⟨a,hw,f,g⟩,_,Z,h⟩
  ·rintro ⟨⟨a,b,f,g⟩,s,rfl,h⟩;exact⟨[_],_,Z,⟨Z,a⟩,rU e.h,_,Z,eh.2 ⟨Z,b⟩,[_],_,Z,⟨Z,f⟩,[_],[_],Z,⟨Z,g⟩,s,Z,h⟩
def xE(a:iJ):Prop:=U8 a.q∧I64 a.t∧jF a.h
def gQ(a:iJ):List Value:=[I tF a.q,I U a.t,I tF a.h.q,I U a.h.u,tS a.h.h]
theorem EW{a:iJ}:rx.at_ w F a vs↔vs=gQ a∧xE a:=by
 constructor
 ·rintro ⟨f,g,rfl,⟨rfl,b⟩,v1,v2,rfl,⟨rfl,c⟩,e⟩;obtain⟨rfl,hw⟩:=eh.1 e;exact⟨Z,b,c,hw⟩
 ·rintro ⟨rfl,b,c,e⟩;exact⟨[_],_,Z,⟨Z,b⟩,[_],rU a.h,Z,⟨Z,c⟩,eh.2 ⟨Z,e⟩⟩
def Fh(c:br) (a s:Value):List Value:=[I tF c.q,I U c.u,a]++cD c.b s
theorem pd{c:br}:(gu d).at_ w F c vs↔U8 c.q∧I64 c.u∧my c.b∧∃a s,vs=Fh c a s∧rx.h w F c.a a∧fu w F d c.b.z s:=by
 constructor
 ·rintro ⟨j,k,rfl,⟨rfl,b⟩,v1,v2,rfl,⟨rfl,e⟩,l,x2,rfl,⟨a,rfl,f⟩,i⟩;obtain⟨g,s,rfl,h⟩:=l7.1 i;exact⟨b,e,g,a,s,Z,f,h⟩
 ·rintro ⟨b,e,g,a,s,rfl,f,h⟩;exact⟨[_],_,Z,⟨Z,b⟩,[_],_,Z,⟨Z,e⟩,[_],cD c.b s,Z,⟨a,Z,f⟩,l7.2 ⟨g,s,Z,h⟩⟩
def actC(a:dr) (s:Value):List Value:=[I tF a.q,I U a.u,I U a.which,s]
theorem qE{a:dr}:(iU d).at_ w F a vs↔U8 a.q∧I64 a.u∧I64 a.which∧∃s,vs=actC a s∧(bM d).h w F a.exprs s:=by
 constructor
 ·rintro ⟨g,h,rfl,⟨rfl,b⟩,v1,v2,rfl,⟨rfl,c⟩,i,x2,rfl,⟨rfl,e⟩,s,rfl,f⟩;exact⟨b,c,e,s,Z,f⟩
 ·rintro ⟨b,c,e,s,rfl,f⟩;exact⟨[_],_,Z,⟨Z,b⟩,[_],_,Z,⟨Z,c⟩,[_],[_],Z,⟨Z,e⟩,s,Z,f⟩
def Fp(t:ay):List Value:=[tS t.c,I U t.a]
theorem oO{t:ay}:eD.at_ w F t vs↔vs=Fp t∧t.c.size≤maxLen∧I64 t.a:=by
 constructor
 ·rintro ⟨c,e,rfl,⟨rfl,a⟩,rfl,b⟩;exact⟨Z,a,b⟩
 ·rintro ⟨rfl,a,b⟩;exact⟨[_],[_],Z,⟨Z,a⟩,Z,b⟩
def Fu(r:aK) (a b:Value):List Value:=[tS r.c,I U r.sal,I U r.a,a,b]
theorem rX{r:aK}:(fh d).at_ w F r vs↔r.c.size≤maxLen∧I64 r.sal∧I64 r.a∧∃a b,vs=Fu r a b∧(gu d).h w F r.b a∧(iU d).h w F r.d b:=by
 constructor
 ·rintro ⟨i,j,rfl,⟨rfl,c⟩,v1,v2,rfl,⟨rfl,e⟩,k,x2,rfl,⟨rfl,f⟩,l,m,rfl,⟨a,rfl,g⟩,b,rfl,h⟩;exact⟨c,e,f,a,b,Z,g,h⟩
 ·rintro ⟨c,e,f,a,b,rfl,g,h⟩;exact⟨[_],_,Z,⟨Z,c⟩,[_],_,Z,⟨Z,e⟩,[_],_,Z,⟨Z,f⟩,[_],[_],Z,⟨a,Z,g⟩,b,Z,h⟩
end
