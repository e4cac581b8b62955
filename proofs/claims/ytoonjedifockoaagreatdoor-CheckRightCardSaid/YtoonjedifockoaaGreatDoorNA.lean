/- Parts of one proof, joined; conditions stand in each theorem. -/
import Derived.Test.YtoonjedifockoaaGreatDoorNA0
import Derived.Test.YtoonjedifockoaaGreatDoorMA
namespace Go.Proofs.YtoonjedifockoaaGreatDoor
open Go.IntKind(i64)
open Go.Value(int string slice)
open Go.RowKit
def fE:Nat→ac→Prop
 | 0,T=>T.kids=[]
 | d+1,T=>∀k∈T.kids,fE d k
theorem fE.more:∀(d:Nat) (T:ac),fE d T→fE (d+1) T
 | 0,T,h=>fun k a=>by
  have h:T.kids=[]:=h;rw[h]at a;cases a
 | d+1,T,h=>fun k a=>fE.more d k (h k a)
theorem Ar{d:Nat}{T:ac}(h:okF d T=true):cw T=true:=by
 cases d with
 | zero=>exact h
 | succ d=>exact (EQ _ _ ▸ (show (cw T&&T.kids.all (okF d))=true from h)).1
theorem yI{T:ac}(h:cw T=true):tH T.kind T.text.data.toList T.kids.length=true∧fA T.kind T.kids=true∧sP T.kind T.num=true:=by
 unfold cw at h;simp only[EQ]at h;exact⟨h.1.1.1.2,h.2,h.1.1.2⟩
theorem nM(binds:Bool):∀(l:List cg) (v c:Int) (a:cg),bQ binds v l=some c→bQ binds v (l++[a])=aY binds c a
 | [],v,c,a,h=>by
  injection h with h;subst h
  show (match aY binds v a with|none=>none|some c=>some c)=_
  cases aY binds v a<;>rfl
 | b::l,v,c,a,h=>by
  have h:(match aY binds v b with|none=>none|some c=>bQ binds c l)=some c:=h
  show (match aY binds v b with|none=>none|some c=>bQ binds c (l++[a]))=_
  cases e:aY binds v b with
  | none=>rw[e]at h;cases h
  | some v1 =>
   rw[e]at h;exact nM binds l v1 c a h
theorem mp(d:Nat)(types:List ai):∀(l:List aC) (s a:Int×Int) (c:aC),cm d types s l=some a→cm d types s (l++[c])=bu d types a c
 | [],s,a,c,h=>by
  injection h with h;subst h
  show (match bu d types s c with|none=>none|some e=>some e)=_
  cases bu d types s c<;>rfl
 | b::l,s,a,c,h=>by
  have h:(match bu d types s b with|none=>none|some e=>cm d types e l)=some a:=h
  show (match bu d types s b with|none=>none|some e=>cm d types e (l++[c]))=_
  cases f:bu d types s b with
  | none=>rw[f]at h;cases h
  | some v1 =>
   rw[f]at h;exact mp d types l v1 a c h
theorem kH:∀(l seen:List ByteArray) (x:ByteArray),apartB seen (l++[x])=(apartB seen l&&!(idxOf x (seen++l)).isSome)
 | [],seen,x=>by
  show (!(idxOf x seen).isSome&&true)=(true&&!(idxOf x (seen++[])).isSome)
  simp
 | y::l,seen,x=>by
  show (!(idxOf y seen).isSome&&apartB (seen++[y]) (l++[x]))=(!(idxOf y seen).isSome&&apartB (seen++[y]) l&&!(idxOf x (seen++y::l)).isSome)
  rw[kH l (seen++[y]) x,Bool.and_assoc];simp
structure Rd (α:Type) where
 n:Nat
 at_:World→(Nat→Prop)→α→List Value→Prop
 len:∀{w F x vs},at_ w F x vs→vs.length=n
 keep:∀{w w':World} {F x vs},(∀b,F b→∀o,w.heap[b]?=some o→w'.heap[b]?=some o)→at_ w F x vs→at_ w' F x vs
 sub:∀{w:World} {F G:Nat→Prop} {x vs},(∀b,F b→G b)→at_ w F x vs→at_ w G x vs
 one:∀{w F x vs},at_ w F x vs→∀u∈vs,u.oneCell'=true
def Rd.row{α:Type} (r:Rd α) (w:World) (F:Nat→Prop) (xs:List α) (v:Value):Prop:=
 (xs=[]∧∃p c,v=.slice p 0 c)∨∃b off cap,xs≠[]∧F b∧b<w.heap.size∧xs.length≤cap∧cap≤maxLen∧v=slice (some ⟨b,off,none⟩) xs.length cap∧
  ∀i x,xs[i]?=some x→∃vs,r.at_ w F x vs∧∀m u,vs[m]?=some u→w.cell? ⟨b,off+i*r.n+m,none⟩=some u
theorem l9{w w':World}{b:Nat}(h:∀o,w.heap[b]?=some o→w'.heap[b]?=some o){i:Nat}{u:Value}(a:w.cell? ⟨b,i,none⟩=some u):w'.cell? ⟨b,i,none⟩=some u:=by
 obtain⟨o,c⟩:∃o,w.heap[b]?=some o:=by
  cases f:w.heap[b]? with
  | none=>unfold World.cell? at a;simp[f]at a
  | some o=>exact⟨o,rfl⟩
 have e:w'.heap[b]?=w.heap[b]?:=(h o c).trans c.symm;have:w'.cell? ⟨b,i,none⟩=w.cell? ⟨b,i,none⟩:=by unfold World.cell?;simp only[e]
 rw[this];exact a
section
variable {α:Type} {r:Rd α} {w w':World} {F G:Nat→Prop} {xs:List α} {v:Value}
theorem Rd.row_keep(c:∀b,F b→∀o,w.heap[b]?=some o→w'.heap[b]?=some o)(h:r.row w F xs v):r.row w' F xs v:=by
 rcases h with h|⟨b,off,cap,g,e,f,j,k,l,n⟩
 ·exact Or.inl h
 ·have a:b<w'.heap.size:=(Ez.1 (c b e _ (Array.getElem?_eq_getElem f))).1;refine Or.inr ⟨b,off,cap,g,e,a,j,k,l,fun i x p=>?_⟩;obtain⟨vs,q,s⟩:=n i x p;exact⟨vs,r.keep c q,fun m u hu=>l9 (c b e) (s m u hu)⟩
theorem Rd.row_sub(c:∀b,F b→G b)(h:r.row w F xs v):r.row w G xs v:=by
 rcases h with h|⟨b,off,cap,e,f,a,g,j,k,l⟩
 ·exact Or.inl h
 ·refine Or.inr ⟨b,off,cap,e,c b f,a,g,j,k,fun i x m=>?_⟩;obtain⟨vs,n,o⟩:=l i x m;exact⟨vs,r.sub c n,o⟩
theorem Rd.row_shape(h:r.row w F xs v):∃p c,v=.slice p xs.length c:=by
 rcases h with ⟨rfl,p,c,rfl⟩|⟨b,off,cap,e,f,_,g,i,a,j⟩
 ·exact⟨p,c,rfl⟩
 ·exact⟨_,_,a⟩
theorem Rd.row_nil{p:Option Addr}{c:Nat}:r.row w F [] (.slice p 0 c):=Or.inl ⟨rfl,p,c,rfl⟩
theorem Rd.row_at{i:Nat}{x:α}(h:r.row w F xs v)(c:xs[i]?=some x):∃b off cap vs,v=slice (some ⟨b,off,none⟩) xs.length cap∧xs.length≤cap∧cap≤maxLen∧F b∧b<w.heap.size∧r.at_ w F x vs∧∀m u,vs[m]?=some u→w.cell? ⟨b,off+i*r.n+m,none⟩=some u:=by
 rcases h with ⟨rfl,_⟩|⟨b,off,cap,p,e,a,f,g,j,k⟩
 ·simp at c
 ·obtain⟨vs,l,o⟩:=k i x c;exact⟨b,off,cap,vs,j,f,g,e,a,l,o⟩
theorem Rd.row_len(h:r.row w F xs v):xs.length≤maxLen:=by
 rcases h with ⟨rfl,_⟩|⟨b,off,cap,a,c,_,e,f,_⟩
 ·exact EM _
 ·omega
end
def Rd.num(k:IntKind) (a b:Int):Rd Int where
 n:=1
 at_ _ _ x vs:=vs=[.int k x]∧a≤x∧x<b
 len h:=by rw[h.1];rfl
 keep _ h:=h
 sub _ h:=h
 one h:=by rw[h.1];intro u hu;obtain rfl:=List.mem_singleton.1 hu;rfl
def Rd.int:Rd Int:=Rd.num i64 (-9223372036854775808) 9223372036854775808
def Rd.u8:Rd Int:=Rd.num .u8 0 256
def Rd.str:Rd ByteArray where
 n:=1
 at_ _ _ x vs:=vs=[.string x]∧x.size≤maxLen
 len h:=by rw[h.1];rfl
 keep _ h:=h
 sub _ h:=h
 one h:=by rw[h.1];intro u hu;obtain rfl:=List.mem_singleton.1 hu;rfl
def Rd.list{α:Type} (r:Rd α):Rd (List α) where
 n:=1
 at_ w F xs vs:=∃v,vs=[v]∧r.row w F xs v
 len:=by rintro w F x vs ⟨v,rfl,_⟩;rfl
 keep:=by rintro w w' F x vs a ⟨v,rfl,h⟩;exact⟨v,rfl,Rd.row_keep a h⟩
 sub:=by rintro w F G x vs b ⟨v,rfl,h⟩;exact⟨v,rfl,Rd.row_sub b h⟩
 one:=by
  rintro w F x vs ⟨v,rfl,h⟩ u hu;obtain rfl:=List.mem_singleton.1 hu;obtain⟨p,c,rfl⟩:=Rd.row_shape h;rfl
def Rd.pair{α β:Type} (r:Rd α) (s:Rd β):Rd (α×β) where
 n:=r.n+s.n
 at_ w F x vs:=∃us ws,vs=us++ws∧r.at_ w F x.1 us∧s.at_ w F x.2 ws
 len:=by rintro w F x vs ⟨us,ws,rfl,a,b⟩;rw[EO,r.len a,s.len b]
 keep:=by rintro w w' F x vs c ⟨us,ws,rfl,a,b⟩;exact⟨us,ws,rfl,r.keep c a,s.keep c b⟩
 sub:=by rintro w F G x vs e ⟨us,ws,rfl,a,b⟩;exact⟨us,ws,rfl,r.sub e a,s.sub e b⟩
 one:=by
  rintro w F x vs ⟨us,ws,rfl,a,b⟩ u hu;rcases List.mem_append.1 hu with h|h
  ·exact r.one a u h
  ·exact s.one b u h
def Rd.as{α β:Type} (r:Rd α) (f:β→α):Rd β where
 n:=r.n
 at_ w F x vs:=r.at_ w F (f x) vs
 len h:=r.len h
 keep a h:=r.keep a h
 sub b h:=r.sub b h
 one h:=r.one h
section
variable {α:Type} {r:Rd α} {w w':World} {F G:Nat→Prop} {xs:List α} {x:α} {v:Value} {vs:List Value}
theorem Rd.below(h:r.at_ w F x vs){B:Nat}(hF:∀b,F b→b<B)(a:Below B w w'):r.at_ w' F x vs:=
 r.keep (fun b c _ e=>(a.block b (hF b c)).trans e) h
theorem Rd.row_below(h:r.row w F xs v){B:Nat}(hF:∀b,F b→b<B)(a:Below B w w'):r.row w' F xs v:=
 Rd.row_keep (fun b c _ e=>(a.block b (hF b c)).trans e) h
def Rd.cells(r:Rd α) (w:World) (F:Nat→Prop) (xs:List α) (us:List Value):Prop:=us.length=xs.length*r.n∧∀i x,xs[i]?=some x→∃vs,r.at_ w F x vs∧∀m u,vs[m]?=some u→us[i*r.n+m]?=some u
theorem Rd.cells_nil:r.cells w F [] []:=⟨by simp,fun i x a=>by simp at a⟩
theorem Rd.cells_snoc{us:List Value}(h:r.cells w F xs us)(c:r.at_ w F x vs):r.cells w F (xs++[x]) (us++vs):=by
 obtain⟨e,f⟩:=h;have g:=r.len c;refine⟨by rw[EO,e,g,EO,Fo,Nat.add_mul,Nat.one_mul],fun i y a=>?_⟩
 by_cases j:i<xs.length
 ·rw[Fi j]at a;obtain⟨ws,k,l⟩:=f i y a;refine⟨ws,k,fun m u hu=>?_⟩;have:=l m u hu;rw[Fi (EP.1 this).1];exact this
 ·have b:=(EP.1 a).1;rw[EO,Fo]at b;obtain rfl:i=xs.length:=by omega
  rw[EZ (EA _),Nat.sub_self]at a;simp only[List.getElem?_cons_zero,ox]at a;subst a;refine⟨vs,c,fun m u hu=>?_⟩;rw[←e,EZ (Nat.le_add_right _ _),Nat.add_sub_cancel_left];exact hu
theorem Rd.cells_keep{us:List Value}(a:∀b,F b→∀o,w.heap[b]?=some o→w'.heap[b]?=some o)(h:r.cells w F xs us):r.cells w' F xs us:=
 ⟨h.1,fun i x c=>by obtain⟨vs,e,f⟩:=h.2 i x c;exact⟨vs,r.keep a e,f⟩⟩
theorem Rd.cells_sub{us:List Value}(a:∀b,F b→G b)(h:r.cells w F xs us):r.cells w G xs us:=
 ⟨h.1,fun i x c=>by obtain⟨vs,e,f⟩:=h.2 i x c;exact⟨vs,r.sub a e,f⟩⟩
theorem Rd.row_own{us:List Value}{base:Nat}{e:TypeId}(a:w.ownsRow base e r.n v xs.length us)(f:r.cells w F xs us)(hF:∀g,v.ownBlock=some g→F g):r.row w F xs v:=by
 obtain⟨s,⟨rfl,h⟩|⟨g,cap,cur,rfl,t,b,j,k,y,l⟩⟩:=a
 ·have:xs=[]:=EX h;subst this;exact Or.inl ⟨rfl,none,0,rfl⟩
 ·by_cases c:xs=[]
  ·subst c;exact Or.inl ⟨rfl,_,_,rfl⟩
  ·refine Or.inr ⟨g,0,cap,c,hF g rfl,(Ez.1 b).1,j,k,rfl,fun i x o=>?_⟩;obtain⟨vs,p,q⟩:=f.2 i x o;refine⟨vs,p,fun m u hu=>?_⟩;have:=q m u hu;rw[←l,List.getElem?_take]at this
   split at this
   ·rw[Fq _ _ _ _ _ _ b,Nat.zero_add]
    simpa using this
   ·cases this
end
def sR:Rd gY:=(Rd.u8.pair (Rd.int.pair Rd.str)).as fun v=>(v.kind,v.num,v.text)
def Rd.none{α:Type}:Rd (List α) where
 n:=1
 at_ _ _ xs vs:=∃p c,vs=[.slice p 0 c]∧xs=[]
 len:=by rintro w F x vs ⟨p,c,rfl,_⟩;rfl
 keep:=by rintro w w' F x vs _ h;exact h
 sub:=by rintro w F G x vs _ h;exact h
 one:=by
  rintro w F x vs ⟨p,c,rfl,_⟩ u hu;obtain rfl:=List.mem_singleton.1 hu;rfl
def js(r:Rd (List ag)):Rd ag:=(Rd.u8.pair (sR.pair (Rd.int.pair (Rd.u8.pair r)))).as fun e=>(e.kind,e.val,e.var,e.op,e.kids)
def ay:Nat→Rd ag
 | 0=>js Rd.none
 | d+1=>js (ay d).list
def dm:Rd cg:=(Rd.u8.pair (Rd.int.pair sR)).as fun a=>(a.kind,a.var,a.val)
def bp(d:Nat):Rd aC:=(Rd.u8.pair (Rd.int.pair (dm.list.pair (ay d)))).as fun c=>(c.kind,c.type,c.args,c.test)
def bS(d:Nat):Rd aT:=(Rd.u8.pair (Rd.int.pair (Rd.int.pair (ay d).list))).as fun a=>(a.kind,a.type,a.which,a.exprs)
def bo:Rd ai:=(Rd.str.pair Rd.int).as fun t=>(t.name,t.fields)
def bh(d:Nat):Rd aj:=(Rd.str.pair (Rd.int.pair (Rd.int.pair ((bp d).list.pair (bS d).list)))).as fun r=>(r.name,r.sal,r.vars,r.conds,r.acts)
def iW(d:Nat):Rd cd:=(bo.list.pair (bh d).list).as fun r=>(r.types,r.rules)
theorem cB(d:Nat):(ay d).n=7:=by cases d<;>rfl
section
variable {w:World} {F:Nat→Prop} {d:Nat} {vs:List Value}
def U8(x:Int):Prop:=0≤x∧x<256
def I64(x:Int):Prop:=-9223372036854775808≤x∧x<9223372036854775808
def kX(v:gY):Prop:=U8 v.kind∧I64 v.num∧v.text.size≤maxLen
def qM(v:gY):List Value:=[int .u8 v.kind,int i64 v.num,.string v.text]
theorem jt{v:gY}:sR.at_ w F v vs↔vs=qM v∧kX v:=by
 constructor
 ·rintro ⟨e,f,rfl,⟨rfl,a⟩,⟨v1,v2,rfl,⟨rfl,b⟩,rfl,c⟩⟩;exact⟨rfl,a,b,c⟩
 ·rintro ⟨rfl,a,b,c⟩;exact⟨[_],[_,_],rfl,⟨rfl,a⟩,⟨[_],[_],rfl,⟨rfl,b⟩,rfl,c⟩⟩
def cu(w:World) (F:Nat→Prop):Nat→List ag→Value→Prop
 | 0,a,s=>a=[]∧∃p c,s=.slice p 0 c
 | d+1,a,s=>(ay d).row w F a s
def ep(e:ag):Prop:=U8 e.kind∧kX e.val∧I64 e.var∧U8 e.op
def bF(e:ag) (s:Value):List Value:=[int .u8 e.kind,int .u8 e.val.kind,int i64 e.val.num,.string e.val.text,int i64 e.var,int .u8 e.op,s]
theorem bZ{e:ag}:(ay d).at_ w F e vs↔ep e∧∃s,vs=bF e s∧cu w F d e.kids s:=by
 cases d with
 | zero =>
  constructor
  ·rintro ⟨i,j,rfl,⟨rfl,a⟩,v1,v2,rfl,b,k,x2,rfl,⟨rfl,f⟩,l,m,rfl,⟨rfl,g⟩,p,c,rfl,h⟩;obtain⟨rfl,hw⟩:=jt.1 b;exact⟨⟨a,hw,f,g⟩,_,rfl,h,p,c,rfl⟩
  ·rintro ⟨⟨a,b,f,g⟩,s,rfl,h,p,c,rfl⟩;exact⟨[_],_,rfl,⟨rfl,a⟩,qM e.val,_,rfl,jt.2 ⟨rfl,b⟩,[_],_,rfl,⟨rfl,f⟩,[_],[_],rfl,⟨rfl,g⟩,p,c,rfl,h⟩
 | succ d =>
  constructor
  ·rintro ⟨i,j,rfl,⟨rfl,a⟩,v1,v2,rfl,b,k,x2,rfl,⟨rfl,f⟩,l,m,rfl,⟨rfl,g⟩,s,rfl,h⟩;obtain⟨rfl,hw⟩:=jt.1 b;exact⟨⟨a,hw,f,g⟩,_,rfl,h⟩
  ·rintro ⟨⟨a,b,f,g⟩,s,rfl,h⟩;exact⟨[_],_,rfl,⟨rfl,a⟩,qM e.val,_,rfl,jt.2 ⟨rfl,b⟩,[_],_,rfl,⟨rfl,f⟩,[_],[_],rfl,⟨rfl,g⟩,s,rfl,h⟩
def wW(a:cg):Prop:=U8 a.kind∧I64 a.var∧kX a.val
def cU(a:cg):List Value:=[int .u8 a.kind,int i64 a.var,int .u8 a.val.kind,int i64 a.val.num,.string a.val.text]
theorem eP{a:cg}:dm.at_ w F a vs↔vs=cU a∧wW a:=by
 constructor
 ·rintro ⟨f,g,rfl,⟨rfl,b⟩,v1,v2,rfl,⟨rfl,c⟩,e⟩;obtain⟨rfl,hw⟩:=jt.1 e;exact⟨rfl,b,c,hw⟩
 ·rintro ⟨rfl,b,c,e⟩;exact⟨[_],_,rfl,⟨rfl,b⟩,[_],qM a.val,rfl,⟨rfl,c⟩,jt.2 ⟨rfl,e⟩⟩
def yc(c:aC) (a s:Value):List Value:=[int .u8 c.kind,int i64 c.type,a]++bF c.test s
theorem dq{c:aC}:(bp d).at_ w F c vs↔U8 c.kind∧I64 c.type∧ep c.test∧∃a s,vs=yc c a s∧dm.row w F c.args a∧cu w F d c.test.kids s:=by
 constructor
 ·rintro ⟨j,k,rfl,⟨rfl,b⟩,v1,v2,rfl,⟨rfl,e⟩,l,x2,rfl,⟨a,rfl,f⟩,i⟩;obtain⟨g,s,rfl,h⟩:=bZ.1 i;exact⟨b,e,g,a,s,rfl,f,h⟩
 ·rintro ⟨b,e,g,a,s,rfl,f,h⟩;exact⟨[_],_,rfl,⟨rfl,b⟩,[_],_,rfl,⟨rfl,e⟩,[_],bF c.test s,rfl,⟨a,rfl,f⟩,bZ.2 ⟨g,s,rfl,h⟩⟩
def pn(a:aT) (s:Value):List Value:=[int .u8 a.kind,int i64 a.type,int i64 a.which,s]
theorem eB{a:aT}:(bS d).at_ w F a vs↔U8 a.kind∧I64 a.type∧I64 a.which∧∃s,vs=pn a s∧(ay d).row w F a.exprs s:=by
 constructor
 ·rintro ⟨g,h,rfl,⟨rfl,b⟩,v1,v2,rfl,⟨rfl,c⟩,i,x2,rfl,⟨rfl,e⟩,s,rfl,f⟩;exact⟨b,c,e,s,rfl,f⟩
 ·rintro ⟨b,c,e,s,rfl,f⟩;exact⟨[_],_,rfl,⟨rfl,b⟩,[_],_,rfl,⟨rfl,c⟩,[_],[_],rfl,⟨rfl,e⟩,s,rfl,f⟩
def Ew(t:ai):List Value:=[.string t.name,int i64 t.fields]
theorem dN{t:ai}:bo.at_ w F t vs↔vs=Ew t∧t.name.size≤maxLen∧I64 t.fields:=by
 constructor
 ·rintro ⟨c,e,rfl,⟨rfl,a⟩,rfl,b⟩;exact⟨rfl,a,b⟩
 ·rintro ⟨rfl,a,b⟩;exact⟨[_],[_],rfl,⟨rfl,a⟩,rfl,b⟩
def yP(r:aj) (a b:Value):List Value:=[.string r.name,int i64 r.sal,int i64 r.vars,a,b]
theorem dY{r:aj}:(bh d).at_ w F r vs↔r.name.size≤maxLen∧I64 r.sal∧I64 r.vars∧∃a b,vs=yP r a b∧(bp d).row w F r.conds a∧(bS d).row w F r.acts b:=by
 constructor
 ·rintro ⟨i,j,rfl,⟨rfl,c⟩,v1,v2,rfl,⟨rfl,e⟩,k,x2,rfl,⟨rfl,f⟩,l,m,rfl,⟨a,rfl,g⟩,b,rfl,h⟩;exact⟨c,e,f,a,b,rfl,g,h⟩
 ·rintro ⟨c,e,f,a,b,rfl,g,h⟩;exact⟨[_],_,rfl,⟨rfl,c⟩,[_],_,rfl,⟨rfl,e⟩,[_],_,rfl,⟨rfl,f⟩,[_],[_],rfl,⟨a,rfl,g⟩,b,rfl,h⟩
theorem jb{r:cd}:(iW d).at_ w F r vs↔∃st a,vs=[st,a]∧bo.row w F r.types st∧(bh d).row w F r.rules a:=by
 constructor
 ·rintro ⟨e,f,rfl,⟨st,rfl,b⟩,a,rfl,c⟩;exact⟨st,a,rfl,b,c⟩
 ·rintro ⟨st,a,rfl,b,c⟩;exact⟨[_],[_],rfl,⟨st,rfl,b⟩,a,rfl,c⟩
end
