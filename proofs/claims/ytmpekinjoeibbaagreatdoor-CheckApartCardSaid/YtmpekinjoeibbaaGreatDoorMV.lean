/- Parts of one proof, joined; conditions stand in each theorem. -/
import Derived.Test.YtmpekinjoeibbaaGreatDoorMN
import Derived.Test.YtmpekinjoeibbaaGreatDoorMT
import Derived.Deep.Cut
import Derived.Deep.MidRow
open Option renaming some→A,none→V
open Go renaming World→p7,Value→r3,Calls→r9,undef→tT,wpQuiet_nil→vk,TypeId→vn
open Go.Ending renaming returned→tF
open Go.Value renaming agg→s3,int→I,string→p9,slice→O,pointer→tv
open Go.IntKind renaming u8→J,i64→Y
open Go.Proofs.Tryz renaming prog→r6
open Go.Obj renaming cells→p8
namespace Go.Proofs.YtmpekinjoeibbaaGreatDoor
set_option maxHeartbeats 4000000
set_option maxRecDepth 100000
open Go.RowKit
abbrev PS:=Nat×Bool
structure cz (ts:List Tok):Prop where
 each:∀t∈ts,t.1<256∧t.2.1.size≤16384∧t.2.2≤16384
 last:∀k t,ts[k]?=A t→¬k+1<ts.length→t.1=7
def cX(ts:List Tok) (k:Nat):Tok:=ts.getD k (7,⟨#[]⟩,0)
theorem gd{ts:List Tok}{k:Nat}(h:k<ts.length):ts[k]?=A (cX ts k):=by
 unfold cX;rw[List.getD_eq_getElem?_getD,EX h];rfl
theorem cQ{ts:List Tok}(h:cz ts)(k:Nat):(cX ts k).1<256∧(cX ts k).2.1.size≤16384∧(cX ts k).2.2≤16384:=by
 by_cases a:k<ts.length
 ·exact h.each _ (Fv (gd a))
 ·unfold cX;rw[List.getD_eq_getElem?_getD,List.getElem?_eq_none (by omega)];exact⟨by show 7<256;omega,by show (0:Nat)≤16384;omega,by show (0:Nat)≤16384;omega⟩
def aY(w:p7) (P L cap:Nat) (ts:List Tok) (r:ah×PS) (e:Ending) (w':p7):Prop:=
 ∃(d:Nat) (s:r3),e=tF (s3 #[I J r.1.b,p9 r.1.h,I Y r.1.q,I Y r.1.t,s])∧ax w P L cap ts r.2.1 r.2.2 w'∧OwnAt w' d r.1.u s (bG w.heap.size w'.heap.size)∧Fits r.1
def set5(W:p7) (b:Nat) (v0 v1 v2 v3 v4:r3):World:=((((W.setCell ⟨b,0,V⟩ v0).setCell ⟨b,1,V⟩ v1).setCell ⟨b,2,V⟩ v2).setCell ⟨b,3,V⟩ v3).setCell ⟨b,4,V⟩ v4
theorem sg(W:p7)(b:Nat)(v0 v1 v2 v3 v4:r3):(set5 W b v0 v1 v2 v3 v4).heap.size=W.heap.size:=by simp[set5,World.setCell]
theorem j9{W:p7}{b g:Nat}(h:g≠b)(v0 v1 v2 v3 v4:r3):(set5 W b v0 v1 v2 v3 v4).heap[g]?=W.heap[g]?:=by
 unfold set5;exact (EW _ _ _ g h).trans ((EW _ _ _ g h).trans ((EW _ _ _ g h).trans ((EW _ _ _ g h).trans (EW _ _ _ g h))))
section
variable {w W W':p7} {P L cap:Nat} {ts:List Tok} {k:Nat} {bad:Bool}
theorem ax.set5(h:ax w P L cap ts k bad W)(a:P<w.heap.size)(c:L<w.heap.size){b:Nat}(d:w.heap.size≤b)(v0 v1 v2 v3 v4:r3):ax w P L cap ts k bad (set5 W b v0 v1 v2 v3 v4):=
 ((((h.t a c d 0 v0).t a c d 1 v1).t a c d 2 v2).t a c d 3 v3).t a c d 4 v4
theorem aY.q{r:ah×PS}{s:r3}{d B b:Nat}(c:P<w.heap.size)(e:L<w.heap.size)(f:ax w P L cap ts r.2.1 r.2.2 W)(g:OwnAt W d r.1.u s (bG B W.heap.size))(i:Fits r.1)
  (j:w.heap.size≤b) (hB:b<B) (v0 v1 v2 v3 v4:r3):aY w P L cap ts r (tF (s3 #[I J r.1.b,p9 r.1.h,I Y r.1.q,I Y r.1.t,s])) (YtmpekinjoeibbaaGreatDoor.set5 W b v0 v1 v2 v3 v4):=by
 refine⟨d,s,Z,f.set5 c e j _ _ _ _ _,?_,i⟩;refine (g.t fun x o a h=>(j9 (by have:=a.1;omega) _ _ _ _ _).trans h).N fun x a=>?_
 have:=a.1;exact⟨by omega,by rw[sg];exact a.2⟩
end
theorem jH(W:p7)(F:Nat→Prop):OwnAt W 0 [] (O V 0 0) F:=⟨Z,Or.inl Z⟩
def ofM(ts:List Tok) (σ:PS) (tok kind:Nat):ah×PS:=
 (.mk kind (cX ts σ.1).2.1 0 (cX ts σ.1).2.2 [],eC ts.length σ.1 (σ.2||(cX ts σ.1).1 != tok),(σ.2||(cX ts σ.1).1 != tok))
theorem kB{ts:List Tok}(h:cz ts)(σ:PS)(tok kind:Nat)(a:kind<256):Fits (ofM ts σ tok kind).1:=by
 obtain⟨_,b,c⟩:=cQ h σ.1;exact⟨a,by show (cX ts σ.1).2.1.size≤maxLen;unfold maxLen;omega,by show (-9223372036854775808:Int)≤0;omega,by show (0:Int)<9223372036854775808;omega,by show (-9223372036854775808:Int)≤(cX ts σ.1).2.2;omega,by show ((cX ts σ.1).2.2:Int)<9223372036854775808;omega⟩
theorem jK{w:p7}{P L cap:Nat}{ts:List Tok}(a:cz ts){σ:PS}(h:PAt w P L cap ts σ.1 σ.2)(tok kind:Nat)(b:kind<256) :
  r9 r6 98 #[tv (A ⟨P,0,V⟩),I J tok,I J kind] w (aY w P L cap ts (ofM ts σ tok kind)):=
 (xM h (gd h.k) tok kind).mono fun _e _ ⟨he,c⟩=>⟨0,O V 0 0,he,c,jH _ _,kB a σ tok kind b⟩
theorem i8{w:p7}{P L cap:Nat}{ts:List Tok}(f:cz ts){σ:PS}(h:PAt w P L cap ts σ.1 σ.2)(kind:Nat)(n:kind<256) :
  r9 r6 41 #[tv (A ⟨P,0,V⟩),I J kind] w (aY w P L cap ts (ofM ts σ 2 kind)):=by
 have b:FS w (w.alloc (p8 #[I J 0,p9 ⟨#[]⟩,I Y 0,I Y 0,O V 0 0] 64)):=(EU _ w).alloc (ET _) _;obtain⟨q,t⟩:=zz2 (jK f (h.C b) 2 kind n) (h.b b);have l:=h.lt.1;have u:=Hd h.lt.2;have v:=Hd (ot w (p8 #[I J 0,p9 ⟨#[]⟩,I Y 0,I Y 0,O V 0 0] 64));clear h b;generalize ofM ts σ 2 kind=r at *
 go_enter Tryz.func41,Tryz.ntmps41
 go_wp2_with fail
 refine Ff q.o ?_;rintro e w1 ⟨d,s,rfl,g,i,m⟩;obtain⟨p,c,rfl⟩:=i.b;have a:=g.q v.o l (ET _);have j:=Hd a;obtain⟨a0,a1,a2,a3,a4⟩:=cells5 a;have z0:=ae a 0;have B:=ae a 1;have z2:=ae a 2;have z3:=ae a 3;have z4:=ae a 4;obtain⟨x,y,z⟩:=zz3 (t.o.h g) i m;clear a g i m;go_wp2_with fail
 exact bp Tryz.results41 Z (aV j.o _ _ _ _ _) Z (aY.q l u.o x.o y.o z.o (ET _) (by simp) _ _ _ _ _)
def isM(ts:List Tok) (σ:PS) (texts:List ByteArray):Bool:=!σ.2&&isT (cX ts σ.1) texts
def al(ts:List Tok) (σ:PS):PS:=(eC ts.length σ.1 σ.2,σ.2)
def aN(ts:List Tok) (σ:PS) (texts:List ByteArray):PS:=if isM ts σ texts=true then al ts σ else σ
def aP(ts:List Tok) (σ:PS) (x:ByteArray):PS:=(ob ts σ.1 σ.2 (cX ts σ.1) x,qs σ.2 (cX ts σ.1) x)
def atM(ts:List Tok) (σ:PS):Int:=(cX ts σ.1).2.2
def txM(ts:List Tok) (σ:PS):ByteArray:=(cX ts σ.1).2.1
def kdM(ts:List Tok) (σ:PS):Nat:=(cX ts σ.1).1
theorem jO(ts:List Tok)(σ:PS)(texts:List ByteArray):(aN ts σ texts).1=jP ts σ.1 σ.2 (cX ts σ.1) texts∧(aN ts σ texts).2=σ.2:=by
 unfold aN jP isM
 split
 ·exact⟨Z,Z⟩
 ·exact⟨Z,Z⟩
def fB:ah:=.mk 0 ⟨#[]⟩ 0 0 []
def bg:ByteArray:=⟨#[45]⟩
def eY:ByteArray:=⟨#[110,111,116]⟩
def fq:ByteArray:=⟨#[40]⟩
def gK:ByteArray:=⟨#[41]⟩
def iL:Nat→List ByteArray
 | 0=>[⟨#[111,114]⟩,⟨#[]⟩,⟨#[]⟩,⟨#[]⟩,⟨#[]⟩,⟨#[]⟩]
 | 1=>[⟨#[97,110,100]⟩,⟨#[]⟩,⟨#[]⟩,⟨#[]⟩,⟨#[]⟩,⟨#[]⟩]
 | 2=>[⟨#[61]⟩,⟨#[33,61]⟩,⟨#[60]⟩,⟨#[60,61]⟩,⟨#[62]⟩,⟨#[62,61]⟩]
 | 3=>[⟨#[43]⟩,⟨#[45]⟩,⟨#[]⟩,⟨#[]⟩,⟨#[]⟩,⟨#[]⟩]
 | _=>[⟨#[42]⟩,⟨#[]⟩,⟨#[]⟩,⟨#[]⟩,⟨#[]⟩,⟨#[]⟩]
def gP(ts:List Tok) (ex:PS→ah×PS) (lvl:Nat) (pl:Int):Nat→ah→PS→ah×PS
 | 0,T,σ=>(T,σ)
 | g+1,T,σ =>
  if isM ts σ (iL lvl)=true then
   let r:=ex (al ts σ)
   if lvl=2 then (.mk 16 (txM ts σ) 0 pl [T,r.1],r.2) else gP ts ex lvl pl g (.mk 16 (txM ts σ) 0 pl [T,r.1]) r.2
  else (T,σ)
def exM(ts:List Tok):Nat→Nat→PS→ah×PS
 | 0,_,σ=>(fB,σ)
 | f+1,lvl,σ =>
  if σ.2=true then (fB,σ)
  else if lvl=5 then
   if isM ts σ [bg,eY]=true then (.mk 16 (txM ts σ) 0 (atM ts σ) [(exM ts f 5 (al ts σ)).1],(exM ts f 5 (al ts σ)).2)
   else if isM ts σ [fq]=true then ((exM ts f 0 (al ts σ)).1,aP ts (exM ts f 0 (al ts σ)).2 gK)
   else if kdM ts σ=5 then ofM ts σ 5 15
   else if kdM ts σ=3 then ofM ts σ 3 13
   else ofM ts σ 4 14
  else gP ts (exM ts f (lvl+1)) lvl (atM ts σ) ts.length (exM ts f (lvl+1) σ).1 (exM ts f (lvl+1) σ).2
theorem eK(ts:List Tok)(σ:PS):σ.1≤(al ts σ).1∧(al ts σ).2=σ.2:=⟨pF,Z⟩
theorem bD(ts:List Tok)(σ:PS)(x:ByteArray):σ.1≤(aP ts σ x).1:=by
 unfold aP ob jP;dsimp only;split
 ·exact pF
 ·exact ET _
theorem ed(ts:List Tok)(σ:PS)(tok kind:Nat):σ.1≤(ofM ts σ tok kind).2.1:=pF
theorem CZ{ts:List Tok}{ex:PS→ah×PS}(hex:∀σ,σ.1≤(ex σ).2.1){lvl:Nat}{pl:Int}:∀(g:Nat) (T:ah) (σ:PS),σ.1≤(gP ts ex lvl pl g T σ).2.1:=by
 intro g
 induction g with
 | zero=>intro T σ;exact ET _
 | succ g c =>
  intro T σ;unfold gP;have a:=(eK ts σ).1;have b:=hex (al ts σ)
  split
  ·dsimp only
   split
   ·exact EZ a b
   ·exact EZ (EZ a b) (c _ _)
  ·exact ET _
theorem BA(ts:List Tok):∀(f lvl:Nat) (σ:PS),σ.1≤(exM ts f lvl σ).2.1:=by
 intro f
 induction f with
 | zero=>intro lvl σ;exact ET _
 | succ f a =>
  intro lvl σ;unfold exM;have b:=(eK ts σ).1
  (repeat' split)
  ·exact ET _
  ·exact EZ b (a 5 _)
  ·exact EZ (EZ b (a 0 _)) (bD _ _ _)
  ·exact ed _ _ _ _
  ·exact ed _ _ _ _
  ·exact ed _ _ _ _
  ·exact EZ (a (lvl+1) σ) (CZ (fun σ=>a (lvl+1) σ) _ _ _)
theorem fc{ts:List Tok}(h:cz ts){σ:PS}(d:σ.1<ts.length){texts:List ByteArray}(b:isM ts σ texts=true):(al ts σ).1=σ.1+1∧σ.2=false∧σ.1+1<ts.length:=by
 unfold isM at b;rw[Fp]at b;have c:σ.2=false:=by have:=b.1;cases e:σ.2<;>simp[e]at this ⊢
 have a:σ.1+1<ts.length:=by
  by_cases a:σ.1+1<ts.length
  ·exact a
  ·exfalso
   have f:=h.last σ.1 _ (gd d) a;have:=b.2;unfold isT at this;rw[f]at this;simp at this
 exact⟨by unfold al;rw[c];exact pJ a,c,a⟩
theorem dA{w:p7}{P L cap:Nat}{ts:List Tok}{σ:PS}(h:PAt w P L cap ts σ.1 σ.2)(B off n c:Nat)(texts:List ByteArray)(hB:kt w B off texts)(b:texts.length=n)(a:n≤100) :
  r9 r6 40 #[tv (A ⟨P,0,V⟩),O (A ⟨B,off,V⟩) n c] w fun e w'=>e=tF (Value.bool (isM ts σ texts))∧ax w P L cap ts (aN ts σ texts).1 (aN ts σ texts).2 w':=
 (sj h (gd h.k) B off n c texts hB b a).mono fun _ _ ⟨he,d⟩=>⟨he,by rw[(jO ts σ texts).1,(jO ts σ texts).2];exact d⟩
theorem cU{w:p7}{P L cap:Nat}{ts:List Tok}{σ:PS}(h:PAt w P L cap ts σ.1 σ.2)(x:ByteArray) :
  r9 r6 44 #[tv (A ⟨P,0,V⟩),p9 x] w fun e w'=>e=tF (Value.tuple #[])∧ax w P L cap ts (aP ts σ x).1 (aP ts σ x).2 w':=
 zv h (gd h.k) x
theorem fP{w:p7}{P L cap:Nat}{ts:List Tok}{σ:PS}(h:PAt w P L cap ts σ.1 σ.2) :
  r9 r6 19 #[tv (A ⟨P,0,V⟩)] w fun e w'=>e=tF (s3 #[I J (kdM ts σ),p9 (txM ts σ),I Y (atM ts σ)])∧FS w w':=
 pi h (gd h.k)
theorem vZ{w:p7}(o:Obj)(l:List ByteArray):kt ((w.alloc o).alloc (p8 (l.map p9).toArray 9)) (w.heap.size+1) 0 l:=by
 have h:=bN (w:=w.alloc o) l;rw[o2]at h;exact h
theorem fg{kind:Nat}{tx:ByteArray}{pl:Int}{a:List ah}(b:kind<256)(c:tx.size≤16384)(d:0≤pl)(e:pl≤16384):Fits (.mk kind tx 0 pl a):=
 ⟨b,by show tx.size≤maxLen;unfold maxLen;omega,by show (-9223372036854775808:Int)≤0;omega,by show (0:Int)<9223372036854775808;omega,by show (-9223372036854775808:Int)≤pl;omega,by show pl<9223372036854775808;omega⟩
def fK(a:Nat) (T:ah) (W:p7) (xs:List r3):Prop:=∃(d:Nat) (s:r3),xs=[s]∧OwnAt W d T.u s (bG a W.heap.size)∧Fits T
def gG(a:Nat) (T:ah) (W:p7) (xs:List r3):Prop:=∃(d g N:Nat) (s:r3),xs=[I Y g]∧W.heap[g]?=A (p8 (az T s).toArray 64 (0,0))∧OwnAt W d T.u s (bG a N)∧Fits T∧a≤N∧N≤g
theorem fK.N{c Q:Nat}{T:ah}{W W':p7}{xs:List r3}(h:fK c T W xs)(l:Q<c)(e:W.grownBy W' (A Q)):fK c T W' xs:=by
 obtain⟨d,s,f,g,i⟩:=h;exact⟨d,s,f,(g.t fun b o a j=>bv e j (by have:=a.1;omega)).N (fun b a=>⟨a.1,EY a.2 e.size⟩),i⟩
theorem gG.N{a Q:Nat}{T:ah}{W W':p7}{xs:List r3}(h:gG a T W xs)(q:Q<a)(c:W.grownBy W' (A Q)):gG a T W' xs:=by
 obtain⟨d,g,N,s,e,f,i,j,l,m⟩:=h;exact⟨d,g,N,s,e,bv c f (by omega),i.t fun b o n p=>bv c p (by have:=n.1;omega),j,l,m⟩
theorem gG.own{e:Nat}{T:ah}{W:p7}{xs:List r3}(h:gG e T W xs):∃(d g:Nat),xs=[I Y g]∧OwnAt W (d+1) [T] (O (A ⟨g,0,V⟩) 1 1) (bG e W.heap.size):=by
 obtain⟨d,g,N,s,o,n,p,q,v,x⟩:=h;have f:=(ES.1 n).1;refine⟨d,g,o,Or.inr ⟨g,1,(az T s).toArray,fun i b=>i=0∧bG e N b,by simp,⟨by omega,f⟩,ET _,by unfold maxLen;omega,Z,n,Z,fun i y a=>?_,fun i b c=>⟨⟨c.2.1,by have:=c.2.2;omega⟩,by have:=c.2.2;omega⟩,fun i j b l r t=>l (r.1.trans t.1.symm)⟩⟩
 cases i with
 | zero =>
  simp at a;subst a;exact⟨q,s,fun m u hu=>by simpa using hu,p.N fun b c=>⟨Z,c⟩⟩
 | succ i=>simp at a
def vL(ts:List Tok) (f:Nat):Prop:=∀(lvl:Nat) (σ:PS) (w:p7) (P L cap:Nat),lvl≤5→PAt w P L cap ts σ.1 σ.2→(ts.length-σ.1)*7+(6-lvl)≤f→
 r9 r6 213 #[tv (A ⟨P,0,V⟩),I Y lvl] w (aY w P L cap ts (exM ts f lvl σ))
def tM(ts:List Tok) (f:Nat):Prop:=∀(σ:PS) (w:p7) (P L cap:Nat),σ.2=false→PAt w P L cap ts σ.1 σ.2→(ts.length-σ.1)*7+1≤f→
 r9 r6 229 #[tv (A ⟨P,0,V⟩)] w (aY w P L cap ts (exM ts f 5 σ))
theorem sh{ts:List Tok}{f:Nat}(m:vL ts f)(σ:PS)(w:p7)(P L cap:Nat)(h:PAt w P L cap ts σ.1 σ.2)(g:(ts.length-σ.1)*7+6≤f) :
  r9 r6 173 #[tv (A ⟨P,0,V⟩)] w (aY w P L cap ts (exM ts f 0 σ)):=by
 have b:FS w (w.alloc (p8 #[I J 0,p9 ⟨#[]⟩,I Y 0,I Y 0,O V 0 0] 64)):=(EU _ w).alloc (ET _) _;have q:=Hd (m 0 σ _ P L cap (by omega) (h.C b) g);have t:=Hd (h.b b);have n:=h.lt.1;have u:=Hd h.lt.2;have v:=Hd (ot w (p8 #[I J 0,p9 ⟨#[]⟩,I Y 0,I Y 0,O V 0 0] 64));clear h b m g;generalize exM ts f 0 σ=r at *
 go_enter Tryz.func173,Tryz.ntmps173
 go_wp2_with fail
 refine Ff q.o ?_;rintro e w1 ⟨d,s,rfl,i,j,g⟩;obtain⟨p,c,rfl⟩:=j.b;have a:=i.q v.o n (ET _);have l:=Hd a;obtain⟨a0,a1,a2,a3,a4⟩:=cells5 a;have z0:=ae a 0;have B:=ae a 1;have z2:=ae a 2;have z3:=ae a 3;have z4:=ae a 4;obtain⟨x,y,z⟩:=zz3 (t.o.h i) j g;clear a i j g;go_wp2_with fail
 exact bp Tryz.results173 Z (aV l.o _ _ _ _ _) Z (aY.q n u.o x.o y.o z.o (ET _) (by simp) _ _ _ _ _)
theorem DW{ts:List Tok}(cl:cz ts){f:Nat}(h1:tM ts f)(hE:vL ts f):tM ts (f+1):=by
 intro σ w P L cap X h C;have bl:FS w (w.alloc (p8 #[I J 0,p9 ⟨#[]⟩,I Y 0,I Y 0,O V 0 0] 64)):=(EU _ w).alloc (ET _) _;obtain⟨HC,H0⟩:=zz2 (fP (h.C bl)) (h.b bl);have K:=h.lt.1;obtain⟨HL,HX,HK,E,cp,c3,cq⟩:=zz7 h.lt.2 (ot w (p8 #[I J 0,p9 ⟨#[]⟩,I Y 0,I Y 0,O V 0 0] 64)) h.k cl h1 hE C
 have t:exM ts (f+1) 5 σ=(if isM ts σ [bg,eY]=true then (.mk 16 (txM ts σ) 0 (atM ts σ) [(exM ts f 5 (al ts σ)).1],(exM ts f 5 (al ts σ)).2)
   else if isM ts σ [fq]=true then ((exM ts f 0 (al ts σ)).1,aP ts (exM ts f 0 (al ts σ)).2 gK)
   else if kdM ts σ=5 then ofM ts σ 5 15
   else if kdM ts σ=3 then ofM ts σ 3 13
   else ofM ts σ 4 14):=by
  conv=>lhs;unfold exM
  rw[ox (by rw[X];decide),oA Z]
 obtain⟨R,bn⟩:=zzy (exM ts (f+1) 5 σ);rw[bn];rw[bn]at t;obtain⟨HR,ev⟩:=zz2 t X;clear h bl cl h1 hE C bn t X;obtain⟨kd,bq⟩:=zzy (kdM ts σ);obtain⟨tx,br⟩:=zzy (txM ts σ);obtain⟨at_,bt⟩:=zzy (atM ts σ);rw[bq,br,bt]at HC HR;have ad:Hid (tx.size≤16384∧0≤at_∧at_≤16384):=by
  show _∧_
  obtain⟨_,g2,g3⟩:=cQ E.o σ.1;rw[←br,←bt];refine⟨g2,?_,?_⟩
  ·unfold atM;omega
  ·unfold atM;omega
 clear br bt;have bB:=Hd bq;clear bq
 go_enter Tryz.func229,Tryz.ntmps229
 go_wp2_with fail
 refine Ff HC.o ?_;rintro e w1 ⟨rfl,bR⟩;have c5:=Hd (H0.o.b bR);have x0:=ag bR HX.o (by simp);have cr:=Hd x0;have ct:w.heap.size<w1.heap.size:=(ES.1 x0).1;clear bR x0;have b1:=c5.o.y (p8 #[I J kd,p9 tx,I Y at_] 89);obtain⟨e3,c6,c7,cu⟩:=zz4 b1 (ot w1 (p8 #[I J kd,p9 tx,I Y at_] 89)) ((FQ w1 (p8 #[I J kd,p9 tx,I Y at_] 89) _ (ES.1 cr.o).1).trans cr.o) (b1.y (p8 #[p9 bg,p9 eY] 9));have HS:=Hd (dA cu.o.2 (w1.heap.size+1) 0 2 2 [bg,eY] (vZ _ [bg,eY]) Z (by omega));have af:(w1.alloc (p8 #[I J kd,p9 tx,I Y at_] 89)).heap.size=w1.heap.size+1:=o2 _ _;obtain⟨c8,c9⟩:=zz2 ((FQ (w1.alloc (p8 #[I J kd,p9 tx,I Y at_] 89)) (p8 #[p9 bg,p9 eY] 9) w.heap.size (by rw[af];omega)).trans c7.o) ((FQ (w1.alloc (p8 #[I J kd,p9 tx,I Y at_] 89)) (p8 #[p9 bg,p9 eY] 9) w1.heap.size (by rw[af];omega)).trans c6.o);clear b1 af;go_wp2_with fail
 refine Ff HS.o ?_;rintro e y ⟨rfl,bb⟩;obtain⟨S,bc,b2⟩:=zz3 (cu.o.h bb) (bb.q c8.o K (ET _)) (bb.q c9.o K (FB ct));clear bb
 by_cases hm:isM ts σ [bg,eY]=true
 ·have t:=HR.o;rw[oA hm]at t;have z:aN ts σ [bg,eY]=al ts σ:=by unfold aN;rw[oA hm]
  obtain⟨q1,q2,q3⟩:=fc E.o HK.o hm;rw[z]at S;rw[hm];have N:=Hd (cp.o (al ts σ) y.drew P L cap (by rw[(eK ts σ).2];exact q2) S.o.2.drew (by rw[q1];have:=cq.o;omega));have ak:R.1=.mk 16 tx 0 at_ [(exM ts f 5 (al ts σ)).1]:=by rw[t]
  have aq:R.2=(exM ts f 5 (al ts σ)).2:=by rw[t]
  generalize exM ts f 5 (al ts σ)=r at *;generalize al ts σ=e4 at *;obtain⟨b3,b4⟩:=zz2 ak aq;clear t HR z q1 q2 q3 hm ak aq bB;obtain⟨c0,c1,c2,_,_,_⟩:=cells3 b2.o;go_wp2_with fail
  have B:w1.heap.size≠P:=by omega
  have C0:=fun x:RE.Gr y P=>x.b c0 B
  have C1:=fun x:RE.Gr y P=>x.b c1 B
  have C2:=fun x:RE.Gr y P=>x.b c2 B
  have cv:P<y.heap.size:=S.o.2.lt.1;clear c0 c1 c2;refine RE.t (by kernel_rfl) 8 [5,6] [5,6] (fun s W=>if s=0 then W=y.drew else ax y P L cap ts r.2.1 r.2.2 W) (fun W W'=>W.grownBy W' (A P))
   (fun i xs=>if i=5 then s3 #[I J r.1.b,p9 r.1.h,I Y r.1.q,I Y r.1.t,xs.getD 0 tT] else O (A ⟨RE.natOf xs,0,V⟩) 1 1)
   (fun i W xs=>if i=5 then fK y.heap.size r.1 W xs else gG y.heap.size r.1 W xs) (by kernel_rfl) (fun i h1 h2=>by rw[h1]at h2;cases h2) ?_ Z ?_
  ·intro k W W' xs h _ hg
   split at h
   ·rw[oA (by assumption)];exact h.N cv hg
   ·rw[ox (by assumption)];exact h.N cv hg
  simp only[Fg,Fu,Fh,Ft,FC,List.length_nil,Nat.reduceAdd];have F:∀(n s:Nat) (W:p7),s≤n→(if s=0 then W=y.drew else ax y P L cap ts r.2.1 r.2.2 W)→∃x:RE.Gr y P,W=x.1:=fun n s W _ h=>by
   split at h
   ·exact⟨⟨W,by rw[h];exact grown_drewN (oT y _) 1⟩,Z⟩
   ·exact⟨⟨W,h.1⟩,Z⟩
  have T:=Hd F;clear F
  repeat (refine RE.h (fun W=>∃x:RE.Gr y P,W=x.1) (T.o _) Z Z Z Z ?_;go_big_quiet_step (fail);refine vk ?_)
  refine RE.b Z Z ?_ (fun G=>?_)
  ·intro W _ M _;obtain rfl:W=y.drew:=M Z;refine RE.u 229 _ _ Z (enters_of Tryz.func229 (by kernel_rfl) Z) #[tv (A ⟨P,0,V⟩)] (by simp[Act.eval]) (N.o.mono ?_);rintro e W' ⟨d,s,rfl,hT,q,C⟩;exact⟨_,Z,[s],Z,hT.u,hT.1,⟨d,s,Z,q,C⟩⟩
  simp only[Act.put,EV,Fe,Fc];refine RE.b Z Z ?_ (fun cx=>?_)
  ·intro W _ M da;have hT:ax y P L cap ts r.2.1 r.2.2 W:=M Z;obtain⟨d,s,rfl,q,C⟩:fK y.heap.size r.1 W G:=da 5 G (by kernel_rfl) Z;obtain⟨p,c,rfl⟩:=q.b;refine RE.Upon.told (v:=O (A ⟨W.heap.size,0,V⟩) 1 1) (w':=W.alloc (p8 (az r.1 (O p r.1.u.length c)).toArray 64)) ?_ ⟨[I Y W.heap.size],Z,hT.y _,?_,?_⟩
   ·unfold RE.Upon
    go_simp
    rfl
   ·exact aL ((EU _ W).alloc (ET _) _) _
   ·refine⟨d,W.heap.size,W.heap.size,_,Z,ot W _,?_,C,hT.1.size,ET _⟩;exact q.C (fun b X=>X.2) ((EU _ W).alloc (ET _) _)
  simp only[Act.put,EV,Fe,Fc]
  repeat (refine RE.h (fun W=>∃x:RE.Gr y P,W=x.1) (T.o _) Z Z Z Z ?_;go_big_quiet_step (fail);refine vk ?_)
  refine RE.q ?_;intro W3 M hE;have b5:ax y P L cap ts r.2.1 r.2.2 W3:=M;obtain⟨d,g,rfl,q⟩:=(show gG y.heap.size r.1 W3 cx from hE 6 cx Z).own;obtain⟨HO,u⟩:=zz2 q (S.o.h b5);have j:=b5.q bc.o K (ET _);have D:=Hd j;obtain⟨a0,a1,a2,a3,a4⟩:=cells5 j;have z0:=ae j 0;have z1:=ae j 1;have z2:=ae j 2;have z3:=ae j 3;have z4:=ae j 4;have dc:w.heap.size<y.heap.size:=(ES.1 bc.o).1;obtain⟨RT,b6⟩:=R;obtain rfl:RT=_:=b3.o;obtain rfl:b6=_:=b4.o;clear C0 C1 C2 hE M q b5 j;go_wp2_with fail
  refine bp Tryz.results229 Z (aV D.o _ _ _ _ _) Z ?_;exact aY.q (r:=(.mk 16 tx 0 at_ [r.1],r.2)) K HL.o u.o HO.o (fg (by omega) ad.o.1 ad.o.2.1 ad.o.2.2) (ET _) dc _ _ _ _ _
 ·have t:=HR.o;rw[ox hm]at t;have bd:=Hd t;have z:aN ts σ [bg,eY]=σ:=by unfold aN;rw[ox hm]
  rw[z]at S;have ar:isM ts σ [bg,eY]=false:=by simpa using hm
  rw[ar];clear z hm ar t HR;have b7:=S.o.y (p8 #[p9 fq] 9);obtain⟨dd,dg,dr,ds⟩:=zz4 b7 ((FQ y (p8 #[p9 fq] 9) _ (ES.1 bc.o).1).trans bc.o) ((FQ y (p8 #[p9 fq] 9) _ (ES.1 b2.o).1).trans b2.o) (dA b7.2 y.heap.size 0 1 1 [fq] (bN [fq]) Z (by omega));clear b7;go_wp2_with fail
  refine Ff ds.o ?_;rintro e l ⟨rfl,bk⟩;obtain⟨u,H,b8⟩:=zz3 (dd.o.h bk) (bk.q dg.o K (ET _)) (bk.q dr.o K (FB ct));clear bk
  by_cases hm:isM ts σ [fq]=true
  ·have t:=bd.o;rw[oA hm]at t;have z:aN ts σ [fq]=al ts σ:=by unfold aN;rw[oA hm]
   obtain⟨q1,q2,q3⟩:=fc E.o HK.o hm;rw[z]at u;rw[hm];have N:=Hd (sh c3.o (al ts σ) l P L cap u.o.2 (by rw[q1];have:=cq.o;omega));have ak:R.1=(exM ts f 0 (al ts σ)).1:=by rw[t]
   have aq:R.2=aP ts (exM ts f 0 (al ts σ)).2 gK:=by rw[t]
   generalize exM ts f 0 (al ts σ)=r at *;obtain⟨b3,b4⟩:=zz2 ak aq;clear t bd z q1 q2 q3 hm ak aq bB;go_wp2_with fail
   refine Ff N.o ?_;rintro e w4 ⟨d,s,rfl,m,q,C⟩;obtain⟨p,c,rfl⟩:=q.b;obtain⟨b9,cT⟩:=zz2 (u.o.h m) (m.q H.o K (ET _));have ca:=b9.o.y (p8 #[I J r.1.b,p9 r.1.h,I Y r.1.q,I Y r.1.t,O p r.1.u.length c] 64);obtain⟨dv,eg,en,eo,HW,HF⟩:=zz6 ca (ot w4 (p8 #[I J r.1.b,p9 r.1.h,I Y r.1.q,I Y r.1.t,O p r.1.u.length c] 64)) ((FQ w4 (p8 #[I J r.1.b,p9 r.1.h,I Y r.1.q,I Y r.1.t,O p r.1.u.length c] 64) _ (ES.1 cT.o).1).trans cT.o) (q.C (fun b X=>X.2) ((EU _ w4).alloc (ET _) (p8 #[I J r.1.b,p9 r.1.h,I Y r.1.q,I Y r.1.t,O p r.1.u.length c] 64))) (cU ca.2 gK) C;have cV:w.heap.size<l.heap.size:=(ES.1 H.o).1;have e0:l.heap.size≤w4.heap.size:=m.1.size;clear ca m q C;go_wp2_with fail
   refine Ff HW.o ?_;rintro e w5 ⟨rfl,U⟩;have av:=Hd (dv.o.h U);have j:=U.q en.o K (ET _);have D:=Hd j;obtain⟨a0,a1,a2,a3,a4⟩:=cells5 j;have z0:=ae j 0;have z1:=ae j 1;have z2:=ae j 2;have z3:=ae j 3;have z4:=ae j 4;obtain⟨m0,m1,m2,m3,m4⟩:=cells5 (U.q eg.o K (by omega));have cW:OwnAt w5 d r.1.u (O p r.1.u.length c) (bG l.heap.size w5.heap.size):=
    (eo.o.t fun b o X q=>bv U.1 q (by have:=X.1;omega)).N fun b X=>⟨X.1,EY X.2 (by have:=U.1.size;rw[o2]at this;omega)⟩
   have er:=Hd cW;obtain⟨RT,b6⟩:=R;obtain rfl:RT=_:=b3.o;obtain rfl:b6=_:=b4.o;clear U j cW;go_wp2_with fail
   refine bp Tryz.results229 Z (aV D.o _ _ _ _ _) Z ?_;exact aY.q (r:=(r.1,aP ts r.2 gK)) K HL.o av.o er.o HF.o (ET _) cV _ _ _ _ _
  have t:=bd.o;rw[ox hm]at t;have z:aN ts σ [fq]=σ:=by unfold aN;rw[ox hm]
  rw[z]at u;have ar:isM ts σ [fq]=false:=by simpa using hm
  rw[ar];clear z hm ar bd bB
  by_cases cb:kd=5
  ·subst cb;rw[oA Z]at t;subst t;have m:=u.o;have a6:=Hd (jK E.o (w:=l.drew) m.2.drew 5 15 (by omega));obtain⟨c0,_,_,_,_,_⟩:=cells3 b8.o;have B:w1.heap.size≠P:=by omega
   have C0:=fun x:RE.Gr l P=>x.b c0 B
   have ch:P<l.heap.size:=m.2.lt.1;have F:∀(n s:Nat) (W:p7),s≤n→(if s=0 then W=l.drew else ax l P L cap ts (ofM ts σ 5 15).2.1 (ofM ts σ 5 15).2.2 W)→∃x:RE.Gr l P,W=x.1:=fun n s W _ h=>by
    split at h
    ·exact⟨⟨W,by rw[h];exact grown_drewN (oT l _) 1⟩,Z⟩
    ·exact⟨⟨W,h.1⟩,Z⟩
   have T:=Hd F;have a7:=Hd (kB E.o σ 5 15 (by omega));have a8:(ofM ts σ 5 15).1.u=[]:=rfl;have et:=Hd a8;generalize ofM ts σ 5 15=r at *;clear F m a8;go_wp2_with fail
   clear c0;refine RE.t (by kernel_rfl) 6 [5] [5] (fun s W=>if s=0 then W=l.drew else ax l P L cap ts r.2.1 r.2.2 W) (fun W W'=>W.grownBy W' (A P))
    (fun i xs=>s3 #[I J r.1.b,p9 r.1.h,I Y r.1.q,I Y r.1.t,xs.getD 0 tT])
    (fun i W xs=>fK l.heap.size r.1 W xs) (by kernel_rfl) (fun i h1 h2=>by rw[h1]at h2;cases h2) (fun k W W' xs h _ hg=>h.N ch hg) Z ?_
   simp only[Fg,Fu,Fh,Ft,FC,List.length_nil,Nat.reduceAdd]
   repeat (refine RE.h (fun W=>∃x:RE.Gr l P,W=x.1) (T.o _) Z Z Z Z ?_;go_big_quiet_step (fail);refine vk ?_)
   refine RE.b Z Z ?_ (fun G=>?_)
   ·intro W _ M _;obtain rfl:W=l.drew:=M Z;refine RE.u 98 _ _ Z (enters_of Tryz.func98 (by kernel_rfl) Z) #[tv (A ⟨P,0,V⟩),I J 5,I J 15] (by simp[Act.eval]) (a6.o.mono ?_);rintro e W' ⟨d,s,rfl,hT,q,C⟩;exact⟨_,Z,[s],Z,hT.u,hT.1,⟨d,s,Z,q,C⟩⟩
   simp only[Act.put,EV,Fe,Fc];refine RE.q ?_;intro W4 M hE;have Q:ax l P L cap ts r.2.1 r.2.2 W4:=M;obtain⟨d,s,rfl,q,C⟩:=(show fK l.heap.size r.1 W4 G from hE 5 G Z);obtain⟨p,c,rfl⟩:=q.b;obtain⟨HO,av⟩:=zz2 q (u.o.h Q);have j:=Q.q H.o K (ET _);have D:=Hd j;obtain⟨a0,a1,a2,a3,a4⟩:=cells5 j;have z0:=ae j 0;have z1:=ae j 1;have z2:=ae j 2;have z3:=ae j 3;have z4:=ae j 4;have ba:w.heap.size<l.heap.size:=(ES.1 H.o).1;clear C0 hE M q Q j C;go_wp2_with fail
   refine bp Tryz.results229 Z (aV D.o _ _ _ _ _) Z ?_;exact aY.q K HL.o av.o HO.o a7.o (ET _) ba _ _ _ _ _
  rw[ox cb]at t;have e1:((kd:Int)==5)=false:=by simp;omega
  by_cases ck:kd=3
  ·subst ck;rw[oA Z]at t;subst t;have m:=u.o;have a6:=Hd (jK E.o (w:=l.drew) m.2.drew 3 13 (by omega));obtain⟨c0,_,_,_,_,_⟩:=cells3 b8.o;have B:w1.heap.size≠P:=by omega
   have C0:=fun x:RE.Gr l P=>x.b c0 B
   have ch:P<l.heap.size:=m.2.lt.1;have F:∀(n s:Nat) (W:p7),s≤n→(if s=0 then W=l.drew else ax l P L cap ts (ofM ts σ 3 13).2.1 (ofM ts σ 3 13).2.2 W)→∃x:RE.Gr l P,W=x.1:=fun n s W _ h=>by
    split at h
    ·exact⟨⟨W,by rw[h];exact grown_drewN (oT l _) 1⟩,Z⟩
    ·exact⟨⟨W,h.1⟩,Z⟩
   have T:=Hd F;have a7:=Hd (kB E.o σ 3 13 (by omega));have a8:(ofM ts σ 3 13).1.u=[]:=rfl;have et:=Hd a8;generalize ofM ts σ 3 13=r at *;clear F m a8;go_wp2_with fail
   clear c0;refine RE.t (by kernel_rfl) 6 [5] [5] (fun s W=>if s=0 then W=l.drew else ax l P L cap ts r.2.1 r.2.2 W) (fun W W'=>W.grownBy W' (A P))
    (fun i xs=>s3 #[I J r.1.b,p9 r.1.h,I Y r.1.q,I Y r.1.t,xs.getD 0 tT])
    (fun i W xs=>fK l.heap.size r.1 W xs) (by kernel_rfl) (fun i h1 h2=>by rw[h1]at h2;cases h2) (fun k W W' xs h _ hg=>h.N ch hg) Z ?_
   simp only[Fg,Fu,Fh,Ft,FC,List.length_nil,Nat.reduceAdd]
   repeat (refine RE.h (fun W=>∃x:RE.Gr l P,W=x.1) (T.o _) Z Z Z Z ?_;go_big_quiet_step (fail);refine vk ?_)
   refine RE.b Z Z ?_ (fun G=>?_)
   ·intro W _ M _;obtain rfl:W=l.drew:=M Z;refine RE.u 98 _ _ Z (enters_of Tryz.func98 (by kernel_rfl) Z) #[tv (A ⟨P,0,V⟩),I J 3,I J 13] (by simp[Act.eval]) (a6.o.mono ?_);rintro e W' ⟨d,s,rfl,hT,q,C⟩;exact⟨_,Z,[s],Z,hT.u,hT.1,⟨d,s,Z,q,C⟩⟩
   simp only[Act.put,EV,Fe,Fc];refine RE.q ?_;intro W4 M hE;have Q:ax l P L cap ts r.2.1 r.2.2 W4:=M;obtain⟨d,s,rfl,q,C⟩:=(show fK l.heap.size r.1 W4 G from hE 5 G Z);obtain⟨p,c,rfl⟩:=q.b;obtain⟨HO,av⟩:=zz2 q (u.o.h Q);have j:=Q.q H.o K (ET _);have D:=Hd j;obtain⟨a0,a1,a2,a3,a4⟩:=cells5 j;have z0:=ae j 0;have z1:=ae j 1;have z2:=ae j 2;have z3:=ae j 3;have z4:=ae j 4;have ba:w.heap.size<l.heap.size:=(ES.1 H.o).1;clear C0 hE M q Q j C;go_wp2_with fail
   refine bp Tryz.results229 Z (aV D.o _ _ _ _ _) Z ?_;exact aY.q K HL.o av.o HO.o a7.o (ET _) ba _ _ _ _ _
  rw[ox ck]at t;have e2:((kd:Int)==3)=false:=by simp;omega
  subst t;have a6:=Hd (jK E.o u.o.2 4 14 (by omega));obtain⟨c0,_,_,_,_,_⟩:=cells3 b8.o;generalize ofM ts σ 4 14=r at *;clear cb ck;go_wp2_with fail
  refine Ff a6.o ?_;rintro e w4 ⟨d,s,rfl,m,q,C⟩;obtain⟨p,c,rfl⟩:=q.b;have b9:=Hd (u.o.h m);have j:=m.q H.o K (ET _);have D:=Hd j;obtain⟨a0,a1,a2,a3,a4⟩:=cells5 j;have z0:=ae j 0;have z1:=ae j 1;have z2:=ae j 2;have z3:=ae j 3;have z4:=ae j 4;obtain⟨HO,HF⟩:=zz2 q C;have ba:w.heap.size<l.heap.size:=(ES.1 H.o).1;clear m j q C c0;go_wp2_with fail
  refine bp Tryz.results229 Z (aV D.o _ _ _ _ _) Z ?_;exact aY.q K HL.o b9.o HO.o HF.o (ET _) ba _ _ _ _ _
theorem xg{g:Nat}{t:vn}:∀(vs:List r3) (o:Nat) (w:p7) (cs:Array r3),w.heap[g]?=A (p8 cs t (0,0))→o+vs.length≤cs.size→
  ∃a:Array r3,(w.setCells g o vs).heap[g]?=A (p8 a t (0,0))∧a.size=cs.size∧(∀i v,vs[i]?=A v→a[o+i]?=A v)∧∀k,k<o∨o+vs.length≤k→a[k]?=cs[k]?:=by
 intro vs
 induction vs with
 | nil=>intro o w cs h _;exact⟨cs,h,Z,fun i v hv=>by simp at hv,fun _ _=>rfl⟩
 | cons x r c =>
  intro o w cs h d;simp only[FC]at d;obtain⟨a,e,f,j,b⟩:=c (o+1) _ _ (heap_set h o x) (by simpa using (by omega));refine⟨a,e,by simpa using f,fun i v hv=>?_,fun k l=>?_⟩
  ·cases i with
   | zero =>
    simp at hv;subst hv;rw[Nat.add_zero,b o (Or.inl (by omega)),Array.getElem?_setIfInBounds_self,oA (by omega)]
   | succ i =>
    have:=j i v (by simpa using hv);rw[show o+1+i=o+(i+1) by omega]at this;exact this
  ·simp only[FC]at l;rw[b k (by omega),Array.getElem?_setIfInBounds_ne (by omega)]
theorem my{B g:Nat}(a:B≤g){W:p7}:∀(vs:List r3) (o:Nat) (w:p7),Below B W w→Below B W (w.setCells g o vs):=by
 intro vs
 induction vs with
 | nil=>intro o w h;exact h
 | cons x r b=>intro o w h;exact b (o+1) _ (h.setCell (p:=⟨g,o,V⟩) a x)
theorem mU{g:Nat}{t:vn}{vs:List r3}{w:p7}{cs:Array r3}(h:w.heap[g]?=A (p8 cs t (0,0)))(d:vs.length=cs.size):(w.setCells g 0 vs).heap[g]?=A (p8 vs.toArray t (0,0)):=by
 obtain⟨a,b,e,c,_⟩:=xg vs 0 w cs h (by omega);have:a=vs.toArray:=by
  apply Array.ext_getElem?;intro i
  by_cases f:i<vs.length
  ·have:=c i vs[i] (by simp);rw[Nat.zero_add]at this;rw[this];simp
  ·rw[FO (by omega)];simp;omega
 rw[b,this]
theorem oI{g:Nat}{t:vn}{w:p7}{cs:Array r3}(h:w.heap[g]?=A (p8 cs t (0,0))){n:Nat}(a:n=cs.size):w.there g 0 n:=fun j b=>by
 refine⟨?_,by simp[World.frozen?,h]⟩;rw[FR _ _ _ _ _ _ h,Array.getElem?_eq_getElem (by omega)];rfl
theorem ww{g:Nat}{t:vn}{w:p7}{vs:List r3}(h:w.heap[g]?=A (p8 vs.toArray t (0,0))):w.rangeAt g 0 vs:=fun j v hv=>by
 rw[FR _ _ _ _ _ _ h,Nat.zero_add]
 simpa using hv
def j3:List ByteArray:=iL 0++iL 1++iL 2++iL 3++iL 4
def gz:Array Value:=Array.replicate 30 (p9 ⟨#[]⟩)
theorem vD:(j3.map p9).toArray.all (·.oneCell')=true:=by
 refine all_oneCell_toArray fun v hv=>?_
 obtain⟨s,_,rfl⟩:=List.mem_map.1 hv;rfl
theorem Ec{fn:Func}{R:Ending→p7→Prop}{a:Act}{W:p7}{slot T:Nat}{ty:vn}{u:r3}(c:fn.results=#[.cell slot ty])(d:a.tmps.getD slot tT=tv (A ⟨T,0,V⟩))
  (e:(loadVar ty ⟨T,0,V⟩).run r6 W=.ok u W) (f:a.defers=[]) (g:R (tF u) W):bodyPost r6 fn R .ret a W:=by
 have b:a.tmps[slot]?.getD tT=tv (A ⟨T,0,V⟩):=by simpa using d
 refine bodyPost_ret (v:=u) ?_ f g;simp[results,c,b,asAddr,e]
theorem wZ(w:p7):r9 r6 228 #[] w fun e w'=>e=tF (s3 (j3.map p9).toArray)∧FS w w':=by
 go_enter Tryz.func228,Tryz.ntmps228
 go_upto_region 1 with fail
 iterate 19 (go_step)
 have d:=ot w (p8 gz 389);have g:=(EU _ w).alloc (ET _) (p8 gz 389);change wpList _ _ _ _ _ (w.alloc (p8 gz 389));generalize w.alloc (p8 gz 389)=w1 at *;refine wpList_store_mid Z 389 _ _ Z w.heap.size 0 (j3.map p9).toArray Z Z (oI d Z) (by kernel_rfl) vD ?_;have c:=mU (vs:=j3.map p9) d Z;have f:=my (ET _) (j3.map p9) 0 w1 g;change wpList _ _ _ _ _ (w1.setCells w.heap.size 0 (j3.map p9));generalize w1.setCells w.heap.size 0 (j3.map p9)=h at *;clear d g w1;generalize a:(j3.map p9)=vs;rw[a]at c;have hlen:vs.length=30:=by rw[←a];rfl
 go_wp2_with fail
 have b:=run_loadVar_mid (P:=r6) h w.heap.size 0 389 vs (.array 5 388) (ww c) (by kernel_rfl) Z (by rw[hlen];kernel_rfl);exact Ec Tryz.results228 Z b Z ⟨by rw[a],f⟩
