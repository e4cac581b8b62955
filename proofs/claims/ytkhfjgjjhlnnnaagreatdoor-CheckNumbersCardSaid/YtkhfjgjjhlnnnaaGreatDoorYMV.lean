/- Parts of one proof, joined; conditions stand in each theorem. -/
import Derived.Test.YtkhfjgjjhlnnnaaGreatDoorYMN
import Derived.Test.YtkhfjgjjhlnnnaaGreatDoorYMT
import Derived.Deep.Cut
import Derived.Deep.MidRow
open Option renaming some→Y,none→U
open Go renaming World→wD,Value→wF,Calls→xL,undef→At,wpQuiet_nil→Bk,TypeId→CD
open Go.Ending renaming returned→z8
open Go.Value renaming agg→xS,int→I,string→J,slice→A,pointer→xV
open Go.IntKind renaming u8→O,i64→Z
open Go.Proofs.Tryz renaming prog→xD
open Go.Obj renaming cells→wq
namespace Go.Proofs.YtkhfjgjjhlnnnaaGreatDoor
set_option maxHeartbeats 4000000
set_option maxRecDepth 100000
open Go.RowKit
abbrev PS:=Nat×Bool
structure cE (ts:List Tok):Prop where
 each:∀t∈ts,t.1<256∧t.2.1.size≤16384∧t.2.2≤16384
 last:∀k t,ts[k]?=Y t→¬k+1<ts.length→t.1=7
def cO(ts:List Tok) (k:Nat):Tok:=ts.getD k (7,⟨#[]⟩,0)
theorem gw{ts:List Tok}{k:Nat}(h:k<ts.length):ts[k]?=Y (cO ts k):=by
 unfold cO;rw[List.getD_eq_getElem?_getD,ES h];rfl
theorem cK{ts:List Tok}(h:cE ts)(k:Nat):(cO ts k).1<256∧(cO ts k).2.1.size≤16384∧(cO ts k).2.2≤16384:=by
 by_cases a:k<ts.length
 ·exact h.each _ (Fj (gw a))
 ·unfold cO;rw[List.getD_eq_getElem?_getD,List.getElem?_eq_none (by omega)];exact⟨by show 7<256;omega,by show (0:Nat)≤16384;omega,by show (0:Nat)≤16384;omega⟩
def a9(w:wD) (P L cap:Nat) (ts:List Tok) (r:ab×PS) (e:Ending) (w':wD):Prop:=
 ∃(d:Nat) (s:wF),e=z8 (xS #[I O r.1.b,J r.1.f,I Z r.1.h,I Z r.1.y,s])∧ax w P L cap ts r.2.1 r.2.2 w'∧OwnAt w' d r.1.u s (bM w.heap.size w'.heap.size)∧Fits r.1
def set5(W:wD) (b:Nat) (v0 v1 v2 v3 v4:wF):World:=((((W.setCell ⟨b,0,U⟩ v0).setCell ⟨b,1,U⟩ v1).setCell ⟨b,2,U⟩ v2).setCell ⟨b,3,U⟩ v3).setCell ⟨b,4,U⟩ v4
theorem sG(W:wD)(b:Nat)(v0 v1 v2 v3 v4:wF):(set5 W b v0 v1 v2 v3 v4).heap.size=W.heap.size:=by simp[set5,World.setCell]
theorem ky{W:wD}{b g:Nat}(h:g≠b)(v0 v1 v2 v3 v4:wF):(set5 W b v0 v1 v2 v3 v4).heap[g]?=W.heap[g]?:=by
 unfold set5;exact (ER _ _ _ g h).trans ((ER _ _ _ g h).trans ((ER _ _ _ g h).trans ((ER _ _ _ g h).trans (ER _ _ _ g h))))
section
variable {w W W':wD} {P L cap:Nat} {ts:List Tok} {k:Nat} {bad:Bool}
theorem ax.set5(h:ax w P L cap ts k bad W)(a:P<w.heap.size)(c:L<w.heap.size){b:Nat}(d:w.heap.size≤b)(v0 v1 v2 v3 v4:wF):ax w P L cap ts k bad (set5 W b v0 v1 v2 v3 v4):=
 ((((h.y a c d 0 v0).y a c d 1 v1).y a c d 2 v2).y a c d 3 v3).y a c d 4 v4
theorem a9.h{r:ab×PS}{s:wF}{d B b:Nat}(c:P<w.heap.size)(e:L<w.heap.size)(f:ax w P L cap ts r.2.1 r.2.2 W)(g:OwnAt W d r.1.u s (bM B W.heap.size))(i:Fits r.1)
  (j:w.heap.size≤b) (hB:b<B) (v0 v1 v2 v3 v4:wF):a9 w P L cap ts r (z8 (xS #[I O r.1.b,J r.1.f,I Z r.1.h,I Z r.1.y,s])) (YtkhfjgjjhlnnnaaGreatDoor.set5 W b v0 v1 v2 v3 v4):=by
 refine⟨d,s,V,f.set5 c e j _ _ _ _ _,?_,i⟩;refine (g.C fun x o a h=>(ky (by have:=a.1;omega) _ _ _ _ _).trans h).N fun x a=>?_
 have:=a.1;exact⟨by omega,by rw[sG];exact a.2⟩
end
theorem jQ(W:wD)(F:Nat→Prop):OwnAt W 0 [] (A U 0 0) F:=⟨V,Or.inl V⟩
def ofM(ts:List Tok) (σ:PS) (tok kind:Nat):ab×PS:=
 (.mk kind (cO ts σ.1).2.1 0 (cO ts σ.1).2.2 [],eG ts.length σ.1 (σ.2||(cO ts σ.1).1 != tok),(σ.2||(cO ts σ.1).1 != tok))
theorem kV{ts:List Tok}(h:cE ts)(σ:PS)(tok kind:Nat)(a:kind<256):Fits (ofM ts σ tok kind).1:=by
 obtain⟨_,b,c⟩:=cK h σ.1;exact⟨a,by show (cO ts σ.1).2.1.size≤maxLen;unfold maxLen;omega,by show (-9223372036854775808:Int)≤0;omega,by show (0:Int)<9223372036854775808;omega,by show (-9223372036854775808:Int)≤(cO ts σ.1).2.2;omega,by show ((cO ts σ.1).2.2:Int)<9223372036854775808;omega⟩
theorem jT{w:wD}{P L cap:Nat}{ts:List Tok}(a:cE ts){σ:PS}(h:PAt w P L cap ts σ.1 σ.2)(tok kind:Nat)(b:kind<256) :
  xL xD 161 #[xV (Y ⟨P,0,U⟩),I O tok,I O kind] w (a9 w P L cap ts (ofM ts σ tok kind)):=
 (xq h (gw h.k) tok kind).mono fun _e _ ⟨he,c⟩=>⟨0,A U 0 0,he,c,jQ _ _,kV a σ tok kind b⟩
theorem jh{w:wD}{P L cap:Nat}{ts:List Tok}(f:cE ts){σ:PS}(h:PAt w P L cap ts σ.1 σ.2)(kind:Nat)(n:kind<256) :
  xL xD 89 #[xV (Y ⟨P,0,U⟩),I O kind] w (a9 w P L cap ts (ofM ts σ 2 kind)):=by
 have b:FK w (w.alloc (wq #[I O 0,J ⟨#[]⟩,I Z 0,I Z 0,A U 0 0] 25)):=(EP _ w).alloc (EO _) _;obtain⟨q,t⟩:=zz2 (jT f (h.z b) 2 kind n) (h.b b);have l:=h.lt.1;have u:=Hd h.lt.2;have v:=Hd (p9 w (wq #[I O 0,J ⟨#[]⟩,I Z 0,I Z 0,A U 0 0] 25));clear h b;generalize ofM ts σ 2 kind=r at *
 go_enter Tryz.func89,Tryz.ntmps89
 go_wp2_with fail
 refine EX q.o ?_;rintro e w1 ⟨d,s,rfl,g,i,m⟩;obtain⟨p,c,rfl⟩:=i.b;have a:=g.h v.o l (EO _);have j:=Hd a;obtain⟨a0,a1,a2,a3,a4⟩:=cells5 a;have z0:=ac a 0;have B:=ac a 1;have z2:=ac a 2;have z3:=ac a 3;have z4:=ac a 4;obtain⟨x,y,z⟩:=zz3 (t.o.b g) i m;clear a g i m;go_wp2_with fail
 exact bw Tryz.results89 V (aZ j.o _ _ _ _ _) V (a9.h l u.o x.o y.o z.o (EO _) (by simp) _ _ _ _ _)
def isM(ts:List Tok) (σ:PS) (texts:List ByteArray):Bool:=!σ.2&&isT (cO ts σ.1) texts
def ag(ts:List Tok) (σ:PS):PS:=(eG ts.length σ.1 σ.2,σ.2)
def aQ(ts:List Tok) (σ:PS) (texts:List ByteArray):PS:=if isM ts σ texts=true then ag ts σ else σ
def aT(ts:List Tok) (σ:PS) (x:ByteArray):PS:=(oO ts σ.1 σ.2 (cO ts σ.1) x,qJ σ.2 (cO ts σ.1) x)
def atM(ts:List Tok) (σ:PS):Int:=(cO ts σ.1).2.2
def txM(ts:List Tok) (σ:PS):ByteArray:=(cO ts σ.1).2.1
def kdM(ts:List Tok) (σ:PS):Nat:=(cO ts σ.1).1
theorem jY(ts:List Tok)(σ:PS)(texts:List ByteArray):(aQ ts σ texts).1=jZ ts σ.1 σ.2 (cO ts σ.1) texts∧(aQ ts σ texts).2=σ.2:=by
 unfold aQ jZ isM
 split
 ·exact⟨V,V⟩
 ·exact⟨V,V⟩
def fV:ab:=.mk 0 ⟨#[]⟩ 0 0 []
def bm:ByteArray:=⟨#[45]⟩
def fh:ByteArray:=⟨#[110,111,116]⟩
def fF:ByteArray:=⟨#[40]⟩
def ie:ByteArray:=⟨#[41]⟩
def iR:Nat→List ByteArray
 | 0=>[⟨#[111,114]⟩,⟨#[]⟩,⟨#[]⟩,⟨#[]⟩,⟨#[]⟩,⟨#[]⟩]
 | 1=>[⟨#[97,110,100]⟩,⟨#[]⟩,⟨#[]⟩,⟨#[]⟩,⟨#[]⟩,⟨#[]⟩]
 | 2=>[⟨#[61]⟩,⟨#[33,61]⟩,⟨#[60]⟩,⟨#[60,61]⟩,⟨#[62]⟩,⟨#[62,61]⟩]
 | 3=>[⟨#[43]⟩,⟨#[45]⟩,⟨#[]⟩,⟨#[]⟩,⟨#[]⟩,⟨#[]⟩]
 | _=>[⟨#[42]⟩,⟨#[]⟩,⟨#[]⟩,⟨#[]⟩,⟨#[]⟩,⟨#[]⟩]
def ig(ts:List Tok) (ex:PS→ab×PS) (lvl:Nat) (pl:Int):Nat→ab→PS→ab×PS
 | 0,T,σ=>(T,σ)
 | g+1,T,σ =>
  if isM ts σ (iR lvl)=true then
   let r:=ex (ag ts σ)
   if lvl=2 then (.mk 16 (txM ts σ) 0 pl [T,r.1],r.2) else ig ts ex lvl pl g (.mk 16 (txM ts σ) 0 pl [T,r.1]) r.2
  else (T,σ)
def exM(ts:List Tok):Nat→Nat→PS→ab×PS
 | 0,_,σ=>(fV,σ)
 | f+1,lvl,σ =>
  if σ.2=true then (fV,σ)
  else if lvl=5 then
   if isM ts σ [bm,fh]=true then (.mk 16 (txM ts σ) 0 (atM ts σ) [(exM ts f 5 (ag ts σ)).1],(exM ts f 5 (ag ts σ)).2)
   else if isM ts σ [fF]=true then ((exM ts f 0 (ag ts σ)).1,aT ts (exM ts f 0 (ag ts σ)).2 ie)
   else if kdM ts σ=5 then ofM ts σ 5 15
   else if kdM ts σ=3 then ofM ts σ 3 13
   else ofM ts σ 4 14
  else ig ts (exM ts f (lvl+1)) lvl (atM ts σ) ts.length (exM ts f (lvl+1) σ).1 (exM ts f (lvl+1) σ).2
theorem eQ(ts:List Tok)(σ:PS):σ.1≤(ag ts σ).1∧(ag ts σ).2=σ.2:=⟨qb,V⟩
theorem bJ(ts:List Tok)(σ:PS)(x:ByteArray):σ.1≤(aT ts σ x).1:=by
 unfold aT oO jZ;dsimp only;split
 ·exact qb
 ·exact EO _
theorem ed(ts:List Tok)(σ:PS)(tok kind:Nat):σ.1≤(ofM ts σ tok kind).2.1:=qb
theorem CW{ts:List Tok}{ex:PS→ab×PS}(hex:∀σ,σ.1≤(ex σ).2.1){lvl:Nat}{pl:Int}:∀(g:Nat) (T:ab) (σ:PS),σ.1≤(ig ts ex lvl pl g T σ).2.1:=by
 intro g
 induction g with
 | zero=>intro T σ;exact EO _
 | succ g c =>
  intro T σ;unfold ig;have a:=(eQ ts σ).1;have b:=hex (ag ts σ)
  split
  ·dsimp only
   split
   ·exact EU a b
   ·exact EU (EU a b) (c _ _)
  ·exact EO _
theorem Bo(ts:List Tok):∀(f lvl:Nat) (σ:PS),σ.1≤(exM ts f lvl σ).2.1:=by
 intro f
 induction f with
 | zero=>intro lvl σ;exact EO _
 | succ f a =>
  intro lvl σ;unfold exM;have b:=(eQ ts σ).1
  (repeat' split)
  ·exact EO _
  ·exact EU b (a 5 _)
  ·exact EU (EU b (a 0 _)) (bJ _ _ _)
  ·exact ed _ _ _ _
  ·exact ed _ _ _ _
  ·exact ed _ _ _ _
  ·exact EU (a (lvl+1) σ) (CW (fun σ=>a (lvl+1) σ) _ _ _)
theorem fs{ts:List Tok}(h:cE ts){σ:PS}(d:σ.1<ts.length){texts:List ByteArray}(b:isM ts σ texts=true):(ag ts σ).1=σ.1+1∧σ.2=false∧σ.1+1<ts.length:=by
 unfold isM at b;rw[Ff]at b;have c:σ.2=false:=by have:=b.1;cases e:σ.2<;>simp[e]at this ⊢
 have a:σ.1+1<ts.length:=by
  by_cases a:σ.1+1<ts.length
  ·exact a
  ·exfalso
   have f:=h.last σ.1 _ (gw d) a;have:=b.2;unfold isT at this;rw[f]at this;simp at this
 exact⟨by unfold ag;rw[c];exact qf a,c,a⟩
theorem dy{w:wD}{P L cap:Nat}{ts:List Tok}{σ:PS}(h:PAt w P L cap ts σ.1 σ.2)(B off n c:Nat)(texts:List ByteArray)(hB:kO w B off texts)(b:texts.length=n)(a:n≤100) :
  xL xD 88 #[xV (Y ⟨P,0,U⟩),A (Y ⟨B,off,U⟩) n c] w fun e w'=>e=z8 (Value.bool (isM ts σ texts))∧ax w P L cap ts (aQ ts σ texts).1 (aQ ts σ texts).2 w':=
 (sL h (gw h.k) B off n c texts hB b a).mono fun _ _ ⟨he,d⟩=>⟨he,by rw[(jY ts σ texts).1,(jY ts σ texts).2];exact d⟩
theorem cM{w:wD}{P L cap:Nat}{ts:List Tok}{σ:PS}(h:PAt w P L cap ts σ.1 σ.2)(x:ByteArray) :
  xL xD 92 #[xV (Y ⟨P,0,U⟩),J x] w fun e w'=>e=z8 (Value.tuple #[])∧ax w P L cap ts (aT ts σ x).1 (aT ts σ x).2 w':=
 zd h (gw h.k) x
theorem gi{w:wD}{P L cap:Nat}{ts:List Tok}{σ:PS}(h:PAt w P L cap ts σ.1 σ.2) :
  xL xD 55 #[xV (Y ⟨P,0,U⟩)] w fun e w'=>e=z8 (xS #[I O (kdM ts σ),J (txM ts σ),I Z (atM ts σ)])∧FK w w':=
 pO h (gw h.k)
theorem vJ{w:wD}(o:Obj)(l:List ByteArray):kO ((w.alloc o).alloc (wq (l.map J).toArray 9)) (w.heap.size+1) 0 l:=by
 have h:=bT (w:=w.alloc o) l;rw[r9]at h;exact h
theorem fu{kind:Nat}{tx:ByteArray}{pl:Int}{a:List ab}(b:kind<256)(c:tx.size≤16384)(d:0≤pl)(e:pl≤16384):Fits (.mk kind tx 0 pl a):=
 ⟨b,by show tx.size≤maxLen;unfold maxLen;omega,by show (-9223372036854775808:Int)≤0;omega,by show (0:Int)<9223372036854775808;omega,by show (-9223372036854775808:Int)≤pl;omega,by show pl<9223372036854775808;omega⟩
def f8(a:Nat) (T:ab) (W:wD) (xs:List wF):Prop:=∃(d:Nat) (s:wF),xs=[s]∧OwnAt W d T.u s (bM a W.heap.size)∧Fits T
def hU(a:Nat) (T:ab) (W:wD) (xs:List wF):Prop:=∃(d g N:Nat) (s:wF),xs=[I Z g]∧W.heap[g]?=Y (wq (ay T s).toArray 25 (0,0))∧OwnAt W d T.u s (bM a N)∧Fits T∧a≤N∧N≤g
theorem f8.h{c Q:Nat}{T:ab}{W W':wD}{xs:List wF}(h:f8 c T W xs)(l:Q<c)(e:W.grownBy W' (Y Q)):f8 c T W' xs:=by
 obtain⟨d,s,f,g,i⟩:=h;exact⟨d,s,f,(g.C fun b o a j=>bF e j (by have:=a.1;omega)).N (fun b a=>⟨a.1,ET a.2 e.size⟩),i⟩
theorem hU.h{a Q:Nat}{T:ab}{W W':wD}{xs:List wF}(h:hU a T W xs)(q:Q<a)(c:W.grownBy W' (Y Q)):hU a T W' xs:=by
 obtain⟨d,g,N,s,e,f,i,j,l,m⟩:=h;exact⟨d,g,N,s,e,bF c f (by omega),i.C fun b o n p=>bF c p (by have:=n.1;omega),j,l,m⟩
theorem hU.own{e:Nat}{T:ab}{W:wD}{xs:List wF}(h:hU e T W xs):∃(d g:Nat),xs=[I Z g]∧OwnAt W (d+1) [T] (A (Y ⟨g,0,U⟩) 1 1) (bM e W.heap.size):=by
 obtain⟨d,g,N,s,o,n,p,q,v,x⟩:=h;have f:=(EN.1 n).1;refine⟨d,g,o,Or.inr ⟨g,1,(ay T s).toArray,fun i b=>i=0∧bM e N b,by simp,⟨by omega,f⟩,EO _,by unfold maxLen;omega,V,n,V,fun i y a=>?_,fun i b c=>⟨⟨c.2.1,by have:=c.2.2;omega⟩,by have:=c.2.2;omega⟩,fun i j b l r t=>l (r.1.trans t.1.symm)⟩⟩
 cases i with
 | zero =>
  simp at a;subst a;exact⟨q,s,fun m u hu=>by simpa using hu,p.N fun b c=>⟨V,c⟩⟩
 | succ i=>simp at a
def vp(ts:List Tok) (f:Nat):Prop:=∀(lvl:Nat) (σ:PS) (w:wD) (P L cap:Nat),lvl≤5→PAt w P L cap ts σ.1 σ.2→(ts.length-σ.1)*7+(6-lvl)≤f→
 xL xD 260 #[xV (Y ⟨P,0,U⟩),I Z lvl] w (a9 w P L cap ts (exM ts f lvl σ))
def tD(ts:List Tok) (f:Nat):Prop:=∀(σ:PS) (w:wD) (P L cap:Nat),σ.2=false→PAt w P L cap ts σ.1 σ.2→(ts.length-σ.1)*7+1≤f→
 xL xD 272 #[xV (Y ⟨P,0,U⟩)] w (a9 w P L cap ts (exM ts f 5 σ))
theorem sH{ts:List Tok}{f:Nat}(m:vp ts f)(σ:PS)(w:wD)(P L cap:Nat)(h:PAt w P L cap ts σ.1 σ.2)(g:(ts.length-σ.1)*7+6≤f) :
  xL xD 232 #[xV (Y ⟨P,0,U⟩)] w (a9 w P L cap ts (exM ts f 0 σ)):=by
 have b:FK w (w.alloc (wq #[I O 0,J ⟨#[]⟩,I Z 0,I Z 0,A U 0 0] 25)):=(EP _ w).alloc (EO _) _;have q:=Hd (m 0 σ _ P L cap (by omega) (h.z b) g);have t:=Hd (h.b b);have n:=h.lt.1;have u:=Hd h.lt.2;have v:=Hd (p9 w (wq #[I O 0,J ⟨#[]⟩,I Z 0,I Z 0,A U 0 0] 25));clear h b m g;generalize exM ts f 0 σ=r at *
 go_enter Tryz.func232,Tryz.ntmps232
 go_wp2_with fail
 refine EX q.o ?_;rintro e w1 ⟨d,s,rfl,i,j,g⟩;obtain⟨p,c,rfl⟩:=j.b;have a:=i.h v.o n (EO _);have l:=Hd a;obtain⟨a0,a1,a2,a3,a4⟩:=cells5 a;have z0:=ac a 0;have B:=ac a 1;have z2:=ac a 2;have z3:=ac a 3;have z4:=ac a 4;obtain⟨x,y,z⟩:=zz3 (t.o.b i) j g;clear a i j g;go_wp2_with fail
 exact bw Tryz.results232 V (aZ l.o _ _ _ _ _) V (a9.h n u.o x.o y.o z.o (EO _) (by simp) _ _ _ _ _)
theorem DZ{ts:List Tok}(ck:cE ts){f:Nat}(h1:tD ts f)(hE:vp ts f):tD ts (f+1):=by
 intro σ w P L cap hb h C;have bn:FK w (w.alloc (wq #[I O 0,J ⟨#[]⟩,I Z 0,I Z 0,A U 0 0] 25)):=(EP _ w).alloc (EO _) _;obtain⟨HC,H0⟩:=zz2 (gi (h.z bn)) (h.b bn);have K:=h.lt.1;obtain⟨HL,HX,HK,E,cl,cT,cq⟩:=zz7 h.lt.2 (p9 w (wq #[I O 0,J ⟨#[]⟩,I Z 0,I Z 0,A U 0 0] 25)) h.k ck h1 hE C
 have t:exM ts (f+1) 5 σ=(if isM ts σ [bm,fh]=true then (.mk 16 (txM ts σ) 0 (atM ts σ) [(exM ts f 5 (ag ts σ)).1],(exM ts f 5 (ag ts σ)).2)
   else if isM ts σ [fF]=true then ((exM ts f 0 (ag ts σ)).1,aT ts (exM ts f 0 (ag ts σ)).2 ie)
   else if kdM ts σ=5 then ofM ts σ 5 15
   else if kdM ts σ=3 then ofM ts σ 3 13
   else ofM ts σ 4 14):=by
  conv=>lhs;unfold exM
  rw[qv (by rw[hb];decide),rv V]
 obtain⟨R,bq⟩:=zzy (exM ts (f+1) 5 σ);rw[bq];rw[bq]at t;obtain⟨HR,ec⟩:=zz2 t hb;clear h bn ck h1 hE C bq t hb;obtain⟨kd,br⟩:=zzy (kdM ts σ);obtain⟨tx,bt⟩:=zzy (txM ts σ);obtain⟨at_,bB⟩:=zzy (atM ts σ);rw[br,bt,bB]at HC HR;have ad:Hid (tx.size≤16384∧0≤at_∧at_≤16384):=by
  show _∧_
  obtain⟨_,g2,g3⟩:=cK E.o σ.1;rw[←bt,←bB];refine⟨g2,?_,?_⟩
  ·unfold atM;omega
  ·unfold atM;omega
 clear bt bB;have bR:=Hd br;clear br
 go_enter Tryz.func272,Tryz.ntmps272
 go_wp2_with fail
 refine EX HC.o ?_;rintro e w1 ⟨rfl,b0⟩;have cV:=Hd (H0.o.f b0);have x0:=aa b0 HX.o (by simp);have cr:=Hd x0;have ct:w.heap.size<w1.heap.size:=(EN.1 x0).1;clear b0 x0;have b1:=cV.o.u (wq #[I O kd,J tx,I Z at_] 122);obtain⟨en,cW,c3,cu⟩:=zz4 b1 (p9 w1 (wq #[I O kd,J tx,I Z at_] 122)) ((FH w1 (wq #[I O kd,J tx,I Z at_] 122) _ (EN.1 cr.o).1).trans cr.o) (b1.u (wq #[J bm,J fh] 9));have HS:=Hd (dy cu.o.2 (w1.heap.size+1) 0 2 2 [bm,fh] (vJ _ [bm,fh]) V (by omega));have af:(w1.alloc (wq #[I O kd,J tx,I Z at_] 122)).heap.size=w1.heap.size+1:=r9 _ _;obtain⟨c5,c6⟩:=zz2 ((FH (w1.alloc (wq #[I O kd,J tx,I Z at_] 122)) (wq #[J bm,J fh] 9) w.heap.size (by rw[af];omega)).trans c3.o) ((FH (w1.alloc (wq #[I O kd,J tx,I Z at_] 122)) (wq #[J bm,J fh] 9) w1.heap.size (by rw[af];omega)).trans cW.o);clear b1 af;go_wp2_with fail
 refine EX HS.o ?_;rintro e y ⟨rfl,bc⟩;obtain⟨S,bd,b2⟩:=zz3 (cu.o.b bc) (bc.h c5.o K (EO _)) (bc.h c6.o K (Fu ct));clear bc
 by_cases hm:isM ts σ [bm,fh]=true
 ·have t:=HR.o;rw[rv hm]at t;have z:aQ ts σ [bm,fh]=ag ts σ:=by unfold aQ;rw[rv hm]
  obtain⟨q1,q2,q3⟩:=fs E.o HK.o hm;rw[z]at S;rw[hm];have N:=Hd (cl.o (ag ts σ) y.drew P L cap (by rw[(eQ ts σ).2];exact q2) S.o.2.drew (by rw[q1];have:=cq.o;omega));have ak:R.1=.mk 16 tx 0 at_ [(exM ts f 5 (ag ts σ)).1]:=by rw[t]
  have al:R.2=(exM ts f 5 (ag ts σ)).2:=by rw[t]
  generalize exM ts f 5 (ag ts σ)=r at *;generalize ag ts σ=eo at *;obtain⟨b3,b4⟩:=zz2 ak al;clear t HR z q1 q2 q3 hm ak al bR;obtain⟨c0,c1,c2,_,_,_⟩:=cells3 b2.o;go_wp2_with fail
  have B:w1.heap.size≠P:=by omega
  have C0:=fun x:RE.Gr y P=>x.b c0 B
  have C1:=fun x:RE.Gr y P=>x.b c1 B
  have C2:=fun x:RE.Gr y P=>x.b c2 B
  have cv:P<y.heap.size:=S.o.2.lt.1;clear c0 c1 c2;refine RE.u (by kernel_rfl) 8 [5,6] [5,6] (fun s W=>if s=0 then W=y.drew else ax y P L cap ts r.2.1 r.2.2 W) (fun W W'=>W.grownBy W' (Y P))
   (fun i xs=>if i=5 then xS #[I O r.1.b,J r.1.f,I Z r.1.h,I Z r.1.y,xs.getD 0 At] else A (Y ⟨RE.natOf xs,0,U⟩) 1 1)
   (fun i W xs=>if i=5 then f8 y.heap.size r.1 W xs else hU y.heap.size r.1 W xs) (by kernel_rfl) (fun i h1 h2=>by rw[h1]at h2;cases h2) ?_ V ?_
  ·intro k W W' xs h _ hg
   split at h
   ·rw[rv (by assumption)];exact h.h cv hg
   ·rw[qv (by assumption)];exact h.h cv hg
  simp only[EY,Fi,EZ,Fh,Fv,List.length_nil,Nat.reduceAdd];have F:∀(n s:Nat) (W:wD),s≤n→(if s=0 then W=y.drew else ax y P L cap ts r.2.1 r.2.2 W)→∃x:RE.Gr y P,W=x.1:=fun n s W _ h=>by
   split at h
   ·exact⟨⟨W,by rw[h];exact grown_drewN (r8 y _) 1⟩,V⟩
   ·exact⟨⟨W,h.1⟩,V⟩
  have T:=Hd F;clear F
  repeat (refine RE.b (fun W=>∃x:RE.Gr y P,W=x.1) (T.o _) V V V V ?_;go_big_quiet_step (fail);refine Bk ?_)
  refine RE.f V V ?_ (fun G=>?_)
  ·intro W _ M _;obtain rfl:W=y.drew:=M V;refine RE.y 272 _ _ V (enters_of Tryz.func272 (by kernel_rfl) V) #[xV (Y ⟨P,0,U⟩)] (by simp[Act.eval]) (N.o.mono ?_);rintro e W' ⟨d,s,rfl,hT,q,C⟩;exact⟨_,V,[s],V,hT.z,hT.1,⟨d,s,V,q,C⟩⟩
  simp only[Act.put,EQ,EW,EV];refine RE.f V V ?_ (fun cx=>?_)
  ·intro W _ M c7;have hT:ax y P L cap ts r.2.1 r.2.2 W:=M V;obtain⟨d,s,rfl,q,C⟩:f8 y.heap.size r.1 W G:=c7 5 G (by kernel_rfl) V;obtain⟨p,c,rfl⟩:=q.b;refine RE.Upon.told (v:=A (Y ⟨W.heap.size,0,U⟩) 1 1) (w':=W.alloc (wq (ay r.1 (A p r.1.u.length c)).toArray 25)) ?_ ⟨[I Z W.heap.size],V,hT.u _,?_,?_⟩
   ·unfold RE.Upon
    go_simp
    rfl
   ·exact aP ((EP _ W).alloc (EO _) _) _
   ·refine⟨d,W.heap.size,W.heap.size,_,V,p9 W _,?_,C,hT.1.size,EO _⟩;exact q.z (fun b hb=>hb.2) ((EP _ W).alloc (EO _) _)
  simp only[Act.put,EQ,EW,EV]
  repeat (refine RE.b (fun W=>∃x:RE.Gr y P,W=x.1) (T.o _) V V V V ?_;go_big_quiet_step (fail);refine Bk ?_)
  refine RE.h ?_;intro W3 M hE;have b5:ax y P L cap ts r.2.1 r.2.2 W3:=M;obtain⟨d,g,rfl,q⟩:=(show hU y.heap.size r.1 W3 cx from hE 6 cx V).own;obtain⟨HO,u⟩:=zz2 q (S.o.b b5);have j:=b5.h bd.o K (EO _);have D:=Hd j;obtain⟨a0,a1,a2,a3,a4⟩:=cells5 j;have z0:=ac j 0;have z1:=ac j 1;have z2:=ac j 2;have z3:=ac j 3;have z4:=ac j 4;have c8:w.heap.size<y.heap.size:=(EN.1 bd.o).1;obtain⟨RT,b6⟩:=R;obtain rfl:RT=_:=b3.o;obtain rfl:b6=_:=b4.o;clear C0 C1 C2 hE M q b5 j;go_wp2_with fail
  refine bw Tryz.results272 V (aZ D.o _ _ _ _ _) V ?_;exact a9.h (r:=(.mk 16 tx 0 at_ [r.1],r.2)) K HL.o u.o HO.o (fu (by omega) ad.o.1 ad.o.2.1 ad.o.2.2) (EO _) c8 _ _ _ _ _
 ·have t:=HR.o;rw[qv hm]at t;have bk:=Hd t;have z:aQ ts σ [bm,fh]=σ:=by unfold aQ;rw[qv hm]
  rw[z]at S;have aq:isM ts σ [bm,fh]=false:=by simpa using hm
  rw[aq];clear z hm aq t HR;have b7:=S.o.u (wq #[J fF] 9);obtain⟨c9,da,dc,dd⟩:=zz4 b7 ((FH y (wq #[J fF] 9) _ (EN.1 bd.o).1).trans bd.o) ((FH y (wq #[J fF] 9) _ (EN.1 b2.o).1).trans b2.o) (dy b7.2 y.heap.size 0 1 1 [fF] (bT [fF]) V (by omega));clear b7;go_wp2_with fail
  refine EX dd.o ?_;rintro e l ⟨rfl,bl⟩;obtain⟨u,H,b8⟩:=zz3 (c9.o.b bl) (bl.h da.o K (EO _)) (bl.h dc.o K (Fu ct));clear bl
  by_cases hm:isM ts σ [fF]=true
  ·have t:=bk.o;rw[rv hm]at t;have z:aQ ts σ [fF]=ag ts σ:=by unfold aQ;rw[rv hm]
   obtain⟨q1,q2,q3⟩:=fs E.o HK.o hm;rw[z]at u;rw[hm];have N:=Hd (sH cT.o (ag ts σ) l P L cap u.o.2 (by rw[q1];have:=cq.o;omega));have ak:R.1=(exM ts f 0 (ag ts σ)).1:=by rw[t]
   have al:R.2=aT ts (exM ts f 0 (ag ts σ)).2 ie:=by rw[t]
   generalize exM ts f 0 (ag ts σ)=r at *;obtain⟨b3,b4⟩:=zz2 ak al;clear t bk z q1 q2 q3 hm ak al bR;go_wp2_with fail
   refine EX N.o ?_;rintro e w4 ⟨d,s,rfl,m,q,C⟩;obtain⟨p,c,rfl⟩:=q.b;obtain⟨b9,cA⟩:=zz2 (u.o.b m) (m.h H.o K (EO _));have ca:=b9.o.u (wq #[I O r.1.b,J r.1.f,I Z r.1.h,I Z r.1.y,A p r.1.u.length c] 25);obtain⟨dg,dp,ds,dv,HW,HF⟩:=zz6 ca (p9 w4 (wq #[I O r.1.b,J r.1.f,I Z r.1.h,I Z r.1.y,A p r.1.u.length c] 25)) ((FH w4 (wq #[I O r.1.b,J r.1.f,I Z r.1.h,I Z r.1.y,A p r.1.u.length c] 25) _ (EN.1 cA.o).1).trans cA.o) (q.z (fun b hb=>hb.2) ((EP _ w4).alloc (EO _) (wq #[I O r.1.b,J r.1.f,I Z r.1.h,I Z r.1.y,A p r.1.u.length c] 25))) (cM ca.2 ie) C;have cC:w.heap.size<l.heap.size:=(EN.1 H.o).1;have eg:l.heap.size≤w4.heap.size:=m.1.size;clear ca m q C;go_wp2_with fail
   refine EX HW.o ?_;rintro e w5 ⟨rfl,X⟩;have ar:=Hd (dg.o.b X);have j:=X.h ds.o K (EO _);have D:=Hd j;obtain⟨a0,a1,a2,a3,a4⟩:=cells5 j;have z0:=ac j 0;have z1:=ac j 1;have z2:=ac j 2;have z3:=ac j 3;have z4:=ac j 4;obtain⟨m0,m1,m2,m3,m4⟩:=cells5 (X.h dp.o K (by omega));have cR:OwnAt w5 d r.1.u (A p r.1.u.length c) (bM l.heap.size w5.heap.size):=
    (dv.o.C fun b o hb q=>bF X.1 q (by have:=hb.1;omega)).N fun b hb=>⟨hb.1,ET hb.2 (by have:=X.1.size;rw[r9]at this;omega)⟩
   have ea:=Hd cR;obtain⟨RT,b6⟩:=R;obtain rfl:RT=_:=b3.o;obtain rfl:b6=_:=b4.o;clear X j cR;go_wp2_with fail
   refine bw Tryz.results272 V (aZ D.o _ _ _ _ _) V ?_;exact a9.h (r:=(r.1,aT ts r.2 ie)) K HL.o ar.o ea.o HF.o (EO _) cC _ _ _ _ _
  have t:=bk.o;rw[qv hm]at t;have z:aQ ts σ [fF]=σ:=by unfold aQ;rw[qv hm]
  rw[z]at u;have aq:isM ts σ [fF]=false:=by simpa using hm
  rw[aq];clear z hm aq bk bR
  by_cases cb:kd=5
  ·subst cb;rw[rv V]at t;subst t;have m:=u.o;have av:=Hd (jT E.o (w:=l.drew) m.2.drew 5 15 (by omega));obtain⟨c0,_,_,_,_,_⟩:=cells3 b8.o;have B:w1.heap.size≠P:=by omega
   have C0:=fun x:RE.Gr l P=>x.b c0 B
   have cc:P<l.heap.size:=m.2.lt.1;have F:∀(n s:Nat) (W:wD),s≤n→(if s=0 then W=l.drew else ax l P L cap ts (ofM ts σ 5 15).2.1 (ofM ts σ 5 15).2.2 W)→∃x:RE.Gr l P,W=x.1:=fun n s W _ h=>by
    split at h
    ·exact⟨⟨W,by rw[h];exact grown_drewN (r8 l _) 1⟩,V⟩
    ·exact⟨⟨W,h.1⟩,V⟩
   have T:=Hd F;have a6:=Hd (kV E.o σ 5 15 (by omega));have ba:(ofM ts σ 5 15).1.u=[]:=rfl;have eb:=Hd ba;generalize ofM ts σ 5 15=r at *;clear F m ba;go_wp2_with fail
   clear c0;refine RE.u (by kernel_rfl) 6 [5] [5] (fun s W=>if s=0 then W=l.drew else ax l P L cap ts r.2.1 r.2.2 W) (fun W W'=>W.grownBy W' (Y P))
    (fun i xs=>xS #[I O r.1.b,J r.1.f,I Z r.1.h,I Z r.1.y,xs.getD 0 At])
    (fun i W xs=>f8 l.heap.size r.1 W xs) (by kernel_rfl) (fun i h1 h2=>by rw[h1]at h2;cases h2) (fun k W W' xs h _ hg=>h.h cc hg) V ?_
   simp only[EY,Fi,EZ,Fh,Fv,List.length_nil,Nat.reduceAdd]
   repeat (refine RE.b (fun W=>∃x:RE.Gr l P,W=x.1) (T.o _) V V V V ?_;go_big_quiet_step (fail);refine Bk ?_)
   refine RE.f V V ?_ (fun G=>?_)
   ·intro W _ M _;obtain rfl:W=l.drew:=M V;refine RE.y 161 _ _ V (enters_of Tryz.func161 (by kernel_rfl) V) #[xV (Y ⟨P,0,U⟩),I O 5,I O 15] (by simp[Act.eval]) (av.o.mono ?_);rintro e W' ⟨d,s,rfl,hT,q,C⟩;exact⟨_,V,[s],V,hT.z,hT.1,⟨d,s,V,q,C⟩⟩
   simp only[Act.put,EQ,EW,EV];refine RE.h ?_;intro W4 M hE;have Q:ax l P L cap ts r.2.1 r.2.2 W4:=M;obtain⟨d,s,rfl,q,C⟩:=(show f8 l.heap.size r.1 W4 G from hE 5 G V);obtain⟨p,c,rfl⟩:=q.b;obtain⟨HO,ar⟩:=zz2 q (u.o.b Q);have j:=Q.h H.o K (EO _);have D:=Hd j;obtain⟨a0,a1,a2,a3,a4⟩:=cells5 j;have z0:=ac j 0;have z1:=ac j 1;have z2:=ac j 2;have z3:=ac j 3;have z4:=ac j 4;have bb:w.heap.size<l.heap.size:=(EN.1 H.o).1;clear C0 hE M q Q j C;go_wp2_with fail
   refine bw Tryz.results272 V (aZ D.o _ _ _ _ _) V ?_;exact a9.h K HL.o ar.o HO.o a6.o (EO _) bb _ _ _ _ _
  rw[qv cb]at t;have ek:((kd:Int)==5)=false:=by simp;omega
  by_cases ch:kd=3
  ·subst ch;rw[rv V]at t;subst t;have m:=u.o;have av:=Hd (jT E.o (w:=l.drew) m.2.drew 3 13 (by omega));obtain⟨c0,_,_,_,_,_⟩:=cells3 b8.o;have B:w1.heap.size≠P:=by omega
   have C0:=fun x:RE.Gr l P=>x.b c0 B
   have cc:P<l.heap.size:=m.2.lt.1;have F:∀(n s:Nat) (W:wD),s≤n→(if s=0 then W=l.drew else ax l P L cap ts (ofM ts σ 3 13).2.1 (ofM ts σ 3 13).2.2 W)→∃x:RE.Gr l P,W=x.1:=fun n s W _ h=>by
    split at h
    ·exact⟨⟨W,by rw[h];exact grown_drewN (r8 l _) 1⟩,V⟩
    ·exact⟨⟨W,h.1⟩,V⟩
   have T:=Hd F;have a6:=Hd (kV E.o σ 3 13 (by omega));have ba:(ofM ts σ 3 13).1.u=[]:=rfl;have eb:=Hd ba;generalize ofM ts σ 3 13=r at *;clear F m ba;go_wp2_with fail
   clear c0;refine RE.u (by kernel_rfl) 6 [5] [5] (fun s W=>if s=0 then W=l.drew else ax l P L cap ts r.2.1 r.2.2 W) (fun W W'=>W.grownBy W' (Y P))
    (fun i xs=>xS #[I O r.1.b,J r.1.f,I Z r.1.h,I Z r.1.y,xs.getD 0 At])
    (fun i W xs=>f8 l.heap.size r.1 W xs) (by kernel_rfl) (fun i h1 h2=>by rw[h1]at h2;cases h2) (fun k W W' xs h _ hg=>h.h cc hg) V ?_
   simp only[EY,Fi,EZ,Fh,Fv,List.length_nil,Nat.reduceAdd]
   repeat (refine RE.b (fun W=>∃x:RE.Gr l P,W=x.1) (T.o _) V V V V ?_;go_big_quiet_step (fail);refine Bk ?_)
   refine RE.f V V ?_ (fun G=>?_)
   ·intro W _ M _;obtain rfl:W=l.drew:=M V;refine RE.y 161 _ _ V (enters_of Tryz.func161 (by kernel_rfl) V) #[xV (Y ⟨P,0,U⟩),I O 3,I O 13] (by simp[Act.eval]) (av.o.mono ?_);rintro e W' ⟨d,s,rfl,hT,q,C⟩;exact⟨_,V,[s],V,hT.z,hT.1,⟨d,s,V,q,C⟩⟩
   simp only[Act.put,EQ,EW,EV];refine RE.h ?_;intro W4 M hE;have Q:ax l P L cap ts r.2.1 r.2.2 W4:=M;obtain⟨d,s,rfl,q,C⟩:=(show f8 l.heap.size r.1 W4 G from hE 5 G V);obtain⟨p,c,rfl⟩:=q.b;obtain⟨HO,ar⟩:=zz2 q (u.o.b Q);have j:=Q.h H.o K (EO _);have D:=Hd j;obtain⟨a0,a1,a2,a3,a4⟩:=cells5 j;have z0:=ac j 0;have z1:=ac j 1;have z2:=ac j 2;have z3:=ac j 3;have z4:=ac j 4;have bb:w.heap.size<l.heap.size:=(EN.1 H.o).1;clear C0 hE M q Q j C;go_wp2_with fail
   refine bw Tryz.results272 V (aZ D.o _ _ _ _ _) V ?_;exact a9.h K HL.o ar.o HO.o a6.o (EO _) bb _ _ _ _ _
  rw[qv ch]at t;have el:((kd:Int)==3)=false:=by simp;omega
  subst t;have av:=Hd (jT E.o u.o.2 4 14 (by omega));obtain⟨c0,_,_,_,_,_⟩:=cells3 b8.o;generalize ofM ts σ 4 14=r at *;clear cb ch;go_wp2_with fail
  refine EX av.o ?_;rintro e w4 ⟨d,s,rfl,m,q,C⟩;obtain⟨p,c,rfl⟩:=q.b;have b9:=Hd (u.o.b m);have j:=m.h H.o K (EO _);have D:=Hd j;obtain⟨a0,a1,a2,a3,a4⟩:=cells5 j;have z0:=ac j 0;have z1:=ac j 1;have z2:=ac j 2;have z3:=ac j 3;have z4:=ac j 4;obtain⟨HO,HF⟩:=zz2 q C;have bb:w.heap.size<l.heap.size:=(EN.1 H.o).1;clear m j q C c0;go_wp2_with fail
  refine bw Tryz.results272 V (aZ D.o _ _ _ _ _) V ?_;exact a9.h K HL.o b9.o HO.o HF.o (EO _) bb _ _ _ _ _
theorem wM{g:Nat}{t:CD}:∀(vs:List wF) (o:Nat) (w:wD) (cs:Array wF),w.heap[g]?=Y (wq cs t (0,0))→o+vs.length≤cs.size→
  ∃a:Array wF,(w.setCells g o vs).heap[g]?=Y (wq a t (0,0))∧a.size=cs.size∧(∀i v,vs[i]?=Y v→a[o+i]?=Y v)∧∀k,k<o∨o+vs.length≤k→a[k]?=cs[k]?:=by
 intro vs
 induction vs with
 | nil=>intro o w cs h _;exact⟨cs,h,V,fun i v b=>by simp at b,fun _ _=>rfl⟩
 | cons x r d =>
  intro o w cs h e;simp only[Fv]at e;obtain⟨a,f,j,l,c⟩:=d (o+1) _ _ (heap_set h o x) (by simpa using (by omega));refine⟨a,f,by simpa using j,fun i v b=>?_,fun k m=>?_⟩
  ·cases i with
   | zero =>
    simp at b;subst b;rw[Nat.add_zero,c o (Or.inl (by omega)),Array.getElem?_setIfInBounds_self,rv (by omega)]
   | succ i =>
    have:=l i v (by simpa using b);rw[show o+1+i=o+(i+1) by omega]at this;exact this
  ·simp only[Fv]at m;rw[c k (by omega),Array.getElem?_setIfInBounds_ne (by omega)]
theorem mV{B g:Nat}(a:B≤g){W:wD}:∀(vs:List wF) (o:Nat) (w:wD),Below B W w→Below B W (w.setCells g o vs):=by
 intro vs
 induction vs with
 | nil=>intro o w h;exact h
 | cons x r b=>intro o w h;exact b (o+1) _ (h.setCell (p:=⟨g,o,U⟩) a x)
theorem nH{g:Nat}{t:CD}{vs:List wF}{w:wD}{cs:Array wF}(h:w.heap[g]?=Y (wq cs t (0,0)))(d:vs.length=cs.size):(w.setCells g 0 vs).heap[g]?=Y (wq vs.toArray t (0,0)):=by
 obtain⟨a,b,e,c,_⟩:=wM vs 0 w cs h (by omega);have:a=vs.toArray:=by
  apply Array.ext_getElem?;intro i
  by_cases f:i<vs.length
  ·have:=c i vs[i] (by simp);rw[Nat.zero_add]at this;rw[this];simp
  ·rw[FD (by omega)];simp;omega
 rw[b,this]
theorem pi{g:Nat}{t:CD}{w:wD}{cs:Array wF}(h:w.heap[g]?=Y (wq cs t (0,0))){n:Nat}(a:n=cs.size):w.there g 0 n:=fun j b=>by
 refine⟨?_,by simp[World.frozen?,h]⟩;rw[FI _ _ _ _ _ _ h,Array.getElem?_eq_getElem (by omega)];rfl
theorem vW{g:Nat}{t:CD}{w:wD}{vs:List wF}(h:w.heap[g]?=Y (wq vs.toArray t (0,0))):w.rangeAt g 0 vs:=fun j v a=>by
 rw[FI _ _ _ _ _ _ h,Nat.zero_add]
 simpa using a
def kq:List ByteArray:=iR 0++iR 1++iR 2++iR 3++iR 4
def gX:Array Value:=Array.replicate 30 (J ⟨#[]⟩)
theorem vd:(kq.map J).toArray.all (·.oneCell')=true:=by
 refine all_oneCell_toArray fun v a=>?_
 obtain⟨s,_,rfl⟩:=List.mem_map.1 a;rfl
theorem Ee{fn:Func}{R:Ending→wD→Prop}{a:Act}{W:wD}{slot T:Nat}{ty:CD}{u:wF}(c:fn.results=#[.cell slot ty])(d:a.tmps.getD slot At=xV (Y ⟨T,0,U⟩))
  (e:(loadVar ty ⟨T,0,U⟩).run xD W=.ok u W) (f:a.defers=[]) (g:R (z8 u) W):bodyPost xD fn R .ret a W:=by
 have b:a.tmps[slot]?.getD At=xV (Y ⟨T,0,U⟩):=by simpa using d
 refine bodyPost_ret (v:=u) ?_ f g;simp[results,c,b,asAddr,e]
theorem wH(w:wD):xL xD 271 #[] w fun e w'=>e=z8 (xS (kq.map J).toArray)∧FK w w':=by
 go_enter Tryz.func271,Tryz.ntmps271
 go_upto_region 1 with fail
 iterate 19 (go_step)
 have d:=p9 w (wq gX 407);have g:=(EP _ w).alloc (EO _) (wq gX 407);change wpList _ _ _ _ _ (w.alloc (wq gX 407));generalize w.alloc (wq gX 407)=w1 at *;refine wpList_store_mid V 407 _ _ V w.heap.size 0 (kq.map J).toArray V V (pi d V) (by kernel_rfl) vd ?_;have c:=nH (vs:=kq.map J) d V;have f:=mV (EO _) (kq.map J) 0 w1 g;change wpList _ _ _ _ _ (w1.setCells w.heap.size 0 (kq.map J));generalize w1.setCells w.heap.size 0 (kq.map J)=h at *;clear d g w1;generalize a:(kq.map J)=vs;rw[a]at c;have hlen:vs.length=30:=by rw[←a];rfl
 go_wp2_with fail
 have b:=run_loadVar_mid (P:=xD) h w.heap.size 0 407 vs (.array 5 406) (vW c) (by kernel_rfl) V (by rw[hlen];kernel_rfl);exact Ee Tryz.results271 V b V ⟨by rw[a],f⟩
