/- Parts of one proof, joined; conditions stand in each theorem. -/
import Derived.Test.YtoonjedifockoaaGreatDoorMN
import Derived.Test.YtoonjedifockoaaGreatDoorMT
import Derived.Deep.Cut
import Derived.Deep.MidRow
namespace Go.Proofs.YtoonjedifockoaaGreatDoor
open Go.IntKind(i64)
open Go.Value(int string slice)
set_option maxHeartbeats 4000000
set_option maxRecDepth 100000
open Go.RowKit
abbrev PS:=Nat×Bool
structure co (ts:List Tok):Prop where
 each:∀t∈ts,t.1<256∧t.2.1.size≤16384∧t.2.2≤16384
 last:∀k t,ts[k]?=some t→¬k+1<ts.length→t.1=7
def cH(ts:List Tok) (k:Nat):Tok:=ts.getD k (7,⟨#[]⟩,0)
theorem fD{ts:List Tok}{k:Nat}(h:k<ts.length):ts[k]?=some (cH ts k):=by
 unfold cH;rw[List.getD_eq_getElem?_getD,EE h];rfl
theorem cE{ts:List Tok}(h:co ts)(k:Nat):(cH ts k).1<256∧(cH ts k).2.1.size≤16384∧(cH ts k).2.2≤16384:=by
 by_cases a:k<ts.length
 ·exact h.each _ (EU (fD a))
 ·unfold cH;rw[List.getD_eq_getElem?_getD,List.getElem?_eq_none (by omega)];exact⟨by show 7<256;omega,by show (0:Nat)≤16384;omega,by show (0:Nat)≤16384;omega⟩
def aV(w:World) (P L cap:Nat) (ts:List Tok) (r:ac×PS) (e:Ending) (w':World):Prop:=
 ∃(d:Nat) (s:Value),e=.returned (.agg #[int .u8 r.1.kind,.string r.1.text,int i64 r.1.num,int i64 r.1.place,s])∧au w P L cap ts r.2.1 r.2.2 w'∧OwnAt w' d r.1.kids s (bL w.heap.size w'.heap.size)∧Fits r.1
def set5(W:World) (b:Nat) (v0 v1 v2 v3 v4:Value):World:=((((W.setCell ⟨b,0,none⟩ v0).setCell ⟨b,1,none⟩ v1).setCell ⟨b,2,none⟩ v2).setCell ⟨b,3,none⟩ v3).setCell ⟨b,4,none⟩ v4
theorem rG(W:World)(b:Nat)(v0 v1 v2 v3 v4:Value):(set5 W b v0 v1 v2 v3 v4).heap.size=W.heap.size:=by simp[set5,World.setCell]
theorem jJ{W:World}{b g:Nat}(h:g≠b)(v0 v1 v2 v3 v4:Value):(set5 W b v0 v1 v2 v3 v4).heap[g]?=W.heap[g]?:=by
 unfold set5;exact (ED _ _ _ g h).trans ((ED _ _ _ g h).trans ((ED _ _ _ g h).trans ((ED _ _ _ g h).trans (ED _ _ _ g h))))
section
variable {w W W':World} {P L cap:Nat} {ts:List Tok} {k:Nat} {bad:Bool}
theorem au.set5(h:au w P L cap ts k bad W)(a:P<w.heap.size)(c:L<w.heap.size){b:Nat}(d:w.heap.size≤b)(v0 v1 v2 v3 v4:Value):au w P L cap ts k bad (set5 W b v0 v1 v2 v3 v4):=
 ((((h.setCell a c d 0 v0).setCell a c d 1 v1).setCell a c d 2 v2).setCell a c d 3 v3).setCell a c d 4 v4
theorem aV.stored{r:ac×PS}{s:Value}{d B b:Nat}(c:P<w.heap.size)(e:L<w.heap.size)(f:au w P L cap ts r.2.1 r.2.2 W)(g:OwnAt W d r.1.kids s (bL B W.heap.size))(i:Fits r.1)
  (j:w.heap.size≤b) (hB:b<B) (v0 v1 v2 v3 v4:Value):aV w P L cap ts r (.returned (.agg #[int .u8 r.1.kind,.string r.1.text,int i64 r.1.num,int i64 r.1.place,s])) (YtoonjedifockoaaGreatDoor.set5 W b v0 v1 v2 v3 v4):=by
 refine⟨d,s,rfl,f.set5 c e j _ _ _ _ _,?_,i⟩;refine (g.keep fun x o a h=>(jJ (by have:=a.1;omega) _ _ _ _ _).trans h).sub fun x a=>?_
 have:=a.1;exact⟨by omega,by rw[rG];exact a.2⟩
end
theorem jc(W:World)(F:Nat→Prop):OwnAt W 0 [] (slice none 0 0) F:=⟨rfl,Or.inl rfl⟩
def ofM(ts:List Tok) (σ:PS) (tok kind:Nat):ac×PS:=
 (.mk kind (cH ts σ.1).2.1 0 (cH ts σ.1).2.2 [],eb ts.length σ.1 (σ.2||(cH ts σ.1).1 != tok),(σ.2||(cH ts σ.1).1 != tok))
theorem j4{ts:List Tok}(h:co ts)(σ:PS)(tok kind:Nat)(a:kind<256):Fits (ofM ts σ tok kind).1:=by
 obtain⟨_,b,c⟩:=cE h σ.1;exact⟨a,by show (cH ts σ.1).2.1.size≤maxLen;unfold maxLen;omega,by show (-9223372036854775808:Int)≤0;omega,by show (0:Int)<9223372036854775808;omega,by show (-9223372036854775808:Int)≤(cH ts σ.1).2.2;omega,by show ((cH ts σ.1).2.2:Int)<9223372036854775808;omega⟩
theorem je{w:World}{P L cap:Nat}{ts:List Tok}(a:co ts){σ:PS}(h:PAt w P L cap ts σ.1 σ.2)(tok kind:Nat)(b:kind<256) :
  Calls Tryz.prog 102 #[.pointer (some ⟨P,0,none⟩),int .u8 tok,int .u8 kind] w (aV w P L cap ts (ofM ts σ tok kind)):=
 (xk h (fD h.k) tok kind).mono fun _e _ ⟨he,c⟩=>⟨0,slice none 0 0,he,c,jc _ _,j4 a σ tok kind b⟩
theorem iq{w:World}{P L cap:Nat}{ts:List Tok}(f:co ts){σ:PS}(h:PAt w P L cap ts σ.1 σ.2)(kind:Nat)(n:kind<256) :
  Calls Tryz.prog 72 #[.pointer (some ⟨P,0,none⟩),int .u8 kind] w (aV w P L cap ts (ofM ts σ 2 kind)):=by
 have b:Ft w (w.alloc (.cells #[int .u8 0,string ⟨#[]⟩,int i64 0,int i64 0,slice none 0 0] 76)):=(EB _ w).alloc (EA _) _;have q:=Hd (je f (h.below b) 2 kind n);have t:=Hd (h.turns b);have l:=h.lt.1;have u:=Hd h.lt.2;have v:=Hd (n7 w (.cells #[int .u8 0,string ⟨#[]⟩,int i64 0,int i64 0,slice none 0 0] 76));clear h b;generalize ofM ts σ 2 kind=r at *
 go_enter Tryz.func72,Tryz.ntmps72
 go_wp2_with fail
 refine EJ q.o ?_;rintro e w1 ⟨d,s,rfl,g,i,m⟩;obtain⟨p,c,rfl⟩:=i.shape;have a:=g.box v.o l (EA _);have j:=Hd a;obtain⟨a0,a1,a2,a3,a4⟩:=cells5 a;have z0:=ab a 0;have A:=ab a 1;have z2:=ab a 2;have z3:=ab a 3;have z4:=ab a 4;have x:=Hd (t.o.trans g);have y:=Hd i;have z:=Hd m;clear a g i m;go_wp2_with fail
 exact bs Tryz.results72 rfl (aU j.o _ _ _ _ _) rfl (aV.stored l u.o x.o y.o z.o (EA _) (by simp) _ _ _ _ _)
def isM(ts:List Tok) (σ:PS) (texts:List ByteArray):Bool:=!σ.2&&isT (cH ts σ.1) texts
def ah(ts:List Tok) (σ:PS):PS:=(eb ts.length σ.1 σ.2,σ.2)
def aK(ts:List Tok) (σ:PS) (texts:List ByteArray):PS:=if isM ts σ texts=true then ah ts σ else σ
def aO(ts:List Tok) (σ:PS) (x:ByteArray):PS:=(nG ts σ.1 σ.2 (cH ts σ.1) x,pM σ.2 (cH ts σ.1) x)
def atM(ts:List Tok) (σ:PS):Int:=(cH ts σ.1).2.2
def txM(ts:List Tok) (σ:PS):ByteArray:=(cH ts σ.1).2.1
def kdM(ts:List Tok) (σ:PS):Nat:=(cH ts σ.1).1
theorem jk(ts:List Tok)(σ:PS)(texts:List ByteArray):(aK ts σ texts).1=jl ts σ.1 σ.2 (cH ts σ.1) texts∧(aK ts σ texts).2=σ.2:=by
 unfold aK jl isM
 split
 ·exact⟨rfl,rfl⟩
 ·exact⟨rfl,rfl⟩
def eY:ac:=.mk 0 ⟨#[]⟩ 0 0 []
def be:ByteArray:=⟨#[45]⟩
def eE:ByteArray:=⟨#[110,111,116]⟩
def eT:ByteArray:=⟨#[40]⟩
def gh:ByteArray:=⟨#[41]⟩
def gX:Nat→List ByteArray
 | 0=>[⟨#[111,114]⟩,⟨#[]⟩,⟨#[]⟩,⟨#[]⟩,⟨#[]⟩,⟨#[]⟩]
 | 1=>[⟨#[97,110,100]⟩,⟨#[]⟩,⟨#[]⟩,⟨#[]⟩,⟨#[]⟩,⟨#[]⟩]
 | 2=>[⟨#[61]⟩,⟨#[33,61]⟩,⟨#[60]⟩,⟨#[60,61]⟩,⟨#[62]⟩,⟨#[62,61]⟩]
 | 3=>[⟨#[43]⟩,⟨#[45]⟩,⟨#[]⟩,⟨#[]⟩,⟨#[]⟩,⟨#[]⟩]
 | _=>[⟨#[42]⟩,⟨#[]⟩,⟨#[]⟩,⟨#[]⟩,⟨#[]⟩,⟨#[]⟩]
def gi(ts:List Tok) (ex:PS→ac×PS) (lvl:Nat) (pl:Int):Nat→ac→PS→ac×PS
 | 0,T,σ=>(T,σ)
 | g+1,T,σ =>
  if isM ts σ (gX lvl)=true then
   let r:=ex (ah ts σ)
   if lvl=2 then (.mk 16 (txM ts σ) 0 pl [T,r.1],r.2) else gi ts ex lvl pl g (.mk 16 (txM ts σ) 0 pl [T,r.1]) r.2
  else (T,σ)
def exM(ts:List Tok):Nat→Nat→PS→ac×PS
 | 0,_,σ=>(eY,σ)
 | f+1,lvl,σ =>
  if σ.2=true then (eY,σ)
  else if lvl=5 then
   if isM ts σ [be,eE]=true then (.mk 16 (txM ts σ) 0 (atM ts σ) [(exM ts f 5 (ah ts σ)).1],(exM ts f 5 (ah ts σ)).2)
   else if isM ts σ [eT]=true then ((exM ts f 0 (ah ts σ)).1,aO ts (exM ts f 0 (ah ts σ)).2 gh)
   else if kdM ts σ=5 then ofM ts σ 5 15
   else if kdM ts σ=3 then ofM ts σ 3 13
   else ofM ts σ 4 14
  else gi ts (exM ts f (lvl+1)) lvl (atM ts σ) ts.length (exM ts f (lvl+1) σ).1 (exM ts f (lvl+1) σ).2
theorem eq(ts:List Tok)(σ:PS):σ.1≤(ah ts σ).1∧(ah ts σ).2=σ.2:=⟨pd,rfl⟩
theorem bH(ts:List Tok)(σ:PS)(x:ByteArray):σ.1≤(aO ts σ x).1:=by
 unfold aO nG jl;dsimp only;split
 ·exact pd
 ·exact EA _
theorem dM(ts:List Tok)(σ:PS)(tok kind:Nat):σ.1≤(ofM ts σ tok kind).2.1:=pd
theorem Cv{ts:List Tok}{ex:PS→ac×PS}(hex:∀σ,σ.1≤(ex σ).2.1){lvl:Nat}{pl:Int}:∀(g:Nat) (T:ac) (σ:PS),σ.1≤(gi ts ex lvl pl g T σ).2.1:=by
 intro g
 induction g with
 | zero=>intro T σ;exact EA _
 | succ g c =>
  intro T σ;unfold gi;have a:=(eq ts σ).1;have b:=hex (ah ts σ)
  split
  ·dsimp only
   split
   ·exact EG a b
   ·exact EG (EG a b) (c _ _)
  ·exact EA _
theorem Bd(ts:List Tok):∀(f lvl:Nat) (σ:PS),σ.1≤(exM ts f lvl σ).2.1:=by
 intro f
 induction f with
 | zero=>intro lvl σ;exact EA _
 | succ f a =>
  intro lvl σ;unfold exM;have b:=(eq ts σ).1
  (repeat' split)
  ·exact EA _
  ·exact EG b (a 5 _)
  ·exact EG (EG b (a 0 _)) (bH _ _ _)
  ·exact dM _ _ _ _
  ·exact dM _ _ _ _
  ·exact dM _ _ _ _
  ·exact EG (a (lvl+1) σ) (Cv (fun σ=>a (lvl+1) σ) _ _ _)
theorem eI{ts:List Tok}(h:co ts){σ:PS}(d:σ.1<ts.length){texts:List ByteArray}(b:isM ts σ texts=true):(ah ts σ).1=σ.1+1∧σ.2=false∧σ.1+1<ts.length:=by
 unfold isM at b;rw[EQ]at b;have c:σ.2=false:=by have:=b.1;cases e:σ.2<;>simp[e]at this ⊢
 have a:σ.1+1<ts.length:=by
  by_cases a:σ.1+1<ts.length
  ·exact a
  ·exfalso
   have f:=h.last σ.1 _ (fD d) a;have:=b.2;unfold isT at this;rw[f]at this;simp at this
 exact⟨by unfold ah;rw[c];exact pi a,c,a⟩
theorem dj{w:World}{P L cap:Nat}{ts:List Tok}{σ:PS}(h:PAt w P L cap ts σ.1 σ.2)(B off n c:Nat)(texts:List ByteArray)(hB:jV w B off texts)(b:texts.length=n)(a:n≤100) :
  Calls Tryz.prog 71 #[.pointer (some ⟨P,0,none⟩),slice (some ⟨B,off,none⟩) n c] w fun e w'=>e=.returned (.bool (isM ts σ texts))∧au w P L cap ts (aK ts σ texts).1 (aK ts σ texts).2 w':=
 (rJ h (fD h.k) B off n c texts hB b a).mono fun _ _ ⟨he,d⟩=>⟨he,by rw[(jk ts σ texts).1,(jk ts σ texts).2];exact d⟩
theorem cF{w:World}{P L cap:Nat}{ts:List Tok}{σ:PS}(h:PAt w P L cap ts σ.1 σ.2)(x:ByteArray) :
  Calls Tryz.prog 75 #[.pointer (some ⟨P,0,none⟩),.string x] w fun e w'=>e=.returned (.tuple #[])∧au w P L cap ts (aO ts σ x).1 (aO ts σ x).2 w':=
 zb h (fD h.k) x
theorem fo{w:World}{P L cap:Nat}{ts:List Tok}{σ:PS}(h:PAt w P L cap ts σ.1 σ.2) :
  Calls Tryz.prog 47 #[.pointer (some ⟨P,0,none⟩)] w fun e w'=>e=.returned (.agg #[int .u8 (kdM ts σ),.string (txM ts σ),int i64 (atM ts σ)])∧Ft w w':=
 oO h (fD h.k)
theorem vq{w:World}(o:Obj)(l:List ByteArray):jV ((w.alloc o).alloc (.cells (l.map string).toArray 9)) (w.heap.size+1) 0 l:=by
 have h:=bP (w:=w.alloc o) l;rw[World.size_alloc]at h;exact h
theorem eK{kind:Nat}{tx:ByteArray}{pl:Int}{a:List ac}(b:kind<256)(c:tx.size≤16384)(d:0≤pl)(e:pl≤16384):Fits (.mk kind tx 0 pl a):=
 ⟨b,by show tx.size≤maxLen;unfold maxLen;omega,by show (-9223372036854775808:Int)≤0;omega,by show (0:Int)<9223372036854775808;omega,by show (-9223372036854775808:Int)≤pl;omega,by show pl<9223372036854775808;omega⟩
def fh(a:Nat) (T:ac) (W:World) (xs:List Value):Prop:=∃(d:Nat) (s:Value),xs=[s]∧OwnAt W d T.kids s (bL a W.heap.size)∧Fits T
def gb(a:Nat) (T:ac) (W:World) (xs:List Value):Prop:=∃(d g N:Nat) (s:Value),xs=[int i64 g]∧W.heap[g]?=some (.cells (aw T s).toArray 76 (0,0))∧OwnAt W d T.kids s (bL a N)∧Fits T∧a≤N∧N≤g
theorem fh.grown{c Q:Nat}{T:ac}{W W':World}{xs:List Value}(h:fh c T W xs)(l:Q<c)(e:W.grownBy W' (some Q)):fh c T W' xs:=by
 obtain⟨d,s,f,g,i⟩:=h;exact⟨d,s,f,(g.keep fun b o a j=>bE e j (by have:=a.1;omega)).sub (fun b a=>⟨a.1,EF a.2 e.size⟩),i⟩
theorem gb.grown{a Q:Nat}{T:ac}{W W':World}{xs:List Value}(h:gb a T W xs)(q:Q<a)(c:W.grownBy W' (some Q)):gb a T W' xs:=by
 obtain⟨d,g,N,s,e,f,i,j,l,m⟩:=h;exact⟨d,g,N,s,e,bE c f (by omega),i.keep fun b o n p=>bE c p (by have:=n.1;omega),j,l,m⟩
theorem gb.own{e:Nat}{T:ac}{W:World}{xs:List Value}(h:gb e T W xs):∃(d g:Nat),xs=[int i64 g]∧OwnAt W (d+1) [T] (slice (some ⟨g,0,none⟩) 1 1) (bL e W.heap.size):=by
 obtain⟨d,g,N,s,o,n,p,q,v,x⟩:=h;have f:=(Ez.1 n).1;refine⟨d,g,o,Or.inr ⟨g,1,(aw T s).toArray,fun i b=>i=0∧bL e N b,by simp,⟨by omega,f⟩,EA _,by unfold maxLen;omega,rfl,n,rfl,fun i y a=>?_,fun i b c=>⟨⟨c.2.1,by have:=c.2.2;omega⟩,by have:=c.2.2;omega⟩,fun i j b l r t=>l (r.1.trans t.1.symm)⟩⟩
 cases i with
 | zero =>
  simp at a;subst a;exact⟨q,s,fun m u hu=>by simpa using hu,p.sub fun b c=>⟨rfl,c⟩⟩
 | succ i=>simp at a
def uX(ts:List Tok) (f:Nat):Prop:=∀(lvl:Nat) (σ:PS) (w:World) (P L cap:Nat),lvl≤5→PAt w P L cap ts σ.1 σ.2→(ts.length-σ.1)*7+(6-lvl)≤f→
 Calls Tryz.prog 173 #[.pointer (some ⟨P,0,none⟩),int i64 lvl] w (aV w P L cap ts (exM ts f lvl σ))
def sS(ts:List Tok) (f:Nat):Prop:=∀(σ:PS) (w:World) (P L cap:Nat),σ.2=false→PAt w P L cap ts σ.1 σ.2→(ts.length-σ.1)*7+1≤f→
 Calls Tryz.prog 185 #[.pointer (some ⟨P,0,none⟩)] w (aV w P L cap ts (exM ts f 5 σ))
theorem rH{ts:List Tok}{f:Nat}(m:uX ts f)(σ:PS)(w:World)(P L cap:Nat)(h:PAt w P L cap ts σ.1 σ.2)(g:(ts.length-σ.1)*7+6≤f) :
  Calls Tryz.prog 146 #[.pointer (some ⟨P,0,none⟩)] w (aV w P L cap ts (exM ts f 0 σ)):=by
 have b:Ft w (w.alloc (.cells #[int .u8 0,string ⟨#[]⟩,int i64 0,int i64 0,slice none 0 0] 76)):=(EB _ w).alloc (EA _) _;have q:=Hd (m 0 σ _ P L cap (by omega) (h.below b) g);have t:=Hd (h.turns b);have n:=h.lt.1;have u:=Hd h.lt.2;have v:=Hd (n7 w (.cells #[int .u8 0,string ⟨#[]⟩,int i64 0,int i64 0,slice none 0 0] 76));clear h b m g;generalize exM ts f 0 σ=r at *
 go_enter Tryz.func146,Tryz.ntmps146
 go_wp2_with fail
 refine EJ q.o ?_;rintro e w1 ⟨d,s,rfl,i,j,g⟩;obtain⟨p,c,rfl⟩:=j.shape;have a:=i.box v.o n (EA _);have l:=Hd a;obtain⟨a0,a1,a2,a3,a4⟩:=cells5 a;have z0:=ab a 0;have A:=ab a 1;have z2:=ab a 2;have z3:=ab a 3;have z4:=ab a 4;have x:=Hd (t.o.trans i);have y:=Hd j;have z:=Hd g;clear a i j g;go_wp2_with fail
 exact bs Tryz.results146 rfl (aU l.o _ _ _ _ _) rfl (aV.stored n u.o x.o y.o z.o (EA _) (by simp) _ _ _ _ _)
theorem Dq{ts:List Tok}(b7:co ts){f:Nat}(h1:sS ts f)(S:uX ts f):sS ts (f+1):=by
 intro σ w P L cap Q h B;have a8:Ft w (w.alloc (.cells #[int .u8 0,string ⟨#[]⟩,int i64 0,int i64 0,slice none 0 0] 76)):=(EB _ w).alloc (EA _) _;have HC:=Hd (fo (h.below a8));have H0:=Hd (h.turns a8);have H:=h.lt.1;have HL:=Hd h.lt.2;have HX:=Hd (n7 w (.cells #[int .u8 0,string ⟨#[]⟩,int i64 0,int i64 0,slice none 0 0] 76));have HK:=Hd h.k;have D:=Hd b7;have b8:=Hd h1;have cv:=Hd S;have b9:=Hd B
 have t:exM ts (f+1) 5 σ=(if isM ts σ [be,eE]=true then (.mk 16 (txM ts σ) 0 (atM ts σ) [(exM ts f 5 (ah ts σ)).1],(exM ts f 5 (ah ts σ)).2)
   else if isM ts σ [eT]=true then ((exM ts f 0 (ah ts σ)).1,aO ts (exM ts f 0 (ah ts σ)).2 gh)
   else if kdM ts σ=5 then ofM ts σ 5 15
   else if kdM ts σ=3 then ofM ts σ 3 13
   else ofM ts σ 4 14):=by
  conv=>lhs;unfold exM
  rw[n8 (by rw[Q];decide),n9 rfl]
 obtain⟨R,ba⟩:=zzy (exM ts (f+1) 5 σ);rw[ba];rw[ba]at t;have HR:=Hd t;have ds:=Hd Q;clear h a8 b7 h1 S B ba t Q;obtain⟨kd,bb⟩:=zzy (kdM ts σ);obtain⟨tx,bc⟩:=zzy (txM ts σ);obtain⟨at_,bd⟩:=zzy (atM ts σ);rw[bb,bc,bd]at HC HR;have T:Hid (tx.size≤16384∧0≤at_∧at_≤16384):=by
  show _∧_
  obtain⟨_,g2,g3⟩:=cE D.o σ.1;rw[←bc,←bd];refine⟨g2,?_,?_⟩
  ·unfold atM;omega
  ·unfold atM;omega
 clear bc bd;have bk:=Hd bb;clear bb
 go_enter Tryz.func185,Tryz.ntmps185
 go_wp2_with fail
 refine EJ HC.o ?_;rintro e w1 ⟨rfl,bl⟩;have cx:=Hd (H0.o.of_below bl);have x0:=aa bl HX.o (by simp);have ca:=Hd x0;have cc:w.heap.size<w1.heap.size:=(Ez.1 x0).1;clear bl x0;have bn:=cx.o.alloc (.cells #[int .u8 kd,.string tx,int i64 at_] 108);have ek:=Hd bn;have cA:=Hd (n7 w1 (.cells #[int .u8 kd,.string tx,int i64 at_] 108));have cC:=Hd ((Fp w1 (.cells #[int .u8 kd,.string tx,int i64 at_] 108) _ (Ez.1 ca.o).1).trans ca.o);have ch:=Hd (bn.alloc (.cells #[.string be,.string eE] 9));have HS:=Hd (dj ch.o.2 (w1.heap.size+1) 0 2 2 [be,eE] (vq _ [be,eE]) rfl (by omega));have U:(w1.alloc (.cells #[int .u8 kd,.string tx,int i64 at_] 108)).heap.size=w1.heap.size+1:=World.size_alloc _ _;have cR:=Hd ((Fp (w1.alloc (.cells #[int .u8 kd,.string tx,int i64 at_] 108)) (.cells #[.string be,.string eE] 9) w.heap.size (by rw[U];omega)).trans cC.o);have cT:=Hd ((Fp (w1.alloc (.cells #[int .u8 kd,.string tx,int i64 at_] 108)) (.cells #[.string be,.string eE] 9) w1.heap.size (by rw[U];omega)).trans cA.o);clear bn U;go_wp2_with fail
 refine EJ HS.o ?_;rintro e y ⟨rfl,ar⟩;have M:=Hd (ch.o.trans ar);have av:=Hd (ar.box cR.o H (EA _));have bq:=Hd (ar.box cT.o H (Fa cc));clear ar
 by_cases hm:isM ts σ [be,eE]=true
 ·have t:=HR.o;rw[n9 hm]at t;have z:aK ts σ [be,eE]=ah ts σ:=by unfold aK;rw[n9 hm]
  obtain⟨q1,q2,q3⟩:=eI D.o HK.o hm;rw[z]at M;rw[hm];have J:=Hd (b8.o (ah ts σ) y.drew P L cap (by rw[(eq ts σ).2];exact q2) M.o.2.drew (by rw[q1];have:=b9.o;omega));have V:R.1=.mk 16 tx 0 at_ [(exM ts f 5 (ah ts σ)).1]:=by rw[t]
  have X:R.2=(exM ts f 5 (ah ts σ)).2:=by rw[t]
  generalize exM ts f 5 (ah ts σ)=r at *;generalize ah ts σ=el at *;have br:=Hd V;have bt:=Hd X;clear t HR z q1 q2 q3 hm V X bk;obtain⟨c0,c1,c2,_,_,_⟩:=cells3 bq.o;go_wp2_with fail
  have A:w1.heap.size≠P:=by omega
  have C0:=fun x:RE.Gr y P=>x.cell c0 A
  have C1:=fun x:RE.Gr y P=>x.cell c1 A
  have C2:=fun x:RE.Gr y P=>x.cell c2 A
  have ck:P<y.heap.size:=M.o.2.lt.1;clear c0 c1 c2;refine RE.wp_region_eff (by kernel_rfl) 8 [5,6] [5,6] (fun s W=>if s=0 then W=y.drew else au y P L cap ts r.2.1 r.2.2 W) (fun W W'=>W.grownBy W' (some P))
   (fun i xs=>if i=5 then .agg #[int .u8 r.1.kind,.string r.1.text,int i64 r.1.num,int i64 r.1.place,xs.getD 0 undef] else slice (some ⟨RE.natOf xs,0,none⟩) 1 1)
   (fun i W xs=>if i=5 then fh y.heap.size r.1 W xs else gb y.heap.size r.1 W xs) (by kernel_rfl) (fun i h1 h2=>by rw[h1]at h2;cases h2) ?_ rfl ?_
  ·intro k W W' xs h _ hg
   split at h
   ·rw[n9 (by assumption)];exact h.grown ck hg
   ·rw[n8 (by assumption)];exact h.grown ck hg
  simp only[EK,ET,EL,ES,Fb,List.length_nil,Nat.reduceAdd];have E:∀(n s:Nat) (W:World),s≤n→(if s=0 then W=y.drew else au y P L cap ts r.2.1 r.2.2 W)→∃x:RE.Gr y P,W=x.1:=fun n s W _ h=>by
   split at h
   ·exact⟨⟨W,by rw[h];exact grown_drewN (World.grownBy.refl y _) 1⟩,rfl⟩
   ·exact⟨⟨W,h.1⟩,rfl⟩
  have N:=Hd E;clear E
  repeat (refine RE.wpE_read (fun W=>∃x:RE.Gr y P,W=x.1) (N.o _) rfl rfl rfl rfl ?_;go_big_quiet_step (fail);refine wpQuiet_nil ?_)
  refine RE.wpE_turn rfl rfl ?_ (fun F=>?_)
  ·intro W _ I _;obtain rfl:W=y.drew:=I rfl;refine RE.upon_call 185 _ _ rfl (enters_of Tryz.func185 (by kernel_rfl) rfl) #[.pointer (some ⟨P,0,none⟩)] (by simp[Act.eval]) (J.o.mono ?_);rintro e W' ⟨d,s,rfl,Y,q,B⟩;exact⟨_,rfl,[s],rfl,Y.of_drew,Y.1,⟨d,s,rfl,q,B⟩⟩
  simp only[Act.put,EC,EI,EH];refine RE.wpE_turn rfl rfl ?_ (fun cl=>?_)
  ·intro W _ I cV;have Y:au y P L cap ts r.2.1 r.2.2 W:=I rfl;obtain⟨d,s,rfl,q,B⟩:fh y.heap.size r.1 W F:=cV 5 F (by kernel_rfl) rfl;obtain⟨p,c,rfl⟩:=q.shape;refine RE.Upon.told (v:=slice (some ⟨W.heap.size,0,none⟩) 1 1) (w':=W.alloc (.cells (aw r.1 (.slice p r.1.kids.length c)).toArray 76)) ?_ ⟨[int i64 W.heap.size],rfl,Y.alloc _,?_,?_⟩
   ·unfold RE.Upon
    go_simp
    rfl
   ·exact aH ((EB _ W).alloc (EA _) _) _
   ·refine⟨d,W.heap.size,W.heap.size,_,rfl,n7 W _,?_,B,Y.1.size,EA _⟩;exact q.below (fun b Q=>Q.2) ((EB _ W).alloc (EA _) _)
  simp only[Act.put,EC,EI,EH]
  repeat (refine RE.wpE_read (fun W=>∃x:RE.Gr y P,W=x.1) (N.o _) rfl rfl rfl rfl ?_;go_big_quiet_step (fail);refine wpQuiet_nil ?_)
  refine RE.wpE_nil ?_;intro W3 I S;have bB:au y P L cap ts r.2.1 r.2.2 W3:=I;obtain⟨d,g,rfl,q⟩:=(show gb y.heap.size r.1 W3 cl from S 6 cl rfl).own;have HO:=Hd q;have u:=Hd (M.o.trans bB);have j:=bB.box av.o H (EA _);have C:=Hd j;obtain⟨a0,a1,a2,a3,a4⟩:=cells5 j;have z0:=ab j 0;have z1:=ab j 1;have z2:=ab j 2;have z3:=ab j 3;have z4:=ab j 4;have cW:w.heap.size<y.heap.size:=(Ez.1 av.o).1;obtain⟨RT,bR⟩:=R;obtain rfl:RT=_:=br.o;obtain rfl:bR=_:=bt.o;clear C0 C1 C2 S I q bB j;go_wp2_with fail
  refine bs Tryz.results185 rfl (aU C.o _ _ _ _ _) rfl ?_;exact aV.stored (r:=(.mk 16 tx 0 at_ [r.1],r.2)) H HL.o u.o HO.o (eK (by omega) T.o.1 T.o.2.1 T.o.2.2) (EA _) cW _ _ _ _ _
 ·have t:=HR.o;rw[n8 hm]at t;have a6:=Hd t;have z:aK ts σ [be,eE]=σ:=by unfold aK;rw[n8 hm]
  rw[z]at M;have Z:isM ts σ [be,eE]=false:=by simpa using hm
  rw[Z];clear z hm Z t HR;have b0:=M.o.alloc (.cells #[.string eT] 9);have c3:=Hd b0;have c5:=Hd ((Fp y (.cells #[.string eT] 9) _ (Ez.1 av.o).1).trans av.o);have c6:=Hd ((Fp y (.cells #[.string eT] 9) _ (Ez.1 bq.o).1).trans bq.o);have c7:=Hd (dj b0.2 y.heap.size 0 1 1 [eT] (bP [eT]) rfl (by omega));clear b0;go_wp2_with fail
  refine EJ c7.o ?_;rintro e l ⟨rfl,a7⟩;have u:=Hd (c3.o.trans a7);have G:=Hd (a7.box c5.o H (EA _));have b1:=Hd (a7.box c6.o H (Fa cc));clear a7
  by_cases hm:isM ts σ [eT]=true
  ·have t:=a6.o;rw[n9 hm]at t;have z:aK ts σ [eT]=ah ts σ:=by unfold aK;rw[n9 hm]
   obtain⟨q1,q2,q3⟩:=eI D.o HK.o hm;rw[z]at u;rw[hm];have J:=Hd (rH cv.o (ah ts σ) l P L cap u.o.2 (by rw[q1];have:=b9.o;omega));have V:R.1=(exM ts f 0 (ah ts σ)).1:=by rw[t]
   have X:R.2=aO ts (exM ts f 0 (ah ts σ)).2 gh:=by rw[t]
   generalize exM ts f 0 (ah ts σ)=r at *;have br:=Hd V;have bt:=Hd X;clear t a6 z q1 q2 q3 hm V X bk;go_wp2_with fail
   refine EJ J.o ?_;rintro e w4 ⟨d,s,rfl,m,q,B⟩;obtain⟨p,c,rfl⟩:=q.shape;have b2:=Hd (u.o.trans m);have cq:=Hd (m.box G.o H (EA _));have b3:=b2.o.alloc (.cells #[int .u8 r.1.kind,.string r.1.text,int i64 r.1.num,int i64 r.1.place,.slice p r.1.kids.length c] 76);have c8:=Hd b3;have c9:=Hd (n7 w4 (.cells #[int .u8 r.1.kind,.string r.1.text,int i64 r.1.num,int i64 r.1.place,.slice p r.1.kids.length c] 76));have da:=Hd ((Fp w4 (.cells #[int .u8 r.1.kind,.string r.1.text,int i64 r.1.num,int i64 r.1.place,.slice p r.1.kids.length c] 76) _ (Ez.1 cq.o).1).trans cq.o);have dc:=Hd (q.below (fun b Q=>Q.2) ((EB _ w4).alloc (EA _) (.cells #[int .u8 r.1.kind,.string r.1.text,int i64 r.1.num,int i64 r.1.place,.slice p r.1.kids.length c] 76)));have HW:=Hd (cF b3.2 gh);have HF:=Hd B;have cr:w.heap.size<l.heap.size:=(Ez.1 G.o).1;have dv:l.heap.size≤w4.heap.size:=m.1.size;clear b3 m q B;go_wp2_with fail
   refine EJ HW.o ?_;rintro e w5 ⟨rfl,O⟩;have ad:=Hd (c8.o.trans O);have j:=O.box da.o H (EA _);have C:=Hd j;obtain⟨a0,a1,a2,a3,a4⟩:=cells5 j;have z0:=ab j 0;have z1:=ab j 1;have z2:=ab j 2;have z3:=ab j 3;have z4:=ab j 4;obtain⟨m0,m1,m2,m3,m4⟩:=cells5 (O.box c9.o H (by omega));have ct:OwnAt w5 d r.1.kids (.slice p r.1.kids.length c) (bL l.heap.size w5.heap.size):=
    (dc.o.keep fun b o Q q=>bE O.1 q (by have:=Q.1;omega)).sub fun b Q=>⟨Q.1,EF Q.2 (by have:=O.1.size;rw[World.size_alloc]at this;omega)⟩
   have dd:=Hd ct;obtain⟨RT,bR⟩:=R;obtain rfl:RT=_:=br.o;obtain rfl:bR=_:=bt.o;clear O j ct;go_wp2_with fail
   refine bs Tryz.results185 rfl (aU C.o _ _ _ _ _) rfl ?_;exact aV.stored (r:=(r.1,aO ts r.2 gh)) H HL.o ad.o dd.o HF.o (EA _) cr _ _ _ _ _
  have t:=a6.o;rw[n8 hm]at t;have z:aK ts σ [eT]=σ:=by unfold aK;rw[n8 hm]
  rw[z]at u;have Z:isM ts σ [eT]=false:=by simpa using hm
  rw[Z];clear z hm Z a6 bk
  by_cases b4:kd=5
  ·subst b4;rw[n9 rfl]at t;subst t;have m:=u.o;have af:=Hd (je D.o (w:=l.drew) m.2.drew 5 15 (by omega));obtain⟨c0,_,_,_,_,_⟩:=cells3 b1.o;have A:w1.heap.size≠P:=by omega
   have C0:=fun x:RE.Gr l P=>x.cell c0 A
   have b5:P<l.heap.size:=m.2.lt.1;have E:∀(n s:Nat) (W:World),s≤n→(if s=0 then W=l.drew else au l P L cap ts (ofM ts σ 5 15).2.1 (ofM ts σ 5 15).2.2 W)→∃x:RE.Gr l P,W=x.1:=fun n s W _ h=>by
    split at h
    ·exact⟨⟨W,by rw[h];exact grown_drewN (World.grownBy.refl l _) 1⟩,rfl⟩
    ·exact⟨⟨W,h.1⟩,rfl⟩
   have N:=Hd E;have ak:=Hd (j4 D.o σ 5 15 (by omega));have an:(ofM ts σ 5 15).1.kids=[]:=rfl;have dg:=Hd an;generalize ofM ts σ 5 15=r at *;clear E m an;go_wp2_with fail
   clear c0;refine RE.wp_region_eff (by kernel_rfl) 6 [5] [5] (fun s W=>if s=0 then W=l.drew else au l P L cap ts r.2.1 r.2.2 W) (fun W W'=>W.grownBy W' (some P))
    (fun i xs=>.agg #[int .u8 r.1.kind,.string r.1.text,int i64 r.1.num,int i64 r.1.place,xs.getD 0 undef])
    (fun i W xs=>fh l.heap.size r.1 W xs) (by kernel_rfl) (fun i h1 h2=>by rw[h1]at h2;cases h2) (fun k W W' xs h _ hg=>h.grown b5 hg) rfl ?_
   simp only[EK,ET,EL,ES,Fb,List.length_nil,Nat.reduceAdd]
   repeat (refine RE.wpE_read (fun W=>∃x:RE.Gr l P,W=x.1) (N.o _) rfl rfl rfl rfl ?_;go_big_quiet_step (fail);refine wpQuiet_nil ?_)
   refine RE.wpE_turn rfl rfl ?_ (fun F=>?_)
   ·intro W _ I _;obtain rfl:W=l.drew:=I rfl;refine RE.upon_call 102 _ _ rfl (enters_of Tryz.func102 (by kernel_rfl) rfl) #[.pointer (some ⟨P,0,none⟩),int .u8 5,int .u8 15] (by simp[Act.eval]) (af.o.mono ?_);rintro e W' ⟨d,s,rfl,Y,q,B⟩;exact⟨_,rfl,[s],rfl,Y.of_drew,Y.1,⟨d,s,rfl,q,B⟩⟩
   simp only[Act.put,EC,EI,EH];refine RE.wpE_nil ?_;intro W4 I S;have K:au l P L cap ts r.2.1 r.2.2 W4:=I;obtain⟨d,s,rfl,q,B⟩:=(show fh l.heap.size r.1 W4 F from S 5 F rfl);obtain⟨p,c,rfl⟩:=q.shape;have HO:=Hd q;have ad:=Hd (u.o.trans K);have j:=K.box G.o H (EA _);have C:=Hd j;obtain⟨a0,a1,a2,a3,a4⟩:=cells5 j;have z0:=ab j 0;have z1:=ab j 1;have z2:=ab j 2;have z3:=ab j 3;have z4:=ab j 4;have aq:w.heap.size<l.heap.size:=(Ez.1 G.o).1;clear C0 S I q K j B;go_wp2_with fail
   refine bs Tryz.results185 rfl (aU C.o _ _ _ _ _) rfl ?_;exact aV.stored H HL.o ad.o HO.o ak.o (EA _) aq _ _ _ _ _
  rw[n8 b4]at t;have ec:((kd:Int)==5)=false:=by simp;omega
  by_cases b6:kd=3
  ·subst b6;rw[n9 rfl]at t;subst t;have m:=u.o;have af:=Hd (je D.o (w:=l.drew) m.2.drew 3 13 (by omega));obtain⟨c0,_,_,_,_,_⟩:=cells3 b1.o;have A:w1.heap.size≠P:=by omega
   have C0:=fun x:RE.Gr l P=>x.cell c0 A
   have b5:P<l.heap.size:=m.2.lt.1;have E:∀(n s:Nat) (W:World),s≤n→(if s=0 then W=l.drew else au l P L cap ts (ofM ts σ 3 13).2.1 (ofM ts σ 3 13).2.2 W)→∃x:RE.Gr l P,W=x.1:=fun n s W _ h=>by
    split at h
    ·exact⟨⟨W,by rw[h];exact grown_drewN (World.grownBy.refl l _) 1⟩,rfl⟩
    ·exact⟨⟨W,h.1⟩,rfl⟩
   have N:=Hd E;have ak:=Hd (j4 D.o σ 3 13 (by omega));have an:(ofM ts σ 3 13).1.kids=[]:=rfl;have dg:=Hd an;generalize ofM ts σ 3 13=r at *;clear E m an;go_wp2_with fail
   clear c0;refine RE.wp_region_eff (by kernel_rfl) 6 [5] [5] (fun s W=>if s=0 then W=l.drew else au l P L cap ts r.2.1 r.2.2 W) (fun W W'=>W.grownBy W' (some P))
    (fun i xs=>.agg #[int .u8 r.1.kind,.string r.1.text,int i64 r.1.num,int i64 r.1.place,xs.getD 0 undef])
    (fun i W xs=>fh l.heap.size r.1 W xs) (by kernel_rfl) (fun i h1 h2=>by rw[h1]at h2;cases h2) (fun k W W' xs h _ hg=>h.grown b5 hg) rfl ?_
   simp only[EK,ET,EL,ES,Fb,List.length_nil,Nat.reduceAdd]
   repeat (refine RE.wpE_read (fun W=>∃x:RE.Gr l P,W=x.1) (N.o _) rfl rfl rfl rfl ?_;go_big_quiet_step (fail);refine wpQuiet_nil ?_)
   refine RE.wpE_turn rfl rfl ?_ (fun F=>?_)
   ·intro W _ I _;obtain rfl:W=l.drew:=I rfl;refine RE.upon_call 102 _ _ rfl (enters_of Tryz.func102 (by kernel_rfl) rfl) #[.pointer (some ⟨P,0,none⟩),int .u8 3,int .u8 13] (by simp[Act.eval]) (af.o.mono ?_);rintro e W' ⟨d,s,rfl,Y,q,B⟩;exact⟨_,rfl,[s],rfl,Y.of_drew,Y.1,⟨d,s,rfl,q,B⟩⟩
   simp only[Act.put,EC,EI,EH];refine RE.wpE_nil ?_;intro W4 I S;have K:au l P L cap ts r.2.1 r.2.2 W4:=I;obtain⟨d,s,rfl,q,B⟩:=(show fh l.heap.size r.1 W4 F from S 5 F rfl);obtain⟨p,c,rfl⟩:=q.shape;have HO:=Hd q;have ad:=Hd (u.o.trans K);have j:=K.box G.o H (EA _);have C:=Hd j;obtain⟨a0,a1,a2,a3,a4⟩:=cells5 j;have z0:=ab j 0;have z1:=ab j 1;have z2:=ab j 2;have z3:=ab j 3;have z4:=ab j 4;have aq:w.heap.size<l.heap.size:=(Ez.1 G.o).1;clear C0 S I q K j B;go_wp2_with fail
   refine bs Tryz.results185 rfl (aU C.o _ _ _ _ _) rfl ?_;exact aV.stored H HL.o ad.o HO.o ak.o (EA _) aq _ _ _ _ _
  rw[n8 b6]at t;have eg:((kd:Int)==3)=false:=by simp;omega
  subst t;have af:=Hd (je D.o u.o.2 4 14 (by omega));obtain⟨c0,_,_,_,_,_⟩:=cells3 b1.o;generalize ofM ts σ 4 14=r at *;clear b4 b6;go_wp2_with fail
  refine EJ af.o ?_;rintro e w4 ⟨d,s,rfl,m,q,B⟩;obtain⟨p,c,rfl⟩:=q.shape;have b2:=Hd (u.o.trans m);have j:=m.box G.o H (EA _);have C:=Hd j;obtain⟨a0,a1,a2,a3,a4⟩:=cells5 j;have z0:=ab j 0;have z1:=ab j 1;have z2:=ab j 2;have z3:=ab j 3;have z4:=ab j 4;have HO:=Hd q;have HF:=Hd B;have aq:w.heap.size<l.heap.size:=(Ez.1 G.o).1;clear m j q B c0;go_wp2_with fail
  refine bs Tryz.results185 rfl (aU C.o _ _ _ _ _) rfl ?_;exact aV.stored H HL.o b2.o HO.o HF.o (EA _) aq _ _ _ _ _
theorem ww{g:Nat}{t:TypeId}:∀(vs:List Value) (o:Nat) (w:World) (cs:Array Value),w.heap[g]?=some (.cells cs t (0,0))→o+vs.length≤cs.size→
  ∃a:Array Value,(w.setCells g o vs).heap[g]?=some (.cells a t (0,0))∧a.size=cs.size∧(∀i v,vs[i]?=some v→a[o+i]?=some v)∧∀k,k<o∨o+vs.length≤k→a[k]?=cs[k]?:=by
 intro vs
 induction vs with
 | nil=>intro o w cs h _;exact⟨cs,h,rfl,fun i v b=>by simp at b,fun _ _=>rfl⟩
 | cons x r d =>
  intro o w cs h e;simp only[Fb]at e;obtain⟨a,f,j,l,c⟩:=d (o+1) _ _ (heap_set h o x) (by simpa using (by omega));refine⟨a,f,by simpa using j,fun i v b=>?_,fun k m=>?_⟩
  ·cases i with
   | zero =>
    simp at b;subst b;rw[Nat.add_zero,c o (Or.inl (by omega)),Array.getElem?_setIfInBounds_self,n9 (by omega)]
   | succ i =>
    have:=l i v (by simpa using b);rw[show o+1+i=o+(i+1) by omega]at this;exact this
  ·simp only[Fb]at m;rw[c k (by omega),Array.getElem?_setIfInBounds_ne (by omega)]
theorem mb{B g:Nat}(a:B≤g){W:World}:∀(vs:List Value) (o:Nat) (w:World),Below B W w→Below B W (w.setCells g o vs):=by
 intro vs
 induction vs with
 | nil=>intro o w h;exact h
 | cons x r b=>intro o w h;exact b (o+1) _ (h.setCell (p:=⟨g,o,none⟩) a x)
theorem mN{g:Nat}{t:TypeId}{vs:List Value}{w:World}{cs:Array Value}(h:w.heap[g]?=some (.cells cs t (0,0)))(d:vs.length=cs.size):(w.setCells g 0 vs).heap[g]?=some (.cells vs.toArray t (0,0)):=by
 obtain⟨a,b,e,c,_⟩:=ww vs 0 w cs h (by omega);have:a=vs.toArray:=by
  apply Array.ext_getElem?;intro i
  by_cases f:i<vs.length
  ·have:=c i vs[i] (by simp);rw[Nat.zero_add]at this;rw[this];simp
  ·rw[Fl (by omega)];simp;omega
 rw[b,this]
theorem ob{g:Nat}{t:TypeId}{w:World}{cs:Array Value}(h:w.heap[g]?=some (.cells cs t (0,0))){n:Nat}(a:n=cs.size):w.there g 0 n:=fun j b=>by
 refine⟨?_,by simp[World.frozen?,h]⟩;rw[Fq _ _ _ _ _ _ h,Array.getElem?_eq_getElem (by omega)];rfl
theorem vI{g:Nat}{t:TypeId}{w:World}{vs:List Value}(h:w.heap[g]?=some (.cells vs.toArray t (0,0))):w.rangeAt g 0 vs:=fun j v a=>by
 rw[Fq _ _ _ _ _ _ h,Nat.zero_add]
 simpa using a
def jE:List ByteArray:=gX 0++gX 1++gX 2++gX 3++gX 4
def fX:Array Value:=Array.replicate 30 (string ⟨#[]⟩)
theorem uS:(jE.map string).toArray.all (·.oneCell')=true:=by
 refine all_oneCell_toArray fun v a=>?_
 obtain⟨s,_,rfl⟩:=List.mem_map.1 a;rfl
theorem DL{fn:Func}{R:Ending→World→Prop}{a:Act}{W:World}{slot T:Nat}{ty:TypeId}{u:Value}(c:fn.results=#[.cell slot ty])(d:a.tmps.getD slot undef=.pointer (some ⟨T,0,none⟩))
  (e:(loadVar ty ⟨T,0,none⟩).run Tryz.prog W=.ok u W) (f:a.defers=[]) (g:R (.returned u) W):bodyPost Tryz.prog fn R .ret a W:=by
 have b:a.tmps[slot]?.getD undef=.pointer (some ⟨T,0,none⟩):=by simpa using d
 refine bodyPost_ret (v:=u) ?_ f g;simp[results,c,b,asAddr,e]
theorem wq(w:World):Calls Tryz.prog 184 #[] w fun e w'=>e=.returned (.agg (jE.map string).toArray)∧Ft w w':=by
 go_enter Tryz.func184,Tryz.ntmps184
 go_upto_region 1 with fail
 iterate 19 (go_step)
 have d:=n7 w (.cells fX 245);have g:=(EB _ w).alloc (EA _) (.cells fX 245);change wpList _ _ _ _ _ (w.alloc (.cells fX 245));generalize w.alloc (.cells fX 245)=w1 at *;refine wpList_store_mid rfl 245 _ _ rfl w.heap.size 0 (jE.map string).toArray rfl rfl (ob d rfl) (by kernel_rfl) uS ?_;have c:=mN (vs:=jE.map string) d rfl;have f:=mb (EA _) (jE.map string) 0 w1 g;change wpList _ _ _ _ _ (w1.setCells w.heap.size 0 (jE.map string));generalize w1.setCells w.heap.size 0 (jE.map string)=h at *;clear d g w1;generalize a:(jE.map string)=vs;rw[a]at c;have hlen:vs.length=30:=by rw[←a];rfl
 go_wp2_with fail
 have b:=run_loadVar_mid (P:=Tryz.prog) h w.heap.size 0 245 vs (.array 5 244) (vI c) (by kernel_rfl) rfl (by rw[hlen];kernel_rfl);exact DL Tryz.results184 rfl b rfl ⟨by rw[a],f⟩
