/- Parts of one proof, joined; conditions stand in each theorem. -/
import Derived.Test.YtoahnjkclckodaaGreatDoorMN
import Derived.Test.YtoahnjkclckodaaGreatDoorMT
import Derived.Deep.Cut
import Derived.Deep.MidRow
open Option renaming some→A,none→Y
open Go renaming World→J,Value→tS,Calls→vv,undef→xk,wpQuiet_nil→xL,TypeId→xD
open Go.Ending renaming returned→wg
open Go.Value renaming agg→wP,int→I,string→r9,slice→O,pointer→vo
open Go.IntKind renaming u8→r8,i64→U
open Go.Proofs.Tryz renaming prog→va
open Go.Obj renaming cells→r7
namespace Go.Proofs.YtoahnjkclckodaaGreatDoor
set_option maxHeartbeats 4000000
set_option maxRecDepth 100000
open Go.RowKit
abbrev PS:=Nat×Bool
structure cJ (ts:List Tok):Prop where
 each:∀t∈ts,t.1<256∧t.2.1.size≤16384∧t.2.2≤16384
 last:∀k t,ts[k]?=A t→¬k+1<ts.length→t.1=7
def dk(ts:List Tok) (k:Nat):Tok:=ts.getD k (7,⟨#[]⟩,0)
theorem gC{ts:List Tok}{k:Nat}(h:k<ts.length):ts[k]?=A (dk ts k):=by
 unfold dk;rw[List.getD_eq_getElem?_getD,JR h];rfl
theorem de{ts:List Tok}(h:cJ ts)(k:Nat):(dk ts k).1<256∧(dk ts k).2.1.size≤16384∧(dk ts k).2.2≤16384:=by
 by_cases a:k<ts.length
 ·exact h.each _ (J8 (gC a))
 ·unfold dk;rw[List.getD_eq_getElem?_getD,List.getElem?_eq_none (by omega)];exact⟨by show 7<256;omega,by show (0:Nat)≤16384;omega,by show (0:Nat)≤16384;omega⟩
def a7(w:J) (P L cap:Nat) (ts:List Tok) (r:ac×PS) (e:Ending) (w':J):Prop:=
 ∃(d:Nat) (s:tS),e=wg (wP #[I r8 r.1.q,r9 r.1.h,I U r.1.u,I U r.1.C,s])∧ah w P L cap ts r.2.1 r.2.2 w'∧OwnAt w' d r.1.z s (bI w.heap.size w'.heap.size)∧Fits r.1
def set5(W:J) (b:Nat) (v0 v1 v2 v3 v4:tS):World:=((((W.setCell ⟨b,0,Y⟩ v0).setCell ⟨b,1,Y⟩ v1).setCell ⟨b,2,Y⟩ v2).setCell ⟨b,3,Y⟩ v3).setCell ⟨b,4,Y⟩ v4
theorem vq(W:J)(b:Nat)(v0 v1 v2 v3 v4:tS):(set5 W b v0 v1 v2 v3 v4).heap.size=W.heap.size:=by simp[set5,World.setCell]
theorem kZ{W:J}{b g:Nat}(h:g≠b)(v0 v1 v2 v3 v4:tS):(set5 W b v0 v1 v2 v3 v4).heap[g]?=W.heap[g]?:=by
 unfold set5;exact (JQ _ _ _ g h).trans ((JQ _ _ _ g h).trans ((JQ _ _ _ g h).trans ((JQ _ _ _ g h).trans (JQ _ _ _ g h))))
section
variable {w W W':J} {P L cap:Nat} {ts:List Tok} {k:Nat} {bad:Bool}
theorem ah.set5(h:ah w P L cap ts k bad W)(a:P<w.heap.size)(c:L<w.heap.size){b:Nat}(d:w.heap.size≤b)(v0 v1 v2 v3 v4:tS):ah w P L cap ts k bad (set5 W b v0 v1 v2 v3 v4):=
 ((((h.K a c d 0 v0).K a c d 1 v1).K a c d 2 v2).K a c d 3 v3).K a c d 4 v4
theorem a7.z{r:ac×PS}{s:tS}{d B b:Nat}(c:P<w.heap.size)(e:L<w.heap.size)(f:ah w P L cap ts r.2.1 r.2.2 W)(g:OwnAt W d r.1.z s (bI B W.heap.size))(i:Fits r.1)
  (j:w.heap.size≤b) (hB:b<B) (v0 v1 v2 v3 v4:tS):a7 w P L cap ts r (wg (wP #[I r8 r.1.q,r9 r.1.h,I U r.1.u,I U r.1.C,s])) (YtoahnjkclckodaaGreatDoor.set5 W b v0 v1 v2 v3 v4):=by
 refine⟨d,s,Z,f.set5 c e j _ _ _ _ _,?_,i⟩;refine (g.K fun x o a h=>(kZ (by have:=a.1;omega) _ _ _ _ _).trans h).N fun x a=>?_
 have:=a.1;exact⟨by omega,by rw[vq];exact a.2⟩
end
theorem km(W:J)(F:Nat→Prop):OwnAt W 0 [] (O Y 0 0) F:=⟨Z,Or.inl Z⟩
def ofM(ts:List Tok) (σ:PS) (tok kind:Nat):ac×PS:=
 (.mk kind (dk ts σ.1).2.1 0 (dk ts σ.1).2.2 [],eO ts.length σ.1 (σ.2||(dk ts σ.1).1 != tok),(σ.2||(dk ts σ.1).1 != tok))
theorem lN{ts:List Tok}(h:cJ ts)(σ:PS)(tok kind:Nat)(a:kind<256):Fits (ofM ts σ tok kind).1:=by
 obtain⟨_,b,c⟩:=de h σ.1;exact⟨a,by show (dk ts σ.1).2.1.size≤maxLen;unfold maxLen;omega,by show (-9223372036854775808:Int)≤0;omega,by show (0:Int)<9223372036854775808;omega,by show (-9223372036854775808:Int)≤(dk ts σ.1).2.2;omega,by show ((dk ts σ.1).2.2:Int)<9223372036854775808;omega⟩
theorem kp{w:J}{P L cap:Nat}{ts:List Tok}(a:cJ ts){σ:PS}(h:PAt w P L cap ts σ.1 σ.2)(tok kind:Nat)(b:kind<256) :
  vv va 143 #[vo (A ⟨P,0,Y⟩),I r8 tok,I r8 kind] w (a7 w P L cap ts (ofM ts σ tok kind)):=
 (AL h (gC h.k) tok kind).mono fun _e _ ⟨he,c⟩=>⟨0,O Y 0 0,he,c,km _ _,lN a σ tok kind b⟩
theorem jy{w:J}{P L cap:Nat}{ts:List Tok}(f:cJ ts){σ:PS}(h:PAt w P L cap ts σ.1 σ.2)(kind:Nat)(n:kind<256) :
  vv va 118 #[vo (A ⟨P,0,Y⟩),I r8 kind] w (a7 w P L cap ts (ofM ts σ 2 kind)):=by
 have b:Kr w (w.alloc (r7 #[I r8 0,r9 ⟨#[]⟩,I U 0,I U 0,O Y 0 0] 145)):=(JO _ w).alloc (JM _) _;obtain⟨q,t⟩:=zz2 (kp f (h.C b) 2 kind n) (h.h b);have l:=h.lt.1;have u:=Hd h.lt.2;have v:=Hd (oc w (r7 #[I r8 0,r9 ⟨#[]⟩,I U 0,I U 0,O Y 0 0] 145));clear h b;generalize ofM ts σ 2 kind=r at *
 go_enter Tryz.func118,Tryz.ntmps118
 go_wp2_with fail
 refine JX q.o ?_;rintro e w1 ⟨d,s,rfl,g,i,m⟩;obtain⟨p,c,rfl⟩:=i.q;have a:=g.q v.o l (JM _);have j:=Hd a;obtain⟨a0,a1,a2,a3,a4⟩:=cells5 a;have z0:=ab a 0;have B:=ab a 1;have z2:=ab a 2;have z3:=ab a 3;have z4:=ab a 4;obtain⟨x,y,z⟩:=zz3 (t.o.h g) i m;clear a g i m;go_wp2_with fail
 exact bw Tryz.results118 Z (aX j.o _ _ _ _ _) Z (a7.z l u.o x.o y.o z.o (JM _) (by simp) _ _ _ _ _)
def isM(ts:List Tok) (σ:PS) (texts:List ByteArray):Bool:=!σ.2&&isT (dk ts σ.1) texts
def ae(ts:List Tok) (σ:PS):PS:=(eO ts.length σ.1 σ.2,σ.2)
def aM(ts:List Tok) (σ:PS) (texts:List ByteArray):PS:=if isM ts σ texts=true then ae ts σ else σ
def aQ(ts:List Tok) (σ:PS) (x:ByteArray):PS:=(qT ts σ.1 σ.2 (dk ts σ.1) x,tg σ.2 (dk ts σ.1) x)
def atM(ts:List Tok) (σ:PS):Int:=(dk ts σ.1).2.2
def txM(ts:List Tok) (σ:PS):ByteArray:=(dk ts σ.1).2.1
def kdM(ts:List Tok) (σ:PS):Nat:=(dk ts σ.1).1
theorem kw(ts:List Tok)(σ:PS)(texts:List ByteArray):(aM ts σ texts).1=kx ts σ.1 σ.2 (dk ts σ.1) texts∧(aM ts σ texts).2=σ.2:=by
 unfold aM kx isM
 split
 ·exact⟨Z,Z⟩
 ·exact⟨Z,Z⟩
def f7:ac:=.mk 0 ⟨#[]⟩ 0 0 []
def bo:ByteArray:=⟨#[45]⟩
def fw:ByteArray:=⟨#[110,111,116]⟩
def fS:ByteArray:=⟨#[40]⟩
def iu:ByteArray:=⟨#[41]⟩
def jd:Nat→List ByteArray
 | 0=>[⟨#[111,114]⟩,⟨#[]⟩,⟨#[]⟩,⟨#[]⟩,⟨#[]⟩,⟨#[]⟩]
 | 1=>[⟨#[97,110,100]⟩,⟨#[]⟩,⟨#[]⟩,⟨#[]⟩,⟨#[]⟩,⟨#[]⟩]
 | 2=>[⟨#[61]⟩,⟨#[33,61]⟩,⟨#[60]⟩,⟨#[60,61]⟩,⟨#[62]⟩,⟨#[62,61]⟩]
 | 3=>[⟨#[43]⟩,⟨#[45]⟩,⟨#[]⟩,⟨#[]⟩,⟨#[]⟩,⟨#[]⟩]
 | _=>[⟨#[42]⟩,⟨#[]⟩,⟨#[]⟩,⟨#[]⟩,⟨#[]⟩,⟨#[]⟩]
def iv(ts:List Tok) (ex:PS→ac×PS) (lvl:Nat) (pl:Int):Nat→ac→PS→ac×PS
 | 0,T,σ=>(T,σ)
 | g+1,T,σ =>
  if isM ts σ (jd lvl)=true then
   let r:=ex (ae ts σ)
   if lvl=2 then (.mk 16 (txM ts σ) 0 pl [T,r.1],r.2) else iv ts ex lvl pl g (.mk 16 (txM ts σ) 0 pl [T,r.1]) r.2
  else (T,σ)
def exM(ts:List Tok):Nat→Nat→PS→ac×PS
 | 0,_,σ=>(f7,σ)
 | f+1,lvl,σ =>
  if σ.2=true then (f7,σ)
  else if lvl=5 then
   if isM ts σ [bo,fw]=true then (.mk 16 (txM ts σ) 0 (atM ts σ) [(exM ts f 5 (ae ts σ)).1],(exM ts f 5 (ae ts σ)).2)
   else if isM ts σ [fS]=true then ((exM ts f 0 (ae ts σ)).1,aQ ts (exM ts f 0 (ae ts σ)).2 iu)
   else if kdM ts σ=5 then ofM ts σ 5 15
   else if kdM ts σ=3 then ofM ts σ 3 13
   else ofM ts σ 4 14
  else iv ts (exM ts f (lvl+1)) lvl (atM ts σ) ts.length (exM ts f (lvl+1) σ).1 (exM ts f (lvl+1) σ).2
theorem ff(ts:List Tok)(σ:PS):σ.1≤(ae ts σ).1∧(ae ts σ).2=σ.2:=⟨rW,Z⟩
theorem bH(ts:List Tok)(σ:PS)(x:ByteArray):σ.1≤(aQ ts σ x).1:=by
 unfold aQ qT kx;dsimp only;split
 ·exact rW
 ·exact JM _
theorem eu(ts:List Tok)(σ:PS)(tok kind:Nat):σ.1≤(ofM ts σ tok kind).2.1:=rW
theorem He{ts:List Tok}{ex:PS→ac×PS}(hex:∀σ,σ.1≤(ex σ).2.1){lvl:Nat}{pl:Int}:∀(g:Nat) (T:ac) (σ:PS),σ.1≤(iv ts ex lvl pl g T σ).2.1:=by
 intro g
 induction g with
 | zero=>intro T σ;exact JM _
 | succ g c =>
  intro T σ;unfold iv;have a:=(ff ts σ).1;have b:=hex (ae ts σ)
  split
  ·dsimp only
   split
   ·exact JU a b
   ·exact JU (JU a b) (c _ _)
  ·exact JM _
theorem Ft(ts:List Tok):∀(f lvl:Nat) (σ:PS),σ.1≤(exM ts f lvl σ).2.1:=by
 intro f
 induction f with
 | zero=>intro lvl σ;exact JM _
 | succ f a =>
  intro lvl σ;unfold exM;have b:=(ff ts σ).1
  (repeat' split)
  ·exact JM _
  ·exact JU b (a 5 _)
  ·exact JU (JU b (a 0 _)) (bH _ _ _)
  ·exact eu _ _ _ _
  ·exact eu _ _ _ _
  ·exact eu _ _ _ _
  ·exact JU (a (lvl+1) σ) (He (fun σ=>a (lvl+1) σ) _ _ _)
theorem fD{ts:List Tok}(h:cJ ts){σ:PS}(c:σ.1<ts.length){texts:List ByteArray}(hi:isM ts σ texts=true):(ae ts σ).1=σ.1+1∧σ.2=false∧σ.1+1<ts.length:=by
 unfold isM at hi;rw[J4]at hi;have b:σ.2=false:=by have:=hi.1;cases d:σ.2<;>simp[d]at this ⊢
 have a:σ.1+1<ts.length:=by
  by_cases a:σ.1+1<ts.length
  ·exact a
  ·exfalso
   have e:=h.last σ.1 _ (gC c) a;have:=hi.2;unfold isT at this;rw[e]at this;simp at this
 exact⟨by unfold ae;rw[b];exact sk a,b,a⟩
theorem dK{w:J}{P L cap:Nat}{ts:List Tok}{σ:PS}(h:PAt w P L cap ts σ.1 σ.2)(B off n c:Nat)(texts:List ByteArray)(hB:lF w B off texts)(b:texts.length=n)(a:n≤100) :
  vv va 117 #[vo (A ⟨P,0,Y⟩),O (A ⟨B,off,Y⟩) n c] w fun e w'=>e=wg (Value.bool (isM ts σ texts))∧ah w P L cap ts (aM ts σ texts).1 (aM ts σ texts).2 w':=
 (vy h (gC h.k) B off n c texts hB b a).mono fun _ _ ⟨he,d⟩=>⟨he,by rw[(kw ts σ texts).1,(kw ts σ texts).2];exact d⟩
theorem di{w:J}{P L cap:Nat}{ts:List Tok}{σ:PS}(h:PAt w P L cap ts σ.1 σ.2)(x:ByteArray) :
  vv va 121 #[vo (A ⟨P,0,Y⟩),r9 x] w fun e w'=>e=wg (Value.tuple #[])∧ah w P L cap ts (aQ ts σ x).1 (aQ ts σ x).2 w':=
 CO h (gC h.k) x
theorem gm{w:J}{P L cap:Nat}{ts:List Tok}{σ:PS}(h:PAt w P L cap ts σ.1 σ.2) :
  vv va 92 #[vo (A ⟨P,0,Y⟩)] w fun e w'=>e=wg (wP #[I r8 (kdM ts σ),r9 (txM ts σ),I U (atM ts σ)])∧Kr w w':=
 rL h (gC h.k)
theorem ze{w:J}(o:Obj)(l:List ByteArray):lF ((w.alloc o).alloc (r7 (l.map r9).toArray 9)) (w.heap.size+1) 0 l:=by
 have h:=bU (w:=w.alloc o) l;rw[o3]at h;exact h
theorem fF{kind:Nat}{tx:ByteArray}{pl:Int}{ks:List ac}(a:kind<256)(b:tx.size≤16384)(c:0≤pl)(d:pl≤16384):Fits (.mk kind tx 0 pl ks):=
 ⟨a,by show tx.size≤maxLen;unfold maxLen;omega,by show (-9223372036854775808:Int)≤0;omega,by show (0:Int)<9223372036854775808;omega,by show (-9223372036854775808:Int)≤pl;omega,by show pl<9223372036854775808;omega⟩
def gj(a:Nat) (T:ac) (W:J) (xs:List tS):Prop:=∃(d:Nat) (s:tS),xs=[s]∧OwnAt W d T.z s (bI a W.heap.size)∧Fits T
def ip(a:Nat) (T:ac) (W:J) (xs:List tS):Prop:=∃(d g N:Nat) (s:tS),xs=[I U g]∧W.heap[g]?=A (r7 (aj T s).toArray 145 (0,0))∧OwnAt W d T.z s (bI a N)∧Fits T∧a≤N∧N≤g
theorem gj.u{c Q:Nat}{T:ac}{W W':J}{xs:List tS}(h:gj c T W xs)(l:Q<c)(e:W.grownBy W' (A Q)):gj c T W' xs:=by
 obtain⟨d,s,f,g,i⟩:=h;exact⟨d,s,f,(g.K fun b o a j=>bE e j (by have:=a.1;omega)).N (fun b a=>⟨a.1,JS a.2 e.size⟩),i⟩
theorem ip.u{a Q:Nat}{T:ac}{W W':J}{xs:List tS}(h:ip a T W xs)(q:Q<a)(c:W.grownBy W' (A Q)):ip a T W' xs:=by
 obtain⟨d,g,N,s,e,f,i,j,l,m⟩:=h;exact⟨d,g,N,s,e,bE c f (by omega),i.K fun b o n p=>bE c p (by have:=n.1;omega),j,l,m⟩
theorem ip.own{e:Nat}{T:ac}{W:J}{xs:List tS}(h:ip e T W xs):∃(d g:Nat),xs=[I U g]∧OwnAt W (d+1) [T] (O (A ⟨g,0,Y⟩) 1 1) (bI e W.heap.size):=by
 obtain⟨d,g,N,s,o,n,p,q,t,v⟩:=h;have f:=(JL.1 n).1;refine⟨d,g,o,Or.inr ⟨g,1,(aj T s).toArray,fun i b=>i=0∧bI e N b,by simp,⟨by omega,f⟩,JM _,by unfold maxLen;omega,Z,n,Z,fun i x a=>?_,fun i b c=>⟨⟨c.2.1,by have:=c.2.2;omega⟩,by have:=c.2.2;omega⟩,fun i j b l hi r=>l (hi.1.trans r.1.symm)⟩⟩
 cases i with
 | zero =>
  simp at a;subst a;exact⟨q,s,fun m u hu=>by simpa using hu,p.N fun b c=>⟨Z,c⟩⟩
 | succ i=>simp at a
def yU(ts:List Tok) (f:Nat):Prop:=∀(lvl:Nat) (σ:PS) (w:J) (P L cap:Nat),lvl≤5→PAt w P L cap ts σ.1 σ.2→(ts.length-σ.1)*7+(6-lvl)≤f→
 vv va 204 #[vo (A ⟨P,0,Y⟩),I U lvl] w (a7 w P L cap ts (exM ts f lvl σ))
def wT(ts:List Tok) (f:Nat):Prop:=∀(σ:PS) (w:J) (P L cap:Nat),σ.2=false→PAt w P L cap ts σ.1 σ.2→(ts.length-σ.1)*7+1≤f→
 vv va 218 #[vo (A ⟨P,0,Y⟩)] w (a7 w P L cap ts (exM ts f 5 σ))
theorem vu{ts:List Tok}{f:Nat}(m:yU ts f)(σ:PS)(w:J)(P L cap:Nat)(h:PAt w P L cap ts σ.1 σ.2)(g:(ts.length-σ.1)*7+6≤f) :
  vv va 176 #[vo (A ⟨P,0,Y⟩)] w (a7 w P L cap ts (exM ts f 0 σ)):=by
 have b:Kr w (w.alloc (r7 #[I r8 0,r9 ⟨#[]⟩,I U 0,I U 0,O Y 0 0] 145)):=(JO _ w).alloc (JM _) _;have q:=Hd (m 0 σ _ P L cap (by omega) (h.C b) g);have t:=Hd (h.h b);have n:=h.lt.1;have u:=Hd h.lt.2;have v:=Hd (oc w (r7 #[I r8 0,r9 ⟨#[]⟩,I U 0,I U 0,O Y 0 0] 145));clear h b m g;generalize exM ts f 0 σ=r at *
 go_enter Tryz.func176,Tryz.ntmps176
 go_wp2_with fail
 refine JX q.o ?_;rintro e w1 ⟨d,s,rfl,i,j,g⟩;obtain⟨p,c,rfl⟩:=j.q;have a:=i.q v.o n (JM _);have l:=Hd a;obtain⟨a0,a1,a2,a3,a4⟩:=cells5 a;have z0:=ab a 0;have B:=ab a 1;have z2:=ab a 2;have z3:=ab a 3;have z4:=ab a 4;obtain⟨x,y,z⟩:=zz3 (t.o.h i) j g;clear a i j g;go_wp2_with fail
 exact bw Tryz.results176 Z (aX l.o _ _ _ _ _) Z (a7.z n u.o x.o y.o z.o (JM _) (by simp) _ _ _ _ _)
theorem ID{ts:List Tok}(cm:cJ ts){f:Nat}(h1:wT ts f)(hE:yU ts f):wT ts (f+1):=by
 intro σ w P L cap X h C;have bt:Kr w (w.alloc (r7 #[I r8 0,r9 ⟨#[]⟩,I U 0,I U 0,O Y 0 0] 145)):=(JO _ w).alloc (JM _) _;obtain⟨HC,H0⟩:=zz2 (gm (h.C bt)) (h.h bt);have K:=h.lt.1;obtain⟨HL,HX,HK,E,cn,cR,cp⟩:=zz7 h.lt.2 (oc w (r7 #[I r8 0,r9 ⟨#[]⟩,I U 0,I U 0,O Y 0 0] 145)) h.k cm h1 hE C
 have t:exM ts (f+1) 5 σ=(if isM ts σ [bo,fw]=true then (.mk 16 (txM ts σ) 0 (atM ts σ) [(exM ts f 5 (ae ts σ)).1],(exM ts f 5 (ae ts σ)).2)
   else if isM ts σ [fS]=true then ((exM ts f 0 (ae ts σ)).1,aQ ts (exM ts f 0 (ae ts σ)).2 iu)
   else if kdM ts σ=5 then ofM ts σ 5 15
   else if kdM ts σ=3 then ofM ts σ 3 13
   else ofM ts σ 4 14):=by
  conv=>lhs;unfold exM
  rw[oe (by rw[X];decide),oj Z]
 obtain⟨R,bB⟩:=zzy (exM ts (f+1) 5 σ);rw[bB];rw[bB]at t;obtain⟨HR,en⟩:=zz2 t X;clear h bt cm h1 hE C bB t X;obtain⟨kd,bR⟩:=zzy (kdM ts σ);obtain⟨tx,b0⟩:=zzy (txM ts σ);obtain⟨at_,b1⟩:=zzy (atM ts σ);rw[bR,b0,b1]at HC HR;have ad:Hid (tx.size≤16384∧0≤at_∧at_≤16384):=by
  show _∧_
  obtain⟨_,g2,g3⟩:=de E.o σ.1;rw[←b0,←b1];refine⟨g2,?_,?_⟩
  ·unfold atM;omega
  ·unfold atM;omega
 clear b0 b1;have b2:=Hd bR;clear bR
 go_enter Tryz.func218,Tryz.ntmps218
 go_wp2_with fail
 refine JX HC.o ?_;rintro e w1 ⟨rfl,b3⟩;have cT:=Hd (H0.o.u b3);have x0:=aa b3 HX.o (by simp);have cq:=Hd x0;have cr:w.heap.size<w1.heap.size:=(JL.1 x0).1;clear b3 x0;have b4:=cT.o.N (r7 #[I r8 kd,r9 tx,I U at_] 192);obtain⟨e0,cV,cW,ct⟩:=zz4 b4 (oc w1 (r7 #[I r8 kd,r9 tx,I U at_] 192)) ((Kp w1 (r7 #[I r8 kd,r9 tx,I U at_] 192) _ (JL.1 cq.o).1).trans cq.o) (b4.N (r7 #[r9 bo,r9 fw] 9));have HS:=Hd (dK ct.o.2 (w1.heap.size+1) 0 2 2 [bo,fw] (ze _ [bo,fw]) Z (by omega));have af:(w1.alloc (r7 #[I r8 kd,r9 tx,I U at_] 192)).heap.size=w1.heap.size+1:=o3 _ _;obtain⟨c3,c5⟩:=zz2 ((Kp (w1.alloc (r7 #[I r8 kd,r9 tx,I U at_] 192)) (r7 #[r9 bo,r9 fw] 9) w.heap.size (by rw[af];omega)).trans cW.o) ((Kp (w1.alloc (r7 #[I r8 kd,r9 tx,I U at_] 192)) (r7 #[r9 bo,r9 fw] 9) w1.heap.size (by rw[af];omega)).trans cV.o);clear b4 af;go_wp2_with fail
 refine JX HS.o ?_;rintro e y ⟨rfl,bl⟩;obtain⟨S,bm,b5⟩:=zz3 (ct.o.h bl) (bl.q c3.o K (JM _)) (bl.q c5.o K (Ke cr));clear bl
 by_cases hm:isM ts σ [bo,fw]=true
 ·have t:=HR.o;rw[oj hm]at t;have z:aM ts σ [bo,fw]=ae ts σ:=by unfold aM;rw[oj hm]
  obtain⟨q1,q2,q3⟩:=fD E.o HK.o hm;rw[z]at S;rw[hm];have N:=Hd (cn.o (ae ts σ) y.drew P L cap (by rw[(ff ts σ).2];exact q2) S.o.2.drew (by rw[q1];have:=cp.o;omega));have aq:R.1=.mk 16 tx 0 at_ [(exM ts f 5 (ae ts σ)).1]:=by rw[t]
  have ar:R.2=(exM ts f 5 (ae ts σ)).2:=by rw[t]
  generalize exM ts f 5 (ae ts σ)=r at *;generalize ae ts σ=e1 at *;obtain⟨b6,b7⟩:=zz2 aq ar;clear t HR z q1 q2 q3 hm aq ar b2;obtain⟨c0,c1,c2,_,_,_⟩:=cells3 b5.o;go_wp2_with fail
  have B:w1.heap.size≠P:=by omega
  have C0:=fun x:RE.Gr y P=>x.h c0 B
  have C1:=fun x:RE.Gr y P=>x.h c1 B
  have C2:=fun x:RE.Gr y P=>x.h c2 B
  have cu:P<y.heap.size:=S.o.2.lt.1;clear c0 c1 c2;refine RE.z (by kernel_rfl) 8 [5,6] [5,6] (fun s W=>if s=0 then W=y.drew else ah y P L cap ts r.2.1 r.2.2 W) (fun W W'=>W.grownBy W' (A P))
   (fun i xs=>if i=5 then wP #[I r8 r.1.q,r9 r.1.h,I U r.1.u,I U r.1.C,xs.getD 0 xk] else O (A ⟨RE.natOf xs,0,Y⟩) 1 1)
   (fun i W xs=>if i=5 then gj y.heap.size r.1 W xs else ip y.heap.size r.1 W xs) (by kernel_rfl) (fun i h1 h2=>by rw[h1]at h2;cases h2) ?_ Z ?_
  ·intro k W W' xs h _ hg
   split at h
   ·rw[oj (by assumption)];exact h.u cu hg
   ·rw[oe (by assumption)];exact h.u cu hg
  simp only[JY,J7,JZ,J6,Kf,List.length_nil,Nat.reduceAdd];have F:∀(n s:Nat) (W:J),s≤n→(if s=0 then W=y.drew else ah y P L cap ts r.2.1 r.2.2 W)→∃x:RE.Gr y P,W=x.1:=fun n s W _ h=>by
   split at h
   ·exact⟨⟨W,by rw[h];exact grown_drewN (oT y _) 1⟩,Z⟩
   ·exact⟨⟨W,h.1⟩,Z⟩
  have T:=Hd F;clear F
  repeat (refine RE.q (fun W=>∃x:RE.Gr y P,W=x.1) (T.o _) Z Z Z Z ?_;go_big_quiet_step (fail);refine xL ?_)
  refine RE.h Z Z ?_ (fun G=>?_)
  ·intro W _ M _;obtain rfl:W=y.drew:=M Z;refine RE.C 218 _ _ Z (enters_of Tryz.func218 (by kernel_rfl) Z) #[vo (A ⟨P,0,Y⟩)] (by simp[Act.eval]) (N.o.mono ?_);rintro e W' ⟨d,s,rfl,hT,q,C⟩;exact⟨_,Z,[s],Z,hT.z,hT.1,⟨d,s,Z,q,C⟩⟩
  simp only[Act.put,JP,JW,JV];refine RE.h Z Z ?_ (fun cv=>?_)
  ·intro W _ M c6;have hT:ah y P L cap ts r.2.1 r.2.2 W:=M Z;obtain⟨d,s,rfl,q,C⟩:gj y.heap.size r.1 W G:=c6 5 G (by kernel_rfl) Z;obtain⟨p,c,rfl⟩:=q.q;refine RE.Upon.told (v:=O (A ⟨W.heap.size,0,Y⟩) 1 1) (w':=W.alloc (r7 (aj r.1 (O p r.1.z.length c)).toArray 145)) ?_ ⟨[I U W.heap.size],Z,hT.N _,?_,?_⟩
   ·unfold RE.Upon
    go_simp
    rfl
   ·exact aF ((JO _ W).alloc (JM _) _) _
   ·refine⟨d,W.heap.size,W.heap.size,_,Z,oc W _,?_,C,hT.1.size,JM _⟩;exact q.C (fun b X=>X.2) ((JO _ W).alloc (JM _) _)
  simp only[Act.put,JP,JW,JV]
  repeat (refine RE.q (fun W=>∃x:RE.Gr y P,W=x.1) (T.o _) Z Z Z Z ?_;go_big_quiet_step (fail);refine xL ?_)
  refine RE.u ?_;intro W3 M hE;have b8:ah y P L cap ts r.2.1 r.2.2 W3:=M;obtain⟨d,g,rfl,q⟩:=(show ip y.heap.size r.1 W3 cv from hE 6 cv Z).own;obtain⟨HO,u⟩:=zz2 q (S.o.h b8);have j:=b8.q bm.o K (JM _);have D:=Hd j;obtain⟨a0,a1,a2,a3,a4⟩:=cells5 j;have z0:=ab j 0;have z1:=ab j 1;have z2:=ab j 2;have z3:=ab j 3;have z4:=ab j 4;have c7:w.heap.size<y.heap.size:=(JL.1 bm.o).1;obtain⟨RT,b9⟩:=R;obtain rfl:RT=_:=b6.o;obtain rfl:b9=_:=b7.o;clear C0 C1 C2 hE M q b8 j;go_wp2_with fail
  refine bw Tryz.results218 Z (aX D.o _ _ _ _ _) Z ?_;exact a7.z (r:=(.mk 16 tx 0 at_ [r.1],r.2)) K HL.o u.o HO.o (fF (by omega) ad.o.1 ad.o.2.1 ad.o.2.2) (JM _) c7 _ _ _ _ _
 ·have t:=HR.o;rw[oe hm]at t;have bn:=Hd t;have z:aM ts σ [bo,fw]=σ:=by unfold aM;rw[oe hm]
  rw[z]at S;have a6:isM ts σ [bo,fw]=false:=by simpa using hm
  rw[a6];clear z hm a6 t HR;have ca:=S.o.N (r7 #[r9 fS] 9);obtain⟨c8,c9,dd,dg⟩:=zz4 ca ((Kp y (r7 #[r9 fS] 9) _ (JL.1 bm.o).1).trans bm.o) ((Kp y (r7 #[r9 fS] 9) _ (JL.1 b5.o).1).trans b5.o) (dK ca.2 y.heap.size 0 1 1 [fS] (bU [fS]) Z (by omega));clear ca;go_wp2_with fail
  refine JX dg.o ?_;rintro e l ⟨rfl,bq⟩;obtain⟨u,H,cb⟩:=zz3 (c8.o.h bq) (bq.q c9.o K (JM _)) (bq.q dd.o K (Ke cr));clear bq
  by_cases hm:isM ts σ [fS]=true
  ·have t:=bn.o;rw[oj hm]at t;have z:aM ts σ [fS]=ae ts σ:=by unfold aM;rw[oj hm]
   obtain⟨q1,q2,q3⟩:=fD E.o HK.o hm;rw[z]at u;rw[hm];have N:=Hd (vu cR.o (ae ts σ) l P L cap u.o.2 (by rw[q1];have:=cp.o;omega));have aq:R.1=(exM ts f 0 (ae ts σ)).1:=by rw[t]
   have ar:R.2=aQ ts (exM ts f 0 (ae ts σ)).2 iu:=by rw[t]
   generalize exM ts f 0 (ae ts σ)=r at *;obtain⟨b6,b7⟩:=zz2 aq ar;clear t bn z q1 q2 q3 hm aq ar b2;go_wp2_with fail
   refine JX N.o ?_;rintro e w4 ⟨d,s,rfl,m,q,C⟩;obtain⟨p,c,rfl⟩:=q.q;obtain⟨cc,cy⟩:=zz2 (u.o.h m) (m.q H.o K (JM _));have cf:=cc.o.N (r7 #[I r8 r.1.q,r9 r.1.h,I U r.1.u,I U r.1.C,O p r.1.z.length c] 145);obtain⟨dn,ds,dt,dv,HW,HF⟩:=zz6 cf (oc w4 (r7 #[I r8 r.1.q,r9 r.1.h,I U r.1.u,I U r.1.C,O p r.1.z.length c] 145)) ((Kp w4 (r7 #[I r8 r.1.q,r9 r.1.h,I U r.1.u,I U r.1.C,O p r.1.z.length c] 145) _ (JL.1 cy.o).1).trans cy.o) (q.C (fun b X=>X.2) ((JO _ w4).alloc (JM _) (r7 #[I r8 r.1.q,r9 r.1.h,I U r.1.u,I U r.1.C,O p r.1.z.length c] 145))) (di cf.2 iu) C;have cA:w.heap.size<l.heap.size:=(JL.1 H.o).1;have eo:l.heap.size≤w4.heap.size:=m.1.size;clear cf m q C;go_wp2_with fail
   refine JX HW.o ?_;rintro e w5 ⟨rfl,V⟩;have ba:=Hd (dn.o.h V);have j:=V.q dt.o K (JM _);have D:=Hd j;obtain⟨a0,a1,a2,a3,a4⟩:=cells5 j;have z0:=ab j 0;have z1:=ab j 1;have z2:=ab j 2;have z3:=ab j 3;have z4:=ab j 4;obtain⟨m0,m1,m2,m3,m4⟩:=cells5 (V.q ds.o K (by omega));have cC:OwnAt w5 d r.1.z (O p r.1.z.length c) (bI l.heap.size w5.heap.size):=
    (dv.o.K fun b o X q=>bE V.1 q (by have:=X.1;omega)).N fun b X=>⟨X.1,JS X.2 (by have:=V.1.size;rw[o3]at this;omega)⟩
   have ef:=Hd cC;obtain⟨RT,b9⟩:=R;obtain rfl:RT=_:=b6.o;obtain rfl:b9=_:=b7.o;clear V j cC;go_wp2_with fail
   refine bw Tryz.results218 Z (aX D.o _ _ _ _ _) Z ?_;exact a7.z (r:=(r.1,aQ ts r.2 iu)) K HL.o ba.o ef.o HF.o (JM _) cA _ _ _ _ _
  have t:=bn.o;rw[oe hm]at t;have z:aM ts σ [fS]=σ:=by unfold aM;rw[oe hm]
  rw[z]at u;have a6:isM ts σ [fS]=false:=by simpa using hm
  rw[a6];clear z hm a6 bn b2
  by_cases ch:kd=5
  ·subst ch;rw[oj Z]at t;subst t;have m:=u.o;have bb:=Hd (kp E.o (w:=l.drew) m.2.drew 5 15 (by omega));obtain⟨c0,_,_,_,_,_⟩:=cells3 cb.o;have B:w1.heap.size≠P:=by omega
   have C0:=fun x:RE.Gr l P=>x.h c0 B
   have ck:P<l.heap.size:=m.2.lt.1;have F:∀(n s:Nat) (W:J),s≤n→(if s=0 then W=l.drew else ah l P L cap ts (ofM ts σ 5 15).2.1 (ofM ts σ 5 15).2.2 W)→∃x:RE.Gr l P,W=x.1:=fun n s W _ h=>by
    split at h
    ·exact⟨⟨W,by rw[h];exact grown_drewN (oT l _) 1⟩,Z⟩
    ·exact⟨⟨W,h.1⟩,Z⟩
   have T:=Hd F;have bd:=Hd (lN E.o σ 5 15 (by omega));have bg:(ofM ts σ 5 15).1.z=[]:=rfl;have eg:=Hd bg;generalize ofM ts σ 5 15=r at *;clear F m bg;go_wp2_with fail
   clear c0;refine RE.z (by kernel_rfl) 6 [5] [5] (fun s W=>if s=0 then W=l.drew else ah l P L cap ts r.2.1 r.2.2 W) (fun W W'=>W.grownBy W' (A P))
    (fun i xs=>wP #[I r8 r.1.q,r9 r.1.h,I U r.1.u,I U r.1.C,xs.getD 0 xk])
    (fun i W xs=>gj l.heap.size r.1 W xs) (by kernel_rfl) (fun i h1 h2=>by rw[h1]at h2;cases h2) (fun k W W' xs h _ hg=>h.u ck hg) Z ?_
   simp only[JY,J7,JZ,J6,Kf,List.length_nil,Nat.reduceAdd]
   repeat (refine RE.q (fun W=>∃x:RE.Gr l P,W=x.1) (T.o _) Z Z Z Z ?_;go_big_quiet_step (fail);refine xL ?_)
   refine RE.h Z Z ?_ (fun G=>?_)
   ·intro W _ M _;obtain rfl:W=l.drew:=M Z;refine RE.C 143 _ _ Z (enters_of Tryz.func143 (by kernel_rfl) Z) #[vo (A ⟨P,0,Y⟩),I r8 5,I r8 15] (by simp[Act.eval]) (bb.o.mono ?_);rintro e W' ⟨d,s,rfl,hT,q,C⟩;exact⟨_,Z,[s],Z,hT.z,hT.1,⟨d,s,Z,q,C⟩⟩
   simp only[Act.put,JP,JW,JV];refine RE.u ?_;intro W4 M hE;have Q:ah l P L cap ts r.2.1 r.2.2 W4:=M;obtain⟨d,s,rfl,q,C⟩:=(show gj l.heap.size r.1 W4 G from hE 5 G Z);obtain⟨p,c,rfl⟩:=q.q;obtain⟨HO,ba⟩:=zz2 q (u.o.h Q);have j:=Q.q H.o K (JM _);have D:=Hd j;obtain⟨a0,a1,a2,a3,a4⟩:=cells5 j;have z0:=ab j 0;have z1:=ab j 1;have z2:=ab j 2;have z3:=ab j 3;have z4:=ab j 4;have bk:w.heap.size<l.heap.size:=(JL.1 H.o).1;clear C0 hE M q Q j C;go_wp2_with fail
   refine bw Tryz.results218 Z (aX D.o _ _ _ _ _) Z ?_;exact a7.z K HL.o ba.o HO.o bd.o (JM _) bk _ _ _ _ _
  rw[oe ch]at t;have er:((kd:Int)==5)=false:=by simp;omega
  by_cases cl:kd=3
  ·subst cl;rw[oj Z]at t;subst t;have m:=u.o;have bb:=Hd (kp E.o (w:=l.drew) m.2.drew 3 13 (by omega));obtain⟨c0,_,_,_,_,_⟩:=cells3 cb.o;have B:w1.heap.size≠P:=by omega
   have C0:=fun x:RE.Gr l P=>x.h c0 B
   have ck:P<l.heap.size:=m.2.lt.1;have F:∀(n s:Nat) (W:J),s≤n→(if s=0 then W=l.drew else ah l P L cap ts (ofM ts σ 3 13).2.1 (ofM ts σ 3 13).2.2 W)→∃x:RE.Gr l P,W=x.1:=fun n s W _ h=>by
    split at h
    ·exact⟨⟨W,by rw[h];exact grown_drewN (oT l _) 1⟩,Z⟩
    ·exact⟨⟨W,h.1⟩,Z⟩
   have T:=Hd F;have bd:=Hd (lN E.o σ 3 13 (by omega));have bg:(ofM ts σ 3 13).1.z=[]:=rfl;have eg:=Hd bg;generalize ofM ts σ 3 13=r at *;clear F m bg;go_wp2_with fail
   clear c0;refine RE.z (by kernel_rfl) 6 [5] [5] (fun s W=>if s=0 then W=l.drew else ah l P L cap ts r.2.1 r.2.2 W) (fun W W'=>W.grownBy W' (A P))
    (fun i xs=>wP #[I r8 r.1.q,r9 r.1.h,I U r.1.u,I U r.1.C,xs.getD 0 xk])
    (fun i W xs=>gj l.heap.size r.1 W xs) (by kernel_rfl) (fun i h1 h2=>by rw[h1]at h2;cases h2) (fun k W W' xs h _ hg=>h.u ck hg) Z ?_
   simp only[JY,J7,JZ,J6,Kf,List.length_nil,Nat.reduceAdd]
   repeat (refine RE.q (fun W=>∃x:RE.Gr l P,W=x.1) (T.o _) Z Z Z Z ?_;go_big_quiet_step (fail);refine xL ?_)
   refine RE.h Z Z ?_ (fun G=>?_)
   ·intro W _ M _;obtain rfl:W=l.drew:=M Z;refine RE.C 143 _ _ Z (enters_of Tryz.func143 (by kernel_rfl) Z) #[vo (A ⟨P,0,Y⟩),I r8 3,I r8 13] (by simp[Act.eval]) (bb.o.mono ?_);rintro e W' ⟨d,s,rfl,hT,q,C⟩;exact⟨_,Z,[s],Z,hT.z,hT.1,⟨d,s,Z,q,C⟩⟩
   simp only[Act.put,JP,JW,JV];refine RE.u ?_;intro W4 M hE;have Q:ah l P L cap ts r.2.1 r.2.2 W4:=M;obtain⟨d,s,rfl,q,C⟩:=(show gj l.heap.size r.1 W4 G from hE 5 G Z);obtain⟨p,c,rfl⟩:=q.q;obtain⟨HO,ba⟩:=zz2 q (u.o.h Q);have j:=Q.q H.o K (JM _);have D:=Hd j;obtain⟨a0,a1,a2,a3,a4⟩:=cells5 j;have z0:=ab j 0;have z1:=ab j 1;have z2:=ab j 2;have z3:=ab j 3;have z4:=ab j 4;have bk:w.heap.size<l.heap.size:=(JL.1 H.o).1;clear C0 hE M q Q j C;go_wp2_with fail
   refine bw Tryz.results218 Z (aX D.o _ _ _ _ _) Z ?_;exact a7.z K HL.o ba.o HO.o bd.o (JM _) bk _ _ _ _ _
  rw[oe cl]at t;have et:((kd:Int)==3)=false:=by simp;omega
  subst t;have bb:=Hd (kp E.o u.o.2 4 14 (by omega));obtain⟨c0,_,_,_,_,_⟩:=cells3 cb.o;generalize ofM ts σ 4 14=r at *;clear ch cl;go_wp2_with fail
  refine JX bb.o ?_;rintro e w4 ⟨d,s,rfl,m,q,C⟩;obtain⟨p,c,rfl⟩:=q.q;have cc:=Hd (u.o.h m);have j:=m.q H.o K (JM _);have D:=Hd j;obtain⟨a0,a1,a2,a3,a4⟩:=cells5 j;have z0:=ab j 0;have z1:=ab j 1;have z2:=ab j 2;have z3:=ab j 3;have z4:=ab j 4;obtain⟨HO,HF⟩:=zz2 q C;have bk:w.heap.size<l.heap.size:=(JL.1 H.o).1;clear m j q C c0;go_wp2_with fail
  refine bw Tryz.results218 Z (aX D.o _ _ _ _ _) Z ?_;exact a7.z K HL.o cc.o HO.o HF.o (JM _) bk _ _ _ _ _
theorem Aa{g:Nat}{t:xD}:∀(vs:List tS) (o:Nat) (w:J) (cs:Array tS),w.heap[g]?=A (r7 cs t (0,0))→o+vs.length≤cs.size→
  ∃a:Array tS,(w.setCells g o vs).heap[g]?=A (r7 a t (0,0))∧a.size=cs.size∧(∀i v,vs[i]?=A v→a[o+i]?=A v)∧∀k,k<o∨o+vs.length≤k→a[k]?=cs[k]?:=by
 intro vs
 induction vs with
 | nil=>intro o w cs h _;exact⟨cs,h,Z,fun i v b=>by simp at b,fun _ _=>rfl⟩
 | cons x r d =>
  intro o w cs h e;simp only[Kf]at e;obtain⟨a,f,j,l,c⟩:=d (o+1) _ _ (heap_set h o x) (by simpa using (by omega));refine⟨a,f,by simpa using j,fun i v b=>?_,fun k m=>?_⟩
  ·cases i with
   | zero =>
    simp at b;subst b;rw[Nat.add_zero,c o (Or.inl (by omega)),Array.getElem?_setIfInBounds_self,oj (by omega)]
   | succ i =>
    have:=l i v (by simpa using b);rw[show o+1+i=o+(i+1) by omega]at this;exact this
  ·simp only[Kf]at m;rw[c k (by omega),Array.getElem?_setIfInBounds_ne (by omega)]
theorem pj{B g:Nat}(a:B≤g){W:J}:∀(vs:List tS) (o:Nat) (w:J),Below B W w→Below B W (w.setCells g o vs):=by
 intro vs
 induction vs with
 | nil=>intro o w h;exact h
 | cons x r b=>intro o w h;exact b (o+1) _ (h.setCell (p:=⟨g,o,Y⟩) a x)
theorem pZ{g:Nat}{t:xD}{vs:List tS}{w:J}{cs:Array tS}(h:w.heap[g]?=A (r7 cs t (0,0)))(d:vs.length=cs.size):(w.setCells g 0 vs).heap[g]?=A (r7 vs.toArray t (0,0)):=by
 obtain⟨a,b,e,c,_⟩:=Aa vs 0 w cs h (by omega);have:a=vs.toArray:=by
  apply Array.ext_getElem?;intro i
  by_cases hi:i<vs.length
  ·have:=c i vs[i] (by simp);rw[Nat.zero_add]at this;rw[this];simp
  ·rw[Kn (by omega)];simp;omega
 rw[b,this]
theorem rk{g:Nat}{t:xD}{w:J}{cs:Array tS}(h:w.heap[g]?=A (r7 cs t (0,0))){n:Nat}(a:n=cs.size):w.there g 0 n:=fun j b=>by
 refine⟨?_,by simp[World.frozen?,h]⟩;rw[Kq _ _ _ _ _ _ h,Array.getElem?_eq_getElem (by omega)];rfl
theorem zr{g:Nat}{t:xD}{w:J}{vs:List tS}(h:w.heap[g]?=A (r7 vs.toArray t (0,0))):w.rangeAt g 0 vs:=fun j v a=>by
 rw[Kq _ _ _ _ _ _ h,Nat.zero_add]
 simpa using a
def kV:List ByteArray:=jd 0++jd 1++jd 2++jd 3++jd 4
def ig:Array Value:=Array.replicate 30 (r9 ⟨#[]⟩)
theorem yJ:(kV.map r9).toArray.all (·.oneCell')=true:=by
 refine all_oneCell_toArray fun v a=>?_
 obtain⟨s,_,rfl⟩:=List.mem_map.1 a;rfl
theorem IU{fn:Func}{R:Ending→J→Prop}{a:Act}{W:J}{slot T:Nat}{ty:xD}{u:tS}(c:fn.results=#[.cell slot ty])(d:a.tmps.getD slot xk=vo (A ⟨T,0,Y⟩))
  (e:(loadVar ty ⟨T,0,Y⟩).run va W=.ok u W) (f:a.defers=[]) (g:R (wg u) W):bodyPost va fn R .ret a W:=by
 have b:a.tmps[slot]?.getD xk=vo (A ⟨T,0,Y⟩):=by simpa using d
 refine bodyPost_ret (v:=u) ?_ f g;simp[results,c,b,asAddr,e]
theorem zU(w:J):vv va 217 #[] w fun e w'=>e=wg (wP (kV.map r9).toArray)∧Kr w w':=by
 go_enter Tryz.func217,Tryz.ntmps217
 go_upto_region 1 with fail
 iterate 19 (go_step)
 have d:=oc w (r7 ig 327);have g:=(JO _ w).alloc (JM _) (r7 ig 327);change wpList _ _ _ _ _ (w.alloc (r7 ig 327));generalize w.alloc (r7 ig 327)=w1 at *;refine wpList_store_mid Z 327 _ _ Z w.heap.size 0 (kV.map r9).toArray Z Z (rk d Z) (by kernel_rfl) yJ ?_;have c:=pZ (vs:=kV.map r9) d Z;have f:=pj (JM _) (kV.map r9) 0 w1 g;change wpList _ _ _ _ _ (w1.setCells w.heap.size 0 (kV.map r9));generalize w1.setCells w.heap.size 0 (kV.map r9)=h at *;clear d g w1;generalize a:(kV.map r9)=vs;rw[a]at c;have hlen:vs.length=30:=by rw[←a];rfl
 go_wp2_with fail
 have b:=run_loadVar_mid (P:=va) h w.heap.size 0 327 vs (.array 5 326) (zr c) (by kernel_rfl) Z (by rw[hlen];kernel_rfl);exact IU Tryz.results217 Z b Z ⟨by rw[a],f⟩
