/- Parts of one proof, joined; conditions stand in each theorem. -/
import Derived.Test.YtoahnjkclckodaaGreatDoorMN
import Derived.Test.YtoahnjkclckodaaGreatDoorMT
import Derived.Deep.Cut
import Derived.Deep.MidRow
open Option renaming some→A,none→Y
open Go renaming World→J,Value→tT,Calls→wg,undef→wF,wpQuiet_nil→xL,TypeId→zs
open Go.Ending renaming returned→wj
open Go.Value renaming agg→xk,int→I,string→tS,slice→O,pointer→vv
open Go.IntKind renaming u8→tF,i64→U
open Go.Proofs.Tryz renaming prog→vo
open Go.Obj renaming cells→r9
namespace Go.Proofs.YtoahnjkclckodaaGreatDoor
set_option maxHeartbeats 4000000
set_option maxRecDepth 100000
open Go.RowKit
abbrev PS:=Nat×Bool
structure cg (ts:List Tok):Prop where
 each:∀t∈ts,t.1<256∧t.2.1.size≤16384∧t.2.2≤16384
 last:∀k t,ts[k]?=A t→¬k+1<ts.length→t.1=7
def cP(ts:List Tok) (k:Nat):Tok:=ts.getD k (7,⟨#[]⟩,0)
theorem f9{ts:List Tok}{k:Nat}(h:k<ts.length):ts[k]?=A (cP ts k):=by
 unfold cP;rw[List.getD_eq_getElem?_getD,FD h];rfl
theorem cM{ts:List Tok}(h:cg ts)(k:Nat):(cP ts k).1<256∧(cP ts k).2.1.size≤16384∧(cP ts k).2.2≤16384:=by
 by_cases a:k<ts.length
 ·exact h.each _ (FZ (f9 a))
 ·unfold cP;rw[List.getD_eq_getElem?_getD,List.getElem?_eq_none (by omega)];exact⟨by show 7<256;omega,by show (0:Nat)≤16384;omega,by show (0:Nat)≤16384;omega⟩
def aR(w:J) (P L cap:Nat) (ts:List Tok) (r:ac×PS) (e:Ending) (w':J):Prop:=
 ∃(d:Nat) (s:tT),e=wj (xk #[I tF r.1.q,tS r.1.h,I U r.1.u,I U r.1.t,s])∧ah w P L cap ts r.2.1 r.2.2 w'∧OwnAt w' d r.1.z s (bC w.heap.size w'.heap.size)∧Fits r.1
def set5(W:J) (b:Nat) (v0 v1 v2 v3 v4:tT):World:=((((W.setCell ⟨b,0,Y⟩ v0).setCell ⟨b,1,Y⟩ v1).setCell ⟨b,2,Y⟩ v2).setCell ⟨b,3,Y⟩ v3).setCell ⟨b,4,Y⟩ v4
theorem sT(W:J)(b:Nat)(v0 v1 v2 v3 v4:tT):(set5 W b v0 v1 v2 v3 v4).heap.size=W.heap.size:=by simp[set5,World.setCell]
theorem kq{W:J}{b g:Nat}(h:g≠b)(v0 v1 v2 v3 v4:tT):(set5 W b v0 v1 v2 v3 v4).heap[g]?=W.heap[g]?:=by
 unfold set5;exact (FC _ _ _ g h).trans ((FC _ _ _ g h).trans ((FC _ _ _ g h).trans ((FC _ _ _ g h).trans (FC _ _ _ g h))))
section
variable {w W W':J} {P L cap:Nat} {ts:List Tok} {k:Nat} {bad:Bool}
theorem ah.set5(h:ah w P L cap ts k bad W)(a:P<w.heap.size)(c:L<w.heap.size){b:Nat}(d:w.heap.size≤b)(v0 v1 v2 v3 v4:tT):ah w P L cap ts k bad (set5 W b v0 v1 v2 v3 v4):=
 ((((h.z a c d 0 v0).z a c d 1 v1).z a c d 2 v2).z a c d 3 v3).z a c d 4 v4
theorem aR.z{r:ac×PS}{s:tT}{d B b:Nat}(c:P<w.heap.size)(e:L<w.heap.size)(f:ah w P L cap ts r.2.1 r.2.2 W)(g:OwnAt W d r.1.z s (bC B W.heap.size))(i:Fits r.1)
  (j:w.heap.size≤b) (hB:b<B) (v0 v1 v2 v3 v4:tT):aR w P L cap ts r (wj (xk #[I tF r.1.q,tS r.1.h,I U r.1.u,I U r.1.t,s])) (YtoahnjkclckodaaGreatDoor.set5 W b v0 v1 v2 v3 v4):=by
 refine⟨d,s,Z,f.set5 c e j _ _ _ _ _,?_,i⟩;refine (g.t fun x o a h=>(kq (by have:=a.1;omega) _ _ _ _ _).trans h).D fun x a=>?_
 have:=a.1;exact⟨by omega,by rw[sT];exact a.2⟩
end
theorem jO(W:J)(F:Nat→Prop):OwnAt W 0 [] (O Y 0 0) F:=⟨Z,Or.inl Z⟩
def ofM(ts:List Tok) (σ:PS) (tok kind:Nat):ac×PS:=
 (.mk kind (cP ts σ.1).2.1 0 (cP ts σ.1).2.2 [],ew ts.length σ.1 (σ.2||(cP ts σ.1).1 != tok),(σ.2||(cP ts σ.1).1 != tok))
theorem kT{ts:List Tok}(h:cg ts)(σ:PS)(tok kind:Nat)(a:kind<256):Fits (ofM ts σ tok kind).1:=by
 obtain⟨_,b,c⟩:=cM h σ.1;exact⟨a,by show (cP ts σ.1).2.1.size≤maxLen;unfold maxLen;omega,by show (-9223372036854775808:Int)≤0;omega,by show (0:Int)<9223372036854775808;omega,by show (-9223372036854775808:Int)≤(cP ts σ.1).2.2;omega,by show ((cP ts σ.1).2.2:Int)<9223372036854775808;omega⟩
theorem jQ{w:J}{P L cap:Nat}{ts:List Tok}(a:cg ts){σ:PS}(h:PAt w P L cap ts σ.1 σ.2)(tok kind:Nat)(b:kind<256) :
  wg vo 143 #[vv (A ⟨P,0,Y⟩),I tF tok,I tF kind] w (aR w P L cap ts (ofM ts σ tok kind)):=
 (xP h (f9 h.k) tok kind).mono fun _e _ ⟨he,c⟩=>⟨0,O Y 0 0,he,c,jO _ _,kT a σ tok kind b⟩
theorem i6{w:J}{P L cap:Nat}{ts:List Tok}(f:cg ts){σ:PS}(h:PAt w P L cap ts σ.1 σ.2)(kind:Nat)(n:kind<256) :
  wg vo 118 #[vv (A ⟨P,0,Y⟩),I tF kind] w (aR w P L cap ts (ofM ts σ 2 kind)):=by
 have b:Gl w (w.alloc (r9 #[I tF 0,tS ⟨#[]⟩,I U 0,I U 0,O Y 0 0] 145)):=(Fz _ w).alloc (Fy _) _;obtain⟨q,t⟩:=zz2 (jQ f (h.C b) 2 kind n) (h.h b);have l:=h.lt.1;have u:=Hd h.lt.2;have v:=Hd (oA w (r9 #[I tF 0,tS ⟨#[]⟩,I U 0,I U 0,O Y 0 0] 145));clear h b;generalize ofM ts σ 2 kind=r at *
 go_enter Tryz.func118,Tryz.ntmps118
 go_wp2_with fail
 refine FN q.o ?_;rintro e w1 ⟨d,s,rfl,g,i,m⟩;obtain⟨p,c,rfl⟩:=i.q;have a:=g.q v.o l (Fy _);have j:=Hd a;obtain⟨a0,a1,a2,a3,a4⟩:=cells5 a;have z0:=ab a 0;have B:=ab a 1;have z2:=ab a 2;have z3:=ab a 3;have z4:=ab a 4;obtain⟨x,y,z⟩:=zz3 (t.o.h g) i m;clear a g i m;go_wp2_with fail
 exact bh Tryz.results118 Z (aO j.o _ _ _ _ _) Z (aR.z l u.o x.o y.o z.o (Fy _) (by simp) _ _ _ _ _)
def isM(ts:List Tok) (σ:PS) (texts:List ByteArray):Bool:=!σ.2&&isT (cP ts σ.1) texts
def ae(ts:List Tok) (σ:PS):PS:=(ew ts.length σ.1 σ.2,σ.2)
def aF(ts:List Tok) (σ:PS) (texts:List ByteArray):PS:=if isM ts σ texts=true then ae ts σ else σ
def aI(ts:List Tok) (σ:PS) (x:ByteArray):PS:=(o0 ts σ.1 σ.2 (cP ts σ.1) x,qV σ.2 (cP ts σ.1) x)
def atM(ts:List Tok) (σ:PS):Int:=(cP ts σ.1).2.2
def txM(ts:List Tok) (σ:PS):ByteArray:=(cP ts σ.1).2.1
def kdM(ts:List Tok) (σ:PS):Nat:=(cP ts σ.1).1
theorem jT(ts:List Tok)(σ:PS)(texts:List ByteArray):(aF ts σ texts).1=jU ts σ.1 σ.2 (cP ts σ.1) texts∧(aF ts σ texts).2=σ.2:=by
 unfold aF jU isM
 split
 ·exact⟨Z,Z⟩
 ·exact⟨Z,Z⟩
def fD:ac:=.mk 0 ⟨#[]⟩ 0 0 []
def a7:ByteArray:=⟨#[45]⟩
def eS:ByteArray:=⟨#[110,111,116]⟩
def fl:ByteArray:=⟨#[40]⟩
def gJ:ByteArray:=⟨#[41]⟩
def iI:Nat→List ByteArray
 | 0=>[⟨#[111,114]⟩,⟨#[]⟩,⟨#[]⟩,⟨#[]⟩,⟨#[]⟩,⟨#[]⟩]
 | 1=>[⟨#[97,110,100]⟩,⟨#[]⟩,⟨#[]⟩,⟨#[]⟩,⟨#[]⟩,⟨#[]⟩]
 | 2=>[⟨#[61]⟩,⟨#[33,61]⟩,⟨#[60]⟩,⟨#[60,61]⟩,⟨#[62]⟩,⟨#[62,61]⟩]
 | 3=>[⟨#[43]⟩,⟨#[45]⟩,⟨#[]⟩,⟨#[]⟩,⟨#[]⟩,⟨#[]⟩]
 | _=>[⟨#[42]⟩,⟨#[]⟩,⟨#[]⟩,⟨#[]⟩,⟨#[]⟩,⟨#[]⟩]
def gK(ts:List Tok) (ex:PS→ac×PS) (lvl:Nat) (pl:Int):Nat→ac→PS→ac×PS
 | 0,T,σ=>(T,σ)
 | g+1,T,σ =>
  if isM ts σ (iI lvl)=true then
   let r:=ex (ae ts σ)
   if lvl=2 then (.mk 16 (txM ts σ) 0 pl [T,r.1],r.2) else gK ts ex lvl pl g (.mk 16 (txM ts σ) 0 pl [T,r.1]) r.2
  else (T,σ)
def exM(ts:List Tok):Nat→Nat→PS→ac×PS
 | 0,_,σ=>(fD,σ)
 | f+1,lvl,σ =>
  if σ.2=true then (fD,σ)
  else if lvl=5 then
   if isM ts σ [a7,eS]=true then (.mk 16 (txM ts σ) 0 (atM ts σ) [(exM ts f 5 (ae ts σ)).1],(exM ts f 5 (ae ts σ)).2)
   else if isM ts σ [fl]=true then ((exM ts f 0 (ae ts σ)).1,aI ts (exM ts f 0 (ae ts σ)).2 gJ)
   else if kdM ts σ=5 then ofM ts σ 5 15
   else if kdM ts σ=3 then ofM ts σ 3 13
   else ofM ts σ 4 14
  else gK ts (exM ts f (lvl+1)) lvl (atM ts σ) ts.length (exM ts f (lvl+1) σ).1 (exM ts f (lvl+1) σ).2
theorem eH(ts:List Tok)(σ:PS):σ.1≤(ae ts σ).1∧(ae ts σ).2=σ.2:=⟨qh,Z⟩
theorem bz(ts:List Tok)(σ:PS)(x:ByteArray):σ.1≤(aI ts σ x).1:=by
 unfold aI o0 jU;dsimp only;split
 ·exact qh
 ·exact Fy _
theorem d6(ts:List Tok)(σ:PS)(tok kind:Nat):σ.1≤(ofM ts σ tok kind).2.1:=qh
theorem Dn{ts:List Tok}{ex:PS→ac×PS}(hex:∀σ,σ.1≤(ex σ).2.1){lvl:Nat}{pl:Int}:∀(g:Nat) (T:ac) (σ:PS),σ.1≤(gK ts ex lvl pl g T σ).2.1:=by
 intro g
 induction g with
 | zero=>intro T σ;exact Fy _
 | succ g c =>
  intro T σ;unfold gK;have a:=(eH ts σ).1;have b:=hex (ae ts σ)
  split
  ·dsimp only
   split
   ·exact FH a b
   ·exact FH (FH a b) (c _ _)
  ·exact Fy _
theorem BP(ts:List Tok):∀(f lvl:Nat) (σ:PS),σ.1≤(exM ts f lvl σ).2.1:=by
 intro f
 induction f with
 | zero=>intro lvl σ;exact Fy _
 | succ f a =>
  intro lvl σ;unfold exM;have b:=(eH ts σ).1
  (repeat' split)
  ·exact Fy _
  ·exact FH b (a 5 _)
  ·exact FH (FH b (a 0 _)) (bz _ _ _)
  ·exact d6 _ _ _ _
  ·exact d6 _ _ _ _
  ·exact d6 _ _ _ _
  ·exact FH (a (lvl+1) σ) (Dn (fun σ=>a (lvl+1) σ) _ _ _)
theorem eZ{ts:List Tok}(h:cg ts){σ:PS}(c:σ.1<ts.length){texts:List ByteArray}(hi:isM ts σ texts=true):(ae ts σ).1=σ.1+1∧σ.2=false∧σ.1+1<ts.length:=by
 unfold isM at hi;rw[FV]at hi;have b:σ.2=false:=by have:=hi.1;cases d:σ.2<;>simp[d]at this ⊢
 have a:σ.1+1<ts.length:=by
  by_cases a:σ.1+1<ts.length
  ·exact a
  ·exfalso
   have e:=h.last σ.1 _ (f9 c) a;have:=hi.2;unfold isT at this;rw[e]at this;simp at this
 exact⟨by unfold ae;rw[b];exact qo a,b,a⟩
theorem dy{w:J}{P L cap:Nat}{ts:List Tok}{σ:PS}(h:PAt w P L cap ts σ.1 σ.2)(B off n c:Nat)(texts:List ByteArray)(hB:kO w B off texts)(b:texts.length=n)(a:n≤100) :
  wg vo 117 #[vv (A ⟨P,0,Y⟩),O (A ⟨B,off,Y⟩) n c] w fun e w'=>e=wj (Value.bool (isM ts σ texts))∧ah w P L cap ts (aF ts σ texts).1 (aF ts σ texts).2 w':=
 (sY h (f9 h.k) B off n c texts hB b a).mono fun _ _ ⟨he,d⟩=>⟨he,by rw[(jT ts σ texts).1,(jT ts σ texts).2];exact d⟩
theorem cN{w:J}{P L cap:Nat}{ts:List Tok}{σ:PS}(h:PAt w P L cap ts σ.1 σ.2)(x:ByteArray) :
  wg vo 121 #[vv (A ⟨P,0,Y⟩),tS x] w fun e w'=>e=wj (Value.tuple #[])∧ah w P L cap ts (aI ts σ x).1 (aI ts σ x).2 w':=
 zJ h (f9 h.k) x
theorem fQ{w:J}{P L cap:Nat}{ts:List Tok}{σ:PS}(h:PAt w P L cap ts σ.1 σ.2) :
  wg vo 92 #[vv (A ⟨P,0,Y⟩)] w fun e w'=>e=wj (xk #[I tF (kdM ts σ),tS (txM ts σ),I U (atM ts σ)])∧Gl w w':=
 pW h (f9 h.k)
theorem vW{w:J}(o:Obj)(l:List ByteArray):kO ((w.alloc o).alloc (r9 (l.map tS).toArray 9)) (w.heap.size+1) 0 l:=by
 have h:=bK (w:=w.alloc o) l;rw[o5]at h;exact h
theorem fc{kind:Nat}{tx:ByteArray}{pl:Int}{ks:List ac}(a:kind<256)(b:tx.size≤16384)(c:0≤pl)(d:pl≤16384):Fits (.mk kind tx 0 pl ks):=
 ⟨a,by show tx.size≤maxLen;unfold maxLen;omega,by show (-9223372036854775808:Int)≤0;omega,by show (0:Int)<9223372036854775808;omega,by show (-9223372036854775808:Int)≤pl;omega,by show pl<9223372036854775808;omega⟩
def fN(a:Nat) (T:ac) (W:J) (xs:List tT):Prop:=∃(d:Nat) (s:tT),xs=[s]∧OwnAt W d T.z s (bC a W.heap.size)∧Fits T
def gA(a:Nat) (T:ac) (W:J) (xs:List tT):Prop:=∃(d g N:Nat) (s:tT),xs=[I U g]∧W.heap[g]?=A (r9 (ai T s).toArray 145 (0,0))∧OwnAt W d T.z s (bC a N)∧Fits T∧a≤N∧N≤g
theorem fN.u{c Q:Nat}{T:ac}{W W':J}{xs:List tT}(h:fN c T W xs)(l:Q<c)(e:W.grownBy W' (A Q)):fN c T W' xs:=by
 obtain⟨d,s,f,g,i⟩:=h;exact⟨d,s,f,(g.t fun b o a j=>bu e j (by have:=a.1;omega)).D (fun b a=>⟨a.1,FG a.2 e.size⟩),i⟩
theorem gA.u{a Q:Nat}{T:ac}{W W':J}{xs:List tT}(h:gA a T W xs)(q:Q<a)(c:W.grownBy W' (A Q)):gA a T W' xs:=by
 obtain⟨d,g,N,s,e,f,i,j,l,m⟩:=h;exact⟨d,g,N,s,e,bu c f (by omega),i.t fun b o n p=>bu c p (by have:=n.1;omega),j,l,m⟩
theorem gA.own{e:Nat}{T:ac}{W:J}{xs:List tT}(h:gA e T W xs):∃(d g:Nat),xs=[I U g]∧OwnAt W (d+1) [T] (O (A ⟨g,0,Y⟩) 1 1) (bC e W.heap.size):=by
 obtain⟨d,g,N,s,o,n,p,q,t,v⟩:=h;have f:=(Fx.1 n).1;refine⟨d,g,o,Or.inr ⟨g,1,(ai T s).toArray,fun i b=>i=0∧bC e N b,by simp,⟨by omega,f⟩,Fy _,by unfold maxLen;omega,Z,n,Z,fun i x a=>?_,fun i b c=>⟨⟨c.2.1,by have:=c.2.2;omega⟩,by have:=c.2.2;omega⟩,fun i j b l hi r=>l (hi.1.trans r.1.symm)⟩⟩
 cases i with
 | zero =>
  simp at a;subst a;exact⟨q,s,fun m u hu=>by simpa using hu,p.D fun b c=>⟨Z,c⟩⟩
 | succ i=>simp at a
def vK(ts:List Tok) (f:Nat):Prop:=∀(lvl:Nat) (σ:PS) (w:J) (P L cap:Nat),lvl≤5→PAt w P L cap ts σ.1 σ.2→(ts.length-σ.1)*7+(6-lvl)≤f→
 wg vo 204 #[vv (A ⟨P,0,Y⟩),I U lvl] w (aR w P L cap ts (exM ts f lvl σ))
def t9(ts:List Tok) (f:Nat):Prop:=∀(σ:PS) (w:J) (P L cap:Nat),σ.2=false→PAt w P L cap ts σ.1 σ.2→(ts.length-σ.1)*7+1≤f→
 wg vo 218 #[vv (A ⟨P,0,Y⟩)] w (aR w P L cap ts (exM ts f 5 σ))
theorem sU{ts:List Tok}{f:Nat}(m:vK ts f)(σ:PS)(w:J)(P L cap:Nat)(h:PAt w P L cap ts σ.1 σ.2)(g:(ts.length-σ.1)*7+6≤f) :
  wg vo 176 #[vv (A ⟨P,0,Y⟩)] w (aR w P L cap ts (exM ts f 0 σ)):=by
 have b:Gl w (w.alloc (r9 #[I tF 0,tS ⟨#[]⟩,I U 0,I U 0,O Y 0 0] 145)):=(Fz _ w).alloc (Fy _) _;have q:=Hd (m 0 σ _ P L cap (by omega) (h.C b) g);have t:=Hd (h.h b);have n:=h.lt.1;have u:=Hd h.lt.2;have v:=Hd (oA w (r9 #[I tF 0,tS ⟨#[]⟩,I U 0,I U 0,O Y 0 0] 145));clear h b m g;generalize exM ts f 0 σ=r at *
 go_enter Tryz.func176,Tryz.ntmps176
 go_wp2_with fail
 refine FN q.o ?_;rintro e w1 ⟨d,s,rfl,i,j,g⟩;obtain⟨p,c,rfl⟩:=j.q;have a:=i.q v.o n (Fy _);have l:=Hd a;obtain⟨a0,a1,a2,a3,a4⟩:=cells5 a;have z0:=ab a 0;have B:=ab a 1;have z2:=ab a 2;have z3:=ab a 3;have z4:=ab a 4;obtain⟨x,y,z⟩:=zz3 (t.o.h i) j g;clear a i j g;go_wp2_with fail
 exact bh Tryz.results176 Z (aO l.o _ _ _ _ _) Z (aR.z n u.o x.o y.o z.o (Fy _) (by simp) _ _ _ _ _)
theorem Ei{ts:List Tok}(cn:cg ts){f:Nat}(h1:t9 ts f)(hE:vK ts f):t9 ts (f+1):=by
 intro σ w P L cap X h C;have bB:Gl w (w.alloc (r9 #[I tF 0,tS ⟨#[]⟩,I U 0,I U 0,O Y 0 0] 145)):=(Fz _ w).alloc (Fy _) _;obtain⟨HC,H0⟩:=zz2 (fQ (h.C bB)) (h.h bB);have K:=h.lt.1;obtain⟨HL,HX,HK,E,cp,cT,cq⟩:=zz7 h.lt.2 (oA w (r9 #[I tF 0,tS ⟨#[]⟩,I U 0,I U 0,O Y 0 0] 145)) h.k cn h1 hE C
 have t:exM ts (f+1) 5 σ=(if isM ts σ [a7,eS]=true then (.mk 16 (txM ts σ) 0 (atM ts σ) [(exM ts f 5 (ae ts σ)).1],(exM ts f 5 (ae ts σ)).2)
   else if isM ts σ [fl]=true then ((exM ts f 0 (ae ts σ)).1,aI ts (exM ts f 0 (ae ts σ)).2 gJ)
   else if kdM ts σ=5 then ofM ts σ 5 15
   else if kdM ts σ=3 then ofM ts σ 3 13
   else ofM ts σ 4 14):=by
  conv=>lhs;unfold exM
  rw[oB (by rw[X];decide),oE Z]
 obtain⟨R,bR⟩:=zzy (exM ts (f+1) 5 σ);rw[bR];rw[bR]at t;obtain⟨HR,er⟩:=zz2 t X;clear h bB cn h1 hE C bR t X;obtain⟨kd,b0⟩:=zzy (kdM ts σ);obtain⟨tx,b1⟩:=zzy (txM ts σ);obtain⟨at_,b2⟩:=zzy (atM ts σ);rw[b0,b1,b2]at HC HR;have ad:Hid (tx.size≤16384∧0≤at_∧at_≤16384):=by
  show _∧_
  obtain⟨_,g2,g3⟩:=cM E.o σ.1;rw[←b1,←b2];refine⟨g2,?_,?_⟩
  ·unfold atM;omega
  ·unfold atM;omega
 clear b1 b2;have b3:=Hd b0;clear b0
 go_enter Tryz.func218,Tryz.ntmps218
 go_wp2_with fail
 refine FN HC.o ?_;rintro e w1 ⟨rfl,b4⟩;have cV:=Hd (H0.o.t b4);have x0:=aa b4 HX.o (by simp);have cr:=Hd x0;have ct:w.heap.size<w1.heap.size:=(Fx.1 x0).1;clear b4 x0;have b5:=cV.o.D (r9 #[I tF kd,tS tx,I U at_] 192);obtain⟨e2,cW,c3,cu⟩:=zz4 b5 (oA w1 (r9 #[I tF kd,tS tx,I U at_] 192)) ((Gj w1 (r9 #[I tF kd,tS tx,I U at_] 192) _ (Fx.1 cr.o).1).trans cr.o) (b5.D (r9 #[tS a7,tS eS] 9));have HS:=Hd (dy cu.o.2 (w1.heap.size+1) 0 2 2 [a7,eS] (vW _ [a7,eS]) Z (by omega));have af:(w1.alloc (r9 #[I tF kd,tS tx,I U at_] 192)).heap.size=w1.heap.size+1:=o5 _ _;obtain⟨c5,c6⟩:=zz2 ((Gj (w1.alloc (r9 #[I tF kd,tS tx,I U at_] 192)) (r9 #[tS a7,tS eS] 9) w.heap.size (by rw[af];omega)).trans c3.o) ((Gj (w1.alloc (r9 #[I tF kd,tS tx,I U at_] 192)) (r9 #[tS a7,tS eS] 9) w1.heap.size (by rw[af];omega)).trans cW.o);clear b5 af;go_wp2_with fail
 refine FN HS.o ?_;rintro e y ⟨rfl,bm⟩;obtain⟨S,bn,b6⟩:=zz3 (cu.o.h bm) (bm.q c5.o K (Fy _)) (bm.q c6.o K (F8 ct));clear bm
 by_cases hm:isM ts σ [a7,eS]=true
 ·have t:=HR.o;rw[oE hm]at t;have z:aF ts σ [a7,eS]=ae ts σ:=by unfold aF;rw[oE hm]
  obtain⟨q1,q2,q3⟩:=eZ E.o HK.o hm;rw[z]at S;rw[hm];have N:=Hd (cp.o (ae ts σ) y.drew P L cap (by rw[(eH ts σ).2];exact q2) S.o.2.drew (by rw[q1];have:=cq.o;omega));have aq:R.1=.mk 16 tx 0 at_ [(exM ts f 5 (ae ts σ)).1]:=by rw[t]
  have ar:R.2=(exM ts f 5 (ae ts σ)).2:=by rw[t]
  generalize exM ts f 5 (ae ts σ)=r at *;generalize ae ts σ=e3 at *;obtain⟨b7,b8⟩:=zz2 aq ar;clear t HR z q1 q2 q3 hm aq ar b3;obtain⟨c0,c1,c2,_,_,_⟩:=cells3 b6.o;go_wp2_with fail
  have B:w1.heap.size≠P:=by omega
  have C0:=fun x:RE.Gr y P=>x.h c0 B
  have C1:=fun x:RE.Gr y P=>x.h c1 B
  have C2:=fun x:RE.Gr y P=>x.h c2 B
  have cv:P<y.heap.size:=S.o.2.lt.1;clear c0 c1 c2;refine RE.u (by kernel_rfl) 8 [5,6] [5,6] (fun s W=>if s=0 then W=y.drew else ah y P L cap ts r.2.1 r.2.2 W) (fun W W'=>W.grownBy W' (A P))
   (fun i xs=>if i=5 then xk #[I tF r.1.q,tS r.1.h,I U r.1.u,I U r.1.t,xs.getD 0 wF] else O (A ⟨RE.natOf xs,0,Y⟩) 1 1)
   (fun i W xs=>if i=5 then fN y.heap.size r.1 W xs else gA y.heap.size r.1 W xs) (by kernel_rfl) (fun i h1 h2=>by rw[h1]at h2;cases h2) ?_ Z ?_
  ·intro k W W' xs h _ hg
   split at h
   ·rw[oE (by assumption)];exact h.u cv hg
   ·rw[oB (by assumption)];exact h.u cv hg
  simp only[FO,FY,FQ,FX,F9,List.length_nil,Nat.reduceAdd];have F:∀(n s:Nat) (W:J),s≤n→(if s=0 then W=y.drew else ah y P L cap ts r.2.1 r.2.2 W)→∃x:RE.Gr y P,W=x.1:=fun n s W _ h=>by
   split at h
   ·exact⟨⟨W,by rw[h];exact grown_drewN (o3 y _) 1⟩,Z⟩
   ·exact⟨⟨W,h.1⟩,Z⟩
  have T:=Hd F;clear F
  repeat (refine RE.q (fun W=>∃x:RE.Gr y P,W=x.1) (T.o _) Z Z Z Z ?_;go_big_quiet_step (fail);refine xL ?_)
  refine RE.h Z Z ?_ (fun G=>?_)
  ·intro W _ M _;obtain rfl:W=y.drew:=M Z;refine RE.z 218 _ _ Z (enters_of Tryz.func218 (by kernel_rfl) Z) #[vv (A ⟨P,0,Y⟩)] (by simp[Act.eval]) (N.o.mono ?_);rintro e W' ⟨d,s,rfl,hT,q,C⟩;exact⟨_,Z,[s],Z,hT.u,hT.1,⟨d,s,Z,q,C⟩⟩
  simp only[Act.put,FA,FM,FK];refine RE.h Z Z ?_ (fun cy=>?_)
  ·intro W _ M c7;have hT:ah y P L cap ts r.2.1 r.2.2 W:=M Z;obtain⟨d,s,rfl,q,C⟩:fN y.heap.size r.1 W G:=c7 5 G (by kernel_rfl) Z;obtain⟨p,c,rfl⟩:=q.q;refine RE.Upon.told (v:=O (A ⟨W.heap.size,0,Y⟩) 1 1) (w':=W.alloc (r9 (ai r.1 (O p r.1.z.length c)).toArray 145)) ?_ ⟨[I U W.heap.size],Z,hT.D _,?_,?_⟩
   ·unfold RE.Upon
    go_simp
    rfl
   ·exact az ((Fz _ W).alloc (Fy _) _) _
   ·refine⟨d,W.heap.size,W.heap.size,_,Z,oA W _,?_,C,hT.1.size,Fy _⟩;exact q.C (fun b X=>X.2) ((Fz _ W).alloc (Fy _) _)
  simp only[Act.put,FA,FM,FK]
  repeat (refine RE.q (fun W=>∃x:RE.Gr y P,W=x.1) (T.o _) Z Z Z Z ?_;go_big_quiet_step (fail);refine xL ?_)
  refine RE.t ?_;intro W3 M hE;have b9:ah y P L cap ts r.2.1 r.2.2 W3:=M;obtain⟨d,g,rfl,q⟩:=(show gA y.heap.size r.1 W3 cy from hE 6 cy Z).own;obtain⟨HO,u⟩:=zz2 q (S.o.h b9);have j:=b9.q bn.o K (Fy _);have D:=Hd j;obtain⟨a0,a1,a2,a3,a4⟩:=cells5 j;have z0:=ab j 0;have z1:=ab j 1;have z2:=ab j 2;have z3:=ab j 3;have z4:=ab j 4;have c8:w.heap.size<y.heap.size:=(Fx.1 bn.o).1;obtain⟨RT,ca⟩:=R;obtain rfl:RT=_:=b7.o;obtain rfl:ca=_:=b8.o;clear C0 C1 C2 hE M q b9 j;go_wp2_with fail
  refine bh Tryz.results218 Z (aO D.o _ _ _ _ _) Z ?_;exact aR.z (r:=(.mk 16 tx 0 at_ [r.1],r.2)) K HL.o u.o HO.o (fc (by omega) ad.o.1 ad.o.2.1 ad.o.2.2) (Fy _) c8 _ _ _ _ _
 ·have t:=HR.o;rw[oB hm]at t;have bq:=Hd t;have z:aF ts σ [a7,eS]=σ:=by unfold aF;rw[oB hm]
  rw[z]at S;have a6:isM ts σ [a7,eS]=false:=by simpa using hm
  rw[a6];clear z hm a6 t HR;have cb:=S.o.D (r9 #[tS fl] 9);obtain⟨c9,dd,dg,dn⟩:=zz4 cb ((Gj y (r9 #[tS fl] 9) _ (Fx.1 bn.o).1).trans bn.o) ((Gj y (r9 #[tS fl] 9) _ (Fx.1 b6.o).1).trans b6.o) (dy cb.2 y.heap.size 0 1 1 [fl] (bK [fl]) Z (by omega));clear cb;go_wp2_with fail
  refine FN dn.o ?_;rintro e l ⟨rfl,bt⟩;obtain⟨u,H,cc⟩:=zz3 (c9.o.h bt) (bt.q dd.o K (Fy _)) (bt.q dg.o K (F8 ct));clear bt
  by_cases hm:isM ts σ [fl]=true
  ·have t:=bq.o;rw[oE hm]at t;have z:aF ts σ [fl]=ae ts σ:=by unfold aF;rw[oE hm]
   obtain⟨q1,q2,q3⟩:=eZ E.o HK.o hm;rw[z]at u;rw[hm];have N:=Hd (sU cT.o (ae ts σ) l P L cap u.o.2 (by rw[q1];have:=cq.o;omega));have aq:R.1=(exM ts f 0 (ae ts σ)).1:=by rw[t]
   have ar:R.2=aI ts (exM ts f 0 (ae ts σ)).2 gJ:=by rw[t]
   generalize exM ts f 0 (ae ts σ)=r at *;obtain⟨b7,b8⟩:=zz2 aq ar;clear t bq z q1 q2 q3 hm aq ar b3;go_wp2_with fail
   refine FN N.o ?_;rintro e w4 ⟨d,s,rfl,m,q,C⟩;obtain⟨p,c,rfl⟩:=q.q;obtain⟨cf,cA⟩:=zz2 (u.o.h m) (m.q H.o K (Fy _));have ch:=cf.o.D (r9 #[I tF r.1.q,tS r.1.h,I U r.1.u,I U r.1.t,O p r.1.z.length c] 145);obtain⟨ds,dt,dv,eg,HW,HF⟩:=zz6 ch (oA w4 (r9 #[I tF r.1.q,tS r.1.h,I U r.1.u,I U r.1.t,O p r.1.z.length c] 145)) ((Gj w4 (r9 #[I tF r.1.q,tS r.1.h,I U r.1.u,I U r.1.t,O p r.1.z.length c] 145) _ (Fx.1 cA.o).1).trans cA.o) (q.C (fun b X=>X.2) ((Fz _ w4).alloc (Fy _) (r9 #[I tF r.1.q,tS r.1.h,I U r.1.u,I U r.1.t,O p r.1.z.length c] 145))) (cN ch.2 gJ) C;have cC:w.heap.size<l.heap.size:=(Fx.1 H.o).1;have et:l.heap.size≤w4.heap.size:=m.1.size;clear ch m q C;go_wp2_with fail
   refine FN HW.o ?_;rintro e w5 ⟨rfl,V⟩;have ba:=Hd (ds.o.h V);have j:=V.q dv.o K (Fy _);have D:=Hd j;obtain⟨a0,a1,a2,a3,a4⟩:=cells5 j;have z0:=ab j 0;have z1:=ab j 1;have z2:=ab j 2;have z3:=ab j 3;have z4:=ab j 4;obtain⟨m0,m1,m2,m3,m4⟩:=cells5 (V.q dt.o K (by omega));have cR:OwnAt w5 d r.1.z (O p r.1.z.length c) (bC l.heap.size w5.heap.size):=
    (eg.o.t fun b o X q=>bu V.1 q (by have:=X.1;omega)).D fun b X=>⟨X.1,FG X.2 (by have:=V.1.size;rw[o5]at this;omega)⟩
   have en:=Hd cR;obtain⟨RT,ca⟩:=R;obtain rfl:RT=_:=b7.o;obtain rfl:ca=_:=b8.o;clear V j cR;go_wp2_with fail
   refine bh Tryz.results218 Z (aO D.o _ _ _ _ _) Z ?_;exact aR.z (r:=(r.1,aI ts r.2 gJ)) K HL.o ba.o en.o HF.o (Fy _) cC _ _ _ _ _
  have t:=bq.o;rw[oB hm]at t;have z:aF ts σ [fl]=σ:=by unfold aF;rw[oB hm]
  rw[z]at u;have a6:isM ts σ [fl]=false:=by simpa using hm
  rw[a6];clear z hm a6 bq b3
  by_cases ck:kd=5
  ·subst ck;rw[oE Z]at t;subst t;have m:=u.o;have bb:=Hd (jQ E.o (w:=l.drew) m.2.drew 5 15 (by omega));obtain⟨c0,_,_,_,_,_⟩:=cells3 cc.o;have B:w1.heap.size≠P:=by omega
   have C0:=fun x:RE.Gr l P=>x.h c0 B
   have cl:P<l.heap.size:=m.2.lt.1;have F:∀(n s:Nat) (W:J),s≤n→(if s=0 then W=l.drew else ah l P L cap ts (ofM ts σ 5 15).2.1 (ofM ts σ 5 15).2.2 W)→∃x:RE.Gr l P,W=x.1:=fun n s W _ h=>by
    split at h
    ·exact⟨⟨W,by rw[h];exact grown_drewN (o3 l _) 1⟩,Z⟩
    ·exact⟨⟨W,h.1⟩,Z⟩
   have T:=Hd F;have bd:=Hd (kT E.o σ 5 15 (by omega));have bk:(ofM ts σ 5 15).1.z=[]:=rfl;have eo:=Hd bk;generalize ofM ts σ 5 15=r at *;clear F m bk;go_wp2_with fail
   clear c0;refine RE.u (by kernel_rfl) 6 [5] [5] (fun s W=>if s=0 then W=l.drew else ah l P L cap ts r.2.1 r.2.2 W) (fun W W'=>W.grownBy W' (A P))
    (fun i xs=>xk #[I tF r.1.q,tS r.1.h,I U r.1.u,I U r.1.t,xs.getD 0 wF])
    (fun i W xs=>fN l.heap.size r.1 W xs) (by kernel_rfl) (fun i h1 h2=>by rw[h1]at h2;cases h2) (fun k W W' xs h _ hg=>h.u cl hg) Z ?_
   simp only[FO,FY,FQ,FX,F9,List.length_nil,Nat.reduceAdd]
   repeat (refine RE.q (fun W=>∃x:RE.Gr l P,W=x.1) (T.o _) Z Z Z Z ?_;go_big_quiet_step (fail);refine xL ?_)
   refine RE.h Z Z ?_ (fun G=>?_)
   ·intro W _ M _;obtain rfl:W=l.drew:=M Z;refine RE.z 143 _ _ Z (enters_of Tryz.func143 (by kernel_rfl) Z) #[vv (A ⟨P,0,Y⟩),I tF 5,I tF 15] (by simp[Act.eval]) (bb.o.mono ?_);rintro e W' ⟨d,s,rfl,hT,q,C⟩;exact⟨_,Z,[s],Z,hT.u,hT.1,⟨d,s,Z,q,C⟩⟩
   simp only[Act.put,FA,FM,FK];refine RE.t ?_;intro W4 M hE;have Q:ah l P L cap ts r.2.1 r.2.2 W4:=M;obtain⟨d,s,rfl,q,C⟩:=(show fN l.heap.size r.1 W4 G from hE 5 G Z);obtain⟨p,c,rfl⟩:=q.q;obtain⟨HO,ba⟩:=zz2 q (u.o.h Q);have j:=Q.q H.o K (Fy _);have D:=Hd j;obtain⟨a0,a1,a2,a3,a4⟩:=cells5 j;have z0:=ab j 0;have z1:=ab j 1;have z2:=ab j 2;have z3:=ab j 3;have z4:=ab j 4;have bl:w.heap.size<l.heap.size:=(Fx.1 H.o).1;clear C0 hE M q Q j C;go_wp2_with fail
   refine bh Tryz.results218 Z (aO D.o _ _ _ _ _) Z ?_;exact aR.z K HL.o ba.o HO.o bd.o (Fy _) bl _ _ _ _ _
  rw[oB ck]at t;have e0:((kd:Int)==5)=false:=by simp;omega
  by_cases cm:kd=3
  ·subst cm;rw[oE Z]at t;subst t;have m:=u.o;have bb:=Hd (jQ E.o (w:=l.drew) m.2.drew 3 13 (by omega));obtain⟨c0,_,_,_,_,_⟩:=cells3 cc.o;have B:w1.heap.size≠P:=by omega
   have C0:=fun x:RE.Gr l P=>x.h c0 B
   have cl:P<l.heap.size:=m.2.lt.1;have F:∀(n s:Nat) (W:J),s≤n→(if s=0 then W=l.drew else ah l P L cap ts (ofM ts σ 3 13).2.1 (ofM ts σ 3 13).2.2 W)→∃x:RE.Gr l P,W=x.1:=fun n s W _ h=>by
    split at h
    ·exact⟨⟨W,by rw[h];exact grown_drewN (o3 l _) 1⟩,Z⟩
    ·exact⟨⟨W,h.1⟩,Z⟩
   have T:=Hd F;have bd:=Hd (kT E.o σ 3 13 (by omega));have bk:(ofM ts σ 3 13).1.z=[]:=rfl;have eo:=Hd bk;generalize ofM ts σ 3 13=r at *;clear F m bk;go_wp2_with fail
   clear c0;refine RE.u (by kernel_rfl) 6 [5] [5] (fun s W=>if s=0 then W=l.drew else ah l P L cap ts r.2.1 r.2.2 W) (fun W W'=>W.grownBy W' (A P))
    (fun i xs=>xk #[I tF r.1.q,tS r.1.h,I U r.1.u,I U r.1.t,xs.getD 0 wF])
    (fun i W xs=>fN l.heap.size r.1 W xs) (by kernel_rfl) (fun i h1 h2=>by rw[h1]at h2;cases h2) (fun k W W' xs h _ hg=>h.u cl hg) Z ?_
   simp only[FO,FY,FQ,FX,F9,List.length_nil,Nat.reduceAdd]
   repeat (refine RE.q (fun W=>∃x:RE.Gr l P,W=x.1) (T.o _) Z Z Z Z ?_;go_big_quiet_step (fail);refine xL ?_)
   refine RE.h Z Z ?_ (fun G=>?_)
   ·intro W _ M _;obtain rfl:W=l.drew:=M Z;refine RE.z 143 _ _ Z (enters_of Tryz.func143 (by kernel_rfl) Z) #[vv (A ⟨P,0,Y⟩),I tF 3,I tF 13] (by simp[Act.eval]) (bb.o.mono ?_);rintro e W' ⟨d,s,rfl,hT,q,C⟩;exact⟨_,Z,[s],Z,hT.u,hT.1,⟨d,s,Z,q,C⟩⟩
   simp only[Act.put,FA,FM,FK];refine RE.t ?_;intro W4 M hE;have Q:ah l P L cap ts r.2.1 r.2.2 W4:=M;obtain⟨d,s,rfl,q,C⟩:=(show fN l.heap.size r.1 W4 G from hE 5 G Z);obtain⟨p,c,rfl⟩:=q.q;obtain⟨HO,ba⟩:=zz2 q (u.o.h Q);have j:=Q.q H.o K (Fy _);have D:=Hd j;obtain⟨a0,a1,a2,a3,a4⟩:=cells5 j;have z0:=ab j 0;have z1:=ab j 1;have z2:=ab j 2;have z3:=ab j 3;have z4:=ab j 4;have bl:w.heap.size<l.heap.size:=(Fx.1 H.o).1;clear C0 hE M q Q j C;go_wp2_with fail
   refine bh Tryz.results218 Z (aO D.o _ _ _ _ _) Z ?_;exact aR.z K HL.o ba.o HO.o bd.o (Fy _) bl _ _ _ _ _
  rw[oB cm]at t;have e1:((kd:Int)==3)=false:=by simp;omega
  subst t;have bb:=Hd (jQ E.o u.o.2 4 14 (by omega));obtain⟨c0,_,_,_,_,_⟩:=cells3 cc.o;generalize ofM ts σ 4 14=r at *;clear ck cm;go_wp2_with fail
  refine FN bb.o ?_;rintro e w4 ⟨d,s,rfl,m,q,C⟩;obtain⟨p,c,rfl⟩:=q.q;have cf:=Hd (u.o.h m);have j:=m.q H.o K (Fy _);have D:=Hd j;obtain⟨a0,a1,a2,a3,a4⟩:=cells5 j;have z0:=ab j 0;have z1:=ab j 1;have z2:=ab j 2;have z3:=ab j 3;have z4:=ab j 4;obtain⟨HO,HF⟩:=zz2 q C;have bl:w.heap.size<l.heap.size:=(Fx.1 H.o).1;clear m j q C c0;go_wp2_with fail
  refine bh Tryz.results218 Z (aO D.o _ _ _ _ _) Z ?_;exact aR.z K HL.o cf.o HO.o HF.o (Fy _) bl _ _ _ _ _
theorem xg{g:Nat}{t:zs}:∀(vs:List tT) (o:Nat) (w:J) (cs:Array tT),w.heap[g]?=A (r9 cs t (0,0))→o+vs.length≤cs.size→
  ∃a:Array tT,(w.setCells g o vs).heap[g]?=A (r9 a t (0,0))∧a.size=cs.size∧(∀i v,vs[i]?=A v→a[o+i]?=A v)∧∀k,k<o∨o+vs.length≤k→a[k]?=cs[k]?:=by
 intro vs
 induction vs with
 | nil=>intro o w cs h _;exact⟨cs,h,Z,fun i v b=>by simp at b,fun _ _=>rfl⟩
 | cons x r d =>
  intro o w cs h e;simp only[F9]at e;obtain⟨a,f,j,l,c⟩:=d (o+1) _ _ (heap_set h o x) (by simpa using (by omega));refine⟨a,f,by simpa using j,fun i v b=>?_,fun k m=>?_⟩
  ·cases i with
   | zero =>
    simp at b;subst b;rw[Nat.add_zero,c o (Or.inl (by omega)),Array.getElem?_setIfInBounds_self,oE (by omega)]
   | succ i =>
    have:=l i v (by simpa using b);rw[show o+1+i=o+(i+1) by omega]at this;exact this
  ·simp only[F9]at m;rw[c k (by omega),Array.getElem?_setIfInBounds_ne (by omega)]
theorem nz{B g:Nat}(a:B≤g){W:J}:∀(vs:List tT) (o:Nat) (w:J),Below B W w→Below B W (w.setCells g o vs):=by
 intro vs
 induction vs with
 | nil=>intro o w h;exact h
 | cons x r b=>intro o w h;exact b (o+1) _ (h.setCell (p:=⟨g,o,Y⟩) a x)
theorem og{g:Nat}{t:zs}{vs:List tT}{w:J}{cs:Array tT}(h:w.heap[g]?=A (r9 cs t (0,0)))(d:vs.length=cs.size):(w.setCells g 0 vs).heap[g]?=A (r9 vs.toArray t (0,0)):=by
 obtain⟨a,b,e,c,_⟩:=xg vs 0 w cs h (by omega);have:a=vs.toArray:=by
  apply Array.ext_getElem?;intro i
  by_cases hi:i<vs.length
  ·have:=c i vs[i] (by simp);rw[Nat.zero_add]at this;rw[this];simp
  ·rw[Gh (by omega)];simp;omega
 rw[b,this]
theorem pD{g:Nat}{t:zs}{w:J}{cs:Array tT}(h:w.heap[g]?=A (r9 cs t (0,0))){n:Nat}(a:n=cs.size):w.there g 0 n:=fun j b=>by
 refine⟨?_,by simp[World.frozen?,h]⟩;rw[Gk _ _ _ _ _ _ h,Array.getElem?_eq_getElem (by omega)];rfl
theorem wt{g:Nat}{t:zs}{w:J}{vs:List tT}(h:w.heap[g]?=A (r9 vs.toArray t (0,0))):w.rangeAt g 0 vs:=fun j v a=>by
 rw[Gk _ _ _ _ _ _ h,Nat.zero_add]
 simpa using a
def ki:List ByteArray:=iI 0++iI 1++iI 2++iI 3++iI 4
def gw:Array Value:=Array.replicate 30 (tS ⟨#[]⟩)
theorem vz:(ki.map tS).toArray.all (·.oneCell')=true:=by
 refine all_oneCell_toArray fun v a=>?_
 obtain⟨s,_,rfl⟩:=List.mem_map.1 a;rfl
theorem Ew{fn:Func}{R:Ending→J→Prop}{a:Act}{W:J}{slot T:Nat}{ty:zs}{u:tT}(c:fn.results=#[.cell slot ty])(d:a.tmps.getD slot wF=vv (A ⟨T,0,Y⟩))
  (e:(loadVar ty ⟨T,0,Y⟩).run vo W=.ok u W) (f:a.defers=[]) (g:R (wj u) W):bodyPost vo fn R .ret a W:=by
 have b:a.tmps[slot]?.getD wF=vv (A ⟨T,0,Y⟩):=by simpa using d
 refine bodyPost_ret (v:=u) ?_ f g;simp[results,c,b,asAddr,e]
theorem wZ(w:J):wg vo 217 #[] w fun e w'=>e=wj (xk (ki.map tS).toArray)∧Gl w w':=by
 go_enter Tryz.func217,Tryz.ntmps217
 go_upto_region 1 with fail
 iterate 19 (go_step)
 have d:=oA w (r9 gw 327);have g:=(Fz _ w).alloc (Fy _) (r9 gw 327);change wpList _ _ _ _ _ (w.alloc (r9 gw 327));generalize w.alloc (r9 gw 327)=w1 at *;refine wpList_store_mid Z 327 _ _ Z w.heap.size 0 (ki.map tS).toArray Z Z (pD d Z) (by kernel_rfl) vz ?_;have c:=og (vs:=ki.map tS) d Z;have f:=nz (Fy _) (ki.map tS) 0 w1 g;change wpList _ _ _ _ _ (w1.setCells w.heap.size 0 (ki.map tS));generalize w1.setCells w.heap.size 0 (ki.map tS)=h at *;clear d g w1;generalize a:(ki.map tS)=vs;rw[a]at c;have hlen:vs.length=30:=by rw[←a];rfl
 go_wp2_with fail
 have b:=run_loadVar_mid (P:=vo) h w.heap.size 0 327 vs (.array 5 326) (wt c) (by kernel_rfl) Z (by rw[hlen];kernel_rfl);exact Ew Tryz.results217 Z b Z ⟨by rw[a],f⟩
