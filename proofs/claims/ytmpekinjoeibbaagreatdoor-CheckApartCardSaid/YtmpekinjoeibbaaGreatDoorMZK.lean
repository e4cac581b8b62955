/- Parts of one proof, joined; conditions stand in each theorem. -/
import Derived.Test.YtmpekinjoeibbaaGreatDoorMX
import Derived.Test.YtmpekinjoeibbaaGreatDoorMD
import Derived.Test.YtmpekinjoeibbaaGreatDoorMDD
open Bool renaming true→r5
namespace Go.Proofs.YtmpekinjoeibbaaGreatDoor
open Go.RowKit
section
variable {ts us:List Tok} {o d m:Nat} {e:Bool}
end
theorem yc(ts:List Tok)(ex:PS→ah×PS)(lvl:Nat)(pl:Int)(g:Nat)(T:ah)(σ:PS) :
  gP ts ex lvl pl (g+1) T σ=if isM ts σ (iL lvl)=r5 then (if lvl=2 then (.mk 16 (txM ts σ) 0 pl [T,(ex (al ts σ)).1],(ex (al ts σ)).2) else gP ts ex lvl pl g (.mk 16 (txM ts σ) 0 pl [T,(ex (al ts σ)).1]) (ex (al ts σ)).2) else (T,σ):=rfl
theorem ve{ts:List Tok}:∀(f lvl:Nat) (σ:PS),σ.1<ts.length→(exM ts f lvl σ).2.1<ts.length:=by
 intro f;have i:∀σ:PS,σ.1<ts.length→(al ts σ).1<ts.length:=fun σ h=>jE h
 have hw:∀(σ:PS) (x:ByteArray),σ.1<ts.length→(aP ts σ x).1<ts.length:=fun σ x h=>by
  unfold aP ob jP;dsimp only;split
  ·exact jE h
  ·exact h
 have j:∀(σ:PS) (a b:Nat),σ.1<ts.length→(ofM ts σ a b).2.1<ts.length:=fun σ a b h=>jE h
 induction f with
 | zero=>intro lvl σ h;exact h
 | succ f c =>
  intro lvl σ h;unfold exM
  (repeat' split)
  ·exact h
  ·exact c _ _ (i _ h)
  ·exact hw _ _ (c _ _ (i _ h))
  ·exact j _ _ _ h
  ·exact j _ _ _ h
  ·exact j _ _ _ h
  ·have:∀(g:Nat) (T:ah) (σ:PS) (pl:Int),σ.1<ts.length→(gP ts (exM ts f (lvl+1)) lvl pl g T σ).2.1<ts.length:=by
    intro g
    induction g with
    | zero=>intro T σ pl h;exact h
    | succ g k =>
     intro T σ pl h;unfold gP
     split
     ·dsimp only
      split
      ·exact c _ _ (i _ h)
      ·exact k _ _ _ (c _ _ (i _ h))
     ·exact h
   exact this _ _ _ _ (c _ _ h)
theorem cK{ts:List Tok}{σ:PS}(h:σ.1<ts.length):(al ts σ).1<ts.length:=jE h
theorem dh{ts:List Tok}{σ:PS}(h:σ.1<ts.length)(x:ByteArray):(aP ts σ x).1<ts.length:=by
 unfold aP ob jP;dsimp only
 split
 ·exact jE h
 ·exact h
theorem eI{ts:List Tok}{σ:PS}(h:σ.1<ts.length)(a b:Nat):(ofM ts σ a b).2.1<ts.length:=jE h
theorem D5{ts:List Tok}{σ:PS}{x:ByteArray}(h:(aP ts σ x).2=false):σ.2=false:=by
 cases a:σ.2
 ·rfl
 ·rw[ef a]at h;cases h
theorem AH{ts:List Tok}(a:cz ts){σ:PS}(b:σ.1<ts.length){x:ByteArray}(h:(aP ts σ x).2=false):(aP ts σ x).1=σ.1+1:=by
 have f:=D5 h;have c:isM ts σ [x]=true:=by
  have:(!(!σ.2&&isT (cX ts σ.1) [x]))=false:=h;unfold isM
  simpa using this
 obtain⟨q1,_,_⟩:=fc a b c;rw[←q1]
 show jP ts σ.1 σ.2 (cX ts σ.1) [x]=_
 rw[←(jO ts σ [x]).1];unfold aN;rw[oA c]
theorem mB(ts:List Tok)(one:PS→ah×PS)(g:Nat)(a:List ah)(σ:PS) :
  eJ ts one (g+1) a σ=if isM ts σ [jp]=r5 then eJ ts one g (a++[(one (al ts σ)).1]) (one (al ts σ)).2 else (a,σ):=rfl
theorem nI(ts:List Tok)(one:PS→ah×PS)(stop:ByteArray)(g:Nat)(a:List ah)(σ:PS) :
  upTo ts one stop (g+1) a σ=if σ.2=r5 then (a,σ) else if isM ts σ [stop]=r5 then (a,σ) else upTo ts one stop g (a++[(one σ).1]) (one σ).2:=rfl
section
variable {ts us:List Tok} {o d m:Nat} {one one':PS→ah×PS}
theorem xZ(a:∀σ:PS,σ.1<ts.length→(one σ).2.1<ts.length):∀(g:Nat) (b:List ah) (σ:PS),σ.1<ts.length→(eJ ts one g b σ).2.1<ts.length:=by
 intro g
 induction g with
 | zero=>intro b σ h;exact h
 | succ g c =>
  intro b σ h;rw[mB]
  split
  ·exact c _ _ (a _ (cK h))
  ·exact h
theorem rB(a:∀σ:PS,σ.1<ts.length→(one σ).2.1<ts.length)(stop:ByteArray):∀(g:Nat) (b:List ah) (σ:PS),σ.1<ts.length→(upTo ts one stop g b σ).2.1<ts.length:=by
 intro g
 induction g with
 | zero=>intro b σ h;exact h
 | succ g c =>
  intro b σ h;rw[nI]
  split
  ·exact h
  ·split
   ·exact h
   ·exact c _ _ (a _ h)
theorem vy(stop:ByteArray){σ:PS}(h:σ.2=r5)(g:Nat)(a:List ah):upTo ts one stop g a σ=(a,σ):=by
 cases g with
 | zero=>rfl
 | succ g=>rw[nI,oA h]
theorem xJ(a:∀σ:PS,σ.1<ts.length→(one σ).2.1<ts.length){σ:PS}(b:σ.1<ts.length):(i6 ts one σ).2.1<ts.length:=xZ a _ _ _ (a _ b)
theorem lQ(b:∀σ:PS,σ.1<ts.length→(one σ).2.1<ts.length){σ:PS}(a:σ.1<ts.length):(cf ts one σ).2.1<ts.length:=by
 unfold cf
 split
 ·exact cK (dh a _)
 ·exact dh (xJ b (dh a _)) _
theorem qV{σ:PS}(h:σ.1<ts.length):(fU ts σ).2.1<ts.length:=by
 unfold fU
 split
 ·exact cK h
 ·exact h
theorem xt{σ:PS}(h:σ.1<ts.length):(eO ts σ).2.1<ts.length:=by
 have a:∀σ:PS,σ.1<ts.length→(eD ts σ).2.1<ts.length:=fun σ h=>ve _ _ _ h
 unfold eO
 (repeat' split)
 ·exact dh (lQ a (eI (cK h) _ _)) _
 ·exact dh (qV (cK h)) _
 ·exact dh (xJ a (cK h)) _
 ·exact dh (dh h _) _
theorem xx{σ:PS}(h:σ.1<ts.length):(gV ts σ).2.1<ts.length:=by
 unfold gV
 (repeat' split)
 ·exact qV (cK (cK h))
 ·exact qV (cK h)
 ·exact h
theorem Cy{σ:PS}(h:σ.2=r5):(gV ts σ).2.2=true:=by
 unfold gV;rw[ox (by rw[lE h];decide)];exact h
end
theorem Bf{ts:List Tok}{a:Int}{σ:PS}(h:σ.2=r5):(dJ ts a σ).2.2=true:=by
 unfold dJ;dsimp only;have b:(aP ts (gV ts (ofM ts σ 2 4).2).2 kg).2=true:=ef (Cy (nZ h 2 4)) _;rw[vy tTo b];dsimp only;rw[vy dk (ef b _)];exact ef (ef b _) _
theorem ry{ts:List Tok}{σ:PS}(h:σ.1<ts.length):(ei ts σ).2.1<ts.length:=by
 unfold ei
 (repeat' split)
 ·exact cK h
 ·exact eI (cK h) 4 14
 ·exact eI h _ _
 ·exact eI h _ _
 ·exact eI h _ _
theorem pf{ts:List Tok}{σ:PS}(h:σ.1<ts.length):(dB ts (ei ts) σ).2.1<ts.length:=by
 unfold dB
 (repeat' split)
 ·exact dh (ve _ _ _ (cK h)) _
 ·exact dh (lQ (fun _ h=>ry h) (eI (cK h) _ _)) _
 ·exact dh (lQ (fun _ h=>ry h) (eI h _ _)) _
theorem BZ{ts:List Tok}{a:Int}{σ:PS}(h:σ.1<ts.length):(dJ ts a σ).2.1<ts.length:=by
 unfold dJ;exact dh (rB (fun _ h=>xt h) _ _ _ _ (dh (rB (fun _ h=>pf h) _ _ _ _ (dh (xx (eI h 2 4)) _)) _)) _
theorem BM{ts:List Tok}{σ:PS}(h:σ.1<ts.length):(em ts (dJ ts) σ).2.1<ts.length:=by
 unfold em
 split
 ·exact dh (lQ (fun _ h=>eI h 2 3) (eI (cK h) _ _)) _
 ·exact BZ (dh h _)
theorem px{ts:List Tok}(a:cz ts){σ:PS}(b:σ.1<ts.length):(em ts (dJ ts) σ).2.2=r5∨σ.1<(em ts (dJ ts) σ).2.1:=by
 unfold em
 by_cases c:isM ts σ [iW]=r5
 ·rw[oA c]
  right
  obtain⟨q1,_,_⟩:=fc a b c;have f:=ed ts (al ts σ) 2 2;have g:=ic (ts:=ts) (fun σ=>ed ts σ 2 3) (ofM ts (al ts σ) 2 2).2;have h:=bD ts (cf ts (fun σ=>ofM ts σ 2 3) (ofM ts (al ts σ) 2 2).2).2 bX;dsimp only;omega
 ·rw[ox c]
  cases f:(aP ts σ nS).2 with
  | true=>exact Or.inl (Bf f)
  | false =>
   right
   have g:=AH a b f;have h:=pD ts (atM ts σ) (aP ts σ nS);omega
def ml(ts:List Tok):Nat→List ah→PS→List ah×PS
 | 0,a,σ=>(a,σ)
 | g+1,a,σ=>if σ.2=r5 then (a,σ) else if kdM ts σ=7 then (a,σ) else ml ts g (a++[(em ts (dJ ts) σ).1]) (em ts (dJ ts) σ).2
def kQ(ts:List Tok):List ah×PS:=ml ts (ts.length+1) [] (0,false)
theorem mf(ts:List Tok)(g:Nat)(a:List ah)(σ:PS):ml ts (g+1) a σ=if σ.2=r5 then (a,σ) else if kdM ts σ=7 then (a,σ) else ml ts g (a++[(em ts (dJ ts) σ).1]) (em ts (dJ ts) σ).2:=rfl
def dH:Nat→ah→Prop
 | 0,T=>T.h.size≤16390∧(0≤T.t∧T.t≤16384)
 | d+1,T=>T.h.size≤16390∧(0≤T.t∧T.t≤16384)∧T.u.length≤16390∧∀k∈T.u,dH d k
theorem dH.slim:∀{d:Nat} {T:ah},dH d T→jv d T:=by
 intro d
 induction d with
 | zero=>intro T h;exact (show T.h.size≤72007 by have:=h.1;omega)
 | succ d a=>intro T h;exact⟨by have:=h.1;omega,by have:=h.2.2.1;omega,fun k b=>a (h.2.2.2 k b)⟩
theorem ee{k:Nat}{t:ByteArray}{n p:Int}{l:List ah}(a:t.size≤16390)(b:0≤p∧p≤16384)(c:l.length≤16390)(h:∀x∈l,∀d,dH d x):∀d,dH d (.mk k t n p l):=by
 intro d
 cases d with
 | zero=>exact⟨a,b⟩
 | succ d=>exact⟨a,b,c,fun x f=>h x f d⟩
section
variable {ts:List Tok}
theorem fF(a:cz ts)(σ:PS):0≤atM ts σ∧atM ts σ≤16384:=by
 have:=(cQ a σ.1).2.2;unfold atM;omega
theorem pj(a:cz ts)(σ:PS):(txM ts σ).size≤16384:=(cQ a σ.1).2.1
theorem iZ(c:cz ts)(σ:PS)(a b:Nat):∀d,dH d (ofM ts σ a b).1:=ee (by have:=(cQ c σ.1).2.1;omega) (fF c σ) (by simp) (fun x f=>by cases f)
theorem np:∀d,dH d fB:=ee (show (0:Nat)≤16390 by omega) (by omega) (by simp) (fun x a=>by cases a)
theorem yw(b:cz ts){ex:PS→ah×PS}(hex:∀σ,∀d,dH d (ex σ).1)(lvl:Nat)(pl:Int)(c:0≤pl∧pl≤16384):∀(g:Nat) (T:ah) (σ:PS),(∀d,dH d T)→∀d,dH d (gP ts ex lvl pl g T σ).1:=by
 intro g
 induction g with
 | zero=>intro T σ h;exact h
 | succ g i =>
  intro T σ h;rw[yc]
  have f:∀d,dH d (.mk 16 (txM ts σ) 0 pl [T,(ex (al ts σ)).1]):=ee (by have:=pj b σ;omega) c (by simp) (fun x a=>by
   rcases FK.1 a with rfl|a
   ·exact h
   ·rw[List.mem_singleton]at a;subst a;exact hex _)
  split
  ·split
   ·exact f
   ·exact i _ _ f
  ·exact h
theorem oV(a:cz ts):∀(f lvl:Nat) (σ:PS),∀d,dH d (exM ts f lvl σ).1:=by
 intro f
 induction f with
 | zero=>intro lvl σ;exact np
 | succ f b =>
  intro lvl σ;unfold exM
  (repeat' split)
  ·exact np
  ·exact ee (by have:=pj a σ;omega) (fF a σ) (by simp) (fun x c=>by rw[List.mem_singleton]at c;subst c;exact b _ _)
  ·exact b _ _
  ·exact iZ a _ _ _
  ·exact iZ a _ _ _
  ·exact iZ a _ _ _
  ·exact yw a (fun σ=>b _ σ) _ _ (fF a σ) _ _ _ (b _ _)
def iE(l:List ah):Prop:=l.length≤16390∧∀x∈l,∀d,dH d x
theorem nJ{b:List ah}{t:ah}(h:∀x∈b,∀d,dH d x)(c:∀d,dH d t):∀x∈b++[t],∀d,dH d x:=fun x a=>by
 rcases List.mem_append.1 a with a|a
 ·exact h x a
 ·rw[List.mem_singleton]at a;subst a;exact c
theorem tW(f:cz ts)(p:ts.length≤16385){one:PS→ah×PS}(b:∀σ,∀d,dH d (one σ).1)(i:∀σ,σ.1≤(one σ).2.1)(j:∀σ:PS,σ.1<ts.length→(one σ).2.1<ts.length) :
  ∀(g:Nat) (a:List ah) (σ:PS),σ.1<ts.length→a.length≤σ.1+1→(∀x∈a,∀d,dH d x)→iE (eJ ts one g a σ).1:=by
 intro g
 induction g with
 | zero=>intro a σ c l h;exact⟨by show a.length≤_;omega,h⟩
 | succ g n =>
  intro a σ c l h;rw[mB]
  by_cases k:isM ts σ [jp]=r5
  ·rw[oA k];obtain⟨q1,q,r⟩:=fc f c k;have s:=i (al ts σ);exact n _ _ (j _ (by omega)) (by rw[Fl,FP];omega) (nJ h (b _))
  ·rw[ox k];exact⟨by show a.length≤_;omega,h⟩
theorem sq(c:cz ts)(i:ts.length≤16385){one:PS→ah×PS}(a:∀σ,∀d,dH d (one σ).1)(f:∀σ,σ.1≤(one σ).2.1)(b:∀σ:PS,σ.1<ts.length→(one σ).2.1<ts.length){σ:PS}(g:σ.1<ts.length):iE (i6 ts one σ).1:=
 tW c i a f b _ _ _ (b _ g) (by simp) (fun x h=>by rw[List.mem_singleton]at h;subst h;exact a _)
theorem lP(b:cz ts)(h:ts.length≤16385){one:PS→ah×PS}(a:∀σ,∀d,dH d (one σ).1)(c:∀σ,σ.1≤(one σ).2.1)(f:∀σ:PS,σ.1<ts.length→(one σ).2.1<ts.length){σ:PS}(g:σ.1<ts.length):iE (cf ts one σ).1:=by
 unfold cf
 split
 ·exact⟨by simp,fun x i=>by cases i⟩
 ·exact sq b h a c f (dh g _)
theorem sy(q:ts.length≤16385){one:PS→ah×PS}(f:∀σ:PS,σ.1<ts.length→∀d,dH d (one σ).1)(i:∀σ,σ.1≤(one σ).2.1)(j:∀σ:PS,σ.1<ts.length→(one σ).2.1<ts.length)(k:∀σ:PS,σ.1<ts.length→(one σ).2.2=r5∨σ.1<(one σ).2.1)(stop:ByteArray) :
  ∀(g:Nat) (a:List ah) (σ:PS),σ.1<ts.length→a.length≤σ.1+(if σ.2=r5 then 1 else 0)→(∀x∈a,∀d,dH d x)→iE (upTo ts one stop g a σ).1∧(upTo ts one stop g a σ).1.length≤(upTo ts one stop g a σ).2.1+(if (upTo ts one stop g a σ).2.2=r5 then 1 else 0):=by
 intro g
 induction g with
 | zero =>
  intro a σ b c h;refine⟨⟨?_,h⟩,c⟩
  show a.length≤_
  split at c<;>omega
 | succ g p =>
  intro a σ b c h;have done:iE a:=⟨by split at c<;>omega,h⟩
  rw[nI]
  by_cases l:σ.2=r5
  ·rw[oA l];exact⟨done,c⟩
  ·rw[ox l]
   by_cases n:isM ts σ [stop]=r5
   ·rw[oA n];exact⟨done,c⟩
   ·rw[ox n];rw[ox l]at c;have r:=i σ;refine p _ _ (j _ b) ?_ (nJ h (f _ b));rw[Fl,FP];rcases k σ b with h|h
    ·rw[oA h];omega
    ·split<;>omega
theorem BD(a:cz ts)(σ:PS):∀d,dH d (ei ts σ).1:=by
 unfold ei
 (repeat' split)
 ·exact ee (show (0:Nat)≤16390 by omega) (fF a σ) (by simp) (fun x b=>by cases b)
 ·refine ee ?_ (fF a σ) (by simp) (fun x b=>by cases b);have c:=pj a (al ts σ);have f:(bg++txM ts (al ts σ)).size=1+(txM ts (al ts σ)).size:=by rw[ByteArray.size_append];rfl
  omega
 ·exact iZ a _ _ _
 ·exact iZ a _ _ _
 ·exact iZ a _ _ _
theorem kC(c:cz ts)(σ:PS)(a b:Nat):(ofM ts σ a b).1.h.size≤16390:=by
 have:=(cQ c σ.1).2.1
 show (cX ts σ.1).2.1.size≤_
 omega
theorem yS(a:cz ts)(i:ts.length≤16385){σ:PS}(b:σ.1<ts.length):∀d,dH d (dB ts (ei ts) σ).1:=by
 have c:∀{f:PS},f.1<ts.length→iE (cf ts (ei ts) f).1:=fun h=>lP a i (BD a) (jd ts) (fun _ h=>ry h) h
 unfold dB
 (repeat' split)
 ·exact ee (show (0:Nat)≤16390 by omega) (fF a σ) (by simp) (fun x g=>by rw[List.mem_singleton]at g;subst g;exact oV a _ _ _)
 ·exact ee (kC a _ _ _) (fF a σ) (c (eI (cK b) 2 6)).1 (c (eI (cK b) 2 6)).2
 ·exact ee (kC a _ _ _) (fF a σ) (c (eI b 2 5)).1 (c (eI b 2 5)).2
theorem An(a:cz ts)(g:ts.length≤16385){σ:PS}(b:σ.1<ts.length):∀d,dH d (eO ts σ).1:=by
 have c:∀σ:PS,σ.1<ts.length→(eD ts σ).2.1<ts.length:=fun σ h=>ve _ _ _ h
 have i:∀{f:PS},f.1<ts.length→iE (cf ts (eD ts) f).1:=fun h=>lP a g (fun σ=>oV a _ _ σ) (fN ts) c h
 have j:∀{f:PS},f.1<ts.length→iE (i6 ts (eD ts) f).1:=fun h=>sq a g (fun σ=>oV a _ _ σ) (fN ts) c h
 unfold eO
 (repeat' split)
 ·exact ee (kC a _ _ _) (fF a σ) (i (eI (cK b) 2 8)).1 (i (eI (cK b) 2 8)).2
 ·exact ee (show (0:Nat)≤16390 by omega) (fF a σ) (by simp) (fun x c=>by cases c)
 ·exact ee (show (0:Nat)≤16390 by omega) (fF a σ) (j (cK b)).1 (j (cK b)).2
 ·exact ee (show (0:Nat)≤16390 by omega) (fF a σ) (by simp) (fun x c=>by cases c)
theorem yV(b:cz ts)(c:ts.length≤16385)(a:Int)(j:0≤a∧a≤16384){σ:PS}(f:σ.1<ts.length):∀d,dH d (dJ ts a σ).1:=by
 unfold dJ;dsimp only;have g:=dh (xx (eI f (ts:=ts) 2 4)) kg;obtain⟨c1,c2⟩:=sy c (fun σ h=>yS b c h) (pd (jd ts)) (fun _ h=>pf h) (fun σ h=>pK b (jd ts) (fun _ h=>oZ h) h) tTo (ts.length+1) [] _ g (Fi _) (fun x k=>by cases k);have l:=rB (fun _ h=>pf h) tTo (ts.length+1) [] _ g;generalize upTo ts (dB ts (ei ts)) tTo (ts.length+1) [] (aP ts (gV ts (ofM ts σ 2 4).2).2 kg)=cs at *;have hw:=bD ts cs.2 tTo
 obtain⟨i,_⟩:=sy c (fun σ h=>An b c h) (qU ts) (fun _ h=>xt h) (fun σ h=>qT b h) dk (ts.length+1) cs.1 _ (dh l tTo) (by
  by_cases h:cs.2.2=r5
  ·rw[oA h]at c2;rw[oA (ef h _)];omega
  ·rw[ox h]at c2;omega) c1.2
 exact ee (kC b _ _ _) j i.1 i.2
theorem yj(a:cz ts)(c:ts.length≤16385){σ:PS}(b:σ.1<ts.length):∀d,dH d (em ts (dJ ts) σ).1:=by
 have f:∀{g:PS},g.1<ts.length→iE (cf ts (fun σ=>ofM ts σ 2 3) g).1:=fun h=>lP a c (fun σ=>iZ a σ 2 3) (fun σ=>ed ts σ 2 3) (fun _ h=>eI h 2 3) h
 unfold em
 split
 ·exact ee (kC a _ _ _) (fF a σ) (f (eI (cK b) 2 2)).1 (f (eI (cK b) 2 2)).2
 ·exact yV a c _ (fF a σ) (dh b _)
theorem yu(c:cz ts)(j:ts.length≤16385):∀(g:Nat) (b:List ah) (σ:PS),σ.1<ts.length→b.length≤σ.1+(if σ.2=r5 then 1 else 0)→(∀x∈b,∀d,dH d x)→iE (ml ts g b σ).1:=by
 intro g
 induction g with
 | zero =>
  intro b σ a f h;refine⟨?_,h⟩
  show b.length≤_
  split at f<;>omega
 | succ g k =>
  intro b σ a f h;have done:iE b:=⟨by split at f<;>omega,h⟩
  rw[mf]
  by_cases i:σ.2=r5
  ·rw[oA i];exact done
  ·rw[ox i]
   split
   ·exact done
   ·rw[ox i]at f;have l:=uh (ts:=ts) (pD ts) σ;refine k _ _ (BM a) ?_ (nJ h (yj c j a));rw[Fl,FP];rcases px c a with h|h
    ·rw[oA h];omega
    ·split<;>omega
theorem yW(a:cz ts)(b:ts.length≤16385)(c:0<ts.length):iE (kQ ts).1:=yu a b _ _ _ c (Fi _) (fun x f=>by cases f)
end
def qB(kd:Nat):Nat:=if kd==3||kd==5 then 1 else 0
theorem BB(x y:ByteArray)(h:x.data.toList=y.data.toList):x=y:=by
 obtain⟨⟨x⟩⟩:=x;obtain⟨⟨y⟩⟩:=y
 simpa using h
theorem un(s:ByteArray)(k:Nat)(q:k<s.size)(b:(an s k s[k]).2.2.1=0) :
  (an s k s[k]).2.2.2=k+qB (an s k s[k]).1+(an s k s[k]).2.1.size∧
  s.extract (k+qB (an s k s[k]).1) (an s k s[k]).2.2.2=(an s k s[k]).2.1∧(an s k s[k]).1<7:=by
 unfold an at b ⊢
 by_cases c:isLow s[k]=r5
 ·rw[oA c];have f:=fa aZ s k;have a:=dl aZ s k (by omega);have e:∀x:Bool,qB (if x=r5 then 1 else 2)=0∧(if x=r5 then 1 else 2)<7:=by intro x;cases x<;>decide
  dsimp only;rw[(e _).1,ext_size s _ _ a];exact⟨by omega,Z,(e _).2⟩
 ·rw[ox c]at b ⊢
  by_cases h:(s[k]==63||s[k]==39)=r5
  ·rw[oA h];have f:=fa aZ s (k+1);have a:=dl aZ s (k+1) (by omega);have e:∀x:Bool,qB (if x=r5 then 5 else 3)=1∧(if x=r5 then 5 else 3)<7:=by intro x;cases x<;>decide
   dsimp only;rw[(e _).1,ext_size s _ _ a];exact⟨by omega,Z,(e _).2⟩
  ·rw[ox h]at b ⊢
   by_cases i:bQ s[k]=r5
   ·rw[oA i];have f:=fa bQ s k;have a:=dl bQ s k (by omega);have e:qB 4=0:=rfl;dsimp only;rw[e,ext_size s _ _ a];exact⟨by omega,Z,by omega⟩
   ·rw[ox i]at b ⊢
    cases j:eG.find? (fun g=>Lib.hasPrefix (s.data.toList.drop k) g.data.toList) with
    | none=>rw[j]at b;simp at b
    | some g =>
     have l:iS s k g=true:=List.find?_some j;have a:=nz s k g (by omega) l;have n:=yo s k g a;rw[l]at n;refine⟨Z,BB _ _ ?_,(by show 6<7;omega)⟩;have p:(s.extract k (k+g.size)).toList=g.toList:=by simpa using n
     rw[Fj,Fj]at p;exact p
theorem BR(s:ByteArray):∀(f k er pl:Nat),(toks f s k).2=some (er,pl)→er≠0∧pl<s.size:=by
 intro f
 induction f with
 | zero=>intro k er pl h;cases h
 | succ f a =>
  intro k er pl h;unfold toks at h
  split at h
  ·rename_i b
   split at h
   ·exact a _ _ _ h
   ·rename_i c
    simp only[oF,o6]at h;obtain⟨rfl,rfl⟩:=h;exact⟨c,b⟩
  ·cases h
theorem vF(s:ByteArray):∀(n p:Nat),s.size-p≤n→∀t∈(aG s p).1,p≤t.2.2:=by
 intro n
 induction n with
 | zero =>
  intro p h t a;rw[dE s p (by rw[eM s p (by omega)];omega)]at a
  cases a
 | succ n g =>
  intro p h t a;have c:=kl s _ p (ET _)
  by_cases b:skip s p<s.size
  ·by_cases f:(an s (skip s p) s[skip s p]).2.2.1=0
   ·obtain⟨i,n2⟩:=fj s (skip s p) b f;rw[eZ s p b f]at a;rcases FK.1 a with rfl|a
    ·exact c
    ·have:=g _ (by omega) t a;omega
   ·rw[fi s p b f]at a;cases a
  ·rw[dE s p b]at a;cases a
def fC(s:ByteArray):List Tok:=(aG s 0).1++[(7,⟨#[]⟩,s.size)]
theorem wv(s:ByteArray):∀(n p:Nat),s.size-p≤n→((aG s p).1).Pairwise (fun a b=>a.2.2<b.2.2)∧∀t∈(aG s p).1,t.2.2<s.size:=by
 intro n
 induction n with
 | zero =>
  intro p h;rw[dE s p (by rw[eM s p (by omega)];omega)];exact⟨List.Pairwise.nil,fun t c=>by cases c⟩
 | succ n i =>
  intro p h;have j:=kl s _ p (ET _)
  by_cases f:skip s p<s.size
  ·by_cases g:(an s (skip s p) s[skip s p]).2.2.1=0
   ·obtain⟨k,n2⟩:=fj s (skip s p) f g;rw[eZ s p f g];obtain⟨i1,i2⟩:=i (an s (skip s p) s[skip s p]).2.2.2 (by omega);refine⟨List.Pairwise.cons (fun t c=>?_) i1,fun t c=>?_⟩
    ·have:=vF s _ _ (ET _) t c
     show skip s p<t.2.2
     omega
    ·rcases FK.1 c with rfl|c
     ·exact f
     ·exact i2 t c
   ·rw[fi s p f g];exact⟨List.Pairwise.nil,fun t c=>by cases c⟩
  ·rw[dE s p f];exact⟨List.Pairwise.nil,fun t c=>by cases c⟩
theorem wX(s:ByteArray):∀(n p:Nat),s.size-p≤n→p≤s.size→∀t∈(aG s p).1,t.1<7∧t.2.1.size≤s.size:=by
 intro n
 induction n with
 | zero =>
  intro p h f t a;rw[dE s p (by rw[eM s p (by omega)];omega)]at a
  cases a
 | succ n g =>
  intro p h f t a;have i:=kl s _ p (ET _)
  by_cases b:skip s p<s.size
  ·by_cases c:(an s (skip s p) s[skip s p]).2.2.1=0
   ·obtain⟨k,n2⟩:=fj s (skip s p) b c;obtain⟨s1,s2,j⟩:=un s (skip s p) b c;rw[eZ s p b c]at a;rcases FK.1 a with rfl|a
    ·refine⟨j,?_⟩;dsimp only;omega
    ·exact g _ (by omega) n2 t a
   ·rw[fi s p b c]at a;cases a
  ·rw[dE s p b]at a;cases a
theorem mz(s:ByteArray):(fC s).length=(aG s 0).1.length+1:=by unfold fC;simp
theorem CO(s:ByteArray)(h:s.size≤16384):cz (fC s):=by
 have i:=wX s _ 0 (ET _) (Fi _);obtain⟨_,j⟩:=wv s _ 0 (ET _);refine⟨fun t c=>?_,fun k t f l=>?_⟩
 ·unfold fC at c;rcases List.mem_append.1 c with c|c
  ·obtain⟨a,b⟩:=i t c;have:=j t c;exact⟨by omega,by omega,by omega⟩
  ·rw[List.mem_singleton]at c;subst c;exact⟨by show 7<256;omega,by show (0:Nat)≤16384;omega,h⟩
 ·rw[mz]at l;unfold fC at f;have g:k<((aG s 0).1++[(7,(⟨#[]⟩:ByteArray),s.size)]).length:=(Fo.1 f).1;rw[Fl,FP]at g;obtain rfl:k=(aG s 0).1.length:=by omega
  rw[FA (ET _),Nat.sub_self]at f;have:(7,(⟨#[]⟩:ByteArray),s.size)=t:=by simpa using f
  rw[←this]
