/- Parts of one proof, joined; conditions stand in each theorem. -/
import Derived.Test.YtoonjedifockoaaGreatDoorMX
import Derived.Test.YtoonjedifockoaaGreatDoorMD
import Derived.Test.YtoonjedifockoaaGreatDoorMDD
import Derived.Test.YtoonjedifockoaaGreatDoorMXN
import Derived.Test.YtoonjedifockoaaGreatDoorMJ
import Derived.RegionTactic
namespace Go.Proofs.YtoonjedifockoaaGreatDoor
open Go.IntKind(i64)
open Go.Value(int string slice)
set_option maxHeartbeats 4000000
set_option maxRecDepth 100000
open Go.RowKit
section
variable {ts us:List Tok} {o d m:Nat} {e:Bool}
end
theorem xx(ts:List Tok)(ex:PS→ac×PS)(lvl:Nat)(pl:Int)(g:Nat)(T:ac)(σ:PS) :
  gi ts ex lvl pl (g+1) T σ=if isM ts σ (gX lvl)=true then (if lvl=2 then (.mk 16 (txM ts σ) 0 pl [T,(ex (ah ts σ)).1],(ex (ah ts σ)).2) else gi ts ex lvl pl g (.mk 16 (txM ts σ) 0 pl [T,(ex (ah ts σ)).1]) (ex (ah ts σ)).2) else (T,σ):=rfl
theorem uz{ts:List Tok}:∀(f lvl:Nat) (σ:PS),σ.1<ts.length→(exM ts f lvl σ).2.1<ts.length:=by
 intro f;have i:∀σ:PS,σ.1<ts.length→(ah ts σ).1<ts.length:=fun σ h=>i6 h
 have hw:∀(σ:PS) (x:ByteArray),σ.1<ts.length→(aO ts σ x).1<ts.length:=fun σ x h=>by
  unfold aO nG jl;dsimp only;split
  ·exact i6 h
  ·exact h
 have j:∀(σ:PS) (a b:Nat),σ.1<ts.length→(ofM ts σ a b).2.1<ts.length:=fun σ a b h=>i6 h
 induction f with
 | zero=>intro lvl σ h;exact h
 | succ f c =>
  intro lvl σ h;unfold exM
  (repeat' split)
  ·exact h
  ·exact c _ _ (i _ h)
  ·exact hw _ _ (c _ _ (i _ h))
  ·exact j _ _ _ h
  ·exact j _ _ _ h
  ·exact j _ _ _ h
  ·have:∀(g:Nat) (T:ac) (σ:PS) (pl:Int),σ.1<ts.length→(gi ts (exM ts f (lvl+1)) lvl pl g T σ).2.1<ts.length:=by
    intro g
    induction g with
    | zero=>intro T σ pl h;exact h
    | succ g k =>
     intro T σ pl h;unfold gi
     split
     ·dsimp only
      split
      ·exact c _ _ (i _ h)
      ·exact k _ _ _ (c _ _ (i _ h))
     ·exact h
   exact this _ _ _ _ (c _ _ h)
theorem cy{ts:List Tok}{σ:PS}(h:σ.1<ts.length):(ah ts σ).1<ts.length:=i6 h
theorem cM{ts:List Tok}{σ:PS}(h:σ.1<ts.length)(x:ByteArray):(aO ts σ x).1<ts.length:=by
 unfold aO nG jl;dsimp only
 split
 ·exact i6 h
 ·exact h
theorem ej{ts:List Tok}{σ:PS}(h:σ.1<ts.length)(a b:Nat):(ofM ts σ a b).2.1<ts.length:=i6 h
theorem Dz{ts:List Tok}{σ:PS}{x:ByteArray}(h:(aO ts σ x).2=false):σ.2=false:=by
 cases a:σ.2
 ·rfl
 ·rw[dP a]at h;cases h
theorem As{ts:List Tok}(a:co ts){σ:PS}(b:σ.1<ts.length){x:ByteArray}(h:(aO ts σ x).2=false):(aO ts σ x).1=σ.1+1:=by
 have g:=Dz h;have c:isM ts σ [x]=true:=by
  have:(!(!σ.2&&isT (cH ts σ.1) [x]))=false:=h;unfold isM
  simpa using this
 obtain⟨f,_,_⟩:=eI a b c;rw[←f]
 show jl ts σ.1 σ.2 (cH ts σ.1) [x]=_
 rw[←(jk ts σ [x]).1];unfold aK;rw[n9 c]
theorem mf(ts:List Tok)(one:PS→ac×PS)(g:Nat)(a:List ac)(σ:PS) :
  em ts one (g+1) a σ=if isM ts σ [iL]=true then em ts one g (a++[(one (ah ts σ)).1]) (one (ah ts σ)).2 else (a,σ):=rfl
theorem nh(ts:List Tok)(one:PS→ac×PS)(stop:ByteArray)(g:Nat)(a:List ac)(σ:PS) :
  upTo ts one stop (g+1) a σ=if σ.2=true then (a,σ) else if isM ts σ [stop]=true then (a,σ) else upTo ts one stop g (a++[(one σ).1]) (one σ).2:=rfl
section
variable {ts us:List Tok} {o d m:Nat} {one one':PS→ac×PS}
theorem xw(a:∀σ:PS,σ.1<ts.length→(one σ).2.1<ts.length):∀(g:Nat) (b:List ac) (σ:PS),σ.1<ts.length→(em ts one g b σ).2.1<ts.length:=by
 intro g
 induction g with
 | zero=>intro b σ h;exact h
 | succ g c =>
  intro b σ h;rw[mf]
  split
  ·exact c _ _ (a _ (cy h))
  ·exact h
theorem qU(a:∀σ:PS,σ.1<ts.length→(one σ).2.1<ts.length)(stop:ByteArray):∀(g:Nat) (b:List ac) (σ:PS),σ.1<ts.length→(upTo ts one stop g b σ).2.1<ts.length:=by
 intro g
 induction g with
 | zero=>intro b σ h;exact h
 | succ g c =>
  intro b σ h;rw[nh]
  split
  ·exact h
  ·split
   ·exact h
   ·exact c _ _ (a _ h)
theorem uN(stop:ByteArray){σ:PS}(h:σ.2=true)(g:Nat)(a:List ac):upTo ts one stop g a σ=(a,σ):=by
 cases g with
 | zero=>rfl
 | succ g=>rw[nh,n9 h]
theorem xg(a:∀σ:PS,σ.1<ts.length→(one σ).2.1<ts.length){σ:PS}(b:σ.1<ts.length):(ip ts one σ).2.1<ts.length:=xw a _ _ _ (a _ b)
theorem ly(b:∀σ:PS,σ.1<ts.length→(one σ).2.1<ts.length){σ:PS}(a:σ.1<ts.length):(cb ts one σ).2.1<ts.length:=by
 unfold cb
 split
 ·exact cy (cM a _)
 ·exact cM (xg b (cM a _)) _
theorem qC{σ:PS}(h:σ.1<ts.length):(fq ts σ).2.1<ts.length:=by
 unfold fq
 split
 ·exact cy h
 ·exact h
theorem wS{σ:PS}(h:σ.1<ts.length):(ew ts σ).2.1<ts.length:=by
 have a:∀σ:PS,σ.1<ts.length→(ed ts σ).2.1<ts.length:=fun σ h=>uz _ _ _ h
 unfold ew
 (repeat' split)
 ·exact cM (ly a (ej (cy h) _ _)) _
 ·exact cM (qC (cy h)) _
 ·exact cM (xg a (cy h)) _
 ·exact cM (cM h _) _
theorem wV{σ:PS}(h:σ.1<ts.length):(gk ts σ).2.1<ts.length:=by
 unfold gk
 (repeat' split)
 ·exact qC (cy (cy h))
 ·exact qC (cy h)
 ·exact h
theorem Cc{σ:PS}(h:σ.2=true):(gk ts σ).2.2=true:=by
 unfold gk;rw[n8 (by rw[li h];decide)];exact h
end
theorem AW{ts:List Tok}{a:Int}{σ:PS}(h:σ.2=true):(dx ts a σ).2.2=true:=by
 unfold dx;dsimp only;have b:(aO ts (gk ts (ofM ts σ 2 4).2).2 jN).2=true:=dP (Cc (nF h 2 4)) _;rw[uN tTo b];dsimp only;rw[uN cP (dP b _)];exact dP (dP b _) _
theorem qR{ts:List Tok}{σ:PS}(h:σ.1<ts.length):(dS ts σ).2.1<ts.length:=by
 unfold dS
 (repeat' split)
 ·exact cy h
 ·exact ej (cy h) 4 14
 ·exact ej h _ _
 ·exact ej h _ _
 ·exact ej h _ _
theorem oK{ts:List Tok}{σ:PS}(h:σ.1<ts.length):(dk ts (dS ts) σ).2.1<ts.length:=by
 unfold dk
 (repeat' split)
 ·exact cM (uz _ _ _ (cy h)) _
 ·exact cM (ly (fun _ h=>qR h) (ej (cy h) _ _)) _
 ·exact cM (ly (fun _ h=>qR h) (ej h _ _)) _
theorem BG{ts:List Tok}{a:Int}{σ:PS}(h:σ.1<ts.length):(dx ts a σ).2.1<ts.length:=by
 unfold dx;exact cM (qU (fun _ h=>wS h) _ _ _ _ (cM (qU (fun _ h=>oK h) _ _ _ _ (cM (wV (ej h 2 4)) _)) _)) _
theorem Br{ts:List Tok}{σ:PS}(h:σ.1<ts.length):(dT ts (dx ts) σ).2.1<ts.length:=by
 unfold dT
 split
 ·exact cM (ly (fun _ h=>ej h 2 3) (ej (cy h) _ _)) _
 ·exact BG (cM h _)
theorem oV{ts:List Tok}(a:co ts){σ:PS}(b:σ.1<ts.length):(dT ts (dx ts) σ).2.2=true∨σ.1<(dT ts (dx ts) σ).2.1:=by
 unfold dT
 by_cases c:isM ts σ [ij]=true
 ·rw[n9 c]
  right
  obtain⟨i,_,_⟩:=eI a b c;have f:=dM ts (ah ts σ) 2 2;have g:=gq (ts:=ts) (fun σ=>dM ts σ 2 3) (ofM ts (ah ts σ) 2 2).2;have h:=bH ts (cb ts (fun σ=>ofM ts σ 2 3) (ofM ts (ah ts σ) 2 2).2).2 bY;dsimp only;omega
 ·rw[n8 c]
  cases f:(aO ts σ ny).2 with
  | true=>exact Or.inl (AW f)
  | false =>
   right
   have g:=As a b f;have h:=oY ts (atM ts σ) (aO ts σ ny);omega
def lR(ts:List Tok):Nat→List ac→PS→List ac×PS
 | 0,a,σ=>(a,σ)
 | g+1,a,σ=>if σ.2=true then (a,σ) else if kdM ts σ=7 then (a,σ) else lR ts g (a++[(dT ts (dx ts) σ).1]) (dT ts (dx ts) σ).2
def kx(ts:List Tok):List ac×PS:=lR ts (ts.length+1) [] (0,false)
theorem lN(ts:List Tok)(g:Nat)(a:List ac)(σ:PS):lR ts (g+1) a σ=if σ.2=true then (a,σ) else if kdM ts σ=7 then (a,σ) else lR ts g (a++[(dT ts (dx ts) σ).1]) (dT ts (dx ts) σ).2:=rfl
def du:Nat→ac→Prop
 | 0,T=>T.text.size≤16390∧(0≤T.place∧T.place≤16384)
 | d+1,T=>T.text.size≤16390∧(0≤T.place∧T.place≤16384)∧T.kids.length≤16390∧∀k∈T.kids,du d k
theorem du.slim:∀{d:Nat} {T:ac},du d T→iQ d T:=by
 intro d
 induction d with
 | zero=>intro T h;exact (show T.text.size≤72007 by have:=h.1;omega)
 | succ d a=>intro T h;exact⟨by have:=h.1;omega,by have:=h.2.2.1;omega,fun k b=>a (h.2.2.2 k b)⟩
theorem dO{k:Nat}{t:ByteArray}{n p:Int}{l:List ac}(a:t.size≤16390)(b:0≤p∧p≤16384)(c:l.length≤16390)(h:∀x∈l,∀d,du d x):∀d,du d (.mk k t n p l):=by
 intro d
 cases d with
 | zero=>exact⟨a,b⟩
 | succ d=>exact⟨a,b,c,fun x f=>h x f d⟩
section
variable {ts:List Tok}
theorem fb(a:co ts)(σ:PS):0≤atM ts σ∧atM ts σ≤16384:=by
 have:=(cE a σ.1).2.2;unfold atM;omega
theorem oP(a:co ts)(σ:PS):(txM ts σ).size≤16384:=(cE a σ.1).2.1
theorem im(c:co ts)(σ:PS)(a b:Nat):∀d,du d (ofM ts σ a b).1:=dO (by have:=(cE c σ.1).2.1;omega) (fb c σ) (by simp) (fun x f=>by cases f)
theorem mR:∀d,du d eY:=dO (show (0:Nat)≤16390 by omega) (by omega) (by simp) (fun x a=>by cases a)
theorem xP(b:co ts){ex:PS→ac×PS}(hex:∀σ,∀d,du d (ex σ).1)(lvl:Nat)(pl:Int)(c:0≤pl∧pl≤16384):∀(g:Nat) (T:ac) (σ:PS),(∀d,du d T)→∀d,du d (gi ts ex lvl pl g T σ).1:=by
 intro g
 induction g with
 | zero=>intro T σ h;exact h
 | succ g i =>
  intro T σ h;rw[xx]
  have f:∀d,du d (.mk 16 (txM ts σ) 0 pl [T,(ex (ah ts σ)).1]):=dO (by have:=oP b σ;omega) c (by simp) (fun x a=>by
   rcases Fh.1 a with rfl|a
   ·exact h
   ·rw[List.mem_singleton]at a;subst a;exact hex _)
  split
  ·split
   ·exact f
   ·exact i _ _ f
  ·exact h
theorem oz(a:co ts):∀(f lvl:Nat) (σ:PS),∀d,du d (exM ts f lvl σ).1:=by
 intro f
 induction f with
 | zero=>intro lvl σ;exact mR
 | succ f b =>
  intro lvl σ;unfold exM
  (repeat' split)
  ·exact mR
  ·exact dO (by have:=oP a σ;omega) (fb a σ) (by simp) (fun x c=>by rw[List.mem_singleton]at c;subst c;exact b _ _)
  ·exact b _ _
  ·exact im a _ _ _
  ·exact im a _ _ _
  ·exact im a _ _ _
  ·exact xP a (fun σ=>b _ σ) _ _ (fb a σ) _ _ _ (b _ _)
def gR(l:List ac):Prop:=l.length≤16390∧∀x∈l,∀d,du d x
theorem ni{b:List ac}{t:ac}(h:∀x∈b,∀d,du d x)(c:∀d,du d t):∀x∈b++[t],∀d,du d x:=fun x a=>by
 rcases List.mem_append.1 a with a|a
 ·exact h x a
 ·rw[List.mem_singleton]at a;subst a;exact c
theorem sY(f:co ts)(p:ts.length≤16385){one:PS→ac×PS}(b:∀σ,∀d,du d (one σ).1)(i:∀σ,σ.1≤(one σ).2.1)(j:∀σ:PS,σ.1<ts.length→(one σ).2.1<ts.length) :
  ∀(g:Nat) (a:List ac) (σ:PS),σ.1<ts.length→a.length≤σ.1+1→(∀x∈a,∀d,du d x)→gR (em ts one g a σ).1:=by
 intro g
 induction g with
 | zero=>intro a σ c l h;exact⟨by show a.length≤_;omega,h⟩
 | succ g n =>
  intro a σ c l h;rw[mf]
  by_cases k:isM ts σ [iL]=true
  ·rw[n9 k];obtain⟨q,r,s⟩:=eI f c k;have t:=i (ah ts σ);exact n _ _ (j _ (by omega)) (by rw[EO,Fo];omega) (ni h (b _))
  ·rw[n8 k];exact⟨by show a.length≤_;omega,h⟩
theorem rO(c:co ts)(i:ts.length≤16385){one:PS→ac×PS}(a:∀σ,∀d,du d (one σ).1)(f:∀σ,σ.1≤(one σ).2.1)(b:∀σ:PS,σ.1<ts.length→(one σ).2.1<ts.length){σ:PS}(g:σ.1<ts.length):gR (ip ts one σ).1:=
 sY c i a f b _ _ _ (b _ g) (by simp) (fun x h=>by rw[List.mem_singleton]at h;subst h;exact a _)
theorem lx(b:co ts)(h:ts.length≤16385){one:PS→ac×PS}(a:∀σ,∀d,du d (one σ).1)(c:∀σ,σ.1≤(one σ).2.1)(f:∀σ:PS,σ.1<ts.length→(one σ).2.1<ts.length){σ:PS}(g:σ.1<ts.length):gR (cb ts one σ).1:=by
 unfold cb
 split
 ·exact⟨by simp,fun x i=>by cases i⟩
 ·exact rO b h a c f (cM g _)
theorem rV(q:ts.length≤16385){one:PS→ac×PS}(f:∀σ:PS,σ.1<ts.length→∀d,du d (one σ).1)(i:∀σ,σ.1≤(one σ).2.1)(j:∀σ:PS,σ.1<ts.length→(one σ).2.1<ts.length)(k:∀σ:PS,σ.1<ts.length→(one σ).2.2=true∨σ.1<(one σ).2.1)(stop:ByteArray) :
  ∀(g:Nat) (a:List ac) (σ:PS),σ.1<ts.length→a.length≤σ.1+(if σ.2=true then 1 else 0)→(∀x∈a,∀d,du d x)→gR (upTo ts one stop g a σ).1∧(upTo ts one stop g a σ).1.length≤(upTo ts one stop g a σ).2.1+(if (upTo ts one stop g a σ).2.2=true then 1 else 0):=by
 intro g
 induction g with
 | zero =>
  intro a σ b c h;refine⟨⟨?_,h⟩,c⟩
  show a.length≤_
  split at c<;>omega
 | succ g p =>
  intro a σ b c h;have done:gR a:=⟨by split at c<;>omega,h⟩
  rw[nh]
  by_cases l:σ.2=true
  ·rw[n9 l];exact⟨done,c⟩
  ·rw[n8 l]
   by_cases n:isM ts σ [stop]=true
   ·rw[n9 n];exact⟨done,c⟩
   ·rw[n8 n];rw[n8 l]at c;have r:=i σ;refine p _ _ (j _ b) ?_ (ni h (f _ b));rw[EO,Fo];rcases k σ b with h|h
    ·rw[n9 h];omega
    ·split<;>omega
theorem Bg(a:co ts)(σ:PS):∀d,du d (dS ts σ).1:=by
 unfold dS
 (repeat' split)
 ·exact dO (show (0:Nat)≤16390 by omega) (fb a σ) (by simp) (fun x b=>by cases b)
 ·refine dO ?_ (fb a σ) (by simp) (fun x b=>by cases b);have c:=oP a (ah ts σ);have f:(be++txM ts (ah ts σ)).size=1+(txM ts (ah ts σ)).size:=by rw[ByteArray.size_append];rfl
  omega
 ·exact im a _ _ _
 ·exact im a _ _ _
 ·exact im a _ _ _
theorem j6(c:co ts)(σ:PS)(a b:Nat):(ofM ts σ a b).1.text.size≤16390:=by
 have:=(cE c σ.1).2.1
 show (cH ts σ.1).2.1.size≤_
 omega
theorem yu(a:co ts)(i:ts.length≤16385){σ:PS}(b:σ.1<ts.length):∀d,du d (dk ts (dS ts) σ).1:=by
 have c:∀{f:PS},f.1<ts.length→gR (cb ts (dS ts) f).1:=fun h=>lx a i (Bg a) (iw ts) (fun _ h=>qR h) h
 unfold dk
 (repeat' split)
 ·exact dO (show (0:Nat)≤16390 by omega) (fb a σ) (by simp) (fun x g=>by rw[List.mem_singleton]at g;subst g;exact oz a _ _ _)
 ·exact dO (j6 a _ _ _) (fb a σ) (c (ej (cy b) 2 6)).1 (c (ej (cy b) 2 6)).2
 ·exact dO (j6 a _ _ _) (fb a σ) (c (ej b 2 5)).1 (c (ej b 2 5)).2
theorem Aa(a:co ts)(g:ts.length≤16385){σ:PS}(b:σ.1<ts.length):∀d,du d (ew ts σ).1:=by
 have c:∀σ:PS,σ.1<ts.length→(ed ts σ).2.1<ts.length:=fun σ h=>uz _ _ _ h
 have i:∀{f:PS},f.1<ts.length→gR (cb ts (ed ts) f).1:=fun h=>lx a g (fun σ=>oz a _ _ σ) (fk ts) c h
 have j:∀{f:PS},f.1<ts.length→gR (ip ts (ed ts) f).1:=fun h=>rO a g (fun σ=>oz a _ _ σ) (fk ts) c h
 unfold ew
 (repeat' split)
 ·exact dO (j6 a _ _ _) (fb a σ) (i (ej (cy b) 2 8)).1 (i (ej (cy b) 2 8)).2
 ·exact dO (show (0:Nat)≤16390 by omega) (fb a σ) (by simp) (fun x c=>by cases c)
 ·exact dO (show (0:Nat)≤16390 by omega) (fb a σ) (j (cy b)).1 (j (cy b)).2
 ·exact dO (show (0:Nat)≤16390 by omega) (fb a σ) (by simp) (fun x c=>by cases c)
theorem yw(b:co ts)(c:ts.length≤16385)(a:Int)(j:0≤a∧a≤16384){σ:PS}(f:σ.1<ts.length):∀d,du d (dx ts a σ).1:=by
 unfold dx;dsimp only;have g:=cM (wV (ej f (ts:=ts) 2 4)) jN;obtain⟨k,c2⟩:=rV c (fun σ h=>yu b c h) (oI (iw ts)) (fun _ h=>oK h) (fun σ h=>pj b (iw ts) (fun _ h=>oD h) h) tTo (ts.length+1) [] _ g (EM _) (fun x l=>by cases l);have n:=qU (fun _ h=>oK h) tTo (ts.length+1) [] _ g;generalize upTo ts (dk ts (dS ts)) tTo (ts.length+1) [] (aO ts (gk ts (ofM ts σ 2 4).2).2 jN)=cs at *;have hw:=bH ts cs.2 tTo
 obtain⟨i,_⟩:=rV c (fun σ h=>Aa b c h) (qB ts) (fun _ h=>wS h) (fun σ h=>qA b h) cP (ts.length+1) cs.1 _ (cM n tTo) (by
  by_cases h:cs.2.2=true
  ·rw[n9 h]at c2;rw[n9 (dP h _)];omega
  ·rw[n8 h]at c2;omega) k.2
 exact dO (j6 b _ _ _) j i.1 i.2
theorem xC(a:co ts)(c:ts.length≤16385){σ:PS}(b:σ.1<ts.length):∀d,du d (dT ts (dx ts) σ).1:=by
 have f:∀{g:PS},g.1<ts.length→gR (cb ts (fun σ=>ofM ts σ 2 3) g).1:=fun h=>lx a c (fun σ=>im a σ 2 3) (fun σ=>dM ts σ 2 3) (fun _ h=>ej h 2 3) h
 unfold dT
 split
 ·exact dO (j6 a _ _ _) (fb a σ) (f (ej (cy b) 2 2)).1 (f (ej (cy b) 2 2)).2
 ·exact yw a c _ (fb a σ) (cM b _)
theorem xN(c:co ts)(j:ts.length≤16385):∀(g:Nat) (b:List ac) (σ:PS),σ.1<ts.length→b.length≤σ.1+(if σ.2=true then 1 else 0)→(∀x∈b,∀d,du d x)→gR (lR ts g b σ).1:=by
 intro g
 induction g with
 | zero =>
  intro b σ a f h;refine⟨?_,h⟩
  show b.length≤_
  split at f<;>omega
 | succ g k =>
  intro b σ a f h;have done:gR b:=⟨by split at f<;>omega,h⟩
  rw[lN]
  by_cases i:σ.2=true
  ·rw[n9 i];exact done
  ·rw[n8 i]
   split
   ·exact done
   ·rw[n8 i]at f;have l:=tm (ts:=ts) (oY ts) σ;refine k _ _ (Br a) ?_ (ni h (xC c j a));rw[EO,Fo];rcases oV c a with h|h
    ·rw[n9 h];omega
    ·split<;>omega
theorem yx(a:co ts)(b:ts.length≤16385)(c:0<ts.length):gR (kx ts).1:=xN a b _ _ _ c (EM _) (fun x f=>by cases f)
end
theorem uT(s:ByteArray):∀(n p:Nat),s.size-p≤n→∀t∈(aE s p).1,p≤t.2.2:=by
 intro n
 induction n with
 | zero =>
  intro p h t a;rw[dr s p (by rw[eu s p (by omega)];omega)]at a
  cases a
 | succ n g =>
  intro p h t a;have c:=jS s _ p (EA _)
  by_cases b:skip s p<s.size
  ·by_cases f:(al s (skip s p) s[skip s p]).2.2.1=0
   ·obtain⟨i,n2⟩:=eN s (skip s p) b f;rw[eF s p b f]at a;rcases Fh.1 a with rfl|a
    ·exact c
    ·have:=g _ (by omega) t a;omega
   ·rw[eM s p b f]at a;cases a
  ·rw[dr s p b]at a;cases a
def eZ(s:ByteArray):List Tok:=(aE s 0).1++[(7,⟨#[]⟩,s.size)]
theorem vH(s:ByteArray):∀(n p:Nat),s.size-p≤n→((aE s p).1).Pairwise (fun a b=>a.2.2<b.2.2)∧∀t∈(aE s p).1,t.2.2<s.size:=by
 intro n
 induction n with
 | zero =>
  intro p h;rw[dr s p (by rw[eu s p (by omega)];omega)];exact⟨List.Pairwise.nil,fun t c=>by cases c⟩
 | succ n i =>
  intro p h;have j:=jS s _ p (EA _)
  by_cases f:skip s p<s.size
  ·by_cases g:(al s (skip s p) s[skip s p]).2.2.1=0
   ·obtain⟨l,n2⟩:=eN s (skip s p) f g;rw[eF s p f g];obtain⟨k,i2⟩:=i (al s (skip s p) s[skip s p]).2.2.2 (by omega);refine⟨List.Pairwise.cons (fun t c=>?_) k,fun t c=>?_⟩
    ·have:=uT s _ _ (EA _) t c
     show skip s p<t.2.2
     omega
    ·rcases Fh.1 c with rfl|c
     ·exact f
     ·exact i2 t c
   ·rw[eM s p f g];exact⟨List.Pairwise.nil,fun t c=>by cases c⟩
  ·rw[dr s p f];exact⟨List.Pairwise.nil,fun t c=>by cases c⟩
theorem wl(s:ByteArray):∀(n p:Nat),s.size-p≤n→p≤s.size→∀t∈(aE s p).1,t.1<7∧t.2.1.size≤s.size:=by
 intro n
 induction n with
 | zero =>
  intro p h f t a;rw[dr s p (by rw[eu s p (by omega)];omega)]at a
  cases a
 | succ n g =>
  intro p h f t a;have i:=jS s _ p (EA _)
  by_cases b:skip s p<s.size
  ·by_cases c:(al s (skip s p) s[skip s p]).2.2.1=0
   ·obtain⟨k,n2⟩:=eN s (skip s p) b c;obtain⟨s1,s2,j⟩:=tA s (skip s p) b c;rw[eF s p b c]at a;rcases Fh.1 a with rfl|a
    ·refine⟨j,?_⟩;dsimp only;omega
    ·exact g _ (by omega) n2 t a
   ·rw[eM s p b c]at a;cases a
  ·rw[dr s p b]at a;cases a
theorem md(s:ByteArray):(eZ s).length=(aE s 0).1.length+1:=by unfold eZ;simp
theorem Co(s:ByteArray)(h:s.size≤16384):co (eZ s):=by
 have i:=wl s _ 0 (EA _) (EM _);obtain⟨_,j⟩:=vH s _ 0 (EA _);refine⟨fun t c=>?_,fun k t f l=>?_⟩
 ·unfold eZ at c;rcases List.mem_append.1 c with c|c
  ·obtain⟨a,b⟩:=i t c;have:=j t c;exact⟨by omega,by omega,by omega⟩
  ·rw[List.mem_singleton]at c;subst c;exact⟨by show 7<256;omega,by show (0:Nat)≤16384;omega,h⟩
 ·rw[md]at l;unfold eZ at f;have g:k<((aE s 0).1++[(7,(⟨#[]⟩:ByteArray),s.size)]).length:=(EP.1 f).1;rw[EO,Fo]at g;obtain rfl:k=(aE s 0).1.length:=by omega
  rw[EZ (EA _),Nat.sub_self]at f;have:(7,(⟨#[]⟩:ByteArray),s.size)=t:=by simpa using f
  rw[←this]
def sM(s:ByteArray):ac:=.mk 1 ⟨#[]⟩ 0 0 (kx (eZ s)).1
def sN(ts:List Tok) (R:List ac×PS) (a:ac):ac×Int×Int:=
 if R.2.2=true then (eY,202,atM ts R.2)
 else match dpM 30 a with
  | some p=>(eY,203,p)
  | none=>if iJ 30 a=true then (a,0,0) else (eY,204,0)
def ft(s:ByteArray):ac×Int×Int:=
 if 16384<s.size then (eY,3,0)
 else match (aE s 0).2 with
  | some (er,pl)=>(eY,er,pl)
  | none=>sN (eZ s) (kx (eZ s)) (sM s)
def cY(W:World) (L d:Nat) (a:List ac) (v:Value):Prop:=∃(rows:List (List Value)) (b:Nat→Nat→Prop),W.ownsRow L 76 5 v a.length rows.flatten∧cn W L d a a.length v.ownBlock rows b
theorem cY.below{W W':World}{L d:Nat}{j:List ac}{v:Value}(h:cY W L d j v)(g:Ft W W'):cY W' L d j v:=by
 obtain⟨rows,k,l,n,r2,p,r4,q,r⟩:=h;refine⟨rows,k,ownsRow_below l g,n,r2,fun i T t u=>?_,fun i b f=>⟨(r4 i b f).1,EF (r4 i b f).2.1 g.size,(r4 i b f).2.2⟩,q,r⟩;obtain⟨a,s,b,c⟩:=p i T t u;exact⟨a,s,b,c.below (fun b f=>(r4 i b f).2.1) g⟩
theorem cY.keep{W W':World}{L d:Nat}{k:List ac}{v:Value}(h:cY W L d k v)(r:W.heap.size≤W'.heap.size)(l:∀b,L≤b→b<W.heap.size→W'.heap[b]?=W.heap[b]?):cY W' L d k v:=by
 obtain⟨rows,t,⟨u,j⟩,w,r2,y,r4,z,A⟩:=h;refine⟨rows,t,⟨u,?_⟩,w,r2,fun i T B C=>?_,fun i b f=>⟨(r4 i b f).1,EF (r4 i b f).2.1 r,(r4 i b f).2.2⟩,z,A⟩
 ·rcases j with j|⟨g,cap,cur,D,n,p,E⟩
  ·exact Or.inl j
  ·exact Or.inr ⟨g,cap,cur,D,n,(l g n (Ez.1 p).1).trans p,E⟩
 ·obtain⟨a,s,b,c⟩:=y i T B C;exact⟨a,s,b,c.keep fun x o q F=>(l x (r4 i x q).1 (r4 i x q).2.1).trans F⟩
theorem cY.low{W:World}{L a d:Nat}{c:List ac}{v:Value}(h:cY W L d c v)(f:a≤L):cY W a d c v:=by
 obtain⟨rows,j,k,l,r2,n,r4,p,q⟩:=h;exact⟨rows,j,ownsRow_base k f,l,r2,n,fun i b g=>⟨EG f (r4 i b g).1,(r4 i b g).2⟩,p,q⟩
def qX(w:World) (r:ac×Int×Int) (e:Ending) (w':World):Prop:=
 ∃(a:Value),e=.returned (.tuple #[.agg #[int .u8 r.1.kind,.string r.1.text,int i64 r.1.num,int i64 r.1.place,a],.agg #[int i64 r.2.1,int i64 r.2.2]])∧Ft w w'∧OwnAt w' 30 r.1.kids a (bL w.heap.size w'.heap.size)∧Fits r.1∧(∀d,du d r.1)∧cY w' w.heap.size 29 r.1.kids a
def uc(w:World) (P L cap:Nat) (ts:List Tok) (R:List ac×PS) (b:Nat) (W:World):Prop:=
 ∃(g:Nat) (a:List ac) (σ:PS) (d:Nat) (rows:List (List Value)) (c:Nat→Nat→Prop) (o:Value),lR ts g a σ=R∧(σ.2=true∨ts.length-σ.1+1≤g)∧a.length≤σ.1+(if σ.2=true then 1 else 0)∧
  au w P L cap ts σ.1 σ.2 W∧W.heap[b]?=some (.cells #[int .u8 1,string ⟨#[]⟩,int i64 0,int i64 0,o] 76 (0,0))∧
  W.ownsRow (b+1) 76 5 o a.length rows.flatten∧cn W (b+1) d a a.length o.ownBlock rows c
theorem rD{W:World}:∀{n d:Nat} {a:List ac} {b:Value} {F:Nat→Prop},OwnAt W d a b F→(∀t∈a,dpM n t=none)→OwnAt W n a b F:=by
 intro n
 induction n with
 | zero =>
  intro d a b F h c;have j:a=[]:=by
   cases a with
   | nil=>rfl
   | cons t r=>have:=c t (List.mem_cons_self ..);cases this
  subst j;exact⟨rfl,h.nil⟩
 | succ n k =>
  intro d a b F h c
  cases d with
  | zero=>exact Or.inl h
  | succ d =>
   rcases h with h|⟨g,cap,cs,l,p,q,u,v,w,x,y,z,A,B⟩
   ·exact Or.inl h
   ·refine Or.inr ⟨g,cap,cs,l,p,q,u,v,w,x,y,fun i T f=>?_,A,B⟩;obtain⟨C,s,D,E⟩:=z i T f;refine⟨C,s,D,k E fun t G=>?_⟩;have:=c T (EU f);unfold dpM at this;rw[List.findSome?_eq_none_iff]at this;exact this t G
theorem cY.depth{W:World}{L d n:Nat}{f:List ac}{v:Value}(h:cY W L d f v)(j:∀t∈f,dpM (n+1) t=none):cY W L n f v:=by
 obtain⟨rows,k,l,p,r2,q,r4⟩:=h;refine⟨rows,k,l,p,r2,fun i T r g=>?_,r4⟩;obtain⟨a,s,b,c⟩:=q i T r g;refine⟨a,s,b,rD c fun t u=>?_⟩;have:=j T (EU g);unfold dpM at this;rw[List.findSome?_eq_none_iff]at this;exact this t u
theorem cY.more{W:World}{L d:Nat}{f:List ac}{v:Value}(h:cY W L d f v):cY W L (d+1) f v:=by
 obtain⟨rows,g,j,k,r2,l,r4⟩:=h;exact⟨rows,g,j,k,r2,fun i T n p=>by obtain⟨a,s,b,c⟩:=l i T n p;exact⟨a,s,b,c.more⟩,r4⟩
theorem Ac(W:World)(L d:Nat):cY W L d [] (slice none 0 0):=⟨[],fun _ _=>False,World.ownsRow_nil _ _ _ _,kz _ _ _ _⟩
theorem zv:Fits eY:=eK (by omega) (by show (0:Nat)≤16384;omega) (by omega) (by omega)
theorem mI(a:List ac):Fits (.mk 1 ⟨#[]⟩ 0 0 a):=eK (by omega) (by show (0:Nat)≤16384;omega) (by omega) (by omega)
theorem qx{w c W:World}{P L cap k:Nat}{bad:Bool}{ts:List Tok}(a:Ft w c)(b:au c P L cap ts k bad W)(g:w.heap.size≤P):Ft w W:=
 ⟨b.1.os.trans a.os,b.1.tape.trans a.tape,b.1.output.trans a.output,EG a.size b.1.size,fun i f=>(b.1.block i (EF f a.size) (fun e=>by injection e with e;omega)).trans (a.block i f)⟩
theorem j0{w W:World}{a:Act}{v0 v1 v2 v3 v4 c f:Value}{R:Ending→World→Prop}(j:a.tmps.getD 2 undef=.pointer (some ⟨w.heap.size,0,none⟩))(k:a.tmps.getD 3 undef=.pointer (some ⟨w.heap.size+1,0,none⟩))(l:a.defers=[])
  (g:W.heap[w.heap.size]?=some (.cells #[v0,v1,v2,v3,v4] 76 (0,0))) (b:W.heap[w.heap.size+1]?=some (.cells #[c,f] 32 (0,0))) (n:R (.returned (.tuple #[.agg #[v0,v1,v2,v3,v4],.agg #[c,f]])) W):bodyPost Tryz.prog Tryz.f23 R .ret a W:=by
 obtain⟨p,q,c2,r,c4⟩:=cells5 g;have d0:W.cell? ⟨w.heap.size+1,0,none⟩=some c:=by simp[World.cell?,b]
 have d1:W.cell? ⟨w.heap.size+1,1,none⟩=some f:=by simp[World.cell?,b]
 have h:a.tmps[2]?.getD undef=.pointer (some ⟨w.heap.size,0,none⟩):=by simpa using j
 have i:a.tmps[3]?.getD undef=.pointer (some ⟨w.heap.size+1,0,none⟩):=by simpa using k
 refine bodyPost_ret (v:=.tuple #[.agg #[v0,v1,v2,v3,v4],.agg #[c,f]]) ?_ l n;simp[results,Tryz.results23,go_sem,h,i,p,q,c2,r,c4,d0,d1]
theorem AD{W:World}{b:Nat}{a c:Value}{t:TypeId}(h:W.heap[b]?=some (.cells #[a,c] t (0,0)))(v0 v1:Value) :
  ((W.setCell ⟨b,0,none⟩ v0).setCell ⟨b,1,none⟩ v1).heap[b]?=some (.cells #[v0,v1] t (0,0)):=by
 rw[heap_set (heap_set h 0 v0) 1 v1];rfl
theorem dp{W:World}{b:Nat}{a c:Value}{t:TypeId}(h:W.heap[b]?=some (.cells #[a,c] t (0,0))):W.cell? ⟨b,0,none⟩=some a∧W.cell? ⟨b,1,none⟩=some c∧W.frozen? ⟨b,0,none⟩=false∧W.frozen? ⟨b,1,none⟩=false:=by refine⟨by simp[World.cell?,h],by simp[World.cell?,h],by simp[World.frozen?,h],by simp[World.frozen?,h]⟩
theorem gZ{w W:World}{v0 v1 v2 v3 v4 a0 a1:Value}{f g h i j k l:Value}(n:Ft w W)(a:W.heap[w.heap.size]?=some (.cells #[f,g,h,i,j] 76 (0,0)))(c:W.heap[w.heap.size+1]?=some (.cells #[k,l] 32 (0,0))) :
  Ft w (((set5 W w.heap.size v0 v1 v2 v3 v4).setCell ⟨w.heap.size+1,0,none⟩ a0).setCell ⟨w.heap.size+1,1,none⟩ a1)∧
  (((set5 W w.heap.size v0 v1 v2 v3 v4).setCell ⟨w.heap.size+1,0,none⟩ a0).setCell ⟨w.heap.size+1,1,none⟩ a1).heap[w.heap.size]?=some (.cells #[v0,v1,v2,v3,v4] 76 (0,0))∧
  (((set5 W w.heap.size v0 v1 v2 v3 v4).setCell ⟨w.heap.size+1,0,none⟩ a0).setCell ⟨w.heap.size+1,1,none⟩ a1).heap[w.heap.size+1]?=some (.cells #[a0,a1] 32 (0,0))∧
  (∀b,w.heap.size+2≤b→(((set5 W w.heap.size v0 v1 v2 v3 v4).setCell ⟨w.heap.size+1,0,none⟩ a0).setCell ⟨w.heap.size+1,1,none⟩ a1).heap[b]?=W.heap[b]?)∧
  (((set5 W w.heap.size v0 v1 v2 v3 v4).setCell ⟨w.heap.size+1,0,none⟩ a0).setCell ⟨w.heap.size+1,1,none⟩ a1).heap.size=W.heap.size:=by
 refine⟨?_,?_,?_,fun b q=>?_,?_⟩
 ·unfold set5;exact ((((((n.setCell (p:=⟨w.heap.size,0,none⟩) (EA _) v0).setCell (p:=⟨w.heap.size,1,none⟩) (EA _) v1).setCell (p:=⟨w.heap.size,2,none⟩) (EA _) v2).setCell (p:=⟨w.heap.size,3,none⟩) (EA _) v3).setCell (p:=⟨w.heap.size,4,none⟩) (EA _) v4).setCell (p:=⟨w.heap.size+1,0,none⟩) (EV _) a0).setCell (p:=⟨w.heap.size+1,1,none⟩) (EV _) a1
 ·exact (ED _ _ _ _ (show w.heap.size≠w.heap.size+1 by omega)).trans ((ED _ _ _ _ (show w.heap.size≠w.heap.size+1 by omega)).trans (aU a v0 v1 v2 v3 v4))
 ·exact AD ((jJ (show w.heap.size+1≠w.heap.size by omega) v0 v1 v2 v3 v4).trans c) a0 a1
 ·exact (ED _ _ _ _ (show b≠w.heap.size+1 by omega)).trans ((ED _ _ _ _ (show b≠w.heap.size+1 by omega)).trans (jJ (show b≠w.heap.size by omega) v0 v1 v2 v3 v4))
 ·rw[World.setCell,World.setCell];simp[set5,World.setCell]
theorem xu(s:ByteArray)(a:World)(g:aM a):Calls Tryz.prog 46 #[.string s] a fun e w'=>Ft a w'∧
  ((∃er pl:Nat,ft s=(eY,(er:Int),(pl:Int))∧er≠0∧e=.returned (.tuple #[slice none 0 0,.agg #[int i64 er,int i64 pl]]))∨
   (s.size≤16384∧(aE s 0).2=none∧∃v,e=.returned (.tuple #[v,.agg #[int i64 0,int i64 0]])∧w'.ownsRow a.heap.size 108 3 v (eZ s).length (bO (eZ s)))):=by
 by_cases f:16384<s.size
 ·refine (nW s a f).mono ?_;rintro e w' ⟨rfl,b⟩;exact⟨b,Or.inl ⟨3,0,by unfold ft;rw[n9 f];rfl,by decide,rfl⟩⟩
 ·refine (px s a (by omega) g).mono ?_;rintro e w' ⟨b,⟨c,v,rfl,h⟩|⟨er,pl,c,rfl⟩⟩
  ·refine⟨b,Or.inr ⟨by omega,c,v,rfl,?_⟩⟩;rw[md];exact h
  ·refine⟨b,Or.inl ⟨er,pl,by unfold ft;rw[n8 f,c],(Bz s _ 0 er pl c).1,rfl⟩⟩
theorem zw{w W:World}{s:ByteArray}{f:ac}{a:List ac}{p:Option Addr}{c:Nat}{F:Nat→Prop}(hm:ft s=if true=true then (f,0,0) else (eY,204,0))(i:f=.mk 1 ⟨#[]⟩ 0 0 a)(g:∀d,du d f)(j:Ft w W)(h:cY W w.heap.size 29 a (.slice p a.length c))
  (k:OwnAt W 30 a (.slice p a.length c) F) (hF:∀b,F b→bL w.heap.size W.heap.size b) :
  qX w (ft s) (.returned (.tuple #[.agg #[int .u8 1,string ⟨#[]⟩,int i64 0,int i64 0,.slice p a.length c],.agg #[int i64 0,int i64 0]])) W:=by
 rw[hm,n9 rfl];subst i;exact⟨_,rfl,j,k.sub hF,mI a,g,h⟩
theorem nX(a:Int)(x:ByteArray)(p:Int)(W:World):(Instr.field 108 (.agg #[int .u8 a,.string x,int i64 p]) 0).run Tryz.prog W=.ok (int .u8 a) W:=by kernel_rfl
theorem kw{w W:World}{s:ByteArray}{er pl:Int}(hm:ft s=(eY,er,pl))(a:Ft w W) :
  qX w (ft s) (.returned (.tuple #[.agg #[int .u8 0,string ⟨#[]⟩,int i64 0,int i64 0,slice none 0 0],.agg #[int i64 er,int i64 pl]])) W:=by
 rw[hm];exact⟨slice none 0 0,rfl,a,Or.inl ⟨rfl,Or.inl rfl⟩,zv,mR,Ac _ _ _⟩
theorem vw(s:ByteArray)(w:World)(ht:aM w):Calls Tryz.prog 23 #[.string s] w (qX w (ft s)):=by
 obtain⟨wA,ar⟩:=zzx ((w.alloc (.cells bM 76)).alloc (.cells #[int i64 0,int i64 0] 32));have b3:Ft w wA:=by rw[ar];exact bz w _ _
 obtain⟨X0,X1,_⟩:=am w (.cells bM 76) (.cells #[int i64 0,int i64 0] 32);rw[←ar]at X0 X1;have HT:=Hd (xu s wA (ht.below b3));have hy:=Hd (ht.below b3);have e0:(1:Nat)<w.heap.size:=ht.lt;obtain⟨i0,hz,hA,hC,hD⟩:=info_parts pp;have Z:Hid (wA.heap.size=w.heap.size+2):=by show _=_;rw[ar];simp
 have cC:=Hd X0;have cR:=Hd X1;have b4:=Hd b3;clear X0 X1 b3 ht
 go_enter Tryz.func23,Tryz.ntmps23
 go_upto_region 1 with fail
 change Code.wp _ _ _ _ ((w.alloc (.cells bM 76)).alloc (.cells #[int i64 0,int i64 0] 32));rw[←ar];clear ar;go_wp2_with fail
 refine EJ HT.o ?_;rintro e w1 ⟨V,⟨er,pl,hm,hG,rfl⟩|⟨hs,h0,v,rfl,ad⟩⟩
 ·have HM:=Hd hm;have l0:((er:Int) != 0)=true:=by simp;omega
  obtain⟨G,H⟩:=zzx (w1.alloc (.cells #[int i64 er,int i64 pl] 32));have K:Ft wA G:=by rw[H];exact V.alloc V.size _
  have av:G.heap[w1.heap.size]?=some (.cells #[int i64 er,int i64 pl] 32 (0,0)):=by rw[H];exact n7 w1 _
  have HB:=Hd (b4.o.trans (K.mono b4.o.size));have l1:w.heap.size+2≤w1.heap.size:=by have:=Z.o;have:=V.size;omega
  have M:=Hd (aa K cC.o (by have:=Z.o;omega));have cT:=Hd (aa K cR.o (by have:=Z.o;omega));clear V K hm hG;go_upto_region 2 with fail
  change Code.wp _ _ _ _ (w1.alloc (.cells #[int i64 er,int i64 pl] 32));rw[←H];clear H;obtain⟨f0,f1,_,_⟩:=dp av;clear av;go_wp2_with fail
  have z0:=ab M.o 0;have z1:=ab M.o 1;have z2:=ab M.o 2;have z3:=ab M.o 3;have z4:=ab M.o 4;obtain⟨a0,a1,a2,a3,a4⟩:=cells5 M.o;obtain⟨b0,b1,y0,y1⟩:=dp cT.o;have mc:(w.heap.size=w1.heap.size)=False:=by simp;omega
  have me:(w1.heap.size=w.heap.size)=False:=by simp;omega
  go_region
  go_wp2_with fail
  obtain⟨k1,k2,k3,_,_⟩:=gZ (v0:=int .u8 0) (v1:=string ⟨#[]⟩) (v2:=int i64 0) (v3:=int i64 0) (v4:=slice none 0 0) (a0:=int i64 er) (a1:=int i64 pl) HB.o M.o cT.o;change bodyPost _ _ _ _ _ (((set5 G w.heap.size (int .u8 0) (string ⟨#[]⟩) (int i64 0) (int i64 0) (slice none 0 0)).setCell ⟨w.heap.size+1,0,none⟩ (int i64 er)).setCell ⟨w.heap.size+1,1,none⟩ (int i64 pl)).drew;generalize (((set5 G w.heap.size (int .u8 0) (string ⟨#[]⟩) (int i64 0) (int i64 0) (slice none 0 0)).setCell ⟨w.heap.size+1,0,none⟩ (int i64 er)).setCell ⟨w.heap.size+1,1,none⟩ (int i64 pl))=WZ at *;have hI:WZ.drew.heap[w.heap.size]?=_:=k2;have hJ:WZ.drew.heap[w.heap.size+1]?=_:=k3;exact j0 rfl rfl rfl hI hJ (kw HM.o k1.drew)
 ·obtain⟨_,cV⟩:=ad;have hlen:=md s;have X:=Co s hs;have b5:(eZ s).length≤16385:=by
   have h1:=oS s (s.size+1) 0 (EM _);have h2:(aE s 0).1.length+0≤s.size:=h1;omega
  rcases cV with ⟨_,h⟩|⟨L,cap,cur,rfl,mg,cW,hle,e1,hK,Y⟩
  ·omega
  have HM:Hid (ft s=sN (eZ s) (kx (eZ s)) (sM s)):=by
   show _=_
   unfold ft;rw[n8 (by omega),h0]
  have O:Hid (sM s=.mk 1 ⟨#[]⟩ 0 0 (kx (eZ s)).1):=rfl;have an:Hid (gR (kx (eZ s)).1):=yx X b5 (by omega);obtain⟨R,hR⟩:=zzy (kx (eZ s));rw[hR]at HM O an;unfold kx at hR;generalize sM s=T0 at *;obtain⟨ts,cc⟩:=zzy (eZ s);rw[cc]at hlen X b5 hle Y HM hR ⊢;have HR:=Hd hR;have c0:=Hd X;have c3:=Hd (zK X (A5 X));have e2:0<ts.length:=by omega
  have l2:=Hd b5;have hL:wA.heap.size≤w1.heap.size:=V.size;have hM:L<w1.heap.size:=(Ez.1 cW).1;obtain⟨G,H⟩:=zzx (w1.alloc (.cells #[int i64 0,int i64 0] 32));obtain⟨A,a6⟩:=zzx (G.alloc (.cells #[slice (some ⟨L,0,none⟩) ts.length cap,.bool false] 105));obtain⟨wn,a7⟩:=zzx (A.alloc (.cells #[int .u8 1,string ⟨#[]⟩,int i64 0,int i64 0,slice none 0 0] 76));have K:Ft w1 G:=by rw[H];exact (EB _ w1).alloc (EA _) _
  have a8:Ft G A:=by rw[a6];exact (EB _ G).alloc (EA _) _
  have b6:Ft A wn:=by rw[a7];exact (EB _ A).alloc (EA _) _
  have av:G.heap[w1.heap.size]?=some (.cells #[int i64 0,int i64 0] 32 (0,0)):=by rw[H];exact n7 w1 _
  have c5:A.heap[G.heap.size]?=some (.cells #[slice (some ⟨L,0,none⟩) ts.length cap,.bool false] 105 (0,0)):=by rw[a6];exact n7 G _
  have c6:wn.heap[A.heap.size]?=some (.cells #[int .u8 1,string ⟨#[]⟩,int i64 0,int i64 0,slice none 0 0] 76 (0,0)):=by rw[a7];exact n7 A _
  have hN:G.heap.size=w1.heap.size+1:=by rw[H];simp
  have hQ:A.heap.size=G.heap.size+1:=by rw[a6];simp
  have hV:wn.heap.size=A.heap.size+1:=by rw[a7];simp
  have I:Ft wA A:=V.trans ((K.trans (a8.mono (by omega))).mono hL);have c7:PAt A G.heap.size L cap ts 0 false:=by
   refine⟨⟨ts.length,cap,rfl,rfl,by rw[Nat.zero_mul];exact c5⟩,⟨cur,?_,fun j u hu=>?_⟩,e2,b5,hle,e1⟩
   ·exact aa (K.trans (a8.mono (by omega))) cW hM
   ·rw[←Y,List.getElem?_take]at hu
    split at hu
    ·simpa using hu
    ·cases hu
  have c8:=c7.turns b6;have e3:=Z.o;obtain⟨P,hP⟩:=zzy (G.heap.size);obtain⟨Q,c9⟩:=zzy (A.heap.size);rw[hP]at c7 c8 c5;rw[c9]at c6;have l3:w.heap.size+2<P:=by omega
  have mu:P<Q:=by omega
  have hW:A.heap.size≤Q:=by omega
  have HL:Hid (L<A.heap.size):=by show _<_;omega
  have hX:P<A.heap.size:=by omega
  have hY:Hid (Ft w A):=b4.o.trans (I.mono b4.o.size);have M:=Hd (aa (I.trans (b6.mono I.size)) cC.o (by omega));have cT:=Hd (aa (I.trans (b6.mono I.size)) cR.o (by omega));have e4:=Hd c6;have e5:=Hd c8;have e6:Q+1=wn.heap.size:=by omega
  have ch:Hid (uc A P L cap ts R Q wn):=
   ⟨ts.length+1,[],(0,false),0,[],fun _ _=>False,slice none 0 0,HR.o,Or.inr (by omega),EM _,e5.o,e4.o,World.ownsRow_nil _ _ _ _,kz _ _ _ _⟩
  have HP:=Hd hP;have hZ:=Hd c9;have e7:=Hd (aa I cC.o (by omega));have e8:=Hd (aa I cR.o (by omega));have e9:=Hd (hy.o.below I);have h4:P≠1:=fun h=>by have:=e0;omega
  have h5:=Hd H;have h6:=Hd a6;have h7:=Hd a7;have h8:Hid (0≤atM ts R.2∧atM ts R.2≤16384):=by
   show _∧_
   obtain⟨_,_,g3⟩:=cE X R.2.1;unfold atM;omega
  obtain⟨f0,f1,_,_⟩:=dp av;have l4:Q+1≤wn.heap.size:=by omega
  clear hlen e6 e3 hN hQ hV H a6 a7 av c5 c6 c8 c7 K a8 b6 V X cc cW Y hK e1 hR I hP c9 hle hs h0;go_upto_region 2 with fail
  change Code.wp _ _ _ _ (w1.alloc (.cells #[int i64 0,int i64 0] 32));rw[←h5.o];go_upto_region 5 with fail
  change Code.wp _ _ _ _ (G.alloc (.cells #[slice (some ⟨L,0,none⟩) ts.length cap,.bool false] 105));rw[←h6.o,HP.o];go_wp2_with fail
  change Code.wp _ _ _ _ (A.alloc (.cells #[int .u8 1,string ⟨#[]⟩,int i64 0,int i64 0,slice none 0 0] 76));rw[←h7.o,hZ.o]
  go_loopw [25] (fun _ wr=>uc A P L cap ts R Q wr) (fun _ wr=>fC P wr)
  case atStart=>exact ch.o
  case round =>
   clear ch e5 e4;obtain⟨g,S,a,dd,rows,Fs,o,fm,hg,hlen,hT,hn,ad,ba⟩:=hrel;have b7:=Hd hT;have da:=Hd fm;have HG:=Hd hg;have fr:=Hd hlen;have fs:=Hd hn;have ck:=Hd ad;have bb:=Hd ba;have fv:=Hd hT.2.steps;have bc:Hid (a.1≤(dT ts (dx ts) a).2.1):=tm (ts:=ts) (oY ts) a;have fz:Q<wr.heap.size:=(Ez.1 hn).1;clear fm hg hlen hT hn ad ba;go_upto_region 6 with fail
   go_cut [38] from 25 to 38 (fun v wx=>v=.bool (!a.2&&kdM ts a != 7)∧Ft wr wx)
   case first =>
    obtain⟨_,_,_,_,_,c1,_,_⟩:=b7.o.2.cells;have bd:=Hd (fo b7.o.2)
    cases l:a.2 with
    | true =>
     rw[l]at c1;have b8:=Hd l;clear l;go_wp2_with fail
     go_meet
     case rel=>exact⟨by rw[b8.o];rfl,EB _ _⟩
    | false =>
     rw[l]at c1;have b8:=Hd l;clear l;have h9:kdM ts a<256:=(cE c0.o a.1).1;obtain⟨kd,dc⟩:=zzy (kdM ts a);rw[dc]at bd h9;have fI:=Hd dc;clear dc;generalize txM ts a=tx at bd;generalize atM ts a=pl at bd
     by_cases hk:kd=7
     ·have ih:((kd:Int) != 7)=false:=by simp;omega
      have HK:=Hd hk;clear hk;go_wp2_with fail
      refine EJ bd.o ?_;rintro e wx ⟨rfl,B⟩;have T:=Hd B;have ix:=nX kd tx pl wx;clear B;go_wp2_with fail
      go_meet
      case rel=>exact⟨by rw[b8.o,fI.o,HK.o];rfl,T.o⟩
     ·have ih:((kd:Int) != 7)=true:=by simp;omega
      have fT:(kd != 7)=true:=by simpa using hk
      have HK:=Hd fT;clear hk fT;go_wp2_with fail
      refine EJ bd.o ?_;rintro e wx ⟨rfl,B⟩;have T:=Hd B;have ix:=nX kd tx pl wx;clear B;go_wp2_with fail
      go_meet
      case rel=>exact⟨by rw[b8.o,fI.o,HK.o];rfl,T.o⟩
   case rest =>
    obtain⟨rfl,B⟩:=hcut;have C:=Hd (b7.o.of_below B);have bk:=Hd (aa B fs.o fz);have gf:P<Q+1:=by omega
    have D:=Hd (cS ck.o (aH B (some P)) gf);have z:=Hd (bb.o.turn (aH B (some P)) gf);have iA:Q<wc.heap.size:=(Ez.1 bk.o).1;clear B b7 fs ck bb fz;obtain⟨b,l⟩:=zzy ((!a.2&&kdM ts a != 7));rw[l];have HB:=Hd l;clear l
    cases b with
    | true =>
     have aq:a.2=false:=by have:=HB.o;cases h:a.2<;>simp[h]at this ⊢
     have gD:¬kdM ts a=7:=by have:=HB.o;rw[aq]at this;simpa using this
     have gE:=C.o.2.k;have mv:=C.o.2.n;have gF:=fr.o;rw[aq]at gF;simp only[EW,oi,Nat.add_zero]at gF;obtain⟨g',gH,gL⟩:∃g',((dT ts (dx ts) a).2.2=true∨ts.length-(dT ts (dx ts) a).2.1+1≤g')∧lR ts g' (S++[(dT ts (dx ts) a).1]) (dT ts (dx ts) a).2=R:=by
      have h1:=da.o;have h2:=HG.o;rw[aq]at h2;have mA:ts.length-a.1+1≤g:=by rcases h2 with h|h;cases h;exact h
      cases g with
      | zero=>omega
      | succ g =>
       rw[lN,n8 (by rw[aq];decide),n8 gD]at h1;refine⟨g,?_,h1⟩;rcases oV c0.o gE with h|h
       ·exact Or.inl h
       ·exact Or.inr (by omega)
     have gM:=oV c0.o gE;have dg:=Hd (c3.o a wc.drew P L cap C.o.2.drew);have iB:=Hd gH;have iX:=Hd gL;have gN:=Hd gM;have i1:=Hd aq;clear gH gL gM gD aq;generalize dT ts (dx ts) a=r at *;obtain⟨d0,gO,gS,d3,d4⟩:=cells5 bk.o;have a8:Q≠P:=by omega
     have C4:=fun x:RE.Gr wc P=>x.cell d4 a8
     have gT:P<wc.heap.size:=C.o.2.lt.1;clear d0 gO gS d3 d4;go_wp2_with fail
     refine RE.wp_region_eff (by kernel_rfl) 5 [3,4] [3,4] (fun s W=>if s=0 then W=wc.drew else au wc P L cap ts r.2.1 r.2.2 W) (fun W W'=>W.grownBy W' (some P))
      (fun i xs=>if i=3 then .agg #[int .u8 r.1.kind,.string r.1.text,int i64 r.1.num,int i64 r.1.place,xs.getD 0 undef] else slice (some ⟨RE.natOf xs,0,none⟩) 1 1)
      (fun i W xs=>if i=3 then fh wc.heap.size r.1 W xs else gb wc.heap.size r.1 W xs) (by kernel_rfl) (fun i h1 h2=>by rw[h1]at h2;cases h2) ?_ rfl ?_
     ·intro k W W' xs h _ hg
      split at h
      ·rw[n9 (by assumption)];exact h.grown gT hg
      ·rw[n8 (by assumption)];exact h.grown gT hg
     simp only[EK,ET,EL,ES,Fb,List.length_nil,Nat.reduceAdd];have ha:∀(n s:Nat) (W:World),s≤n→(if s=0 then W=wc.drew else au wc P L cap ts r.2.1 r.2.2 W)→∃x:RE.Gr wc P,W=x.1:=fun n s W _ h=>by
      split at h
      ·exact⟨⟨W,by rw[h];exact grown_drewN (World.grownBy.refl wc _) 1⟩,rfl⟩
      ·exact⟨⟨W,h.1⟩,rfl⟩
     have jj:=Hd ha;clear ha
     repeat (refine RE.wpE_read (fun W=>∃x:RE.Gr wc P,W=x.1) (jj.o _) rfl rfl rfl rfl ?_;go_big_quiet_step (fail);refine wpQuiet_nil ?_)
     refine RE.wpE_turn rfl rfl ?_ (fun hc=>?_)
     ·intro W _ hS _;obtain rfl:W=wc.drew:=hS rfl;refine RE.upon_call 48 _ _ rfl (enters_of Tryz.func48 (by kernel_rfl) rfl) #[.pointer (some ⟨P,0,none⟩)] (by simp[Act.eval]) (dg.o.mono ?_);rintro e W' ⟨d,s,rfl,hT,ho,hf⟩;exact⟨_,rfl,[s],rfl,hT.of_drew,hT.1,⟨d,s,rfl,ho,hf⟩⟩
     simp only[Act.put,EC,EI,EH];refine RE.wpE_turn rfl rfl ?_ (fun hd=>?_)
     ·intro W _ hS j2;have hT:au wc P L cap ts r.2.1 r.2.2 W:=hS rfl;obtain⟨d,s,rfl,ho,hf⟩:fh wc.heap.size r.1 W hc:=j2 3 hc (by kernel_rfl) rfl;obtain⟨p,c,rfl⟩:=ho.shape;refine RE.Upon.told (v:=slice (some ⟨W.heap.size,0,none⟩) 1 1) (w':=W.alloc (.cells (aw r.1 (.slice p r.1.kids.length c)).toArray 76)) ?_ ⟨[int i64 W.heap.size],rfl,hT.alloc _,?_,?_⟩
      ·unfold RE.Upon
       go_simp
       rfl
      ·exact aH ((EB _ W).alloc (EA _) _) _
      ·refine⟨d,W.heap.size,W.heap.size,_,rfl,n7 W _,?_,hf,hT.1.size,EA _⟩;exact ho.below (fun b l=>l.2) ((EB _ W).alloc (EA _) _)
     simp only[Act.put,EC,EI,EH];refine RE.wpE_nil ?_;intro W3 hS hE;have b9:au wc P L cap ts r.2.1 r.2.2 W3:=hS;obtain⟨d2,gg,N,s2,rfl,ds,dv,kc,kk,kn⟩:=(show gb wc.heap.size r.1 W3 hd from hE 4 hd rfl);have mB:wc.heap.size≤W3.heap.size:=b9.1.size;have bl:=cS D.o b9.1 (by omega);refine wpList_append_lies W3 rfl (.tmp 40) (.tmp 43) 74 rfl (Q+1) 76 i0 _ 5 64 Tryz.underlying74 hz hA hC hD rfl (by decide) o S.length rows.flatten rfl bl ⟨gg,0,none⟩ 1 1 (aw r.1 s2) rfl rfl
      (fun j u hu=>by rw[Addr.add_mid,Fq _ _ _ _ _ _ ds,Nat.zero_add];simpa using hu) (by have:=dv.shape;obtain⟨p,c,rfl⟩:=this;simp[Value.oneCell',aw]) (by decide) (by unfold maxLen;omega) (by omega) (by omega) _ rfl ?_
     intro g7 hh w7 cl bn bq _;obtain⟨d',ec,kr,u1,u2,u3,u4,u5,u6⟩:=qS (w:=A) hX HL.o hW (show Q<(Q+1) by omega) (by omega) C.o bk.o D.o z.o b9 ds dv kc kk kn cl bn bq;have x4:=ab u6 4;obtain⟨d0,gO,gS,d3,d4⟩:=cells5 u6;obtain⟨Wn,hi⟩:=zzx (w7.setCell ⟨Q,4,none⟩ (slice (some ⟨g7,0,none⟩) (S.length+1) hh));rw[←hi]at u1 u2 u3 u4 u5;have br:(S++[r.1]).length≤r.2.1+(if r.2.2=true then 1 else 0):=by
      have h1:=u1.2.k;rw[EO,Fo];rcases gN.o with h|h
      ·rw[n9 h];have:=bc.o;omega
      ·split<;>omega
     have eg:Hid (uc A P L cap ts R Q Wn):=
      ⟨g',_,r.2,d',ec,kr,_,iX.o,iB.o,br,u1,u3,u4,u5⟩
     have ek:Hid (fC P Wn<fC P wr):=by
      show _<_
      rw[u1.2.steps,fv.o,n8 (show ¬a.2=true by rw[i1.o];decide)];have h1:=u1.2.k;have h3:=bc.o;rcases gN.o with h|h
      ·rw[n9 h];omega
      ·split<;>omega
     have kv:=Hd hi;clear u1 u2 u3 u4 u5 br bq bn cl hE hS b9 bl ds dv C4;go_wp2_with fail
     rw[←kv.o];exact⟨eg.o,ek.o⟩
    | false =>
     have kI:(S,a)=R:=by
      rw[←da.o];have h2:=HB.o
      cases g with
      | zero=>rfl
      | succ g =>
       rw[lN]
       by_cases el:a.2=true
       ·rw[n9 el]
       ·rw[n8 el,n9 (by simpa [el]using h2)]
     subst kI;dsimp only at O h8 an;have cq:=Hd ((C.o.1.block w.heap.size (by omega) (fun e=>by injection e with e;omega)).trans e7.o)
     have cr:=Hd ((C.o.1.block (w.heap.size+1) (by omega) (fun e=>by injection e with e;omega)).trans e8.o)
     have T:=Hd (qx hY.o C.o (by omega));have k0:=Hd (e9.o.grown C.o.1 h4);obtain⟨_,_,_,_,_,c1,_,_⟩:=C.o.2.cells;clear da HG fr HB bc fv
     cases l:a.2 with
     | true =>
      rw[l]at c1;have hj:Hid (ft s=(eY,202,atM ts a)):=by show _=_;rw[HM.o];unfold sN;dsimp only;rw[n9 l]
      have af:=Hd (fo C.o.2);clear l;generalize kdM ts a=kd at af;generalize txM ts a=tx at af;generalize atM ts a=pl at af hj;go_wp2_with fail
      refine EJ af.o ?_;rintro e wy ⟨rfl,ca⟩;have mC:=jv kd tx pl wy;have k6:=Hd (T.o.trans (ca.mono T.o.size));have E:=Hd (aa ca cq.o (by omega));have ct:=Hd (aa ca cr.o (by omega));clear ca c1;obtain⟨k1,k2,k3,k4,k5⟩:=gZ (v0:=(int .u8 0)) (v1:=(string ⟨#[]⟩)) (v2:=(int i64 0)) (v3:=(int i64 0)) (v4:=(slice none 0 0)) (a0:=(int i64 202)) (a1:=(int i64 pl)) k6.o E.o ct.o;have K1:=Hd k1;have K2:=Hd k2;have K3:=Hd k3;have K4:=Hd k4;have K5:=Hd k5;clear k1 k2 k3 k4 k5;have z0:=ab E.o 0;have z1:=ab E.o 1;have z2:=ab E.o 2;have z3:=ab E.o 3;have z4:=ab E.o 4;obtain⟨a0,a1,a2,a3,a4⟩:=cells5 E.o;obtain⟨b0,b1,y0,y1⟩:=dp ct.o;go_wp2_with fail
      change bodyPost _ _ _ _ _ (((set5 wy w.heap.size (int .u8 0) (string ⟨#[]⟩) (int i64 0) (int i64 0) (slice none 0 0)).setCell ⟨w.heap.size+1,0,none⟩ (int i64 202)).setCell ⟨w.heap.size+1,1,none⟩ (int i64 pl));generalize ((set5 wy w.heap.size (int .u8 0) (string ⟨#[]⟩) (int i64 0) (int i64 0) (slice none 0 0)).setCell ⟨w.heap.size+1,0,none⟩ (int i64 202)).setCell ⟨w.heap.size+1,1,none⟩ (int i64 pl)=WZ at *;exact j0 rfl rfl rfl K2.o K3.o (kw hj.o K1.o)
     | false =>
      rw[l]at c1
      have bt:Hid (ft s=match dpM 30 T0 with
        | some p=>(eY,203,p)
        | none=>if iJ 30 T0=true then (T0,0,0) else (eY,204,0)):=by
       show _=_
       rw[HM.o];unfold sN;dsimp only;rw[n8 (by rw[l];decide)]
      clear l;have hO:=qT (d:=dd+1) rfl D.o z.o (fun h=>by omega);obtain⟨p,c,rfl⟩:=hO.shape;have HO:=Hd hO;have F:eO wc wc.heap.size (dd+1) T0 (.agg #[int .u8 1,string ⟨#[]⟩,int i64 0,int i64 0,.slice p S.length c]):=by
       rw[O.o];exact⟨mI S,_,rfl,hO.kids fun b l=>l.2⟩
      have cv:∀d,sQ d T0.kids:=fun d=>by
       rw[O.o]
       cases d with
       | zero=>trivial
       | succ d=>exact⟨by show S.length≤20000;have:=an.o.1;omega,fun k hk=>(an.o.2 k hk d).slim⟩
      have cx:Hid (∀d,du d T0):=by
       show ∀d,du d T0
       rw[O.o];exact dO (show (0:Nat)≤16390 by omega) (by omega) an.o.1 an.o.2
      have en:=Hd (zi 30 0 (dd+1) T0 _ wc.heap.size wc rfl F (EA _) (cv _));have k7:=Hd hO;have k8:Hid (cY wc (Q+1) dd S (.slice p S.length c)):=⟨rows,Fs,D.o,z.o⟩;obtain⟨n0,n1,n2,n3,n4⟩:=cells5 bk.o;clear hO F cv HO D z;obtain⟨x,hx⟩:=zzy (dpM 30 T0);rw[hx]at en bt;have HX:=Hd hx;clear hx;rw[show ((0:Nat):Int)=0 from rfl]at en;go_wp2_with fail
      refine EJ en.o ?_;rintro e wd ⟨rfl,J⟩;have eo:=Hd (T.o.trans (J.mono T.o.size));have y:=Hd (aa J cq.o (by omega));have bR:=Hd (aa J cr.o (by omega));have et:=Hd (aa J bk.o iA);have k9:=Hd (k7.o.below (fun b l=>l.2) J);have la:=Hd (k8.o.below J);have lb:=Hd (k0.o.below J);have ld:Q<wd.heap.size:=(Ez.1 et.o).1;have cA:wc.heap.size≤wd.heap.size:=J.size;clear J n0 n1 n2 n3 n4 c1
      cases x with
      | some q =>
       dsimp only [Option.getD_some,Option.isSome_some];obtain⟨k1,k2,k3,k4,k5⟩:=gZ (v0:=(int .u8 0)) (v1:=(string ⟨#[]⟩)) (v2:=(int i64 0)) (v3:=(int i64 0)) (v4:=(slice none 0 0)) (a0:=(int i64 203)) (a1:=(int i64 q)) eo.o y.o bR.o;have K1:=Hd k1;have K2:=Hd k2;have K3:=Hd k3;have K4:=Hd k4;have K5:=Hd k5;clear k1 k2 k3 k4 k5;have z0:=ab y.o 0;have z1:=ab y.o 1;have z2:=ab y.o 2;have z3:=ab y.o 3;have z4:=ab y.o 4;obtain⟨a0,a1,a2,a3,a4⟩:=cells5 y.o;obtain⟨b0,b1,y0,y1⟩:=dp bR.o;go_wp2_with fail
       change bodyPost _ _ _ _ _ (((set5 wd w.heap.size (int .u8 0) (string ⟨#[]⟩) (int i64 0) (int i64 0) (slice none 0 0)).setCell ⟨w.heap.size+1,0,none⟩ (int i64 203)).setCell ⟨w.heap.size+1,1,none⟩ (int i64 q));generalize ((set5 wd w.heap.size (int .u8 0) (string ⟨#[]⟩) (int i64 0) (int i64 0) (slice none 0 0)).setCell ⟨w.heap.size+1,0,none⟩ (int i64 203)).setCell ⟨w.heap.size+1,1,none⟩ (int i64 q)=WZ at *;exact j0 rfl rfl rfl K2.o K3.o (kw bt.o K1.o)
      | none =>
       dsimp only [Option.getD_none,Option.isSome_none];have ev:∀t∈S,dpM 29 t=none:=by
        have h:=HX.o;rw[O.o]at h;have h2:S.findSome? (dpM 29)=none:=h;rw[List.findSome?_eq_none_iff]at h2;exact h2
       have b2:=(rD k9.o ev).more;have hl:=Hd b2;have hp:=Hd ((la.o.depth (n:=28) ev).more);have F:eO wd wd.heap.size 30 T0 (.agg #[int .u8 1,string ⟨#[]⟩,int i64 0,int i64 0,.slice p S.length c]):=by
        rw[O.o];exact⟨mI S,_,rfl,b2.kids fun b l=>EF l.2 cA⟩
       have hq:=Hd (lW 30 T0 _ wd.heap.size wd F (EA _) (cx.o 30).slim lb.o);obtain⟨n0,n1,n2,n3,n4⟩:=cells5 et.o;clear ev b2 F;obtain⟨rt,hr⟩:=zzy (iJ 30 T0);rw[hr]at hq bt;clear hr;go_wp2_with fail
       refine EJ hq.o ?_;rintro e we ⟨rfl,U⟩;have hv:=Hd (eo.o.trans (U.mono eo.o.size));have f:=Hd (aa U y.o (by omega));have ak:=Hd (aa U bR.o (by omega));have lf:=Hd (aa U et.o ld);have ma:wd.heap.size≤we.heap.size:=U.size;have lg:=Hd (hl.o.below (fun b l=>EF l.2 cA) U);have lo:=Hd (hp.o.below U);clear U n0 n1 n2 n3 n4
       cases rt with
       | false =>
        obtain⟨k1,k2,k3,k4,k5⟩:=gZ (v0:=(int .u8 0)) (v1:=(string ⟨#[]⟩)) (v2:=(int i64 0)) (v3:=(int i64 0)) (v4:=(slice none 0 0)) (a0:=(int i64 204)) (a1:=(int i64 0)) hv.o f.o ak.o;have K1:=Hd k1;have K2:=Hd k2;have K3:=Hd k3;have K4:=Hd k4;have K5:=Hd k5;clear k1 k2 k3 k4 k5;have z0:=ab f.o 0;have z1:=ab f.o 1;have z2:=ab f.o 2;have z3:=ab f.o 3;have z4:=ab f.o 4;obtain⟨a0,a1,a2,a3,a4⟩:=cells5 f.o;obtain⟨b0,b1,y0,y1⟩:=dp ak.o;go_wp2_with fail
        change bodyPost _ _ _ _ _ (((set5 we w.heap.size (int .u8 0) (string ⟨#[]⟩) (int i64 0) (int i64 0) (slice none 0 0)).setCell ⟨w.heap.size+1,0,none⟩ (int i64 204)).setCell ⟨w.heap.size+1,1,none⟩ (int i64 0));generalize ((set5 we w.heap.size (int .u8 0) (string ⟨#[]⟩) (int i64 0) (int i64 0) (slice none 0 0)).setCell ⟨w.heap.size+1,0,none⟩ (int i64 204)).setCell ⟨w.heap.size+1,1,none⟩ (int i64 0)=WZ at *;exact j0 rfl rfl rfl K2.o K3.o (kw bt.o K1.o)
       | true =>
        obtain⟨n0,n1,n2,n3,n4⟩:=cells5 lf.o;obtain⟨k1,k2,k3,k4,k5⟩:=gZ (v0:=(int .u8 1)) (v1:=(string ⟨#[]⟩)) (v2:=(int i64 0)) (v3:=(int i64 0)) (v4:=(.slice p S.length c)) (a0:=(int i64 0)) (a1:=(int i64 0)) hv.o f.o ak.o;have K1:=Hd k1;have K2:=Hd k2;have K3:=Hd k3;have K4:=Hd k4;have K5:=Hd k5;clear k1 k2 k3 k4 k5;have z0:=ab f.o 0;have z1:=ab f.o 1;have z2:=ab f.o 2;have z3:=ab f.o 3;have z4:=ab f.o 4;obtain⟨a0,a1,a2,a3,a4⟩:=cells5 f.o;obtain⟨b0,b1,y0,y1⟩:=dp ak.o;go_wp2_with fail
        change bodyPost _ _ _ _ _ (((set5 we w.heap.size (int .u8 1) (string ⟨#[]⟩) (int i64 0) (int i64 0) (.slice p S.length c)).setCell ⟨w.heap.size+1,0,none⟩ (int i64 0)).setCell ⟨w.heap.size+1,1,none⟩ (int i64 0));generalize ((set5 we w.heap.size (int .u8 1) (string ⟨#[]⟩) (int i64 0) (int i64 0) (.slice p S.length c)).setCell ⟨w.heap.size+1,0,none⟩ (int i64 0)).setCell ⟨w.heap.size+1,1,none⟩ (int i64 0)=WZ at *;exact j0 rfl rfl rfl K2.o K3.o (zw bt.o O.o cx.o K1.o ((lo.o.keep (by rw[K5.o];exact EA _) (fun b l _=>K4.o b (by omega))).low (by omega)) (lg.o.keep fun b o l ho=>(K4.o b (by have:=l.1;omega)).trans ho) (fun b l=>⟨by have:=l.1;omega,by rw[K5.o];have:=l.2;omega⟩))
