/- Parts of one proof, joined; conditions stand in each theorem. -/
import Derived.Test.YtkhfjgjjhlnnnaaGreatDoorYMX
import Derived.Test.YtkhfjgjjhlnnnaaGreatDoorYMD
import Derived.Test.YtkhfjgjjhlnnnaaGreatDoorYMDD
import Derived.Test.YtkhfjgjjhlnnnaaGreatDoorYMXN
import Derived.Test.YtkhfjgjjhlnnnaaGreatDoorYMJ
import Derived.RegionTactic
open Bool renaming true→wP,false→xj
open Or renaming inl→z6,inr→z7
open Go renaming World→wD,Value→wF,undef→At
open Go.Ending renaming returned→z8
open Go.Value renaming tuple→CA,agg→xS,int→I,string→J,slice→A,pointer→xV,bool→AJ
open Go.IntKind renaming u8→O,i64→Z
open Option renaming some→Y,none→U
open Go.Obj renaming cells→wq
open Go.World renaming cell?→CR,setCell→CK
namespace Go.Proofs.YtkhfjgjjhlnnnaaGreatDoor
set_option maxHeartbeats 4000000
set_option maxRecDepth 100000
open Go.RowKit
section
variable {ts us:List Tok} {o d m:Nat} {e:Bool}
end
theorem xF(ts:List Tok)(ex:PS→ab×PS)(lvl:Nat)(pl:Int)(g:Nat)(T:ab)(σ:PS) :
  ig ts ex lvl pl (g+1) T σ=if isM ts σ (iR lvl)=wP then (if lvl=2 then (.mk 16 (txM ts σ) 0 pl [T,(ex (ag ts σ)).1],(ex (ag ts σ)).2) else ig ts ex lvl pl g (.mk 16 (txM ts σ) 0 pl [T,(ex (ag ts σ)).1]) (ex (ag ts σ)).2) else (T,σ):=rfl
theorem uP{ts:List Tok}:∀(f lvl:Nat) (σ:PS),σ.1<ts.length→(exM ts f lvl σ).2.1<ts.length:=by
 intro f;have i:∀σ:PS,σ.1<ts.length→(ag ts σ).1<ts.length:=fun σ h=>jN h
 have hw:∀(σ:PS) (x:ByteArray),σ.1<ts.length→(aT ts σ x).1<ts.length:=fun σ x h=>by
  unfold aT oO jZ;dsimp only;split
  ·exact jN h
  ·exact h
 have j:∀(σ:PS) (a b:Nat),σ.1<ts.length→(ofM ts σ a b).2.1<ts.length:=fun σ a b h=>jN h
 induction f with
 | zero=>intro lvl σ h;exact h
 | succ f c =>
  intro lvl σ h;unfold exM
  (repeat' split)
  ·exact h
  ·exact c _ _ (i _ h)
  ·exact hw _ _ (c _ _ (i _ h))
  ·exact j _ _ _ h
  ·exact j _ _ _ h
  ·exact j _ _ _ h
  ·have:∀(g:Nat) (T:ab) (σ:PS) (pl:Int),σ.1<ts.length→(ig ts (exM ts f (lvl+1)) lvl pl g T σ).2.1<ts.length:=by
    intro g
    induction g with
    | zero=>intro T σ pl h;exact h
    | succ g k =>
     intro T σ pl h;unfold ig
     split
     ·dsimp only
      split
      ·exact c _ _ (i _ h)
      ·exact k _ _ _ (c _ _ (i _ h))
     ·exact h
   exact this _ _ _ _ (c _ _ h)
theorem cF{ts:List Tok}{σ:PS}(h:σ.1<ts.length):(ag ts σ).1<ts.length:=jN h
theorem db{ts:List Tok}{σ:PS}(h:σ.1<ts.length)(x:ByteArray):(aT ts σ x).1<ts.length:=by
 unfold aT oO jZ;dsimp only
 split
 ·exact jN h
 ·exact h
theorem eN{ts:List Tok}{σ:PS}(h:σ.1<ts.length)(a b:Nat):(ofM ts σ a b).2.1<ts.length:=jN h
theorem D4{ts:List Tok}{σ:PS}{x:ByteArray}(h:(aT ts σ x).2=xj):σ.2=false:=by
 cases a:σ.2
 ·rfl
 ·rw[ei a]at h;cases h
theorem AC{ts:List Tok}(a:cE ts){σ:PS}(b:σ.1<ts.length){x:ByteArray}(h:(aT ts σ x).2=xj):(aT ts σ x).1=σ.1+1:=by
 have g:=D4 h;have c:isM ts σ [x]=true:=by
  have:(!(!σ.2&&isT (cO ts σ.1) [x]))=false:=h;unfold isM
  simpa using this
 obtain⟨f,_,_⟩:=fs a b c;rw[←f]
 show jZ ts σ.1 σ.2 (cO ts σ.1) [x]=_
 rw[←(jY ts σ [x]).1];unfold aQ;rw[rv c]
theorem mX(ts:List Tok)(one:PS→ab×PS)(g:Nat)(a:List ab)(σ:PS) :
  eO ts one (g+1) a σ=if isM ts σ [jz]=wP then eO ts one g (a++[(one (ag ts σ)).1]) (one (ag ts σ)).2 else (a,σ):=rfl
theorem oh(ts:List Tok)(one:PS→ab×PS)(stop:ByteArray)(g:Nat)(a:List ab)(σ:PS) :
  upTo ts one stop (g+1) a σ=if σ.2=wP then (a,σ) else if isM ts σ [stop]=wP then (a,σ) else upTo ts one stop g (a++[(one σ).1]) (one σ).2:=rfl
section
variable {ts us:List Tok} {o d m:Nat} {one one':PS→ab×PS}
theorem xE(a:∀σ:PS,σ.1<ts.length→(one σ).2.1<ts.length):∀(g:Nat) (b:List ab) (σ:PS),σ.1<ts.length→(eO ts one g b σ).2.1<ts.length:=by
 intro g
 induction g with
 | zero=>intro b σ h;exact h
 | succ g c =>
  intro b σ h;rw[mX]
  split
  ·exact c _ _ (a _ (cF h))
  ·exact h
theorem rK(a:∀σ:PS,σ.1<ts.length→(one σ).2.1<ts.length)(stop:ByteArray):∀(g:Nat) (b:List ab) (σ:PS),σ.1<ts.length→(upTo ts one stop g b σ).2.1<ts.length:=by
 intro g
 induction g with
 | zero=>intro b σ h;exact h
 | succ g c =>
  intro b σ h;rw[oh]
  split
  ·exact h
  ·split
   ·exact h
   ·exact c _ _ (a _ h)
theorem uZ(stop:ByteArray){σ:PS}(h:σ.2=wP)(g:Nat)(a:List ab):upTo ts one stop g a σ=(a,σ):=by
 cases g with
 | zero=>rfl
 | succ g=>rw[oh,rv h]
theorem xm(a:∀σ:PS,σ.1<ts.length→(one σ).2.1<ts.length){σ:PS}(b:σ.1<ts.length):(jc ts one σ).2.1<ts.length:=xE a _ _ _ (a _ b)
theorem mg(b:∀σ:PS,σ.1<ts.length→(one σ).2.1<ts.length){σ:PS}(a:σ.1<ts.length):(cn ts one σ).2.1<ts.length:=by
 unfold cn
 split
 ·exact cF (db a _)
 ·exact db (xm b (db a _)) _
theorem rn{σ:PS}(h:σ.1<ts.length):(gk ts σ).2.1<ts.length:=by
 unfold gk
 split
 ·exact cF h
 ·exact h
theorem wX{σ:PS}(h:σ.1<ts.length):(eS ts σ).2.1<ts.length:=by
 have a:∀σ:PS,σ.1<ts.length→(eH ts σ).2.1<ts.length:=fun σ h=>uP _ _ _ h
 unfold eS
 (repeat' split)
 ·exact db (mg a (eN (cF h) _ _)) _
 ·exact db (rn (cF h)) _
 ·exact db (xm a (cF h)) _
 ·exact db (db h _) _
theorem xc{σ:PS}(h:σ.1<ts.length):(ij ts σ).2.1<ts.length:=by
 unfold ij
 (repeat' split)
 ·exact rn (cF (cF h))
 ·exact rn (cF h)
 ·exact h
theorem Cr{σ:PS}(h:σ.2=wP):(ij ts σ).2.2=true:=by
 unfold ij;rw[qv (by rw[lW h];decide)];exact h
end
theorem Bb{ts:List Tok}{a:Int}{σ:PS}(h:σ.2=wP):(dJ ts a σ).2.2=true:=by
 unfold dJ;dsimp only;have b:(aT ts (ij ts (ofM ts σ 2 4).2).2 kB).2=true:=ei (Cr (oN h 2 4)) _;rw[uZ tTo b];dsimp only;rw[uZ dl (ei b _)];exact ei (ei b _) _
theorem rH{ts:List Tok}{σ:PS}(h:σ.1<ts.length):(em ts σ).2.1<ts.length:=by
 unfold em
 (repeat' split)
 ·exact cF h
 ·exact eN (cF h) 4 14
 ·exact eN h _ _
 ·exact eN h _ _
 ·exact eN h _ _
theorem pL{ts:List Tok}{σ:PS}(h:σ.1<ts.length):(dz ts (em ts) σ).2.1<ts.length:=by
 unfold dz
 (repeat' split)
 ·exact db (uP _ _ _ (cF h)) _
 ·exact db (mg (fun _ h=>rH h) (eN (cF h) _ _)) _
 ·exact db (mg (fun _ h=>rH h) (eN h _ _)) _
theorem BR{ts:List Tok}{a:Int}{σ:PS}(h:σ.1<ts.length):(dJ ts a σ).2.1<ts.length:=by
 unfold dJ;exact db (rK (fun _ h=>wX h) _ _ _ _ (db (rK (fun _ h=>pL h) _ _ _ _ (db (xc (eN h 2 4)) _)) _)) _
theorem BF{ts:List Tok}{σ:PS}(h:σ.1<ts.length):(eq ts (dJ ts) σ).2.1<ts.length:=by
 unfold eq
 split
 ·exact db (mg (fun _ h=>eN h 2 3) (eN (cF h) _ _)) _
 ·exact BR (db h _)
theorem pW{ts:List Tok}(a:cE ts){σ:PS}(b:σ.1<ts.length):(eq ts (dJ ts) σ).2.2=wP∨σ.1<(eq ts (dJ ts) σ).2.1:=by
 unfold eq
 by_cases c:isM ts σ [i5]=wP
 ·rw[rv c]
  right
  obtain⟨i,_,_⟩:=fs a b c;have f:=ed ts (ag ts σ) 2 2;have g:=io (ts:=ts) (fun σ=>ed ts σ 2 3) (ofM ts (ag ts σ) 2 2).2;have h:=bJ ts (cn ts (fun σ=>ofM ts σ 2 3) (ofM ts (ag ts σ) 2 2).2).2 ci;dsimp only;omega
 ·rw[qv c]
  cases f:(aT ts σ oJ).2 with
  | true=>exact z6 (Bb f)
  | false =>
   right
   have g:=AC a b f;have h:=pY ts (atM ts σ) (aT ts σ oJ);omega
def mJ(ts:List Tok):Nat→List ab→PS→List ab×PS
 | 0,a,σ=>(a,σ)
 | g+1,a,σ=>if σ.2=wP then (a,σ) else if kdM ts σ=7 then (a,σ) else mJ ts g (a++[(eq ts (dJ ts) σ).1]) (eq ts (dJ ts) σ).2
def lq(ts:List Tok):List ab×PS:=mJ ts (ts.length+1) [] (0,xj)
theorem mA(ts:List Tok)(g:Nat)(a:List ab)(σ:PS):mJ ts (g+1) a σ=if σ.2=wP then (a,σ) else if kdM ts σ=7 then (a,σ) else mJ ts g (a++[(eq ts (dJ ts) σ).1]) (eq ts (dJ ts) σ).2:=rfl
def dG:Nat→ab→Prop
 | 0,T=>T.f.size≤16390∧(0≤T.y∧T.y≤16384)
 | d+1,T=>T.f.size≤16390∧(0≤T.y∧T.y≤16384)∧T.u.length≤16390∧∀k∈T.u,dG d k
theorem dG.slim:∀{d:Nat} {T:ab},dG d T→gx d T:=by
 intro d
 induction d with
 | zero=>intro T h;exact (show T.f.size≤72007 by have:=h.1;omega)
 | succ d a=>intro T h;exact⟨by have:=h.1;omega,by have:=h.2.2.1;omega,fun k b=>a (h.2.2.2 k b)⟩
theorem ee{k:Nat}{t:ByteArray}{n p:Int}{l:List ab}(a:t.size≤16390)(b:0≤p∧p≤16384)(c:l.length≤16390)(h:∀x∈l,∀d,dG d x):∀d,dG d (.mk k t n p l):=by
 intro d
 cases d with
 | zero=>exact⟨a,b⟩
 | succ d=>exact⟨a,b,c,fun x f=>h x f d⟩
section
variable {ts:List Tok}
theorem f6(a:cE ts)(σ:PS):0≤atM ts σ∧atM ts σ≤16384:=by
 have:=(cK a σ.1).2.2;unfold atM;omega
theorem pP(a:cE ts)(σ:PS):(txM ts σ).size≤16384:=(cK a σ.1).2.1
theorem i7(c:cE ts)(σ:PS)(a b:Nat):∀d,dG d (ofM ts σ a b).1:=ee (by have:=(cK c σ.1).2.1;omega) (f6 c σ) (by simp) (fun x f=>by cases f)
theorem nP:∀d,dG d fV:=ee (show (0:Nat)≤16390 by omega) (by omega) (by simp) (fun x a=>by cases a)
theorem xX(b:cE ts){ex:PS→ab×PS}(hex:∀σ,∀d,dG d (ex σ).1)(lvl:Nat)(pl:Int)(c:0≤pl∧pl≤16384):∀(g:Nat) (T:ab) (σ:PS),(∀d,dG d T)→∀d,dG d (ig ts ex lvl pl g T σ).1:=by
 intro g
 induction g with
 | zero=>intro T σ h;exact h
 | succ g i =>
  intro T σ h;rw[xF]
  have f:∀d,dG d (.mk 16 (txM ts σ) 0 pl [T,(ex (ag ts σ)).1]):=ee (by have:=pP b σ;omega) c (by simp) (fun x a=>by
   rcases FA.1 a with rfl|a
   ·exact h
   ·rw[List.mem_singleton]at a;subst a;exact hex _)
  split
  ·split
   ·exact f
   ·exact i _ _ f
  ·exact h
theorem pG(a:cE ts):∀(f lvl:Nat) (σ:PS),∀d,dG d (exM ts f lvl σ).1:=by
 intro f
 induction f with
 | zero=>intro lvl σ;exact nP
 | succ f b =>
  intro lvl σ;unfold exM
  (repeat' split)
  ·exact nP
  ·exact ee (by have:=pP a σ;omega) (f6 a σ) (by simp) (fun x c=>by rw[List.mem_singleton]at c;subst c;exact b _ _)
  ·exact b _ _
  ·exact i7 a _ _ _
  ·exact i7 a _ _ _
  ·exact i7 a _ _ _
  ·exact xX a (fun σ=>b _ σ) _ _ (f6 a σ) _ _ _ (b _ _)
def iL(l:List ab):Prop:=l.length≤16390∧∀x∈l,∀d,dG d x
theorem oo{b:List ab}{t:ab}(h:∀x∈b,∀d,dG d x)(c:∀d,dG d t):∀x∈b++[t],∀d,dG d x:=fun x a=>by
 rcases List.mem_append.1 a with a|a
 ·exact h x a
 ·rw[List.mem_singleton]at a;subst a;exact c
theorem tL(f:cE ts)(p:ts.length≤16385){one:PS→ab×PS}(b:∀σ,∀d,dG d (one σ).1)(i:∀σ,σ.1≤(one σ).2.1)(j:∀σ:PS,σ.1<ts.length→(one σ).2.1<ts.length) :
  ∀(g:Nat) (a:List ab) (σ:PS),σ.1<ts.length→a.length≤σ.1+1→(∀x∈a,∀d,dG d x)→iL (eO ts one g a σ).1:=by
 intro g
 induction g with
 | zero=>intro a σ c l h;exact⟨by show a.length≤_;omega,h⟩
 | succ g n =>
  intro a σ c l h;rw[mX]
  by_cases k:isM ts σ [jz]=wP
  ·rw[rv k];obtain⟨q,r,s⟩:=fs f c k;have t:=i (ag ts σ);exact n _ _ (j _ (by omega)) (by rw[Fc,FG];omega) (oo h (b _))
  ·rw[qv k];exact⟨by show a.length≤_;omega,h⟩
theorem sR(c:cE ts)(i:ts.length≤16385){one:PS→ab×PS}(a:∀σ,∀d,dG d (one σ).1)(f:∀σ,σ.1≤(one σ).2.1)(b:∀σ:PS,σ.1<ts.length→(one σ).2.1<ts.length){σ:PS}(g:σ.1<ts.length):iL (jc ts one σ).1:=
 tL c i a f b _ _ _ (b _ g) (by simp) (fun x h=>by rw[List.mem_singleton]at h;subst h;exact a _)
theorem mf(b:cE ts)(h:ts.length≤16385){one:PS→ab×PS}(a:∀σ,∀d,dG d (one σ).1)(c:∀σ,σ.1≤(one σ).2.1)(f:∀σ:PS,σ.1<ts.length→(one σ).2.1<ts.length){σ:PS}(g:σ.1<ts.length):iL (cn ts one σ).1:=by
 unfold cn
 split
 ·exact⟨by simp,fun x i=>by cases i⟩
 ·exact sR b h a c f (db g _)
theorem sW(q:ts.length≤16385){one:PS→ab×PS}(f:∀σ:PS,σ.1<ts.length→∀d,dG d (one σ).1)(i:∀σ,σ.1≤(one σ).2.1)(j:∀σ:PS,σ.1<ts.length→(one σ).2.1<ts.length)(k:∀σ:PS,σ.1<ts.length→(one σ).2.2=wP∨σ.1<(one σ).2.1)(stop:ByteArray) :
  ∀(g:Nat) (a:List ab) (σ:PS),σ.1<ts.length→a.length≤σ.1+(if σ.2=wP then 1 else 0)→(∀x∈a,∀d,dG d x)→iL (upTo ts one stop g a σ).1∧(upTo ts one stop g a σ).1.length≤(upTo ts one stop g a σ).2.1+(if (upTo ts one stop g a σ).2.2=wP then 1 else 0):=by
 intro g
 induction g with
 | zero =>
  intro a σ b c h;refine⟨⟨?_,h⟩,c⟩
  show a.length≤_
  split at c<;>omega
 | succ g p =>
  intro a σ b c h;have done:iL a:=⟨by split at c<;>omega,h⟩
  rw[oh]
  by_cases l:σ.2=wP
  ·rw[rv l];exact⟨done,c⟩
  ·rw[qv l]
   by_cases n:isM ts σ [stop]=wP
   ·rw[rv n];exact⟨done,c⟩
   ·rw[qv n];rw[qv l]at c;have r:=i σ;refine p _ _ (j _ b) ?_ (oo h (f _ b));rw[Fc,FG];rcases k σ b with h|h
    ·rw[rv h];omega
    ·split<;>omega
theorem Br(a:cE ts)(σ:PS):∀d,dG d (em ts σ).1:=by
 unfold em
 (repeat' split)
 ·exact ee (show (0:Nat)≤16390 by omega) (f6 a σ) (by simp) (fun x b=>by cases b)
 ·refine ee ?_ (f6 a σ) (by simp) (fun x b=>by cases b);have c:=pP a (ag ts σ);have f:(bm++txM ts (ag ts σ)).size=1+(txM ts (ag ts σ)).size:=by rw[ByteArray.size_append];rfl
  omega
 ·exact i7 a _ _ _
 ·exact i7 a _ _ _
 ·exact i7 a _ _ _
theorem kW(c:cE ts)(σ:PS)(a b:Nat):(ofM ts σ a b).1.f.size≤16390:=by
 have:=(cK c σ.1).2.1
 show (cO ts σ.1).2.1.size≤_
 omega
theorem yw(a:cE ts)(i:ts.length≤16385){σ:PS}(b:σ.1<ts.length):∀d,dG d (dz ts (em ts) σ).1:=by
 have c:∀{f:PS},f.1<ts.length→iL (cn ts (em ts) f).1:=fun h=>mf a i (Br a) (jm ts) (fun _ h=>rH h) h
 unfold dz
 (repeat' split)
 ·exact ee (show (0:Nat)≤16390 by omega) (f6 a σ) (by simp) (fun x g=>by rw[List.mem_singleton]at g;subst g;exact pG a _ _ _)
 ·exact ee (kW a _ _ _) (f6 a σ) (c (eN (cF b) 2 6)).1 (c (eN (cF b) 2 6)).2
 ·exact ee (kW a _ _ _) (f6 a σ) (c (eN b 2 5)).1 (c (eN b 2 5)).2
theorem Ai(a:cE ts)(g:ts.length≤16385){σ:PS}(b:σ.1<ts.length):∀d,dG d (eS ts σ).1:=by
 have c:∀σ:PS,σ.1<ts.length→(eH ts σ).2.1<ts.length:=fun σ h=>uP _ _ _ h
 have i:∀{f:PS},f.1<ts.length→iL (cn ts (eH ts) f).1:=fun h=>mf a g (fun σ=>pG a _ _ σ) (ge ts) c h
 have j:∀{f:PS},f.1<ts.length→iL (jc ts (eH ts) f).1:=fun h=>sR a g (fun σ=>pG a _ _ σ) (ge ts) c h
 unfold eS
 (repeat' split)
 ·exact ee (kW a _ _ _) (f6 a σ) (i (eN (cF b) 2 8)).1 (i (eN (cF b) 2 8)).2
 ·exact ee (show (0:Nat)≤16390 by omega) (f6 a σ) (by simp) (fun x c=>by cases c)
 ·exact ee (show (0:Nat)≤16390 by omega) (f6 a σ) (j (cF b)).1 (j (cF b)).2
 ·exact ee (show (0:Nat)≤16390 by omega) (f6 a σ) (by simp) (fun x c=>by cases c)
theorem yA(b:cE ts)(c:ts.length≤16385)(a:Int)(j:0≤a∧a≤16384){σ:PS}(f:σ.1<ts.length):∀d,dG d (dJ ts a σ).1:=by
 unfold dJ;dsimp only;have g:=db (xc (eN f (ts:=ts) 2 4)) kB;obtain⟨k,c2⟩:=sW c (fun σ h=>yw b c h) (pK (jm ts)) (fun _ h=>pL h) (fun σ h=>qg b (jm ts) (fun _ h=>pI h) h) tTo (ts.length+1) [] _ g (Fa _) (fun x l=>by cases l);have n:=rK (fun _ h=>pL h) tTo (ts.length+1) [] _ g;generalize upTo ts (dz ts (em ts)) tTo (ts.length+1) [] (aT ts (ij ts (ofM ts σ 2 4).2).2 kB)=cs at *;have hw:=bJ ts cs.2 tTo
 obtain⟨i,_⟩:=sW c (fun σ h=>Ai b c h) (rl ts) (fun _ h=>wX h) (fun σ h=>rj b h) dl (ts.length+1) cs.1 _ (db n tTo) (by
  by_cases h:cs.2.2=wP
  ·rw[rv h]at c2;rw[rv (ei h _)];omega
  ·rw[qv h]at c2;omega) k.2
 exact ee (kW b _ _ _) j i.1 i.2
theorem xK(a:cE ts)(c:ts.length≤16385){σ:PS}(b:σ.1<ts.length):∀d,dG d (eq ts (dJ ts) σ).1:=by
 have f:∀{g:PS},g.1<ts.length→iL (cn ts (fun σ=>ofM ts σ 2 3) g).1:=fun h=>mf a c (fun σ=>i7 a σ 2 3) (fun σ=>ed ts σ 2 3) (fun _ h=>eN h 2 3) h
 unfold eq
 split
 ·exact ee (kW a _ _ _) (f6 a σ) (f (eN (cF b) 2 2)).1 (f (eN (cF b) 2 2)).2
 ·exact yA a c _ (f6 a σ) (db b _)
theorem xU(c:cE ts)(j:ts.length≤16385):∀(g:Nat) (b:List ab) (σ:PS),σ.1<ts.length→b.length≤σ.1+(if σ.2=wP then 1 else 0)→(∀x∈b,∀d,dG d x)→iL (mJ ts g b σ).1:=by
 intro g
 induction g with
 | zero =>
  intro b σ a f h;refine⟨?_,h⟩
  show b.length≤_
  split at f<;>omega
 | succ g k =>
  intro b σ a f h;have done:iL b:=⟨by split at f<;>omega,h⟩
  rw[mA]
  by_cases i:σ.2=wP
  ·rw[rv i];exact done
  ·rw[qv i]
   split
   ·exact done
   ·rw[qv i]at f;have l:=t7 (ts:=ts) (pY ts) σ;refine k _ _ (BF a) ?_ (oo h (xK c j a));rw[Fc,FG];rcases pW c a with h|h
    ·rw[rv h];omega
    ·split<;>omega
theorem yC(a:cE ts)(b:ts.length≤16385)(c:0<ts.length):iL (lq ts).1:=xU a b _ _ _ c (Fa _) (fun x f=>by cases f)
end
theorem ve(s:ByteArray):∀(n p:Nat),s.size-p≤n→∀t∈(aJ s p).1,p≤t.2.2:=by
 intro n
 induction n with
 | zero =>
  intro p h t a;rw[dD s p (by rw[eR s p (by omega)];omega)]at a
  cases a
 | succ n g =>
  intro p h t a;have c:=kJ s _ p (EO _)
  by_cases b:skip s p<s.size
  ·by_cases f:(aj s (skip s p) s[skip s p]).2.2.1=0
   ·obtain⟨i,n2⟩:=fB s (skip s p) b f;rw[fj s p b f]at a;rcases FA.1 a with rfl|a
    ·exact c
    ·have:=g _ (by omega) t a;omega
   ·rw[fy s p b f]at a;cases a
  ·rw[dD s p b]at a;cases a
def fW(s:ByteArray):List Tok:=(aJ s 0).1++[(7,⟨#[]⟩,s.size)]
theorem vU(s:ByteArray):∀(n p:Nat),s.size-p≤n→((aJ s p).1).Pairwise (fun a b=>a.2.2<b.2.2)∧∀t∈(aJ s p).1,t.2.2<s.size:=by
 intro n
 induction n with
 | zero =>
  intro p h;rw[dD s p (by rw[eR s p (by omega)];omega)];exact⟨List.Pairwise.nil,fun t c=>by cases c⟩
 | succ n i =>
  intro p h;have j:=kJ s _ p (EO _)
  by_cases f:skip s p<s.size
  ·by_cases g:(aj s (skip s p) s[skip s p]).2.2.1=0
   ·obtain⟨l,n2⟩:=fB s (skip s p) f g;rw[fj s p f g];obtain⟨k,i2⟩:=i (aj s (skip s p) s[skip s p]).2.2.2 (by omega);refine⟨List.Pairwise.cons (fun t c=>?_) k,fun t c=>?_⟩
    ·have:=ve s _ _ (EO _) t c
     show skip s p<t.2.2
     omega
    ·rcases FA.1 c with rfl|c
     ·exact f
     ·exact i2 t c
   ·rw[fy s p f g];exact⟨List.Pairwise.nil,fun t c=>by cases c⟩
  ·rw[dD s p f];exact⟨List.Pairwise.nil,fun t c=>by cases c⟩
theorem wG(s:ByteArray):∀(n p:Nat),s.size-p≤n→p≤s.size→∀t∈(aJ s p).1,t.1<7∧t.2.1.size≤s.size:=by
 intro n
 induction n with
 | zero =>
  intro p h f t a;rw[dD s p (by rw[eR s p (by omega)];omega)]at a
  cases a
 | succ n g =>
  intro p h f t a;have i:=kJ s _ p (EO _)
  by_cases b:skip s p<s.size
  ·by_cases c:(aj s (skip s p) s[skip s p]).2.2.1=0
   ·obtain⟨k,n2⟩:=fB s (skip s p) b c;obtain⟨s1,s2,j⟩:=ue s (skip s p) b c;rw[fj s p b c]at a;rcases FA.1 a with rfl|a
    ·refine⟨j,?_⟩;dsimp only;omega
    ·exact g _ (by omega) n2 t a
   ·rw[fy s p b c]at a;cases a
  ·rw[dD s p b]at a;cases a
theorem mW(s:ByteArray):(fW s).length=(aJ s 0).1.length+1:=by unfold fW;simp
theorem CJ(s:ByteArray)(h:s.size≤16384):cE (fW s):=by
 have i:=wG s _ 0 (EO _) (Fa _);obtain⟨_,j⟩:=vU s _ 0 (EO _);refine⟨fun t c=>?_,fun k t f l=>?_⟩
 ·unfold fW at c;rcases List.mem_append.1 c with c|c
  ·obtain⟨a,b⟩:=i t c;have:=j t c;exact⟨by omega,by omega,by omega⟩
  ·rw[List.mem_singleton]at c;subst c;exact⟨by show 7<256;omega,by show (0:Nat)≤16384;omega,h⟩
 ·rw[mW]at l;unfold fW at f;have g:k<((aJ s 0).1++[(7,(⟨#[]⟩:ByteArray),s.size)]).length:=(Fe.1 f).1;rw[Fc,FG]at g;obtain rfl:k=(aJ s 0).1.length:=by omega
  rw[Ft (EO _),Nat.sub_self]at f;have:(7,(⟨#[]⟩:ByteArray),s.size)=t:=by simpa using f
  rw[←this]
def tA(s:ByteArray):ab:=.mk 1 ⟨#[]⟩ 0 0 (lq (fW s)).1
def tB(ts:List Tok) (R:List ab×PS) (a:ab):ab×Int×Int:=
 if R.2.2=wP then (fV,202,atM ts R.2)
 else match dpM 30 a with
  | some p=>(fV,203,p)
  | none=>if fQ 30 a=wP then (a,0,0) else (fV,204,0)
def gm(s:ByteArray):ab×Int×Int:=
 if 16384<s.size then (fV,3,0)
 else match (aJ s 0).2 with
  | some (er,pl)=>(fV,er,pl)
  | none=>tB (fW s) (lq (fW s)) (tA s)
def du(W:wD) (L d:Nat) (a:List ab) (v:wF):Prop:=∃(rows:List (List wF)) (b:Nat→Nat→Prop),W.ownsRow L 25 5 v a.length rows.flatten∧cD W L d a a.length v.ownBlock rows b
theorem du.z{W W':wD}{L d:Nat}{j:List ab}{v:wF}(h:du W L d j v)(g:FK W W'):du W' L d j v:=by
 obtain⟨rows,k,l,n,r2,p,r4,q,r⟩:=h;refine⟨rows,k,ownsRow_below l g,n,r2,fun i T t u=>?_,fun i b f=>⟨(r4 i b f).1,ET (r4 i b f).2.1 g.size,(r4 i b f).2.2⟩,q,r⟩;obtain⟨a,s,b,c⟩:=p i T t u;exact⟨a,s,b,c.z (fun b f=>(r4 i b f).2.1) g⟩
theorem du.C{W W':wD}{L d:Nat}{k:List ab}{v:wF}(h:du W L d k v)(r:W.heap.size≤W'.heap.size)(l:∀b,L≤b→b<W.heap.size→W'.heap[b]?=W.heap[b]?):du W' L d k v:=by
 obtain⟨rows,t,⟨u,j⟩,w,r2,y,r4,z,B⟩:=h;refine⟨rows,t,⟨u,?_⟩,w,r2,fun i T C D=>?_,fun i b f=>⟨(r4 i b f).1,ET (r4 i b f).2.1 r,(r4 i b f).2.2⟩,z,B⟩
 ·rcases j with j|⟨g,cap,cur,E,n,p,F⟩
  ·exact z6 j
  ·exact z7 ⟨g,cap,cur,E,n,(l g n (EN.1 p).1).trans p,F⟩
 ·obtain⟨a,s,b,c⟩:=y i T C D;exact⟨a,s,b,c.C fun x o q G=>(l x (r4 i x q).1 (r4 i x q).2.1).trans G⟩
theorem du.low{W:wD}{L a d:Nat}{c:List ab}{v:wF}(h:du W L d c v)(f:a≤L):du W a d c v:=by
 obtain⟨rows,j,k,l,r2,n,r4,p,q⟩:=h;exact⟨rows,j,ownsRow_base k f,l,r2,n,fun i b g=>⟨EU f (r4 i b g).1,(r4 i b g).2⟩,p,q⟩
def rP(w:wD) (r:ab×Int×Int) (e:Ending) (w':wD):Prop:=
 ∃(a:wF),e=z8 (CA #[xS #[I O r.1.b,J r.1.f,I Z r.1.h,I Z r.1.y,a],xS #[I Z r.2.1,I Z r.2.2]])∧FK w w'∧OwnAt w' 30 r.1.u a (bM w.heap.size w'.heap.size)∧Fits r.1∧(∀d,dG d r.1)∧du w' w.heap.size 29 r.1.u a
def uB(w:wD) (P L cap:Nat) (ts:List Tok) (R:List ab×PS) (b:Nat) (W:wD):Prop:=
 ∃(g:Nat) (a:List ab) (σ:PS) (d:Nat) (rows:List (List wF)) (c:Nat→Nat→Prop) (o:wF),mJ ts g a σ=R∧(σ.2=wP∨ts.length-σ.1+1≤g)∧a.length≤σ.1+(if σ.2=wP then 1 else 0)∧
  ax w P L cap ts σ.1 σ.2 W∧W.heap[b]?=Y (wq #[I O 1,J ⟨#[]⟩,I Z 0,I Z 0,o] 25 (0,0))∧
  W.ownsRow (b+1) 25 5 o a.length rows.flatten∧cD W (b+1) d a a.length o.ownBlock rows c
theorem sB{W:wD}:∀{n d:Nat} {a:List ab} {b:wF} {F:Nat→Prop},OwnAt W d a b F→(∀t∈a,dpM n t=U)→OwnAt W n a b F:=by
 intro n
 induction n with
 | zero =>
  intro d a b F h c;have j:a=[]:=by
   cases a with
   | nil=>rfl
   | cons t r=>have:=c t (List.mem_cons_self ..);cases this
  subst j;exact⟨V,h.nil⟩
 | succ n k =>
  intro d a b F h c
  cases d with
  | zero=>exact z6 h
  | succ d =>
   rcases h with h|⟨g,cap,cs,l,p,q,u,v,w,x,y,z,B,C⟩
   ·exact z6 h
   ·refine z7 ⟨g,cap,cs,l,p,q,u,v,w,x,y,fun i T f=>?_,B,C⟩;obtain⟨D,s,E,G⟩:=z i T f;refine⟨D,s,E,k G fun t H=>?_⟩;have:=c T (Fj f);unfold dpM at this;rw[List.findSome?_eq_none_iff]at this;exact this t H
theorem du.depth{W:wD}{L d n:Nat}{f:List ab}{v:wF}(h:du W L d f v)(j:∀t∈f,dpM (n+1) t=U):du W L n f v:=by
 obtain⟨rows,k,l,p,r2,q,r4⟩:=h;refine⟨rows,k,l,p,r2,fun i T r g=>?_,r4⟩;obtain⟨a,s,b,c⟩:=q i T r g;refine⟨a,s,b,sB c fun t u=>?_⟩;have:=j T (Fj g);unfold dpM at this;rw[List.findSome?_eq_none_iff]at this;exact this t u
theorem du.more{W:wD}{L d:Nat}{f:List ab}{v:wF}(h:du W L d f v):du W L (d+1) f v:=by
 obtain⟨rows,g,j,k,r2,l,r4⟩:=h;exact⟨rows,g,j,k,r2,fun i T n p=>by obtain⟨a,s,b,c⟩:=l i T n p;exact⟨a,s,b,c.more⟩,r4⟩
theorem Ak(W:wD)(L d:Nat):du W L d [] (A U 0 0):=⟨[],fun _ _=>False,World.ownsRow_nil _ _ _ _,lr _ _ _ _⟩
theorem zC:Fits fV:=fu (by omega) (by show (0:Nat)≤16384;omega) (by omega) (by omega)
theorem nD(a:List ab):Fits (.mk 1 ⟨#[]⟩ 0 0 a):=fu (by omega) (by show (0:Nat)≤16384;omega) (by omega) (by omega)
theorem rh{w c W:wD}{P L cap k:Nat}{bad:Bool}{ts:List Tok}(a:FK w c)(b:ax c P L cap ts k bad W)(g:w.heap.size≤P):FK w W:=
 ⟨b.1.os.trans a.os,b.1.tape.trans a.tape,b.1.output.trans a.output,EU a.size b.1.size,fun i f=>(b.1.block i (ET f a.size) (fun e=>by injection e with e;omega)).trans (a.block i f)⟩
theorem kS{w W:wD}{a:Act}{v0 v1 v2 v3 v4 c f:wF}{R:Ending→wD→Prop}(j:a.tmps.getD 2 At=xV (Y ⟨w.heap.size,0,U⟩))(k:a.tmps.getD 3 At=xV (Y ⟨w.heap.size+1,0,U⟩))(l:a.defers=[])
  (g:W.heap[w.heap.size]?=Y (wq #[v0,v1,v2,v3,v4] 25 (0,0))) (b:W.heap[w.heap.size+1]?=Y (wq #[c,f] 35 (0,0))) (n:R (z8 (CA #[xS #[v0,v1,v2,v3,v4],xS #[c,f]])) W):bodyPost Tryz.prog Tryz.f31 R .ret a W:=by
 obtain⟨p,q,c2,r,c4⟩:=cells5 g;have d0:W.cell? ⟨w.heap.size+1,0,U⟩=Y c:=by simp[CR,b]
 have d1:W.cell? ⟨w.heap.size+1,1,U⟩=Y f:=by simp[CR,b]
 have h:a.tmps[2]?.getD At=xV (Y ⟨w.heap.size,0,U⟩):=by simpa using j
 have i:a.tmps[3]?.getD At=xV (Y ⟨w.heap.size+1,0,U⟩):=by simpa using k
 refine bodyPost_ret (v:=CA #[xS #[v0,v1,v2,v3,v4],xS #[c,f]]) ?_ l n;simp[results,Tryz.results31,go_sem,h,i,p,q,c2,r,c4,d0,d1]
theorem AV{W:wD}{b:Nat}{a c:wF}{t:TypeId}(h:W.heap[b]?=Y (wq #[a,c] t (0,0)))(v0 v1:wF) :
  ((W.setCell ⟨b,0,U⟩ v0).setCell ⟨b,1,U⟩ v1).heap[b]?=Y (wq #[v0,v1] t (0,0)):=by
 rw[heap_set (heap_set h 0 v0) 1 v1];rfl
theorem eB{W:wD}{b:Nat}{a c:wF}{t:TypeId}(h:W.heap[b]?=Y (wq #[a,c] t (0,0))):W.cell? ⟨b,0,U⟩=Y a∧W.cell? ⟨b,1,U⟩=Y c∧W.frozen? ⟨b,0,U⟩=xj∧W.frozen? ⟨b,1,U⟩=false:=by refine⟨by simp[CR,h],by simp[CR,h],by simp[World.frozen?,h],by simp[World.frozen?,h]⟩
theorem iS{w W:wD}{v0 v1 v2 v3 v4 a0 a1:wF}{f g h i j k l:wF}(n:FK w W)(a:W.heap[w.heap.size]?=Y (wq #[f,g,h,i,j] 25 (0,0)))(c:W.heap[w.heap.size+1]?=Y (wq #[k,l] 35 (0,0))) :
  FK w (((set5 W w.heap.size v0 v1 v2 v3 v4).setCell ⟨w.heap.size+1,0,U⟩ a0).setCell ⟨w.heap.size+1,1,U⟩ a1)∧
  (((set5 W w.heap.size v0 v1 v2 v3 v4).setCell ⟨w.heap.size+1,0,U⟩ a0).setCell ⟨w.heap.size+1,1,U⟩ a1).heap[w.heap.size]?=Y (wq #[v0,v1,v2,v3,v4] 25 (0,0))∧
  (((set5 W w.heap.size v0 v1 v2 v3 v4).setCell ⟨w.heap.size+1,0,U⟩ a0).setCell ⟨w.heap.size+1,1,U⟩ a1).heap[w.heap.size+1]?=Y (wq #[a0,a1] 35 (0,0))∧
  (∀b,w.heap.size+2≤b→(((set5 W w.heap.size v0 v1 v2 v3 v4).setCell ⟨w.heap.size+1,0,U⟩ a0).setCell ⟨w.heap.size+1,1,U⟩ a1).heap[b]?=W.heap[b]?)∧
  (((set5 W w.heap.size v0 v1 v2 v3 v4).setCell ⟨w.heap.size+1,0,U⟩ a0).setCell ⟨w.heap.size+1,1,U⟩ a1).heap.size=W.heap.size:=by
 refine⟨?_,?_,?_,fun b q=>?_,?_⟩
 ·unfold set5;exact ((((((n.setCell (p:=⟨w.heap.size,0,U⟩) (EO _) v0).setCell (p:=⟨w.heap.size,1,U⟩) (EO _) v1).setCell (p:=⟨w.heap.size,2,U⟩) (EO _) v2).setCell (p:=⟨w.heap.size,3,U⟩) (EO _) v3).setCell (p:=⟨w.heap.size,4,U⟩) (EO _) v4).setCell (p:=⟨w.heap.size+1,0,U⟩) (Fl _) a0).setCell (p:=⟨w.heap.size+1,1,U⟩) (Fl _) a1
 ·exact (ER _ _ _ _ (show w.heap.size≠w.heap.size+1 by omega)).trans ((ER _ _ _ _ (show w.heap.size≠w.heap.size+1 by omega)).trans (aZ a v0 v1 v2 v3 v4))
 ·exact AV ((ky (show w.heap.size+1≠w.heap.size by omega) v0 v1 v2 v3 v4).trans c) a0 a1
 ·exact (ER _ _ _ _ (show b≠w.heap.size+1 by omega)).trans ((ER _ _ _ _ (show b≠w.heap.size+1 by omega)).trans (ky (show b≠w.heap.size by omega) v0 v1 v2 v3 v4))
 ·rw[CK,CK];simp[set5,CK]
theorem xC(s:ByteArray)(a:wD)(g:aR a):Calls Tryz.prog 54 #[J s] a fun e w'=>FK a w'∧
  ((∃er pl:Nat,gm s=(fV,(er:Int),(pl:Int))∧er≠0∧e=z8 (CA #[A U 0 0,xS #[I Z er,I Z pl]]))∨
   (s.size≤16384∧(aJ s 0).2=U∧∃v,e=z8 (CA #[v,xS #[I Z 0,I Z 0]])∧w'.ownsRow a.heap.size 122 3 v (fW s).length (bQ (fW s)))):=by
 by_cases f:16384<s.size
 ·refine (oZ s a f).mono ?_;rintro e w' ⟨rfl,b⟩;exact⟨b,z6 ⟨3,0,by unfold gm;rw[rv f];rfl,by decide,V⟩⟩
 ·refine (qp s a (by omega) g).mono ?_;rintro e w' ⟨b,⟨c,v,rfl,h⟩|⟨er,pl,c,rfl⟩⟩
  ·refine⟨b,z7 ⟨by omega,c,v,V,?_⟩⟩;rw[mW];exact h
  ·refine⟨b,z6 ⟨er,pl,by unfold gm;rw[qv f,c],(BI s _ 0 er pl c).1,V⟩⟩
theorem zD{w W:wD}{s:ByteArray}{f:ab}{a:List ab}{p:Option Addr}{c:Nat}{F:Nat→Prop}(hm:gm s=if wP=wP then (f,0,0) else (fV,204,0))(i:f=.mk 1 ⟨#[]⟩ 0 0 a)(g:∀d,dG d f)(j:FK w W)(h:du W w.heap.size 29 a (A p a.length c))
  (k:OwnAt W 30 a (A p a.length c) F) (hF:∀b,F b→bM w.heap.size W.heap.size b) :
  rP w (gm s) (z8 (CA #[xS #[I O 1,J ⟨#[]⟩,I Z 0,I Z 0,A p a.length c],xS #[I Z 0,I Z 0]])) W:=by
 rw[hm,rv V];subst i;exact⟨_,V,j,k.N hF,nD a,g,h⟩
theorem pd(a:Int)(x:ByteArray)(p:Int)(W:wD):(Instr.field 122 (xS #[I O a,J x,I Z p]) 0).run Tryz.prog W=.ok (I O a) W:=by kernel_rfl
theorem ln{w W:wD}{s:ByteArray}{er pl:Int}(hm:gm s=(fV,er,pl))(a:FK w W) :
  rP w (gm s) (z8 (CA #[xS #[I O 0,J ⟨#[]⟩,I Z 0,I Z 0,A U 0 0],xS #[I Z er,I Z pl]])) W:=by
 rw[hm];exact⟨A U 0 0,V,a,z6 ⟨V,z6 V⟩,zC,nP,Ak _ _ _⟩
theorem vL(s:ByteArray)(w:wD)(ht:aR w):Calls Tryz.prog 31 #[J s] w (rP w (gm s)):=by
 obtain⟨wA,bd⟩:=zzx ((w.alloc (wq bO 25)).alloc (wq #[I Z 0,I Z 0] 35));have cb:FK w wA:=by rw[bd];exact fU w _ _
 obtain⟨X0,X1,_⟩:=ap w (wq bO 25) (wq #[I Z 0,I Z 0] 35);rw[←bd]at X0 X1;obtain⟨HT,hz⟩:=zz2 (xC s wA (ht.z cb)) (ht.z cb);have e2:(1:Nat)<w.heap.size:=ht.lt;obtain⟨i0,hA,hC,hD,hG⟩:=info_parts qh;have ar:Hid (wA.heap.size=w.heap.size+2):=by show _=_;rw[bd];simp
 obtain⟨c3,c5,cc⟩:=zz3 X0 X1 cb;clear X0 X1 cb ht
 go_enter Tryz.func31,Tryz.ntmps31
 go_upto_region 1 with fail
 change Code.wp _ _ _ _ ((w.alloc (wq bO 25)).alloc (wq #[I Z 0,I Z 0] 35));rw[←bd];clear bd;go_wp2_with fail
 refine EX HT.o ?_;rintro e w1 ⟨ak,⟨er,pl,hm,hI,rfl⟩|⟨hs,h0,v,rfl,av⟩⟩
 ·have HM:=Hd hm;have lg:((er:Int) != 0)=true:=by simp;omega
  obtain⟨H,K⟩:=zzx (w1.alloc (wq #[I Z er,I Z pl] 35));have S:FK wA H:=by rw[K];exact ak.alloc ak.size _
  have bk:H.heap[w1.heap.size]?=Y (wq #[I Z er,I Z pl] 35 (0,0)):=by rw[K];exact p9 w1 _
  have HB:=Hd (cc.o.trans (S.mono cc.o.size));have lo:w.heap.size+2≤w1.heap.size:=by have:=ar.o;have:=ak.size;omega
  obtain⟨T,c6⟩:=zz2 (aa S c3.o (by have:=ar.o;omega)) (aa S c5.o (by have:=ar.o;omega));clear ak S hm hI;go_upto_region 2 with fail
  change Code.wp _ _ _ _ (w1.alloc (wq #[I Z er,I Z pl] 35));rw[←K];clear K;obtain⟨f0,f1,_,_⟩:=eB bk;clear bk;go_wp2_with fail
  have z0:=ac T.o 0;have z1:=ac T.o 1;have z2:=ac T.o 2;have z3:=ac T.o 3;have z4:=ac T.o 4;obtain⟨a0,a1,a2,a3,a4⟩:=cells5 T.o;obtain⟨b0,b1,y0,y1⟩:=eB c6.o;have l4:(w.heap.size=w1.heap.size)=False:=by simp;omega
  have ma:(w1.heap.size=w.heap.size)=False:=by simp;omega
  go_region
  go_wp2_with fail
  obtain⟨k1,k2,k3,_,_⟩:=iS (v0:=I O 0) (v1:=J ⟨#[]⟩) (v2:=I Z 0) (v3:=I Z 0) (v4:=A U 0 0) (a0:=I Z er) (a1:=I Z pl) HB.o T.o c6.o;change bodyPost _ _ _ _ _ (((set5 H w.heap.size (I O 0) (J ⟨#[]⟩) (I Z 0) (I Z 0) (A U 0 0)).setCell ⟨w.heap.size+1,0,U⟩ (I Z er)).setCell ⟨w.heap.size+1,1,U⟩ (I Z pl)).drew;generalize (((set5 H w.heap.size (I O 0) (J ⟨#[]⟩) (I Z 0) (I Z 0) (A U 0 0)).setCell ⟨w.heap.size+1,0,U⟩ (I Z er)).setCell ⟨w.heap.size+1,1,U⟩ (I Z pl))=WZ at *;have hJ:WZ.drew.heap[w.heap.size]?=_:=k2;have hK:WZ.drew.heap[w.heap.size+1]?=_:=k3;exact kS V V V hJ hK (ln HM.o k1.drew)
 ·obtain⟨_,c7⟩:=av;have hlen:=mW s;have al:=CJ s hs;have ch:(fW s).length≤16385:=by
   have h1:=pU s (s.size+1) 0 (Fa _);have h2:(aJ s 0).1.length+0≤s.size:=h1;omega
  rcases c7 with ⟨_,h⟩|⟨L,cap,cur,rfl,mc,c8,hle,e3,hL,aq⟩
  ·omega
  have HM:Hid (gm s=tB (fW s) (lq (fW s)) (tA s)):=by
   show _=_
   unfold gm;rw[qv (by omega),h0]
  have X:Hid (tA s=.mk 1 ⟨#[]⟩ 0 0 (lq (fW s)).1):=rfl;have bb:Hid (iL (lq (fW s)).1):=yC al ch (by omega);obtain⟨R,hR⟩:=zzy (lq (fW s));rw[hR]at HM X bb;unfold lq at hR;generalize tA s=T0 at *;obtain⟨ts,cu⟩:=zzy (fW s);rw[cu]at hlen al ch hle aq HM hR ⊢;obtain⟨HR,c9,da⟩:=zz3 hR al (zS al (Be al));have e4:0<ts.length:=by omega
  have l0:=Hd ch;have hM:wA.heap.size≤w1.heap.size:=ak.size;have hN:L<w1.heap.size:=(EN.1 c8).1;obtain⟨H,K⟩:=zzx (w1.alloc (wq #[I Z 0,I Z 0] 35));obtain⟨B,bl⟩:=zzx (H.alloc (wq #[A (Y ⟨L,0,U⟩) ts.length cap,AJ xj] 119));obtain⟨wn,bn⟩:=zzx (B.alloc (wq #[I O 1,J ⟨#[]⟩,I Z 0,I Z 0,A U 0 0] 25));have S:FK w1 H:=by rw[K];exact (EP _ w1).alloc (EO _) _
  have bq:FK H B:=by rw[bl];exact (EP _ H).alloc (EO _) _
  have ck:FK B wn:=by rw[bn];exact (EP _ B).alloc (EO _) _
  have bk:H.heap[w1.heap.size]?=Y (wq #[I Z 0,I Z 0] 35 (0,0)):=by rw[K];exact p9 w1 _
  have dc:B.heap[H.heap.size]?=Y (wq #[A (Y ⟨L,0,U⟩) ts.length cap,AJ xj] 119 (0,0)):=by rw[bl];exact p9 H _
  have dg:wn.heap[B.heap.size]?=Y (wq #[I O 1,J ⟨#[]⟩,I Z 0,I Z 0,A U 0 0] 25 (0,0)):=by rw[bn];exact p9 B _
  have hQ:H.heap.size=w1.heap.size+1:=by rw[K];simp
  have hV:B.heap.size=H.heap.size+1:=by rw[bl];simp
  have hW:wn.heap.size=B.heap.size+1:=by rw[bn];simp
  have M:FK wA B:=ak.trans ((S.trans (bq.mono (by omega))).mono hM);have dp:PAt B H.heap.size L cap ts 0 false:=by
   refine⟨⟨ts.length,cap,V,V,by rw[Nat.zero_mul];exact dc⟩,⟨cur,?_,fun j u hu=>?_⟩,e4,ch,hle,e3⟩
   ·exact aa (S.trans (bq.mono (by omega))) c8 hN
   ·rw[←aq,List.getElem?_take]at hu
    split at hu
    ·simpa using hu
    ·cases hu
  have ds:=dp.b ck;have e5:=ar.o;obtain⟨P,hP⟩:=zzy (H.heap.size);obtain⟨bB,dv⟩:=zzy (B.heap.size);rw[hP]at dp ds dc;rw[dv]at dg;have l1:w.heap.size+2<P:=by omega
  have mn:P<bB:=by omega
  have hX:B.heap.size≤bB:=by omega
  have HL:Hid (L<B.heap.size):=by show _<_;omega
  have hY:P<B.heap.size:=by omega
  have h4:Hid (FK w B):=cc.o.trans (M.mono cc.o.size);obtain⟨T,c6,e6,e7⟩:=zz4 (aa (M.trans (ck.mono M.size)) c3.o (by omega)) (aa (M.trans (ck.mono M.size)) c5.o (by omega)) dg ds;have e8:bB+1=wn.heap.size:=by omega
  have cv:Hid (uB B P L cap ts R bB wn):=
   ⟨ts.length+1,[],(0,xj),0,[],fun _ _=>False,A U 0 0,HR.o,z7 (by omega),Fa _,e7.o,e6.o,World.ownsRow_nil _ _ _ _,lr _ _ _ _⟩
  obtain⟨HP,h5,e9,fe,fm⟩:=zz5 hP dv (aa M c3.o (by omega)) (aa M c5.o (by omega)) (hz.o.z M);have h6:P≠1:=fun h=>by have:=e2;omega
  obtain⟨h7,h8,h9⟩:=zz3 K bl bn;have ih:Hid (0≤atM ts R.2∧atM ts R.2≤16384):=by
   show _∧_
   obtain⟨_,_,g3⟩:=cK al R.2.1;unfold atM;omega
  obtain⟨f0,f1,_,_⟩:=eB bk;have l2:bB+1≤wn.heap.size:=by omega
  clear hlen e8 e5 hQ hV hW K bl bn bk dc dg ds dp S bq ck ak al cu c8 aq hL e3 hR M hP dv hle hs h0;go_upto_region 2 with fail
  change Code.wp _ _ _ _ (w1.alloc (wq #[I Z 0,I Z 0] 35));rw[←h7.o];go_upto_region 5 with fail
  change Code.wp _ _ _ _ (H.alloc (wq #[A (Y ⟨L,0,U⟩) ts.length cap,AJ xj] 119));rw[←h8.o,HP.o];go_wp2_with fail
  change Code.wp _ _ _ _ (B.alloc (wq #[I O 1,J ⟨#[]⟩,I Z 0,I Z 0,A U 0 0] 25));rw[←h9.o,h5.o]
  go_loopw [25] (fun _ wr=>uB B P L cap ts R bB wr) (fun _ wr=>gv P wr)
  case atStart=>exact cv.o
  case round =>
   clear cv e7 e6;obtain⟨g,ks,a,dd,rows,Fs,o,fp,hg,hlen,hT,hn,av,br⟩:=hrel;obtain⟨cl,ea,HG,fv,fz,cx,bt⟩:=zz7 hT fp hg hlen hn av br;have fI:=Hd hT.2.steps;have bR:Hid (a.1≤(eq ts (dJ ts) a).2.1):=t7 (ts:=ts) (pY ts) a;have fM:bB<wr.heap.size:=(EN.1 hn).1;clear fp hg hlen hT hn av br;go_upto_region 6 with fail
   go_cut [38] from 25 to 38 (fun v wx=>v=AJ (!a.2&&kdM ts a != 7)∧FK wr wx)
   case first =>
    obtain⟨_,_,_,_,_,c1,_,_⟩:=cl.o.2.u;have b2:=Hd (gi cl.o.2)
    cases l:a.2 with
    | true =>
     rw[l]at c1;have cq:=Hd l;clear l;go_wp2_with fail
     go_meet
     case rel=>exact⟨by rw[cq.o];rfl,EP _ _⟩
    | false =>
     rw[l]at c1;have cq:=Hd l;clear l;have iv:kdM ts a<256:=(cK c9.o a.1).1;obtain⟨kd,eb⟩:=zzy (kdM ts a);rw[eb]at b2 iv;have fT:=Hd eb;clear eb;generalize txM ts a=tx at b2;generalize atM ts a=pl at b2
     by_cases hk:kd=7
     ·have ix:((kd:Int) != 7)=false:=by simp;omega
      have HK:=Hd hk;clear hk;go_wp2_with fail
      refine EX b2.o ?_;rintro e wx ⟨rfl,C⟩;have ad:=Hd C;have iA:=pd kd tx pl wx;clear C;go_wp2_with fail
      go_meet
      case rel=>exact⟨by rw[cq.o,fT.o,HK.o];rfl,ad.o⟩
     ·have ix:((kd:Int) != 7)=true:=by simp;omega
      have gf:(kd != 7)=true:=by simpa using hk
      have HK:=Hd gf;clear hk gf;go_wp2_with fail
      refine EX b2.o ?_;rintro e wx ⟨rfl,C⟩;have ad:=Hd C;have iA:=pd kd tx pl wx;clear C;go_wp2_with fail
      go_meet
      case rel=>exact⟨by rw[cq.o,fT.o,HK.o];rfl,ad.o⟩
   case rest =>
    obtain⟨rfl,C⟩:=hcut;obtain⟨D,b3⟩:=zz2 (cl.o.f C) (aa C fz.o fM);have gD:P<bB+1:=by omega
    obtain⟨E,z⟩:=zz2 (dq cx.o (aP C (Y P)) gD) (bt.o.turn (aP C (Y P)) gD);have iB:bB<wc.heap.size:=(EN.1 b3.o).1;clear C cl fz cx bt fM;obtain⟨b,l⟩:=zzy ((!a.2&&kdM ts a != 7));rw[l];have HB:=Hd l;clear l
    cases b with
    | true =>
     have bc:a.2=false:=by have:=HB.o;cases h:a.2<;>simp[h]at this ⊢
     have gE:¬kdM ts a=7:=by have:=HB.o;rw[bc]at this;simpa using this
     have gF:=D.o.2.k;have mu:=D.o.2.n;have gH:=fv.o;rw[bc]at gH;simp only[Fo,sm,Nat.add_zero]at gH;obtain⟨g',gL,gM⟩:∃g',((eq ts (dJ ts) a).2.2=wP∨ts.length-(eq ts (dJ ts) a).2.1+1≤g')∧mJ ts g' (ks++[(eq ts (dJ ts) a).1]) (eq ts (dJ ts) a).2=R:=by
      have h1:=ea.o;have h2:=HG.o;rw[bc]at h2;have mv:ts.length-a.1+1≤g:=by rcases h2 with h|h;cases h;exact h
      cases g with
      | zero=>omega
      | succ g =>
       rw[mA,qv (by rw[bc];decide),qv gE]at h1;refine⟨g,?_,h1⟩;rcases pW c9.o gF with h|h
       ·exact z6 h
       ·exact z7 (by omega)
     have gN:=pW c9.o gF;obtain⟨ec,iX,i1,gO,jj⟩:=zz5 (da.o a wc.drew P L cap D.o.2.drew) gL gM gN bc;clear gL gM gN gE bc;generalize eq ts (dJ ts) a=r at *;obtain⟨d0,gS,gT,d3,d4⟩:=cells5 b3.o;have bq:bB≠P:=by omega
     have C4:=fun x:RE.Gr wc P=>x.b d4 bq
     have ha:P<wc.heap.size:=D.o.2.lt.1;clear d0 gS gT d3 d4;go_wp2_with fail
     refine RE.u (by kernel_rfl) 5 [3,4] [3,4] (fun s W=>if s=0 then W=wc.drew else ax wc P L cap ts r.2.1 r.2.2 W) (fun W W'=>W.grownBy W' (Y P))
      (fun i xs=>if i=3 then xS #[I O r.1.b,J r.1.f,I Z r.1.h,I Z r.1.y,xs.getD 0 At] else A (Y ⟨RE.natOf xs,0,U⟩) 1 1)
      (fun i W xs=>if i=3 then f8 wc.heap.size r.1 W xs else hU wc.heap.size r.1 W xs) (by kernel_rfl) (fun i h1 h2=>by rw[h1]at h2;cases h2) ?_ V ?_
     ·intro k W W' xs h _ hg
      split at h
      ·rw[rv (by assumption)];exact h.h ha hg
      ·rw[qv (by assumption)];exact h.h ha hg
     simp only[EY,Fi,EZ,Fh,Fv,List.length_nil,Nat.reduceAdd];have hc:∀(n s:Nat) (W:wD),s≤n→(if s=0 then W=wc.drew else ax wc P L cap ts r.2.1 r.2.2 W)→∃x:RE.Gr wc P,W=x.1:=fun n s W _ h=>by
      split at h
      ·exact⟨⟨W,by rw[h];exact grown_drewN (r8 wc _) 1⟩,V⟩
      ·exact⟨⟨W,h.1⟩,V⟩
     have jo:=Hd hc;clear hc
     repeat (refine RE.b (fun W=>∃x:RE.Gr wc P,W=x.1) (jo.o _) V V V V ?_;go_big_quiet_step (fail);refine wpQuiet_nil ?_)
     refine RE.f V V ?_ (fun hd=>?_)
     ·intro W _ hS _;obtain rfl:W=wc.drew:=hS V;refine RE.y 56 _ _ V (enters_of Tryz.func56 (by kernel_rfl) V) #[xV (Y ⟨P,0,U⟩)] (by simp[Act.eval]) (ec.o.mono ?_);rintro e W' ⟨d,s,rfl,hT,ho,hf⟩;exact⟨_,V,[s],V,hT.z,hT.1,⟨d,s,V,ho,hf⟩⟩
     simp only[Act.put,EQ,EW,EV];refine RE.f V V ?_ (fun hh=>?_)
     ·intro W _ hS jv;have hT:ax wc P L cap ts r.2.1 r.2.2 W:=hS V;obtain⟨d,s,rfl,ho,hf⟩:f8 wc.heap.size r.1 W hd:=jv 3 hd (by kernel_rfl) V;obtain⟨p,c,rfl⟩:=ho.b;refine RE.Upon.told (v:=A (Y ⟨W.heap.size,0,U⟩) 1 1) (w':=W.alloc (wq (ay r.1 (A p r.1.u.length c)).toArray 25)) ?_ ⟨[I Z W.heap.size],V,hT.u _,?_,?_⟩
      ·unfold RE.Upon
       go_simp
       rfl
      ·exact aP ((EP _ W).alloc (EO _) _) _
      ·refine⟨d,W.heap.size,W.heap.size,_,V,p9 W _,?_,hf,hT.1.size,EO _⟩;exact ho.z (fun b l=>l.2) ((EP _ W).alloc (EO _) _)
     simp only[Act.put,EQ,EW,EV];refine RE.h ?_;intro W3 hS hE;have cr:ax wc P L cap ts r.2.1 r.2.2 W3:=hS;obtain⟨d2,gg,N,s2,rfl,eg,ek,j2,kc,kf⟩:=(show hU wc.heap.size r.1 W3 hh from hE 4 hh V);have na:wc.heap.size≤W3.heap.size:=cr.1.size;have b4:=dq E.o cr.1 (by omega);refine wpList_append_lies W3 V (.tmp 40) (.tmp 43) 23 V (bB+1) 25 i0 _ 5 64 Tryz.underlying23 hA hC hD hG V (by decide) o ks.length rows.flatten V b4 ⟨gg,0,U⟩ 1 1 (ay r.1 s2) V V
      (fun j u hu=>by rw[Addr.add_mid,FI _ _ _ _ _ _ eg,Nat.zero_add];simpa using hu) (by have:=ek.b;obtain⟨p,c,rfl⟩:=this;simp[Value.oneCell',ay]) (by decide) (by unfold maxLen;omega) (by omega) (by omega) _ V ?_
     intro g7 hi w7 cA b5 b6 _;obtain⟨d',el,kk,u1,u2,u3,u4,u5,u6⟩:=rI (w:=B) hY HL.o hX (show bB<(bB+1) by omega) (by omega) D.o b3.o E.o z.o cr eg ek j2 kc kf cA b5 b6;have x4:=ac u6 4;obtain⟨d0,gS,gT,d3,d4⟩:=cells5 u6;obtain⟨Wn,hj⟩:=zzx (w7.setCell ⟨bB,4,U⟩ (A (Y ⟨g7,0,U⟩) (ks.length+1) hi));rw[←hj]at u1 u2 u3 u4 u5;have b7:(ks++[r.1]).length≤r.2.1+(if r.2.2=wP then 1 else 0):=by
      have h1:=u1.2.k;rw[Fc,FG];rcases gO.o with h|h
      ·rw[rv h];have:=bR.o;omega
      ·split<;>omega
     have en:Hid (uB B P L cap ts R bB Wn):=
      ⟨g',_,r.2,d',el,kk,_,i1.o,iX.o,b7,u1,u3,u4,u5⟩
     have eo:Hid (gv P Wn<gv P wr):=by
      show _<_
      rw[u1.2.steps,fI.o,qv (show ¬a.2=wP by rw[jj.o];decide)];have h1:=u1.2.k;have h3:=bR.o;rcases gO.o with h|h
      ·rw[rv h];omega
      ·split<;>omega
     have kn:=Hd hj;clear u1 u2 u3 u4 u5 b7 b6 b5 cA hE hS cr b4 eg ek C4;go_wp2_with fail
     rw[←kn.o];exact⟨en.o,eo.o⟩
    | false =>
     have kp:(ks,a)=R:=by
      rw[←ea.o];have h2:=HB.o
      cases g with
      | zero=>rfl
      | succ g =>
       rw[mA]
       by_cases ep:a.2=wP
       ·rw[rv ep]
       ·rw[qv ep,rv (by simpa [ep]using h2)]
     subst kp;dsimp only at X ih bb;have cC:=Hd ((D.o.1.block w.heap.size (by omega) (fun e=>by injection e with e;omega)).trans e9.o)
     have cR:=Hd ((D.o.1.block (w.heap.size+1) (by omega) (fun e=>by injection e with e;omega)).trans fe.o)
     obtain⟨ad,kv⟩:=zz2 (rh h4.o D.o (by omega)) (fm.o.h D.o.1 h6);obtain⟨_,_,_,_,_,c1,_,_⟩:=D.o.2.u;clear ea HG fv HB bR fI
     cases l:a.2 with
     | true =>
      rw[l]at c1;have hl:Hid (gm s=(fV,202,atM ts a)):=by show _=_;rw[HM.o];unfold tB;dsimp only;rw[rv l]
      have a6:=Hd (gi D.o.2);clear l;generalize kdM ts a=kd at a6;generalize txM ts a=tx at a6;generalize atM ts a=pl at a6 hl;go_wp2_with fail
      refine EX a6.o ?_;rintro e wy ⟨rfl,ct⟩;have nb:=j8 kd tx pl wy;obtain⟨kI,F,cT⟩:=zz3 (ad.o.trans (ct.mono ad.o.size)) (aa ct cC.o (by omega)) (aa ct cR.o (by omega));clear ct c1;obtain⟨k1,k2,k3,k4,k5⟩:=iS (v0:=(I O 0)) (v1:=(J ⟨#[]⟩)) (v2:=(I Z 0)) (v3:=(I Z 0)) (v4:=(A U 0 0)) (a0:=(I Z 202)) (a1:=(I Z pl)) kI.o F.o cT.o;obtain⟨K1,K2,K3,K4,K5⟩:=zz5 k1 k2 k3 k4 k5;clear k1 k2 k3 k4 k5;have z0:=ac F.o 0;have z1:=ac F.o 1;have z2:=ac F.o 2;have z3:=ac F.o 3;have z4:=ac F.o 4;obtain⟨a0,a1,a2,a3,a4⟩:=cells5 F.o;obtain⟨b0,b1,y0,y1⟩:=eB cT.o;go_wp2_with fail
      change bodyPost _ _ _ _ _ (((set5 wy w.heap.size (I O 0) (J ⟨#[]⟩) (I Z 0) (I Z 0) (A U 0 0)).setCell ⟨w.heap.size+1,0,U⟩ (I Z 202)).setCell ⟨w.heap.size+1,1,U⟩ (I Z pl));generalize ((set5 wy w.heap.size (I O 0) (J ⟨#[]⟩) (I Z 0) (I Z 0) (A U 0 0)).setCell ⟨w.heap.size+1,0,U⟩ (I Z 202)).setCell ⟨w.heap.size+1,1,U⟩ (I Z pl)=WZ at *;exact kS V V V K2.o K3.o (ln hl.o K1.o)
     | false =>
      rw[l]at c1
      have b8:Hid (gm s=match dpM 30 T0 with
        | some p=>(fV,203,p)
        | none=>if fQ 30 T0=wP then (T0,0,0) else (fV,204,0)):=by
       show _=_
       rw[HM.o];unfold tB;dsimp only;rw[qv (by rw[l];decide)]
      clear l;have hO:=rJ (d:=dd+1) V E.o z.o (fun h=>by omega);obtain⟨p,c,rfl⟩:=hO.b;have HO:=Hd hO;have G:dH wc wc.heap.size (dd+1) T0 (xS #[I O 1,J ⟨#[]⟩,I Z 0,I Z 0,A p ks.length c]):=by
       rw[X.o];exact⟨nD ks,_,V,hO.u fun b l=>l.2⟩
      have cV:∀d,dA d T0.u:=fun d=>by
       rw[X.o]
       cases d with
       | zero=>trivial
       | succ d=>exact⟨by show ks.length≤20000;have:=bb.o.1;omega,fun k hk=>(bb.o.2 k hk d).slim⟩
      have cW:Hid (∀d,dG d T0):=by
       show ∀d,dG d T0
       rw[X.o];exact ee (show (0:Nat)≤16390 by omega) (by omega) bb.o.1 bb.o.2
      obtain⟨et,k0⟩:=zz2 (zi 30 0 (dd+1) T0 _ wc.heap.size wc V G (EO _) (cV _)) hO;have k6:Hid (du wc (bB+1) dd ks (A p ks.length c)):=⟨rows,Fs,E.o,z.o⟩;obtain⟨n0,n1,n2,n3,n4⟩:=cells5 b3.o;clear hO G cV HO E z;obtain⟨x,hx⟩:=zzy (dpM 30 T0);rw[hx]at et b8;have HX:=Hd hx;clear hx;rw[show ((0:Nat):Int)=0 from rfl]at et;go_wp2_with fail
      refine EX et.o ?_;rintro e wd ⟨rfl,Q⟩;obtain⟨ev,y,b9,e0,k7,k8,k9⟩:=zz7 (ad.o.trans (Q.mono ad.o.size)) (aa Q cC.o (by omega)) (aa Q cR.o (by omega)) (aa Q b3.o iB) (k0.o.z (fun b l=>l.2) Q) (k6.o.z Q) (kv.o.z Q);have la:bB<wd.heap.size:=(EN.1 e0.o).1;have c0:wc.heap.size≤wd.heap.size:=Q.size;clear Q n0 n1 n2 n3 n4 c1
      cases x with
      | some q =>
       dsimp only [Option.getD_some,Option.isSome_some];obtain⟨k1,k2,k3,k4,k5⟩:=iS (v0:=(I O 0)) (v1:=(J ⟨#[]⟩)) (v2:=(I Z 0)) (v3:=(I Z 0)) (v4:=(A U 0 0)) (a0:=(I Z 203)) (a1:=(I Z q)) ev.o y.o b9.o;obtain⟨K1,K2,K3,K4,K5⟩:=zz5 k1 k2 k3 k4 k5;clear k1 k2 k3 k4 k5;have z0:=ac y.o 0;have z1:=ac y.o 1;have z2:=ac y.o 2;have z3:=ac y.o 3;have z4:=ac y.o 4;obtain⟨a0,a1,a2,a3,a4⟩:=cells5 y.o;obtain⟨b0,b1,y0,y1⟩:=eB b9.o;go_wp2_with fail
       change bodyPost _ _ _ _ _ (((set5 wd w.heap.size (I O 0) (J ⟨#[]⟩) (I Z 0) (I Z 0) (A U 0 0)).setCell ⟨w.heap.size+1,0,U⟩ (I Z 203)).setCell ⟨w.heap.size+1,1,U⟩ (I Z q));generalize ((set5 wd w.heap.size (I O 0) (J ⟨#[]⟩) (I Z 0) (I Z 0) (A U 0 0)).setCell ⟨w.heap.size+1,0,U⟩ (I Z 203)).setCell ⟨w.heap.size+1,1,U⟩ (I Z q)=WZ at *;exact kS V V V K2.o K3.o (ln b8.o K1.o)
      | none =>
       dsimp only [Option.getD_none,Option.isSome_none];have e1:∀t∈ks,dpM 29 t=none:=by
        have h:=HX.o;rw[X.o]at h;have h2:ks.findSome? (dpM 29)=none:=h;rw[List.findSome?_eq_none_iff]at h2;exact h2
       have ca:=(sB k7.o e1).more;obtain⟨hp,hq⟩:=zz2 ca ((k8.o.depth (n:=28) e1).more);have G:dH wd wd.heap.size 30 T0 (xS #[I O 1,J ⟨#[]⟩,I Z 0,I Z 0,A p ks.length c]):=by
        rw[X.o];exact⟨nD ks,_,V,ca.u fun b l=>ET l.2 c0⟩
       have hr:=Hd (mM 30 T0 _ wd.heap.size wd G (EO _) (cW.o 30).slim k9.o);obtain⟨n0,n1,n2,n3,n4⟩:=cells5 e0.o;clear e1 ca G;obtain⟨rt,hv⟩:=zzy (fQ 30 T0);rw[hv]at hr b8;clear hv;go_wp2_with fail
       refine EX hr.o ?_;rintro e we ⟨rfl,af⟩;obtain⟨hy,f,ba,lb⟩:=zz4 (ev.o.trans (af.mono ev.o.size)) (aa af y.o (by omega)) (aa af b9.o (by omega)) (aa af e0.o la);have l3:wd.heap.size≤we.heap.size:=af.size;obtain⟨ld,lf⟩:=zz2 (hp.o.z (fun b l=>ET l.2 c0) af) (hq.o.z af);clear af n0 n1 n2 n3 n4
       cases rt with
       | false =>
        obtain⟨k1,k2,k3,k4,k5⟩:=iS (v0:=(I O 0)) (v1:=(J ⟨#[]⟩)) (v2:=(I Z 0)) (v3:=(I Z 0)) (v4:=(A U 0 0)) (a0:=(I Z 204)) (a1:=(I Z 0)) hy.o f.o ba.o;obtain⟨K1,K2,K3,K4,K5⟩:=zz5 k1 k2 k3 k4 k5;clear k1 k2 k3 k4 k5;have z0:=ac f.o 0;have z1:=ac f.o 1;have z2:=ac f.o 2;have z3:=ac f.o 3;have z4:=ac f.o 4;obtain⟨a0,a1,a2,a3,a4⟩:=cells5 f.o;obtain⟨b0,b1,y0,y1⟩:=eB ba.o;go_wp2_with fail
        change bodyPost _ _ _ _ _ (((set5 we w.heap.size (I O 0) (J ⟨#[]⟩) (I Z 0) (I Z 0) (A U 0 0)).setCell ⟨w.heap.size+1,0,U⟩ (I Z 204)).setCell ⟨w.heap.size+1,1,U⟩ (I Z 0));generalize ((set5 we w.heap.size (I O 0) (J ⟨#[]⟩) (I Z 0) (I Z 0) (A U 0 0)).setCell ⟨w.heap.size+1,0,U⟩ (I Z 204)).setCell ⟨w.heap.size+1,1,U⟩ (I Z 0)=WZ at *;exact kS V V V K2.o K3.o (ln b8.o K1.o)
       | true =>
        obtain⟨n0,n1,n2,n3,n4⟩:=cells5 lb.o;obtain⟨k1,k2,k3,k4,k5⟩:=iS (v0:=(I O 1)) (v1:=(J ⟨#[]⟩)) (v2:=(I Z 0)) (v3:=(I Z 0)) (v4:=(A p ks.length c)) (a0:=(I Z 0)) (a1:=(I Z 0)) hy.o f.o ba.o;obtain⟨K1,K2,K3,K4,K5⟩:=zz5 k1 k2 k3 k4 k5;clear k1 k2 k3 k4 k5;have z0:=ac f.o 0;have z1:=ac f.o 1;have z2:=ac f.o 2;have z3:=ac f.o 3;have z4:=ac f.o 4;obtain⟨a0,a1,a2,a3,a4⟩:=cells5 f.o;obtain⟨b0,b1,y0,y1⟩:=eB ba.o;go_wp2_with fail
        change bodyPost _ _ _ _ _ (((set5 we w.heap.size (I O 1) (J ⟨#[]⟩) (I Z 0) (I Z 0) (A p ks.length c)).setCell ⟨w.heap.size+1,0,U⟩ (I Z 0)).setCell ⟨w.heap.size+1,1,U⟩ (I Z 0));generalize ((set5 we w.heap.size (I O 1) (J ⟨#[]⟩) (I Z 0) (I Z 0) (A p ks.length c)).setCell ⟨w.heap.size+1,0,U⟩ (I Z 0)).setCell ⟨w.heap.size+1,1,U⟩ (I Z 0)=WZ at *;exact kS V V V K2.o K3.o (zD b8.o X.o cW.o K1.o ((lf.o.C (by rw[K5.o];exact EO _) (fun b l _=>K4.o b (by omega))).low (by omega)) (ld.o.C fun b o l ho=>(K4.o b (by have:=l.1;omega)).trans ho) (fun b l=>⟨by have:=l.1;omega,by rw[K5.o];have:=l.2;omega⟩))
