/- Parts of one proof, joined; conditions stand in each theorem. -/
import Derived.Test.YtkhfjgjjhlnnnaaGreatDoorMX
import Derived.Test.YtkhfjgjjhlnnnaaGreatDoorMD
import Derived.Test.YtkhfjgjjhlnnnaaGreatDoorMDD
import Derived.Test.YtkhfjgjjhlnnnaaGreatDoorMXN
import Derived.Test.YtkhfjgjjhlnnnaaGreatDoorMJ
import Derived.RegionTactic
open Bool renaming true→wg,false→wj
open Or renaming inl→wP,inr→xj
open Go renaming World→vk,Value→vn,undef→xD
open Go.Ending renaming returned→xv
open Go.Value renaming tuple→AJ,agg→wD,int→I,string→J,slice→A,pointer→wF,bool→xS
open Go.IntKind renaming u8→O,i64→Z
open Option renaming some→Y,none→U
open Go.Obj renaming cells→ur
open Go.World renaming cell?→B3,setCell→BT
namespace Go.Proofs.YtkhfjgjjhlnnnaaGreatDoor
set_option maxHeartbeats 4000000
set_option maxRecDepth 100000
open Go.RowKit
section
variable {ts us:List Tok} {o d m:Nat} {e:Bool}
end
theorem xG(ts:List Tok)(ex:PS→ab×PS)(lvl:Nat)(pl:Int)(g:Nat)(T:ab)(σ:PS) :
  ic ts ex lvl pl (g+1) T σ=if isM ts σ (iO lvl)=wg then (if lvl=2 then (.mk 16 (txM ts σ) 0 pl [T,(ex (ag ts σ)).1],(ex (ag ts σ)).2) else ic ts ex lvl pl g (.mk 16 (txM ts σ) 0 pl [T,(ex (ag ts σ)).1]) (ex (ag ts σ)).2) else (T,σ):=rfl
theorem uS{ts:List Tok}:∀(f lvl:Nat) (σ:PS),σ.1<ts.length→(exM ts f lvl σ).2.1<ts.length:=by
 intro f;have i:∀σ:PS,σ.1<ts.length→(ag ts σ).1<ts.length:=fun σ h=>jK h
 have hw:∀(σ:PS) (x:ByteArray),σ.1<ts.length→(aU ts σ x).1<ts.length:=fun σ x h=>by
  unfold aU oI jV;dsimp only;split
  ·exact jK h
  ·exact h
 have j:∀(σ:PS) (a b:Nat),σ.1<ts.length→(ofM ts σ a b).2.1<ts.length:=fun σ a b h=>jK h
 induction f with
 | zero=>intro lvl σ h;exact h
 | succ f c =>
  intro lvl σ h;unfold exM
  (repeat' split)
  ·exact h
  ·exact c _ _ (i _ h)
  ·exact hw _ _ (c _ _ (i _ h))
  ·exact j _ _ _ h
  ·exact j _ _ _ h
  ·exact j _ _ _ h
  ·have:∀(g:Nat) (T:ab) (σ:PS) (pl:Int),σ.1<ts.length→(ic ts (exM ts f (lvl+1)) lvl pl g T σ).2.1<ts.length:=by
    intro g
    induction g with
    | zero=>intro T σ pl h;exact h
    | succ g k =>
     intro T σ pl h;unfold ic
     split
     ·dsimp only
      split
      ·exact c _ _ (i _ h)
      ·exact k _ _ _ (c _ _ (i _ h))
     ·exact h
   exact this _ _ _ _ (c _ _ h)
theorem cH{ts:List Tok}{σ:PS}(h:σ.1<ts.length):(ag ts σ).1<ts.length:=jK h
theorem dh{ts:List Tok}{σ:PS}(h:σ.1<ts.length)(x:ByteArray):(aU ts σ x).1<ts.length:=by
 unfold aU oI jV;dsimp only
 split
 ·exact jK h
 ·exact h
theorem eP{ts:List Tok}{σ:PS}(h:σ.1<ts.length)(a b:Nat):(ofM ts σ a b).2.1<ts.length:=jK h
theorem Es{ts:List Tok}{σ:PS}{x:ByteArray}(h:(aU ts σ x).2=wj):σ.2=false:=by
 cases a:σ.2
 ·rfl
 ·rw[ej a]at h;cases h
theorem AN{ts:List Tok}(a:cG ts){σ:PS}(b:σ.1<ts.length){x:ByteArray}(h:(aU ts σ x).2=wj):(aU ts σ x).1=σ.1+1:=by
 have g:=Es h;have c:isM ts σ [x]=true:=by
  have:(!(!σ.2&&isT (cQ ts σ.1) [x]))=false:=h;unfold isM
  simpa using this
 obtain⟨f,_,_⟩:=fo a b c;rw[←f]
 show jV ts σ.1 σ.2 (cQ ts σ.1) [x]=_
 rw[←(jU ts σ [x]).1];unfold aR;rw[r6 c]
theorem mT(ts:List Tok)(one:PS→ab×PS)(g:Nat)(a:List ab)(σ:PS) :
  eQ ts one (g+1) a σ=if isM ts σ [jx]=wg then eQ ts one g (a++[(one (ag ts σ)).1]) (one (ag ts σ)).2 else (a,σ):=rfl
theorem nZ(ts:List Tok)(one:PS→ab×PS)(stop:ByteArray)(g:Nat)(a:List ab)(σ:PS) :
  upTo ts one stop (g+1) a σ=if σ.2=wg then (a,σ) else if isM ts σ [stop]=wg then (a,σ) else upTo ts one stop g (a++[(one σ).1]) (one σ).2:=rfl
section
variable {ts us:List Tok} {o d m:Nat} {one one':PS→ab×PS}
theorem xF(a:∀σ:PS,σ.1<ts.length→(one σ).2.1<ts.length):∀(g:Nat) (b:List ab) (σ:PS),σ.1<ts.length→(eQ ts one g b σ).2.1<ts.length:=by
 intro g
 induction g with
 | zero=>intro b σ h;exact h
 | succ g c =>
  intro b σ h;rw[mT]
  split
  ·exact c _ _ (a _ (cH h))
  ·exact h
theorem rH(a:∀σ:PS,σ.1<ts.length→(one σ).2.1<ts.length)(stop:ByteArray):∀(g:Nat) (b:List ab) (σ:PS),σ.1<ts.length→(upTo ts one stop g b σ).2.1<ts.length:=by
 intro g
 induction g with
 | zero=>intro b σ h;exact h
 | succ g c =>
  intro b σ h;rw[nZ]
  split
  ·exact h
  ·split
   ·exact h
   ·exact c _ _ (a _ h)
theorem vd(stop:ByteArray){σ:PS}(h:σ.2=wg)(g:Nat)(a:List ab):upTo ts one stop g a σ=(a,σ):=by
 cases g with
 | zero=>rfl
 | succ g=>rw[nZ,r6 h]
theorem xp(a:∀σ:PS,σ.1<ts.length→(one σ).2.1<ts.length){σ:PS}(b:σ.1<ts.length):(i9 ts one σ).2.1<ts.length:=xF a _ _ _ (a _ b)
theorem l8(b:∀σ:PS,σ.1<ts.length→(one σ).2.1<ts.length){σ:PS}(a:σ.1<ts.length):(cy ts one σ).2.1<ts.length:=by
 unfold cy
 split
 ·exact cH (dh a _)
 ·exact dh (xp b (dh a _)) _
theorem ri{σ:PS}(h:σ.1<ts.length):(gi ts σ).2.1<ts.length:=by
 unfold gi
 split
 ·exact cH h
 ·exact h
theorem xb{σ:PS}(h:σ.1<ts.length):(eU ts σ).2.1<ts.length:=by
 have a:∀σ:PS,σ.1<ts.length→(eH ts σ).2.1<ts.length:=fun σ h=>uS _ _ _ h
 unfold eU
 (repeat' split)
 ·exact dh (l8 a (eP (cH h) _ _)) _
 ·exact dh (ri (cH h)) _
 ·exact dh (xp a (cH h)) _
 ·exact dh (dh h _) _
theorem xf{σ:PS}(h:σ.1<ts.length):(ig ts σ).2.1<ts.length:=by
 unfold ig
 (repeat' split)
 ·exact ri (cH (cH h))
 ·exact ri (cH h)
 ·exact h
theorem CJ{σ:PS}(h:σ.2=wg):(ig ts σ).2.2=true:=by
 unfold ig;rw[r5 (by rw[lS h];decide)];exact h
end
theorem Bn{ts:List Tok}{a:Int}{σ:PS}(h:σ.2=wg):(dI ts a σ).2.2=true:=by
 unfold dI;dsimp only;have b:(aU ts (ig ts (ofM ts σ 2 4).2).2 kw).2=true:=ej (CJ (oH h 2 4)) _;rw[vd tTo b];dsimp only;rw[vd dn (ej b _)];exact ej (ej b _) _
theorem rE{ts:List Tok}{σ:PS}(h:σ.1<ts.length):(em ts σ).2.1<ts.length:=by
 unfold em
 (repeat' split)
 ·exact cH h
 ·exact eP (cH h) 4 14
 ·exact eP h _ _
 ·exact eP h _ _
 ·exact eP h _ _
theorem pG{ts:List Tok}{σ:PS}(h:σ.1<ts.length):(dB ts (em ts) σ).2.1<ts.length:=by
 unfold dB
 (repeat' split)
 ·exact dh (uS _ _ _ (cH h)) _
 ·exact dh (l8 (fun _ h=>rE h) (eP (cH h) _ _)) _
 ·exact dh (l8 (fun _ h=>rE h) (eP h _ _)) _
theorem Ca{ts:List Tok}{a:Int}{σ:PS}(h:σ.1<ts.length):(dI ts a σ).2.1<ts.length:=by
 unfold dI;exact dh (rH (fun _ h=>xb h) _ _ _ _ (dh (rH (fun _ h=>pG h) _ _ _ _ (dh (xf (eP h 2 4)) _)) _)) _
theorem BR{ts:List Tok}{σ:PS}(h:σ.1<ts.length):(eq ts (dI ts) σ).2.1<ts.length:=by
 unfold eq
 split
 ·exact dh (l8 (fun _ h=>eP h 2 3) (eP (cH h) _ _)) _
 ·exact Ca (dh h _)
theorem pO{ts:List Tok}(a:cG ts){σ:PS}(b:σ.1<ts.length):(eq ts (dI ts) σ).2.2=wg∨σ.1<(eq ts (dI ts) σ).2.1:=by
 unfold eq
 by_cases c:isM ts σ [iZ]=wg
 ·rw[r6 c]
  right
  obtain⟨i,_,_⟩:=fo a b c;have f:=ed ts (ag ts σ) 2 2;have g:=im (ts:=ts) (fun σ=>ed ts σ 2 3) (ofM ts (ag ts σ) 2 2).2;have h:=bL ts (cy ts (fun σ=>ofM ts σ 2 3) (ofM ts (ag ts σ) 2 2).2).2 co;dsimp only;omega
 ·rw[r5 c]
  cases f:(aU ts σ oC).2 with
  | true=>exact wP (Bn f)
  | false =>
   right
   have g:=AN a b f;have h:=pQ ts (atM ts σ) (aU ts σ oC);omega
def mF(ts:List Tok):Nat→List ab→PS→List ab×PS
 | 0,a,σ=>(a,σ)
 | g+1,a,σ=>if σ.2=wg then (a,σ) else if kdM ts σ=7 then (a,σ) else mF ts g (a++[(eq ts (dI ts) σ).1]) (eq ts (dI ts) σ).2
def lk(ts:List Tok):List ab×PS:=mF ts (ts.length+1) [] (0,wj)
theorem mr(ts:List Tok)(g:Nat)(a:List ab)(σ:PS):mF ts (g+1) a σ=if σ.2=wg then (a,σ) else if kdM ts σ=7 then (a,σ) else mF ts g (a++[(eq ts (dI ts) σ).1]) (eq ts (dI ts) σ).2:=rfl
def dG:Nat→ab→Prop
 | 0,T=>T.f.size≤16390∧(0≤T.t∧T.t≤16384)
 | d+1,T=>T.f.size≤16390∧(0≤T.t∧T.t≤16384)∧T.q.length≤16390∧∀k∈T.q,dG d k
theorem dG.slim:∀{d:Nat} {T:ab},dG d T→gv d T:=by
 intro d
 induction d with
 | zero=>intro T h;exact (show T.f.size≤72007 by have:=h.1;omega)
 | succ d a=>intro T h;exact⟨by have:=h.1;omega,by have:=h.2.2.1;omega,fun k b=>a (h.2.2.2 k b)⟩
theorem ee{k:Nat}{t:ByteArray}{n p:Int}{l:List ab}(a:t.size≤16390)(b:0≤p∧p≤16384)(c:l.length≤16390)(h:∀x∈l,∀d,dG d x):∀d,dG d (.mk k t n p l):=by
 intro d
 cases d with
 | zero=>exact⟨a,b⟩
 | succ d=>exact⟨a,b,c,fun x f=>h x f d⟩
section
variable {ts:List Tok}
theorem fX(a:cG ts)(σ:PS):0≤atM ts σ∧atM ts σ≤16384:=by
 have:=(cM a σ.1).2.2;unfold atM;omega
theorem pK(a:cG ts)(σ:PS):(txM ts σ).size≤16384:=(cM a σ.1).2.1
theorem i4(c:cG ts)(σ:PS)(a b:Nat):∀d,dG d (ofM ts σ a b).1:=ee (by have:=(cM c σ.1).2.1;omega) (fX c σ) (by simp) (fun x f=>by cases f)
theorem nK:∀d,dG d fR:=ee (show (0:Nat)≤16390 by omega) (by omega) (by simp) (fun x a=>by cases a)
theorem xZ(b:cG ts){ex:PS→ab×PS}(hex:∀σ,∀d,dG d (ex σ).1)(lvl:Nat)(pl:Int)(c:0≤pl∧pl≤16384):∀(g:Nat) (T:ab) (σ:PS),(∀d,dG d T)→∀d,dG d (ic ts ex lvl pl g T σ).1:=by
 intro g
 induction g with
 | zero=>intro T σ h;exact h
 | succ g i =>
  intro T σ h;rw[xG]
  have f:∀d,dG d (.mk 16 (txM ts σ) 0 pl [T,(ex (ag ts σ)).1]):=ee (by have:=pK b σ;omega) c (by simp) (fun x a=>by
   rcases FZ.1 a with rfl|a
   ·exact h
   ·rw[List.mem_singleton]at a;subst a;exact hex _)
  split
  ·split
   ·exact f
   ·exact i _ _ f
  ·exact h
theorem pB(a:cG ts):∀(f lvl:Nat) (σ:PS),∀d,dG d (exM ts f lvl σ).1:=by
 intro f
 induction f with
 | zero=>intro lvl σ;exact nK
 | succ f b =>
  intro lvl σ;unfold exM
  (repeat' split)
  ·exact nK
  ·exact ee (by have:=pK a σ;omega) (fX a σ) (by simp) (fun x c=>by rw[List.mem_singleton]at c;subst c;exact b _ _)
  ·exact b _ _
  ·exact i4 a _ _ _
  ·exact i4 a _ _ _
  ·exact i4 a _ _ _
  ·exact xZ a (fun σ=>b _ σ) _ _ (fX a σ) _ _ _ (b _ _)
def iI(l:List ab):Prop:=l.length≤16390∧∀x∈l,∀d,dG d x
theorem og{b:List ab}{t:ab}(h:∀x∈b,∀d,dG d x)(c:∀d,dG d t):∀x∈b++[t],∀d,dG d x:=fun x a=>by
 rcases List.mem_append.1 a with a|a
 ·exact h x a
 ·rw[List.mem_singleton]at a;subst a;exact c
theorem tL(f:cG ts)(p:ts.length≤16385){one:PS→ab×PS}(b:∀σ,∀d,dG d (one σ).1)(i:∀σ,σ.1≤(one σ).2.1)(j:∀σ:PS,σ.1<ts.length→(one σ).2.1<ts.length) :
  ∀(g:Nat) (a:List ab) (σ:PS),σ.1<ts.length→a.length≤σ.1+1→(∀x∈a,∀d,dG d x)→iI (eQ ts one g a σ).1:=by
 intro g
 induction g with
 | zero=>intro a σ c l h;exact⟨by show a.length≤_;omega,h⟩
 | succ g n =>
  intro a σ c l h;rw[mT]
  by_cases k:isM ts σ [jx]=wg
  ·rw[r6 k];obtain⟨q,r,s⟩:=fo f c k;have t:=i (ag ts σ);exact n _ _ (j _ (by omega)) (by rw[FC,F9];omega) (og h (b _))
  ·rw[r5 k];exact⟨by show a.length≤_;omega,h⟩
theorem sP(c:cG ts)(i:ts.length≤16385){one:PS→ab×PS}(a:∀σ,∀d,dG d (one σ).1)(f:∀σ,σ.1≤(one σ).2.1)(b:∀σ:PS,σ.1<ts.length→(one σ).2.1<ts.length){σ:PS}(g:σ.1<ts.length):iI (i9 ts one σ).1:=
 tL c i a f b _ _ _ (b _ g) (by simp) (fun x h=>by rw[List.mem_singleton]at h;subst h;exact a _)
theorem l7(b:cG ts)(h:ts.length≤16385){one:PS→ab×PS}(a:∀σ,∀d,dG d (one σ).1)(c:∀σ,σ.1≤(one σ).2.1)(f:∀σ:PS,σ.1<ts.length→(one σ).2.1<ts.length){σ:PS}(g:σ.1<ts.length):iI (cy ts one σ).1:=by
 unfold cy
 split
 ·exact⟨by simp,fun x i=>by cases i⟩
 ·exact sP b h a c f (dh g _)
theorem sU(q:ts.length≤16385){one:PS→ab×PS}(f:∀σ:PS,σ.1<ts.length→∀d,dG d (one σ).1)(i:∀σ,σ.1≤(one σ).2.1)(j:∀σ:PS,σ.1<ts.length→(one σ).2.1<ts.length)(k:∀σ:PS,σ.1<ts.length→(one σ).2.2=wg∨σ.1<(one σ).2.1)(stop:ByteArray) :
  ∀(g:Nat) (a:List ab) (σ:PS),σ.1<ts.length→a.length≤σ.1+(if σ.2=wg then 1 else 0)→(∀x∈a,∀d,dG d x)→iI (upTo ts one stop g a σ).1∧(upTo ts one stop g a σ).1.length≤(upTo ts one stop g a σ).2.1+(if (upTo ts one stop g a σ).2.2=wg then 1 else 0):=by
 intro g
 induction g with
 | zero =>
  intro a σ b c h;refine⟨⟨?_,h⟩,c⟩
  show a.length≤_
  split at c<;>omega
 | succ g p =>
  intro a σ b c h;have done:iI a:=⟨by split at c<;>omega,h⟩
  rw[nZ]
  by_cases l:σ.2=wg
  ·rw[r6 l];exact⟨done,c⟩
  ·rw[r5 l]
   by_cases n:isM ts σ [stop]=wg
   ·rw[r6 n];exact⟨done,c⟩
   ·rw[r5 n];rw[r5 l]at c;have r:=i σ;refine p _ _ (j _ b) ?_ (og h (f _ b));rw[FC,F9];rcases k σ b with h|h
    ·rw[r6 h];omega
    ·split<;>omega
theorem BF(a:cG ts)(σ:PS):∀d,dG d (em ts σ).1:=by
 unfold em
 (repeat' split)
 ·exact ee (show (0:Nat)≤16390 by omega) (fX a σ) (by simp) (fun x b=>by cases b)
 ·refine ee ?_ (fX a σ) (by simp) (fun x b=>by cases b);have c:=pK a (ag ts σ);have f:(bo++txM ts (ag ts σ)).size=1+(txM ts (ag ts σ)).size:=by rw[ByteArray.size_append];rfl
  omega
 ·exact i4 a _ _ _
 ·exact i4 a _ _ _
 ·exact i4 a _ _ _
theorem kS(c:cG ts)(σ:PS)(a b:Nat):(ofM ts σ a b).1.f.size≤16390:=by
 have:=(cM c σ.1).2.1
 show (cQ ts σ.1).2.1.size≤_
 omega
theorem yA(a:cG ts)(i:ts.length≤16385){σ:PS}(b:σ.1<ts.length):∀d,dG d (dB ts (em ts) σ).1:=by
 have c:∀{f:PS},f.1<ts.length→iI (cy ts (em ts) f).1:=fun h=>l7 a i (BF a) (ji ts) (fun _ h=>rE h) h
 unfold dB
 (repeat' split)
 ·exact ee (show (0:Nat)≤16390 by omega) (fX a σ) (by simp) (fun x g=>by rw[List.mem_singleton]at g;subst g;exact pB a _ _ _)
 ·exact ee (kS a _ _ _) (fX a σ) (c (eP (cH b) 2 6)).1 (c (eP (cH b) 2 6)).2
 ·exact ee (kS a _ _ _) (fX a σ) (c (eP b 2 5)).1 (c (eP b 2 5)).2
theorem Aq(a:cG ts)(g:ts.length≤16385){σ:PS}(b:σ.1<ts.length):∀d,dG d (eU ts σ).1:=by
 have c:∀σ:PS,σ.1<ts.length→(eH ts σ).2.1<ts.length:=fun σ h=>uS _ _ _ h
 have i:∀{f:PS},f.1<ts.length→iI (cy ts (eH ts) f).1:=fun h=>l7 a g (fun σ=>pB a _ _ σ) (gb ts) c h
 have j:∀{f:PS},f.1<ts.length→iI (i9 ts (eH ts) f).1:=fun h=>sP a g (fun σ=>pB a _ _ σ) (gb ts) c h
 unfold eU
 (repeat' split)
 ·exact ee (kS a _ _ _) (fX a σ) (i (eP (cH b) 2 8)).1 (i (eP (cH b) 2 8)).2
 ·exact ee (show (0:Nat)≤16390 by omega) (fX a σ) (by simp) (fun x c=>by cases c)
 ·exact ee (show (0:Nat)≤16390 by omega) (fX a σ) (j (cH b)).1 (j (cH b)).2
 ·exact ee (show (0:Nat)≤16390 by omega) (fX a σ) (by simp) (fun x c=>by cases c)
theorem yE(b:cG ts)(c:ts.length≤16385)(a:Int)(j:0≤a∧a≤16384){σ:PS}(f:σ.1<ts.length):∀d,dG d (dI ts a σ).1:=by
 unfold dI;dsimp only;have g:=dh (xf (eP f (ts:=ts) 2 4)) kw;obtain⟨k,c2⟩:=sU c (fun σ h=>yA b c h) (pF (ji ts)) (fun _ h=>pG h) (fun σ h=>pY b (ji ts) (fun _ h=>pE h) h) tTo (ts.length+1) [] _ g (FA _) (fun x l=>by cases l);have n:=rH (fun _ h=>pG h) tTo (ts.length+1) [] _ g;generalize upTo ts (dB ts (em ts)) tTo (ts.length+1) [] (aU ts (ig ts (ofM ts σ 2 4).2).2 kw)=cs at *;have hw:=bL ts cs.2 tTo
 obtain⟨i,_⟩:=sU c (fun σ h=>Aq b c h) (rh ts) (fun _ h=>xb h) (fun σ h=>re b h) dn (ts.length+1) cs.1 _ (dh n tTo) (by
  by_cases h:cs.2.2=wg
  ·rw[r6 h]at c2;rw[r6 (ej h _)];omega
  ·rw[r5 h]at c2;omega) k.2
 exact ee (kS b _ _ _) j i.1 i.2
theorem xN(a:cG ts)(c:ts.length≤16385){σ:PS}(b:σ.1<ts.length):∀d,dG d (eq ts (dI ts) σ).1:=by
 have f:∀{g:PS},g.1<ts.length→iI (cy ts (fun σ=>ofM ts σ 2 3) g).1:=fun h=>l7 a c (fun σ=>i4 a σ 2 3) (fun σ=>ed ts σ 2 3) (fun _ h=>eP h 2 3) h
 unfold eq
 split
 ·exact ee (kS a _ _ _) (fX a σ) (f (eP (cH b) 2 2)).1 (f (eP (cH b) 2 2)).2
 ·exact yE a c _ (fX a σ) (dh b _)
theorem xX(c:cG ts)(j:ts.length≤16385):∀(g:Nat) (b:List ab) (σ:PS),σ.1<ts.length→b.length≤σ.1+(if σ.2=wg then 1 else 0)→(∀x∈b,∀d,dG d x)→iI (mF ts g b σ).1:=by
 intro g
 induction g with
 | zero =>
  intro b σ a f h;refine⟨?_,h⟩
  show b.length≤_
  split at f<;>omega
 | succ g k =>
  intro b σ a f h;have done:iI b:=⟨by split at f<;>omega,h⟩
  rw[mr]
  by_cases i:σ.2=wg
  ·rw[r6 i];exact done
  ·rw[r5 i]
   split
   ·exact done
   ·rw[r5 i]at f;have l:=t9 (ts:=ts) (pQ ts) σ;refine k _ _ (BR a) ?_ (og h (xN c j a));rw[FC,F9];rcases pO c a with h|h
    ·rw[r6 h];omega
    ·split<;>omega
theorem yG(a:cG ts)(b:ts.length≤16385)(c:0<ts.length):iI (lk ts).1:=xX a b _ _ _ c (FA _) (fun x f=>by cases f)
end
theorem vm(s:ByteArray):∀(n p:Nat),s.size-p≤n→∀t∈(aL s p).1,p≤t.2.2:=by
 intro n
 induction n with
 | zero =>
  intro p h t a;rw[dD s p (by rw[eT s p (by omega)];omega)]at a
  cases a
 | succ n g =>
  intro p h t a;have c:=kE s _ p (Fj _)
  by_cases b:skip s p<s.size
  ·by_cases f:(an s (skip s p) s[skip s p]).2.2.1=0
   ·obtain⟨i,n2⟩:=fy s (skip s p) b f;rw[fg s p b f]at a;rcases FZ.1 a with rfl|a
    ·exact c
    ·have:=g _ (by omega) t a;omega
   ·rw[fw s p b f]at a;cases a
  ·rw[dD s p b]at a;cases a
def fS(s:ByteArray):List Tok:=(aL s 0).1++[(7,⟨#[]⟩,s.size)]
theorem vY(s:ByteArray):∀(n p:Nat),s.size-p≤n→((aL s p).1).Pairwise (fun a b=>a.2.2<b.2.2)∧∀t∈(aL s p).1,t.2.2<s.size:=by
 intro n
 induction n with
 | zero =>
  intro p h;rw[dD s p (by rw[eT s p (by omega)];omega)];exact⟨List.Pairwise.nil,fun t c=>by cases c⟩
 | succ n i =>
  intro p h;have j:=kE s _ p (Fj _)
  by_cases f:skip s p<s.size
  ·by_cases g:(an s (skip s p) s[skip s p]).2.2.1=0
   ·obtain⟨l,n2⟩:=fy s (skip s p) f g;rw[fg s p f g];obtain⟨k,i2⟩:=i (an s (skip s p) s[skip s p]).2.2.2 (by omega);refine⟨List.Pairwise.cons (fun t c=>?_) k,fun t c=>?_⟩
    ·have:=vm s _ _ (Fj _) t c
     show skip s p<t.2.2
     omega
    ·rcases FZ.1 c with rfl|c
     ·exact f
     ·exact i2 t c
   ·rw[fw s p f g];exact⟨List.Pairwise.nil,fun t c=>by cases c⟩
  ·rw[dD s p f];exact⟨List.Pairwise.nil,fun t c=>by cases c⟩
theorem wI(s:ByteArray):∀(n p:Nat),s.size-p≤n→p≤s.size→∀t∈(aL s p).1,t.1<7∧t.2.1.size≤s.size:=by
 intro n
 induction n with
 | zero =>
  intro p h f t a;rw[dD s p (by rw[eT s p (by omega)];omega)]at a
  cases a
 | succ n g =>
  intro p h f t a;have i:=kE s _ p (Fj _)
  by_cases b:skip s p<s.size
  ·by_cases c:(an s (skip s p) s[skip s p]).2.2.1=0
   ·obtain⟨k,n2⟩:=fy s (skip s p) b c;obtain⟨s1,s2,j⟩:=ug s (skip s p) b c;rw[fg s p b c]at a;rcases FZ.1 a with rfl|a
    ·refine⟨j,?_⟩;dsimp only;omega
    ·exact g _ (by omega) n2 t a
   ·rw[fw s p b c]at a;cases a
  ·rw[dD s p b]at a;cases a
theorem mS(s:ByteArray):(fS s).length=(aL s 0).1.length+1:=by unfold fS;simp
theorem C6(s:ByteArray)(h:s.size≤16384):cG (fS s):=by
 have i:=wI s _ 0 (Fj _) (FA _);obtain⟨_,j⟩:=vY s _ 0 (Fj _);refine⟨fun t c=>?_,fun k t f l=>?_⟩
 ·unfold fS at c;rcases List.mem_append.1 c with c|c
  ·obtain⟨a,b⟩:=i t c;have:=j t c;exact⟨by omega,by omega,by omega⟩
  ·rw[List.mem_singleton]at c;subst c;exact⟨by show 7<256;omega,by show (0:Nat)≤16384;omega,h⟩
 ·rw[mS]at l;unfold fS at f;have g:k<((aL s 0).1++[(7,(⟨#[]⟩:ByteArray),s.size)]).length:=(FD.1 f).1;rw[FC,F9]at g;obtain rfl:k=(aL s 0).1.length:=by omega
  rw[FS (Fj _),Nat.sub_self]at f;have:(7,(⟨#[]⟩:ByteArray),s.size)=t:=by simpa using f
  rw[←this]
def tC(s:ByteArray):ab:=.mk 1 ⟨#[]⟩ 0 0 (lk (fS s)).1
def tD(ts:List Tok) (R:List ab×PS) (a:ab):ab×Int×Int:=
 if R.2.2=wg then (fR,202,atM ts R.2)
 else match dpM 30 a with
  | some p=>(fR,203,p)
  | none=>if fO 30 a=wg then (a,0,0) else (fR,204,0)
def gj(s:ByteArray):ab×Int×Int:=
 if 16384<s.size then (fR,3,0)
 else match (aL s 0).2 with
  | some (er,pl)=>(fR,er,pl)
  | none=>tD (fS s) (lk (fS s)) (tC s)
def dx(W:vk) (L d:Nat) (a:List ab) (v:vn):Prop:=∃(rows:List (List vn)) (b:Nat→Nat→Prop),W.ownsRow L 25 5 v a.length rows.flatten∧cF W L d a a.length v.ownBlock rows b
theorem dx.u{W W':vk}{L d:Nat}{j:List ab}{v:vn}(h:dx W L d j v)(g:Gc W W'):dx W' L d j v:=by
 obtain⟨rows,k,l,n,r2,p,r4,q,r⟩:=h;refine⟨rows,k,ownsRow_below l g,n,r2,fun i T t u=>?_,fun i b f=>⟨(r4 i b f).1,Ft (r4 i b f).2.1 g.size,(r4 i b f).2.2⟩,q,r⟩;obtain⟨a,s,b,c⟩:=p i T t u;exact⟨a,s,b,c.u (fun b f=>(r4 i b f).2.1) g⟩
theorem dx.z{W W':vk}{L d:Nat}{k:List ab}{v:vn}(h:dx W L d k v)(r:W.heap.size≤W'.heap.size)(l:∀b,L≤b→b<W.heap.size→W'.heap[b]?=W.heap[b]?):dx W' L d k v:=by
 obtain⟨rows,t,⟨u,j⟩,w,r2,y,r4,z,B⟩:=h;refine⟨rows,t,⟨u,?_⟩,w,r2,fun i T C D=>?_,fun i b f=>⟨(r4 i b f).1,Ft (r4 i b f).2.1 r,(r4 i b f).2.2⟩,z,B⟩
 ·rcases j with j|⟨g,cap,cur,E,n,p,F⟩
  ·exact wP j
  ·exact xj ⟨g,cap,cur,E,n,(l g n (Fi.1 p).1).trans p,F⟩
 ·obtain⟨a,s,b,c⟩:=y i T C D;exact⟨a,s,b,c.z fun x o q G=>(l x (r4 i x q).1 (r4 i x q).2.1).trans G⟩
theorem dx.low{W:vk}{L L' d:Nat}{a:List ab}{v:vn}(h:dx W L d a v)(c:L'≤L):dx W L' d a v:=by
 obtain⟨rows,g,j,k,r2,l,r4,n,p⟩:=h;exact⟨rows,g,ownsRow_base j c,k,r2,l,fun i b f=>⟨Fu c (r4 i b f).1,(r4 i b f).2⟩,n,p⟩
def rM(w:vk) (r:ab×Int×Int) (e:Ending) (w':vk):Prop:=
 ∃(a:vn),e=xv (AJ #[wD #[I O r.1.b,J r.1.f,I Z r.1.h,I Z r.1.t,a],wD #[I Z r.2.1,I Z r.2.2]])∧Gc w w'∧OwnAt w' 30 r.1.q a (bP w.heap.size w'.heap.size)∧Fits r.1∧(∀d,dG d r.1)∧dx w' w.heap.size 29 r.1.q a
def uD(w:vk) (P L cap:Nat) (ts:List Tok) (R:List ab×PS) (b:Nat) (W:vk):Prop:=
 ∃(g:Nat) (a:List ab) (σ:PS) (d:Nat) (rows:List (List vn)) (c:Nat→Nat→Prop) (o:vn),mF ts g a σ=R∧(σ.2=wg∨ts.length-σ.1+1≤g)∧a.length≤σ.1+(if σ.2=wg then 1 else 0)∧
  ay w P L cap ts σ.1 σ.2 W∧W.heap[b]?=Y (ur #[I O 1,J ⟨#[]⟩,I Z 0,I Z 0,o] 25 (0,0))∧
  W.ownsRow (b+1) 25 5 o a.length rows.flatten∧cF W (b+1) d a a.length o.ownBlock rows c
theorem sq{W:vk}:∀{n d:Nat} {a:List ab} {b:vn} {F:Nat→Prop},OwnAt W d a b F→(∀t∈a,dpM n t=U)→OwnAt W n a b F:=by
 intro n
 induction n with
 | zero =>
  intro d a b F h c;have j:a=[]:=by
   cases a with
   | nil=>rfl
   | cons t r=>have:=c t (List.mem_cons_self ..);cases this
  subst j;exact⟨V,h.nil⟩
 | succ n k =>
  intro d a b F h c
  cases d with
  | zero=>exact wP h
  | succ d =>
   rcases h with h|⟨g,cap,cs,l,p,q,u,v,w,x,y,z,B,C⟩
   ·exact wP h
   ·refine xj ⟨g,cap,cs,l,p,q,u,v,w,x,y,fun i T f=>?_,B,C⟩;obtain⟨D,s,E,G⟩:=z i T f;refine⟨D,s,E,k G fun t H=>?_⟩;have:=c T (FM f);unfold dpM at this;rw[List.findSome?_eq_none_iff]at this;exact this t H
theorem dx.depth{W:vk}{L d n:Nat}{f:List ab}{v:vn}(h:dx W L d f v)(j:∀t∈f,dpM (n+1) t=U):dx W L n f v:=by
 obtain⟨rows,k,l,p,r2,q,r4⟩:=h;refine⟨rows,k,l,p,r2,fun i T r g=>?_,r4⟩;obtain⟨a,s,b,c⟩:=q i T r g;refine⟨a,s,b,sq c fun t u=>?_⟩;have:=j T (FM g);unfold dpM at this;rw[List.findSome?_eq_none_iff]at this;exact this t u
theorem dx.more{W:vk}{L d:Nat}{f:List ab}{v:vn}(h:dx W L d f v):dx W L (d+1) f v:=by
 obtain⟨rows,g,j,k,r2,l,r4⟩:=h;exact⟨rows,g,j,k,r2,fun i T n p=>by obtain⟨a,s,b,c⟩:=l i T n p;exact⟨a,s,b,c.more⟩,r4⟩
theorem As(W:vk)(L d:Nat):dx W L d [] (A U 0 0):=⟨[],fun _ _=>False,World.ownsRow_nil _ _ _ _,ll _ _ _ _⟩
theorem zJ:Fits fR:=fs (by omega) (by show (0:Nat)≤16384;omega) (by omega) (by omega)
theorem ns(a:List ab):Fits (.mk 1 ⟨#[]⟩ 0 0 a):=fs (by omega) (by show (0:Nat)≤16384;omega) (by omega) (by omega)
theorem qZ{w c W:vk}{P L cap k:Nat}{bad:Bool}{ts:List Tok}(a:Gc w c)(b:ay c P L cap ts k bad W)(g:w.heap.size≤P):Gc w W:=
 ⟨b.1.os.trans a.os,b.1.tape.trans a.tape,b.1.output.trans a.output,Fu a.size b.1.size,fun i f=>(b.1.block i (Ft f a.size) (fun e=>by injection e with e;omega)).trans (a.block i f)⟩
theorem kO{w W:vk}{a:Act}{v0 v1 v2 v3 v4 c f:vn}{R:Ending→vk→Prop}(j:a.tmps.getD 2 xD=wF (Y ⟨w.heap.size,0,U⟩))(k:a.tmps.getD 3 xD=wF (Y ⟨w.heap.size+1,0,U⟩))(l:a.defers=[])
  (g:W.heap[w.heap.size]?=Y (ur #[v0,v1,v2,v3,v4] 25 (0,0))) (b:W.heap[w.heap.size+1]?=Y (ur #[c,f] 35 (0,0))) (n:R (xv (AJ #[wD #[v0,v1,v2,v3,v4],wD #[c,f]])) W):bodyPost Tryz.prog Tryz.f31 R .ret a W:=by
 obtain⟨p,q,c2,r,c4⟩:=cells5 g;have d0:W.cell? ⟨w.heap.size+1,0,U⟩=Y c:=by simp[B3,b]
 have d1:W.cell? ⟨w.heap.size+1,1,U⟩=Y f:=by simp[B3,b]
 have h:a.tmps[2]?.getD xD=wF (Y ⟨w.heap.size,0,U⟩):=by simpa using j
 have i:a.tmps[3]?.getD xD=wF (Y ⟨w.heap.size+1,0,U⟩):=by simpa using k
 refine bodyPost_ret (v:=AJ #[wD #[v0,v1,v2,v3,v4],wD #[c,f]]) ?_ l n;simp[results,Tryz.results31,go_sem,h,i,p,q,c2,r,c4,d0,d1]
theorem Bb{W:vk}{b:Nat}{a c:vn}{t:TypeId}(h:W.heap[b]?=Y (ur #[a,c] t (0,0)))(v0 v1:vn) :
  ((W.setCell ⟨b,0,U⟩ v0).setCell ⟨b,1,U⟩ v1).heap[b]?=Y (ur #[v0,v1] t (0,0)):=by
 rw[heap_set (heap_set h 0 v0) 1 v1];rfl
theorem eB{W:vk}{b:Nat}{a c:vn}{t:TypeId}(h:W.heap[b]?=Y (ur #[a,c] t (0,0))):W.cell? ⟨b,0,U⟩=Y a∧W.cell? ⟨b,1,U⟩=Y c∧W.frozen? ⟨b,0,U⟩=wj∧W.frozen? ⟨b,1,U⟩=false:=by refine⟨by simp[B3,h],by simp[B3,h],by simp[World.frozen?,h],by simp[World.frozen?,h]⟩
theorem iP{w W:vk}{v0 v1 v2 v3 v4 a0 a1:vn}{f g h i j k l:vn}(n:Gc w W)(a:W.heap[w.heap.size]?=Y (ur #[f,g,h,i,j] 25 (0,0)))(c:W.heap[w.heap.size+1]?=Y (ur #[k,l] 35 (0,0))) :
  Gc w (((set5 W w.heap.size v0 v1 v2 v3 v4).setCell ⟨w.heap.size+1,0,U⟩ a0).setCell ⟨w.heap.size+1,1,U⟩ a1)∧
  (((set5 W w.heap.size v0 v1 v2 v3 v4).setCell ⟨w.heap.size+1,0,U⟩ a0).setCell ⟨w.heap.size+1,1,U⟩ a1).heap[w.heap.size]?=Y (ur #[v0,v1,v2,v3,v4] 25 (0,0))∧
  (((set5 W w.heap.size v0 v1 v2 v3 v4).setCell ⟨w.heap.size+1,0,U⟩ a0).setCell ⟨w.heap.size+1,1,U⟩ a1).heap[w.heap.size+1]?=Y (ur #[a0,a1] 35 (0,0))∧
  (∀b,w.heap.size+2≤b→(((set5 W w.heap.size v0 v1 v2 v3 v4).setCell ⟨w.heap.size+1,0,U⟩ a0).setCell ⟨w.heap.size+1,1,U⟩ a1).heap[b]?=W.heap[b]?)∧
  (((set5 W w.heap.size v0 v1 v2 v3 v4).setCell ⟨w.heap.size+1,0,U⟩ a0).setCell ⟨w.heap.size+1,1,U⟩ a1).heap.size=W.heap.size:=by
 refine⟨?_,?_,?_,fun b q=>?_,?_⟩
 ·unfold set5;exact ((((((n.setCell (p:=⟨w.heap.size,0,U⟩) (Fj _) v0).setCell (p:=⟨w.heap.size,1,U⟩) (Fj _) v1).setCell (p:=⟨w.heap.size,2,U⟩) (Fj _) v2).setCell (p:=⟨w.heap.size,3,U⟩) (Fj _) v3).setCell (p:=⟨w.heap.size,4,U⟩) (Fj _) v4).setCell (p:=⟨w.heap.size+1,0,U⟩) (FN _) a0).setCell (p:=⟨w.heap.size+1,1,U⟩) (FN _) a1
 ·exact (Fp _ _ _ _ (show w.heap.size≠w.heap.size+1 by omega)).trans ((Fp _ _ _ _ (show w.heap.size≠w.heap.size+1 by omega)).trans (a7 a v0 v1 v2 v3 v4))
 ·exact Bb ((kr (show w.heap.size+1≠w.heap.size by omega) v0 v1 v2 v3 v4).trans c) a0 a1
 ·exact (Fp _ _ _ _ (show b≠w.heap.size+1 by omega)).trans ((Fp _ _ _ _ (show b≠w.heap.size+1 by omega)).trans (kr (show b≠w.heap.size by omega) v0 v1 v2 v3 v4))
 ·rw[BT,BT];simp[set5,BT]
theorem xE(s:ByteArray)(a:vk)(g:aS a):Calls Tryz.prog 54 #[J s] a fun e w'=>Gc a w'∧
  ((∃er pl:Nat,gj s=(fR,(er:Int),(pl:Int))∧er≠0∧e=xv (AJ #[A U 0 0,wD #[I Z er,I Z pl]]))∨
   (s.size≤16384∧(aL s 0).2=U∧∃v,e=xv (AJ #[v,wD #[I Z 0,I Z 0]])∧w'.ownsRow a.heap.size 122 3 v (fS s).length (bV (fS s)))):=by
 by_cases f:16384<s.size
 ·refine (oV s a f).mono ?_;rintro e w' ⟨rfl,b⟩;exact⟨b,wP ⟨3,0,by unfold gj;rw[r6 f];rfl,by decide,V⟩⟩
 ·refine (qk s a (by omega) g).mono ?_;rintro e w' ⟨b,⟨c,v,rfl,h⟩|⟨er,pl,c,rfl⟩⟩
  ·refine⟨b,xj ⟨by omega,c,v,V,?_⟩⟩;rw[mS];exact h
  ·refine⟨b,wP ⟨er,pl,by unfold gj;rw[r5 f,c],(BW s _ 0 er pl c).1,V⟩⟩
theorem zK{w W:vk}{s:ByteArray}{f:ab}{a:List ab}{p:Option Addr}{c:Nat}{F:Nat→Prop}(hm:gj s=if wg=wg then (f,0,0) else (fR,204,0))(i:f=.mk 1 ⟨#[]⟩ 0 0 a)(g:∀d,dG d f)(j:Gc w W)(h:dx W w.heap.size 29 a (A p a.length c))
  (k:OwnAt W 30 a (A p a.length c) F) (hF:∀b,F b→bP w.heap.size W.heap.size b) :
  rM w (gj s) (xv (AJ #[wD #[I O 1,J ⟨#[]⟩,I Z 0,I Z 0,A p a.length c],wD #[I Z 0,I Z 0]])) W:=by
 rw[hm,r6 V];subst i;exact⟨_,V,j,k.K hF,ns a,g,h⟩
theorem oY(a:Int)(x:ByteArray)(p:Int)(W:vk):(Instr.field 122 (wD #[I O a,J x,I Z p]) 0).run Tryz.prog W=.ok (I O a) W:=by kernel_rfl
theorem lj{w W:vk}{s:ByteArray}{er pl:Int}(hm:gj s=(fR,er,pl))(a:Gc w W) :
  rM w (gj s) (xv (AJ #[wD #[I O 0,J ⟨#[]⟩,I Z 0,I Z 0,A U 0 0],wD #[I Z er,I Z pl]])) W:=by
 rw[hm];exact⟨A U 0 0,V,a,wP ⟨V,wP V⟩,zJ,nK,As _ _ _⟩
theorem vO(s:ByteArray)(w:vk)(ht:aS w):Calls Tryz.prog 31 #[J s] w (rM w (gj s)):=by
 obtain⟨wA,bd⟩:=zzx ((w.alloc (ur bS 25)).alloc (ur #[I Z 0,I Z 0] 35));have cb:Gc w wA:=by rw[bd];exact eM w _ _
 obtain⟨X0,X1,_⟩:=aw w (ur bS 25) (ur #[I Z 0,I Z 0] 35);rw[←bd]at X0 X1;obtain⟨HT,hz⟩:=zz2 (xE s wA (ht.u cb)) (ht.u cb);have e2:(1:Nat)<w.heap.size:=ht.lt;obtain⟨i0,hA,hC,hD,hG⟩:=info_parts mx;have ar:Hid (wA.heap.size=w.heap.size+2):=by show _=_;rw[bd];simp
 obtain⟨c3,c5,cc⟩:=zz3 X0 X1 cb;clear X0 X1 cb ht
 go_enter Tryz.func31,Tryz.ntmps31
 go_upto_region 1 with fail
 change Code.wp _ _ _ _ ((w.alloc (ur bS 25)).alloc (ur #[I Z 0,I Z 0] 35));rw[←bd];clear bd;go_wp2_with fail
 refine Fx HT.o ?_;rintro e w1 ⟨ak,⟨er,pl,hm,hI,rfl⟩|⟨hs,h0,v,rfl,av⟩⟩
 ·have HM:=Hd hm;have lo:((er:Int) != 0)=true:=by simp;omega
  obtain⟨H,K⟩:=zzx (w1.alloc (ur #[I Z er,I Z pl] 35));have S:Gc wA H:=by rw[K];exact ak.alloc ak.size _
  have bk:H.heap[w1.heap.size]?=Y (ur #[I Z er,I Z pl] 35 (0,0)):=by rw[K];exact qv w1 _
  have HB:=Hd (cc.o.trans (S.mono cc.o.size));have l0:w.heap.size+2≤w1.heap.size:=by have:=ar.o;have:=ak.size;omega
  obtain⟨T,c6⟩:=zz2 (aa S c3.o (by have:=ar.o;omega)) (aa S c5.o (by have:=ar.o;omega));clear ak S hm hI;go_upto_region 2 with fail
  change Code.wp _ _ _ _ (w1.alloc (ur #[I Z er,I Z pl] 35));rw[←K];clear K;obtain⟨f0,f1,_,_⟩:=eB bk;clear bk;go_wp2_with fail
  have z0:=ac T.o 0;have z1:=ac T.o 1;have z2:=ac T.o 2;have z3:=ac T.o 3;have z4:=ac T.o 4;obtain⟨a0,a1,a2,a3,a4⟩:=cells5 T.o;obtain⟨b0,b1,y0,y1⟩:=eB c6.o;have ma:(w.heap.size=w1.heap.size)=False:=by simp;omega
  have mc:(w1.heap.size=w.heap.size)=False:=by simp;omega
  go_region
  go_wp2_with fail
  obtain⟨k1,k2,k3,_,_⟩:=iP (v0:=I O 0) (v1:=J ⟨#[]⟩) (v2:=I Z 0) (v3:=I Z 0) (v4:=A U 0 0) (a0:=I Z er) (a1:=I Z pl) HB.o T.o c6.o;change bodyPost _ _ _ _ _ (((set5 H w.heap.size (I O 0) (J ⟨#[]⟩) (I Z 0) (I Z 0) (A U 0 0)).setCell ⟨w.heap.size+1,0,U⟩ (I Z er)).setCell ⟨w.heap.size+1,1,U⟩ (I Z pl)).drew;generalize (((set5 H w.heap.size (I O 0) (J ⟨#[]⟩) (I Z 0) (I Z 0) (A U 0 0)).setCell ⟨w.heap.size+1,0,U⟩ (I Z er)).setCell ⟨w.heap.size+1,1,U⟩ (I Z pl))=WZ at *;have hJ:WZ.drew.heap[w.heap.size]?=_:=k2;have hK:WZ.drew.heap[w.heap.size+1]?=_:=k3;exact kO V V V hJ hK (lj HM.o k1.drew)
 ·obtain⟨_,c7⟩:=av;have hlen:=mS s;have al:=C6 s hs;have ch:(fS s).length≤16385:=by
   have h1:=pN s (s.size+1) 0 (FA _);have h2:(aL s 0).1.length+0≤s.size:=h1;omega
  rcases c7 with ⟨_,h⟩|⟨L,cap,cur,rfl,mn,c8,hle,e3,hL,aq⟩
  ·omega
  have HM:Hid (gj s=tD (fS s) (lk (fS s)) (tC s)):=by
   show _=_
   unfold gj;rw[r5 (by omega),h0]
  have X:Hid (tC s=.mk 1 ⟨#[]⟩ 0 0 (lk (fS s)).1):=rfl;have bb:Hid (iI (lk (fS s)).1):=yG al ch (by omega);obtain⟨R,hR⟩:=zzy (lk (fS s));rw[hR]at HM X bb;unfold lk at hR;generalize tC s=T0 at *;obtain⟨ts,cu⟩:=zzy (fS s);rw[cu]at hlen al ch hle aq HM hR ⊢;obtain⟨HR,c9,da⟩:=zz3 hR al (zZ al (Br al));have e4:0<ts.length:=by omega
  have l1:=Hd ch;have hM:wA.heap.size≤w1.heap.size:=ak.size;have hN:L<w1.heap.size:=(Fi.1 c8).1;obtain⟨H,K⟩:=zzx (w1.alloc (ur #[I Z 0,I Z 0] 35));obtain⟨B,bl⟩:=zzx (H.alloc (ur #[A (Y ⟨L,0,U⟩) ts.length cap,xS wj] 119));obtain⟨wn,bn⟩:=zzx (B.alloc (ur #[I O 1,J ⟨#[]⟩,I Z 0,I Z 0,A U 0 0] 25));have S:Gc w1 H:=by rw[K];exact (Fl _ w1).alloc (Fj _) _
  have bq:Gc H B:=by rw[bl];exact (Fl _ H).alloc (Fj _) _
  have ck:Gc B wn:=by rw[bn];exact (Fl _ B).alloc (Fj _) _
  have bk:H.heap[w1.heap.size]?=Y (ur #[I Z 0,I Z 0] 35 (0,0)):=by rw[K];exact qv w1 _
  have dc:B.heap[H.heap.size]?=Y (ur #[A (Y ⟨L,0,U⟩) ts.length cap,xS wj] 119 (0,0)):=by rw[bl];exact qv H _
  have dg:wn.heap[B.heap.size]?=Y (ur #[I O 1,J ⟨#[]⟩,I Z 0,I Z 0,A U 0 0] 25 (0,0)):=by rw[bn];exact qv B _
  have hQ:H.heap.size=w1.heap.size+1:=by rw[K];simp
  have hV:B.heap.size=H.heap.size+1:=by rw[bl];simp
  have hW:wn.heap.size=B.heap.size+1:=by rw[bn];simp
  have M:Gc wA B:=ak.trans ((S.trans (bq.mono (by omega))).mono hM);have dp:PAt B H.heap.size L cap ts 0 false:=by
   refine⟨⟨ts.length,cap,V,V,by rw[Nat.zero_mul];exact dc⟩,⟨cur,?_,fun j u hu=>?_⟩,e4,ch,hle,e3⟩
   ·exact aa (S.trans (bq.mono (by omega))) c8 hN
   ·rw[←aq,List.getElem?_take]at hu
    split at hu
    ·simpa using hu
    ·cases hu
  have ds:=dp.b ck;have e5:=ar.o;obtain⟨P,hP⟩:=zzy (H.heap.size);obtain⟨bB,dv⟩:=zzy (B.heap.size);rw[hP]at dp ds dc;rw[dv]at dg;have l2:w.heap.size+2<P:=by omega
  have mu:P<bB:=by omega
  have hX:B.heap.size≤bB:=by omega
  have HL:Hid (L<B.heap.size):=by show _<_;omega
  have hY:P<B.heap.size:=by omega
  have h4:Hid (Gc w B):=cc.o.trans (M.mono cc.o.size);obtain⟨T,c6,e6,e7⟩:=zz4 (aa (M.trans (ck.mono M.size)) c3.o (by omega)) (aa (M.trans (ck.mono M.size)) c5.o (by omega)) dg ds;have e8:bB+1=wn.heap.size:=by omega
  have cv:Hid (uD B P L cap ts R bB wn):=
   ⟨ts.length+1,[],(0,wj),0,[],fun _ _=>False,A U 0 0,HR.o,xj (by omega),FA _,e7.o,e6.o,World.ownsRow_nil _ _ _ _,ll _ _ _ _⟩
  obtain⟨HP,h5,e9,fe,fm⟩:=zz5 hP dv (aa M c3.o (by omega)) (aa M c5.o (by omega)) (hz.o.u M);have h6:P≠1:=fun h=>by have:=e2;omega
  obtain⟨h7,h8,h9⟩:=zz3 K bl bn;have ih:Hid (0≤atM ts R.2∧atM ts R.2≤16384):=by
   show _∧_
   obtain⟨_,_,g3⟩:=cM al R.2.1;unfold atM;omega
  obtain⟨f0,f1,_,_⟩:=eB bk;have l3:bB+1≤wn.heap.size:=by omega
  clear hlen e8 e5 hQ hV hW K bl bn bk dc dg ds dp S bq ck ak al cu c8 aq hL e3 hR M hP dv hle hs h0;go_upto_region 2 with fail
  change Code.wp _ _ _ _ (w1.alloc (ur #[I Z 0,I Z 0] 35));rw[←h7.o];go_upto_region 5 with fail
  change Code.wp _ _ _ _ (H.alloc (ur #[A (Y ⟨L,0,U⟩) ts.length cap,xS wj] 119));rw[←h8.o,HP.o];go_wp2_with fail
  change Code.wp _ _ _ _ (B.alloc (ur #[I O 1,J ⟨#[]⟩,I Z 0,I Z 0,A U 0 0] 25));rw[←h9.o,h5.o]
  go_loopw [25] (fun _ wr=>uD B P L cap ts R bB wr) (fun _ wr=>gr P wr)
  case atStart=>exact cv.o
  case round =>
   clear cv e7 e6;obtain⟨g,ks,a,dd,rows,Fs,o,fp,hg,hlen,hT,hn,av,br⟩:=hrel;obtain⟨cl,ea,HG,fv,fz,cx,bt⟩:=zz7 hT fp hg hlen hn av br;have fI:=Hd hT.2.steps;have bR:Hid (a.1≤(eq ts (dI ts) a).2.1):=t9 (ts:=ts) (pQ ts) a;have fM:bB<wr.heap.size:=(Fi.1 hn).1;clear fp hg hlen hT hn av br;go_upto_region 6 with fail
   go_cut [38] from 25 to 38 (fun v wx=>v=xS (!a.2&&kdM ts a != 7)∧Gc wr wx)
   case first =>
    obtain⟨_,_,_,_,_,c1,_,_⟩:=cl.o.2.y;have b2:=Hd (ge cl.o.2)
    cases l:a.2 with
    | true =>
     rw[l]at c1;have cq:=Hd l;clear l;go_wp2_with fail
     go_meet
     case rel=>exact⟨by rw[cq.o];rfl,Fl _ _⟩
    | false =>
     rw[l]at c1;have cq:=Hd l;clear l;have iv:kdM ts a<256:=(cM c9.o a.1).1;obtain⟨kd,eb⟩:=zzy (kdM ts a);rw[eb]at b2 iv;have fT:=Hd eb;clear eb;generalize txM ts a=tx at b2;generalize atM ts a=pl at b2
     by_cases hk:kd=7
     ·have ix:((kd:Int) != 7)=false:=by simp;omega
      have HK:=Hd hk;clear hk;go_wp2_with fail
      refine Fx b2.o ?_;rintro e wx ⟨rfl,C⟩;have ad:=Hd C;have iA:=oY kd tx pl wx;clear C;go_wp2_with fail
      go_meet
      case rel=>exact⟨by rw[cq.o,fT.o,HK.o];rfl,ad.o⟩
     ·have ix:((kd:Int) != 7)=true:=by simp;omega
      have gf:(kd != 7)=true:=by simpa using hk
      have HK:=Hd gf;clear hk gf;go_wp2_with fail
      refine Fx b2.o ?_;rintro e wx ⟨rfl,C⟩;have ad:=Hd C;have iA:=oY kd tx pl wx;clear C;go_wp2_with fail
      go_meet
      case rel=>exact⟨by rw[cq.o,fT.o,HK.o];rfl,ad.o⟩
   case rest =>
    obtain⟨rfl,C⟩:=hcut;obtain⟨D,b3⟩:=zz2 (cl.o.f C) (aa C fz.o fM);have gD:P<bB+1:=by omega
    obtain⟨E,z⟩:=zz2 (du cx.o (aQ C (Y P)) gD) (bt.o.turn (aQ C (Y P)) gD);have iB:bB<wc.heap.size:=(Fi.1 b3.o).1;clear C cl fz cx bt fM;obtain⟨b,l⟩:=zzy ((!a.2&&kdM ts a != 7));rw[l];have HB:=Hd l;clear l
    cases b with
    | true =>
     have bc:a.2=false:=by have:=HB.o;cases h:a.2<;>simp[h]at this ⊢
     have gE:¬kdM ts a=7:=by have:=HB.o;rw[bc]at this;simpa using this
     have gF:=D.o.2.k;have mv:=D.o.2.n;have gH:=fv.o;rw[bc]at gH;simp only[FO,sn,Nat.add_zero]at gH;obtain⟨g',gL,gM⟩:∃g',((eq ts (dI ts) a).2.2=wg∨ts.length-(eq ts (dI ts) a).2.1+1≤g')∧mF ts g' (ks++[(eq ts (dI ts) a).1]) (eq ts (dI ts) a).2=R:=by
      have h1:=ea.o;have h2:=HG.o;rw[bc]at h2;have na:ts.length-a.1+1≤g:=by rcases h2 with h|h;cases h;exact h
      cases g with
      | zero=>omega
      | succ g =>
       rw[mr,r5 (by rw[bc];decide),r5 gE]at h1;refine⟨g,?_,h1⟩;rcases pO c9.o gF with h|h
       ·exact wP h
       ·exact xj (by omega)
     have gN:=pO c9.o gF;obtain⟨ec,iX,i1,gO,jj⟩:=zz5 (da.o a wc.drew P L cap D.o.2.drew) gL gM gN bc;clear gL gM gN gE bc;generalize eq ts (dI ts) a=r at *;obtain⟨d0,gS,gT,d3,d4⟩:=cells5 b3.o;have bq:bB≠P:=by omega
     have C4:=fun x:RE.Gr wc P=>x.b d4 bq
     have ha:P<wc.heap.size:=D.o.2.lt.1;clear d0 gS gT d3 d4;go_wp2_with fail
     refine RE.q (by kernel_rfl) 5 [3,4] [3,4] (fun s W=>if s=0 then W=wc.drew else ay wc P L cap ts r.2.1 r.2.2 W) (fun W W'=>W.grownBy W' (Y P))
      (fun i xs=>if i=3 then wD #[I O r.1.b,J r.1.f,I Z r.1.h,I Z r.1.t,xs.getD 0 xD] else A (Y ⟨RE.natOf xs,0,U⟩) 1 1)
      (fun i W xs=>if i=3 then fZ wc.heap.size r.1 W xs else hH wc.heap.size r.1 W xs) (by kernel_rfl) (fun i h1 h2=>by rw[h1]at h2;cases h2) ?_ V ?_
     ·intro k W W' xs h _ hg
      split at h
      ·rw[r6 (by assumption)];exact h.h ha hg
      ·rw[r5 (by assumption)];exact h.h ha hg
     simp only[Fy,FK,Fz,FI,FU,List.length_nil,Nat.reduceAdd];have hc:∀(n s:Nat) (W:vk),s≤n→(if s=0 then W=wc.drew else ay wc P L cap ts r.2.1 r.2.2 W)→∃x:RE.Gr wc P,W=x.1:=fun n s W _ h=>by
      split at h
      ·exact⟨⟨W,by rw[h];exact grown_drewN (sm wc _) 1⟩,V⟩
      ·exact⟨⟨W,h.1⟩,V⟩
     have jv:=Hd hc;clear hc
     repeat (refine RE.b (fun W=>∃x:RE.Gr wc P,W=x.1) (jv.o _) V V V V ?_;go_big_quiet_step (fail);refine wpQuiet_nil ?_)
     refine RE.f V V ?_ (fun hd=>?_)
     ·intro W _ hS _;obtain rfl:W=wc.drew:=hS V;refine RE.t 56 _ _ V (enters_of Tryz.func56 (by kernel_rfl) V) #[wF (Y ⟨P,0,U⟩)] (by simp[Act.eval]) (ec.o.mono ?_);rintro e W' ⟨d,s,rfl,hT,ho,hf⟩;exact⟨_,V,[s],V,hT.q,hT.1,⟨d,s,V,ho,hf⟩⟩
     simp only[Act.put,Fo,Fw,Fv];refine RE.f V V ?_ (fun hh=>?_)
     ·intro W _ hS j2;have hT:ay wc P L cap ts r.2.1 r.2.2 W:=hS V;obtain⟨d,s,rfl,ho,hf⟩:fZ wc.heap.size r.1 W hd:=j2 3 hd (by kernel_rfl) V;obtain⟨p,c,rfl⟩:=ho.b;refine RE.Upon.told (v:=A (Y ⟨W.heap.size,0,U⟩) 1 1) (w':=W.alloc (ur (ai r.1 (A p r.1.q.length c)).toArray 25)) ?_ ⟨[I Z W.heap.size],V,hT.y _,?_,?_⟩
      ·unfold RE.Upon
       go_simp
       rfl
      ·exact aQ ((Fl _ W).alloc (Fj _) _) _
      ·refine⟨d,W.heap.size,W.heap.size,_,V,qv W _,?_,hf,hT.1.size,Fj _⟩;exact ho.u (fun b l=>l.2) ((Fl _ W).alloc (Fj _) _)
     simp only[Act.put,Fo,Fw,Fv];refine RE.h ?_;intro W3 hS hE;have cr:ay wc P L cap ts r.2.1 r.2.2 W3:=hS;obtain⟨d2,gg,N,s2,rfl,eg,ek,kc,kf,kk⟩:=(show hH wc.heap.size r.1 W3 hh from hE 4 hh V);have nb:wc.heap.size≤W3.heap.size:=cr.1.size;have b4:=du E.o cr.1 (by omega);refine wpList_append_lies W3 V (.tmp 40) (.tmp 43) 23 V (bB+1) 25 i0 _ 5 64 Tryz.underlying23 hA hC hD hG V (by decide) o ks.length rows.flatten V b4 ⟨gg,0,U⟩ 1 1 (ai r.1 s2) V V
      (fun j u hu=>by rw[Addr.add_mid,Gb _ _ _ _ _ _ eg,Nat.zero_add];simpa using hu) (by have:=ek.b;obtain⟨p,c,rfl⟩:=this;simp[Value.oneCell',ai]) (by decide) (by unfold maxLen;omega) (by omega) (by omega) _ V ?_
     intro g7 hi w7 cA b5 b6 _;obtain⟨d',el,kn,u1,u2,u3,u4,u5,u6⟩:=rF (w:=B) hY HL.o hX (show bB<(bB+1) by omega) (by omega) D.o b3.o E.o z.o cr eg ek kc kf kk cA b5 b6;have x4:=ac u6 4;obtain⟨d0,gS,gT,d3,d4⟩:=cells5 u6;obtain⟨Wn,hj⟩:=zzx (w7.setCell ⟨bB,4,U⟩ (A (Y ⟨g7,0,U⟩) (ks.length+1) hi));rw[←hj]at u1 u2 u3 u4 u5;have b7:(ks++[r.1]).length≤r.2.1+(if r.2.2=wg then 1 else 0):=by
      have h1:=u1.2.k;rw[FC,F9];rcases gO.o with h|h
      ·rw[r6 h];have:=bR.o;omega
      ·split<;>omega
     have en:Hid (uD B P L cap ts R bB Wn):=
      ⟨g',_,r.2,d',el,kn,_,i1.o,iX.o,b7,u1,u3,u4,u5⟩
     have eo:Hid (gr P Wn<gr P wr):=by
      show _<_
      rw[u1.2.steps,fI.o,r5 (show ¬a.2=wg by rw[jj.o];decide)];have h1:=u1.2.k;have h3:=bR.o;rcases gO.o with h|h
      ·rw[r6 h];omega
      ·split<;>omega
     have kp:=Hd hj;clear u1 u2 u3 u4 u5 b7 b6 b5 cA hE hS cr b4 eg ek C4;go_wp2_with fail
     rw[←kp.o];exact⟨en.o,eo.o⟩
    | false =>
     have kv:(ks,a)=R:=by
      rw[←ea.o];have h2:=HB.o
      cases g with
      | zero=>rfl
      | succ g =>
       rw[mr]
       by_cases ep:a.2=wg
       ·rw[r6 ep]
       ·rw[r5 ep,r6 (by simpa [ep]using h2)]
     subst kv;dsimp only at X ih bb;have cC:=Hd ((D.o.1.block w.heap.size (by omega) (fun e=>by injection e with e;omega)).trans e9.o)
     have cR:=Hd ((D.o.1.block (w.heap.size+1) (by omega) (fun e=>by injection e with e;omega)).trans fe.o)
     obtain⟨ad,kI⟩:=zz2 (qZ h4.o D.o (by omega)) (fm.o.h D.o.1 h6);obtain⟨_,_,_,_,_,c1,_,_⟩:=D.o.2.y;clear ea HG fv HB bR fI
     cases l:a.2 with
     | true =>
      rw[l]at c1;have hl:Hid (gj s=(fR,202,atM ts a)):=by show _=_;rw[HM.o];unfold tD;dsimp only;rw[r6 l]
      have a6:=Hd (ge D.o.2);clear l;generalize kdM ts a=kd at a6;generalize txM ts a=tx at a6;generalize atM ts a=pl at a6 hl;go_wp2_with fail
      refine Fx a6.o ?_;rintro e wy ⟨rfl,ct⟩;have nc:=j4 kd tx pl wy;obtain⟨k0,F,cT⟩:=zz3 (ad.o.trans (ct.mono ad.o.size)) (aa ct cC.o (by omega)) (aa ct cR.o (by omega));clear ct c1;obtain⟨k1,k2,k3,k4,k5⟩:=iP (v0:=(I O 0)) (v1:=(J ⟨#[]⟩)) (v2:=(I Z 0)) (v3:=(I Z 0)) (v4:=(A U 0 0)) (a0:=(I Z 202)) (a1:=(I Z pl)) k0.o F.o cT.o;obtain⟨K1,K2,K3,K4,K5⟩:=zz5 k1 k2 k3 k4 k5;clear k1 k2 k3 k4 k5;have z0:=ac F.o 0;have z1:=ac F.o 1;have z2:=ac F.o 2;have z3:=ac F.o 3;have z4:=ac F.o 4;obtain⟨a0,a1,a2,a3,a4⟩:=cells5 F.o;obtain⟨b0,b1,y0,y1⟩:=eB cT.o;go_wp2_with fail
      change bodyPost _ _ _ _ _ (((set5 wy w.heap.size (I O 0) (J ⟨#[]⟩) (I Z 0) (I Z 0) (A U 0 0)).setCell ⟨w.heap.size+1,0,U⟩ (I Z 202)).setCell ⟨w.heap.size+1,1,U⟩ (I Z pl));generalize ((set5 wy w.heap.size (I O 0) (J ⟨#[]⟩) (I Z 0) (I Z 0) (A U 0 0)).setCell ⟨w.heap.size+1,0,U⟩ (I Z 202)).setCell ⟨w.heap.size+1,1,U⟩ (I Z pl)=WZ at *;exact kO V V V K2.o K3.o (lj hl.o K1.o)
     | false =>
      rw[l]at c1
      have b8:Hid (gj s=match dpM 30 T0 with
        | some p=>(fR,203,p)
        | none=>if fO 30 T0=wg then (T0,0,0) else (fR,204,0)):=by
       show _=_
       rw[HM.o];unfold tD;dsimp only;rw[r5 (by rw[l];decide)]
      clear l;have hO:=rG (d:=dd+1) V E.o z.o (fun h=>by omega);obtain⟨p,c,rfl⟩:=hO.b;have HO:=Hd hO;have G:bz wc wc.heap.size (dd+1) T0 (wD #[I O 1,J ⟨#[]⟩,I Z 0,I Z 0,A p ks.length c]):=by
       rw[X.o];exact⟨ns ks,_,V,hO.q fun b l=>l.2⟩
      have cV:∀d,cD d T0.q:=fun d=>by
       rw[X.o]
       cases d with
       | zero=>trivial
       | succ d=>exact⟨by show ks.length≤20000;have:=bb.o.1;omega,fun k hk=>(bb.o.2 k hk d).slim⟩
      have cW:Hid (∀d,dG d T0):=by
       show ∀d,dG d T0
       rw[X.o];exact ee (show (0:Nat)≤16390 by omega) (by omega) bb.o.1 bb.o.2
      obtain⟨et,k6⟩:=zz2 (zq 30 0 (dd+1) T0 _ wc.heap.size wc V G (Fj _) (cV _)) hO;have k7:Hid (dx wc (bB+1) dd ks (A p ks.length c)):=⟨rows,Fs,E.o,z.o⟩;obtain⟨n0,n1,n2,n3,n4⟩:=cells5 b3.o;clear hO G cV HO E z;obtain⟨x,hx⟩:=zzy (dpM 30 T0);rw[hx]at et b8;have HX:=Hd hx;clear hx;rw[show ((0:Nat):Int)=0 from rfl]at et;go_wp2_with fail
      refine Fx et.o ?_;rintro e wd ⟨rfl,Q⟩;obtain⟨ev,y,b9,e0,k8,k9,la⟩:=zz7 (ad.o.trans (Q.mono ad.o.size)) (aa Q cC.o (by omega)) (aa Q cR.o (by omega)) (aa Q b3.o iB) (k6.o.u (fun b l=>l.2) Q) (k7.o.u Q) (kI.o.u Q);have lb:bB<wd.heap.size:=(Fi.1 e0.o).1;have c0:wc.heap.size≤wd.heap.size:=Q.size;clear Q n0 n1 n2 n3 n4 c1
      cases x with
      | some q =>
       dsimp only [Option.getD_some,Option.isSome_some];obtain⟨k1,k2,k3,k4,k5⟩:=iP (v0:=(I O 0)) (v1:=(J ⟨#[]⟩)) (v2:=(I Z 0)) (v3:=(I Z 0)) (v4:=(A U 0 0)) (a0:=(I Z 203)) (a1:=(I Z q)) ev.o y.o b9.o;obtain⟨K1,K2,K3,K4,K5⟩:=zz5 k1 k2 k3 k4 k5;clear k1 k2 k3 k4 k5;have z0:=ac y.o 0;have z1:=ac y.o 1;have z2:=ac y.o 2;have z3:=ac y.o 3;have z4:=ac y.o 4;obtain⟨a0,a1,a2,a3,a4⟩:=cells5 y.o;obtain⟨b0,b1,y0,y1⟩:=eB b9.o;go_wp2_with fail
       change bodyPost _ _ _ _ _ (((set5 wd w.heap.size (I O 0) (J ⟨#[]⟩) (I Z 0) (I Z 0) (A U 0 0)).setCell ⟨w.heap.size+1,0,U⟩ (I Z 203)).setCell ⟨w.heap.size+1,1,U⟩ (I Z q));generalize ((set5 wd w.heap.size (I O 0) (J ⟨#[]⟩) (I Z 0) (I Z 0) (A U 0 0)).setCell ⟨w.heap.size+1,0,U⟩ (I Z 203)).setCell ⟨w.heap.size+1,1,U⟩ (I Z q)=WZ at *;exact kO V V V K2.o K3.o (lj b8.o K1.o)
      | none =>
       dsimp only [Option.getD_none,Option.isSome_none];have e1:∀t∈ks,dpM 29 t=none:=by
        have h:=HX.o;rw[X.o]at h;have h2:ks.findSome? (dpM 29)=none:=h;rw[List.findSome?_eq_none_iff]at h2;exact h2
       have ca:=(sq k8.o e1).more;obtain⟨hp,hq⟩:=zz2 ca ((k9.o.depth (n:=28) e1).more);have G:bz wd wd.heap.size 30 T0 (wD #[I O 1,J ⟨#[]⟩,I Z 0,I Z 0,A p ks.length c]):=by
        rw[X.o];exact⟨ns ks,_,V,ca.q fun b l=>Ft l.2 c0⟩
       have hr:=Hd (mJ 30 T0 _ wd.heap.size wd G (Fj _) (cW.o 30).slim la.o);obtain⟨n0,n1,n2,n3,n4⟩:=cells5 e0.o;clear e1 ca G;obtain⟨rt,hv⟩:=zzy (fO 30 T0);rw[hv]at hr b8;clear hv;go_wp2_with fail
       refine Fx hr.o ?_;rintro e we ⟨rfl,af⟩;obtain⟨hy,f,ba,ld⟩:=zz4 (ev.o.trans (af.mono ev.o.size)) (aa af y.o (by omega)) (aa af b9.o (by omega)) (aa af e0.o lb);have l4:wd.heap.size≤we.heap.size:=af.size;obtain⟨lf,lg⟩:=zz2 (hp.o.u (fun b l=>Ft l.2 c0) af) (hq.o.u af);clear af n0 n1 n2 n3 n4
       cases rt with
       | false =>
        obtain⟨k1,k2,k3,k4,k5⟩:=iP (v0:=(I O 0)) (v1:=(J ⟨#[]⟩)) (v2:=(I Z 0)) (v3:=(I Z 0)) (v4:=(A U 0 0)) (a0:=(I Z 204)) (a1:=(I Z 0)) hy.o f.o ba.o;obtain⟨K1,K2,K3,K4,K5⟩:=zz5 k1 k2 k3 k4 k5;clear k1 k2 k3 k4 k5;have z0:=ac f.o 0;have z1:=ac f.o 1;have z2:=ac f.o 2;have z3:=ac f.o 3;have z4:=ac f.o 4;obtain⟨a0,a1,a2,a3,a4⟩:=cells5 f.o;obtain⟨b0,b1,y0,y1⟩:=eB ba.o;go_wp2_with fail
        change bodyPost _ _ _ _ _ (((set5 we w.heap.size (I O 0) (J ⟨#[]⟩) (I Z 0) (I Z 0) (A U 0 0)).setCell ⟨w.heap.size+1,0,U⟩ (I Z 204)).setCell ⟨w.heap.size+1,1,U⟩ (I Z 0));generalize ((set5 we w.heap.size (I O 0) (J ⟨#[]⟩) (I Z 0) (I Z 0) (A U 0 0)).setCell ⟨w.heap.size+1,0,U⟩ (I Z 204)).setCell ⟨w.heap.size+1,1,U⟩ (I Z 0)=WZ at *;exact kO V V V K2.o K3.o (lj b8.o K1.o)
       | true =>
        obtain⟨n0,n1,n2,n3,n4⟩:=cells5 ld.o;obtain⟨k1,k2,k3,k4,k5⟩:=iP (v0:=(I O 1)) (v1:=(J ⟨#[]⟩)) (v2:=(I Z 0)) (v3:=(I Z 0)) (v4:=(A p ks.length c)) (a0:=(I Z 0)) (a1:=(I Z 0)) hy.o f.o ba.o;obtain⟨K1,K2,K3,K4,K5⟩:=zz5 k1 k2 k3 k4 k5;clear k1 k2 k3 k4 k5;have z0:=ac f.o 0;have z1:=ac f.o 1;have z2:=ac f.o 2;have z3:=ac f.o 3;have z4:=ac f.o 4;obtain⟨a0,a1,a2,a3,a4⟩:=cells5 f.o;obtain⟨b0,b1,y0,y1⟩:=eB ba.o;go_wp2_with fail
        change bodyPost _ _ _ _ _ (((set5 we w.heap.size (I O 1) (J ⟨#[]⟩) (I Z 0) (I Z 0) (A p ks.length c)).setCell ⟨w.heap.size+1,0,U⟩ (I Z 0)).setCell ⟨w.heap.size+1,1,U⟩ (I Z 0));generalize ((set5 we w.heap.size (I O 1) (J ⟨#[]⟩) (I Z 0) (I Z 0) (A p ks.length c)).setCell ⟨w.heap.size+1,0,U⟩ (I Z 0)).setCell ⟨w.heap.size+1,1,U⟩ (I Z 0)=WZ at *;exact kO V V V K2.o K3.o (zK b8.o X.o cW.o K1.o ((lg.o.z (by rw[K5.o];exact Fj _) (fun b l _=>K4.o b (by omega))).low (by omega)) (lf.o.z fun b o l ho=>(K4.o b (by have:=l.1;omega)).trans ho) (fun b l=>⟨by have:=l.1;omega,by rw[K5.o];have:=l.2;omega⟩))
