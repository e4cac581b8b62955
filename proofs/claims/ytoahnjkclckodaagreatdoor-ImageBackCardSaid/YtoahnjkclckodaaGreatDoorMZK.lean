/- Parts of one proof, joined; conditions stand in each theorem. -/
import Derived.Test.YtoahnjkclckodaaGreatDoorMX
import Derived.Test.YtoahnjkclckodaaGreatDoorMD
import Derived.Test.YtoahnjkclckodaaGreatDoorMDD
open Bool renaming true→tT
namespace Go.Proofs.YtoahnjkclckodaaGreatDoor
open Go.RowKit
section
variable {ts us:List Tok} {o d m:Nat} {e:Bool}
end
theorem A6(ts:List Tok)(ex:PS→ac×PS)(lvl:Nat)(pl:Int)(g:Nat)(T:ac)(σ:PS) :
  iv ts ex lvl pl (g+1) T σ=if isM ts σ (jd lvl)=tT then (if lvl=2 then (.mk 16 (txM ts σ) 0 pl [T,(ex (ae ts σ)).1],(ex (ae ts σ)).2) else iv ts ex lvl pl g (.mk 16 (txM ts σ) 0 pl [T,(ex (ae ts σ)).1]) (ex (ae ts σ)).2) else (T,σ):=rfl
theorem yr{ts:List Tok}:∀(f lvl:Nat) (σ:PS),σ.1<ts.length→(exM ts f lvl σ).2.1<ts.length:=by
 intro f;have i:∀σ:PS,σ.1<ts.length→(ae ts σ).1<ts.length:=fun σ h=>kf h
 have hw:∀(σ:PS) (x:ByteArray),σ.1<ts.length→(aQ ts σ x).1<ts.length:=fun σ x h=>by
  unfold aQ qT kx;dsimp only;split
  ·exact kf h
  ·exact h
 have j:∀(σ:PS) (a b:Nat),σ.1<ts.length→(ofM ts σ a b).2.1<ts.length:=fun σ a b h=>kf h
 induction f with
 | zero=>intro lvl σ h;exact h
 | succ f c =>
  intro lvl σ h;unfold exM
  (repeat' split)
  ·exact h
  ·exact c _ _ (i _ h)
  ·exact hw _ _ (c _ _ (i _ h))
  ·exact j _ _ _ h
  ·exact j _ _ _ h
  ·exact j _ _ _ h
  ·have:∀(g:Nat) (T:ac) (σ:PS) (pl:Int),σ.1<ts.length→(iv ts (exM ts f (lvl+1)) lvl pl g T σ).2.1<ts.length:=by
    intro g
    induction g with
    | zero=>intro T σ pl h;exact h
    | succ g k =>
     intro T σ pl h;unfold iv
     split
     ·dsimp only
      split
      ·exact c _ _ (i _ h)
      ·exact k _ _ _ (c _ _ (i _ h))
     ·exact h
   exact this _ _ _ _ (c _ _ h)
theorem cS{ts:List Tok}{σ:PS}(h:σ.1<ts.length):(ae ts σ).1<ts.length:=kf h
theorem dw{ts:List Tok}{σ:PS}(h:σ.1<ts.length)(x:ByteArray):(aQ ts σ x).1<ts.length:=by
 unfold aQ qT kx;dsimp only
 split
 ·exact kf h
 ·exact h
theorem eX{ts:List Tok}{σ:PS}(h:σ.1<ts.length)(a b:Nat):(ofM ts σ a b).2.1<ts.length:=kf h
theorem IL{ts:List Tok}{σ:PS}{x:ByteArray}(h:(aQ ts σ x).2=false):σ.2=false:=by
 cases a:σ.2
 ·rfl
 ·rw[ez a]at h;cases h
theorem Ep{ts:List Tok}(a:cJ ts){σ:PS}(b:σ.1<ts.length){x:ByteArray}(h:(aQ ts σ x).2=false):(aQ ts σ x).1=σ.1+1:=by
 have f:=IL h;have hi:isM ts σ [x]=true:=by
  have:(!(!σ.2&&isT (dk ts σ.1) [x]))=false:=h;unfold isM
  simpa using this
 obtain⟨c,_,_⟩:=fD a b hi;rw[←c]
 show kx ts σ.1 σ.2 (dk ts σ.1) [x]=_
 rw[←(kw ts σ [x]).1];unfold aM;rw[oj hi]
theorem pp(ts:List Tok)(one:PS→ac×PS)(g:Nat)(ks:List ac)(σ:PS) :
  eY ts one (g+1) ks σ=if isM ts σ [jY]=tT then eY ts one g (ks++[(one (ae ts σ)).1]) (one (ae ts σ)).2 else (ks,σ):=rfl
theorem qC(ts:List Tok)(one:PS→ac×PS)(stop:ByteArray)(g:Nat)(ks:List ac)(σ:PS) :
  upTo ts one stop (g+1) ks σ=if σ.2=tT then (ks,σ) else if isM ts σ [stop]=tT then (ks,σ) else upTo ts one stop g (ks++[(one σ).1]) (one σ).2:=rfl
section
variable {ts us:List Tok} {o d m:Nat} {one one':PS→ac×PS}
theorem AZ(a:∀σ:PS,σ.1<ts.length→(one σ).2.1<ts.length):∀(g:Nat) (ks:List ac) (σ:PS),σ.1<ts.length→(eY ts one g ks σ).2.1<ts.length:=by
 intro g
 induction g with
 | zero=>intro ks σ h;exact h
 | succ g b =>
  intro ks σ h;rw[pp]
  split
  ·exact b _ _ (a _ (cS h))
  ·exact h
theorem uD(a:∀σ:PS,σ.1<ts.length→(one σ).2.1<ts.length)(stop:ByteArray):∀(g:Nat) (ks:List ac) (σ:PS),σ.1<ts.length→(upTo ts one stop g ks σ).2.1<ts.length:=by
 intro g
 induction g with
 | zero=>intro ks σ h;exact h
 | succ g b =>
  intro ks σ h;rw[qC]
  split
  ·exact h
  ·split
   ·exact h
   ·exact b _ _ (a _ h)
theorem yE(stop:ByteArray){σ:PS}(h:σ.2=tT)(g:Nat)(ks:List ac):upTo ts one stop g ks σ=(ks,σ):=by
 cases g with
 | zero=>rfl
 | succ g=>rw[qC,oj h]
theorem AH(a:∀σ:PS,σ.1<ts.length→(one σ).2.1<ts.length){σ:PS}(b:σ.1<ts.length):(jw ts one σ).2.1<ts.length:=AZ a _ _ _ (a _ b)
theorem og(b:∀σ:PS,σ.1<ts.length→(one σ).2.1<ts.length){σ:PS}(a:σ.1<ts.length):(cD ts one σ).2.1<ts.length:=by
 unfold cD
 split
 ·exact cS (dw a _)
 ·exact dw (AH b (dw a _)) _
theorem uh{σ:PS}(h:σ.1<ts.length):(gq ts σ).2.1<ts.length:=by
 unfold gq
 split
 ·exact cS h
 ·exact h
theorem Am{σ:PS}(h:σ.1<ts.length):(fh ts σ).2.1<ts.length:=by
 have a:∀σ:PS,σ.1<ts.length→(eP ts σ).2.1<ts.length:=fun σ h=>yr _ _ _ h
 unfold fh
 (repeat' split)
 ·exact dw (og a (eX (cS h) _ _)) _
 ·exact dw (uh (cS h)) _
 ·exact dw (AH a (cS h)) _
 ·exact dw (dw h _) _
theorem As{σ:PS}(h:σ.1<ts.length):(iC ts σ).2.1<ts.length:=by
 unfold iC
 (repeat' split)
 ·exact uh (cS (cS h))
 ·exact uh (cS h)
 ·exact h
theorem GK{σ:PS}(h:σ.2=tT):(iC ts σ).2.2=true:=by
 unfold iC;rw[oe (by rw[nG h];decide)];exact h
end
theorem ET{ts:List Tok}{a:Int}{σ:PS}(h:σ.2=tT):(dT ts a σ).2.2=true:=by
 unfold dT;dsimp only;have b:(aQ ts (iC ts (ofM ts σ 2 4).2).2 lm).2=true:=ez (GK (qS h 2 4)) _;rw[yE tTo b];dsimp only;rw[yE dA (ez b _)];exact ez (ez b _) _
theorem uz{ts:List Tok}{σ:PS}(h:σ.1<ts.length):(eA ts σ).2.1<ts.length:=by
 unfold eA
 (repeat' split)
 ·exact cS h
 ·exact eX (cS h) 4 14
 ·exact eX h _ _
 ·exact eX h _ _
 ·exact eX h _ _
theorem rJ{ts:List Tok}{σ:PS}(h:σ.1<ts.length):(dL ts (eA ts) σ).2.1<ts.length:=by
 unfold dL
 (repeat' split)
 ·exact dw (yr _ _ _ (cS h)) _
 ·exact dw (og (fun _ h=>uz h) (eX (cS h) _ _)) _
 ·exact dw (og (fun _ h=>uz h) (eX h _ _)) _
theorem F6{ts:List Tok}{a:Int}{σ:PS}(h:σ.1<ts.length):(dT ts a σ).2.1<ts.length:=by
 unfold dT;exact dw (uD (fun _ h=>Am h) _ _ _ _ (dw (uD (fun _ h=>rJ h) _ _ _ _ (dw (As (eX h 2 4)) _)) _)) _
theorem FQ{ts:List Tok}{σ:PS}(h:σ.1<ts.length):(eB ts (dT ts) σ).2.1<ts.length:=by
 unfold eB
 split
 ·exact dw (og (fun _ h=>eX h 2 3) (eX (cS h) _ _)) _
 ·exact F6 (dw h _)
theorem rS{ts:List Tok}(a:cJ ts){σ:PS}(b:σ.1<ts.length):(eB ts (dT ts) σ).2.2=tT∨σ.1<(eB ts (dT ts) σ).2.1:=by
 unfold eB
 by_cases c:isM ts σ [jo]=tT
 ·rw[oj c]
  right
  obtain⟨i,_,_⟩:=fD a b c;have f:=eu ts (ae ts σ) 2 2;have g:=iG (ts:=ts) (fun σ=>eu ts σ 2 3) (ofM ts (ae ts σ) 2 2).2;have h:=bH ts (cD ts (fun σ=>ofM ts σ 2 3) (ofM ts (ae ts σ) 2 2).2).2 cB;dsimp only;omega
 ·rw[oe c]
  cases f:(aQ ts σ qM).2 with
  | true=>exact Or.inl (ET f)
  | false =>
   right
   have g:=Ep a b f;have h:=rV ts (atM ts σ) (aQ ts σ qM);omega
def oP(ts:List Tok):Nat→List ac→PS→List ac×PS
 | 0,ks,σ=>(ks,σ)
 | g+1,ks,σ=>if σ.2=tT then (ks,σ) else if kdM ts σ=7 then (ks,σ) else oP ts g (ks++[(eB ts (dT ts) σ).1]) (eB ts (dT ts) σ).2
def mh(ts:List Tok):List ac×PS:=oP ts (ts.length+1) [] (0,false)
theorem oK(ts:List Tok)(g:Nat)(ks:List ac)(σ:PS):oP ts (g+1) ks σ=if σ.2=tT then (ks,σ) else if kdM ts σ=7 then (ks,σ) else oP ts g (ks++[(eB ts (dT ts) σ).1]) (eB ts (dT ts) σ).2:=rfl
def dR:Nat→ac→Prop
 | 0,T=>T.h.size≤16390∧(0≤T.C∧T.C≤16384)
 | d+1,T=>T.h.size≤16390∧(0≤T.C∧T.C≤16384)∧T.z.length≤16390∧∀k∈T.z,dR d k
theorem dR.slim:∀{d:Nat} {T:ac},dR d T→j4 d T:=by
 intro d
 induction d with
 | zero=>intro T h;exact (show T.h.size≤72007 by have:=h.1;omega)
 | succ d a=>intro T h;exact⟨by have:=h.1;omega,by have:=h.2.2.1;omega,fun k b=>a (h.2.2.2 k b)⟩
theorem ew{k:Nat}{t:ByteArray}{n p:Int}{l:List ac}(a:t.size≤16390)(b:0≤p∧p≤16384)(c:l.length≤16390)(h:∀x∈l,∀d,dR d x):∀d,dR d (.mk k t n p l):=by
 intro d
 cases d with
 | zero=>exact⟨a,b⟩
 | succ d=>exact⟨a,b,c,fun x f=>h x f d⟩
section
variable {ts:List Tok}
theorem ga(a:cJ ts)(σ:PS):0≤atM ts σ∧atM ts σ≤16384:=by
 have:=(de a σ.1).2.2;unfold atM;omega
theorem rM(a:cJ ts)(σ:PS):(txM ts σ).size≤16384:=(de a σ.1).2.1
theorem jr(c:cJ ts)(σ:PS)(a b:Nat):∀d,dR d (ofM ts σ a b).1:=ew (by have:=(de c σ.1).2.1;omega) (ga c σ) (by simp) (fun x f=>by cases f)
theorem qi:∀d,dR d f7:=ew (show (0:Nat)≤16390 by omega) (by omega) (by simp) (fun x a=>by cases a)
theorem Bt(b:cJ ts){ex:PS→ac×PS}(hex:∀σ,∀d,dR d (ex σ).1)(lvl:Nat)(pl:Int)(c:0≤pl∧pl≤16384):∀(g:Nat) (T:ac) (σ:PS),(∀d,dR d T)→∀d,dR d (iv ts ex lvl pl g T σ).1:=by
 intro g
 induction g with
 | zero=>intro T σ h;exact h
 | succ g i =>
  intro T σ h;rw[A6]
  have f:∀d,dR d (.mk 16 (txM ts σ) 0 pl [T,(ex (ae ts σ)).1]):=ew (by have:=rM b σ;omega) c (by simp) (fun x a=>by
   rcases Kk.1 a with rfl|a
   ·exact h
   ·rw[List.mem_singleton]at a;subst a;exact hex _)
  split
  ·split
   ·exact f
   ·exact i _ _ f
  ·exact h
theorem rB(a:cJ ts):∀(f lvl:Nat) (σ:PS),∀d,dR d (exM ts f lvl σ).1:=by
 intro f
 induction f with
 | zero=>intro lvl σ;exact qi
 | succ f b =>
  intro lvl σ;unfold exM
  (repeat' split)
  ·exact qi
  ·exact ew (by have:=rM a σ;omega) (ga a σ) (by simp) (fun x c=>by rw[List.mem_singleton]at c;subst c;exact b _ _)
  ·exact b _ _
  ·exact jr a _ _ _
  ·exact jr a _ _ _
  ·exact jr a _ _ _
  ·exact Bt a (fun σ=>b _ σ) _ _ (ga a σ) _ _ _ (b _ _)
def i5(l:List ac):Prop:=l.length≤16390∧∀x∈l,∀d,dR d x
theorem qD{ks:List ac}{t:ac}(h:∀x∈ks,∀d,dR d x)(b:∀d,dR d t):∀x∈ks++[t],∀d,dR d x:=fun x a=>by
 rcases List.mem_append.1 a with a|a
 ·exact h x a
 ·rw[List.mem_singleton]at a;subst a;exact b
theorem xb(c:cJ ts)(l:ts.length≤16385){one:PS→ac×PS}(a:∀σ,∀d,dR d (one σ).1)(f:∀σ,σ.1≤(one σ).2.1)(i:∀σ:PS,σ.1<ts.length→(one σ).2.1<ts.length) :
  ∀(g:Nat) (ks:List ac) (σ:PS),σ.1<ts.length→ks.length≤σ.1+1→(∀x∈ks,∀d,dR d x)→i5 (eY ts one g ks σ).1:=by
 intro g
 induction g with
 | zero=>intro ks σ b j h;exact⟨by show ks.length≤_;omega,h⟩
 | succ g k =>
  intro ks σ b j h;rw[pp]
  by_cases hi:isM ts σ [jY]=tT
  ·rw[oj hi];obtain⟨n,p,q⟩:=fD c b hi;have r:=f (ae ts σ);exact k _ _ (i _ (by omega)) (by rw[J2,Ko];omega) (qD h (a _))
  ·rw[oe hi];exact⟨by show ks.length≤_;omega,h⟩
theorem vI(c:cJ ts)(i:ts.length≤16385){one:PS→ac×PS}(a:∀σ,∀d,dR d (one σ).1)(f:∀σ,σ.1≤(one σ).2.1)(b:∀σ:PS,σ.1<ts.length→(one σ).2.1<ts.length){σ:PS}(g:σ.1<ts.length):i5 (jw ts one σ).1:=
 xb c i a f b _ _ _ (b _ g) (by simp) (fun x h=>by rw[List.mem_singleton]at h;subst h;exact a _)
theorem od(b:cJ ts)(h:ts.length≤16385){one:PS→ac×PS}(a:∀σ,∀d,dR d (one σ).1)(c:∀σ,σ.1≤(one σ).2.1)(f:∀σ:PS,σ.1<ts.length→(one σ).2.1<ts.length){σ:PS}(g:σ.1<ts.length):i5 (cD ts one σ).1:=by
 unfold cD
 split
 ·exact⟨by simp,fun x i=>by cases i⟩
 ·exact vI b h a c f (dw g _)
theorem vP(n:ts.length≤16385){one:PS→ac×PS}(c:∀σ:PS,σ.1<ts.length→∀d,dR d (one σ).1)(f:∀σ,σ.1≤(one σ).2.1)(i:∀σ:PS,σ.1<ts.length→(one σ).2.1<ts.length)(j:∀σ:PS,σ.1<ts.length→(one σ).2.2=tT∨σ.1<(one σ).2.1)(stop:ByteArray) :
  ∀(g:Nat) (ks:List ac) (σ:PS),σ.1<ts.length→ks.length≤σ.1+(if σ.2=tT then 1 else 0)→(∀x∈ks,∀d,dR d x)→i5 (upTo ts one stop g ks σ).1∧(upTo ts one stop g ks σ).1.length≤(upTo ts one stop g ks σ).2.1+(if (upTo ts one stop g ks σ).2.2=tT then 1 else 0):=by
 intro g
 induction g with
 | zero =>
  intro ks σ a b h;refine⟨⟨?_,h⟩,b⟩
  show ks.length≤_
  split at b<;>omega
 | succ g l =>
  intro ks σ a b h;have done:i5 ks:=⟨by split at b<;>omega,h⟩
  rw[qC]
  by_cases k:σ.2=tT
  ·rw[oj k];exact⟨done,b⟩
  ·rw[oe k]
   by_cases hi:isM ts σ [stop]=tT
   ·rw[oj hi];exact⟨done,b⟩
   ·rw[oe hi];rw[oe k]at b;have p:=f σ;refine l _ _ (i _ a) ?_ (qD h (c _ a));rw[J2,Ko];rcases j σ a with h|h
    ·rw[oj h];omega
    ·split<;>omega
theorem Fv(a:cJ ts)(σ:PS):∀d,dR d (eA ts σ).1:=by
 unfold eA
 (repeat' split)
 ·exact ew (show (0:Nat)≤16390 by omega) (ga a σ) (by simp) (fun x b=>by cases b)
 ·refine ew ?_ (ga a σ) (by simp) (fun x b=>by cases b);have c:=rM a (ae ts σ);have f:(bo++txM ts (ae ts σ)).size=1+(txM ts (ae ts σ)).size:=by rw[ByteArray.size_append];rfl
  omega
 ·exact jr a _ _ _
 ·exact jr a _ _ _
 ·exact jr a _ _ _
theorem lO(c:cJ ts)(σ:PS)(a b:Nat):(ofM ts σ a b).1.h.size≤16390:=by
 have:=(de c σ.1).2.1
 show (dk ts σ.1).2.1.size≤_
 omega
theorem B8(a:cJ ts)(i:ts.length≤16385){σ:PS}(b:σ.1<ts.length):∀d,dR d (dL ts (eA ts) σ).1:=by
 have c:∀{f:PS},f.1<ts.length→i5 (cD ts (eA ts) f).1:=fun h=>od a i (Fv a) (jE ts) (fun _ h=>uz h) h
 unfold dL
 (repeat' split)
 ·exact ew (show (0:Nat)≤16390 by omega) (ga a σ) (by simp) (fun x g=>by rw[List.mem_singleton]at g;subst g;exact rB a _ _ _)
 ·exact ew (lO a _ _ _) (ga a σ) (c (eX (cS b) 2 6)).1 (c (eX (cS b) 2 6)).2
 ·exact ew (lO a _ _ _) (ga a σ) (c (eX b 2 5)).1 (c (eX b 2 5)).2
theorem DX(a:cJ ts)(g:ts.length≤16385){σ:PS}(b:σ.1<ts.length):∀d,dR d (fh ts σ).1:=by
 have c:∀σ:PS,σ.1<ts.length→(eP ts σ).2.1<ts.length:=fun σ h=>yr _ _ _ h
 have i:∀{f:PS},f.1<ts.length→i5 (cD ts (eP ts) f).1:=fun h=>od a g (fun σ=>rB a _ _ σ) (gk ts) c h
 have j:∀{f:PS},f.1<ts.length→i5 (jw ts (eP ts) f).1:=fun h=>vI a g (fun σ=>rB a _ _ σ) (gk ts) c h
 unfold fh
 (repeat' split)
 ·exact ew (lO a _ _ _) (ga a σ) (i (eX (cS b) 2 8)).1 (i (eX (cS b) 2 8)).2
 ·exact ew (show (0:Nat)≤16390 by omega) (ga a σ) (by simp) (fun x c=>by cases c)
 ·exact ew (show (0:Nat)≤16390 by omega) (ga a σ) (j (cS b)).1 (j (cS b)).2
 ·exact ew (show (0:Nat)≤16390 by omega) (ga a σ) (by simp) (fun x c=>by cases c)
theorem Cb(b:cJ ts)(c:ts.length≤16385)(a:Int)(j:0≤a∧a≤16384){σ:PS}(f:σ.1<ts.length):∀d,dR d (dT ts a σ).1:=by
 unfold dT;dsimp only;have g:=dw (As (eX f (ts:=ts) 2 4)) lm;obtain⟨k,c2⟩:=vP c (fun σ h=>B8 b c h) (rH (jE ts)) (fun _ h=>rJ h) (fun σ h=>sn b (jE ts) (fun _ h=>rD h) h) tTo (ts.length+1) [] _ g (J0 _) (fun x l=>by cases l);have n:=uD (fun _ h=>rJ h) tTo (ts.length+1) [] _ g;generalize upTo ts (dL ts (eA ts)) tTo (ts.length+1) [] (aQ ts (iC ts (ofM ts σ 2 4).2).2 lm)=cs at *;have hw:=bH ts cs.2 tTo
 obtain⟨i,_⟩:=vP c (fun σ h=>DX b c h) (ug ts) (fun _ h=>Am h) (fun σ h=>ud b h) dA (ts.length+1) cs.1 _ (dw n tTo) (by
  by_cases h:cs.2.2=tT
  ·rw[oj h]at c2;rw[oj (ez h _)];omega
  ·rw[oe h]at c2;omega) k.2
 exact ew (lO b _ _ _) j i.1 i.2
theorem Bc(a:cJ ts)(c:ts.length≤16385){σ:PS}(b:σ.1<ts.length):∀d,dR d (eB ts (dT ts) σ).1:=by
 have f:∀{g:PS},g.1<ts.length→i5 (cD ts (fun σ=>ofM ts σ 2 3) g).1:=fun h=>od a c (fun σ=>jr a σ 2 3) (fun σ=>eu ts σ 2 3) (fun _ h=>eX h 2 3) h
 unfold eB
 split
 ·exact ew (lO a _ _ _) (ga a σ) (f (eX (cS b) 2 2)).1 (f (eX (cS b) 2 2)).2
 ·exact Cb a c _ (ga a σ) (dw b _)
theorem Br(b:cJ ts)(i:ts.length≤16385):∀(g:Nat) (ks:List ac) (σ:PS),σ.1<ts.length→ks.length≤σ.1+(if σ.2=tT then 1 else 0)→(∀x∈ks,∀d,dR d x)→i5 (oP ts g ks σ).1:=by
 intro g
 induction g with
 | zero =>
  intro ks σ a c h;refine⟨?_,h⟩
  show ks.length≤_
  split at c<;>omega
 | succ g j =>
  intro ks σ a c h;have done:i5 ks:=⟨by split at c<;>omega,h⟩
  rw[oK]
  by_cases f:σ.2=tT
  ·rw[oj f];exact done
  ·rw[oe f]
   split
   ·exact done
   ·rw[oe f]at c;have k:=xw (ts:=ts) (rV ts) σ;refine j _ _ (FQ a) ?_ (qD h (Bc b i a));rw[J2,Ko];rcases rS b a with h|h
    ·rw[oj h];omega
    ·split<;>omega
theorem Cd(a:cJ ts)(b:ts.length≤16385)(c:0<ts.length):i5 (mh ts).1:=Br a b _ _ _ c (J0 _) (fun x f=>by cases f)
end
def tI(kd:Nat):Nat:=if kd==3||kd==5 then 1 else 0
theorem Fu(x y:ByteArray)(h:x.data.toList=y.data.toList):x=y:=by
 obtain⟨⟨x⟩⟩:=x;obtain⟨⟨y⟩⟩:=y
 simpa using h
theorem xE(s:ByteArray)(k:Nat)(q:k<s.size)(b:(ag s k s[k]).2.2.1=0) :
  (ag s k s[k]).2.2.2=k+tI (ag s k s[k]).1+(ag s k s[k]).2.1.size∧
  s.extract (k+tI (ag s k s[k]).1) (ag s k s[k]).2.2.2=(ag s k s[k]).2.1∧(ag s k s[k]).1<7:=by
 unfold ag at b ⊢
 by_cases c:isLow s[k]=tT
 ·rw[oj c];have f:=fA a8 s k;have a:=dB a8 s k (by omega);have e:∀x:Bool,tI (if x=tT then 1 else 2)=0∧(if x=tT then 1 else 2)<7:=by intro x;cases x<;>decide
  dsimp only;rw[(e _).1,ext_size s _ _ a];exact⟨by omega,Z,(e _).2⟩
 ·rw[oe c]at b ⊢
  by_cases h:(s[k]==63||s[k]==39)=tT
  ·rw[oj h];have f:=fA a8 s (k+1);have a:=dB a8 s (k+1) (by omega);have e:∀x:Bool,tI (if x=tT then 5 else 3)=1∧(if x=tT then 5 else 3)<7:=by intro x;cases x<;>decide
   dsimp only;rw[(e _).1,ext_size s _ _ a];exact⟨by omega,Z,(e _).2⟩
  ·rw[oe h]at b ⊢
   by_cases i:bY s[k]=tT
   ·rw[oj i];have f:=fA bY s k;have a:=dB bY s k (by omega);have e:tI 4=0:=rfl;dsimp only;rw[e,ext_size s _ _ a];exact⟨by omega,Z,by omega⟩
   ·rw[oe i]at b ⊢
    cases j:eT.find? (fun g=>Lib.hasPrefix (s.data.toList.drop k) g.data.toList) with
    | none=>rw[j]at b;simp at b
    | some g =>
     have l:jh s k g=true:=List.find?_some j;have a:=qm s k g (by omega) l;have n:=Bj s k g a;rw[l]at n;refine⟨Z,Fu _ _ ?_,(by show 6<7;omega)⟩;have p:(s.extract k (k+g.size)).toList=g.toList:=by simpa using n
     rw[J1,J1]at p;exact p
theorem FW(s:ByteArray):∀(f k er pl:Nat),(toks f s k).2=some (er,pl)→er≠0∧pl<s.size:=by
 intro f
 induction f with
 | zero=>intro k er pl h;cases h
 | succ f a =>
  intro k er pl h;unfold toks at h
  split at h
  ·rename_i b
   split at h
   ·exact a _ _ _ h
   ·rename_i c
    simp only[o6,Prod.mk.injEq]at h;obtain⟨rfl,rfl⟩:=h;exact⟨c,b⟩
  ·cases h
theorem yK(s:ByteArray):∀(n p:Nat),s.size-p≤n→∀t∈(ay s p).1,p≤t.2.2:=by
 intro n
 induction n with
 | zero =>
  intro p h t a;rw[dP s p (by rw[fg s p (by omega)];omega)]at a
  cases a
 | succ n g =>
  intro p h t a;have c:=lA s _ p (JM _)
  by_cases b:skip s p<s.size
  ·by_cases f:(ag s (skip s p) s[skip s p]).2.2.1=0
   ·obtain⟨i,n2⟩:=fL s (skip s p) b f;rw[fy s p b f]at a;rcases Kk.1 a with rfl|a
    ·exact c
    ·have:=g _ (by omega) t a;omega
   ·rw[fJ s p b f]at a;cases a
  ·rw[dP s p b]at a;cases a
def f8(s:ByteArray):List Tok:=(ay s 0).1++[(7,⟨#[]⟩,s.size)]
theorem zq(s:ByteArray):∀(n p:Nat),s.size-p≤n→((ay s p).1).Pairwise (fun a b=>a.2.2<b.2.2)∧∀t∈(ay s p).1,t.2.2<s.size:=by
 intro n
 induction n with
 | zero =>
  intro p h;rw[dP s p (by rw[fg s p (by omega)];omega)];exact⟨List.Pairwise.nil,fun t c=>by cases c⟩
 | succ n i =>
  intro p h;have j:=lA s _ p (JM _)
  by_cases f:skip s p<s.size
  ·by_cases g:(ag s (skip s p) s[skip s p]).2.2.1=0
   ·obtain⟨k,n2⟩:=fL s (skip s p) f g;rw[fy s p f g];obtain⟨i1,i2⟩:=i (ag s (skip s p) s[skip s p]).2.2.2 (by omega);refine⟨List.Pairwise.cons (fun t c=>?_) i1,fun t c=>?_⟩
    ·have:=yK s _ _ (JM _) t c
     show skip s p<t.2.2
     omega
    ·rcases Kk.1 c with rfl|c
     ·exact f
     ·exact i2 t c
   ·rw[fJ s p f g];exact⟨List.Pairwise.nil,fun t c=>by cases c⟩
  ·rw[dP s p f];exact⟨List.Pairwise.nil,fun t c=>by cases c⟩
theorem zR(s:ByteArray):∀(n p:Nat),s.size-p≤n→p≤s.size→∀t∈(ay s p).1,t.1<7∧t.2.1.size≤s.size:=by
 intro n
 induction n with
 | zero =>
  intro p h f t a;rw[dP s p (by rw[fg s p (by omega)];omega)]at a
  cases a
 | succ n g =>
  intro p h f t a;have i:=lA s _ p (JM _)
  by_cases b:skip s p<s.size
  ·by_cases c:(ag s (skip s p) s[skip s p]).2.2.1=0
   ·obtain⟨k,n2⟩:=fL s (skip s p) b c;obtain⟨s1,s2,j⟩:=xE s (skip s p) b c;rw[fy s p b c]at a;rcases Kk.1 a with rfl|a
    ·refine⟨j,?_⟩;dsimp only;omega
    ·exact g _ (by omega) n2 t a
   ·rw[fJ s p b c]at a;cases a
  ·rw[dP s p b]at a;cases a
theorem pn(s:ByteArray):(f8 s).length=(ay s 0).1.length+1:=by unfold f8;simp
theorem GZ(s:ByteArray)(h:s.size≤16384):cJ (f8 s):=by
 have i:=zR s _ 0 (JM _) (J0 _);obtain⟨_,j⟩:=zq s _ 0 (JM _);refine⟨fun t c=>?_,fun k t f l=>?_⟩
 ·unfold f8 at c;rcases List.mem_append.1 c with c|c
  ·obtain⟨a,b⟩:=i t c;have:=j t c;exact⟨by omega,by omega,by omega⟩
  ·rw[List.mem_singleton]at c;subst c;exact⟨by show 7<256;omega,by show (0:Nat)≤16384;omega,h⟩
 ·rw[pn]at l;unfold f8 at f;have g:k<((ay s 0).1++[(7,(⟨#[]⟩:ByteArray),s.size)]).length:=(J3.1 f).1;rw[J2,Ko]at g;obtain rfl:k=(ay s 0).1.length:=by omega
  rw[Kd (JM _),Nat.sub_self]at f;have:(7,(⟨#[]⟩:ByteArray),s.size)=t:=by simpa using f
  rw[←this]
