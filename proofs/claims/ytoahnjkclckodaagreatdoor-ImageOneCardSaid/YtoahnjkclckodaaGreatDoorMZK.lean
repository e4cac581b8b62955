/- Parts of one proof, joined; conditions stand in each theorem. -/
import Derived.Test.YtoahnjkclckodaaGreatDoorMX
import Derived.Test.YtoahnjkclckodaaGreatDoorMD
import Derived.Test.YtoahnjkclckodaaGreatDoorMDD
open Bool renaming true→ur
namespace Go.Proofs.YtoahnjkclckodaaGreatDoor
open Go.RowKit
section
variable {ts us:List Tok} {o d m:Nat} {e:Bool}
end
theorem ye(ts:List Tok)(ex:PS→ac×PS)(lvl:Nat)(pl:Int)(g:Nat)(T:ac)(σ:PS) :
  gK ts ex lvl pl (g+1) T σ=if isM ts σ (iI lvl)=ur then (if lvl=2 then (.mk 16 (txM ts σ) 0 pl [T,(ex (ae ts σ)).1],(ex (ae ts σ)).2) else gK ts ex lvl pl g (.mk 16 (txM ts σ) 0 pl [T,(ex (ae ts σ)).1]) (ex (ae ts σ)).2) else (T,σ):=rfl
theorem vd{ts:List Tok}:∀(f lvl:Nat) (σ:PS),σ.1<ts.length→(exM ts f lvl σ).2.1<ts.length:=by
 intro f;have i:∀σ:PS,σ.1<ts.length→(ae ts σ).1<ts.length:=fun σ h=>jJ h
 have hw:∀(σ:PS) (x:ByteArray),σ.1<ts.length→(aI ts σ x).1<ts.length:=fun σ x h=>by
  unfold aI o0 jU;dsimp only;split
  ·exact jJ h
  ·exact h
 have j:∀(σ:PS) (a b:Nat),σ.1<ts.length→(ofM ts σ a b).2.1<ts.length:=fun σ a b h=>jJ h
 induction f with
 | zero=>intro lvl σ h;exact h
 | succ f c =>
  intro lvl σ h;unfold exM
  (repeat' split)
  ·exact h
  ·exact c _ _ (i _ h)
  ·exact hw _ _ (c _ _ (i _ h))
  ·exact j _ _ _ h
  ·exact j _ _ _ h
  ·exact j _ _ _ h
  ·have:∀(g:Nat) (T:ac) (σ:PS) (pl:Int),σ.1<ts.length→(gK ts (exM ts f (lvl+1)) lvl pl g T σ).2.1<ts.length:=by
    intro g
    induction g with
    | zero=>intro T σ pl h;exact h
    | succ g k =>
     intro T σ pl h;unfold gK
     split
     ·dsimp only
      split
      ·exact c _ _ (i _ h)
      ·exact k _ _ _ (c _ _ (i _ h))
     ·exact h
   exact this _ _ _ _ (c _ _ h)
theorem cB{ts:List Tok}{σ:PS}(h:σ.1<ts.length):(ae ts σ).1<ts.length:=jJ h
theorem cZ{ts:List Tok}{σ:PS}(h:σ.1<ts.length)(x:ByteArray):(aI ts σ x).1<ts.length:=by
 unfold aI o0 jU;dsimp only
 split
 ·exact jJ h
 ·exact h
theorem eF{ts:List Tok}{σ:PS}(h:σ.1<ts.length)(a b:Nat):(ofM ts σ a b).2.1<ts.length:=jJ h
theorem Ep{ts:List Tok}{σ:PS}{x:ByteArray}(h:(aI ts σ x).2=false):σ.2=false:=by
 cases a:σ.2
 ·rfl
 ·rw[eb a]at h;cases h
theorem A5{ts:List Tok}(a:cg ts){σ:PS}(b:σ.1<ts.length){x:ByteArray}(h:(aI ts σ x).2=false):(aI ts σ x).1=σ.1+1:=by
 have f:=Ep h;have hi:isM ts σ [x]=true:=by
  have:(!(!σ.2&&isT (cP ts σ.1) [x]))=false:=h;unfold isM
  simpa using this
 obtain⟨c,_,_⟩:=eZ a b hi;rw[←c]
 show jU ts σ.1 σ.2 (cP ts σ.1) [x]=_
 rw[←(jT ts σ [x]).1];unfold aF;rw[oE hi]
theorem nD(ts:List Tok)(one:PS→ac×PS)(g:Nat)(ks:List ac)(σ:PS) :
  eG ts one (g+1) ks σ=if isM ts σ [jt]=ur then eG ts one g (ks++[(one (ae ts σ)).1]) (one (ae ts σ)).2 else (ks,σ):=rfl
theorem oJ(ts:List Tok)(one:PS→ac×PS)(stop:ByteArray)(g:Nat)(ks:List ac)(σ:PS) :
  upTo ts one stop (g+1) ks σ=if σ.2=ur then (ks,σ) else if isM ts σ [stop]=ur then (ks,σ) else upTo ts one stop g (ks++[(one σ).1]) (one σ).2:=rfl
section
variable {ts us:List Tok} {o d m:Nat} {one one':PS→ac×PS}
theorem yc(a:∀σ:PS,σ.1<ts.length→(one σ).2.1<ts.length):∀(g:Nat) (ks:List ac) (σ:PS),σ.1<ts.length→(eG ts one g ks σ).2.1<ts.length:=by
 intro g
 induction g with
 | zero=>intro ks σ h;exact h
 | succ g b =>
  intro ks σ h;rw[nD]
  split
  ·exact b _ _ (a _ (cB h))
  ·exact h
theorem sj(a:∀σ:PS,σ.1<ts.length→(one σ).2.1<ts.length)(stop:ByteArray):∀(g:Nat) (ks:List ac) (σ:PS),σ.1<ts.length→(upTo ts one stop g ks σ).2.1<ts.length:=by
 intro g
 induction g with
 | zero=>intro ks σ h;exact h
 | succ g b =>
  intro ks σ h;rw[oJ]
  split
  ·exact h
  ·split
   ·exact h
   ·exact b _ _ (a _ h)
theorem vw(stop:ByteArray){σ:PS}(h:σ.2=ur)(g:Nat)(ks:List ac):upTo ts one stop g ks σ=(ks,σ):=by
 cases g with
 | zero=>rfl
 | succ g=>rw[oJ,oE h]
theorem xO(a:∀σ:PS,σ.1<ts.length→(one σ).2.1<ts.length){σ:PS}(b:σ.1<ts.length):(i4 ts one σ).2.1<ts.length:=yc a _ _ _ (a _ b)
theorem mB(b:∀σ:PS,σ.1<ts.length→(one σ).2.1<ts.length){σ:PS}(a:σ.1<ts.length):(bV ts one σ).2.1<ts.length:=by
 unfold bV
 split
 ·exact cB (cZ a _)
 ·exact cZ (xO b (cZ a _)) _
theorem rI{σ:PS}(h:σ.1<ts.length):(fU ts σ).2.1<ts.length:=by
 unfold fU
 split
 ·exact cB h
 ·exact h
theorem xy{σ:PS}(h:σ.1<ts.length):(eJ ts σ).2.1<ts.length:=by
 have a:∀σ:PS,σ.1<ts.length→(ey ts σ).2.1<ts.length:=fun σ h=>vd _ _ _ h
 unfold eJ
 (repeat' split)
 ·exact cZ (mB a (eF (cB h) _ _)) _
 ·exact cZ (rI (cB h)) _
 ·exact cZ (xO a (cB h)) _
 ·exact cZ (cZ h _) _
theorem xC{σ:PS}(h:σ.1<ts.length):(gV ts σ).2.1<ts.length:=by
 unfold gV
 (repeat' split)
 ·exact rI (cB (cB h))
 ·exact rI (cB h)
 ·exact h
theorem CX{σ:PS}(h:σ.2=ur):(gV ts σ).2.2=true:=by
 unfold gV;rw[oB (by rw[me h];decide)];exact h
end
theorem By{ts:List Tok}{a:Int}{σ:PS}(h:σ.2=ur):(dG ts a σ).2.2=true:=by
 unfold dG;dsimp only;have b:(aI ts (gV ts (ofM ts σ 2 4).2).2 kB).2=true:=eb (CX (oZ h 2 4)) _;rw[vw tTo b];dsimp only;rw[vw dc (eb b _)];exact eb (eb b _) _
theorem rY{ts:List Tok}{σ:PS}(h:σ.1<ts.length):(ec ts σ).2.1<ts.length:=by
 unfold ec
 (repeat' split)
 ·exact cB h
 ·exact eF (cB h) 4 14
 ·exact eF h _ _
 ·exact eF h _ _
 ·exact eF h _ _
theorem pS{ts:List Tok}{σ:PS}(h:σ.1<ts.length):(dz ts (ec ts) σ).2.1<ts.length:=by
 unfold dz
 (repeat' split)
 ·exact cZ (vd _ _ _ (cB h)) _
 ·exact cZ (mB (fun _ h=>rY h) (eF (cB h) _ _)) _
 ·exact cZ (mB (fun _ h=>rY h) (eF h _ _)) _
theorem Cm{ts:List Tok}{a:Int}{σ:PS}(h:σ.1<ts.length):(dG ts a σ).2.1<ts.length:=by
 unfold dG;exact cZ (sj (fun _ h=>xy h) _ _ _ _ (cZ (sj (fun _ h=>pS h) _ _ _ _ (cZ (xC (eF h 2 4)) _)) _)) _
theorem B8{ts:List Tok}{σ:PS}(h:σ.1<ts.length):(ed ts (dG ts) σ).2.1<ts.length:=by
 unfold ed
 split
 ·exact cZ (mB (fun _ h=>eF h 2 3) (eF (cB h) _ _)) _
 ·exact Cm (cZ h _)
theorem qc{ts:List Tok}(a:cg ts){σ:PS}(b:σ.1<ts.length):(ed ts (dG ts) σ).2.2=ur∨σ.1<(ed ts (dG ts) σ).2.1:=by
 unfold ed
 by_cases c:isM ts σ [iS]=ur
 ·rw[oE c]
  right
  obtain⟨i,_,_⟩:=eZ a b c;have f:=d6 ts (ae ts σ) 2 2;have g:=gZ (ts:=ts) (fun σ=>d6 ts σ 2 3) (ofM ts (ae ts σ) 2 2).2;have h:=bz ts (bV ts (fun σ=>ofM ts σ 2 3) (ofM ts (ae ts σ) 2 2).2).2 bU;dsimp only;omega
 ·rw[oB c]
  cases f:(aI ts σ oU).2 with
  | true=>exact Or.inl (By f)
  | false =>
   right
   have g:=A5 a b f;have h:=qg ts (atM ts σ) (aI ts σ oU);omega
def mU(ts:List Tok):Nat→List ac→PS→List ac×PS
 | 0,ks,σ=>(ks,σ)
 | g+1,ks,σ=>if σ.2=ur then (ks,σ) else if kdM ts σ=7 then (ks,σ) else mU ts g (ks++[(ed ts (dG ts) σ).1]) (ed ts (dG ts) σ).2
def lv(ts:List Tok):List ac×PS:=mU ts (ts.length+1) [] (0,false)
theorem mO(ts:List Tok)(g:Nat)(ks:List ac)(σ:PS):mU ts (g+1) ks σ=if σ.2=ur then (ks,σ) else if kdM ts σ=7 then (ks,σ) else mU ts g (ks++[(ed ts (dG ts) σ).1]) (ed ts (dG ts) σ).2:=rfl
def dE:Nat→ac→Prop
 | 0,T=>T.h.size≤16390∧(0≤T.t∧T.t≤16384)
 | d+1,T=>T.h.size≤16390∧(0≤T.t∧T.t≤16384)∧T.z.length≤16390∧∀k∈T.z,dE d k
theorem dE.slim:∀{d:Nat} {T:ac},dE d T→jx d T:=by
 intro d
 induction d with
 | zero=>intro T h;exact (show T.h.size≤72007 by have:=h.1;omega)
 | succ d a=>intro T h;exact⟨by have:=h.1;omega,by have:=h.2.2.1;omega,fun k b=>a (h.2.2.2 k b)⟩
theorem ea{k:Nat}{t:ByteArray}{n p:Int}{l:List ac}(a:t.size≤16390)(b:0≤p∧p≤16384)(c:l.length≤16390)(h:∀x∈l,∀d,dE d x):∀d,dE d (.mk k t n p l):=by
 intro d
 cases d with
 | zero=>exact⟨a,b⟩
 | succ d=>exact⟨a,b,c,fun x f=>h x f d⟩
section
variable {ts:List Tok}
theorem fG(a:cg ts)(σ:PS):0≤atM ts σ∧atM ts σ≤16384:=by
 have:=(cM a σ.1).2.2;unfold atM;omega
theorem pX(a:cg ts)(σ:PS):(txM ts σ).size≤16384:=(cM a σ.1).2.1
theorem iW(c:cg ts)(σ:PS)(a b:Nat):∀d,dE d (ofM ts σ a b).1:=ea (by have:=(cM c σ.1).2.1;omega) (fG c σ) (by simp) (fun x f=>by cases f)
theorem ou:∀d,dE d fD:=ea (show (0:Nat)≤16390 by omega) (by omega) (by simp) (fun x a=>by cases a)
theorem yx(b:cg ts){ex:PS→ac×PS}(hex:∀σ,∀d,dE d (ex σ).1)(lvl:Nat)(pl:Int)(c:0≤pl∧pl≤16384):∀(g:Nat) (T:ac) (σ:PS),(∀d,dE d T)→∀d,dE d (gK ts ex lvl pl g T σ).1:=by
 intro g
 induction g with
 | zero=>intro T σ h;exact h
 | succ g i =>
  intro T σ h;rw[ye]
  have f:∀d,dE d (.mk 16 (txM ts σ) 0 pl [T,(ex (ae ts σ)).1]):=ea (by have:=pX b σ;omega) c (by simp) (fun x a=>by
   rcases Ge.1 a with rfl|a
   ·exact h
   ·rw[List.mem_singleton]at a;subst a;exact hex _)
  split
  ·split
   ·exact f
   ·exact i _ _ f
  ·exact h
theorem pK(a:cg ts):∀(f lvl:Nat) (σ:PS),∀d,dE d (exM ts f lvl σ).1:=by
 intro f
 induction f with
 | zero=>intro lvl σ;exact ou
 | succ f b =>
  intro lvl σ;unfold exM
  (repeat' split)
  ·exact ou
  ·exact ea (by have:=pX a σ;omega) (fG a σ) (by simp) (fun x c=>by rw[List.mem_singleton]at c;subst c;exact b _ _)
  ·exact b _ _
  ·exact iW a _ _ _
  ·exact iW a _ _ _
  ·exact iW a _ _ _
  ·exact yx a (fun σ=>b _ σ) _ _ (fG a σ) _ _ _ (b _ _)
def iC(l:List ac):Prop:=l.length≤16390∧∀x∈l,∀d,dE d x
theorem oK{ks:List ac}{t:ac}(h:∀x∈ks,∀d,dE d x)(b:∀d,dE d t):∀x∈ks++[t],∀d,dE d x:=fun x a=>by
 rcases List.mem_append.1 a with a|a
 ·exact h x a
 ·rw[List.mem_singleton]at a;subst a;exact b
theorem ug(c:cg ts)(l:ts.length≤16385){one:PS→ac×PS}(a:∀σ,∀d,dE d (one σ).1)(f:∀σ,σ.1≤(one σ).2.1)(i:∀σ:PS,σ.1<ts.length→(one σ).2.1<ts.length) :
  ∀(g:Nat) (ks:List ac) (σ:PS),σ.1<ts.length→ks.length≤σ.1+1→(∀x∈ks,∀d,dE d x)→iC (eG ts one g ks σ).1:=by
 intro g
 induction g with
 | zero=>intro ks σ b j h;exact⟨by show ks.length≤_;omega,h⟩
 | succ g k =>
  intro ks σ b j h;rw[nD]
  by_cases hi:isM ts σ [jt]=ur
  ·rw[oE hi];obtain⟨n,p,q⟩:=eZ c b hi;have r:=f (ae ts σ);exact k _ _ (i _ (by omega)) (by rw[FT,Gi];omega) (oK h (a _))
  ·rw[oB hi];exact⟨by show ks.length≤_;omega,h⟩
theorem td(c:cg ts)(i:ts.length≤16385){one:PS→ac×PS}(a:∀σ,∀d,dE d (one σ).1)(f:∀σ,σ.1≤(one σ).2.1)(b:∀σ:PS,σ.1<ts.length→(one σ).2.1<ts.length){σ:PS}(g:σ.1<ts.length):iC (i4 ts one σ).1:=
 ug c i a f b _ _ _ (b _ g) (by simp) (fun x h=>by rw[List.mem_singleton]at h;subst h;exact a _)
theorem mA(b:cg ts)(h:ts.length≤16385){one:PS→ac×PS}(a:∀σ,∀d,dE d (one σ).1)(c:∀σ,σ.1≤(one σ).2.1)(f:∀σ:PS,σ.1<ts.length→(one σ).2.1<ts.length){σ:PS}(g:σ.1<ts.length):iC (bV ts one σ).1:=by
 unfold bV
 split
 ·exact⟨by simp,fun x i=>by cases i⟩
 ·exact td b h a c f (cZ g _)
theorem tm(n:ts.length≤16385){one:PS→ac×PS}(c:∀σ:PS,σ.1<ts.length→∀d,dE d (one σ).1)(f:∀σ,σ.1≤(one σ).2.1)(i:∀σ:PS,σ.1<ts.length→(one σ).2.1<ts.length)(j:∀σ:PS,σ.1<ts.length→(one σ).2.2=ur∨σ.1<(one σ).2.1)(stop:ByteArray) :
  ∀(g:Nat) (ks:List ac) (σ:PS),σ.1<ts.length→ks.length≤σ.1+(if σ.2=ur then 1 else 0)→(∀x∈ks,∀d,dE d x)→iC (upTo ts one stop g ks σ).1∧(upTo ts one stop g ks σ).1.length≤(upTo ts one stop g ks σ).2.1+(if (upTo ts one stop g ks σ).2.2=ur then 1 else 0):=by
 intro g
 induction g with
 | zero =>
  intro ks σ a b h;refine⟨⟨?_,h⟩,b⟩
  show ks.length≤_
  split at b<;>omega
 | succ g l =>
  intro ks σ a b h;have done:iC ks:=⟨by split at b<;>omega,h⟩
  rw[oJ]
  by_cases k:σ.2=ur
  ·rw[oE k];exact⟨done,b⟩
  ·rw[oB k]
   by_cases hi:isM ts σ [stop]=ur
   ·rw[oE hi];exact⟨done,b⟩
   ·rw[oB hi];rw[oB k]at b;have p:=f σ;refine l _ _ (i _ a) ?_ (oK h (c _ a));rw[FT,Gi];rcases j σ a with h|h
    ·rw[oE h];omega
    ·split<;>omega
theorem BR(a:cg ts)(σ:PS):∀d,dE d (ec ts σ).1:=by
 unfold ec
 (repeat' split)
 ·exact ea (show (0:Nat)≤16390 by omega) (fG a σ) (by simp) (fun x b=>by cases b)
 ·refine ea ?_ (fG a σ) (by simp) (fun x b=>by cases b);have c:=pX a (ae ts σ);have f:(a7++txM ts (ae ts σ)).size=1+(txM ts (ae ts σ)).size:=by rw[ByteArray.size_append];rfl
  omega
 ·exact iW a _ _ _
 ·exact iW a _ _ _
 ·exact iW a _ _ _
theorem kU(c:cg ts)(σ:PS)(a b:Nat):(ofM ts σ a b).1.h.size≤16390:=by
 have:=(cM c σ.1).2.1
 show (cP ts σ.1).2.1.size≤_
 omega
theorem zd(a:cg ts)(i:ts.length≤16385){σ:PS}(b:σ.1<ts.length):∀d,dE d (dz ts (ec ts) σ).1:=by
 have c:∀{f:PS},f.1<ts.length→iC (bV ts (ec ts) f).1:=fun h=>mA a i (BR a) (jd ts) (fun _ h=>rY h) h
 unfold dz
 (repeat' split)
 ·exact ea (show (0:Nat)≤16390 by omega) (fG a σ) (by simp) (fun x g=>by rw[List.mem_singleton]at g;subst g;exact pK a _ _ _)
 ·exact ea (kU a _ _ _) (fG a σ) (c (eF (cB b) 2 6)).1 (c (eF (cB b) 2 6)).2
 ·exact ea (kU a _ _ _) (fG a σ) (c (eF b 2 5)).1 (c (eF b 2 5)).2
theorem AG(a:cg ts)(g:ts.length≤16385){σ:PS}(b:σ.1<ts.length):∀d,dE d (eJ ts σ).1:=by
 have c:∀σ:PS,σ.1<ts.length→(ey ts σ).2.1<ts.length:=fun σ h=>vd _ _ _ h
 have i:∀{f:PS},f.1<ts.length→iC (bV ts (ey ts) f).1:=fun h=>mA a g (fun σ=>pK a _ _ σ) (fO ts) c h
 have j:∀{f:PS},f.1<ts.length→iC (i4 ts (ey ts) f).1:=fun h=>td a g (fun σ=>pK a _ _ σ) (fO ts) c h
 unfold eJ
 (repeat' split)
 ·exact ea (kU a _ _ _) (fG a σ) (i (eF (cB b) 2 8)).1 (i (eF (cB b) 2 8)).2
 ·exact ea (show (0:Nat)≤16390 by omega) (fG a σ) (by simp) (fun x c=>by cases c)
 ·exact ea (show (0:Nat)≤16390 by omega) (fG a σ) (j (cB b)).1 (j (cB b)).2
 ·exact ea (show (0:Nat)≤16390 by omega) (fG a σ) (by simp) (fun x c=>by cases c)
theorem zf(b:cg ts)(c:ts.length≤16385)(a:Int)(j:0≤a∧a≤16384){σ:PS}(f:σ.1<ts.length):∀d,dE d (dG ts a σ).1:=by
 unfold dG;dsimp only;have g:=cZ (xC (eF f (ts:=ts) 2 4)) kB;obtain⟨k,c2⟩:=tm c (fun σ h=>zd b c h) (pQ (jd ts)) (fun _ h=>pS h) (fun σ h=>qp b (jd ts) (fun _ h=>pM h) h) tTo (ts.length+1) [] _ g (FR _) (fun x l=>by cases l);have n:=sj (fun _ h=>pS h) tTo (ts.length+1) [] _ g;generalize upTo ts (dz ts (ec ts)) tTo (ts.length+1) [] (aI ts (gV ts (ofM ts σ 2 4).2).2 kB)=cs at *;have hw:=bz ts cs.2 tTo
 obtain⟨i,_⟩:=tm c (fun σ h=>AG b c h) (rH ts) (fun _ h=>xy h) (fun σ h=>rE b h) dc (ts.length+1) cs.1 _ (cZ n tTo) (by
  by_cases h:cs.2.2=ur
  ·rw[oE h]at c2;rw[oE (eb h _)];omega
  ·rw[oB h]at c2;omega) k.2
 exact ea (kU b _ _ _) j i.1 i.2
theorem yk(a:cg ts)(c:ts.length≤16385){σ:PS}(b:σ.1<ts.length):∀d,dE d (ed ts (dG ts) σ).1:=by
 have f:∀{g:PS},g.1<ts.length→iC (bV ts (fun σ=>ofM ts σ 2 3) g).1:=fun h=>mA a c (fun σ=>iW a σ 2 3) (fun σ=>d6 ts σ 2 3) (fun _ h=>eF h 2 3) h
 unfold ed
 split
 ·exact ea (kU a _ _ _) (fG a σ) (f (eF (cB b) 2 2)).1 (f (eF (cB b) 2 2)).2
 ·exact zf a c _ (fG a σ) (cZ b _)
theorem yw(b:cg ts)(i:ts.length≤16385):∀(g:Nat) (ks:List ac) (σ:PS),σ.1<ts.length→ks.length≤σ.1+(if σ.2=ur then 1 else 0)→(∀x∈ks,∀d,dE d x)→iC (mU ts g ks σ).1:=by
 intro g
 induction g with
 | zero =>
  intro ks σ a c h;refine⟨?_,h⟩
  show ks.length≤_
  split at c<;>omega
 | succ g j =>
  intro ks σ a c h;have done:iC ks:=⟨by split at c<;>omega,h⟩
  rw[mO]
  by_cases f:σ.2=ur
  ·rw[oE f];exact done
  ·rw[oB f]
   split
   ·exact done
   ·rw[oB f]at c;have k:=uu (ts:=ts) (qg ts) σ;refine j _ _ (B8 a) ?_ (oK h (yk b i a));rw[FT,Gi];rcases qc b a with h|h
    ·rw[oE h];omega
    ·split<;>omega
theorem zg(a:cg ts)(b:ts.length≤16385)(c:0<ts.length):iC (lv ts).1:=yw a b _ _ _ c (FR _) (fun x f=>by cases f)
end
def rf(kd:Nat):Nat:=if kd==3||kd==5 then 1 else 0
theorem BQ(x y:ByteArray)(h:x.data.toList=y.data.toList):x=y:=by
 obtain⟨⟨x⟩⟩:=x;obtain⟨⟨y⟩⟩:=y
 simpa using h
theorem uz(s:ByteArray)(k:Nat)(q:k<s.size)(b:(ag s k s[k]).2.2.1=0) :
  (ag s k s[k]).2.2.2=k+rf (ag s k s[k]).1+(ag s k s[k]).2.1.size∧
  s.extract (k+rf (ag s k s[k]).1) (ag s k s[k]).2.2.2=(ag s k s[k]).2.1∧(ag s k s[k]).1<7:=by
 unfold ag at b ⊢
 by_cases c:isLow s[k]=ur
 ·rw[oE c];have f:=eW aS s k;have a:=di aS s k (by omega);have e:∀x:Bool,rf (if x=ur then 1 else 2)=0∧(if x=ur then 1 else 2)<7:=by intro x;cases x<;>decide
  dsimp only;rw[(e _).1,ext_size s _ _ a];exact⟨by omega,Z,(e _).2⟩
 ·rw[oB c]at b ⊢
  by_cases h:(s[k]==63||s[k]==39)=ur
  ·rw[oE h];have f:=eW aS s (k+1);have a:=di aS s (k+1) (by omega);have e:∀x:Bool,rf (if x=ur then 5 else 3)=1∧(if x=ur then 5 else 3)<7:=by intro x;cases x<;>decide
   dsimp only;rw[(e _).1,ext_size s _ _ a];exact⟨by omega,Z,(e _).2⟩
  ·rw[oB h]at b ⊢
   by_cases i:bN s[k]=ur
   ·rw[oE i];have f:=eW bN s k;have a:=di bN s k (by omega);have e:rf 4=0:=rfl;dsimp only;rw[e,ext_size s _ _ a];exact⟨by omega,Z,by omega⟩
   ·rw[oB i]at b ⊢
    cases j:eB.find? (fun g=>Lib.hasPrefix (s.data.toList.drop k) g.data.toList) with
    | none=>rw[j]at b;simp at b
    | some g =>
     have l:iM s k g=true:=List.find?_some j;have a:=ow s k g (by omega) l;have n:=yp s k g a;rw[l]at n;refine⟨Z,BQ _ _ ?_,(by show 6<7;omega)⟩;have p:(s.extract k (k+g.size)).toList=g.toList:=by simpa using n
     rw[FS,FS]at p;exact p
theorem Ce(s:ByteArray):∀(f k er pl:Nat),(toks f s k).2=some (er,pl)→er≠0∧pl<s.size:=by
 intro f
 induction f with
 | zero=>intro k er pl h;cases h
 | succ f a =>
  intro k er pl h;unfold toks at h
  split at h
  ·rename_i b
   split at h
   ·exact a _ _ _ h
   ·rename_i c
    simp only[o7,Prod.mk.injEq]at h;obtain⟨rfl,rfl⟩:=h;exact⟨c,b⟩
  ·cases h
theorem vB(s:ByteArray):∀(n p:Nat),s.size-p≤n→∀t∈(au s p).1,p≤t.2.2:=by
 intro n
 induction n with
 | zero =>
  intro p h t a;rw[dB s p (by rw[eI s p (by omega)];omega)]at a
  cases a
 | succ n g =>
  intro p h t a;have c:=kK s _ p (Fy _)
  by_cases b:skip s p<s.size
  ·by_cases f:(ag s (skip s p) s[skip s p]).2.2.1=0
   ·obtain⟨i,n2⟩:=fg s (skip s p) b f;rw[eV s p b f]at a;rcases Ge.1 a with rfl|a
    ·exact c
    ·have:=g _ (by omega) t a;omega
   ·rw[ff s p b f]at a;cases a
  ·rw[dB s p b]at a;cases a
def fE(s:ByteArray):List Tok:=(au s 0).1++[(7,⟨#[]⟩,s.size)]
theorem wq(s:ByteArray):∀(n p:Nat),s.size-p≤n→((au s p).1).Pairwise (fun a b=>a.2.2<b.2.2)∧∀t∈(au s p).1,t.2.2<s.size:=by
 intro n
 induction n with
 | zero =>
  intro p h;rw[dB s p (by rw[eI s p (by omega)];omega)];exact⟨List.Pairwise.nil,fun t c=>by cases c⟩
 | succ n i =>
  intro p h;have j:=kK s _ p (Fy _)
  by_cases f:skip s p<s.size
  ·by_cases g:(ag s (skip s p) s[skip s p]).2.2.1=0
   ·obtain⟨k,n2⟩:=fg s (skip s p) f g;rw[eV s p f g];obtain⟨i1,i2⟩:=i (ag s (skip s p) s[skip s p]).2.2.2 (by omega);refine⟨List.Pairwise.cons (fun t c=>?_) i1,fun t c=>?_⟩
    ·have:=vB s _ _ (Fy _) t c
     show skip s p<t.2.2
     omega
    ·rcases Ge.1 c with rfl|c
     ·exact f
     ·exact i2 t c
   ·rw[ff s p f g];exact⟨List.Pairwise.nil,fun t c=>by cases c⟩
  ·rw[dB s p f];exact⟨List.Pairwise.nil,fun t c=>by cases c⟩
theorem wW(s:ByteArray):∀(n p:Nat),s.size-p≤n→p≤s.size→∀t∈(au s p).1,t.1<7∧t.2.1.size≤s.size:=by
 intro n
 induction n with
 | zero =>
  intro p h f t a;rw[dB s p (by rw[eI s p (by omega)];omega)]at a
  cases a
 | succ n g =>
  intro p h f t a;have i:=kK s _ p (Fy _)
  by_cases b:skip s p<s.size
  ·by_cases c:(ag s (skip s p) s[skip s p]).2.2.1=0
   ·obtain⟨k,n2⟩:=fg s (skip s p) b c;obtain⟨s1,s2,j⟩:=uz s (skip s p) b c;rw[eV s p b c]at a;rcases Ge.1 a with rfl|a
    ·refine⟨j,?_⟩;dsimp only;omega
    ·exact g _ (by omega) n2 t a
   ·rw[ff s p b c]at a;cases a
  ·rw[dB s p b]at a;cases a
theorem nB(s:ByteArray):(fE s).length=(au s 0).1.length+1:=by unfold fE;simp
theorem Df(s:ByteArray)(h:s.size≤16384):cg (fE s):=by
 have i:=wW s _ 0 (Fy _) (FR _);obtain⟨_,j⟩:=wq s _ 0 (Fy _);refine⟨fun t c=>?_,fun k t f l=>?_⟩
 ·unfold fE at c;rcases List.mem_append.1 c with c|c
  ·obtain⟨a,b⟩:=i t c;have:=j t c;exact⟨by omega,by omega,by omega⟩
  ·rw[List.mem_singleton]at c;subst c;exact⟨by show 7<256;omega,by show (0:Nat)≤16384;omega,h⟩
 ·rw[nB]at l;unfold fE at f;have g:k<((au s 0).1++[(7,(⟨#[]⟩:ByteArray),s.size)]).length:=(FU.1 f).1;rw[FT,Gi]at g;obtain rfl:k=(au s 0).1.length:=by omega
  rw[F7 (Fy _),Nat.sub_self]at f;have:(7,(⟨#[]⟩:ByteArray),s.size)=t:=by simpa using f
  rw[←this]
