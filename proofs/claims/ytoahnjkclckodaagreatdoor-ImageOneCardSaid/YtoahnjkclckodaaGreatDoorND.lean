/- Parts of one proof, joined; conditions stand in each theorem. -/
import Derived.Test.YtoahnjkclckodaaGreatDoorNC
import Derived.Test.YtoahnjkclckodaaGreatDoorNB
open Go renaming Value→tT,World→J,TypeId→zs,undef→wF,wpQuiet_nil→xL
open Option renaming some→A,none→Y
open Go.Obj renaming cells→r9
open Go.Value renaming string→tS,int→I,slice→O,agg→xk,bool→xv,pointer→vv
open Go.IntKind renaming i64→U,u8→tF
open Or renaming inl→wD,inr→wP
open Bool renaming false→va,true→ur
open Go.World renaming setCell→AJ
open Go.Proofs.Tryz renaming prog→vo
open Go.Ending renaming returned→wj
open Except renaming ok→xt,error→z6
namespace Go.Proofs.YtoahnjkclckodaaGreatDoor
set_option maxHeartbeats 4000000
set_option maxRecDepth 100000
open Go.RowKit
theorem xG(x:ByteArray):∀(l:List ByteArray),Lib.idxOfS l x=ek (idxOf x l):=by
 have h:∀(l:List ByteArray) (m:Nat),Lib.idxFromS l x m=ek (jD x l m):=by
  intro l
  induction l with
  | nil=>intro m;rfl
  | cons y l c =>
   intro m;unfold Lib.idxFromS jD
   by_cases h:y=x
   ·subst h;simp[ek]
   ·have f:(y.data.toList==x.data.toList)=false:=by
     rw[pb];intro e;apply h;obtain⟨⟨a⟩⟩:=y;obtain⟨⟨b⟩⟩:=x;have e:a=b:=e;rw[e]
    simp only[h,f,o1,F4];exact c (m+1)
 exact fun l=>h l 0
def aZ(M:Nat) (vs:List tT) (b:Nat):Prop:=b=M∨∃v∈vs,v.ownBlock=A b
structure MkW (F:Nat→Prop) (d M:Nat) (ts:List ay) (rs:List aK) (vars:List ByteArray) (nm:ByteArray) (sal nv:Int) (cs:List br) (acs:List dr) (vT vR vV vC vA:tT) (W:J):Prop where
 f:∀b,F b→b<W.heap.size∧¬aZ M [vT,vR,vV,vC,vA] b
 m:W.heap[M]?=A (r9 #[vT,vR,vV,tS nm,I U sal,I U nv,vC,vA] 202 (0,0))
 t:aw W F 118 eD ts vT
 r:aw W F 159 (fh d) rs vR
 v:aw W F 9 Rd.str vars vV
 c:aw W F 168 (gu d) cs vC
 a:aw W F 272 (iU d) acs vA
theorem row_ne{α:Type}{W:J}{F:Nat→Prop}{E c:zs}{r:Rd α}{xs:List α}{v:tT}{M:Nat}{cs:Array tT}(hm:W.heap[M]?=A (r9 cs c (0,0)))(h:aw W F E r xs v)(b:E≠c):v.ownBlock≠A M:=fun e=>by
 obtain⟨f,a⟩:=h.u e;rw[hm]at a;injection a with a
 injection a with _ a
 exact b a.symm
theorem cU{α:Type}{W W' c:J}{M:Nat}{F:Nat→Prop}{E:zs}{r:Rd α}{xs:List α}{v v2:tT}(h:aw c F E r xs v)(e:v.ownBlock≠A M)(f:Chg (fun x=>v2.ownBlock=A x) c W)(i:∀g,v.ownBlock=A g→v2.ownBlock≠A g)
  (hF:∀b,F b→b<c.heap.size∧v2.ownBlock≠A b∧b≠M) (hw:∀b,b≠M→W'.heap[b]?=W.heap[b]?):aw W' F E r xs v:=
 (h.other f i (fun b a=>⟨(hF b a).1,(hF b a).2.1⟩) (fun _ a=>a)).z e (fun b a=>(hF b a).2.2) (fun _ a=>a) hw
theorem j6{α:Type}{W W' c:J}{M:Nat}{F:Nat→Prop}{E:zs}{r:Rd α}{xs:List α}{x:α}{v:tT}{us vs:List tT}{g cap n:Nat}(i:xs.length=n)(j:r.z c F xs us)(k:r.at_ c F x vs)(l:Chg (fun b=>v.ownBlock=A b) c W)(e:W.ownsRow 0 E r.n (O (A ⟨g,0,Y⟩) (n+1) cap) (n+1) (us++vs))
  (hF:∀b,F b→b<c.heap.size∧v.ownBlock≠A b∧b≠M) (f:g≠M) (hw:∀b,b≠M→W'.heap[b]?=W.heap[b]?):aw W' F E r (xs++[x]) (O (A ⟨g,0,Y⟩) (n+1) cap):=by
 have m:∀b,F b→∀o,c.heap[b]?=A o→W'.heap[b]?=A o:=fun b h o p=>(hw b (hF b h).2.2).trans ((l.q b (hF b h).1 (hF b h).2.1).trans p)
 refine⟨us++vs,?_,Rd.tv m (Rd.sI j k)⟩;rw[FT,i];exact cO e fun q a=>by
  injection a with a
  have a:g=q:=a;subst a;exact hw g f
section
variable {F F':Nat→Prop} {d M:Nat} {ts:List ay} {rs:List aK} {vars:List ByteArray} {nm:ByteArray} {sal nv:Int} {cs:List br} {acs:List dr} {vT vR vV vC vA:tT} {W W':J}
theorem MkW.lt(h:MkW F d M ts rs vars nm sal nv cs acs vT vR vV vC vA W):M<W.heap.size:=(Fx.1 h.m).1
theorem MkW.h(h:MkW F d M ts rs vars nm sal nv cs acs vT vR vV vC vA W){b:Nat}(e:aZ M [vT,vR,vV,vC,vA] b):b<W.heap.size:=by
 rcases e with rfl|⟨v,f,e⟩
 ·exact h.lt
 ·simp only[Ge,Gc,o9]at f;rcases f with rfl|rfl|rfl|rfl|rfl
  ·exact h.t.lt e
  ·exact h.r.lt e
  ·exact h.v.lt e
  ·exact h.c.lt e
  ·exact h.a.lt e
theorem MkW.upd(h:MkW F d M ts rs vars nm sal nv cs acs vT vR vV vC vA W)(k:W.heap.size≤W'.heap.size)(l:∀b,(F b∨aZ M [vT,vR,vV,vC,vA] b)→W'.heap[b]?=W.heap[b]?):MkW F d M ts rs vars nm sal nv cs acs vT vR vV vC vA W':=by
 have e:∀b,F b→∀o,W.heap[b]?=A o→W'.heap[b]?=A o:=fun b j o n=>(l b (wD j)).trans n
 have i:∀v∈[vT,vR,vV,vC,vA],∀g,v.ownBlock=A g→W'.heap[g]?=W.heap[g]?:=fun v p g q=>l g (wP (wP ⟨v,p,q⟩))
 exact⟨fun b j=>⟨FG (h.f b j).1 k,(h.f b j).2⟩,(l M (wP (wD Z))).trans h.m,h.t.t (i _ (by simp)) e (fun _ h=>h),h.r.t (i _ (by simp)) e (fun _ h=>h),h.v.t (i _ (by simp)) e (fun _ h=>h),h.c.t (i _ (by simp)) e (fun _ h=>h),h.a.t (i _ (by simp)) e (fun _ h=>h)⟩
theorem MkW.C(h:MkW F d M ts rs vars nm sal nv cs acs vT vR vV vC vA W)(e:Gl W W'):MkW F d M ts rs vars nm sal nv cs acs vT vR vV vC vA W':=
 h.upd e.size fun b a=>e.block b (by rcases a with c|c;exact (h.f b c).1;exact h.h c)
theorem MkW.grow(h:MkW F d M ts rs vars nm sal nv cs acs vT vR vV vC vA W)(e:∀b,F b→F' b)(f:∀b,F' b→b<W.heap.size∧¬aZ M [vT,vR,vV,vC,vA] b):MkW F' d M ts rs vars nm sal nv cs acs vT vR vV vC vA W:=
 ⟨f,h.m,h.t.D e,h.r.D e,h.v.D e,h.c.D e,h.a.D e⟩
theorem MkW.q(h:MkW F d M ts rs vars nm sal nv cs acs vT vR vV vC vA W){g:Nat}{xs:Array tT}{E:zs}(f:W.heap[g]?=A (r9 xs E (0,0)))(j:[202,118,159,9,168,272].contains E=va):¬aZ M [vT,vR,vV,vC,vA] g:=by
 have b:∀x∈[202,118,159,9,168,272],x≠E:=fun x l e=>by
  subst e;rw[List.contains_iff_mem.2 l]at j
  cases j
 rintro (rfl|⟨v,k,i⟩)
 ·have:=h.m;rw[f]at this;injection this with this
  injection this with _ this
  exact b 202 (by simp) this.symm
 ·simp only[Ge,Gc,o9]at k;rcases k with rfl|rfl|rfl|rfl|rfl
  ·exact row_ne f h.t (b _ (by simp)) i
  ·exact row_ne f h.r (b _ (by simp)) i
  ·exact row_ne f h.v (b _ (by simp)) i
  ·exact row_ne f h.c (b _ (by simp)) i
  ·exact row_ne f h.a (b _ (by simp)) i
theorem MkW.pushV{l:J}{x:ByteArray}{us vs:List tT}{g cap n:Nat}(h:MkW F d M ts rs vars nm sal nv cs acs vT vR vV vC vA l)(C:vars.length=n)(D:Rd.str.z l F vars us)(E:Rd.str.at_ l F x vs)(i:vV.ownBlock=A g∨l.heap.size≤g)
  (o:Chg (fun b=>vV.ownBlock=A b) l W) (u:W.ownsRow 0 9 Rd.str.n (O (A ⟨g,0,Y⟩) (n+1) cap) (n+1) (us++vs)) :
  MkW F d M ts rs (vars++[x]) nm sal nv cs acs vT vR (O (A ⟨g,0,Y⟩) (n+1) cap) vC vA (W.setCell ⟨M,2,Y⟩ (O (A ⟨g,0,Y⟩) (n+1) cap))∧Chg (aZ M [vT,vR,vV,vC,vA]) l (W.setCell ⟨M,2,Y⟩ (O (A ⟨g,0,Y⟩) (n+1) cap))∧W.heap[M]?=l.heap[M]?:=by
 have q:=row_ne h.m h.v (by decide);have hw:∀b,b≠M→(W.setCell ⟨M,2,Y⟩ (O (A ⟨g,0,Y⟩) (n+1) cap)).heap[b]?=W.heap[b]?:=fun b j=>FC W ⟨M,2,Y⟩ _ b j
 have B:W.heap[M]?=l.heap[M]?:=o.q M h.lt q;have w:g≠M:=by
  rcases i with i|i
  ·exact fun e=>q (e ▸ i)
  ·have:=h.lt;omega
 have hF:∀b,F b→b<l.heap.size∧vV.ownBlock≠A b∧b≠M:=fun b j=>⟨(h.f b j).1,fun e=>(h.f b j).2 (wP ⟨vV,by simp,e⟩),fun e=>(h.f b j).2 (wD e)⟩
 have y:(W.setCell ⟨M,2,Y⟩ (O (A ⟨g,0,Y⟩) (n+1) cap)).heap.size=W.heap.size:=by simp[AJ]
 have H:∀b,F b→b<(W.setCell ⟨M,2,Y⟩ (O (A ⟨g,0,Y⟩) (n+1) cap)).heap.size∧¬aZ M [vT,vR,(O (A ⟨g,0,Y⟩) (n+1) cap),vC,vA] b:=fun b j=>by
  refine⟨by rw[y];exact FG (h.f b j).1 o.u,fun k=>?_⟩;rcases k with k|⟨v,s,k⟩
  ·exact (hF b j).2.2 k
  ·by_cases z:v=(O (A ⟨g,0,Y⟩) (n+1) cap)
   ·subst z;injection k with k
    have k:g=b:=k;subst k;rcases i with i|i
    ·exact (hF g j).2.1 i
    ·have:=(hF g j).1;omega
   ·refine (h.f b j).2 (wP ⟨v,?_,k⟩);simp only[Ge,Gc,o9]at s ⊢;rcases s with s|s|s|s|s<;>simp_all
 refine⟨⟨H,?_,cU h.t (row_ne h.m h.t (by decide)) o (fun g i=>h.t.K h.v (by decide) i) hF hw,cU h.r (row_ne h.m h.r (by decide)) o (fun g i=>h.r.K h.v (by decide) i) hF hw,j6 C D E o u hF w hw,cU h.c (row_ne h.m h.c (by decide)) o (fun g i=>h.c.K h.v (by decide) i) hF hw,cU h.a (row_ne h.m h.a (by decide)) o (fun g i=>h.a.K h.v (by decide) i) hF hw⟩,?_,B⟩
 ·exact heap_set (B.trans h.m) 2 _
 ·exact (Chg.D (G:=aZ M [vT,vR,vV,vC,vA]) o (fun b j=>wP ⟨vV,by simp,j⟩)).z (p:=⟨M,2,Y⟩) (wD (wD Z)) _
theorem MkW.pushC{l:J}{x:br}{us vs:List tT}{g cap n:Nat}(h:MkW F d M ts rs vars nm sal nv cs acs vT vR vV vC vA l)(C:cs.length=n)(D:(gu d).z l F cs us)(E:(gu d).at_ l F x vs)(i:vC.ownBlock=A g∨l.heap.size≤g)
  (o:Chg (fun b=>vC.ownBlock=A b) l W) (u:W.ownsRow 0 168 (gu d).n (O (A ⟨g,0,Y⟩) (n+1) cap) (n+1) (us++vs)) :
  MkW F d M ts rs vars nm sal nv (cs++[x]) acs vT vR vV (O (A ⟨g,0,Y⟩) (n+1) cap) vA (W.setCell ⟨M,6,Y⟩ (O (A ⟨g,0,Y⟩) (n+1) cap))∧Chg (aZ M [vT,vR,vV,vC,vA]) l (W.setCell ⟨M,6,Y⟩ (O (A ⟨g,0,Y⟩) (n+1) cap))∧W.heap[M]?=l.heap[M]?:=by
 have q:=row_ne h.m h.c (by decide);have hw:∀b,b≠M→(W.setCell ⟨M,6,Y⟩ (O (A ⟨g,0,Y⟩) (n+1) cap)).heap[b]?=W.heap[b]?:=fun b j=>FC W ⟨M,6,Y⟩ _ b j
 have B:W.heap[M]?=l.heap[M]?:=o.q M h.lt q;have w:g≠M:=by
  rcases i with i|i
  ·exact fun e=>q (e ▸ i)
  ·have:=h.lt;omega
 have hF:∀b,F b→b<l.heap.size∧vC.ownBlock≠A b∧b≠M:=fun b j=>⟨(h.f b j).1,fun e=>(h.f b j).2 (wP ⟨vC,by simp,e⟩),fun e=>(h.f b j).2 (wD e)⟩
 have y:(W.setCell ⟨M,6,Y⟩ (O (A ⟨g,0,Y⟩) (n+1) cap)).heap.size=W.heap.size:=by simp[AJ]
 have H:∀b,F b→b<(W.setCell ⟨M,6,Y⟩ (O (A ⟨g,0,Y⟩) (n+1) cap)).heap.size∧¬aZ M [vT,vR,vV,(O (A ⟨g,0,Y⟩) (n+1) cap),vA] b:=fun b j=>by
  refine⟨by rw[y];exact FG (h.f b j).1 o.u,fun k=>?_⟩;rcases k with k|⟨v,s,k⟩
  ·exact (hF b j).2.2 k
  ·by_cases z:v=(O (A ⟨g,0,Y⟩) (n+1) cap)
   ·subst z;injection k with k
    have k:g=b:=k;subst k;rcases i with i|i
    ·exact (hF g j).2.1 i
    ·have:=(hF g j).1;omega
   ·refine (h.f b j).2 (wP ⟨v,?_,k⟩);simp only[Ge,Gc,o9]at s ⊢;rcases s with s|s|s|s|s<;>simp_all
 refine⟨⟨H,?_,cU h.t (row_ne h.m h.t (by decide)) o (fun g i=>h.t.K h.c (by decide) i) hF hw,cU h.r (row_ne h.m h.r (by decide)) o (fun g i=>h.r.K h.c (by decide) i) hF hw,cU h.v (row_ne h.m h.v (by decide)) o (fun g i=>h.v.K h.c (by decide) i) hF hw,j6 C D E o u hF w hw,cU h.a (row_ne h.m h.a (by decide)) o (fun g i=>h.a.K h.c (by decide) i) hF hw⟩,?_,B⟩
 ·exact heap_set (B.trans h.m) 6 _
 ·exact (Chg.D (G:=aZ M [vT,vR,vV,vC,vA]) o (fun b j=>wP ⟨vC,by simp,j⟩)).z (p:=⟨M,6,Y⟩) (wD (wD Z)) _
theorem MkW.pushA{l:J}{x:dr}{us vs:List tT}{g cap n:Nat}(h:MkW F d M ts rs vars nm sal nv cs acs vT vR vV vC vA l)(C:acs.length=n)(D:(iU d).z l F acs us)(E:(iU d).at_ l F x vs)(i:vA.ownBlock=A g∨l.heap.size≤g)
  (o:Chg (fun b=>vA.ownBlock=A b) l W) (u:W.ownsRow 0 272 (iU d).n (O (A ⟨g,0,Y⟩) (n+1) cap) (n+1) (us++vs)) :
  MkW F d M ts rs vars nm sal nv cs (acs++[x]) vT vR vV vC (O (A ⟨g,0,Y⟩) (n+1) cap) (W.setCell ⟨M,7,Y⟩ (O (A ⟨g,0,Y⟩) (n+1) cap))∧Chg (aZ M [vT,vR,vV,vC,vA]) l (W.setCell ⟨M,7,Y⟩ (O (A ⟨g,0,Y⟩) (n+1) cap))∧W.heap[M]?=l.heap[M]?:=by
 have q:=row_ne h.m h.a (by decide);have hw:∀b,b≠M→(W.setCell ⟨M,7,Y⟩ (O (A ⟨g,0,Y⟩) (n+1) cap)).heap[b]?=W.heap[b]?:=fun b j=>FC W ⟨M,7,Y⟩ _ b j
 have B:W.heap[M]?=l.heap[M]?:=o.q M h.lt q;have w:g≠M:=by
  rcases i with i|i
  ·exact fun e=>q (e ▸ i)
  ·have:=h.lt;omega
 have hF:∀b,F b→b<l.heap.size∧vA.ownBlock≠A b∧b≠M:=fun b j=>⟨(h.f b j).1,fun e=>(h.f b j).2 (wP ⟨vA,by simp,e⟩),fun e=>(h.f b j).2 (wD e)⟩
 have y:(W.setCell ⟨M,7,Y⟩ (O (A ⟨g,0,Y⟩) (n+1) cap)).heap.size=W.heap.size:=by simp[AJ]
 have H:∀b,F b→b<(W.setCell ⟨M,7,Y⟩ (O (A ⟨g,0,Y⟩) (n+1) cap)).heap.size∧¬aZ M [vT,vR,vV,vC,(O (A ⟨g,0,Y⟩) (n+1) cap)] b:=fun b j=>by
  refine⟨by rw[y];exact FG (h.f b j).1 o.u,fun k=>?_⟩;rcases k with k|⟨v,s,k⟩
  ·exact (hF b j).2.2 k
  ·by_cases z:v=(O (A ⟨g,0,Y⟩) (n+1) cap)
   ·subst z;injection k with k
    have k:g=b:=k;subst k;rcases i with i|i
    ·exact (hF g j).2.1 i
    ·have:=(hF g j).1;omega
   ·refine (h.f b j).2 (wP ⟨v,?_,k⟩);simp only[Ge,Gc,o9]at s ⊢;rcases s with s|s|s|s|s<;>simp_all
 refine⟨⟨H,?_,cU h.t (row_ne h.m h.t (by decide)) o (fun g i=>h.t.K h.a (by decide) i) hF hw,cU h.r (row_ne h.m h.r (by decide)) o (fun g i=>h.r.K h.a (by decide) i) hF hw,cU h.v (row_ne h.m h.v (by decide)) o (fun g i=>h.v.K h.a (by decide) i) hF hw,cU h.c (row_ne h.m h.c (by decide)) o (fun g i=>h.c.K h.a (by decide) i) hF hw,j6 C D E o u hF w hw⟩,?_,B⟩
 ·exact heap_set (B.trans h.m) 7 _
 ·exact (Chg.D (G:=aZ M [vT,vR,vV,vC,vA]) o (fun b j=>wP ⟨vA,by simp,j⟩)).z (p:=⟨M,7,Y⟩) (wD (wD Z)) _
end
theorem ta(vars:List ByteArray)(x:ByteArray)(v:tT)(F:Nat→Prop)(w:J)(f:Rd.str.h w F vars v):Calls vo 186 #[v,tS x] w (fun e w'=>e=wj (I U (ek (idxOf x vars)))∧Gl w w'):=by
 have a:=Rd.N f;rcases f with ⟨rfl,p,c,rfl⟩|⟨b,off,cap,l,m,_,o,q,rfl,h⟩
 ·refine (Tryz.slices_Index_string_empty p c x w).mono ?_;rintro e w' ⟨rfl,rfl⟩;exact⟨by rw[xG],Fz _ _⟩
 ·refine (Tryz.slices_Index_string b off vars.length cap vars x w (Fy _) (by unfold maxLen at a;omega) (fun j g=>?_)).mono ?_
  ·obtain⟨vs,⟨rfl,_⟩,i⟩:=h j vars[j] (FD g);have:=i 0 _ Z;have k:off+j*Rd.str.n+0=off+j:=by show off+j*1+0=off+j;omega
   rw[k]at this;rw[this,List.getD_eq_getElem?_getD,FD g];rfl
  ·rintro e w' ⟨rfl,rfl⟩;exact⟨by rw[FW (Fy _),xG],Fz _ _⟩
theorem xQ:Elem 9 200 1 16:=Elem.of (z:=tS ByteArray.empty) Tryz.underlying200 (by kernel_rfl) Z (by decide) (by decide)
def co(binds:Bool) (vars:List ByteArray) (T:ac):Except Flt (List ByteArray×iJ):=
 if T.q==12 then xt (vars,⟨1,0,.zero⟩)
 else if T.q==13 then match idxOf T.h vars with
  | some k=>xt (vars,⟨3,k,.zero⟩)
  | none=>if !binds then z6 (213,T.t) else if 16≤vars.length then z6 (204,T.t) else xt (vars++[T.h],⟨2,vars.length,.zero⟩)
 else xt (vars,⟨4,0,bs T⟩)
theorem wT(binds:Bool)(s:List ByteArray×List iJ)(T:ac):dk binds s T=match co binds s.1 T with | .ok r=>xt (r.1,s.2++[r.2]) | .error e=>z6 e:=by
 unfold dk co
 split
 ·rfl
 ·split
  ·cases idxOf T.h s.1 with
   | some k=>rfl
   | none =>
    dsimp only
    split
    ·rfl
    ·split<;>rfl
  ·rfl
def cF(L:Nat) (l:List (Bool×Int)) (W:J) (v:tT):Prop:=∃g,v=O (A ⟨g,0,Y⟩) l.length l.length∧L≤g∧W.heap[g]?=A (r9 (fk l).toArray 238 (0,0))
theorem cF.C{L:Nat}{l:List (Bool×Int)}{W W':J}{v:tT}(h:cF L l W v)(b:Gl W W'):cF L l W' v:=by
 obtain⟨g,c,e,a⟩:=h;exact⟨g,c,e,aa b a (Fx.1 a).1⟩
theorem nE{o:Oper}{a:Act}{W:J}{G:tT→J→Prop}{L n:Nat}{l:List (Bool×Int)}{parts:Array (Nat×Operand)}(j:o.op=.buildSlice 257 n parts)(k:l.length=n)(h:0<n∧n≤10)
  (m:∀z:tT,z.cells.size=2→Instr.fill (fun i=>A (i*2,2)) ((Array.range (n*2)).map (z.cells[· % z.cells.size]!)) (parts.map fun (x:Nat×Operand)=>(x.1,a.eval x.2)).toList=A (fk l).toArray) (p:L≤W.heap.size)
  (q:∀v W',Gl W W'→cF L l W' v→G v W'):RE.Upon vo o a W G:=by
 obtain⟨i0,z,e,f,b,r,g⟩:=lH.info;have c:(execOp a.eval o).run vo W=.ok (.value (O (A ⟨W.heap.size,0,Y⟩) n n)) (W.alloc (r9 (fk l).toArray 238)):=by
  unfold execOp;simp only[j,ph];rw[run_buildSlice W 257 238 n _ (fk l).toArray i0 z lH.und e f (by rw[b];omega) (by rw[b];omega) (by rw[b];exact m z g)];rfl
 exact RE.upon_run c (q _ _ ((Fz _ W).alloc (Fy _) _) ⟨_,by rw[k],p,oA W _⟩)
theorem size2{z:tT}(h:z.cells.size=2):∃x y,z.cells=#[x,y]:=by
 obtain⟨x,y,a⟩:∃x y,z.cells.toList=[x,y]:=by
  have b:z.cells.toList.length=2:=by rw[F6];exact h
  match c:z.cells.toList,b with
  | [x,y],_=>exact⟨x,y,Z⟩
 exact⟨x,y,by rw[←Array.toArray_toList (xs:=z.cells),a]⟩
theorem zl(a b:Bool)(c e:Int)(z:tT)(h:z.cells.size=2):Instr.fill (fun i=>A (i*2,2)) ((Array.range (2*2)).map (z.cells[· % z.cells.size]!)) [(0,xk #[xv a,I U c]),(1,xk #[xv b,I U e])]=A (fk [(a,c),(b,e)]).toArray:=by
 obtain⟨x,y,f⟩:=size2 h;rw[f]
 kernel_rfl
theorem zi(a b c:Bool)(e f g:Int)(z:tT)(h:z.cells.size=2):Instr.fill (fun i=>A (i*2,2)) ((Array.range (3*2)).map (z.cells[· % z.cells.size]!)) [(0,xk #[xv a,I U e]),(1,xk #[xv b,I U f]),(2,xk #[xv c,I U g])]=A (fk [(a,e),(b,f),(c,g)]).toArray:=by
 obtain⟨x,y,j⟩:=size2 h;rw[j]
 kernel_rfl
theorem iE{o:Oper}{a:Act}{W:J}{G:tT→J→Prop}{L:Nat}(b c:Bool)(f g:Int)(x y:Operand)(h:o.op=.buildSlice 257 2 #[(0,x),(1,y)])(i:a.eval x=xk #[xv b,I U f])(j:a.eval y=xk #[xv c,I U g])(k:L≤W.heap.size)
  (m:∀v W',Gl W W'→cF L [(b,f),(c,g)] W' v→G v W'):RE.Upon vo o a W G:=by
 refine nE (l:=[(b,f),(c,g)]) h Z (by decide) (fun z n=>?_) k m;have e:((#[(0,x),(1,y)]:Array (Nat×Operand)).map fun (q:Nat×Operand)=>(q.1,a.eval q.2)).toList=[(0,a.eval x),(1,a.eval y)]:=by simp
 rw[e,i,j];exact zl b c f g z n
theorem iz{o:Oper}{a:Act}{W:J}{G:tT→J→Prop}{L:Nat}(b c f:Bool)(g h i:Int)(x y u:Operand)(j:o.op=.buildSlice 257 3 #[(0,x),(1,y),(2,u)])(k:a.eval x=xk #[xv b,I U g])(m:a.eval y=xk #[xv c,I U h])(hu:a.eval u=xk #[xv f,I U i])(n:L≤W.heap.size)
  (p:∀v W',Gl W W'→cF L [(b,g),(c,h),(f,i)] W' v→G v W'):RE.Upon vo o a W G:=by
 refine nE (l:=[(b,g),(c,h),(f,i)]) j Z (by decide) (fun z r=>?_) n p;have e:((#[(0,x),(1,y),(2,u)]:Array (Nat×Operand)).map fun (q:Nat×Operand)=>(q.1,a.eval q.2)).toList=[(0,a.eval x),(1,a.eval y),(2,a.eval u)]:=by simp
 rw[e,k,m,hu];exact zi b c f g h i z r
def st5(W:J) (g:Nat) (a b c d e:tT):World:=((((W.setCell ⟨g,0,Y⟩ a).setCell ⟨g,1,Y⟩ b).setCell ⟨g,2,Y⟩ c).setCell ⟨g,3,Y⟩ d).setCell ⟨g,4,Y⟩ e
theorem uW{W:J}{g:Nat}{f i x2 x3 x4:tT}{t:zs}(h:W.heap[g]?=A (r9 #[f,i,x2,x3,x4] t (0,0)))(a b c d e:tT):(st5 W g a b c d e).heap[g]?=A (r9 #[a,b,c,d,e] t (0,0)):=
 heap_set (heap_set (heap_set (heap_set (heap_set h 0 a) 1 b) 2 c) 3 d) 4 e
theorem te{B:Nat}{w W:J}{g:Nat}(h:Below B w W)(f:B≤g)(a b c d e:tT):Below B w (st5 W g a b c d e):=
 ((((h.setCell f a).setCell f b).setCell f c).setCell f d).setCell f e
theorem Bo{W:J}{g:Nat}(a b c d e:tT)(k:Nat)(h:k≠g):(st5 W g a b c d e).heap[k]?=W.heap[k]?:=by
 have f:∀(V:J) (i:Nat) (u:tT),(V.setCell ⟨g,i,Y⟩ u).heap[k]?=V.heap[k]?:=fun V i u=>FC V ⟨g,i,Y⟩ u k h
 unfold st5;rw[f,f,f,f,f]
theorem C7{W:J}{g:Nat}(a b c d e:tT):(st5 W g a b c d e).heap.size=W.heap.size:=by simp[st5,AJ]
theorem oV(W:J)(g:Ending→J→Prop)(T:Nat)(a b c d e:tT)(h:W.heap[T]?=A (r9 #[a,b,c,d,e] 267 (0,0)))
  (tmps:Array tT) (i:tmps.getD 6 wF=vv (A ⟨T,0,Y⟩)) (j:g (wj (xk #[a,b,c,d,e])) W):bodyPost vo Tryz.f157 g .ret ⟨tmps,[]⟩ W:=by
 obtain⟨k,l,c2,m,c4⟩:=cells5 h;have f:tmps[6]?.getD wF=vv (A ⟨T,0,Y⟩):=by simpa using i
 refine bodyPost_ret (v:=xk #[a,b,c,d,e]) ?_ Z j;simp[results,Tryz.results157,go_sem,f,k,l,c2,m,c4]
theorem dw{F G:Nat→Prop}{a b c:J}(h:Chg F a b)(k:Chg G b c)(f:∀x,G x→F x∨a.heap.size≤x):Chg F a c:=
 ⟨k.os.trans h.os,k.a.trans h.a,k.c.trans h.c,FH h.u k.u,fun i hi e=>(k.q i (FG hi h.u) (fun g=>by rcases f i g with h|h;exact e h;omega)).trans (h.q i hi e)⟩
def Grew(v a:tT) (n:Nat):Prop:=∀b,a.ownBlock=A b→v.ownBlock=A b∨n≤b
def md(F:Nat→Prop) (d M:Nat) (ts:List ay) (rs:List aK) (_vars:List ByteArray) (nm:ByteArray) (sal nv:Int) (cs:List br) (acs:List dr) (vT vR vV vC vA:tT) (r:Except Flt (List ByteArray×iJ)) (w:J) (e:Ending) (w':J):Prop:=
 Chg (aZ M [vT,vR,vV,vC,vA]) w w'∧match r with
 | .ok x=>e=wj (xk (gQ x.2).toArray)∧∃a,MkW F d M ts rs x.1 nm sal nv cs acs vT vR a vC vA w'∧Grew vV a w.heap.size
 | .error er=>e=aJ er.1 er.2
theorem DO(F:Nat→Prop)(d M:Nat)(ts:List ay)(rs:List aK)(vars:List ByteArray)(nm:ByteArray)(sal nv:Int)(cs:List br)(acs:List dr)(vT vR vV vC vA:tT)(T:ac)(p:Option Addr)(n c:Nat)(binds:Bool)(w:J)
  (hw:MkW F d M ts rs vars nm sal nv cs acs vT vR vV vC vA w) (hk:T.q=12∨T.q=13∨T.q=14∨T.q=15) (hs:T.h.size≤72007) (cn:vars.length≤16) :
  Calls vo 157 #[vv (A ⟨M,0,Y⟩),xk #[I tF T.q,tS T.h,I U T.u,I U T.t,O p n c],xv binds] w (md F d M ts rs vars nm sal nv cs acs vT vR vV vC vA (co binds vars T) w):=by
 have a6:Gl w ((w.alloc (r9 #[I tF T.q,tS T.h,I U T.u,I U T.t,O p n c] 145)).alloc (r9 #[I tF 0,I U 0,I tF 0,I U 0,tS ⟨#[]⟩] 267)):=((Fz _ w).alloc (Fy _) _).alloc (by simp) _;have bm:T.q=12∨¬T.q=12:=by omega
 rcases bm with ad|ad
 ·have HO:Hid (co binds vars T=xt (vars,⟨1,0,.zero⟩)):=by show _=_;unfold co;rw[ad];rfl
  have u:Gl w ((w.alloc (r9 #[I tF 12,tS T.h,I U T.u,I U T.t,O p n c] 145)).alloc (r9 #[I tF 1,I U 0,I tF 0,I U 0,tS ⟨#[]⟩] 267)):=((Fz _ w).alloc (Fy _) _).alloc (by simp) _;obtain⟨_,af,_⟩:=aW w (r9 #[I tF 12,tS T.h,I U T.u,I U T.t,O p n c] 145) (r9 #[I tF 1,I U 0,I tF 0,I U 0,tS ⟨#[]⟩] 267);have HX:=Hd af;have HP:Hid (md F d M ts rs vars nm sal nv cs acs vT vR vV vC vA (co binds vars T) w (wj (xk #[I tF 1,I U 0,I tF 0,I U 0,tS ⟨#[]⟩])) ((w.alloc (r9 #[I tF 12,tS T.h,I U T.u,I U T.t,O p n c] 145)).alloc (r9 #[I tF 1,I U 0,I tF 0,I U 0,tS ⟨#[]⟩] 267))):=by
   refine⟨Chg.t u,?_⟩;rw[HO.o];exact⟨Z,vV,hw.C u,fun b j=>wD j⟩
  rw[ad];clear hw a6 u af hk ad HO
  go_enter Tryz.func157,Tryz.ntmps157
  go_wp2_with fail
  exact oV _ _ (w.heap.size+1) _ _ _ _ _ HX.o _ Z HP.o
 obtain⟨w1,aq⟩:=zzx ((w.alloc (r9 #[I tF T.q,tS T.h,I U T.u,I U T.t,O p n c] 145)).alloc (r9 #[I tF 0,I U 0,I tF 0,I U 0,tS ⟨#[]⟩] 267));obtain⟨ba,af,_⟩:=aW w (r9 #[I tF T.q,tS T.h,I U T.u,I U T.t,O p n c] 145) (r9 #[I tF 0,I U 0,I tF 0,I U 0,tS ⟨#[]⟩] 267);rw[←aq]at a6 ba af;obtain⟨t,N,ar,HW,bn⟩:=zz5 a6 ba af hw (hw.C a6);clear hw a6 ba af
 by_cases b1:T.q=13
 ·obtain⟨G,H,rfl⟩:=bn.o.v.q;obtain⟨a,b2⟩:=zzy (vars.length);have hm:=bn.o.m;obtain⟨cR,HI,HN⟩:=zz3 hm (fun (x:Wb w1)=>ta vars T.h (O G vars.length H) (fun _=>True) x.1 ((bn.o.C x.2).v.h (fun _ _=>trivial) (fun _ _=>trivial))) b2;have HO:Hid (co binds vars T=match idxOf T.h vars with|some k=>xt (vars,⟨3,k,.zero⟩)|none=>if !binds then z6 (213,T.t) else if 16≤vars.length then z6 (204,T.t) else xt (vars++[T.h],⟨2,vars.length,.zero⟩)):=by show _=_;unfold co;rw[b1];rfl
  rw[b2]at HI hm cn;obtain⟨e0,e1,e2,e3,e4⟩:=cells5 N.o;have B:w1.cell? ⟨M,2,Y⟩=A (O G a H):=by rw[Gk _ _ _ _ _ _ hm];rfl
  rw[b1]at aq e0 N ⊢;clear ad hk hm b2
  go_enter Tryz.func157,Tryz.ntmps157
  go_upto_region 5 with fail
  change Code.wp _ _ _ _ ((w.alloc (r9 #[I tF 13,tS T.h,I U T.u,I U T.t,O p n c] 145)).alloc (r9 #[I tF 0,I U 0,I tF 0,I U 0,tS ⟨#[]⟩] 267));rw[show (w.alloc (r9 #[I tF 13,tS T.h,I U T.u,I U T.t,O p n c] 145)).alloc (r9 #[I tF 0,I U 0,I tF 0,I U 0,tS ⟨#[]⟩] 267)=w1 from aq.symm];clear aq;have X1:=fun x:Wb w1=>x.h e1
  have M2:=fun x:Wb w1=>x.h B
  refine al (by kernel_rfl) (by kernel_rfl) ?_
  repeat (go_big_quiet_step ((go_at_call 186;exact Calls.h (HI.o _))))
  refine xL ?_;intro W2 cb;have u:=bw cb;obtain⟨l,cp⟩:=zz2 u (bn.o.C u);clear cb u X1 M2 HI e0 e1 e2 e3 e4 B
  cases bq:idxOf T.h vars with
  | some k =>
   rw[bq]at HO;clear bq;rw[show ek (A k)=(k:Int) from rfl];have cT:(0:Int)≤k:=by omega
   have q:=aa l.o ar.o (Fx.1 ar.o).1;obtain⟨e0,e1,e2,e3,e4⟩:=cells5 q;have g0:=ab q 0;have g1:=ab q 1;have g2:=ab q 2;have g3:=ab q 3;have g4:=ab q 4;have HP:Hid (md F d M ts rs vars nm sal nv cs acs vT vR (O G vars.length H) vC vA (co binds vars T) w (wj (xk #[I tF 3,I U (k:Int),I tF 0,I U 0,tS ⟨#[]⟩])) (st5 W2 (w.heap.size+1) (I tF 3) (I U (k:Int)) (I tF 0) (I U 0) (tS ⟨#[]⟩))):=by
    have bb:=te (t.o.trans (l.o.mono t.o.size)) (F3 w.heap.size) (I tF 3) (I U (k:Int)) (I tF 0) (I U 0) (tS ⟨#[]⟩);refine⟨Chg.t bb,?_⟩;rw[HO.o];exact⟨Z,_,HW.o.C bb,fun b j=>wD j⟩
   have bd:=Hd (uW q (I tF 3) (I U (k:Int)) (I tF 0) (I U 0) (tS ⟨#[]⟩));clear q;go_wp2_with fail
   exact oV _ _ (w.heap.size+1) _ _ _ _ _ bd.o _ Z HP.o
  | none =>
   rw[bq]at HO;clear bq;rw[show ek Y=(-1:Int) from rfl];have ba:=aa l.o N.o (Fx.1 N.o).1;obtain⟨e0,e1,e2,e3,e4⟩:=cells5 ba;have B:W2.cell? ⟨M,2,Y⟩=A (O G a H):=by rw[Gk _ _ _ _ _ _ cp.o.m,←HN.o];rfl
   have E0:=fun x:Wb W2=>x.h e0
   have E1:=fun x:Wb W2=>x.h e1
   have E2:=fun x:Wb W2=>x.h e2
   have E3:=fun x:Wb W2=>x.h e3
   have E4:=fun x:Wb W2=>x.h e4
   have M2:=fun x:Wb W2=>x.h B
   go_wp2_with fail
   cases binds with
   | false =>
    by_cases b3:16≤a
    ·have b4:(16:Int)≤a:=by omega
     refine RE.u (by kernel_rfl) 12 [11] [] (fun _ W=>∃x:Wb W2,W=x.1) (fun W W'=>Gl W W') (fun i r=>r.getD 0 wF) (fun i W r=>if i=11 then cF W2.heap.size [(ur,213),(ur,204)] W (r.getD 0 wF) else True) (by kernel_rfl) (fun _ _ _ _ _ _ h j=>cY h j) (fun i W W' r h _ j=>by split at h;(rw[oE (by assumption)];exact h.C j);rw[oB (by assumption)];trivial) ⟨⟨W2.drew,(Fz _ _).drew⟩,Z⟩ ?_;simp only[FO,FY,FQ,FX]
     repeat (refine RE.q (fun W=>∃x:Wb W2,W=x.1) (fun _ _ _ h=>h) Z Z Z ⟨⟨W2.drew,(Fz _ _).drew⟩,Z⟩ ?_;go_big_quiet_step (fail);refine xL ?_)
     refine RE.h Z Z ?_ (fun r=>?_)
     ·intro W hC _ C;obtain⟨s9,_,x,rfl⟩:=hC;exact iE ur ur 213 204 _ _ Z Z Z x.2.size (fun v W' j ho=>⟨[v],Z,j,j,ho⟩)
     simp only[Act.put,FA,FM,FK];refine RE.t ?_;intro W P C;obtain⟨x,rfl⟩:=P;obtain⟨g,S,lg,V⟩:cF W2.heap.size [(ur,213),(ur,204)] x.1 (r.getD 0 wF):=C 11 r Z;rw[S];obtain⟨Q,y,R⟩:=zz3 (bO [(ur,213),(ur,204)] 13 T.h T.u T.t (O p n c) g 2 2 x.1 Z (by omega) V) (t.o.trans ((l.o.trans (x.2.mono l.o.size)).mono t.o.size)) x.2;clear C S lg V E0 E1 E2 E3 E4 M2;go_wp2_with fail
     refine Q.o.mono ?_;rintro e L ⟨D,he⟩;have he:e=aJ 213 T.t:=he;subst he;refine⟨Z,Chg.t (y.o.trans (D.mono y.o.size)),?_⟩;rw[HO.o];rfl
    ·have b4:¬((16:Int)≤a):=by omega
     refine RE.u (by kernel_rfl) 12 [11] [] (fun _ W=>∃x:Wb W2,W=x.1) (fun W W'=>Gl W W') (fun i r=>r.getD 0 wF) (fun i W r=>if i=11 then cF W2.heap.size [(ur,213),(va,204)] W (r.getD 0 wF) else True) (by kernel_rfl) (fun _ _ _ _ _ _ h j=>cY h j) (fun i W W' r h _ j=>by split at h;(rw[oE (by assumption)];exact h.C j);rw[oB (by assumption)];trivial) ⟨⟨W2.drew,(Fz _ _).drew⟩,Z⟩ ?_;simp only[FO,FY,FQ,FX]
     repeat (refine RE.q (fun W=>∃x:Wb W2,W=x.1) (fun _ _ _ h=>h) Z Z Z ⟨⟨W2.drew,(Fz _ _).drew⟩,Z⟩ ?_;go_big_quiet_step (fail);refine xL ?_)
     refine RE.h Z Z ?_ (fun r=>?_)
     ·intro W hC _ C;obtain⟨s9,_,x,rfl⟩:=hC;exact iE ur va 213 204 _ _ Z Z Z x.2.size (fun v W' j ho=>⟨[v],Z,j,j,ho⟩)
     simp only[Act.put,FA,FM,FK];refine RE.t ?_;intro W P C;obtain⟨x,rfl⟩:=P;obtain⟨g,S,lg,V⟩:cF W2.heap.size [(ur,213),(va,204)] x.1 (r.getD 0 wF):=C 11 r Z;rw[S];obtain⟨Q,y,R⟩:=zz3 (bO [(ur,213),(va,204)] 13 T.h T.u T.t (O p n c) g 2 2 x.1 Z (by omega) V) (t.o.trans ((l.o.trans (x.2.mono l.o.size)).mono t.o.size)) x.2;clear C S lg V E0 E1 E2 E3 E4 M2;go_wp2_with fail
     refine Q.o.mono ?_;rintro e L ⟨D,he⟩;have he:e=aJ 213 T.t:=he;subst he;refine⟨Z,Chg.t (y.o.trans (D.mono y.o.size)),?_⟩;rw[HO.o];rfl
   | true =>
    by_cases b3:16≤a
    ·have b4:(16:Int)≤a:=by omega
     have bk:16≤vars.length:=by rw[HN.o];exact b3
     refine RE.u (by kernel_rfl) 12 [11] [] (fun _ W=>∃x:Wb W2,W=x.1) (fun W W'=>Gl W W') (fun i r=>r.getD 0 wF) (fun i W r=>if i=11 then cF W2.heap.size [(va,213),(ur,204)] W (r.getD 0 wF) else True) (by kernel_rfl) (fun _ _ _ _ _ _ h j=>cY h j) (fun i W W' r h _ j=>by split at h;(rw[oE (by assumption)];exact h.C j);rw[oB (by assumption)];trivial) ⟨⟨W2.drew,(Fz _ _).drew⟩,Z⟩ ?_;simp only[FO,FY,FQ,FX]
     repeat (refine RE.q (fun W=>∃x:Wb W2,W=x.1) (fun _ _ _ h=>h) Z Z Z ⟨⟨W2.drew,(Fz _ _).drew⟩,Z⟩ ?_;go_big_quiet_step (fail);refine xL ?_)
     refine RE.h Z Z ?_ (fun r=>?_)
     ·intro W hC _ C;obtain⟨s9,_,x,rfl⟩:=hC;exact iE va ur 213 204 _ _ Z Z Z x.2.size (fun v W' j ho=>⟨[v],Z,j,j,ho⟩)
     simp only[Act.put,FA,FM,FK];refine RE.t ?_;intro W P C;obtain⟨x,rfl⟩:=P;obtain⟨g,S,lg,V⟩:cF W2.heap.size [(va,213),(ur,204)] x.1 (r.getD 0 wF):=C 11 r Z;rw[S];obtain⟨Q,y,R⟩:=zz3 (bO [(va,213),(ur,204)] 13 T.h T.u T.t (O p n c) g 2 2 x.1 Z (by omega) V) (t.o.trans ((l.o.trans (x.2.mono l.o.size)).mono t.o.size)) x.2;clear C S lg V E0 E1 E2 E3 E4 M2;go_wp2_with fail
     refine Q.o.mono ?_;rintro e L ⟨D,he⟩;have he:e=aJ 204 T.t:=he;subst he;refine⟨Z,Chg.t (y.o.trans (D.mono y.o.size)),?_⟩;rw[HO.o];rw[oB (by simp),oE bk];rfl
    ·have b4:¬((16:Int)≤a):=by omega
     have bk:¬16≤vars.length:=by rw[HN.o];exact b3
     refine RE.u (by kernel_rfl) 12 [11] [] (fun _ W=>∃x:Wb W2,W=x.1) (fun W W'=>Gl W W') (fun i r=>r.getD 0 wF) (fun i W r=>if i=11 then cF W2.heap.size [(va,213),(va,204)] W (r.getD 0 wF) else True) (by kernel_rfl) (fun _ _ _ _ _ _ h j=>cY h j) (fun i W W' r h _ j=>by split at h;(rw[oE (by assumption)];exact h.C j);rw[oB (by assumption)];trivial) ⟨⟨W2.drew,(Fz _ _).drew⟩,Z⟩ ?_;simp only[FO,FY,FQ,FX]
     repeat (refine RE.q (fun W=>∃x:Wb W2,W=x.1) (fun _ _ _ h=>h) Z Z Z ⟨⟨W2.drew,(Fz _ _).drew⟩,Z⟩ ?_;go_big_quiet_step (fail);refine xL ?_)
     refine RE.h Z Z ?_ (fun r=>?_)
     ·intro W hC _ C;obtain⟨s9,_,x,rfl⟩:=hC;exact iE va va 213 204 _ _ Z Z Z x.2.size (fun v W' j ho=>⟨[v],Z,j,j,ho⟩)
     simp only[Act.put,FA,FM,FK];refine RE.t ?_;intro W P C;obtain⟨x,rfl⟩:=P;obtain⟨g,S,lg,V⟩:cF W2.heap.size [(va,213),(va,204)] x.1 (r.getD 0 wF):=C 11 r Z;rw[S];obtain⟨Q,y,R⟩:=zz3 (bO [(va,213),(va,204)] 13 T.h T.u T.t (O p n c) g 2 2 x.1 Z (by omega) V) (t.o.trans ((l.o.trans (x.2.mono l.o.size)).mono t.o.size)) x.2;clear C S lg V E0 E1 E2 E3 E4 M2;go_wp2_with fail
     refine Q.o.mono ?_;rintro e L ⟨D,he⟩;have he:e=wj (Value.tuple #[]):=he;subst he;have cq:Hid (co ur vars T=xt (vars++[T.h],⟨2,vars.length,.zero⟩)):=by show _=_;rw[HO.o];rw[oB (by simp),oB bk]
     obtain⟨b5,b6,bt⟩:=zz3 (y.o.trans (D.mono y.o.size)) (aa (l.o.trans ((R.o.trans (D.mono R.o.size)).mono l.o.size)) N.o (Fx.1 N.o).1) (aa (l.o.trans ((R.o.trans (D.mono R.o.size)).mono l.o.size)) ar.o (Fx.1 ar.o).1);have z:=Hd (HW.o.C b5.o);clear D e0 e1 e2 e3 e4 B;obtain⟨us,bl,cc⟩:=z.o.v;have bB:=cc;rw[HN.o]at bl;obtain⟨cf,cr⟩:=zz2 bl bB;obtain⟨e0,e1,e2,e3,e4⟩:=cells5 b6.o;have B:L.cell? ⟨M,2,Y⟩=A (O G a H):=by rw[Gk _ _ _ _ _ _ z.o.m,←HN.o];rfl
     have hK:∀b,(b=M∨b=w.heap.size)→b<L.heap.size∧(O G a H).ownBlock≠A b:=fun b j=>by
      rw[←HN.o];rcases j with rfl|rfl
      ·exact⟨z.o.lt,row_ne z.o.m z.o.v (by decide)⟩
      ·exact⟨(Fx.1 b6.o).1,row_ne b6.o z.o.v (by decide)⟩
     have ch:=Hd (jp (E:=9) (sz:=1) (row:=us++[tS T.h]) (K:=fun b=>b=M∨b=w.heap.size) hK);have E1:=fun x:Ks L (fun b=>b=M∨b=w.heap.size)=>x.h (wP Z) e1
     have M2:=fun x:Ks L (fun b=>b=M∨b=w.heap.size)=>x.h (wD Z) B
     clear bl cc bB e0 e1 e2 e3 e4 B hK;go_wp2_with fail
     refine RE.u (by kernel_rfl) 9 [7,8] [8] (stA 9 1 L G a H (us++[tS T.h])) (ApR L) (fun _ r=>r.getD 0 wF) (phA 9 1 L G a H [tS T.h] (us++[tS T.h]) 7 8) (by kernel_rfl) (fun _ _ _ _ _ _ h j=>h.C j) (fun _ _ _ _ h _ hR=>h.t hR) stA.zero ?_;simp only[FO,FY,FQ,FX]
     repeat (refine RE.q (fun W=>∃x:Ks L (fun b=>b=M∨b=w.heap.size),W=x.1) (ch.o _) Z Z Z stA.zero ?_;go_big_quiet_step (fail);refine xL ?_)
     refine RE.h Z Z ?_ (fun ct=>?_)
     ·intro W hC P C;obtain⟨s9,_,h9⟩:=hC;exact dU xQ (vs:=[tS T.h]) _ Z Z Z h9.u (fun v W' j ho=>⟨[v],Z,j,ApR.t j,ho⟩)
     simp only[Act.put,FA,FM,FK];refine RE.h Z Z ?_ (fun ck=>?_)
     ·intro W hC P C;obtain⟨x,rfl⟩:∃x:Wb L,W=x.1:=P Z;exact iF xQ (p:=G) (n:=a) (c:=H) (w4:=L) (vs:=[tS T.h]) (xs:=us) _ _ Z Z (C 7 ct (by kernel_rfl) Z) Z (by simp[Value.oneCell']) x.2 cf.o (by omega) (fun v' W' h1 h2 h3=>⟨[v'],Z,h1,h2,h3⟩)
     simp only[Act.put,FA,FM,FK];refine RE.t ?_;intro W P C;have P:ApS 9 1 L G a H (us++[tS T.h]) W:=P;have hV:ApV 9 1 L G a H (us++[tS T.h]) W (ck.getD 0 wF):=C 8 ck Z;obtain⟨g',cap,S,V,hC,bR⟩:=ju P hV;rw[S];have b7:Chg (fun b=>(O G vars.length H).ownBlock=A b) L W:=by rw[HN.o];exact hC
     have b8:(O G vars.length H).ownBlock=A g'∨L.heap.size≤g':=by rw[HN.o];exact V
     obtain⟨a1,b9,ca⟩:=z.o.pushV (x:=T.h) HN.o cr.o ⟨Z,by unfold maxLen;omega⟩ b8 b7 bR;have B:W.cell? ⟨M,2,Y⟩=A (O G a H):=by rw[Gk _ _ _ _ _ _ (ca.trans z.o.m),←HN.o];rfl
     have cu:=ax (ca.trans z.o.m) 2;have cl:W.heap[w.heap.size+1]?=A (r9 #[I tF 0,I U 0,I tF 0,I U 0,tS ⟨#[]⟩] 267 (0,0)):=(b7.q _ (Fx.1 bt.o).1 (row_ne bt.o z.o.v (by decide))).trans bt.o;have b0:w.heap.size+1≠M:=fun e=>z.o.q bt.o (by kernel_rfl) (wD e)
     obtain⟨W6,X⟩:=zzx (W.setCell ⟨M,2,Y⟩ (O (A ⟨g',0,Y⟩) (a+1) cap));have s:W6.heap[w.heap.size+1]?=A (r9 #[I tF 0,I U 0,I tF 0,I U 0,tS ⟨#[]⟩] 267 (0,0)):=by rw[X];exact (FC W ⟨M,2,Y⟩ _ _ b0).trans cl
     rw[←X]at a1 b9;have cW:=Hd a1;have bd:=Hd (uW s (I tF 2) (I U (a:Int)) (I tF 0) (I U 0) (tS ⟨#[]⟩));have HP:Hid (md F d M ts rs vars nm sal nv cs acs vT vR (O G vars.length H) vC vA (co ur vars T) w (wj (xk #[I tF 2,I U (a:Int),I tF 0,I U 0,tS ⟨#[]⟩])) (st5 W6 (w.heap.size+1) (I tF 2) (I U (a:Int)) (I tF 0) (I U 0) (tS ⟨#[]⟩))):=by
      have cv:=a1.q s (by kernel_rfl)
      have cy:=a1.upd (W':=st5 W6 (w.heap.size+1) (I tF 2) (I U (a:Int)) (I tF 0) (I U 0) (tS ⟨#[]⟩)) (by rw[C7];exact Fy _) (fun b j=>Bo _ _ _ _ _ b (by
       rcases j with j|j
       ·have:=(HW.o.f b j).1;omega
       ·exact fun e=>cv (e ▸ j)))
      have cA:Chg (aZ M [vT,vR,O G vars.length H,vC,vA]) w W6:=dw (Chg.t b5.o) b9 (fun x hx=>wD hx);have cC:Chg (aZ M [vT,vR,O G vars.length H,vC,vA]) w (st5 W6 (w.heap.size+1) (I tF 2) (I U (a:Int)) (I tF 0) (I U 0) (tS ⟨#[]⟩)):=((((cA.z (wP (F3 _)) _).z (wP (F3 _)) _).z (wP (F3 _)) _).z (wP (F3 _)) _).z (wP (F3 _)) _;refine⟨cC,?_⟩;rw[cq.o];refine⟨by rw[←HN.o];rfl,_,cy,fun b j=>?_⟩;injection j with j
      have j:g'=b:=j;subst j;rcases b8 with h|h
      ·exact wD h
      ·have:=b5.o.size;exact wP (by omega)
     obtain⟨e0,e1,e2,e3,e4⟩:=cells5 s;have g0:=ab s 0;have g1:=ab s 1;have g2:=ab s 2;have g3:=ab s 3;have g4:=ab s 4;have c0:W6.cell? ⟨M,2,Y⟩=A (O (A ⟨g',0,Y⟩) (a+1) cap):=by rw[Gk _ _ _ _ _ _ a1.m];rfl
     clear P hV C S V hC bR b7 b8 a1 b9 ca cl s E1 M2 ch b0;go_upto_region 10 with fail
     change Code.wp _ _ _ _ (W.setCell ⟨M,2,Y⟩ (O (A ⟨g',0,Y⟩) (a+1) cap));rw[←X];clear X B cu;go_wp2_with fail
     exact oV _ _ (w.heap.size+1) _ _ _ _ _ bd.o _ Z HP.o
 ·have cm:T.q=14∨T.q=15:=by omega
  have HO:Hid (co binds vars T=xt (vars,⟨4,0,bs T⟩)):=by
   show _=_
   unfold co;rcases cm with h|h<;>rw[h]<;>rfl
  have c1:¬((T.q:Int)=12):=by omega
  have c3:¬((T.q:Int)=13):=by omega
  have HC:Hid (Calls vo 187 #[xk #[I tF T.q,tS T.h,I U T.u,I U T.t,O p n c]] w1 fun e w'=>e=wj (xk #[I tF (bs T).q,I U (bs T).u,tS (bs T).h])∧Gl w1 w'):=sx T (O p n c) w1 cm hs;obtain⟨e0,e1,e2,e3,e4⟩:=cells5 N.o;clear hk ad b1
  go_enter Tryz.func157,Tryz.ntmps157
  go_upto_region 11 with fail
  change Code.wp _ _ _ _ ((w.alloc (r9 #[I tF T.q,tS T.h,I U T.u,I U T.t,O p n c] 145)).alloc (r9 #[I tF 0,I U 0,I tF 0,I U 0,tS ⟨#[]⟩] 267));rw[←aq];clear aq;go_wp2_with fail
  refine HC.o.mono ?_;rintro e w2 ⟨rfl,u⟩;have q:=aa u ar.o (Fx.1 ar.o).1;obtain⟨l,bd⟩:=zz2 (t.o.trans (u.mono t.o.size)) (uW q (I tF 4) (I U 0) (I tF (bs T).q) (I U (bs T).u) (tS (bs T).h));have HP:Hid (md F d M ts rs vars nm sal nv cs acs vT vR vV vC vA (co binds vars T) w (wj (xk #[I tF 4,I U 0,I tF (bs T).q,I U (bs T).u,tS (bs T).h])) (st5 w2 (w.heap.size+1) (I tF 4) (I U 0) (I tF (bs T).q) (I U (bs T).u) (tS (bs T).h))):=by
   have bb:=te l.o (F3 w.heap.size) (I tF 4) (I U 0) (I tF (bs T).q) (I U (bs T).u) (tS (bs T).h);refine⟨Chg.t bb,?_⟩;rw[HO.o];exact⟨Z,_,HW.o.C bb,fun b j=>wD j⟩
  clear u e0 e1 e2 e3 e4;obtain⟨e0,e1,e2,e3,e4⟩:=cells5 q;have g0:=ab q 0;have g1:=ab q 1;have g2:=ab q 2;have g3:=ab q 3;have g4:=ab q 4;clear q;go_wp2_with fail
  exact oV _ _ (w.heap.size+1) _ _ _ _ _ bd.o _ Z HP.o
