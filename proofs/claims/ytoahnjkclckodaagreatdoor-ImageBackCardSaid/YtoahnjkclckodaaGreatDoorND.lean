/- Parts of one proof, joined; conditions stand in each theorem. -/
import Derived.Test.YtoahnjkclckodaaGreatDoorNC
import Derived.Test.YtoahnjkclckodaaGreatDoorNB
open Go renaming Value→tS,World→J,TypeId→xD,undef→xk,wpQuiet_nil→xL
open Option renaming some→A,none→Y
open Go.Obj renaming cells→r7
open Go.Value renaming string→r9,int→I,slice→O,agg→wP,bool→xt,pointer→vo
open Go.IntKind renaming i64→U,u8→r8
open Or renaming inl→wD,inr→wF
open Bool renaming false→ur,true→tT
open Go.World renaming setCell→AF
open Go.Proofs.Tryz renaming prog→va
open Go.Ending renaming returned→wg
open Except renaming ok→xn,error→zs
namespace Go.Proofs.YtoahnjkclckodaaGreatDoor
set_option maxHeartbeats 4000000
set_option maxRecDepth 100000
open Go.RowKit
theorem Aw(x:ByteArray):∀(l:List ByteArray),Lib.idxOfS l x=eK (idxOf x l):=by
 have h:∀(l:List ByteArray) (m:Nat),Lib.idxFromS l x m=eK (jt x l m):=by
  intro l
  induction l with
  | nil=>intro m;rfl
  | cons y l c =>
   intro m;unfold Lib.idxFromS jt
   by_cases h:y=x
   ·subst h;simp[eK]
   ·have f:(y.data.toList==x.data.toList)=false:=by
     rw[o9];intro e;apply h;obtain⟨⟨a⟩⟩:=y;obtain⟨⟨b⟩⟩:=x;have e:a=b:=e;rw[e]
    simp only[h,f,oF,Ka];exact c (m+1)
 exact fun l=>h l 0
def bh(M:Nat) (vs:List tS) (b:Nat):Prop:=b=M∨∃v∈vs,v.ownBlock=A b
structure MkW (F:Nat→Prop) (d M:Nat) (ts:List am) (rs:List aD) (vars:List ByteArray) (nm:ByteArray) (sal nv:Int) (cs:List bj) (acs:List dr) (vT vR vV vC vA:tS) (W:J):Prop where
 f:∀b,F b→b<W.heap.size∧¬bh M [vT,vR,vV,vC,vA] b
 m:W.heap[M]?=A (r7 #[vT,vR,vV,r9 nm,I U sal,I U nv,vC,vA] 202 (0,0))
 t:aA W F 118 eW ts vT
 r:aA W F 159 (fM d) rs vR
 v:aA W F 9 Rd.str vars vV
 c:aA W F 168 (ie d) cs vC
 a:aA W F 272 (jq d) acs vA
theorem row_ne{α:Type}{W:J}{F:Nat→Prop}{E c:xD}{r:Rd α}{xs:List α}{v:tS}{M:Nat}{cs:Array tS}(hm:W.heap[M]?=A (r7 cs c (0,0)))(h:aA W F E r xs v)(b:E≠c):v.ownBlock≠A M:=fun e=>by
 obtain⟨f,a⟩:=h.u e;rw[hm]at a;injection a with a
 injection a with _ a
 exact b a.symm
theorem dm{α:Type}{W W' c:J}{M:Nat}{F:Nat→Prop}{E:xD}{r:Rd α}{xs:List α}{v v2:tS}(h:aA c F E r xs v)(e:v.ownBlock≠A M)(f:Chg (fun x=>v2.ownBlock=A x) c W)(i:∀g,v.ownBlock=A g→v2.ownBlock≠A g)
  (hF:∀b,F b→b<c.heap.size∧v2.ownBlock≠A b∧b≠M) (hw:∀b,b≠M→W'.heap[b]?=W.heap[b]?):aA W' F E r xs v:=
 (h.other f i (fun b a=>⟨(hF b a).1,(hF b a).2.1⟩) (fun _ a=>a)).z e (fun b a=>(hF b a).2.2) (fun _ a=>a) hw
theorem kJ{α:Type}{W W' c:J}{M:Nat}{F:Nat→Prop}{E:xD}{r:Rd α}{xs:List α}{x:α}{v:tS}{us vs:List tS}{g cap n:Nat}(i:xs.length=n)(j:r.z c F xs us)(k:r.at_ c F x vs)(l:Chg (fun b=>v.ownBlock=A b) c W)(e:W.ownsRow 0 E r.n (O (A ⟨g,0,Y⟩) (n+1) cap) (n+1) (us++vs))
  (hF:∀b,F b→b<c.heap.size∧v.ownBlock≠A b∧b≠M) (f:g≠M) (hw:∀b,b≠M→W'.heap[b]?=W.heap[b]?):aA W' F E r (xs++[x]) (O (A ⟨g,0,Y⟩) (n+1) cap):=by
 have m:∀b,F b→∀o,c.heap[b]?=A o→W'.heap[b]?=A o:=fun b h o p=>(hw b (hF b h).2.2).trans ((l.q b (hF b h).1 (hF b h).2.1).trans p)
 refine⟨us++vs,?_,Rd.tE m (Rd.th j k)⟩;rw[J2,i];exact dj e fun q a=>by
  injection a with a
  have a:g=q:=a;subst a;exact hw g f
section
variable {F F':Nat→Prop} {d M:Nat} {ts:List am} {rs:List aD} {vars:List ByteArray} {nm:ByteArray} {sal nv:Int} {cs:List bj} {acs:List dr} {vT vR vV vC vA:tS} {W W':J}
theorem MkW.lt(h:MkW F d M ts rs vars nm sal nv cs acs vT vR vV vC vA W):M<W.heap.size:=(JL.1 h.m).1
theorem MkW.h(h:MkW F d M ts rs vars nm sal nv cs acs vT vR vV vC vA W){b:Nat}(e:bh M [vT,vR,vV,vC,vA] b):b<W.heap.size:=by
 rcases e with rfl|⟨v,f,e⟩
 ·exact h.lt
 ·simp only[Kk,Ki,o8]at f;rcases f with rfl|rfl|rfl|rfl|rfl
  ·exact h.t.lt e
  ·exact h.r.lt e
  ·exact h.v.lt e
  ·exact h.c.lt e
  ·exact h.a.lt e
theorem MkW.upd(h:MkW F d M ts rs vars nm sal nv cs acs vT vR vV vC vA W)(k:W.heap.size≤W'.heap.size)(l:∀b,(F b∨bh M [vT,vR,vV,vC,vA] b)→W'.heap[b]?=W.heap[b]?):MkW F d M ts rs vars nm sal nv cs acs vT vR vV vC vA W':=by
 have e:∀b,F b→∀o,W.heap[b]?=A o→W'.heap[b]?=A o:=fun b j o n=>(l b (wD j)).trans n
 have i:∀v∈[vT,vR,vV,vC,vA],∀g,v.ownBlock=A g→W'.heap[g]?=W.heap[g]?:=fun v p g q=>l g (wF (wF ⟨v,p,q⟩))
 exact⟨fun b j=>⟨JS (h.f b j).1 k,(h.f b j).2⟩,(l M (wF (wD Z))).trans h.m,h.t.K (i _ (by simp)) e (fun _ h=>h),h.r.K (i _ (by simp)) e (fun _ h=>h),h.v.K (i _ (by simp)) e (fun _ h=>h),h.c.K (i _ (by simp)) e (fun _ h=>h),h.a.K (i _ (by simp)) e (fun _ h=>h)⟩
theorem MkW.C(h:MkW F d M ts rs vars nm sal nv cs acs vT vR vV vC vA W)(e:Kr W W'):MkW F d M ts rs vars nm sal nv cs acs vT vR vV vC vA W':=
 h.upd e.size fun b a=>e.block b (by rcases a with c|c;exact (h.f b c).1;exact h.h c)
theorem MkW.grow(h:MkW F d M ts rs vars nm sal nv cs acs vT vR vV vC vA W)(e:∀b,F b→F' b)(f:∀b,F' b→b<W.heap.size∧¬bh M [vT,vR,vV,vC,vA] b):MkW F' d M ts rs vars nm sal nv cs acs vT vR vV vC vA W:=
 ⟨f,h.m,h.t.N e,h.r.N e,h.v.N e,h.c.N e,h.a.N e⟩
theorem MkW.q(h:MkW F d M ts rs vars nm sal nv cs acs vT vR vV vC vA W){g:Nat}{xs:Array tS}{E:xD}(f:W.heap[g]?=A (r7 xs E (0,0)))(j:[202,118,159,9,168,272].contains E=ur):¬bh M [vT,vR,vV,vC,vA] g:=by
 have b:∀x∈[202,118,159,9,168,272],x≠E:=fun x l e=>by
  subst e;rw[List.contains_iff_mem.2 l]at j
  cases j
 rintro (rfl|⟨v,k,i⟩)
 ·have:=h.m;rw[f]at this;injection this with this
  injection this with _ this
  exact b 202 (by simp) this.symm
 ·simp only[Kk,Ki,o8]at k;rcases k with rfl|rfl|rfl|rfl|rfl
  ·exact row_ne f h.t (b _ (by simp)) i
  ·exact row_ne f h.r (b _ (by simp)) i
  ·exact row_ne f h.v (b _ (by simp)) i
  ·exact row_ne f h.c (b _ (by simp)) i
  ·exact row_ne f h.a (b _ (by simp)) i
theorem MkW.pushV{l:J}{x:ByteArray}{us vs:List tS}{g cap n:Nat}(h:MkW F d M ts rs vars nm sal nv cs acs vT vR vV vC vA l)(C:vars.length=n)(D:Rd.str.z l F vars us)(E:Rd.str.at_ l F x vs)(i:vV.ownBlock=A g∨l.heap.size≤g)
  (o:Chg (fun b=>vV.ownBlock=A b) l W) (u:W.ownsRow 0 9 Rd.str.n (O (A ⟨g,0,Y⟩) (n+1) cap) (n+1) (us++vs)) :
  MkW F d M ts rs (vars++[x]) nm sal nv cs acs vT vR (O (A ⟨g,0,Y⟩) (n+1) cap) vC vA (W.setCell ⟨M,2,Y⟩ (O (A ⟨g,0,Y⟩) (n+1) cap))∧Chg (bh M [vT,vR,vV,vC,vA]) l (W.setCell ⟨M,2,Y⟩ (O (A ⟨g,0,Y⟩) (n+1) cap))∧W.heap[M]?=l.heap[M]?:=by
 have q:=row_ne h.m h.v (by decide);have hw:∀b,b≠M→(W.setCell ⟨M,2,Y⟩ (O (A ⟨g,0,Y⟩) (n+1) cap)).heap[b]?=W.heap[b]?:=fun b j=>JQ W ⟨M,2,Y⟩ _ b j
 have B:W.heap[M]?=l.heap[M]?:=o.q M h.lt q;have w:g≠M:=by
  rcases i with i|i
  ·exact fun e=>q (e ▸ i)
  ·have:=h.lt;omega
 have hF:∀b,F b→b<l.heap.size∧vV.ownBlock≠A b∧b≠M:=fun b j=>⟨(h.f b j).1,fun e=>(h.f b j).2 (wF ⟨vV,by simp,e⟩),fun e=>(h.f b j).2 (wD e)⟩
 have y:(W.setCell ⟨M,2,Y⟩ (O (A ⟨g,0,Y⟩) (n+1) cap)).heap.size=W.heap.size:=by simp[AF]
 have H:∀b,F b→b<(W.setCell ⟨M,2,Y⟩ (O (A ⟨g,0,Y⟩) (n+1) cap)).heap.size∧¬bh M [vT,vR,(O (A ⟨g,0,Y⟩) (n+1) cap),vC,vA] b:=fun b j=>by
  refine⟨by rw[y];exact JS (h.f b j).1 o.z,fun k=>?_⟩;rcases k with k|⟨v,s,k⟩
  ·exact (hF b j).2.2 k
  ·by_cases z:v=(O (A ⟨g,0,Y⟩) (n+1) cap)
   ·subst z;injection k with k
    have k:g=b:=k;subst k;rcases i with i|i
    ·exact (hF g j).2.1 i
    ·have:=(hF g j).1;omega
   ·refine (h.f b j).2 (wF ⟨v,?_,k⟩);simp only[Kk,Ki,o8]at s ⊢;rcases s with s|s|s|s|s<;>simp_all
 refine⟨⟨H,?_,dm h.t (row_ne h.m h.t (by decide)) o (fun g i=>h.t.X h.v (by decide) i) hF hw,dm h.r (row_ne h.m h.r (by decide)) o (fun g i=>h.r.X h.v (by decide) i) hF hw,kJ C D E o u hF w hw,dm h.c (row_ne h.m h.c (by decide)) o (fun g i=>h.c.X h.v (by decide) i) hF hw,dm h.a (row_ne h.m h.a (by decide)) o (fun g i=>h.a.X h.v (by decide) i) hF hw⟩,?_,B⟩
 ·exact heap_set (B.trans h.m) 2 _
 ·exact (Chg.N (G:=bh M [vT,vR,vV,vC,vA]) o (fun b j=>wF ⟨vV,by simp,j⟩)).K (p:=⟨M,2,Y⟩) (wD (wD Z)) _
theorem MkW.pushC{l:J}{x:bj}{us vs:List tS}{g cap n:Nat}(h:MkW F d M ts rs vars nm sal nv cs acs vT vR vV vC vA l)(C:cs.length=n)(D:(ie d).z l F cs us)(E:(ie d).at_ l F x vs)(i:vC.ownBlock=A g∨l.heap.size≤g)
  (o:Chg (fun b=>vC.ownBlock=A b) l W) (u:W.ownsRow 0 168 (ie d).n (O (A ⟨g,0,Y⟩) (n+1) cap) (n+1) (us++vs)) :
  MkW F d M ts rs vars nm sal nv (cs++[x]) acs vT vR vV (O (A ⟨g,0,Y⟩) (n+1) cap) vA (W.setCell ⟨M,6,Y⟩ (O (A ⟨g,0,Y⟩) (n+1) cap))∧Chg (bh M [vT,vR,vV,vC,vA]) l (W.setCell ⟨M,6,Y⟩ (O (A ⟨g,0,Y⟩) (n+1) cap))∧W.heap[M]?=l.heap[M]?:=by
 have q:=row_ne h.m h.c (by decide);have hw:∀b,b≠M→(W.setCell ⟨M,6,Y⟩ (O (A ⟨g,0,Y⟩) (n+1) cap)).heap[b]?=W.heap[b]?:=fun b j=>JQ W ⟨M,6,Y⟩ _ b j
 have B:W.heap[M]?=l.heap[M]?:=o.q M h.lt q;have w:g≠M:=by
  rcases i with i|i
  ·exact fun e=>q (e ▸ i)
  ·have:=h.lt;omega
 have hF:∀b,F b→b<l.heap.size∧vC.ownBlock≠A b∧b≠M:=fun b j=>⟨(h.f b j).1,fun e=>(h.f b j).2 (wF ⟨vC,by simp,e⟩),fun e=>(h.f b j).2 (wD e)⟩
 have y:(W.setCell ⟨M,6,Y⟩ (O (A ⟨g,0,Y⟩) (n+1) cap)).heap.size=W.heap.size:=by simp[AF]
 have H:∀b,F b→b<(W.setCell ⟨M,6,Y⟩ (O (A ⟨g,0,Y⟩) (n+1) cap)).heap.size∧¬bh M [vT,vR,vV,(O (A ⟨g,0,Y⟩) (n+1) cap),vA] b:=fun b j=>by
  refine⟨by rw[y];exact JS (h.f b j).1 o.z,fun k=>?_⟩;rcases k with k|⟨v,s,k⟩
  ·exact (hF b j).2.2 k
  ·by_cases z:v=(O (A ⟨g,0,Y⟩) (n+1) cap)
   ·subst z;injection k with k
    have k:g=b:=k;subst k;rcases i with i|i
    ·exact (hF g j).2.1 i
    ·have:=(hF g j).1;omega
   ·refine (h.f b j).2 (wF ⟨v,?_,k⟩);simp only[Kk,Ki,o8]at s ⊢;rcases s with s|s|s|s|s<;>simp_all
 refine⟨⟨H,?_,dm h.t (row_ne h.m h.t (by decide)) o (fun g i=>h.t.X h.c (by decide) i) hF hw,dm h.r (row_ne h.m h.r (by decide)) o (fun g i=>h.r.X h.c (by decide) i) hF hw,dm h.v (row_ne h.m h.v (by decide)) o (fun g i=>h.v.X h.c (by decide) i) hF hw,kJ C D E o u hF w hw,dm h.a (row_ne h.m h.a (by decide)) o (fun g i=>h.a.X h.c (by decide) i) hF hw⟩,?_,B⟩
 ·exact heap_set (B.trans h.m) 6 _
 ·exact (Chg.N (G:=bh M [vT,vR,vV,vC,vA]) o (fun b j=>wF ⟨vC,by simp,j⟩)).K (p:=⟨M,6,Y⟩) (wD (wD Z)) _
theorem MkW.pushA{l:J}{x:dr}{us vs:List tS}{g cap n:Nat}(h:MkW F d M ts rs vars nm sal nv cs acs vT vR vV vC vA l)(C:acs.length=n)(D:(jq d).z l F acs us)(E:(jq d).at_ l F x vs)(i:vA.ownBlock=A g∨l.heap.size≤g)
  (o:Chg (fun b=>vA.ownBlock=A b) l W) (u:W.ownsRow 0 272 (jq d).n (O (A ⟨g,0,Y⟩) (n+1) cap) (n+1) (us++vs)) :
  MkW F d M ts rs vars nm sal nv cs (acs++[x]) vT vR vV vC (O (A ⟨g,0,Y⟩) (n+1) cap) (W.setCell ⟨M,7,Y⟩ (O (A ⟨g,0,Y⟩) (n+1) cap))∧Chg (bh M [vT,vR,vV,vC,vA]) l (W.setCell ⟨M,7,Y⟩ (O (A ⟨g,0,Y⟩) (n+1) cap))∧W.heap[M]?=l.heap[M]?:=by
 have q:=row_ne h.m h.a (by decide);have hw:∀b,b≠M→(W.setCell ⟨M,7,Y⟩ (O (A ⟨g,0,Y⟩) (n+1) cap)).heap[b]?=W.heap[b]?:=fun b j=>JQ W ⟨M,7,Y⟩ _ b j
 have B:W.heap[M]?=l.heap[M]?:=o.q M h.lt q;have w:g≠M:=by
  rcases i with i|i
  ·exact fun e=>q (e ▸ i)
  ·have:=h.lt;omega
 have hF:∀b,F b→b<l.heap.size∧vA.ownBlock≠A b∧b≠M:=fun b j=>⟨(h.f b j).1,fun e=>(h.f b j).2 (wF ⟨vA,by simp,e⟩),fun e=>(h.f b j).2 (wD e)⟩
 have y:(W.setCell ⟨M,7,Y⟩ (O (A ⟨g,0,Y⟩) (n+1) cap)).heap.size=W.heap.size:=by simp[AF]
 have H:∀b,F b→b<(W.setCell ⟨M,7,Y⟩ (O (A ⟨g,0,Y⟩) (n+1) cap)).heap.size∧¬bh M [vT,vR,vV,vC,(O (A ⟨g,0,Y⟩) (n+1) cap)] b:=fun b j=>by
  refine⟨by rw[y];exact JS (h.f b j).1 o.z,fun k=>?_⟩;rcases k with k|⟨v,s,k⟩
  ·exact (hF b j).2.2 k
  ·by_cases z:v=(O (A ⟨g,0,Y⟩) (n+1) cap)
   ·subst z;injection k with k
    have k:g=b:=k;subst k;rcases i with i|i
    ·exact (hF g j).2.1 i
    ·have:=(hF g j).1;omega
   ·refine (h.f b j).2 (wF ⟨v,?_,k⟩);simp only[Kk,Ki,o8]at s ⊢;rcases s with s|s|s|s|s<;>simp_all
 refine⟨⟨H,?_,dm h.t (row_ne h.m h.t (by decide)) o (fun g i=>h.t.X h.a (by decide) i) hF hw,dm h.r (row_ne h.m h.r (by decide)) o (fun g i=>h.r.X h.a (by decide) i) hF hw,dm h.v (row_ne h.m h.v (by decide)) o (fun g i=>h.v.X h.a (by decide) i) hF hw,dm h.c (row_ne h.m h.c (by decide)) o (fun g i=>h.c.X h.a (by decide) i) hF hw,kJ C D E o u hF w hw⟩,?_,B⟩
 ·exact heap_set (B.trans h.m) 7 _
 ·exact (Chg.N (G:=bh M [vT,vR,vV,vC,vA]) o (fun b j=>wF ⟨vA,by simp,j⟩)).K (p:=⟨M,7,Y⟩) (wD (wD Z)) _
end
theorem vG(vars:List ByteArray)(x:ByteArray)(v:tS)(F:Nat→Prop)(w:J)(f:Rd.str.h w F vars v):Calls va 186 #[v,r9 x] w (fun e w'=>e=wg (I U (eK (idxOf x vars)))∧Kr w w'):=by
 have a:=Rd.sb f;rcases f with ⟨rfl,p,c,rfl⟩|⟨b,off,cap,l,m,_,o,q,rfl,h⟩
 ·refine (Tryz.slices_Index_string_empty p c x w).mono ?_;rintro e w' ⟨rfl,rfl⟩;exact⟨by rw[Aw],JO _ _⟩
 ·refine (Tryz.slices_Index_string b off vars.length cap vars x w (JM _) (by unfold maxLen at a;omega) (fun j g=>?_)).mono ?_
  ·obtain⟨vs,⟨rfl,_⟩,i⟩:=h j vars[j] (JR g);have:=i 0 _ Z;have k:off+j*Rd.str.n+0=off+j:=by show off+j*1+0=off+j;omega
   rw[k]at this;rw[this,List.getD_eq_getElem?_getD,JR g];rfl
  ·rintro e w' ⟨rfl,rfl⟩;exact⟨by rw[J5 (JM _),Aw],JO _ _⟩
theorem AM:Elem 9 200 1 16:=Elem.of (z:=r9 ByteArray.empty) Tryz.underlying200 (by kernel_rfl) Z (by decide) (by decide)
def cO(binds:Bool) (vars:List ByteArray) (T:ac):Except Flt (List ByteArray×fe):=
 if T.q==12 then xn (vars,⟨1,0,.zero⟩)
 else if T.q==13 then match idxOf T.h vars with
  | some k=>xn (vars,⟨3,k,.zero⟩)
  | none=>if !binds then zs (213,T.C) else if 16≤vars.length then zs (204,T.C) else xn (vars++[T.h],⟨2,vars.length,.zero⟩)
 else xn (vars,⟨4,0,br T⟩)
theorem zO(binds:Bool)(s:List ByteArray×List fe)(T:ac):cg binds s T=match cO binds s.1 T with | .ok r=>xn (r.1,s.2++[r.2]) | .error e=>zs e:=by
 unfold cg cO
 split
 ·rfl
 ·split
  ·cases idxOf T.h s.1 with
   | some k=>rfl
   | none =>
    dsimp only
    split
    ·rfl
    ·split<;>rfl
  ·rfl
def cX(L:Nat) (l:List (Bool×Int)) (W:J) (v:tS):Prop:=∃g,v=O (A ⟨g,0,Y⟩) l.length l.length∧L≤g∧W.heap[g]?=A (r7 (fQ l).toArray 238 (0,0))
theorem cX.C{L:Nat}{l:List (Bool×Int)}{W W':J}{v:tS}(h:cX L l W v)(b:Kr W W'):cX L l W' v:=by
 obtain⟨g,c,e,a⟩:=h;exact⟨g,c,e,aa b a (JL.1 a).1⟩
theorem pq{o:Oper}{a:Act}{W:J}{G:tS→J→Prop}{L n:Nat}{l:List (Bool×Int)}{parts:Array (Nat×Operand)}(j:o.op=.buildSlice 257 n parts)(k:l.length=n)(h:0<n∧n≤10)
  (m:∀z:tS,z.cells.size=2→Instr.fill (fun i=>A (i*2,2)) ((Array.range (n*2)).map (z.cells[· % z.cells.size]!)) (parts.map fun (x:Nat×Operand)=>(x.1,a.eval x.2)).toList=A (fQ l).toArray) (p:L≤W.heap.size)
  (q:∀v W',Kr W W'→cX L l W' v→G v W'):RE.Upon va o a W G:=by
 obtain⟨i0,z,e,f,b,r,g⟩:=mD.info;have c:(execOp a.eval o).run va W=.ok (.value (O (A ⟨W.heap.size,0,Y⟩) n n)) (W.alloc (r7 (fQ l).toArray 238)):=by
  unfold execOp;simp only[j,pb];rw[run_buildSlice W 257 238 n _ (fQ l).toArray i0 z mD.und e f (by rw[b];omega) (by rw[b];omega) (by rw[b];exact m z g)];rfl
 exact RE.upon_run c (q _ _ ((JO _ W).alloc (JM _) _) ⟨_,by rw[k],p,oc W _⟩)
theorem size2{z:tS}(h:z.cells.size=2):∃x y,z.cells=#[x,y]:=by
 obtain⟨x,y,a⟩:∃x y,z.cells.toList=[x,y]:=by
  have b:z.cells.toList.length=2:=by rw[Kc];exact h
  match c:z.cells.toList,b with
  | [x,y],_=>exact⟨x,y,Z⟩
 exact⟨x,y,by rw[←Array.toArray_toList (xs:=z.cells),a]⟩
theorem Ck(a b:Bool)(c e:Int)(z:tS)(h:z.cells.size=2):Instr.fill (fun i=>A (i*2,2)) ((Array.range (2*2)).map (z.cells[· % z.cells.size]!)) [(0,wP #[xt a,I U c]),(1,wP #[xt b,I U e])]=A (fQ [(a,c),(b,e)]).toArray:=by
 obtain⟨x,y,f⟩:=size2 h;rw[f]
 kernel_rfl
theorem Ch(a b c:Bool)(e f g:Int)(z:tS)(h:z.cells.size=2):Instr.fill (fun i=>A (i*2,2)) ((Array.range (3*2)).map (z.cells[· % z.cells.size]!)) [(0,wP #[xt a,I U e]),(1,wP #[xt b,I U f]),(2,wP #[xt c,I U g])]=A (fQ [(a,e),(b,f),(c,g)]).toArray:=by
 obtain⟨x,y,j⟩:=size2 h;rw[j]
 kernel_rfl
theorem i7{o:Oper}{a:Act}{W:J}{G:tS→J→Prop}{L:Nat}(b c:Bool)(f g:Int)(x y:Operand)(h:o.op=.buildSlice 257 2 #[(0,x),(1,y)])(i:a.eval x=wP #[xt b,I U f])(j:a.eval y=wP #[xt c,I U g])(k:L≤W.heap.size)
  (m:∀v W',Kr W W'→cX L [(b,f),(c,g)] W' v→G v W'):RE.Upon va o a W G:=by
 refine pq (l:=[(b,f),(c,g)]) h Z (by decide) (fun z n=>?_) k m;have e:((#[(0,x),(1,y)]:Array (Nat×Operand)).map fun (q:Nat×Operand)=>(q.1,a.eval q.2)).toList=[(0,a.eval x),(1,a.eval y)]:=by simp
 rw[e,i,j];exact Ck b c f g z n
theorem i4{o:Oper}{a:Act}{W:J}{G:tS→J→Prop}{L:Nat}(b c f:Bool)(g h i:Int)(x y u:Operand)(j:o.op=.buildSlice 257 3 #[(0,x),(1,y),(2,u)])(k:a.eval x=wP #[xt b,I U g])(m:a.eval y=wP #[xt c,I U h])(hu:a.eval u=wP #[xt f,I U i])(n:L≤W.heap.size)
  (p:∀v W',Kr W W'→cX L [(b,g),(c,h),(f,i)] W' v→G v W'):RE.Upon va o a W G:=by
 refine pq (l:=[(b,g),(c,h),(f,i)]) j Z (by decide) (fun z r=>?_) n p;have e:((#[(0,x),(1,y),(2,u)]:Array (Nat×Operand)).map fun (q:Nat×Operand)=>(q.1,a.eval q.2)).toList=[(0,a.eval x),(1,a.eval y),(2,a.eval u)]:=by simp
 rw[e,k,m,hu];exact Ch b c f g h i z r
def st5(W:J) (g:Nat) (a b c d e:tS):World:=((((W.setCell ⟨g,0,Y⟩ a).setCell ⟨g,1,Y⟩ b).setCell ⟨g,2,Y⟩ c).setCell ⟨g,3,Y⟩ d).setCell ⟨g,4,Y⟩ e
theorem yl{W:J}{g:Nat}{f i x2 x3 x4:tS}{t:xD}(h:W.heap[g]?=A (r7 #[f,i,x2,x3,x4] t (0,0)))(a b c d e:tS):(st5 W g a b c d e).heap[g]?=A (r7 #[a,b,c,d,e] t (0,0)):=
 heap_set (heap_set (heap_set (heap_set (heap_set h 0 a) 1 b) 2 c) 3 d) 4 e
theorem vK{B:Nat}{w W:J}{g:Nat}(h:Below B w W)(f:B≤g)(a b c d e:tS):Below B w (st5 W g a b c d e):=
 ((((h.setCell f a).setCell f b).setCell f c).setCell f d).setCell f e
theorem EI{W:J}{g:Nat}(a b c d e:tS)(k:Nat)(h:k≠g):(st5 W g a b c d e).heap[k]?=W.heap[k]?:=by
 have f:∀(V:J) (i:Nat) (u:tS),(V.setCell ⟨g,i,Y⟩ u).heap[k]?=V.heap[k]?:=fun V i u=>JQ V ⟨g,i,Y⟩ u k h
 unfold st5;rw[f,f,f,f,f]
theorem GP{W:J}{g:Nat}(a b c d e:tS):(st5 W g a b c d e).heap.size=W.heap.size:=by simp[st5,AF]
theorem qN(W:J)(g:Ending→J→Prop)(T:Nat)(a b c d e:tS)(h:W.heap[T]?=A (r7 #[a,b,c,d,e] 267 (0,0)))
  (tmps:Array tS) (i:tmps.getD 6 xk=vo (A ⟨T,0,Y⟩)) (j:g (wg (wP #[a,b,c,d,e])) W):bodyPost va Tryz.f157 g .ret ⟨tmps,[]⟩ W:=by
 obtain⟨k,l,c2,m,c4⟩:=cells5 h;have f:tmps[6]?.getD xk=vo (A ⟨T,0,Y⟩):=by simpa using i
 refine bodyPost_ret (v:=wP #[a,b,c,d,e]) ?_ Z j;simp[results,Tryz.results157,go_sem,f,k,l,c2,m,c4]
theorem dI{F G:Nat→Prop}{a b c:J}(h:Chg F a b)(k:Chg G b c)(f:∀x,G x→F x∨a.heap.size≤x):Chg F a c:=
 ⟨k.os.trans h.os,k.a.trans h.a,k.c.trans h.c,JU h.z k.z,fun i hi e=>(k.q i (JS hi h.z) (fun g=>by rcases f i g with h|h;exact e h;omega)).trans (h.q i hi e)⟩
def Grew(v a:tS) (n:Nat):Prop:=∀b,a.ownBlock=A b→v.ownBlock=A b∨n≤b
def nz(F:Nat→Prop) (d M:Nat) (ts:List am) (rs:List aD) (_vars:List ByteArray) (nm:ByteArray) (sal nv:Int) (cs:List bj) (acs:List dr) (vT vR vV vC vA:tS) (r:Except Flt (List ByteArray×fe)) (w:J) (e:Ending) (w':J):Prop:=
 Chg (bh M [vT,vR,vV,vC,vA]) w w'∧match r with
 | .ok x=>e=wg (wP (iy x.2).toArray)∧∃a,MkW F d M ts rs x.1 nm sal nv cs acs vT vR a vC vA w'∧Grew vV a w.heap.size
 | .error er=>e=aR er.1 er.2
theorem Ig(F:Nat→Prop)(d M:Nat)(ts:List am)(rs:List aD)(vars:List ByteArray)(nm:ByteArray)(sal nv:Int)(cs:List bj)(acs:List dr)(vT vR vV vC vA:tS)(T:ac)(p:Option Addr)(n c:Nat)(binds:Bool)(w:J)
  (hw:MkW F d M ts rs vars nm sal nv cs acs vT vR vV vC vA w) (hk:T.q=12∨T.q=13∨T.q=14∨T.q=15) (hs:T.h.size≤72007) (cm:vars.length≤16) :
  Calls va 157 #[vo (A ⟨M,0,Y⟩),wP #[I r8 T.q,r9 T.h,I U T.u,I U T.C,O p n c],xt binds] w (nz F d M ts rs vars nm sal nv cs acs vT vR vV vC vA (cO binds vars T) w):=by
 have a6:Kr w ((w.alloc (r7 #[I r8 T.q,r9 T.h,I U T.u,I U T.C,O p n c] 145)).alloc (r7 #[I r8 0,I U 0,I r8 0,I U 0,r9 ⟨#[]⟩] 267)):=((JO _ w).alloc (JM _) _).alloc (by simp) _;have bl:T.q=12∨¬T.q=12:=by omega
 rcases bl with ad|ad
 ·have HO:Hid (cO binds vars T=xn (vars,⟨1,0,.zero⟩)):=by show _=_;unfold cO;rw[ad];rfl
  have u:Kr w ((w.alloc (r7 #[I r8 12,r9 T.h,I U T.u,I U T.C,O p n c] 145)).alloc (r7 #[I r8 1,I U 0,I r8 0,I U 0,r9 ⟨#[]⟩] 267)):=((JO _ w).alloc (JM _) _).alloc (by simp) _;obtain⟨_,af,_⟩:=bc w (r7 #[I r8 12,r9 T.h,I U T.u,I U T.C,O p n c] 145) (r7 #[I r8 1,I U 0,I r8 0,I U 0,r9 ⟨#[]⟩] 267);have HX:=Hd af;have HP:Hid (nz F d M ts rs vars nm sal nv cs acs vT vR vV vC vA (cO binds vars T) w (wg (wP #[I r8 1,I U 0,I r8 0,I U 0,r9 ⟨#[]⟩])) ((w.alloc (r7 #[I r8 12,r9 T.h,I U T.u,I U T.C,O p n c] 145)).alloc (r7 #[I r8 1,I U 0,I r8 0,I U 0,r9 ⟨#[]⟩] 267))):=by
   refine⟨Chg.u u,?_⟩;rw[HO.o];exact⟨Z,vV,hw.C u,fun b j=>wD j⟩
  rw[ad];clear hw a6 u af hk ad HO
  go_enter Tryz.func157,Tryz.ntmps157
  go_wp2_with fail
  exact qN _ _ (w.heap.size+1) _ _ _ _ _ HX.o _ Z HP.o
 obtain⟨w1,aq⟩:=zzx ((w.alloc (r7 #[I r8 T.q,r9 T.h,I U T.u,I U T.C,O p n c] 145)).alloc (r7 #[I r8 0,I U 0,I r8 0,I U 0,r9 ⟨#[]⟩] 267));obtain⟨ba,af,_⟩:=bc w (r7 #[I r8 T.q,r9 T.h,I U T.u,I U T.C,O p n c] 145) (r7 #[I r8 0,I U 0,I r8 0,I U 0,r9 ⟨#[]⟩] 267);rw[←aq]at a6 ba af;obtain⟨t,N,ar,HW,bm⟩:=zz5 a6 ba af hw (hw.C a6);clear hw a6 ba af
 by_cases b0:T.q=13
 ·obtain⟨G,H,rfl⟩:=bm.o.v.q;obtain⟨a,b1⟩:=zzy (vars.length);have hm:=bm.o.m;obtain⟨cC,HI,HN⟩:=zz3 hm (fun (x:Wb w1)=>vG vars T.h (O G vars.length H) (fun _=>True) x.1 ((bm.o.C x.2).v.h (fun _ _=>trivial) (fun _ _=>trivial))) b1;have HO:Hid (cO binds vars T=match idxOf T.h vars with|some k=>xn (vars,⟨3,k,.zero⟩)|none=>if !binds then zs (213,T.C) else if 16≤vars.length then zs (204,T.C) else xn (vars++[T.h],⟨2,vars.length,.zero⟩)):=by show _=_;unfold cO;rw[b0];rfl
  rw[b1]at HI hm cm;obtain⟨e0,e1,e2,e3,e4⟩:=cells5 N.o;have B:w1.cell? ⟨M,2,Y⟩=A (O G a H):=by rw[Kq _ _ _ _ _ _ hm];rfl
  rw[b0]at aq e0 N ⊢;clear ad hk hm b1
  go_enter Tryz.func157,Tryz.ntmps157
  go_upto_region 5 with fail
  change Code.wp _ _ _ _ ((w.alloc (r7 #[I r8 13,r9 T.h,I U T.u,I U T.C,O p n c] 145)).alloc (r7 #[I r8 0,I U 0,I r8 0,I U 0,r9 ⟨#[]⟩] 267));rw[show (w.alloc (r7 #[I r8 13,r9 T.h,I U T.u,I U T.C,O p n c] 145)).alloc (r7 #[I r8 0,I U 0,I r8 0,I U 0,r9 ⟨#[]⟩] 267)=w1 from aq.symm];clear aq;have X1:=fun x:Wb w1=>x.h e1
  have M2:=fun x:Wb w1=>x.h B
  refine ao (by kernel_rfl) (by kernel_rfl) ?_
  repeat (go_big_quiet_step ((go_at_call 186;exact Calls.h (HI.o _))))
  refine xL ?_;intro W2 ca;have u:=bA ca;obtain⟨l,cn⟩:=zz2 u (bm.o.C u);clear ca u X1 M2 HI e0 e1 e2 e3 e4 B
  cases bn:idxOf T.h vars with
  | some k =>
   rw[bn]at HO;clear bn;rw[show eK (A k)=(k:Int) from rfl];have cR:(0:Int)≤k:=by omega
   have q:=aa l.o ar.o (JL.1 ar.o).1;obtain⟨e0,e1,e2,e3,e4⟩:=cells5 q;have g0:=ab q 0;have g1:=ab q 1;have g2:=ab q 2;have g3:=ab q 3;have g4:=ab q 4;have HP:Hid (nz F d M ts rs vars nm sal nv cs acs vT vR (O G vars.length H) vC vA (cO binds vars T) w (wg (wP #[I r8 3,I U (k:Int),I r8 0,I U 0,r9 ⟨#[]⟩])) (st5 W2 (w.heap.size+1) (I r8 3) (I U (k:Int)) (I r8 0) (I U 0) (r9 ⟨#[]⟩))):=by
    have bb:=vK (t.o.trans (l.o.mono t.o.size)) (J9 w.heap.size) (I r8 3) (I U (k:Int)) (I r8 0) (I U 0) (r9 ⟨#[]⟩);refine⟨Chg.u bb,?_⟩;rw[HO.o];exact⟨Z,_,HW.o.C bb,fun b j=>wD j⟩
   have bd:=Hd (yl q (I r8 3) (I U (k:Int)) (I r8 0) (I U 0) (r9 ⟨#[]⟩));clear q;go_wp2_with fail
   exact qN _ _ (w.heap.size+1) _ _ _ _ _ bd.o _ Z HP.o
  | none =>
   rw[bn]at HO;clear bn;rw[show eK Y=(-1:Int) from rfl];have ba:=aa l.o N.o (JL.1 N.o).1;obtain⟨e0,e1,e2,e3,e4⟩:=cells5 ba;have B:W2.cell? ⟨M,2,Y⟩=A (O G a H):=by rw[Kq _ _ _ _ _ _ cn.o.m,←HN.o];rfl
   have E0:=fun x:Wb W2=>x.h e0
   have E1:=fun x:Wb W2=>x.h e1
   have E2:=fun x:Wb W2=>x.h e2
   have E3:=fun x:Wb W2=>x.h e3
   have E4:=fun x:Wb W2=>x.h e4
   have M2:=fun x:Wb W2=>x.h B
   go_wp2_with fail
   cases binds with
   | false =>
    by_cases b2:16≤a
    ·have b3:(16:Int)≤a:=by omega
     refine RE.z (by kernel_rfl) 12 [11] [] (fun _ W=>∃x:Wb W2,W=x.1) (fun W W'=>Kr W W') (fun i r=>r.getD 0 xk) (fun i W r=>if i=11 then cX W2.heap.size [(tT,213),(tT,204)] W (r.getD 0 xk) else True) (by kernel_rfl) (fun _ _ _ _ _ _ h j=>du h j) (fun i W W' r h _ j=>by split at h;(rw[oj (by assumption)];exact h.C j);rw[oe (by assumption)];trivial) ⟨⟨W2.drew,(JO _ _).drew⟩,Z⟩ ?_;simp only[JY,J7,JZ,J6]
     repeat (refine RE.q (fun W=>∃x:Wb W2,W=x.1) (fun _ _ _ h=>h) Z Z Z ⟨⟨W2.drew,(JO _ _).drew⟩,Z⟩ ?_;go_big_quiet_step (fail);refine xL ?_)
     refine RE.h Z Z ?_ (fun r=>?_)
     ·intro W hC _ C;obtain⟨s9,_,x,rfl⟩:=hC;exact i7 tT tT 213 204 _ _ Z Z Z x.2.size (fun v W' j ho=>⟨[v],Z,j,j,ho⟩)
     simp only[Act.put,JP,JW,JV];refine RE.u ?_;intro W P C;obtain⟨x,rfl⟩:=P;obtain⟨g,S,lg,V⟩:cX W2.heap.size [(tT,213),(tT,204)] x.1 (r.getD 0 xk):=C 11 r Z;rw[S];obtain⟨Q,y,R⟩:=zz3 (bZ [(tT,213),(tT,204)] 13 T.h T.u T.C (O p n c) g 2 2 x.1 Z (by omega) V) (t.o.trans ((l.o.trans (x.2.mono l.o.size)).mono t.o.size)) x.2;clear C S lg V E0 E1 E2 E3 E4 M2;go_wp2_with fail
     refine Q.o.mono ?_;rintro e L ⟨D,he⟩;have he:e=aR 213 T.C:=he;subst he;refine⟨Z,Chg.u (y.o.trans (D.mono y.o.size)),?_⟩;rw[HO.o];rfl
    ·have b3:¬((16:Int)≤a):=by omega
     refine RE.z (by kernel_rfl) 12 [11] [] (fun _ W=>∃x:Wb W2,W=x.1) (fun W W'=>Kr W W') (fun i r=>r.getD 0 xk) (fun i W r=>if i=11 then cX W2.heap.size [(tT,213),(ur,204)] W (r.getD 0 xk) else True) (by kernel_rfl) (fun _ _ _ _ _ _ h j=>du h j) (fun i W W' r h _ j=>by split at h;(rw[oj (by assumption)];exact h.C j);rw[oe (by assumption)];trivial) ⟨⟨W2.drew,(JO _ _).drew⟩,Z⟩ ?_;simp only[JY,J7,JZ,J6]
     repeat (refine RE.q (fun W=>∃x:Wb W2,W=x.1) (fun _ _ _ h=>h) Z Z Z ⟨⟨W2.drew,(JO _ _).drew⟩,Z⟩ ?_;go_big_quiet_step (fail);refine xL ?_)
     refine RE.h Z Z ?_ (fun r=>?_)
     ·intro W hC _ C;obtain⟨s9,_,x,rfl⟩:=hC;exact i7 tT ur 213 204 _ _ Z Z Z x.2.size (fun v W' j ho=>⟨[v],Z,j,j,ho⟩)
     simp only[Act.put,JP,JW,JV];refine RE.u ?_;intro W P C;obtain⟨x,rfl⟩:=P;obtain⟨g,S,lg,V⟩:cX W2.heap.size [(tT,213),(ur,204)] x.1 (r.getD 0 xk):=C 11 r Z;rw[S];obtain⟨Q,y,R⟩:=zz3 (bZ [(tT,213),(ur,204)] 13 T.h T.u T.C (O p n c) g 2 2 x.1 Z (by omega) V) (t.o.trans ((l.o.trans (x.2.mono l.o.size)).mono t.o.size)) x.2;clear C S lg V E0 E1 E2 E3 E4 M2;go_wp2_with fail
     refine Q.o.mono ?_;rintro e L ⟨D,he⟩;have he:e=aR 213 T.C:=he;subst he;refine⟨Z,Chg.u (y.o.trans (D.mono y.o.size)),?_⟩;rw[HO.o];rfl
   | true =>
    by_cases b2:16≤a
    ·have b3:(16:Int)≤a:=by omega
     have bg:16≤vars.length:=by rw[HN.o];exact b2
     refine RE.z (by kernel_rfl) 12 [11] [] (fun _ W=>∃x:Wb W2,W=x.1) (fun W W'=>Kr W W') (fun i r=>r.getD 0 xk) (fun i W r=>if i=11 then cX W2.heap.size [(ur,213),(tT,204)] W (r.getD 0 xk) else True) (by kernel_rfl) (fun _ _ _ _ _ _ h j=>du h j) (fun i W W' r h _ j=>by split at h;(rw[oj (by assumption)];exact h.C j);rw[oe (by assumption)];trivial) ⟨⟨W2.drew,(JO _ _).drew⟩,Z⟩ ?_;simp only[JY,J7,JZ,J6]
     repeat (refine RE.q (fun W=>∃x:Wb W2,W=x.1) (fun _ _ _ h=>h) Z Z Z ⟨⟨W2.drew,(JO _ _).drew⟩,Z⟩ ?_;go_big_quiet_step (fail);refine xL ?_)
     refine RE.h Z Z ?_ (fun r=>?_)
     ·intro W hC _ C;obtain⟨s9,_,x,rfl⟩:=hC;exact i7 ur tT 213 204 _ _ Z Z Z x.2.size (fun v W' j ho=>⟨[v],Z,j,j,ho⟩)
     simp only[Act.put,JP,JW,JV];refine RE.u ?_;intro W P C;obtain⟨x,rfl⟩:=P;obtain⟨g,S,lg,V⟩:cX W2.heap.size [(ur,213),(tT,204)] x.1 (r.getD 0 xk):=C 11 r Z;rw[S];obtain⟨Q,y,R⟩:=zz3 (bZ [(ur,213),(tT,204)] 13 T.h T.u T.C (O p n c) g 2 2 x.1 Z (by omega) V) (t.o.trans ((l.o.trans (x.2.mono l.o.size)).mono t.o.size)) x.2;clear C S lg V E0 E1 E2 E3 E4 M2;go_wp2_with fail
     refine Q.o.mono ?_;rintro e L ⟨D,he⟩;have he:e=aR 204 T.C:=he;subst he;refine⟨Z,Chg.u (y.o.trans (D.mono y.o.size)),?_⟩;rw[HO.o];rw[oe (by simp),oj bg];rfl
    ·have b3:¬((16:Int)≤a):=by omega
     have bg:¬16≤vars.length:=by rw[HN.o];exact b2
     refine RE.z (by kernel_rfl) 12 [11] [] (fun _ W=>∃x:Wb W2,W=x.1) (fun W W'=>Kr W W') (fun i r=>r.getD 0 xk) (fun i W r=>if i=11 then cX W2.heap.size [(ur,213),(ur,204)] W (r.getD 0 xk) else True) (by kernel_rfl) (fun _ _ _ _ _ _ h j=>du h j) (fun i W W' r h _ j=>by split at h;(rw[oj (by assumption)];exact h.C j);rw[oe (by assumption)];trivial) ⟨⟨W2.drew,(JO _ _).drew⟩,Z⟩ ?_;simp only[JY,J7,JZ,J6]
     repeat (refine RE.q (fun W=>∃x:Wb W2,W=x.1) (fun _ _ _ h=>h) Z Z Z ⟨⟨W2.drew,(JO _ _).drew⟩,Z⟩ ?_;go_big_quiet_step (fail);refine xL ?_)
     refine RE.h Z Z ?_ (fun r=>?_)
     ·intro W hC _ C;obtain⟨s9,_,x,rfl⟩:=hC;exact i7 ur ur 213 204 _ _ Z Z Z x.2.size (fun v W' j ho=>⟨[v],Z,j,j,ho⟩)
     simp only[Act.put,JP,JW,JV];refine RE.u ?_;intro W P C;obtain⟨x,rfl⟩:=P;obtain⟨g,S,lg,V⟩:cX W2.heap.size [(ur,213),(ur,204)] x.1 (r.getD 0 xk):=C 11 r Z;rw[S];obtain⟨Q,y,R⟩:=zz3 (bZ [(ur,213),(ur,204)] 13 T.h T.u T.C (O p n c) g 2 2 x.1 Z (by omega) V) (t.o.trans ((l.o.trans (x.2.mono l.o.size)).mono t.o.size)) x.2;clear C S lg V E0 E1 E2 E3 E4 M2;go_wp2_with fail
     refine Q.o.mono ?_;rintro e L ⟨D,he⟩;have he:e=wg (Value.tuple #[]):=he;subst he;have cp:Hid (cO tT vars T=xn (vars++[T.h],⟨2,vars.length,.zero⟩)):=by show _=_;rw[HO.o];rw[oe (by simp),oe bg]
     obtain⟨b4,b5,bq⟩:=zz3 (y.o.trans (D.mono y.o.size)) (aa (l.o.trans ((R.o.trans (D.mono R.o.size)).mono l.o.size)) N.o (JL.1 N.o).1) (aa (l.o.trans ((R.o.trans (D.mono R.o.size)).mono l.o.size)) ar.o (JL.1 ar.o).1);have z:=Hd (HW.o.C b4.o);clear D e0 e1 e2 e3 e4 B;obtain⟨us,bk,cb⟩:=z.o.v;have bt:=cb;rw[HN.o]at bk;obtain⟨cc,cq⟩:=zz2 bk bt;obtain⟨e0,e1,e2,e3,e4⟩:=cells5 b5.o;have B:L.cell? ⟨M,2,Y⟩=A (O G a H):=by rw[Kq _ _ _ _ _ _ z.o.m,←HN.o];rfl
     have hK:∀b,(b=M∨b=w.heap.size)→b<L.heap.size∧(O G a H).ownBlock≠A b:=fun b j=>by
      rw[←HN.o];rcases j with rfl|rfl
      ·exact⟨z.o.lt,row_ne z.o.m z.o.v (by decide)⟩
      ·exact⟨(JL.1 b5.o).1,row_ne b5.o z.o.v (by decide)⟩
     have cf:=Hd (jR (E:=9) (sz:=1) (row:=us++[r9 T.h]) (K:=fun b=>b=M∨b=w.heap.size) hK);have E1:=fun x:Ks L (fun b=>b=M∨b=w.heap.size)=>x.h (wF Z) e1
     have M2:=fun x:Ks L (fun b=>b=M∨b=w.heap.size)=>x.h (wD Z) B
     clear bk cb bt e0 e1 e2 e3 e4 B hK;go_wp2_with fail
     refine RE.z (by kernel_rfl) 9 [7,8] [8] (stA 9 1 L G a H (us++[r9 T.h])) (ApR L) (fun _ r=>r.getD 0 xk) (phA 9 1 L G a H [r9 T.h] (us++[r9 T.h]) 7 8) (by kernel_rfl) (fun _ _ _ _ _ _ h j=>h.C j) (fun _ _ _ _ h _ hR=>h.K hR) stA.zero ?_;simp only[JY,J7,JZ,J6]
     repeat (refine RE.q (fun W=>∃x:Ks L (fun b=>b=M∨b=w.heap.size),W=x.1) (cf.o _) Z Z Z stA.zero ?_;go_big_quiet_step (fail);refine xL ?_)
     refine RE.h Z Z ?_ (fun cr=>?_)
     ·intro W hC P C;obtain⟨s9,_,h9⟩:=hC;exact ek AM (vs:=[r9 T.h]) _ Z Z Z h9.z (fun v W' j ho=>⟨[v],Z,j,ApR.u j,ho⟩)
     simp only[Act.put,JP,JW,JV];refine RE.h Z Z ?_ (fun ch=>?_)
     ·intro W hC P C;obtain⟨x,rfl⟩:∃x:Wb L,W=x.1:=P Z;exact i9 AM (p:=G) (n:=a) (c:=H) (w4:=L) (vs:=[r9 T.h]) (xs:=us) _ _ Z Z (C 7 cr (by kernel_rfl) Z) Z (by simp[Value.oneCell']) x.2 cc.o (by omega) (fun v' W' h1 h2 h3=>⟨[v'],Z,h1,h2,h3⟩)
     simp only[Act.put,JP,JW,JV];refine RE.u ?_;intro W P C;have P:ApS 9 1 L G a H (us++[r9 T.h]) W:=P;have hV:ApV 9 1 L G a H (us++[r9 T.h]) W (ch.getD 0 xk):=C 8 ch Z;obtain⟨g',cap,S,V,hC,bB⟩:=jZ P hV;rw[S];have b6:Chg (fun b=>(O G vars.length H).ownBlock=A b) L W:=by rw[HN.o];exact hC
     have b7:(O G vars.length H).ownBlock=A g'∨L.heap.size≤g':=by rw[HN.o];exact V
     obtain⟨a1,b8,b9⟩:=z.o.pushV (x:=T.h) HN.o cq.o ⟨Z,by unfold maxLen;omega⟩ b7 b6 bB;have B:W.cell? ⟨M,2,Y⟩=A (O G a H):=by rw[Kq _ _ _ _ _ _ (b9.trans z.o.m),←HN.o];rfl
     have ct:=aB (b9.trans z.o.m) 2;have ck:W.heap[w.heap.size+1]?=A (r7 #[I r8 0,I U 0,I r8 0,I U 0,r9 ⟨#[]⟩] 267 (0,0)):=(b6.q _ (JL.1 bq.o).1 (row_ne bq.o z.o.v (by decide))).trans bq.o;have bR:w.heap.size+1≠M:=fun e=>z.o.q bq.o (by kernel_rfl) (wD e)
     obtain⟨W6,X⟩:=zzx (W.setCell ⟨M,2,Y⟩ (O (A ⟨g',0,Y⟩) (a+1) cap));have s:W6.heap[w.heap.size+1]?=A (r7 #[I r8 0,I U 0,I r8 0,I U 0,r9 ⟨#[]⟩] 267 (0,0)):=by rw[X];exact (JQ W ⟨M,2,Y⟩ _ _ bR).trans ck
     rw[←X]at a1 b8;have cT:=Hd a1;have bd:=Hd (yl s (I r8 2) (I U (a:Int)) (I r8 0) (I U 0) (r9 ⟨#[]⟩));have HP:Hid (nz F d M ts rs vars nm sal nv cs acs vT vR (O G vars.length H) vC vA (cO tT vars T) w (wg (wP #[I r8 2,I U (a:Int),I r8 0,I U 0,r9 ⟨#[]⟩])) (st5 W6 (w.heap.size+1) (I r8 2) (I U (a:Int)) (I r8 0) (I U 0) (r9 ⟨#[]⟩))):=by
      have cu:=a1.q s (by kernel_rfl)
      have cv:=a1.upd (W':=st5 W6 (w.heap.size+1) (I r8 2) (I U (a:Int)) (I r8 0) (I U 0) (r9 ⟨#[]⟩)) (by rw[GP];exact JM _) (fun b j=>EI _ _ _ _ _ b (by
       rcases j with j|j
       ·have:=(HW.o.f b j).1;omega
       ·exact fun e=>cu (e ▸ j)))
      have cy:Chg (bh M [vT,vR,O G vars.length H,vC,vA]) w W6:=dI (Chg.u b4.o) b8 (fun x hx=>wD hx);have cA:Chg (bh M [vT,vR,O G vars.length H,vC,vA]) w (st5 W6 (w.heap.size+1) (I r8 2) (I U (a:Int)) (I r8 0) (I U 0) (r9 ⟨#[]⟩)):=((((cy.K (wF (J9 _)) _).K (wF (J9 _)) _).K (wF (J9 _)) _).K (wF (J9 _)) _).K (wF (J9 _)) _;refine⟨cA,?_⟩;rw[cp.o];refine⟨by rw[←HN.o];rfl,_,cv,fun b j=>?_⟩;injection j with j
      have j:g'=b:=j;subst j;rcases b7 with h|h
      ·exact wD h
      ·have:=b4.o.size;exact wF (by omega)
     obtain⟨e0,e1,e2,e3,e4⟩:=cells5 s;have g0:=ab s 0;have g1:=ab s 1;have g2:=ab s 2;have g3:=ab s 3;have g4:=ab s 4;have cW:W6.cell? ⟨M,2,Y⟩=A (O (A ⟨g',0,Y⟩) (a+1) cap):=by rw[Kq _ _ _ _ _ _ a1.m];rfl
     clear P hV C S V hC bB b6 b7 a1 b8 b9 ck s E1 M2 cf bR;go_upto_region 10 with fail
     change Code.wp _ _ _ _ (W.setCell ⟨M,2,Y⟩ (O (A ⟨g',0,Y⟩) (a+1) cap));rw[←X];clear X B ct;go_wp2_with fail
     exact qN _ _ (w.heap.size+1) _ _ _ _ _ bd.o _ Z HP.o
 ·have cl:T.q=14∨T.q=15:=by omega
  have HO:Hid (cO binds vars T=xn (vars,⟨4,0,br T⟩)):=by
   show _=_
   unfold cO;rcases cl with h|h<;>rw[h]<;>rfl
  have c0:¬((T.q:Int)=12):=by omega
  have c1:¬((T.q:Int)=13):=by omega
  have HC:Hid (Calls va 187 #[wP #[I r8 T.q,r9 T.h,I U T.u,I U T.C,O p n c]] w1 fun e w'=>e=wg (wP #[I r8 (br T).q,I U (br T).u,r9 (br T).h])∧Kr w1 w'):=uL T (O p n c) w1 cl hs;obtain⟨e0,e1,e2,e3,e4⟩:=cells5 N.o;clear hk ad b0
  go_enter Tryz.func157,Tryz.ntmps157
  go_upto_region 11 with fail
  change Code.wp _ _ _ _ ((w.alloc (r7 #[I r8 T.q,r9 T.h,I U T.u,I U T.C,O p n c] 145)).alloc (r7 #[I r8 0,I U 0,I r8 0,I U 0,r9 ⟨#[]⟩] 267));rw[←aq];clear aq;go_wp2_with fail
  refine HC.o.mono ?_;rintro e w2 ⟨rfl,u⟩;have q:=aa u ar.o (JL.1 ar.o).1;obtain⟨l,bd⟩:=zz2 (t.o.trans (u.mono t.o.size)) (yl q (I r8 4) (I U 0) (I r8 (br T).q) (I U (br T).u) (r9 (br T).h));have HP:Hid (nz F d M ts rs vars nm sal nv cs acs vT vR vV vC vA (cO binds vars T) w (wg (wP #[I r8 4,I U 0,I r8 (br T).q,I U (br T).u,r9 (br T).h])) (st5 w2 (w.heap.size+1) (I r8 4) (I U 0) (I r8 (br T).q) (I U (br T).u) (r9 (br T).h))):=by
   have bb:=vK l.o (J9 w.heap.size) (I r8 4) (I U 0) (I r8 (br T).q) (I U (br T).u) (r9 (br T).h);refine⟨Chg.u bb,?_⟩;rw[HO.o];exact⟨Z,_,HW.o.C bb,fun b j=>wD j⟩
  clear u e0 e1 e2 e3 e4;obtain⟨e0,e1,e2,e3,e4⟩:=cells5 q;have g0:=ab q 0;have g1:=ab q 1;have g2:=ab q 2;have g3:=ab q 3;have g4:=ab q 4;clear q;go_wp2_with fail
  exact qN _ _ (w.heap.size+1) _ _ _ _ _ bd.o _ Z HP.o
