/- Parts of one proof, joined; conditions stand in each theorem. -/
import Derived.Test.YtkhfjgjjhlnnnaaGreatDoorNC
import Derived.Test.YtkhfjgjjhlnnnaaGreatDoorNB
open Go renaming Value→vn,World→vk,TypeId→AR,undef→xD,wpQuiet_nil→z7
open Option renaming some→Y,none→U
open Go.Obj renaming cells→ur
open Go.Value renaming string→J,int→I,slice→A,agg→wD,bool→xS,pointer→wF
open Go.IntKind renaming i64→Z,u8→O
open Or renaming inl→wP,inr→xj
open Bool renaming false→wj,true→wg
open Go.World renaming setCell→BT
open Go.Proofs.Tryz renaming prog→wq
open Go.Ending renaming returned→xv
open Except renaming ok→xL,error→z8
namespace Go.Proofs.YtkhfjgjjhlnnnaaGreatDoor
set_option maxHeartbeats 4000000
set_option maxRecDepth 100000
open Go.RowKit
theorem xh(x:ByteArray):∀(l:List ByteArray),Lib.idxOfS l x=bU (idxOf x l):=by
 have h:∀(l:List ByteArray) (m:Nat),Lib.idxFromS l x m=bU (f7 x l m):=by
  intro l
  induction l with
  | nil=>intro m;rfl
  | cons y l c =>
   intro m;unfold Lib.idxFromS f7
   by_cases h:y=x
   ·subst h;simp[bU]
   ·have f:(y.data.toList==x.data.toList)=false:=by
     rw[tS];intro e;apply h;obtain⟨⟨a⟩⟩:=y;obtain⟨⟨b⟩⟩:=x;have e:a=b:=e;rw[e]
    simp only[h,f,sn,FO];exact c (m+1)
 exact fun l=>h l 0
def bm(M:Nat) (vs:List vn) (b:Nat):Prop:=b=M∨∃v∈vs,v.ownBlock=Y b
structure MkW (F:Nat→Prop) (d M:Nat) (ts:List ae) (rs:List ap) (vars:List ByteArray) (nm:ByteArray) (sal nv:Int) (cs:List aX) (acs:List cd) (vT vR vV vC vA:vn) (W:vk):Prop where
 f:∀b,F b→b<W.heap.size∧¬bm M [vT,vR,vV,vC,vA] b
 m:W.heap[M]?=Y (ur #[vT,vR,vV,J nm,I Z sal,I Z nv,vC,vA] 79 (0,0))
 t:aI W F 52 bZ ts vT
 r:aI W F 50 (cf d) rs vR
 v:aI W F 9 Rd.str vars vV
 c:aI W F 64 (bg d) cs vC
 a:aI W F 70 (bD d) acs vA
theorem row_ne{α:Type}{W:vk}{F:Nat→Prop}{E E2:AR}{r:Rd α}{xs:List α}{v:vn}{M:Nat}{cs:Array vn}(hm:W.heap[M]?=Y (ur cs E2 (0,0)))(h:aI W F E r xs v)(b:E≠E2):v.ownBlock≠Y M:=fun e=>by
 obtain⟨c,a⟩:=h.f e;rw[hm]at a;injection a with a
 injection a with _ a
 exact b a.symm
theorem cZ{α:Type}{W W' c:vk}{M:Nat}{F:Nat→Prop}{E:AR}{r:Rd α}{xs:List α}{v v2:vn}(h:aI c F E r xs v)(e:v.ownBlock≠Y M)(f:Chg (fun x=>v2.ownBlock=Y x) c W)(i:∀g,v.ownBlock=Y g→v2.ownBlock≠Y g)
  (hF:∀b,F b→b<c.heap.size∧v2.ownBlock≠Y b∧b≠M) (hw:∀b,b≠M→W'.heap[b]?=W.heap[b]?):aI W' F E r xs v:=
 (h.other f i (fun b a=>⟨(hF b a).1,(hF b a).2.1⟩) (fun _ a=>a)).h e (fun b a=>(hF b a).2.2) (fun _ a=>a) hw
theorem j6{α:Type}{W W' c:vk}{M:Nat}{F:Nat→Prop}{E:AR}{r:Rd α}{xs:List α}{x:α}{v:vn}{us vs:List vn}{g cap n:Nat}(i:xs.length=n)(j:r.y c F xs us)(k:r.at_ c F x vs)(l:Chg (fun b=>v.ownBlock=Y b) c W)(e:W.ownsRow 0 E r.n (A (Y ⟨g,0,U⟩) (n+1) cap) (n+1) (us++vs))
  (hF:∀b,F b→b<c.heap.size∧v.ownBlock≠Y b∧b≠M) (f:g≠M) (hw:∀b,b≠M→W'.heap[b]?=W.heap[b]?):aI W' F E r (xs++[x]) (A (Y ⟨g,0,U⟩) (n+1) cap):=by
 have m:∀b,F b→∀o,c.heap[b]?=Y o→W'.heap[b]?=Y o:=fun b h o p=>(hw b (hF b h).2.2).trans ((l.q b (hF b h).1 (hF b h).2.1).trans p)
 refine⟨us++vs,?_,Rd.qv m (Rd.sn j k)⟩;rw[FC,i];exact dU e fun q a=>by
  injection a with a
  have a:g=q:=a;subst a;exact hw g f
section
variable {F F':Nat→Prop} {d M:Nat} {ts:List ae} {rs:List ap} {vars:List ByteArray} {nm:ByteArray} {sal nv:Int} {cs:List aX} {acs:List cd} {vT vR vV vC vA:vn} {W W':vk}
theorem MkW.lt(h:MkW F d M ts rs vars nm sal nv cs acs vT vR vV vC vA W):M<W.heap.size:=(Fi.1 h.m).1
theorem MkW.b(h:MkW F d M ts rs vars nm sal nv cs acs vT vR vV vC vA W){b:Nat}(e:bm M [vT,vR,vV,vC,vA] b):b<W.heap.size:=by
 rcases e with rfl|⟨v,f,e⟩
 ·exact h.lt
 ·simp only[FZ,FX,s3]at f;rcases f with rfl|rfl|rfl|rfl|rfl
  ·exact h.t.lt e
  ·exact h.r.lt e
  ·exact h.v.lt e
  ·exact h.c.lt e
  ·exact h.a.lt e
theorem MkW.upd(h:MkW F d M ts rs vars nm sal nv cs acs vT vR vV vC vA W)(k:W.heap.size≤W'.heap.size)(l:∀b,(F b∨bm M [vT,vR,vV,vC,vA] b)→W'.heap[b]?=W.heap[b]?):MkW F d M ts rs vars nm sal nv cs acs vT vR vV vC vA W':=by
 have e:∀b,F b→∀o,W.heap[b]?=Y o→W'.heap[b]?=Y o:=fun b j o n=>(l b (wP j)).trans n
 have i:∀v∈[vT,vR,vV,vC,vA],∀g,v.ownBlock=Y g→W'.heap[g]?=W.heap[g]?:=fun v p g q=>l g (xj (xj ⟨v,p,q⟩))
 exact⟨fun b j=>⟨Ft (h.f b j).1 k,(h.f b j).2⟩,(l M (xj (wP V))).trans h.m,h.t.z (i _ (by simp)) e (fun _ h=>h),h.r.z (i _ (by simp)) e (fun _ h=>h),h.v.z (i _ (by simp)) e (fun _ h=>h),h.c.z (i _ (by simp)) e (fun _ h=>h),h.a.z (i _ (by simp)) e (fun _ h=>h)⟩
theorem MkW.u(h:MkW F d M ts rs vars nm sal nv cs acs vT vR vV vC vA W)(e:Gc W W'):MkW F d M ts rs vars nm sal nv cs acs vT vR vV vC vA W':=
 h.upd e.size fun b a=>e.block b (by rcases a with c|c;exact (h.f b c).1;exact h.b c)
theorem MkW.grow(h:MkW F d M ts rs vars nm sal nv cs acs vT vR vV vC vA W)(e:∀b,F b→F' b)(f:∀b,F' b→b<W.heap.size∧¬bm M [vT,vR,vV,vC,vA] b):MkW F' d M ts rs vars nm sal nv cs acs vT vR vV vC vA W:=
 ⟨f,h.m,h.t.K e,h.r.K e,h.v.K e,h.c.K e,h.a.K e⟩
theorem MkW.h(h:MkW F d M ts rs vars nm sal nv cs acs vT vR vV vC vA W){g:Nat}{xs:Array vn}{E:AR}(f:W.heap[g]?=Y (ur xs E (0,0)))(j:[79,52,50,9,64,70].contains E=wj):¬bm M [vT,vR,vV,vC,vA] g:=by
 have b:∀x∈[79,52,50,9,64,70],x≠E:=fun x l e=>by
  subst e;rw[List.contains_iff_mem.2 l]at j
  cases j
 rintro (rfl|⟨v,k,i⟩)
 ·have:=h.m;rw[f]at this;injection this with this
  injection this with _ this
  exact b 79 (by simp) this.symm
 ·simp only[FZ,FX,s3]at k;rcases k with rfl|rfl|rfl|rfl|rfl
  ·exact row_ne f h.t (b _ (by simp)) i
  ·exact row_ne f h.r (b _ (by simp)) i
  ·exact row_ne f h.v (b _ (by simp)) i
  ·exact row_ne f h.c (b _ (by simp)) i
  ·exact row_ne f h.a (b _ (by simp)) i
theorem MkW.pushV{l:vk}{x:ByteArray}{us vs:List vn}{g cap n:Nat}(h:MkW F d M ts rs vars nm sal nv cs acs vT vR vV vC vA l)(C:vars.length=n)(D:Rd.str.y l F vars us)(E:Rd.str.at_ l F x vs)(i:vV.ownBlock=Y g∨l.heap.size≤g)
  (o:Chg (fun b=>vV.ownBlock=Y b) l W) (u:W.ownsRow 0 9 Rd.str.n (A (Y ⟨g,0,U⟩) (n+1) cap) (n+1) (us++vs)) :
  MkW F d M ts rs (vars++[x]) nm sal nv cs acs vT vR (A (Y ⟨g,0,U⟩) (n+1) cap) vC vA (W.setCell ⟨M,2,U⟩ (A (Y ⟨g,0,U⟩) (n+1) cap))∧Chg (bm M [vT,vR,vV,vC,vA]) l (W.setCell ⟨M,2,U⟩ (A (Y ⟨g,0,U⟩) (n+1) cap))∧W.heap[M]?=l.heap[M]?:=by
 have q:=row_ne h.m h.v (by decide);have hw:∀b,b≠M→(W.setCell ⟨M,2,U⟩ (A (Y ⟨g,0,U⟩) (n+1) cap)).heap[b]?=W.heap[b]?:=fun b j=>Fp W ⟨M,2,U⟩ _ b j
 have B:W.heap[M]?=l.heap[M]?:=o.q M h.lt q;have w:g≠M:=by
  rcases i with i|i
  ·exact fun e=>q (e ▸ i)
  ·have:=h.lt;omega
 have hF:∀b,F b→b<l.heap.size∧vV.ownBlock≠Y b∧b≠M:=fun b j=>⟨(h.f b j).1,fun e=>(h.f b j).2 (xj ⟨vV,by simp,e⟩),fun e=>(h.f b j).2 (wP e)⟩
 have y:(W.setCell ⟨M,2,U⟩ (A (Y ⟨g,0,U⟩) (n+1) cap)).heap.size=W.heap.size:=by simp[BT]
 have H:∀b,F b→b<(W.setCell ⟨M,2,U⟩ (A (Y ⟨g,0,U⟩) (n+1) cap)).heap.size∧¬bm M [vT,vR,(A (Y ⟨g,0,U⟩) (n+1) cap),vC,vA] b:=fun b j=>by
  refine⟨by rw[y];exact Ft (h.f b j).1 o.h,fun k=>?_⟩;rcases k with k|⟨v,s,k⟩
  ·exact (hF b j).2.2 k
  ·by_cases z:v=(A (Y ⟨g,0,U⟩) (n+1) cap)
   ·subst z;injection k with k
    have k:g=b:=k;subst k;rcases i with i|i
    ·exact (hF g j).2.1 i
    ·have:=(hF g j).1;omega
   ·refine (h.f b j).2 (xj ⟨v,?_,k⟩);simp only[FZ,FX,s3]at s ⊢;rcases s with s|s|s|s|s<;>simp_all
 refine⟨⟨H,?_,cZ h.t (row_ne h.m h.t (by decide)) o (fun g i=>h.t.q h.v (by decide) i) hF hw,cZ h.r (row_ne h.m h.r (by decide)) o (fun g i=>h.r.q h.v (by decide) i) hF hw,j6 C D E o u hF w hw,cZ h.c (row_ne h.m h.c (by decide)) o (fun g i=>h.c.q h.v (by decide) i) hF hw,cZ h.a (row_ne h.m h.a (by decide)) o (fun g i=>h.a.q h.v (by decide) i) hF hw⟩,?_,B⟩
 ·exact heap_set (B.trans h.m) 2 _
 ·exact (Chg.K (G:=bm M [vT,vR,vV,vC,vA]) o (fun b j=>xj ⟨vV,by simp,j⟩)).t (p:=⟨M,2,U⟩) (wP (wP V)) _
theorem MkW.pushC{l:vk}{x:aX}{us vs:List vn}{g cap n:Nat}(h:MkW F d M ts rs vars nm sal nv cs acs vT vR vV vC vA l)(C:cs.length=n)(D:(bg d).y l F cs us)(E:(bg d).at_ l F x vs)(i:vC.ownBlock=Y g∨l.heap.size≤g)
  (o:Chg (fun b=>vC.ownBlock=Y b) l W) (u:W.ownsRow 0 64 (bg d).n (A (Y ⟨g,0,U⟩) (n+1) cap) (n+1) (us++vs)) :
  MkW F d M ts rs vars nm sal nv (cs++[x]) acs vT vR vV (A (Y ⟨g,0,U⟩) (n+1) cap) vA (W.setCell ⟨M,6,U⟩ (A (Y ⟨g,0,U⟩) (n+1) cap))∧Chg (bm M [vT,vR,vV,vC,vA]) l (W.setCell ⟨M,6,U⟩ (A (Y ⟨g,0,U⟩) (n+1) cap))∧W.heap[M]?=l.heap[M]?:=by
 have q:=row_ne h.m h.c (by decide);have hw:∀b,b≠M→(W.setCell ⟨M,6,U⟩ (A (Y ⟨g,0,U⟩) (n+1) cap)).heap[b]?=W.heap[b]?:=fun b j=>Fp W ⟨M,6,U⟩ _ b j
 have B:W.heap[M]?=l.heap[M]?:=o.q M h.lt q;have w:g≠M:=by
  rcases i with i|i
  ·exact fun e=>q (e ▸ i)
  ·have:=h.lt;omega
 have hF:∀b,F b→b<l.heap.size∧vC.ownBlock≠Y b∧b≠M:=fun b j=>⟨(h.f b j).1,fun e=>(h.f b j).2 (xj ⟨vC,by simp,e⟩),fun e=>(h.f b j).2 (wP e)⟩
 have y:(W.setCell ⟨M,6,U⟩ (A (Y ⟨g,0,U⟩) (n+1) cap)).heap.size=W.heap.size:=by simp[BT]
 have H:∀b,F b→b<(W.setCell ⟨M,6,U⟩ (A (Y ⟨g,0,U⟩) (n+1) cap)).heap.size∧¬bm M [vT,vR,vV,(A (Y ⟨g,0,U⟩) (n+1) cap),vA] b:=fun b j=>by
  refine⟨by rw[y];exact Ft (h.f b j).1 o.h,fun k=>?_⟩;rcases k with k|⟨v,s,k⟩
  ·exact (hF b j).2.2 k
  ·by_cases z:v=(A (Y ⟨g,0,U⟩) (n+1) cap)
   ·subst z;injection k with k
    have k:g=b:=k;subst k;rcases i with i|i
    ·exact (hF g j).2.1 i
    ·have:=(hF g j).1;omega
   ·refine (h.f b j).2 (xj ⟨v,?_,k⟩);simp only[FZ,FX,s3]at s ⊢;rcases s with s|s|s|s|s<;>simp_all
 refine⟨⟨H,?_,cZ h.t (row_ne h.m h.t (by decide)) o (fun g i=>h.t.q h.c (by decide) i) hF hw,cZ h.r (row_ne h.m h.r (by decide)) o (fun g i=>h.r.q h.c (by decide) i) hF hw,cZ h.v (row_ne h.m h.v (by decide)) o (fun g i=>h.v.q h.c (by decide) i) hF hw,j6 C D E o u hF w hw,cZ h.a (row_ne h.m h.a (by decide)) o (fun g i=>h.a.q h.c (by decide) i) hF hw⟩,?_,B⟩
 ·exact heap_set (B.trans h.m) 6 _
 ·exact (Chg.K (G:=bm M [vT,vR,vV,vC,vA]) o (fun b j=>xj ⟨vC,by simp,j⟩)).t (p:=⟨M,6,U⟩) (wP (wP V)) _
theorem MkW.pushA{l:vk}{x:cd}{us vs:List vn}{g cap n:Nat}(h:MkW F d M ts rs vars nm sal nv cs acs vT vR vV vC vA l)(C:acs.length=n)(D:(bD d).y l F acs us)(E:(bD d).at_ l F x vs)(i:vA.ownBlock=Y g∨l.heap.size≤g)
  (o:Chg (fun b=>vA.ownBlock=Y b) l W) (u:W.ownsRow 0 70 (bD d).n (A (Y ⟨g,0,U⟩) (n+1) cap) (n+1) (us++vs)) :
  MkW F d M ts rs vars nm sal nv cs (acs++[x]) vT vR vV vC (A (Y ⟨g,0,U⟩) (n+1) cap) (W.setCell ⟨M,7,U⟩ (A (Y ⟨g,0,U⟩) (n+1) cap))∧Chg (bm M [vT,vR,vV,vC,vA]) l (W.setCell ⟨M,7,U⟩ (A (Y ⟨g,0,U⟩) (n+1) cap))∧W.heap[M]?=l.heap[M]?:=by
 have q:=row_ne h.m h.a (by decide);have hw:∀b,b≠M→(W.setCell ⟨M,7,U⟩ (A (Y ⟨g,0,U⟩) (n+1) cap)).heap[b]?=W.heap[b]?:=fun b j=>Fp W ⟨M,7,U⟩ _ b j
 have B:W.heap[M]?=l.heap[M]?:=o.q M h.lt q;have w:g≠M:=by
  rcases i with i|i
  ·exact fun e=>q (e ▸ i)
  ·have:=h.lt;omega
 have hF:∀b,F b→b<l.heap.size∧vA.ownBlock≠Y b∧b≠M:=fun b j=>⟨(h.f b j).1,fun e=>(h.f b j).2 (xj ⟨vA,by simp,e⟩),fun e=>(h.f b j).2 (wP e)⟩
 have y:(W.setCell ⟨M,7,U⟩ (A (Y ⟨g,0,U⟩) (n+1) cap)).heap.size=W.heap.size:=by simp[BT]
 have H:∀b,F b→b<(W.setCell ⟨M,7,U⟩ (A (Y ⟨g,0,U⟩) (n+1) cap)).heap.size∧¬bm M [vT,vR,vV,vC,(A (Y ⟨g,0,U⟩) (n+1) cap)] b:=fun b j=>by
  refine⟨by rw[y];exact Ft (h.f b j).1 o.h,fun k=>?_⟩;rcases k with k|⟨v,s,k⟩
  ·exact (hF b j).2.2 k
  ·by_cases z:v=(A (Y ⟨g,0,U⟩) (n+1) cap)
   ·subst z;injection k with k
    have k:g=b:=k;subst k;rcases i with i|i
    ·exact (hF g j).2.1 i
    ·have:=(hF g j).1;omega
   ·refine (h.f b j).2 (xj ⟨v,?_,k⟩);simp only[FZ,FX,s3]at s ⊢;rcases s with s|s|s|s|s<;>simp_all
 refine⟨⟨H,?_,cZ h.t (row_ne h.m h.t (by decide)) o (fun g i=>h.t.q h.a (by decide) i) hF hw,cZ h.r (row_ne h.m h.r (by decide)) o (fun g i=>h.r.q h.a (by decide) i) hF hw,cZ h.v (row_ne h.m h.v (by decide)) o (fun g i=>h.v.q h.a (by decide) i) hF hw,cZ h.c (row_ne h.m h.c (by decide)) o (fun g i=>h.c.q h.a (by decide) i) hF hw,j6 C D E o u hF w hw⟩,?_,B⟩
 ·exact heap_set (B.trans h.m) 7 _
 ·exact (Chg.K (G:=bm M [vT,vR,vV,vC,vA]) o (fun b j=>xj ⟨vA,by simp,j⟩)).t (p:=⟨M,7,U⟩) (wP (wP V)) _
end
theorem sO(vars:List ByteArray)(x:ByteArray)(v:vn)(F:Nat→Prop)(w:vk)(f:Rd.str.C w F vars v):Calls wq 140 #[v,J x] w (fun e w'=>e=xv (I Z (bU (idxOf x vars)))∧Gc w w'):=by
 have a:=Rd.T f;rcases f with ⟨rfl,p,c,rfl⟩|⟨b,off,cap,l,m,_,o,q,rfl,h⟩
 ·refine (Tryz.slices_Index_string_empty p c x w).mono ?_;rintro e w' ⟨rfl,rfl⟩;exact⟨by rw[xh],Fl _ _⟩
 ·refine (Tryz.slices_Index_string b off vars.length cap vars x w (Fj _) (by unfold maxLen at a;omega) (fun j g=>?_)).mono ?_
  ·obtain⟨vs,⟨rfl,_⟩,i⟩:=h j vars[j] (Fq g);have:=i 0 _ V;have k:off+j*Rd.str.n+0=off+j:=by show off+j*1+0=off+j;omega
   rw[k]at this;rw[this,List.getD_eq_getElem?_getD,Fq g];rfl
  ·rintro e w' ⟨rfl,rfl⟩;exact⟨by rw[FH (Fj _),xh],Fl _ _⟩
theorem xu:Elem 9 77 1 16:=Elem.of (z:=J ByteArray.empty) Tryz.underlying77 (by kernel_rfl) V (by decide) (by decide)
def bF(binds:Bool) (vars:List ByteArray) (T:ab):Except Flt (List ByteArray×dy):=
 if T.b==12 then xL (vars,⟨1,0,.zero⟩)
 else if T.b==13 then match idxOf T.f vars with
  | some k=>xL (vars,⟨3,k,.zero⟩)
  | none=>if !binds then z8 (213,T.t) else if 16≤vars.length then z8 (204,T.t) else xL (vars++[T.f],⟨2,vars.length,.zero⟩)
 else xL (vars,⟨4,0,aF T⟩)
theorem pm(binds:Bool)(s:List ByteArray×List dy)(T:ab):bY binds s T=match bF binds s.1 T with | .ok r=>xL (r.1,s.2++[r.2]) | .error e=>z8 e:=by
 unfold bY bF
 split
 ·rfl
 ·split
  ·cases idxOf T.f s.1 with
   | some k=>rfl
   | none =>
    dsimp only
    split
    ·rfl
    ·split<;>rfl
  ·rfl
def cJ(L:Nat) (l:List (Bool×Int)) (W:vk) (v:vn):Prop:=∃g,v=A (Y ⟨g,0,U⟩) l.length l.length∧L≤g∧W.heap[g]?=Y (ur (fC l).toArray 104 (0,0))
theorem cJ.u{L:Nat}{l:List (Bool×Int)}{W W':vk}{v:vn}(h:cJ L l W v)(b:Gc W W'):cJ L l W' v:=by
 obtain⟨g,c,e,a⟩:=h;exact⟨g,c,e,aa b a (Fi.1 a).1⟩
theorem mV{o:Oper}{a:Act}{W:vk}{G:vn→vk→Prop}{L n:Nat}{l:List (Bool×Int)}{parts:Array (Nat×Operand)}(j:o.op=.buildSlice 173 n parts)(k:l.length=n)(h:0<n∧n≤10)
  (m:∀z:vn,z.cells.size=2→Instr.fill (fun i=>Y (i*2,2)) ((Array.range (n*2)).map (z.cells[· % z.cells.size]!)) (parts.map fun (x:Nat×Operand)=>(x.1,a.eval x.2)).toList=Y (fC l).toArray) (p:L≤W.heap.size)
  (q:∀v W',Gc W W'→cJ L l W' v→G v W'):RE.Upon wq o a W G:=by
 obtain⟨i0,z,e,f,b,r,g⟩:=lx.info;have c:(execOp a.eval o).run wq W=.ok (.value (A (Y ⟨W.heap.size,0,U⟩) n n)) (W.alloc (ur (fC l).toArray 104)):=by
  unfold execOp;simp only[j,tv];rw[run_buildSlice W 173 104 n _ (fC l).toArray i0 z lx.und e f (by rw[b];omega) (by rw[b];omega) (by rw[b];exact m z g)];rfl
 exact RE.upon_run c (q _ _ ((Fl _ W).alloc (Fj _) _) ⟨_,by rw[k],p,qv W _⟩)
theorem size2{z:vn}(h:z.cells.size=2):∃x y,z.cells=#[x,y]:=by
 obtain⟨x,y,a⟩:∃x y,z.cells.toList=[x,y]:=by
  have b:z.cells.toList.length=2:=by rw[FQ];exact h
  match c:z.cells.toList,b with
  | [x,y],_=>exact⟨x,y,V⟩
 exact⟨x,y,by rw[←Array.toArray_toList (xs:=z.cells),a]⟩
theorem yN(a b:Bool)(c e:Int)(z:vn)(h:z.cells.size=2):Instr.fill (fun i=>Y (i*2,2)) ((Array.range (2*2)).map (z.cells[· % z.cells.size]!)) [(0,wD #[xS a,I Z c]),(1,wD #[xS b,I Z e])]=Y (fC [(a,c),(b,e)]).toArray:=by
 obtain⟨x,y,f⟩:=size2 h;rw[f]
 kernel_rfl
theorem yJ(a b c:Bool)(e f g:Int)(z:vn)(h:z.cells.size=2):Instr.fill (fun i=>Y (i*2,2)) ((Array.range (3*2)).map (z.cells[· % z.cells.size]!)) [(0,wD #[xS a,I Z e]),(1,wD #[xS b,I Z f]),(2,wD #[xS c,I Z g])]=Y (fC [(a,e),(b,f),(c,g)]).toArray:=by
 obtain⟨x,y,j⟩:=size2 h;rw[j]
 kernel_rfl
theorem iK{o:Oper}{a:Act}{W:vk}{G:vn→vk→Prop}{L:Nat}(b c:Bool)(f g:Int)(x y:Operand)(h:o.op=.buildSlice 173 2 #[(0,x),(1,y)])(i:a.eval x=wD #[xS b,I Z f])(j:a.eval y=wD #[xS c,I Z g])(k:L≤W.heap.size)
  (m:∀v W',Gc W W'→cJ L [(b,f),(c,g)] W' v→G v W'):RE.Upon wq o a W G:=by
 refine mV (l:=[(b,f),(c,g)]) h V (by decide) (fun z n=>?_) k m;have e:((#[(0,x),(1,y)]:Array (Nat×Operand)).map fun (q:Nat×Operand)=>(q.1,a.eval q.2)).toList=[(0,a.eval x),(1,a.eval y)]:=by simp
 rw[e,i,j];exact yN b c f g z n
theorem iH{o:Oper}{a:Act}{W:vk}{G:vn→vk→Prop}{L:Nat}(b c f:Bool)(g h i:Int)(x y u:Operand)(j:o.op=.buildSlice 173 3 #[(0,x),(1,y),(2,u)])(k:a.eval x=wD #[xS b,I Z g])(m:a.eval y=wD #[xS c,I Z h])(hu:a.eval u=wD #[xS f,I Z i])(n:L≤W.heap.size)
  (p:∀v W',Gc W W'→cJ L [(b,g),(c,h),(f,i)] W' v→G v W'):RE.Upon wq o a W G:=by
 refine mV (l:=[(b,g),(c,h),(f,i)]) j V (by decide) (fun z r=>?_) n p;have e:((#[(0,x),(1,y),(2,u)]:Array (Nat×Operand)).map fun (q:Nat×Operand)=>(q.1,a.eval q.2)).toList=[(0,a.eval x),(1,a.eval y),(2,a.eval u)]:=by simp
 rw[e,k,m,hu];exact yJ b c f g h i z r
def st5(W:vk) (g:Nat) (a b c d e:vn):World:=((((W.setCell ⟨g,0,U⟩ a).setCell ⟨g,1,U⟩ b).setCell ⟨g,2,U⟩ c).setCell ⟨g,3,U⟩ d).setCell ⟨g,4,U⟩ e
theorem fU{W:vk}{g:Nat}{f i x2 x3 x4:vn}{t:AR}(h:W.heap[g]?=Y (ur #[f,i,x2,x3,x4] t (0,0)))(a b c d e:vn):(st5 W g a b c d e).heap[g]?=Y (ur #[a,b,c,d,e] t (0,0)):=
 heap_set (heap_set (heap_set (heap_set (heap_set h 0 a) 1 b) 2 c) 3 d) 4 e
theorem sQ{B:Nat}{w W:vk}{g:Nat}(h:Below B w W)(f:B≤g)(a b c d e:vn):Below B w (st5 W g a b c d e):=
 ((((h.setCell f a).setCell f b).setCell f c).setCell f d).setCell f e
theorem ei{W:vk}{g:Nat}(a b c d e:vn)(k:Nat)(h:k≠g):(st5 W g a b c d e).heap[k]?=W.heap[k]?:=by
 have f:∀(j:vk) (i:Nat) (u:vn),(j.setCell ⟨g,i,U⟩ u).heap[k]?=j.heap[k]?:=fun j i u=>Fp j ⟨g,i,U⟩ u k h
 unfold st5;rw[f,f,f,f,f]
theorem gI{W:vk}{g:Nat}(a b c d e:vn):(st5 W g a b c d e).heap.size=W.heap.size:=by simp[st5,BT]
theorem oD(W:vk)(g:Ending→vk→Prop)(T:Nat)(a b c d e:vn)(h:W.heap[T]?=Y (ur #[a,b,c,d,e] 67 (0,0)))
  (tmps:Array vn) (i:tmps.getD 6 xD=wF (Y ⟨T,0,U⟩)) (j:g (xv (wD #[a,b,c,d,e])) W):bodyPost wq Tryz.f75 g .ret ⟨tmps,[]⟩ W:=by
 obtain⟨k,l,c2,m,c4⟩:=cells5 h;have f:tmps[6]?.getD xD=wF (Y ⟨T,0,U⟩):=by simpa using i
 refine bodyPost_ret (v:=wD #[a,b,c,d,e]) ?_ V j;simp[results,Tryz.results75,go_sem,f,k,l,c2,m,c4]
theorem cp{F G:Nat→Prop}{a b c:vk}(h:Chg F a b)(k:Chg G b c)(g:∀x,G x→F x∨a.heap.size≤x):Chg F a c:=
 ⟨k.os.trans h.os,k.a.trans h.a,k.c.trans h.c,Fu h.h k.h,fun i e f=>(k.q i (Ft e h.h) (fun j=>by rcases g i j with h|h;exact f h;omega)).trans (h.q i e f)⟩
def Grew(v a:vn) (n:Nat):Prop:=∀b,a.ownBlock=Y b→v.ownBlock=Y b∨n≤b
def lQ(F:Nat→Prop) (d M:Nat) (ts:List ae) (rs:List ap) (_vars:List ByteArray) (nm:ByteArray) (sal nv:Int) (cs:List aX) (acs:List cd) (vT vR vV vC vA:vn) (r:Except Flt (List ByteArray×dy)) (w:vk) (e:Ending) (w':vk):Prop:=
 Chg (bm M [vT,vR,vV,vC,vA]) w w'∧match r with
 | .ok x=>e=xv (wD (ie x.2).toArray)∧∃a,MkW F d M ts rs x.1 nm sal nv cs acs vT vR a vC vA w'∧Grew vV a w.heap.size
 | .error er=>e=aV er.1 er.2
theorem DF(F:Nat→Prop)(d M:Nat)(ts:List ae)(rs:List ap)(vars:List ByteArray)(nm:ByteArray)(sal nv:Int)(cs:List aX)(acs:List cd)(vT vR vV vC vA:vn)(T:ab)(p:Option Addr)(n c:Nat)(binds:Bool)(w:vk)
  (hw:MkW F d M ts rs vars nm sal nv cs acs vT vR vV vC vA w) (hk:T.b=12∨T.b=13∨T.b=14∨T.b=15) (hs:T.f.size≤72007) (ck:vars.length≤16) :
  Calls wq 75 #[wF (Y ⟨M,0,U⟩),wD #[I O T.b,J T.f,I Z T.h,I Z T.t,A p n c],xS binds] w (lQ F d M ts rs vars nm sal nv cs acs vT vR vV vC vA (bF binds vars T) w):=by
 have ar:Gc w ((w.alloc (ur #[I O T.b,J T.f,I Z T.h,I Z T.t,A p n c] 25)).alloc (ur #[I O 0,I Z 0,I O 0,I Z 0,J ⟨#[]⟩] 67)):=((Fl _ w).alloc (Fj _) _).alloc (by simp) _;have bc:T.b=12∨¬T.b=12:=by omega
 rcases bc with ad|ad
 ·have HO:Hid (bF binds vars T=xL (vars,⟨1,0,.zero⟩)):=by show _=_;unfold bF;rw[ad];rfl
  have t:Gc w ((w.alloc (ur #[I O 12,J T.f,I Z T.h,I Z T.t,A p n c] 25)).alloc (ur #[I O 1,I Z 0,I O 0,I Z 0,J ⟨#[]⟩] 67)):=((Fl _ w).alloc (Fj _) _).alloc (by simp) _;obtain⟨_,af,_⟩:=aw w (ur #[I O 12,J T.f,I Z T.h,I Z T.t,A p n c] 25) (ur #[I O 1,I Z 0,I O 0,I Z 0,J ⟨#[]⟩] 67);have HX:=Hd af;have HP:Hid (lQ F d M ts rs vars nm sal nv cs acs vT vR vV vC vA (bF binds vars T) w (xv (wD #[I O 1,I Z 0,I O 0,I Z 0,J ⟨#[]⟩])) ((w.alloc (ur #[I O 12,J T.f,I Z T.h,I Z T.t,A p n c] 25)).alloc (ur #[I O 1,I Z 0,I O 0,I Z 0,J ⟨#[]⟩] 67))):=by
   refine⟨Chg.f t,?_⟩;rw[HO.o];exact⟨V,vV,hw.u t,fun b j=>wP j⟩
  rw[ad];clear hw ar t af hk ad HO
  go_enter Tryz.func75,Tryz.ntmps75
  go_wp2_with fail
  exact oD _ _ (w.heap.size+1) _ _ _ _ _ HX.o _ V HP.o
 obtain⟨w1,ak⟩:=zzx ((w.alloc (ur #[I O T.b,J T.f,I Z T.h,I Z T.t,A p n c] 25)).alloc (ur #[I O 0,I Z 0,I O 0,I Z 0,J ⟨#[]⟩] 67));obtain⟨av,af,_⟩:=aw w (ur #[I O T.b,J T.f,I Z T.h,I Z T.t,A p n c] 25) (ur #[I O 0,I Z 0,I O 0,I Z 0,J ⟨#[]⟩] 67);rw[←ak]at ar av af;obtain⟨s,L,al,HW,bd⟩:=zz5 ar av af hw (hw.u ar);clear hw ar av af
 by_cases bt:T.b=13
 ·obtain⟨D,G,rfl⟩:=bd.o.v.b;obtain⟨a,bB⟩:=zzy (vars.length);have hm:=bd.o.m;obtain⟨cR,HI,HN⟩:=zz3 hm (fun (x:Wb w1)=>sO vars T.f (A D vars.length G) (fun _=>True) x.1 ((bd.o.u x.2).v.C (fun _ _=>trivial) (fun _ _=>trivial))) bB;have HO:Hid (bF binds vars T=match idxOf T.f vars with|some k=>xL (vars,⟨3,k,.zero⟩)|none=>if !binds then z8 (213,T.t) else if 16≤vars.length then z8 (204,T.t) else xL (vars++[T.f],⟨2,vars.length,.zero⟩)):=by show _=_;unfold bF;rw[bt];rfl
  rw[bB]at HI hm ck;obtain⟨e0,e1,e2,e3,e4⟩:=cells5 L.o;have z:w1.cell? ⟨M,2,U⟩=Y (A D a G):=by rw[Gb _ _ _ _ _ _ hm];rfl
  rw[bt]at ak e0 L ⊢;clear ad hk hm bB
  go_enter Tryz.func75,Tryz.ntmps75
  go_upto_region 5 with fail
  change Code.wp _ _ _ _ ((w.alloc (ur #[I O 13,J T.f,I Z T.h,I Z T.t,A p n c] 25)).alloc (ur #[I O 0,I Z 0,I O 0,I Z 0,J ⟨#[]⟩] 67));rw[show (w.alloc (ur #[I O 13,J T.f,I Z T.h,I Z T.t,A p n c] 25)).alloc (ur #[I O 0,I Z 0,I O 0,I Z 0,J ⟨#[]⟩] 67)=w1 from ak.symm];clear ak;have X1:=fun x:Wb w1=>x.b e1
  have M2:=fun x:Wb w1=>x.b z
  refine au (by kernel_rfl) (by kernel_rfl) ?_
  repeat (go_big_quiet_step ((go_at_call 140;exact Calls.b (HI.o _))))
  refine z7 ?_;intro W2 b7;have t:=a8 b7;obtain⟨l,cl⟩:=zz2 t (bd.o.u t);clear b7 t X1 M2 HI e0 e1 e2 e3 e4 z
  cases bk:idxOf T.f vars with
  | some k =>
   rw[bk]at HO;clear bk;rw[show bU (Y k)=(k:Int) from rfl];have cT:(0:Int)≤k:=by omega
   have q:=aa l.o al.o (Fi.1 al.o).1;obtain⟨e0,e1,e2,e3,e4⟩:=cells5 q;have g0:=ac q 0;have g1:=ac q 1;have g2:=ac q 2;have g3:=ac q 3;have g4:=ac q 4;have HP:Hid (lQ F d M ts rs vars nm sal nv cs acs vT vR (A D vars.length G) vC vA (bF binds vars T) w (xv (wD #[I O 3,I Z (k:Int),I O 0,I Z 0,J ⟨#[]⟩])) (st5 W2 (w.heap.size+1) (I O 3) (I Z (k:Int)) (I O 0) (I Z 0) (J ⟨#[]⟩))):=by
    have a1:=sQ (s.o.trans (l.o.mono s.o.size)) (FN w.heap.size) (I O 3) (I Z (k:Int)) (I O 0) (I Z 0) (J ⟨#[]⟩);refine⟨Chg.f a1,?_⟩;rw[HO.o];exact⟨V,_,HW.o.u a1,fun b j=>wP j⟩
   have a6:=Hd (fU q (I O 3) (I Z (k:Int)) (I O 0) (I Z 0) (J ⟨#[]⟩));clear q;go_wp2_with fail
   exact oD _ _ (w.heap.size+1) _ _ _ _ _ a6.o _ V HP.o
  | none =>
   rw[bk]at HO;clear bk;rw[show bU U=(-1:Int) from rfl];have av:=aa l.o L.o (Fi.1 L.o).1;obtain⟨e0,e1,e2,e3,e4⟩:=cells5 av;have z:W2.cell? ⟨M,2,U⟩=Y (A D a G):=by rw[Gb _ _ _ _ _ _ cl.o.m,←HN.o];rfl
   have E0:=fun x:Wb W2=>x.b e0
   have E1:=fun x:Wb W2=>x.b e1
   have E2:=fun x:Wb W2=>x.b e2
   have E3:=fun x:Wb W2=>x.b e3
   have E4:=fun x:Wb W2=>x.b e4
   have M2:=fun x:Wb W2=>x.b z
   go_wp2_with fail
   cases binds with
   | false =>
    by_cases bR:16≤a
    ·have b0:(16:Int)≤a:=by omega
     refine RE.q (by kernel_rfl) 12 [11] [] (fun _ W=>∃x:Wb W2,W=x.1) (fun W W'=>Gc W W') (fun i ys=>ys.getD 0 xD) (fun i W ys=>if i=11 then cJ W2.heap.size [(wg,213),(wg,204)] W (ys.getD 0 xD) else True) (by kernel_rfl) (fun _ _ _ _ _ _ h j=>bE h j) (fun i W W' ys h _ j=>by split at h;(rw[r6 (by assumption)];exact h.u j);rw[r5 (by assumption)];trivial) ⟨⟨W2.drew,(Fl _ _).drew⟩,V⟩ ?_;simp only[Fy,FK,Fz,FI]
     repeat (refine RE.b (fun W=>∃x:Wb W2,W=x.1) (fun _ _ _ h=>h) V V V ⟨⟨W2.drew,(Fl _ _).drew⟩,V⟩ ?_;go_big_quiet_step (fail);refine z7 ?_)
     refine RE.f V V ?_ (fun ys=>?_)
     ·intro W hC _ B;obtain⟨s9,_,x,rfl⟩:=hC;exact iK wg wg 213 204 _ _ V V V x.2.size (fun v W' j ho=>⟨[v],V,j,j,ho⟩)
     simp only[Act.put,Fo,Fw,Fv];refine RE.h ?_;intro W N B;obtain⟨x,rfl⟩:=N;obtain⟨g,R,lg,S⟩:cJ W2.heap.size [(wg,213),(wg,204)] x.1 (ys.getD 0 xD):=B 11 ys V;rw[R];obtain⟨P,u,Q⟩:=zz3 (cg [(wg,213),(wg,204)] 13 T.f T.h T.t (A p n c) g 2 2 x.1 V (by omega) S) (s.o.trans ((l.o.trans (x.2.mono l.o.size)).mono s.o.size)) x.2;clear B R lg S E0 E1 E2 E3 E4 M2;go_wp2_with fail
     refine P.o.mono ?_;rintro e H ⟨C,he⟩;have he:e=aV 213 T.t:=he;subst he;refine⟨V,Chg.f (u.o.trans (C.mono u.o.size)),?_⟩;rw[HO.o];rfl
    ·have b0:¬((16:Int)≤a):=by omega
     refine RE.q (by kernel_rfl) 12 [11] [] (fun _ W=>∃x:Wb W2,W=x.1) (fun W W'=>Gc W W') (fun i ys=>ys.getD 0 xD) (fun i W ys=>if i=11 then cJ W2.heap.size [(wg,213),(wj,204)] W (ys.getD 0 xD) else True) (by kernel_rfl) (fun _ _ _ _ _ _ h j=>bE h j) (fun i W W' ys h _ j=>by split at h;(rw[r6 (by assumption)];exact h.u j);rw[r5 (by assumption)];trivial) ⟨⟨W2.drew,(Fl _ _).drew⟩,V⟩ ?_;simp only[Fy,FK,Fz,FI]
     repeat (refine RE.b (fun W=>∃x:Wb W2,W=x.1) (fun _ _ _ h=>h) V V V ⟨⟨W2.drew,(Fl _ _).drew⟩,V⟩ ?_;go_big_quiet_step (fail);refine z7 ?_)
     refine RE.f V V ?_ (fun ys=>?_)
     ·intro W hC _ B;obtain⟨s9,_,x,rfl⟩:=hC;exact iK wg wj 213 204 _ _ V V V x.2.size (fun v W' j ho=>⟨[v],V,j,j,ho⟩)
     simp only[Act.put,Fo,Fw,Fv];refine RE.h ?_;intro W N B;obtain⟨x,rfl⟩:=N;obtain⟨g,R,lg,S⟩:cJ W2.heap.size [(wg,213),(wj,204)] x.1 (ys.getD 0 xD):=B 11 ys V;rw[R];obtain⟨P,u,Q⟩:=zz3 (cg [(wg,213),(wj,204)] 13 T.f T.h T.t (A p n c) g 2 2 x.1 V (by omega) S) (s.o.trans ((l.o.trans (x.2.mono l.o.size)).mono s.o.size)) x.2;clear B R lg S E0 E1 E2 E3 E4 M2;go_wp2_with fail
     refine P.o.mono ?_;rintro e H ⟨C,he⟩;have he:e=aV 213 T.t:=he;subst he;refine⟨V,Chg.f (u.o.trans (C.mono u.o.size)),?_⟩;rw[HO.o];rfl
   | true =>
    by_cases bR:16≤a
    ·have b0:(16:Int)≤a:=by omega
     have ba:16≤vars.length:=by rw[HN.o];exact bR
     refine RE.q (by kernel_rfl) 12 [11] [] (fun _ W=>∃x:Wb W2,W=x.1) (fun W W'=>Gc W W') (fun i ys=>ys.getD 0 xD) (fun i W ys=>if i=11 then cJ W2.heap.size [(wj,213),(wg,204)] W (ys.getD 0 xD) else True) (by kernel_rfl) (fun _ _ _ _ _ _ h j=>bE h j) (fun i W W' ys h _ j=>by split at h;(rw[r6 (by assumption)];exact h.u j);rw[r5 (by assumption)];trivial) ⟨⟨W2.drew,(Fl _ _).drew⟩,V⟩ ?_;simp only[Fy,FK,Fz,FI]
     repeat (refine RE.b (fun W=>∃x:Wb W2,W=x.1) (fun _ _ _ h=>h) V V V ⟨⟨W2.drew,(Fl _ _).drew⟩,V⟩ ?_;go_big_quiet_step (fail);refine z7 ?_)
     refine RE.f V V ?_ (fun ys=>?_)
     ·intro W hC _ B;obtain⟨s9,_,x,rfl⟩:=hC;exact iK wj wg 213 204 _ _ V V V x.2.size (fun v W' j ho=>⟨[v],V,j,j,ho⟩)
     simp only[Act.put,Fo,Fw,Fv];refine RE.h ?_;intro W N B;obtain⟨x,rfl⟩:=N;obtain⟨g,R,lg,S⟩:cJ W2.heap.size [(wj,213),(wg,204)] x.1 (ys.getD 0 xD):=B 11 ys V;rw[R];obtain⟨P,u,Q⟩:=zz3 (cg [(wj,213),(wg,204)] 13 T.f T.h T.t (A p n c) g 2 2 x.1 V (by omega) S) (s.o.trans ((l.o.trans (x.2.mono l.o.size)).mono s.o.size)) x.2;clear B R lg S E0 E1 E2 E3 E4 M2;go_wp2_with fail
     refine P.o.mono ?_;rintro e H ⟨C,he⟩;have he:e=aV 204 T.t:=he;subst he;refine⟨V,Chg.f (u.o.trans (C.mono u.o.size)),?_⟩;rw[HO.o];rw[r5 (by simp),r6 ba];rfl
    ·have b0:¬((16:Int)≤a):=by omega
     have ba:¬16≤vars.length:=by rw[HN.o];exact bR
     refine RE.q (by kernel_rfl) 12 [11] [] (fun _ W=>∃x:Wb W2,W=x.1) (fun W W'=>Gc W W') (fun i ys=>ys.getD 0 xD) (fun i W ys=>if i=11 then cJ W2.heap.size [(wj,213),(wj,204)] W (ys.getD 0 xD) else True) (by kernel_rfl) (fun _ _ _ _ _ _ h j=>bE h j) (fun i W W' ys h _ j=>by split at h;(rw[r6 (by assumption)];exact h.u j);rw[r5 (by assumption)];trivial) ⟨⟨W2.drew,(Fl _ _).drew⟩,V⟩ ?_;simp only[Fy,FK,Fz,FI]
     repeat (refine RE.b (fun W=>∃x:Wb W2,W=x.1) (fun _ _ _ h=>h) V V V ⟨⟨W2.drew,(Fl _ _).drew⟩,V⟩ ?_;go_big_quiet_step (fail);refine z7 ?_)
     refine RE.f V V ?_ (fun ys=>?_)
     ·intro W hC _ B;obtain⟨s9,_,x,rfl⟩:=hC;exact iK wj wj 213 204 _ _ V V V x.2.size (fun v W' j ho=>⟨[v],V,j,j,ho⟩)
     simp only[Act.put,Fo,Fw,Fv];refine RE.h ?_;intro W N B;obtain⟨x,rfl⟩:=N;obtain⟨g,R,lg,S⟩:cJ W2.heap.size [(wj,213),(wj,204)] x.1 (ys.getD 0 xD):=B 11 ys V;rw[R];obtain⟨P,u,Q⟩:=zz3 (cg [(wj,213),(wj,204)] 13 T.f T.h T.t (A p n c) g 2 2 x.1 V (by omega) S) (s.o.trans ((l.o.trans (x.2.mono l.o.size)).mono s.o.size)) x.2;clear B R lg S E0 E1 E2 E3 E4 M2;go_wp2_with fail
     refine P.o.mono ?_;rintro e H ⟨C,he⟩;have he:e=xv (Value.tuple #[]):=he;subst he;have cq:Hid (bF wg vars T=xL (vars++[T.f],⟨2,vars.length,.zero⟩)):=by show _=_;rw[HO.o];rw[r5 (by simp),r5 ba]
     obtain⟨b1,b2,bl⟩:=zz3 (u.o.trans (C.mono u.o.size)) (aa (l.o.trans ((Q.o.trans (C.mono Q.o.size)).mono l.o.size)) L.o (Fi.1 L.o).1) (aa (l.o.trans ((Q.o.trans (C.mono Q.o.size)).mono l.o.size)) al.o (Fi.1 al.o).1);have y:=Hd (HW.o.u b1.o);clear C e0 e1 e2 e3 e4 z;obtain⟨us,bb,b8⟩:=y.o.v;have bn:=b8;rw[HN.o]at bb;obtain⟨b9,cr⟩:=zz2 bb bn;obtain⟨e0,e1,e2,e3,e4⟩:=cells5 b2.o;have z:H.cell? ⟨M,2,U⟩=Y (A D a G):=by rw[Gb _ _ _ _ _ _ y.o.m,←HN.o];rfl
     have hK:∀b,(b=M∨b=w.heap.size)→b<H.heap.size∧(A D a G).ownBlock≠Y b:=fun b j=>by
      rw[←HN.o];rcases j with rfl|rfl
      ·exact⟨y.o.lt,row_ne y.o.m y.o.v (by decide)⟩
      ·exact⟨(Fi.1 b2.o).1,row_ne b2.o y.o.v (by decide)⟩
     have ca:=Hd (js (E:=9) (sz:=1) (row:=us++[J T.f]) (K:=fun b=>b=M∨b=w.heap.size) hK);have E1:=fun x:Ks H (fun b=>b=M∨b=w.heap.size)=>x.b (xj V) e1
     have M2:=fun x:Ks H (fun b=>b=M∨b=w.heap.size)=>x.b (wP V) z
     clear bb b8 bn e0 e1 e2 e3 e4 z hK;go_wp2_with fail
     refine RE.q (by kernel_rfl) 9 [7,8] [8] (stA 9 1 H D a G (us++[J T.f])) (ApR H) (fun _ ys=>ys.getD 0 xD) (phA 9 1 H D a G [J T.f] (us++[J T.f]) 7 8) (by kernel_rfl) (fun _ _ _ _ _ _ h j=>h.u j) (fun _ _ _ _ h _ hR=>h.z hR) stA.zero ?_;simp only[Fy,FK,Fz,FI]
     repeat (refine RE.b (fun W=>∃x:Ks H (fun b=>b=M∨b=w.heap.size),W=x.1) (ca.o _) V V V stA.zero ?_;go_big_quiet_step (fail);refine z7 ?_)
     refine RE.f V V ?_ (fun ct=>?_)
     ·intro W hC N B;obtain⟨s9,_,h9⟩:=hC;exact dO xu (vs:=[J T.f]) _ V V V h9.h (fun v W' j ho=>⟨[v],V,j,ApR.f j,ho⟩)
     simp only[Act.put,Fo,Fw,Fv];refine RE.f V V ?_ (fun cb=>?_)
     ·intro W hC N B;obtain⟨x,rfl⟩:∃x:Wb H,W=x.1:=N V;exact gq xu (p:=D) (n:=a) (c:=G) (w4:=H) (vs:=[J T.f]) (xs:=us) _ _ V V (B 7 ct (by kernel_rfl) V) V (by simp[Value.oneCell']) x.2 b9.o (by omega) (fun v' W' h1 h2 h3=>⟨[v'],V,h1,h2,h3⟩)
     simp only[Act.put,Fo,Fw,Fv];refine RE.h ?_;intro W N B;have N:ApS 9 1 H D a G (us++[J T.f]) W:=N;have hV:ApV 9 1 H D a G (us++[J T.f]) W (cb.getD 0 xD):=B 8 cb V;obtain⟨g',cap,R,S,hC,bq⟩:=ik N hV;rw[R];have b3:Chg (fun b=>(A D vars.length G).ownBlock=Y b) H W:=by rw[HN.o];exact hC
     have b4:(A D vars.length G).ownBlock=Y g'∨H.heap.size≤g':=by rw[HN.o];exact S
     obtain⟨aq,b5,b6⟩:=y.o.pushV (x:=T.f) HN.o cr.o ⟨V,by unfold maxLen;omega⟩ b4 b3 bq;have z:W.cell? ⟨M,2,U⟩=Y (A D a G):=by rw[Gb _ _ _ _ _ _ (b6.trans y.o.m),←HN.o];rfl
     have cu:=bM (b6.trans y.o.m) 2;have cc:W.heap[w.heap.size+1]?=Y (ur #[I O 0,I Z 0,I O 0,I Z 0,J ⟨#[]⟩] 67 (0,0)):=(b3.q _ (Fi.1 bl.o).1 (row_ne bl.o y.o.v (by decide))).trans bl.o;have br:w.heap.size+1≠M:=fun e=>y.o.h bl.o (by kernel_rfl) (wP e)
     obtain⟨W6,X⟩:=zzx (W.setCell ⟨M,2,U⟩ (A (Y ⟨g',0,U⟩) (a+1) cap));have r:W6.heap[w.heap.size+1]?=Y (ur #[I O 0,I Z 0,I O 0,I Z 0,J ⟨#[]⟩] 67 (0,0)):=by rw[X];exact (Fp W ⟨M,2,U⟩ _ _ br).trans cc
     rw[←X]at aq b5;have cW:=Hd aq;have a6:=Hd (fU r (I O 2) (I Z (a:Int)) (I O 0) (I Z 0) (J ⟨#[]⟩));have HP:Hid (lQ F d M ts rs vars nm sal nv cs acs vT vR (A D vars.length G) vC vA (bF wg vars T) w (xv (wD #[I O 2,I Z (a:Int),I O 0,I Z 0,J ⟨#[]⟩])) (st5 W6 (w.heap.size+1) (I O 2) (I Z (a:Int)) (I O 0) (I Z 0) (J ⟨#[]⟩))):=by
      have cv:=aq.h r (by kernel_rfl)
      have cx:=aq.upd (W':=st5 W6 (w.heap.size+1) (I O 2) (I Z (a:Int)) (I O 0) (I Z 0) (J ⟨#[]⟩)) (by rw[gI];exact Fj _) (fun b j=>ei _ _ _ _ _ b (by
       rcases j with j|j
       ·have:=(HW.o.f b j).1;omega
       ·exact fun e=>cv (e ▸ j)))
      have cA:Chg (bm M [vT,vR,A D vars.length G,vC,vA]) w W6:=cp (Chg.f b1.o) b5 (fun x hx=>wP hx);have cC:Chg (bm M [vT,vR,A D vars.length G,vC,vA]) w (st5 W6 (w.heap.size+1) (I O 2) (I Z (a:Int)) (I O 0) (I Z 0) (J ⟨#[]⟩)):=((((cA.t (xj (FN _)) _).t (xj (FN _)) _).t (xj (FN _)) _).t (xj (FN _)) _).t (xj (FN _)) _;refine⟨cC,?_⟩;rw[cq.o];refine⟨by rw[←HN.o];rfl,_,cx,fun b j=>?_⟩;injection j with j
      have j:g'=b:=j;subst j;rcases b4 with h|h
      ·exact wP h
      ·have:=b1.o.size;exact xj (by omega)
     obtain⟨e0,e1,e2,e3,e4⟩:=cells5 r;have g0:=ac r 0;have g1:=ac r 1;have g2:=ac r 2;have g3:=ac r 3;have g4:=ac r 4;have c0:W6.cell? ⟨M,2,U⟩=Y (A (Y ⟨g',0,U⟩) (a+1) cap):=by rw[Gb _ _ _ _ _ _ aq.m];rfl
     clear N hV B R S hC bq b3 b4 aq b5 b6 cc r E1 M2 ca br;go_upto_region 10 with fail
     change Code.wp _ _ _ _ (W.setCell ⟨M,2,U⟩ (A (Y ⟨g',0,U⟩) (a+1) cap));rw[←X];clear X z cu;go_wp2_with fail
     exact oD _ _ (w.heap.size+1) _ _ _ _ _ a6.o _ V HP.o
 ·have ch:T.b=14∨T.b=15:=by omega
  have HO:Hid (bF binds vars T=xL (vars,⟨4,0,aF T⟩)):=by
   show _=_
   unfold bF;rcases ch with h|h<;>rw[h]<;>rfl
  have c1:¬((T.b:Int)=12):=by omega
  have c3:¬((T.b:Int)=13):=by omega
  have HC:Hid (Calls wq 141 #[wD #[I O T.b,J T.f,I Z T.h,I Z T.t,A p n c]] w1 fun e w'=>e=xv (wD #[I O (aF T).b,I Z (aF T).h,J (aF T).f])∧Gc w1 w'):=rN T (A p n c) w1 ch hs;obtain⟨e0,e1,e2,e3,e4⟩:=cells5 L.o;clear hk ad bt
  go_enter Tryz.func75,Tryz.ntmps75
  go_upto_region 11 with fail
  change Code.wp _ _ _ _ ((w.alloc (ur #[I O T.b,J T.f,I Z T.h,I Z T.t,A p n c] 25)).alloc (ur #[I O 0,I Z 0,I O 0,I Z 0,J ⟨#[]⟩] 67));rw[←ak];clear ak;go_wp2_with fail
  refine HC.o.mono ?_;rintro e w2 ⟨rfl,t⟩;have q:=aa t al.o (Fi.1 al.o).1;obtain⟨l,a6⟩:=zz2 (s.o.trans (t.mono s.o.size)) (fU q (I O 4) (I Z 0) (I O (aF T).b) (I Z (aF T).h) (J (aF T).f));have HP:Hid (lQ F d M ts rs vars nm sal nv cs acs vT vR vV vC vA (bF binds vars T) w (xv (wD #[I O 4,I Z 0,I O (aF T).b,I Z (aF T).h,J (aF T).f])) (st5 w2 (w.heap.size+1) (I O 4) (I Z 0) (I O (aF T).b) (I Z (aF T).h) (J (aF T).f))):=by
   have a1:=sQ l.o (FN w.heap.size) (I O 4) (I Z 0) (I O (aF T).b) (I Z (aF T).h) (J (aF T).f);refine⟨Chg.f a1,?_⟩;rw[HO.o];exact⟨V,_,HW.o.u a1,fun b j=>wP j⟩
  clear t e0 e1 e2 e3 e4;obtain⟨e0,e1,e2,e3,e4⟩:=cells5 q;have g0:=ac q 0;have g1:=ac q 1;have g2:=ac q 2;have g3:=ac q 3;have g4:=ac q 4;clear q;go_wp2_with fail
  exact oD _ _ (w.heap.size+1) _ _ _ _ _ a6.o _ V HP.o
