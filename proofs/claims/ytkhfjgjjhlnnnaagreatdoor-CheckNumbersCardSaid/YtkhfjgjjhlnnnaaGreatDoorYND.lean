/- Parts of one proof, joined; conditions stand in each theorem. -/
import Derived.Test.YtkhfjgjjhlnnnaaGreatDoorYNC
import Derived.Test.YtkhfjgjjhlnnnaaGreatDoorYNB
open Go renaming Value→wF,World→wD,TypeId→CD,undef→At,wpQuiet_nil→Bk
open Option renaming some→Y,none→U
open Go.Obj renaming cells→wq
open Go.Value renaming string→J,int→I,slice→A,agg→xS,bool→AJ,pointer→xV
open Go.IntKind renaming i64→Z,u8→O
open Or renaming inl→z6,inr→z7
open Bool renaming false→xj,true→wP
open Go.World renaming setCell→CK
open Go.Proofs.Tryz renaming prog→xD
open Go.Ending renaming returned→z8
open Except renaming ok→AF,error→BT
namespace Go.Proofs.YtkhfjgjjhlnnnaaGreatDoor
set_option maxHeartbeats 4000000
set_option maxRecDepth 100000
open Go.RowKit
theorem xe(x:ByteArray):∀(l:List ByteArray),Lib.idxOfS l x=bP (idxOf x l):=by
 have h:∀(l:List ByteArray) (m:Nat),Lib.idxFromS l x m=bP (gb x l m):=by
  intro l
  induction l with
  | nil=>intro m;rfl
  | cons y l c =>
   intro m;unfold Lib.idxFromS gb
   by_cases h:y=x
   ·subst h;simp[bP]
   ·have f:(y.data.toList==x.data.toList)=false:=by
     rw[tv];intro e;apply h;obtain⟨⟨a⟩⟩:=y;obtain⟨⟨b⟩⟩:=x;have e:a=b:=e;rw[e]
    simp only[h,f,sm,Fo];exact c (m+1)
 exact fun l=>h l 0
def bj(M:Nat) (vs:List wF) (b:Nat):Prop:=b=M∨∃v∈vs,v.ownBlock=Y b
structure MkW (F:Nat→Prop) (d M:Nat) (ts:List ae) (rs:List an) (vars:List ByteArray) (nm:ByteArray) (sal nv:Int) (cs:List aW) (acs:List bW) (vT vR vV vC vA:wF) (W:wD):Prop where
 f:∀b,F b→b<W.heap.size∧¬bj M [vT,vR,vV,vC,vA] b
 m:W.heap[M]?=Y (wq #[vT,vR,vV,J nm,I Z sal,I Z nv,vC,vA] 79 (0,0))
 t:aH W F 52 bV ts vT
 r:aH W F 50 (bX d) rs vR
 v:aH W F 9 Rd.str vars vV
 c:aH W F 64 (bf d) cs vC
 a:aH W F 70 (bA d) acs vA
theorem row_ne{α:Type}{W:wD}{F:Nat→Prop}{E E2:CD}{r:Rd α}{xs:List α}{v:wF}{M:Nat}{cs:Array wF}(hm:W.heap[M]?=Y (wq cs E2 (0,0)))(h:aH W F E r xs v)(b:E≠E2):v.ownBlock≠Y M:=fun e=>by
 obtain⟨c,a⟩:=h.f e;rw[hm]at a;injection a with a
 injection a with _ a
 exact b a.symm
theorem cX{α:Type}{W W' c:wD}{M:Nat}{F:Nat→Prop}{E:CD}{r:Rd α}{xs:List α}{v v2:wF}(h:aH c F E r xs v)(e:v.ownBlock≠Y M)(f:Chg (fun x=>v2.ownBlock=Y x) c W)(i:∀g,v.ownBlock=Y g→v2.ownBlock≠Y g)
  (hF:∀b,F b→b<c.heap.size∧v2.ownBlock≠Y b∧b≠M) (hw:∀b,b≠M→W'.heap[b]?=W.heap[b]?):aH W' F E r xs v:=
 (h.other f i (fun b a=>⟨(hF b a).1,(hF b a).2.1⟩) (fun _ a=>a)).h e (fun b a=>(hF b a).2.2) (fun _ a=>a) hw
theorem ka{α:Type}{W W' c:wD}{M:Nat}{F:Nat→Prop}{E:CD}{r:Rd α}{xs:List α}{x:α}{v:wF}{us vs:List wF}{g cap n:Nat}(i:xs.length=n)(j:r.u c F xs us)(k:r.at_ c F x vs)(l:Chg (fun b=>v.ownBlock=Y b) c W)(e:W.ownsRow 0 E r.n (A (Y ⟨g,0,U⟩) (n+1) cap) (n+1) (us++vs))
  (hF:∀b,F b→b<c.heap.size∧v.ownBlock≠Y b∧b≠M) (f:g≠M) (hw:∀b,b≠M→W'.heap[b]?=W.heap[b]?):aH W' F E r (xs++[x]) (A (Y ⟨g,0,U⟩) (n+1) cap):=by
 have m:∀b,F b→∀o,c.heap[b]?=Y o→W'.heap[b]?=Y o:=fun b h o p=>(hw b (hF b h).2.2).trans ((l.u b (hF b h).1 (hF b h).2.1).trans p)
 refine⟨us++vs,?_,Rd.vk m (Rd.wg j k)⟩;rw[Fc,i];exact dC e fun q a=>by
  injection a with a
  have a:g=q:=a;subst a;exact hw g f
section
variable {F F':Nat→Prop} {d M:Nat} {ts:List ae} {rs:List an} {vars:List ByteArray} {nm:ByteArray} {sal nv:Int} {cs:List aW} {acs:List bW} {vT vR vV vC vA:wF} {W W':wD}
theorem MkW.lt(h:MkW F d M ts rs vars nm sal nv cs acs vT vR vV vC vA W):M<W.heap.size:=(EN.1 h.m).1
theorem MkW.b(h:MkW F d M ts rs vars nm sal nv cs acs vT vR vV vC vA W){b:Nat}(e:bj M [vT,vR,vV,vC,vA] b):b<W.heap.size:=by
 rcases e with rfl|⟨v,f,e⟩
 ·exact h.lt
 ·simp only[FA,Fy,sI]at f;rcases f with rfl|rfl|rfl|rfl|rfl
  ·exact h.t.lt e
  ·exact h.r.lt e
  ·exact h.v.lt e
  ·exact h.c.lt e
  ·exact h.a.lt e
theorem MkW.upd(h:MkW F d M ts rs vars nm sal nv cs acs vT vR vV vC vA W)(k:W.heap.size≤W'.heap.size)(l:∀b,(F b∨bj M [vT,vR,vV,vC,vA] b)→W'.heap[b]?=W.heap[b]?):MkW F d M ts rs vars nm sal nv cs acs vT vR vV vC vA W':=by
 have e:∀b,F b→∀o,W.heap[b]?=Y o→W'.heap[b]?=Y o:=fun b j o n=>(l b (z6 j)).trans n
 have i:∀v∈[vT,vR,vV,vC,vA],∀g,v.ownBlock=Y g→W'.heap[g]?=W.heap[g]?:=fun v p g q=>l g (z7 (z7 ⟨v,p,q⟩))
 exact⟨fun b j=>⟨ET (h.f b j).1 k,(h.f b j).2⟩,(l M (z7 (z6 V))).trans h.m,h.t.C (i _ (by simp)) e (fun _ h=>h),h.r.C (i _ (by simp)) e (fun _ h=>h),h.v.C (i _ (by simp)) e (fun _ h=>h),h.c.C (i _ (by simp)) e (fun _ h=>h),h.a.C (i _ (by simp)) e (fun _ h=>h)⟩
theorem MkW.z(h:MkW F d M ts rs vars nm sal nv cs acs vT vR vV vC vA W)(e:FK W W'):MkW F d M ts rs vars nm sal nv cs acs vT vR vV vC vA W':=
 h.upd e.size fun b a=>e.block b (by rcases a with c|c;exact (h.f b c).1;exact h.b c)
theorem MkW.grow(h:MkW F d M ts rs vars nm sal nv cs acs vT vR vV vC vA W)(e:∀b,F b→F' b)(f:∀b,F' b→b<W.heap.size∧¬bj M [vT,vR,vV,vC,vA] b):MkW F' d M ts rs vars nm sal nv cs acs vT vR vV vC vA W:=
 ⟨f,h.m,h.t.N e,h.r.N e,h.v.N e,h.c.N e,h.a.N e⟩
theorem MkW.h(h:MkW F d M ts rs vars nm sal nv cs acs vT vR vV vC vA W){g:Nat}{xs:Array wF}{E:CD}(f:W.heap[g]?=Y (wq xs E (0,0)))(j:[79,52,50,9,64,70].contains E=xj):¬bj M [vT,vR,vV,vC,vA] g:=by
 have b:∀x∈[79,52,50,9,64,70],x≠E:=fun x l e=>by
  subst e;rw[List.contains_iff_mem.2 l]at j
  cases j
 rintro (rfl|⟨v,k,i⟩)
 ·have:=h.m;rw[f]at this;injection this with this
  injection this with _ this
  exact b 79 (by simp) this.symm
 ·simp only[FA,Fy,sI]at k;rcases k with rfl|rfl|rfl|rfl|rfl
  ·exact row_ne f h.t (b _ (by simp)) i
  ·exact row_ne f h.r (b _ (by simp)) i
  ·exact row_ne f h.v (b _ (by simp)) i
  ·exact row_ne f h.c (b _ (by simp)) i
  ·exact row_ne f h.a (b _ (by simp)) i
theorem MkW.pushV{l:wD}{x:ByteArray}{us vs:List wF}{g cap n:Nat}(h:MkW F d M ts rs vars nm sal nv cs acs vT vR vV vC vA l)(C:vars.length=n)(D:Rd.str.u l F vars us)(E:Rd.str.at_ l F x vs)(i:vV.ownBlock=Y g∨l.heap.size≤g)
  (o:Chg (fun b=>vV.ownBlock=Y b) l W) (u:W.ownsRow 0 9 Rd.str.n (A (Y ⟨g,0,U⟩) (n+1) cap) (n+1) (us++vs)) :
  MkW F d M ts rs (vars++[x]) nm sal nv cs acs vT vR (A (Y ⟨g,0,U⟩) (n+1) cap) vC vA (W.setCell ⟨M,2,U⟩ (A (Y ⟨g,0,U⟩) (n+1) cap))∧Chg (bj M [vT,vR,vV,vC,vA]) l (W.setCell ⟨M,2,U⟩ (A (Y ⟨g,0,U⟩) (n+1) cap))∧W.heap[M]?=l.heap[M]?:=by
 have q:=row_ne h.m h.v (by decide);have hw:∀b,b≠M→(W.setCell ⟨M,2,U⟩ (A (Y ⟨g,0,U⟩) (n+1) cap)).heap[b]?=W.heap[b]?:=fun b j=>ER W ⟨M,2,U⟩ _ b j
 have B:W.heap[M]?=l.heap[M]?:=o.u M h.lt q;have w:g≠M:=by
  rcases i with i|i
  ·exact fun e=>q (e ▸ i)
  ·have:=h.lt;omega
 have hF:∀b,F b→b<l.heap.size∧vV.ownBlock≠Y b∧b≠M:=fun b j=>⟨(h.f b j).1,fun e=>(h.f b j).2 (z7 ⟨vV,by simp,e⟩),fun e=>(h.f b j).2 (z6 e)⟩
 have y:(W.setCell ⟨M,2,U⟩ (A (Y ⟨g,0,U⟩) (n+1) cap)).heap.size=W.heap.size:=by simp[CK]
 have H:∀b,F b→b<(W.setCell ⟨M,2,U⟩ (A (Y ⟨g,0,U⟩) (n+1) cap)).heap.size∧¬bj M [vT,vR,(A (Y ⟨g,0,U⟩) (n+1) cap),vC,vA] b:=fun b j=>by
  refine⟨by rw[y];exact ET (h.f b j).1 o.h,fun k=>?_⟩;rcases k with k|⟨v,s,k⟩
  ·exact (hF b j).2.2 k
  ·by_cases z:v=(A (Y ⟨g,0,U⟩) (n+1) cap)
   ·subst z;injection k with k
    have k:g=b:=k;subst k;rcases i with i|i
    ·exact (hF g j).2.1 i
    ·have:=(hF g j).1;omega
   ·refine (h.f b j).2 (z7 ⟨v,?_,k⟩);simp only[FA,Fy,sI]at s ⊢;rcases s with s|s|s|s|s<;>simp_all
 refine⟨⟨H,?_,cX h.t (row_ne h.m h.t (by decide)) o (fun g i=>h.t.u h.v (by decide) i) hF hw,cX h.r (row_ne h.m h.r (by decide)) o (fun g i=>h.r.u h.v (by decide) i) hF hw,ka C D E o u hF w hw,cX h.c (row_ne h.m h.c (by decide)) o (fun g i=>h.c.u h.v (by decide) i) hF hw,cX h.a (row_ne h.m h.a (by decide)) o (fun g i=>h.a.u h.v (by decide) i) hF hw⟩,?_,B⟩
 ·exact heap_set (B.trans h.m) 2 _
 ·exact (Chg.N (G:=bj M [vT,vR,vV,vC,vA]) o (fun b j=>z7 ⟨vV,by simp,j⟩)).y (p:=⟨M,2,U⟩) (z6 (z6 V)) _
theorem MkW.pushC{l:wD}{x:aW}{us vs:List wF}{g cap n:Nat}(h:MkW F d M ts rs vars nm sal nv cs acs vT vR vV vC vA l)(C:cs.length=n)(D:(bf d).u l F cs us)(E:(bf d).at_ l F x vs)(i:vC.ownBlock=Y g∨l.heap.size≤g)
  (o:Chg (fun b=>vC.ownBlock=Y b) l W) (u:W.ownsRow 0 64 (bf d).n (A (Y ⟨g,0,U⟩) (n+1) cap) (n+1) (us++vs)) :
  MkW F d M ts rs vars nm sal nv (cs++[x]) acs vT vR vV (A (Y ⟨g,0,U⟩) (n+1) cap) vA (W.setCell ⟨M,6,U⟩ (A (Y ⟨g,0,U⟩) (n+1) cap))∧Chg (bj M [vT,vR,vV,vC,vA]) l (W.setCell ⟨M,6,U⟩ (A (Y ⟨g,0,U⟩) (n+1) cap))∧W.heap[M]?=l.heap[M]?:=by
 have q:=row_ne h.m h.c (by decide);have hw:∀b,b≠M→(W.setCell ⟨M,6,U⟩ (A (Y ⟨g,0,U⟩) (n+1) cap)).heap[b]?=W.heap[b]?:=fun b j=>ER W ⟨M,6,U⟩ _ b j
 have B:W.heap[M]?=l.heap[M]?:=o.u M h.lt q;have w:g≠M:=by
  rcases i with i|i
  ·exact fun e=>q (e ▸ i)
  ·have:=h.lt;omega
 have hF:∀b,F b→b<l.heap.size∧vC.ownBlock≠Y b∧b≠M:=fun b j=>⟨(h.f b j).1,fun e=>(h.f b j).2 (z7 ⟨vC,by simp,e⟩),fun e=>(h.f b j).2 (z6 e)⟩
 have y:(W.setCell ⟨M,6,U⟩ (A (Y ⟨g,0,U⟩) (n+1) cap)).heap.size=W.heap.size:=by simp[CK]
 have H:∀b,F b→b<(W.setCell ⟨M,6,U⟩ (A (Y ⟨g,0,U⟩) (n+1) cap)).heap.size∧¬bj M [vT,vR,vV,(A (Y ⟨g,0,U⟩) (n+1) cap),vA] b:=fun b j=>by
  refine⟨by rw[y];exact ET (h.f b j).1 o.h,fun k=>?_⟩;rcases k with k|⟨v,s,k⟩
  ·exact (hF b j).2.2 k
  ·by_cases z:v=(A (Y ⟨g,0,U⟩) (n+1) cap)
   ·subst z;injection k with k
    have k:g=b:=k;subst k;rcases i with i|i
    ·exact (hF g j).2.1 i
    ·have:=(hF g j).1;omega
   ·refine (h.f b j).2 (z7 ⟨v,?_,k⟩);simp only[FA,Fy,sI]at s ⊢;rcases s with s|s|s|s|s<;>simp_all
 refine⟨⟨H,?_,cX h.t (row_ne h.m h.t (by decide)) o (fun g i=>h.t.u h.c (by decide) i) hF hw,cX h.r (row_ne h.m h.r (by decide)) o (fun g i=>h.r.u h.c (by decide) i) hF hw,cX h.v (row_ne h.m h.v (by decide)) o (fun g i=>h.v.u h.c (by decide) i) hF hw,ka C D E o u hF w hw,cX h.a (row_ne h.m h.a (by decide)) o (fun g i=>h.a.u h.c (by decide) i) hF hw⟩,?_,B⟩
 ·exact heap_set (B.trans h.m) 6 _
 ·exact (Chg.N (G:=bj M [vT,vR,vV,vC,vA]) o (fun b j=>z7 ⟨vC,by simp,j⟩)).y (p:=⟨M,6,U⟩) (z6 (z6 V)) _
theorem MkW.pushA{l:wD}{x:bW}{us vs:List wF}{g cap n:Nat}(h:MkW F d M ts rs vars nm sal nv cs acs vT vR vV vC vA l)(C:acs.length=n)(D:(bA d).u l F acs us)(E:(bA d).at_ l F x vs)(i:vA.ownBlock=Y g∨l.heap.size≤g)
  (o:Chg (fun b=>vA.ownBlock=Y b) l W) (u:W.ownsRow 0 70 (bA d).n (A (Y ⟨g,0,U⟩) (n+1) cap) (n+1) (us++vs)) :
  MkW F d M ts rs vars nm sal nv cs (acs++[x]) vT vR vV vC (A (Y ⟨g,0,U⟩) (n+1) cap) (W.setCell ⟨M,7,U⟩ (A (Y ⟨g,0,U⟩) (n+1) cap))∧Chg (bj M [vT,vR,vV,vC,vA]) l (W.setCell ⟨M,7,U⟩ (A (Y ⟨g,0,U⟩) (n+1) cap))∧W.heap[M]?=l.heap[M]?:=by
 have q:=row_ne h.m h.a (by decide);have hw:∀b,b≠M→(W.setCell ⟨M,7,U⟩ (A (Y ⟨g,0,U⟩) (n+1) cap)).heap[b]?=W.heap[b]?:=fun b j=>ER W ⟨M,7,U⟩ _ b j
 have B:W.heap[M]?=l.heap[M]?:=o.u M h.lt q;have w:g≠M:=by
  rcases i with i|i
  ·exact fun e=>q (e ▸ i)
  ·have:=h.lt;omega
 have hF:∀b,F b→b<l.heap.size∧vA.ownBlock≠Y b∧b≠M:=fun b j=>⟨(h.f b j).1,fun e=>(h.f b j).2 (z7 ⟨vA,by simp,e⟩),fun e=>(h.f b j).2 (z6 e)⟩
 have y:(W.setCell ⟨M,7,U⟩ (A (Y ⟨g,0,U⟩) (n+1) cap)).heap.size=W.heap.size:=by simp[CK]
 have H:∀b,F b→b<(W.setCell ⟨M,7,U⟩ (A (Y ⟨g,0,U⟩) (n+1) cap)).heap.size∧¬bj M [vT,vR,vV,vC,(A (Y ⟨g,0,U⟩) (n+1) cap)] b:=fun b j=>by
  refine⟨by rw[y];exact ET (h.f b j).1 o.h,fun k=>?_⟩;rcases k with k|⟨v,s,k⟩
  ·exact (hF b j).2.2 k
  ·by_cases z:v=(A (Y ⟨g,0,U⟩) (n+1) cap)
   ·subst z;injection k with k
    have k:g=b:=k;subst k;rcases i with i|i
    ·exact (hF g j).2.1 i
    ·have:=(hF g j).1;omega
   ·refine (h.f b j).2 (z7 ⟨v,?_,k⟩);simp only[FA,Fy,sI]at s ⊢;rcases s with s|s|s|s|s<;>simp_all
 refine⟨⟨H,?_,cX h.t (row_ne h.m h.t (by decide)) o (fun g i=>h.t.u h.a (by decide) i) hF hw,cX h.r (row_ne h.m h.r (by decide)) o (fun g i=>h.r.u h.a (by decide) i) hF hw,cX h.v (row_ne h.m h.v (by decide)) o (fun g i=>h.v.u h.a (by decide) i) hF hw,cX h.c (row_ne h.m h.c (by decide)) o (fun g i=>h.c.u h.a (by decide) i) hF hw,ka C D E o u hF w hw⟩,?_,B⟩
 ·exact heap_set (B.trans h.m) 7 _
 ·exact (Chg.N (G:=bj M [vT,vR,vV,vC,vA]) o (fun b j=>z7 ⟨vA,by simp,j⟩)).y (p:=⟨M,7,U⟩) (z6 (z6 V)) _
end
theorem sQ(vars:List ByteArray)(x:ByteArray)(v:wF)(F:Nat→Prop)(w:wD)(f:Rd.str.K w F vars v):Calls xD 140 #[v,J x] w (fun e w'=>e=z8 (I Z (bP (idxOf x vars)))∧FK w w'):=by
 have a:=Rd.tT f;rcases f with ⟨rfl,p,c,rfl⟩|⟨b,off,cap,l,m,_,o,q,rfl,h⟩
 ·refine (Tryz.slices_Index_string_empty p c x w).mono ?_;rintro e w' ⟨rfl,rfl⟩;exact⟨by rw[xe],EP _ _⟩
 ·refine (Tryz.slices_Index_string b off vars.length cap vars x w (EO _) (by unfold maxLen at a;omega) (fun j g=>?_)).mono ?_
  ·obtain⟨vs,⟨rfl,_⟩,i⟩:=h j vars[j] (ES g);have:=i 0 _ V;have k:off+j*Rd.str.n+0=off+j:=by show off+j*1+0=off+j;omega
   rw[k]at this;rw[this,List.getD_eq_getElem?_getD,ES g];rfl
  ·rintro e w' ⟨rfl,rfl⟩;exact⟨by rw[Fg (EO _),xe],EP _ _⟩
theorem xr:Elem 9 77 1 16:=Elem.of (z:=J ByteArray.empty) Tryz.underlying77 (by kernel_rfl) V (by decide) (by decide)
def bD(binds:Bool) (vars:List ByteArray) (T:ab):Except Flt (List ByteArray×dw):=
 if T.b==12 then AF (vars,⟨1,0,.zero⟩)
 else if T.b==13 then match idxOf T.f vars with
  | some k=>AF (vars,⟨3,k,.zero⟩)
  | none=>if !binds then BT (213,T.y) else if 16≤vars.length then BT (204,T.y) else AF (vars++[T.f],⟨2,vars.length,.zero⟩)
 else AF (vars,⟨4,0,aF T⟩)
theorem pq(binds:Bool)(s:List ByteArray×List dw)(T:ab):bU binds s T=match bD binds s.1 T with | .ok r=>AF (r.1,s.2++[r.2]) | .error e=>BT e:=by
 unfold bU bD
 split
 ·rfl
 ·split
  ·cases idxOf T.f s.1 with
   | some k=>rfl
   | none =>
    dsimp only
    split
    ·rfl
    ·split<;>rfl
  ·rfl
def cH(L:Nat) (l:List (Bool×Int)) (W:wD) (v:wF):Prop:=∃g,v=A (Y ⟨g,0,U⟩) l.length l.length∧L≤g∧W.heap[g]?=Y (wq (fE l).toArray 104 (0,0))
theorem cH.z{L:Nat}{l:List (Bool×Int)}{W W':wD}{v:wF}(h:cH L l W v)(b:FK W W'):cH L l W' v:=by
 obtain⟨g,c,e,a⟩:=h;exact⟨g,c,e,aa b a (EN.1 a).1⟩
theorem mY{o:Oper}{a:Act}{W:wD}{G:wF→wD→Prop}{L n:Nat}{l:List (Bool×Int)}{parts:Array (Nat×Operand)}(j:o.op=.buildSlice 173 n parts)(k:l.length=n)(h:0<n∧n≤10)
  (m:∀z:wF,z.cells.size=2→Instr.fill (fun i=>Y (i*2,2)) ((Array.range (n*2)).map (z.cells[· % z.cells.size]!)) (parts.map fun (x:Nat×Operand)=>(x.1,a.eval x.2)).toList=Y (fE l).toArray) (p:L≤W.heap.size)
  (q:∀v W',FK W W'→cH L l W' v→G v W'):RE.Upon xD o a W G:=by
 obtain⟨i0,z,e,f,b,r,g⟩:=lD.info;have c:(execOp a.eval o).run xD W=.ok (.value (A (Y ⟨W.heap.size,0,U⟩) n n)) (W.alloc (wq (fE l).toArray 104)):=by
  unfold execOp;simp only[j,th];rw[run_buildSlice W 173 104 n _ (fE l).toArray i0 z lD.und e f (by rw[b];omega) (by rw[b];omega) (by rw[b];exact m z g)];rfl
 exact RE.upon_run c (q _ _ ((EP _ W).alloc (EO _) _) ⟨_,by rw[k],p,p9 W _⟩)
theorem size2{z:wF}(h:z.cells.size=2):∃x y,z.cells=#[x,y]:=by
 obtain⟨x,y,a⟩:∃x y,z.cells.toList=[x,y]:=by
  have b:z.cells.toList.length=2:=by rw[Fq];exact h
  match c:z.cells.toList,b with
  | [x,y],_=>exact⟨x,y,V⟩
 exact⟨x,y,by rw[←Array.toArray_toList (xs:=z.cells),a]⟩
theorem yH(a b:Bool)(c e:Int)(z:wF)(h:z.cells.size=2):Instr.fill (fun i=>Y (i*2,2)) ((Array.range (2*2)).map (z.cells[· % z.cells.size]!)) [(0,xS #[AJ a,I Z c]),(1,xS #[AJ b,I Z e])]=Y (fE [(a,c),(b,e)]).toArray:=by
 obtain⟨x,y,f⟩:=size2 h;rw[f]
 kernel_rfl
theorem yD(a b c:Bool)(e f g:Int)(z:wF)(h:z.cells.size=2):Instr.fill (fun i=>Y (i*2,2)) ((Array.range (3*2)).map (z.cells[· % z.cells.size]!)) [(0,xS #[AJ a,I Z e]),(1,xS #[AJ b,I Z f]),(2,xS #[AJ c,I Z g])]=Y (fE [(a,e),(b,f),(c,g)]).toArray:=by
 obtain⟨x,y,j⟩:=size2 h;rw[j]
 kernel_rfl
theorem iN{o:Oper}{a:Act}{W:wD}{G:wF→wD→Prop}{L:Nat}(b c:Bool)(f g:Int)(x y:Operand)(h:o.op=.buildSlice 173 2 #[(0,x),(1,y)])(i:a.eval x=xS #[AJ b,I Z f])(j:a.eval y=xS #[AJ c,I Z g])(k:L≤W.heap.size)
  (m:∀v W',FK W W'→cH L [(b,f),(c,g)] W' v→G v W'):RE.Upon xD o a W G:=by
 refine mY (l:=[(b,f),(c,g)]) h V (by decide) (fun z n=>?_) k m;have e:((#[(0,x),(1,y)]:Array (Nat×Operand)).map fun (q:Nat×Operand)=>(q.1,a.eval q.2)).toList=[(0,a.eval x),(1,a.eval y)]:=by simp
 rw[e,i,j];exact yH b c f g z n
theorem iK{o:Oper}{a:Act}{W:wD}{G:wF→wD→Prop}{L:Nat}(b c f:Bool)(g h i:Int)(x y u:Operand)(j:o.op=.buildSlice 173 3 #[(0,x),(1,y),(2,u)])(k:a.eval x=xS #[AJ b,I Z g])(m:a.eval y=xS #[AJ c,I Z h])(hu:a.eval u=xS #[AJ f,I Z i])(n:L≤W.heap.size)
  (p:∀v W',FK W W'→cH L [(b,g),(c,h),(f,i)] W' v→G v W'):RE.Upon xD o a W G:=by
 refine mY (l:=[(b,g),(c,h),(f,i)]) j V (by decide) (fun z r=>?_) n p;have e:((#[(0,x),(1,y),(2,u)]:Array (Nat×Operand)).map fun (q:Nat×Operand)=>(q.1,a.eval q.2)).toList=[(0,a.eval x),(1,a.eval y),(2,a.eval u)]:=by simp
 rw[e,k,m,hu];exact yD b c f g h i z r
def st5(W:wD) (g:Nat) (a b c d e:wF):World:=((((W.setCell ⟨g,0,U⟩ a).setCell ⟨g,1,U⟩ b).setCell ⟨g,2,U⟩ c).setCell ⟨g,3,U⟩ d).setCell ⟨g,4,U⟩ e
theorem fX{W:wD}{g:Nat}{f i x2 x3 x4:wF}{t:CD}(h:W.heap[g]?=Y (wq #[f,i,x2,x3,x4] t (0,0)))(a b c d e:wF):(st5 W g a b c d e).heap[g]?=Y (wq #[a,b,c,d,e] t (0,0)):=
 heap_set (heap_set (heap_set (heap_set (heap_set h 0 a) 1 b) 2 c) 3 d) 4 e
theorem sS{B:Nat}{w W:wD}{g:Nat}(h:Below B w W)(f:B≤g)(a b c d e:wF):Below B w (st5 W g a b c d e):=
 ((((h.setCell f a).setCell f b).setCell f c).setCell f d).setCell f e
theorem eh{W:wD}{g:Nat}(a b c d e:wF)(k:Nat)(h:k≠g):(st5 W g a b c d e).heap[k]?=W.heap[k]?:=by
 have f:∀(j:wD) (i:Nat) (u:wF),(j.setCell ⟨g,i,U⟩ u).heap[k]?=j.heap[k]?:=fun j i u=>ER j ⟨g,i,U⟩ u k h
 unfold st5;rw[f,f,f,f,f]
theorem gJ{W:wD}{g:Nat}(a b c d e:wF):(st5 W g a b c d e).heap.size=W.heap.size:=by simp[st5,CK]
theorem oK(W:wD)(g:Ending→wD→Prop)(T:Nat)(a b c d e:wF)(h:W.heap[T]?=Y (wq #[a,b,c,d,e] 67 (0,0)))
  (tmps:Array wF) (i:tmps.getD 6 At=xV (Y ⟨T,0,U⟩)) (j:g (z8 (xS #[a,b,c,d,e])) W):bodyPost xD Tryz.f75 g .ret ⟨tmps,[]⟩ W:=by
 obtain⟨k,l,c2,m,c4⟩:=cells5 h;have f:tmps[6]?.getD At=xV (Y ⟨T,0,U⟩):=by simpa using i
 refine bodyPost_ret (v:=xS #[a,b,c,d,e]) ?_ V j;simp[results,Tryz.results75,go_sem,f,k,l,c2,m,c4]
theorem cj{F G:Nat→Prop}{a b c:wD}(h:Chg F a b)(k:Chg G b c)(g:∀x,G x→F x∨a.heap.size≤x):Chg F a c:=
 ⟨k.os.trans h.os,k.a.trans h.a,k.c.trans h.c,EU h.h k.h,fun i e f=>(k.u i (ET e h.h) (fun j=>by rcases g i j with h|h;exact f h;omega)).trans (h.u i e f)⟩
def Grew(v a:wF) (n:Nat):Prop:=∀b,a.ownBlock=Y b→v.ownBlock=Y b∨n≤b
def lV(F:Nat→Prop) (d M:Nat) (ts:List ae) (rs:List an) (_vars:List ByteArray) (nm:ByteArray) (sal nv:Int) (cs:List aW) (acs:List bW) (vT vR vV vC vA:wF) (r:Except Flt (List ByteArray×dw)) (w:wD) (e:Ending) (w':wD):Prop:=
 Chg (bj M [vT,vR,vV,vC,vA]) w w'∧match r with
 | .ok x=>e=z8 (xS (ii x.2).toArray)∧∃a,MkW F d M ts rs x.1 nm sal nv cs acs vT vR a vC vA w'∧Grew vV a w.heap.size
 | .error er=>e=aU er.1 er.2
theorem Dn(F:Nat→Prop)(d M:Nat)(ts:List ae)(rs:List an)(vars:List ByteArray)(nm:ByteArray)(sal nv:Int)(cs:List aW)(acs:List bW)(vT vR vV vC vA:wF)(T:ab)(p:Option Addr)(n c:Nat)(binds:Bool)(w:wD)
  (hw:MkW F d M ts rs vars nm sal nv cs acs vT vR vV vC vA w) (hk:T.b=12∨T.b=13∨T.b=14∨T.b=15) (hs:T.f.size≤72007) (ck:vars.length≤16) :
  Calls xD 75 #[xV (Y ⟨M,0,U⟩),xS #[I O T.b,J T.f,I Z T.h,I Z T.y,A p n c],AJ binds] w (lV F d M ts rs vars nm sal nv cs acs vT vR vV vC vA (bD binds vars T) w):=by
 have ar:FK w ((w.alloc (wq #[I O T.b,J T.f,I Z T.h,I Z T.y,A p n c] 25)).alloc (wq #[I O 0,I Z 0,I O 0,I Z 0,J ⟨#[]⟩] 67)):=((EP _ w).alloc (EO _) _).alloc (by simp) _;have bc:T.b=12∨¬T.b=12:=by omega
 rcases bc with ad|ad
 ·have HO:Hid (bD binds vars T=AF (vars,⟨1,0,.zero⟩)):=by show _=_;unfold bD;rw[ad];rfl
  have t:FK w ((w.alloc (wq #[I O 12,J T.f,I Z T.h,I Z T.y,A p n c] 25)).alloc (wq #[I O 1,I Z 0,I O 0,I Z 0,J ⟨#[]⟩] 67)):=((EP _ w).alloc (EO _) _).alloc (by simp) _;obtain⟨_,af,_⟩:=ap w (wq #[I O 12,J T.f,I Z T.h,I Z T.y,A p n c] 25) (wq #[I O 1,I Z 0,I O 0,I Z 0,J ⟨#[]⟩] 67);have HX:=Hd af;have HP:Hid (lV F d M ts rs vars nm sal nv cs acs vT vR vV vC vA (bD binds vars T) w (z8 (xS #[I O 1,I Z 0,I O 0,I Z 0,J ⟨#[]⟩])) ((w.alloc (wq #[I O 12,J T.f,I Z T.h,I Z T.y,A p n c] 25)).alloc (wq #[I O 1,I Z 0,I O 0,I Z 0,J ⟨#[]⟩] 67))):=by
   refine⟨Chg.f t,?_⟩;rw[HO.o];exact⟨V,vV,hw.z t,fun b j=>z6 j⟩
  rw[ad];clear hw ar t af hk ad HO
  go_enter Tryz.func75,Tryz.ntmps75
  go_wp2_with fail
  exact oK _ _ (w.heap.size+1) _ _ _ _ _ HX.o _ V HP.o
 obtain⟨w1,ak⟩:=zzx ((w.alloc (wq #[I O T.b,J T.f,I Z T.h,I Z T.y,A p n c] 25)).alloc (wq #[I O 0,I Z 0,I O 0,I Z 0,J ⟨#[]⟩] 67));obtain⟨av,af,_⟩:=ap w (wq #[I O T.b,J T.f,I Z T.h,I Z T.y,A p n c] 25) (wq #[I O 0,I Z 0,I O 0,I Z 0,J ⟨#[]⟩] 67);rw[←ak]at ar av af;obtain⟨s,L,al,HW,bd⟩:=zz5 ar av af hw (hw.z ar);clear hw ar av af
 by_cases bt:T.b=13
 ·obtain⟨D,G,rfl⟩:=bd.o.v.b;obtain⟨a,bB⟩:=zzy (vars.length);have hm:=bd.o.m;obtain⟨cR,HI,HN⟩:=zz3 hm (fun (x:Wb w1)=>sQ vars T.f (A D vars.length G) (fun _=>True) x.1 ((bd.o.z x.2).v.K (fun _ _=>trivial) (fun _ _=>trivial))) bB;have HO:Hid (bD binds vars T=match idxOf T.f vars with|some k=>AF (vars,⟨3,k,.zero⟩)|none=>if !binds then BT (213,T.y) else if 16≤vars.length then BT (204,T.y) else AF (vars++[T.f],⟨2,vars.length,.zero⟩)):=by show _=_;unfold bD;rw[bt];rfl
  rw[bB]at HI hm ck;obtain⟨e0,e1,e2,e3,e4⟩:=cells5 L.o;have z:w1.cell? ⟨M,2,U⟩=Y (A D a G):=by rw[FI _ _ _ _ _ _ hm];rfl
  rw[bt]at ak e0 L ⊢;clear ad hk hm bB
  go_enter Tryz.func75,Tryz.ntmps75
  go_upto_region 5 with fail
  change Code.wp _ _ _ _ ((w.alloc (wq #[I O 13,J T.f,I Z T.h,I Z T.y,A p n c] 25)).alloc (wq #[I O 0,I Z 0,I O 0,I Z 0,J ⟨#[]⟩] 67));rw[show (w.alloc (wq #[I O 13,J T.f,I Z T.h,I Z T.y,A p n c] 25)).alloc (wq #[I O 0,I Z 0,I O 0,I Z 0,J ⟨#[]⟩] 67)=w1 from ak.symm];clear ak;have X1:=fun x:Wb w1=>x.b e1
  have M2:=fun x:Wb w1=>x.b z
  refine au (by kernel_rfl) (by kernel_rfl) ?_
  repeat (go_big_quiet_step ((go_at_call 140;exact Calls.b (HI.o _))))
  refine Bk ?_;intro W2 b7;have t:=a7 b7;obtain⟨l,cl⟩:=zz2 t (bd.o.z t);clear b7 t X1 M2 HI e0 e1 e2 e3 e4 z
  cases bk:idxOf T.f vars with
  | some k =>
   rw[bk]at HO;clear bk;rw[show bP (Y k)=(k:Int) from rfl];have cT:(0:Int)≤k:=by omega
   have q:=aa l.o al.o (EN.1 al.o).1;obtain⟨e0,e1,e2,e3,e4⟩:=cells5 q;have g0:=ac q 0;have g1:=ac q 1;have g2:=ac q 2;have g3:=ac q 3;have g4:=ac q 4;have HP:Hid (lV F d M ts rs vars nm sal nv cs acs vT vR (A D vars.length G) vC vA (bD binds vars T) w (z8 (xS #[I O 3,I Z (k:Int),I O 0,I Z 0,J ⟨#[]⟩])) (st5 W2 (w.heap.size+1) (I O 3) (I Z (k:Int)) (I O 0) (I Z 0) (J ⟨#[]⟩))):=by
    have a1:=sS (s.o.trans (l.o.mono s.o.size)) (Fl w.heap.size) (I O 3) (I Z (k:Int)) (I O 0) (I Z 0) (J ⟨#[]⟩);refine⟨Chg.f a1,?_⟩;rw[HO.o];exact⟨V,_,HW.o.z a1,fun b j=>z6 j⟩
   have a6:=Hd (fX q (I O 3) (I Z (k:Int)) (I O 0) (I Z 0) (J ⟨#[]⟩));clear q;go_wp2_with fail
   exact oK _ _ (w.heap.size+1) _ _ _ _ _ a6.o _ V HP.o
  | none =>
   rw[bk]at HO;clear bk;rw[show bP U=(-1:Int) from rfl];have av:=aa l.o L.o (EN.1 L.o).1;obtain⟨e0,e1,e2,e3,e4⟩:=cells5 av;have z:W2.cell? ⟨M,2,U⟩=Y (A D a G):=by rw[FI _ _ _ _ _ _ cl.o.m,←HN.o];rfl
   have E0:=fun x:Wb W2=>x.b e0
   have E1:=fun x:Wb W2=>x.b e1
   have E2:=fun x:Wb W2=>x.b e2
   have E3:=fun x:Wb W2=>x.b e3
   have E4:=fun x:Wb W2=>x.b e4
   have M2:=fun x:Wb W2=>x.b z
   go_wp2_with fail
   cases binds with
   | false =>
    by_cases bR:16≤a
    ·have b0:(16:Int)≤a:=by omega
     refine RE.u (by kernel_rfl) 12 [11] [] (fun _ W=>∃x:Wb W2,W=x.1) (fun W W'=>FK W W') (fun i ys=>ys.getD 0 At) (fun i W ys=>if i=11 then cH W2.heap.size [(wP,213),(wP,204)] W (ys.getD 0 At) else True) (by kernel_rfl) (fun _ _ _ _ _ _ h j=>bC h j) (fun i W W' ys h _ j=>by split at h;(rw[rv (by assumption)];exact h.z j);rw[qv (by assumption)];trivial) ⟨⟨W2.drew,(EP _ _).drew⟩,V⟩ ?_;simp only[EY,Fi,EZ,Fh]
     repeat (refine RE.b (fun W=>∃x:Wb W2,W=x.1) (fun _ _ _ h=>h) V V V ⟨⟨W2.drew,(EP _ _).drew⟩,V⟩ ?_;go_big_quiet_step (fail);refine Bk ?_)
     refine RE.f V V ?_ (fun ys=>?_)
     ·intro W hC _ B;obtain⟨s9,_,x,rfl⟩:=hC;exact iN wP wP 213 204 _ _ V V V x.2.size (fun v W' j ho=>⟨[v],V,j,j,ho⟩)
     simp only[Act.put,EQ,EW,EV];refine RE.h ?_;intro W N B;obtain⟨x,rfl⟩:=N;obtain⟨g,R,lg,S⟩:cH W2.heap.size [(wP,213),(wP,204)] x.1 (ys.getD 0 At):=B 11 ys V;rw[R];obtain⟨P,u,Q⟩:=zz3 (bY [(wP,213),(wP,204)] 13 T.f T.h T.y (A p n c) g 2 2 x.1 V (by omega) S) (s.o.trans ((l.o.trans (x.2.mono l.o.size)).mono s.o.size)) x.2;clear B R lg S E0 E1 E2 E3 E4 M2;go_wp2_with fail
     refine P.o.mono ?_;rintro e H ⟨C,he⟩;have he:e=aU 213 T.y:=he;subst he;refine⟨V,Chg.f (u.o.trans (C.mono u.o.size)),?_⟩;rw[HO.o];rfl
    ·have b0:¬((16:Int)≤a):=by omega
     refine RE.u (by kernel_rfl) 12 [11] [] (fun _ W=>∃x:Wb W2,W=x.1) (fun W W'=>FK W W') (fun i ys=>ys.getD 0 At) (fun i W ys=>if i=11 then cH W2.heap.size [(wP,213),(xj,204)] W (ys.getD 0 At) else True) (by kernel_rfl) (fun _ _ _ _ _ _ h j=>bC h j) (fun i W W' ys h _ j=>by split at h;(rw[rv (by assumption)];exact h.z j);rw[qv (by assumption)];trivial) ⟨⟨W2.drew,(EP _ _).drew⟩,V⟩ ?_;simp only[EY,Fi,EZ,Fh]
     repeat (refine RE.b (fun W=>∃x:Wb W2,W=x.1) (fun _ _ _ h=>h) V V V ⟨⟨W2.drew,(EP _ _).drew⟩,V⟩ ?_;go_big_quiet_step (fail);refine Bk ?_)
     refine RE.f V V ?_ (fun ys=>?_)
     ·intro W hC _ B;obtain⟨s9,_,x,rfl⟩:=hC;exact iN wP xj 213 204 _ _ V V V x.2.size (fun v W' j ho=>⟨[v],V,j,j,ho⟩)
     simp only[Act.put,EQ,EW,EV];refine RE.h ?_;intro W N B;obtain⟨x,rfl⟩:=N;obtain⟨g,R,lg,S⟩:cH W2.heap.size [(wP,213),(xj,204)] x.1 (ys.getD 0 At):=B 11 ys V;rw[R];obtain⟨P,u,Q⟩:=zz3 (bY [(wP,213),(xj,204)] 13 T.f T.h T.y (A p n c) g 2 2 x.1 V (by omega) S) (s.o.trans ((l.o.trans (x.2.mono l.o.size)).mono s.o.size)) x.2;clear B R lg S E0 E1 E2 E3 E4 M2;go_wp2_with fail
     refine P.o.mono ?_;rintro e H ⟨C,he⟩;have he:e=aU 213 T.y:=he;subst he;refine⟨V,Chg.f (u.o.trans (C.mono u.o.size)),?_⟩;rw[HO.o];rfl
   | true =>
    by_cases bR:16≤a
    ·have b0:(16:Int)≤a:=by omega
     have ba:16≤vars.length:=by rw[HN.o];exact bR
     refine RE.u (by kernel_rfl) 12 [11] [] (fun _ W=>∃x:Wb W2,W=x.1) (fun W W'=>FK W W') (fun i ys=>ys.getD 0 At) (fun i W ys=>if i=11 then cH W2.heap.size [(xj,213),(wP,204)] W (ys.getD 0 At) else True) (by kernel_rfl) (fun _ _ _ _ _ _ h j=>bC h j) (fun i W W' ys h _ j=>by split at h;(rw[rv (by assumption)];exact h.z j);rw[qv (by assumption)];trivial) ⟨⟨W2.drew,(EP _ _).drew⟩,V⟩ ?_;simp only[EY,Fi,EZ,Fh]
     repeat (refine RE.b (fun W=>∃x:Wb W2,W=x.1) (fun _ _ _ h=>h) V V V ⟨⟨W2.drew,(EP _ _).drew⟩,V⟩ ?_;go_big_quiet_step (fail);refine Bk ?_)
     refine RE.f V V ?_ (fun ys=>?_)
     ·intro W hC _ B;obtain⟨s9,_,x,rfl⟩:=hC;exact iN xj wP 213 204 _ _ V V V x.2.size (fun v W' j ho=>⟨[v],V,j,j,ho⟩)
     simp only[Act.put,EQ,EW,EV];refine RE.h ?_;intro W N B;obtain⟨x,rfl⟩:=N;obtain⟨g,R,lg,S⟩:cH W2.heap.size [(xj,213),(wP,204)] x.1 (ys.getD 0 At):=B 11 ys V;rw[R];obtain⟨P,u,Q⟩:=zz3 (bY [(xj,213),(wP,204)] 13 T.f T.h T.y (A p n c) g 2 2 x.1 V (by omega) S) (s.o.trans ((l.o.trans (x.2.mono l.o.size)).mono s.o.size)) x.2;clear B R lg S E0 E1 E2 E3 E4 M2;go_wp2_with fail
     refine P.o.mono ?_;rintro e H ⟨C,he⟩;have he:e=aU 204 T.y:=he;subst he;refine⟨V,Chg.f (u.o.trans (C.mono u.o.size)),?_⟩;rw[HO.o];rw[qv (by simp),rv ba];rfl
    ·have b0:¬((16:Int)≤a):=by omega
     have ba:¬16≤vars.length:=by rw[HN.o];exact bR
     refine RE.u (by kernel_rfl) 12 [11] [] (fun _ W=>∃x:Wb W2,W=x.1) (fun W W'=>FK W W') (fun i ys=>ys.getD 0 At) (fun i W ys=>if i=11 then cH W2.heap.size [(xj,213),(xj,204)] W (ys.getD 0 At) else True) (by kernel_rfl) (fun _ _ _ _ _ _ h j=>bC h j) (fun i W W' ys h _ j=>by split at h;(rw[rv (by assumption)];exact h.z j);rw[qv (by assumption)];trivial) ⟨⟨W2.drew,(EP _ _).drew⟩,V⟩ ?_;simp only[EY,Fi,EZ,Fh]
     repeat (refine RE.b (fun W=>∃x:Wb W2,W=x.1) (fun _ _ _ h=>h) V V V ⟨⟨W2.drew,(EP _ _).drew⟩,V⟩ ?_;go_big_quiet_step (fail);refine Bk ?_)
     refine RE.f V V ?_ (fun ys=>?_)
     ·intro W hC _ B;obtain⟨s9,_,x,rfl⟩:=hC;exact iN xj xj 213 204 _ _ V V V x.2.size (fun v W' j ho=>⟨[v],V,j,j,ho⟩)
     simp only[Act.put,EQ,EW,EV];refine RE.h ?_;intro W N B;obtain⟨x,rfl⟩:=N;obtain⟨g,R,lg,S⟩:cH W2.heap.size [(xj,213),(xj,204)] x.1 (ys.getD 0 At):=B 11 ys V;rw[R];obtain⟨P,u,Q⟩:=zz3 (bY [(xj,213),(xj,204)] 13 T.f T.h T.y (A p n c) g 2 2 x.1 V (by omega) S) (s.o.trans ((l.o.trans (x.2.mono l.o.size)).mono s.o.size)) x.2;clear B R lg S E0 E1 E2 E3 E4 M2;go_wp2_with fail
     refine P.o.mono ?_;rintro e H ⟨C,he⟩;have he:e=z8 (Value.tuple #[]):=he;subst he;have cq:Hid (bD wP vars T=AF (vars++[T.f],⟨2,vars.length,.zero⟩)):=by show _=_;rw[HO.o];rw[qv (by simp),qv ba]
     obtain⟨b1,b2,bl⟩:=zz3 (u.o.trans (C.mono u.o.size)) (aa (l.o.trans ((Q.o.trans (C.mono Q.o.size)).mono l.o.size)) L.o (EN.1 L.o).1) (aa (l.o.trans ((Q.o.trans (C.mono Q.o.size)).mono l.o.size)) al.o (EN.1 al.o).1);have y:=Hd (HW.o.z b1.o);clear C e0 e1 e2 e3 e4 z;obtain⟨us,bb,b8⟩:=y.o.v;have bn:=b8;rw[HN.o]at bb;obtain⟨b9,cr⟩:=zz2 bb bn;obtain⟨e0,e1,e2,e3,e4⟩:=cells5 b2.o;have z:H.cell? ⟨M,2,U⟩=Y (A D a G):=by rw[FI _ _ _ _ _ _ y.o.m,←HN.o];rfl
     have hK:∀b,(b=M∨b=w.heap.size)→b<H.heap.size∧(A D a G).ownBlock≠Y b:=fun b j=>by
      rw[←HN.o];rcases j with rfl|rfl
      ·exact⟨y.o.lt,row_ne y.o.m y.o.v (by decide)⟩
      ·exact⟨(EN.1 b2.o).1,row_ne b2.o y.o.v (by decide)⟩
     have ca:=Hd (gl (E:=9) (sz:=1) (row:=us++[J T.f]) (K:=fun b=>b=M∨b=w.heap.size) hK);have E1:=fun x:Ks H (fun b=>b=M∨b=w.heap.size)=>x.b (z7 V) e1
     have M2:=fun x:Ks H (fun b=>b=M∨b=w.heap.size)=>x.b (z6 V) z
     clear bb b8 bn e0 e1 e2 e3 e4 z hK;go_wp2_with fail
     refine RE.u (by kernel_rfl) 9 [7,8] [8] (stA 9 1 H D a G (us++[J T.f])) (ApR H) (fun _ ys=>ys.getD 0 At) (phA 9 1 H D a G [J T.f] (us++[J T.f]) 7 8) (by kernel_rfl) (fun _ _ _ _ _ _ h j=>h.z j) (fun _ _ _ _ h _ hR=>h.C hR) stA.zero ?_;simp only[EY,Fi,EZ,Fh]
     repeat (refine RE.b (fun W=>∃x:Ks H (fun b=>b=M∨b=w.heap.size),W=x.1) (ca.o _) V V V stA.zero ?_;go_big_quiet_step (fail);refine Bk ?_)
     refine RE.f V V ?_ (fun ct=>?_)
     ·intro W hC N B;obtain⟨s9,_,h9⟩:=hC;exact cB xr (vs:=[J T.f]) _ V V V h9.h (fun v W' j ho=>⟨[v],V,j,ApR.f j,ho⟩)
     simp only[Act.put,EQ,EW,EV];refine RE.f V V ?_ (fun cb=>?_)
     ·intro W hC N B;obtain⟨x,rfl⟩:∃x:Wb H,W=x.1:=N V;exact eC xr (p:=D) (n:=a) (c:=G) (w4:=H) (vs:=[J T.f]) (xs:=us) _ _ V V (B 7 ct (by kernel_rfl) V) V (by simp[Value.oneCell']) x.2 b9.o (by omega) (fun v' W' h1 h2 h3=>⟨[v'],V,h1,h2,h3⟩)
     simp only[Act.put,EQ,EW,EV];refine RE.h ?_;intro W N B;have N:ApS 9 1 H D a G (us++[J T.f]) W:=N;have hV:ApV 9 1 H D a G (us++[J T.f]) W (cb.getD 0 At):=B 8 cb V;obtain⟨g',cap,R,S,hC,bq⟩:=eZ N hV;rw[R];have b3:Chg (fun b=>(A D vars.length G).ownBlock=Y b) H W:=by rw[HN.o];exact hC
     have b4:(A D vars.length G).ownBlock=Y g'∨H.heap.size≤g':=by rw[HN.o];exact S
     obtain⟨aq,b5,b6⟩:=y.o.pushV (x:=T.f) HN.o cr.o ⟨V,by unfold maxLen;omega⟩ b4 b3 bq;have z:W.cell? ⟨M,2,U⟩=Y (A D a G):=by rw[FI _ _ _ _ _ _ (b6.trans y.o.m),←HN.o];rfl
     have cu:=bK (b6.trans y.o.m) 2;have cc:W.heap[w.heap.size+1]?=Y (wq #[I O 0,I Z 0,I O 0,I Z 0,J ⟨#[]⟩] 67 (0,0)):=(b3.u _ (EN.1 bl.o).1 (row_ne bl.o y.o.v (by decide))).trans bl.o;have br:w.heap.size+1≠M:=fun e=>y.o.h bl.o (by kernel_rfl) (z6 e)
     obtain⟨W6,X⟩:=zzx (W.setCell ⟨M,2,U⟩ (A (Y ⟨g',0,U⟩) (a+1) cap));have r:W6.heap[w.heap.size+1]?=Y (wq #[I O 0,I Z 0,I O 0,I Z 0,J ⟨#[]⟩] 67 (0,0)):=by rw[X];exact (ER W ⟨M,2,U⟩ _ _ br).trans cc
     rw[←X]at aq b5;have cW:=Hd aq;have a6:=Hd (fX r (I O 2) (I Z (a:Int)) (I O 0) (I Z 0) (J ⟨#[]⟩));have HP:Hid (lV F d M ts rs vars nm sal nv cs acs vT vR (A D vars.length G) vC vA (bD wP vars T) w (z8 (xS #[I O 2,I Z (a:Int),I O 0,I Z 0,J ⟨#[]⟩])) (st5 W6 (w.heap.size+1) (I O 2) (I Z (a:Int)) (I O 0) (I Z 0) (J ⟨#[]⟩))):=by
      have cv:=aq.h r (by kernel_rfl)
      have cx:=aq.upd (W':=st5 W6 (w.heap.size+1) (I O 2) (I Z (a:Int)) (I O 0) (I Z 0) (J ⟨#[]⟩)) (by rw[gJ];exact EO _) (fun b j=>eh _ _ _ _ _ b (by
       rcases j with j|j
       ·have:=(HW.o.f b j).1;omega
       ·exact fun e=>cv (e ▸ j)))
      have cA:Chg (bj M [vT,vR,A D vars.length G,vC,vA]) w W6:=cj (Chg.f b1.o) b5 (fun x hx=>z6 hx);have cC:Chg (bj M [vT,vR,A D vars.length G,vC,vA]) w (st5 W6 (w.heap.size+1) (I O 2) (I Z (a:Int)) (I O 0) (I Z 0) (J ⟨#[]⟩)):=((((cA.y (z7 (Fl _)) _).y (z7 (Fl _)) _).y (z7 (Fl _)) _).y (z7 (Fl _)) _).y (z7 (Fl _)) _;refine⟨cC,?_⟩;rw[cq.o];refine⟨by rw[←HN.o];rfl,_,cx,fun b j=>?_⟩;injection j with j
      have j:g'=b:=j;subst j;rcases b4 with h|h
      ·exact z6 h
      ·have:=b1.o.size;exact z7 (by omega)
     obtain⟨e0,e1,e2,e3,e4⟩:=cells5 r;have g0:=ac r 0;have g1:=ac r 1;have g2:=ac r 2;have g3:=ac r 3;have g4:=ac r 4;have c0:W6.cell? ⟨M,2,U⟩=Y (A (Y ⟨g',0,U⟩) (a+1) cap):=by rw[FI _ _ _ _ _ _ aq.m];rfl
     clear N hV B R S hC bq b3 b4 aq b5 b6 cc r E1 M2 ca br;go_upto_region 10 with fail
     change Code.wp _ _ _ _ (W.setCell ⟨M,2,U⟩ (A (Y ⟨g',0,U⟩) (a+1) cap));rw[←X];clear X z cu;go_wp2_with fail
     exact oK _ _ (w.heap.size+1) _ _ _ _ _ a6.o _ V HP.o
 ·have ch:T.b=14∨T.b=15:=by omega
  have HO:Hid (bD binds vars T=AF (vars,⟨4,0,aF T⟩)):=by
   show _=_
   unfold bD;rcases ch with h|h<;>rw[h]<;>rfl
  have c1:¬((T.b:Int)=12):=by omega
  have c3:¬((T.b:Int)=13):=by omega
  have HC:Hid (Calls xD 141 #[xS #[I O T.b,J T.f,I Z T.h,I Z T.y,A p n c]] w1 fun e w'=>e=z8 (xS #[I O (aF T).b,I Z (aF T).h,J (aF T).f])∧FK w1 w'):=rQ T (A p n c) w1 ch hs;obtain⟨e0,e1,e2,e3,e4⟩:=cells5 L.o;clear hk ad bt
  go_enter Tryz.func75,Tryz.ntmps75
  go_upto_region 11 with fail
  change Code.wp _ _ _ _ ((w.alloc (wq #[I O T.b,J T.f,I Z T.h,I Z T.y,A p n c] 25)).alloc (wq #[I O 0,I Z 0,I O 0,I Z 0,J ⟨#[]⟩] 67));rw[←ak];clear ak;go_wp2_with fail
  refine HC.o.mono ?_;rintro e w2 ⟨rfl,t⟩;have q:=aa t al.o (EN.1 al.o).1;obtain⟨l,a6⟩:=zz2 (s.o.trans (t.mono s.o.size)) (fX q (I O 4) (I Z 0) (I O (aF T).b) (I Z (aF T).h) (J (aF T).f));have HP:Hid (lV F d M ts rs vars nm sal nv cs acs vT vR vV vC vA (bD binds vars T) w (z8 (xS #[I O 4,I Z 0,I O (aF T).b,I Z (aF T).h,J (aF T).f])) (st5 w2 (w.heap.size+1) (I O 4) (I Z 0) (I O (aF T).b) (I Z (aF T).h) (J (aF T).f))):=by
   have a1:=sS l.o (Fl w.heap.size) (I O 4) (I Z 0) (I O (aF T).b) (I Z (aF T).h) (J (aF T).f);refine⟨Chg.f a1,?_⟩;rw[HO.o];exact⟨V,_,HW.o.z a1,fun b j=>z6 j⟩
  clear t e0 e1 e2 e3 e4;obtain⟨e0,e1,e2,e3,e4⟩:=cells5 q;have g0:=ac q 0;have g1:=ac q 1;have g2:=ac q 2;have g3:=ac q 3;have g4:=ac q 4;clear q;go_wp2_with fail
  exact oK _ _ (w.heap.size+1) _ _ _ _ _ a6.o _ V HP.o
