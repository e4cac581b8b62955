/- Parts of one proof, joined; conditions stand in each theorem. -/
import Derived.Test.YtoonjedifockoaaGreatDoorNC
import Derived.Test.YtoonjedifockoaaGreatDoorNB
namespace Go.Proofs.YtoonjedifockoaaGreatDoor
open Go.IntKind(i64)
open Go.Value(int string slice)
set_option maxHeartbeats 4000000
set_option maxRecDepth 100000
open Go.RowKit
theorem wY(x:ByteArray):∀(l:List ByteArray),Lib.idxOfS l x=dR (idxOf x l):=by
 have h:∀(l:List ByteArray) (m:Nat),Lib.idxFromS l x m=dR (fi x l m):=by
  intro l
  induction l with
  | nil=>intro m;rfl
  | cons y l c =>
   intro m;unfold Lib.idxFromS fi
   by_cases h:y=x
   ·subst h;simp[dR]
   ·have f:(y.data.toList==x.data.toList)=false:=by
     rw[oX];intro e;apply h;obtain⟨⟨a⟩⟩:=y;obtain⟨⟨b⟩⟩:=x;have e:a=b:=e;rw[e]
    simp only[h,f,oi,EW];exact c (m+1)
 exact fun l=>h l 0
def aL(M:Nat) (vs:List Value) (b:Nat):Prop:=b=M∨∃v∈vs,v.ownBlock=some b
structure MkW (F:Nat→Prop) (d M:Nat) (ts:List ai) (rs:List aj) (vars:List ByteArray) (nm:ByteArray) (sal nv:Int) (cs:List aC) (acs:List aT) (vT vR vV vC vA:Value) (W:World):Prop where
 f:∀b,F b→b<W.heap.size∧¬aL M [vT,vR,vV,vC,vA] b
 m:W.heap[M]?=some (.cells #[vT,vR,vV,.string nm,int i64 sal,int i64 nv,vC,vA] 116 (0,0))
 t:aX W F 40 bo ts vT
 r:aX W F 38 (bh d) rs vR
 v:aX W F 9 Rd.str vars vV
 c:aX W F 52 (bp d) cs vC
 a:aX W F 58 (bS d) acs vA
theorem row_ne{α:Type}{W:World}{F:Nat→Prop}{E c:TypeId}{r:Rd α}{xs:List α}{v:Value}{M:Nat}{cs:Array Value}(hm:W.heap[M]?=some (.cells cs c (0,0)))(h:aX W F E r xs v)(b:E≠c):v.ownBlock≠some M:=fun e=>by
 obtain⟨f,a⟩:=h.type e;rw[hm]at a;injection a with a
 injection a with _ a
 exact b a.symm
theorem cL{α:Type}{W W' c:World}{M:Nat}{F:Nat→Prop}{E:TypeId}{r:Rd α}{xs:List α}{v v2:Value}(h:aX c F E r xs v)(e:v.ownBlock≠some M)(f:Chg (fun x=>v2.ownBlock=some x) c W)(i:∀g,v.ownBlock=some g→v2.ownBlock≠some g)
  (hF:∀b,F b→b<c.heap.size∧v2.ownBlock≠some b∧b≠M) (hw:∀b,b≠M→W'.heap[b]?=W.heap[b]?):aX W' F E r xs v:=
 (h.other f i (fun b a=>⟨(hF b a).1,(hF b a).2.1⟩) (fun _ a=>a)).stored e (fun b a=>(hF b a).2.2) (fun _ a=>a) hw
theorem jx{α:Type}{W W' c:World}{M:Nat}{F:Nat→Prop}{E:TypeId}{r:Rd α}{xs:List α}{x:α}{v:Value}{us vs:List Value}{g cap n:Nat}(i:xs.length=n)(j:r.cells c F xs us)(k:r.at_ c F x vs)(l:Chg (fun b=>v.ownBlock=some b) c W)(e:W.ownsRow 0 E r.n (slice (some ⟨g,0,none⟩) (n+1) cap) (n+1) (us++vs))
  (hF:∀b,F b→b<c.heap.size∧v.ownBlock≠some b∧b≠M) (f:g≠M) (hw:∀b,b≠M→W'.heap[b]?=W.heap[b]?):aX W' F E r (xs++[x]) (slice (some ⟨g,0,none⟩) (n+1) cap):=by
 have m:∀b,F b→∀o,c.heap[b]?=some o→W'.heap[b]?=some o:=fun b h o p=>(hw b (hF b h).2.2).trans ((l.block b (hF b h).1 (hF b h).2.1).trans p)
 refine⟨us++vs,?_,Rd.cells_keep m (Rd.cells_snoc j k)⟩;rw[EO,i];exact fH e fun q a=>by
  injection a with a
  have a:g=q:=a;subst a;exact hw g f
section
variable {F F':Nat→Prop} {d M:Nat} {ts:List ai} {rs:List aj} {vars:List ByteArray} {nm:ByteArray} {sal nv:Int} {cs:List aC} {acs:List aT} {vT vR vV vC vA:Value} {W W':World}
theorem MkW.lt(h:MkW F d M ts rs vars nm sal nv cs acs vT vR vV vC vA W):M<W.heap.size:=(Ez.1 h.m).1
theorem MkW.own_lt(h:MkW F d M ts rs vars nm sal nv cs acs vT vR vV vC vA W){b:Nat}(e:aL M [vT,vR,vV,vC,vA] b):b<W.heap.size:=by
 rcases e with rfl|⟨v,f,e⟩
 ·exact h.lt
 ·simp only[Fh,Ff,oB]at f;rcases f with rfl|rfl|rfl|rfl|rfl
  ·exact h.t.lt e
  ·exact h.r.lt e
  ·exact h.v.lt e
  ·exact h.c.lt e
  ·exact h.a.lt e
theorem MkW.upd(h:MkW F d M ts rs vars nm sal nv cs acs vT vR vV vC vA W)(k:W.heap.size≤W'.heap.size)(l:∀b,(F b∨aL M [vT,vR,vV,vC,vA] b)→W'.heap[b]?=W.heap[b]?):MkW F d M ts rs vars nm sal nv cs acs vT vR vV vC vA W':=by
 have e:∀b,F b→∀o,W.heap[b]?=some o→W'.heap[b]?=some o:=fun b j o n=>(l b (Or.inl j)).trans n
 have i:∀v∈[vT,vR,vV,vC,vA],∀g,v.ownBlock=some g→W'.heap[g]?=W.heap[g]?:=fun v p g q=>l g (Or.inr (Or.inr ⟨v,p,q⟩))
 exact⟨fun b j=>⟨EF (h.f b j).1 k,(h.f b j).2⟩,(l M (Or.inr (Or.inl rfl))).trans h.m,h.t.keep (i _ (by simp)) e (fun _ h=>h),h.r.keep (i _ (by simp)) e (fun _ h=>h),h.v.keep (i _ (by simp)) e (fun _ h=>h),h.c.keep (i _ (by simp)) e (fun _ h=>h),h.a.keep (i _ (by simp)) e (fun _ h=>h)⟩
theorem MkW.below(h:MkW F d M ts rs vars nm sal nv cs acs vT vR vV vC vA W)(e:Ft W W'):MkW F d M ts rs vars nm sal nv cs acs vT vR vV vC vA W':=
 h.upd e.size fun b a=>e.block b (by rcases a with c|c;exact (h.f b c).1;exact h.own_lt c)
theorem MkW.grow(h:MkW F d M ts rs vars nm sal nv cs acs vT vR vV vC vA W)(e:∀b,F b→F' b)(f:∀b,F' b→b<W.heap.size∧¬aL M [vT,vR,vV,vC,vA] b):MkW F' d M ts rs vars nm sal nv cs acs vT vR vV vC vA W:=
 ⟨f,h.m,h.t.sub e,h.r.sub e,h.v.sub e,h.c.sub e,h.a.sub e⟩
theorem MkW.not_own(h:MkW F d M ts rs vars nm sal nv cs acs vT vR vV vC vA W){g:Nat}{xs:Array Value}{E:TypeId}(f:W.heap[g]?=some (.cells xs E (0,0)))(j:[116,40,38,9,52,58].contains E=false):¬aL M [vT,vR,vV,vC,vA] g:=by
 have b:∀x∈[116,40,38,9,52,58],x≠E:=fun x l e=>by
  subst e;rw[List.contains_iff_mem.2 l]at j
  cases j
 rintro (rfl|⟨v,k,i⟩)
 ·have:=h.m;rw[f]at this;injection this with this
  injection this with _ this
  exact b 116 (by simp) this.symm
 ·simp only[Fh,Ff,oB]at k;rcases k with rfl|rfl|rfl|rfl|rfl
  ·exact row_ne f h.t (b _ (by simp)) i
  ·exact row_ne f h.r (b _ (by simp)) i
  ·exact row_ne f h.v (b _ (by simp)) i
  ·exact row_ne f h.c (b _ (by simp)) i
  ·exact row_ne f h.a (b _ (by simp)) i
theorem MkW.pushV{l:World}{x:ByteArray}{us vs:List Value}{g cap n:Nat}(h:MkW F d M ts rs vars nm sal nv cs acs vT vR vV vC vA l)(B:vars.length=n)(C:Rd.str.cells l F vars us)(D:Rd.str.at_ l F x vs)(i:vV.ownBlock=some g∨l.heap.size≤g)
  (o:Chg (fun b=>vV.ownBlock=some b) l W) (u:W.ownsRow 0 9 Rd.str.n (slice (some ⟨g,0,none⟩) (n+1) cap) (n+1) (us++vs)) :
  MkW F d M ts rs (vars++[x]) nm sal nv cs acs vT vR (slice (some ⟨g,0,none⟩) (n+1) cap) vC vA (W.setCell ⟨M,2,none⟩ (slice (some ⟨g,0,none⟩) (n+1) cap))∧Chg (aL M [vT,vR,vV,vC,vA]) l (W.setCell ⟨M,2,none⟩ (slice (some ⟨g,0,none⟩) (n+1) cap))∧W.heap[M]?=l.heap[M]?:=by
 have q:=row_ne h.m h.v (by decide);have hw:∀b,b≠M→(W.setCell ⟨M,2,none⟩ (slice (some ⟨g,0,none⟩) (n+1) cap)).heap[b]?=W.heap[b]?:=fun b j=>ED W ⟨M,2,none⟩ _ b j
 have A:W.heap[M]?=l.heap[M]?:=o.block M h.lt q;have w:g≠M:=by
  rcases i with i|i
  ·exact fun e=>q (e ▸ i)
  ·have:=h.lt;omega
 have hF:∀b,F b→b<l.heap.size∧vV.ownBlock≠some b∧b≠M:=fun b j=>⟨(h.f b j).1,fun e=>(h.f b j).2 (Or.inr ⟨vV,by simp,e⟩),fun e=>(h.f b j).2 (Or.inl e)⟩
 have y:(W.setCell ⟨M,2,none⟩ (slice (some ⟨g,0,none⟩) (n+1) cap)).heap.size=W.heap.size:=by simp[World.setCell]
 have E:∀b,F b→b<(W.setCell ⟨M,2,none⟩ (slice (some ⟨g,0,none⟩) (n+1) cap)).heap.size∧¬aL M [vT,vR,(slice (some ⟨g,0,none⟩) (n+1) cap),vC,vA] b:=fun b j=>by
  refine⟨by rw[y];exact EF (h.f b j).1 o.size,fun k=>?_⟩;rcases k with k|⟨v,s,k⟩
  ·exact (hF b j).2.2 k
  ·by_cases z:v=(slice (some ⟨g,0,none⟩) (n+1) cap)
   ·subst z;injection k with k
    have k:g=b:=k;subst k;rcases i with i|i
    ·exact (hF g j).2.1 i
    ·have:=(hF g j).1;omega
   ·refine (h.f b j).2 (Or.inr ⟨v,?_,k⟩);simp only[Fh,Ff,oB]at s ⊢;rcases s with s|s|s|s|s<;>simp_all
 refine⟨⟨E,?_,cL h.t (row_ne h.m h.t (by decide)) o (fun g i=>h.t.apart h.v (by decide) i) hF hw,cL h.r (row_ne h.m h.r (by decide)) o (fun g i=>h.r.apart h.v (by decide) i) hF hw,jx B C D o u hF w hw,cL h.c (row_ne h.m h.c (by decide)) o (fun g i=>h.c.apart h.v (by decide) i) hF hw,cL h.a (row_ne h.m h.a (by decide)) o (fun g i=>h.a.apart h.v (by decide) i) hF hw⟩,?_,A⟩
 ·exact heap_set (A.trans h.m) 2 _
 ·exact (Chg.sub (G:=aL M [vT,vR,vV,vC,vA]) o (fun b j=>Or.inr ⟨vV,by simp,j⟩)).setCell (p:=⟨M,2,none⟩) (Or.inl (Or.inl rfl)) _
theorem MkW.pushC{l:World}{x:aC}{us vs:List Value}{g cap n:Nat}(h:MkW F d M ts rs vars nm sal nv cs acs vT vR vV vC vA l)(B:cs.length=n)(C:(bp d).cells l F cs us)(D:(bp d).at_ l F x vs)(i:vC.ownBlock=some g∨l.heap.size≤g)
  (o:Chg (fun b=>vC.ownBlock=some b) l W) (u:W.ownsRow 0 52 (bp d).n (slice (some ⟨g,0,none⟩) (n+1) cap) (n+1) (us++vs)) :
  MkW F d M ts rs vars nm sal nv (cs++[x]) acs vT vR vV (slice (some ⟨g,0,none⟩) (n+1) cap) vA (W.setCell ⟨M,6,none⟩ (slice (some ⟨g,0,none⟩) (n+1) cap))∧Chg (aL M [vT,vR,vV,vC,vA]) l (W.setCell ⟨M,6,none⟩ (slice (some ⟨g,0,none⟩) (n+1) cap))∧W.heap[M]?=l.heap[M]?:=by
 have q:=row_ne h.m h.c (by decide);have hw:∀b,b≠M→(W.setCell ⟨M,6,none⟩ (slice (some ⟨g,0,none⟩) (n+1) cap)).heap[b]?=W.heap[b]?:=fun b j=>ED W ⟨M,6,none⟩ _ b j
 have A:W.heap[M]?=l.heap[M]?:=o.block M h.lt q;have w:g≠M:=by
  rcases i with i|i
  ·exact fun e=>q (e ▸ i)
  ·have:=h.lt;omega
 have hF:∀b,F b→b<l.heap.size∧vC.ownBlock≠some b∧b≠M:=fun b j=>⟨(h.f b j).1,fun e=>(h.f b j).2 (Or.inr ⟨vC,by simp,e⟩),fun e=>(h.f b j).2 (Or.inl e)⟩
 have y:(W.setCell ⟨M,6,none⟩ (slice (some ⟨g,0,none⟩) (n+1) cap)).heap.size=W.heap.size:=by simp[World.setCell]
 have E:∀b,F b→b<(W.setCell ⟨M,6,none⟩ (slice (some ⟨g,0,none⟩) (n+1) cap)).heap.size∧¬aL M [vT,vR,vV,(slice (some ⟨g,0,none⟩) (n+1) cap),vA] b:=fun b j=>by
  refine⟨by rw[y];exact EF (h.f b j).1 o.size,fun k=>?_⟩;rcases k with k|⟨v,s,k⟩
  ·exact (hF b j).2.2 k
  ·by_cases z:v=(slice (some ⟨g,0,none⟩) (n+1) cap)
   ·subst z;injection k with k
    have k:g=b:=k;subst k;rcases i with i|i
    ·exact (hF g j).2.1 i
    ·have:=(hF g j).1;omega
   ·refine (h.f b j).2 (Or.inr ⟨v,?_,k⟩);simp only[Fh,Ff,oB]at s ⊢;rcases s with s|s|s|s|s<;>simp_all
 refine⟨⟨E,?_,cL h.t (row_ne h.m h.t (by decide)) o (fun g i=>h.t.apart h.c (by decide) i) hF hw,cL h.r (row_ne h.m h.r (by decide)) o (fun g i=>h.r.apart h.c (by decide) i) hF hw,cL h.v (row_ne h.m h.v (by decide)) o (fun g i=>h.v.apart h.c (by decide) i) hF hw,jx B C D o u hF w hw,cL h.a (row_ne h.m h.a (by decide)) o (fun g i=>h.a.apart h.c (by decide) i) hF hw⟩,?_,A⟩
 ·exact heap_set (A.trans h.m) 6 _
 ·exact (Chg.sub (G:=aL M [vT,vR,vV,vC,vA]) o (fun b j=>Or.inr ⟨vC,by simp,j⟩)).setCell (p:=⟨M,6,none⟩) (Or.inl (Or.inl rfl)) _
theorem MkW.pushA{l:World}{x:aT}{us vs:List Value}{g cap n:Nat}(h:MkW F d M ts rs vars nm sal nv cs acs vT vR vV vC vA l)(B:acs.length=n)(C:(bS d).cells l F acs us)(D:(bS d).at_ l F x vs)(i:vA.ownBlock=some g∨l.heap.size≤g)
  (o:Chg (fun b=>vA.ownBlock=some b) l W) (u:W.ownsRow 0 58 (bS d).n (slice (some ⟨g,0,none⟩) (n+1) cap) (n+1) (us++vs)) :
  MkW F d M ts rs vars nm sal nv cs (acs++[x]) vT vR vV vC (slice (some ⟨g,0,none⟩) (n+1) cap) (W.setCell ⟨M,7,none⟩ (slice (some ⟨g,0,none⟩) (n+1) cap))∧Chg (aL M [vT,vR,vV,vC,vA]) l (W.setCell ⟨M,7,none⟩ (slice (some ⟨g,0,none⟩) (n+1) cap))∧W.heap[M]?=l.heap[M]?:=by
 have q:=row_ne h.m h.a (by decide);have hw:∀b,b≠M→(W.setCell ⟨M,7,none⟩ (slice (some ⟨g,0,none⟩) (n+1) cap)).heap[b]?=W.heap[b]?:=fun b j=>ED W ⟨M,7,none⟩ _ b j
 have A:W.heap[M]?=l.heap[M]?:=o.block M h.lt q;have w:g≠M:=by
  rcases i with i|i
  ·exact fun e=>q (e ▸ i)
  ·have:=h.lt;omega
 have hF:∀b,F b→b<l.heap.size∧vA.ownBlock≠some b∧b≠M:=fun b j=>⟨(h.f b j).1,fun e=>(h.f b j).2 (Or.inr ⟨vA,by simp,e⟩),fun e=>(h.f b j).2 (Or.inl e)⟩
 have y:(W.setCell ⟨M,7,none⟩ (slice (some ⟨g,0,none⟩) (n+1) cap)).heap.size=W.heap.size:=by simp[World.setCell]
 have E:∀b,F b→b<(W.setCell ⟨M,7,none⟩ (slice (some ⟨g,0,none⟩) (n+1) cap)).heap.size∧¬aL M [vT,vR,vV,vC,(slice (some ⟨g,0,none⟩) (n+1) cap)] b:=fun b j=>by
  refine⟨by rw[y];exact EF (h.f b j).1 o.size,fun k=>?_⟩;rcases k with k|⟨v,s,k⟩
  ·exact (hF b j).2.2 k
  ·by_cases z:v=(slice (some ⟨g,0,none⟩) (n+1) cap)
   ·subst z;injection k with k
    have k:g=b:=k;subst k;rcases i with i|i
    ·exact (hF g j).2.1 i
    ·have:=(hF g j).1;omega
   ·refine (h.f b j).2 (Or.inr ⟨v,?_,k⟩);simp only[Fh,Ff,oB]at s ⊢;rcases s with s|s|s|s|s<;>simp_all
 refine⟨⟨E,?_,cL h.t (row_ne h.m h.t (by decide)) o (fun g i=>h.t.apart h.a (by decide) i) hF hw,cL h.r (row_ne h.m h.r (by decide)) o (fun g i=>h.r.apart h.a (by decide) i) hF hw,cL h.v (row_ne h.m h.v (by decide)) o (fun g i=>h.v.apart h.a (by decide) i) hF hw,cL h.c (row_ne h.m h.c (by decide)) o (fun g i=>h.c.apart h.a (by decide) i) hF hw,jx B C D o u hF w hw⟩,?_,A⟩
 ·exact heap_set (A.trans h.m) 7 _
 ·exact (Chg.sub (G:=aL M [vT,vR,vV,vC,vA]) o (fun b j=>Or.inr ⟨vA,by simp,j⟩)).setCell (p:=⟨M,7,none⟩) (Or.inl (Or.inl rfl)) _
end
theorem rN(vars:List ByteArray)(x:ByteArray)(v:Value)(F:Nat→Prop)(w:World)(f:Rd.str.row w F vars v):Calls Tryz.prog 156 #[v,.string x] w (fun e w'=>e=.returned (int i64 (dR (idxOf x vars)))∧Ft w w'):=by
 have a:=Rd.row_len f;rcases f with ⟨rfl,p,c,rfl⟩|⟨b,off,cap,l,m,_,o,q,rfl,h⟩
 ·refine (Tryz.slices_Index_string_empty p c x w).mono ?_;rintro e w' ⟨rfl,rfl⟩;exact⟨by rw[wY],EB _ _⟩
 ·refine (Tryz.slices_Index_string b off vars.length cap vars x w (EA _) (by unfold maxLen at a;omega) (fun j g=>?_)).mono ?_
  ·obtain⟨vs,⟨rfl,_⟩,i⟩:=h j vars[j] (EE g);have:=i 0 _ rfl;have k:off+j*Rd.str.n+0=off+j:=by show off+j*1+0=off+j;omega
   rw[k]at this;rw[this,List.getD_eq_getElem?_getD,EE g];rfl
  ·rintro e w' ⟨rfl,rfl⟩;exact⟨by rw[ER (EA _),wY],EB _ _⟩
theorem xl:Elem 9 114 1 16:=Elem.of (z:=.string ByteArray.empty) Tryz.underlying114 (by kernel_rfl) rfl (by decide) (by decide)
def bI(binds:Bool) (vars:List ByteArray) (T:ac):Except Flt (List ByteArray×cg):=
 if T.kind==12 then .ok (vars,⟨1,0,.zero⟩)
 else if T.kind==13 then match idxOf T.text vars with
  | some k=>.ok (vars,⟨3,k,.zero⟩)
  | none=>if !binds then .error (213,T.place) else if 16≤vars.length then .error (204,T.place) else .ok (vars++[T.text],⟨2,vars.length,.zero⟩)
 else .ok (vars,⟨4,0,bC T⟩)
theorem ol(binds:Bool)(s:List ByteArray×List cg)(T:ac):cX binds s T=match bI binds s.1 T with | .ok r=>.ok (r.1,s.2++[r.2]) | .error e=>.error e:=by
 unfold cX bI
 split
 ·rfl
 ·split
  ·cases idxOf T.text s.1 with
   | some k=>rfl
   | none =>
    dsimp only
    split
    ·rfl
    ·split<;>rfl
  ·rfl
def cz(L:Nat) (l:List (Bool×Int)) (W:World) (v:Value):Prop:=∃g,v=slice (some ⟨g,0,none⟩) l.length l.length∧L≤g∧W.heap[g]?=some (.cells (eR l).toArray 149 (0,0))
theorem cz.below{L:Nat}{l:List (Bool×Int)}{W W':World}{v:Value}(h:cz L l W v)(b:Ft W W'):cz L l W' v:=by
 obtain⟨g,c,e,a⟩:=h;exact⟨g,c,e,aa b a (Ez.1 a).1⟩
theorem mh{o:Oper}{a:Act}{W:World}{G:Value→World→Prop}{L n:Nat}{l:List (Bool×Int)}{parts:Array (Nat×Operand)}(j:o.op=.buildSlice 174 n parts)(k:l.length=n)(h:0<n∧n≤10)
  (m:∀z:Value,z.cells.size=2→Instr.fill (fun i=>some (i*2,2)) ((Array.range (n*2)).map (z.cells[· % z.cells.size]!)) (parts.map fun (x:Nat×Operand)=>(x.1,a.eval x.2)).toList=some (eR l).toArray) (p:L≤W.heap.size)
  (q:∀v W',Ft W W'→cz L l W' v→G v W'):RE.Upon Tryz.prog o a W G:=by
 obtain⟨i0,z,e,f,b,r,g⟩:=kF.info;have c:(execOp a.eval o).run Tryz.prog W=.ok (.value (slice (some ⟨W.heap.size,0,none⟩) n n)) (W.alloc (.cells (eR l).toArray 149)):=by
  unfold execOp;simp only[j,oE];rw[run_buildSlice W 174 149 n _ (eR l).toArray i0 z kF.und e f (by rw[b];omega) (by rw[b];omega) (by rw[b];exact m z g)];rfl
 exact RE.upon_run c (q _ _ ((EB _ W).alloc (EA _) _) ⟨_,by rw[k],p,n7 W _⟩)
theorem size2{z:Value}(h:z.cells.size=2):∃x y,z.cells=#[x,y]:=by
 obtain⟨x,y,a⟩:∃x y,z.cells.toList=[x,y]:=by
  have b:z.cells.toList.length=2:=by rw[EY];exact h
  match c:z.cells.toList,b with
  | [x,y],_=>exact⟨x,y,rfl⟩
 exact⟨x,y,by rw[←Array.toArray_toList (xs:=z.cells),a]⟩
theorem yF(a b:Bool)(c e:Int)(z:Value)(h:z.cells.size=2):Instr.fill (fun i=>some (i*2,2)) ((Array.range (2*2)).map (z.cells[· % z.cells.size]!)) [(0,.agg #[.bool a,int i64 c]),(1,.agg #[.bool b,int i64 e])]=some (eR [(a,c),(b,e)]).toArray:=by
 obtain⟨x,y,f⟩:=size2 h;rw[f]
 kernel_rfl
theorem yB(a b c:Bool)(e f g:Int)(z:Value)(h:z.cells.size=2):Instr.fill (fun i=>some (i*2,2)) ((Array.range (3*2)).map (z.cells[· % z.cells.size]!)) [(0,.agg #[.bool a,int i64 e]),(1,.agg #[.bool b,int i64 f]),(2,.agg #[.bool c,int i64 g])]=some (eR [(a,e),(b,f),(c,g)]).toArray:=by
 obtain⟨x,y,j⟩:=size2 h;rw[j]
 kernel_rfl
theorem gV{o:Oper}{a:Act}{W:World}{G:Value→World→Prop}{L:Nat}(b c:Bool)(f g:Int)(x y:Operand)(h:o.op=.buildSlice 174 2 #[(0,x),(1,y)])(i:a.eval x=.agg #[.bool b,int i64 f])(j:a.eval y=.agg #[.bool c,int i64 g])(k:L≤W.heap.size)
  (m:∀v W',Ft W W'→cz L [(b,f),(c,g)] W' v→G v W'):RE.Upon Tryz.prog o a W G:=by
 refine mh (l:=[(b,f),(c,g)]) h rfl (by decide) (fun z n=>?_) k m;have e:((#[(0,x),(1,y)]:Array (Nat×Operand)).map fun (q:Nat×Operand)=>(q.1,a.eval q.2)).toList=[(0,a.eval x),(1,a.eval y)]:=by simp
 rw[e,i,j];exact yF b c f g z n
theorem gQ{o:Oper}{a:Act}{W:World}{G:Value→World→Prop}{L:Nat}(b c f:Bool)(g h i:Int)(x y u:Operand)(j:o.op=.buildSlice 174 3 #[(0,x),(1,y),(2,u)])(k:a.eval x=.agg #[.bool b,int i64 g])(m:a.eval y=.agg #[.bool c,int i64 h])(hu:a.eval u=.agg #[.bool f,int i64 i])(n:L≤W.heap.size)
  (p:∀v W',Ft W W'→cz L [(b,g),(c,h),(f,i)] W' v→G v W'):RE.Upon Tryz.prog o a W G:=by
 refine mh (l:=[(b,g),(c,h),(f,i)]) j rfl (by decide) (fun z r=>?_) n p;have e:((#[(0,x),(1,y),(2,u)]:Array (Nat×Operand)).map fun (q:Nat×Operand)=>(q.1,a.eval q.2)).toList=[(0,a.eval x),(1,a.eval y),(2,a.eval u)]:=by simp
 rw[e,k,m,hu];exact yB b c f g h i z r
def st5(W:World) (g:Nat) (a b c d e:Value):World:=((((W.setCell ⟨g,0,none⟩ a).setCell ⟨g,1,none⟩ b).setCell ⟨g,2,none⟩ c).setCell ⟨g,3,none⟩ d).setCell ⟨g,4,none⟩ e
theorem un{W:World}{g:Nat}{f i x2 x3 x4:Value}{t:TypeId}(h:W.heap[g]?=some (.cells #[f,i,x2,x3,x4] t (0,0)))(a b c d e:Value):(st5 W g a b c d e).heap[g]?=some (.cells #[a,b,c,d,e] t (0,0)):=
 heap_set (heap_set (heap_set (heap_set (heap_set h 0 a) 1 b) 2 c) 3 d) 4 e
theorem rP{B:Nat}{w W:World}{g:Nat}(h:Below B w W)(f:B≤g)(a b c d e:Value):Below B w (st5 W g a b c d e):=
 ((((h.setCell f a).setCell f b).setCell f c).setCell f d).setCell f e
theorem AK{W:World}{g:Nat}(a b c d e:Value)(k:Nat)(h:k≠g):(st5 W g a b c d e).heap[k]?=W.heap[k]?:=by
 have f:∀(V:World) (i:Nat) (u:Value),(V.setCell ⟨g,i,none⟩ u).heap[k]?=V.heap[k]?:=fun V i u=>ED V ⟨g,i,none⟩ u k h
 unfold st5;rw[f,f,f,f,f]
theorem Cj{W:World}{g:Nat}(a b c d e:Value):(st5 W g a b c d e).heap.size=W.heap.size:=by simp[st5,World.setCell]
theorem nz(W:World)(g:Ending→World→Prop)(T:Nat)(a b c d e:Value)(h:W.heap[T]?=some (.cells #[a,b,c,d,e] 55 (0,0)))
  (tmps:Array Value) (i:tmps.getD 6 undef=.pointer (some ⟨T,0,none⟩)) (j:g (.returned (.agg #[a,b,c,d,e])) W):bodyPost Tryz.prog Tryz.f112 g .ret ⟨tmps,[]⟩ W:=by
 obtain⟨k,l,c2,m,c4⟩:=cells5 h;have f:tmps[6]?.getD undef=.pointer (some ⟨T,0,none⟩):=by simpa using i
 refine bodyPost_ret (v:=.agg #[a,b,c,d,e]) ?_ rfl j;simp[results,Tryz.results112,go_sem,f,k,l,c2,m,c4]
theorem cp{F G:Nat→Prop}{a b c:World}(h:Chg F a b)(k:Chg G b c)(g:∀x,G x→F x∨a.heap.size≤x):Chg F a c:=
 ⟨k.os.trans h.os,k.tape.trans h.tape,k.output.trans h.output,EG h.size k.size,fun i e f=>(k.block i (EF e h.size) (fun j=>by rcases g i j with h|h;exact f h;omega)).trans (h.block i e f)⟩
def Grew(v a:Value) (n:Nat):Prop:=∀b,a.ownBlock=some b→v.ownBlock=some b∨n≤b
def lh(F:Nat→Prop) (d M:Nat) (ts:List ai) (rs:List aj) (_vars:List ByteArray) (nm:ByteArray) (sal nv:Int) (cs:List aC) (acs:List aT) (vT vR vV vC vA:Value) (r:Except Flt (List ByteArray×cg)) (w:World) (e:Ending) (w':World):Prop:=
 Chg (aL M [vT,vR,vV,vC,vA]) w w'∧match r with
 | .ok x=>e=.returned (.agg (cU x.2).toArray)∧∃a,MkW F d M ts rs x.1 nm sal nv cs acs vT vR a vC vA w'∧Grew vV a w.heap.size
 | .error er=>e=aJ er.1 er.2
theorem wI(F:Nat→Prop)(d M:Nat)(ts:List ai)(rs:List aj)(vars:List ByteArray)(nm:ByteArray)(sal nv:Int)(cs:List aC)(acs:List aT)(vT vR vV vC vA:Value)(T:ac)(p:Option Addr)(n c:Nat)(binds:Bool)(w:World)
  (hw:MkW F d M ts rs vars nm sal nv cs acs vT vR vV vC vA w) (hk:T.kind=12∨T.kind=13∨T.kind=14∨T.kind=15) (hs:T.text.size≤72007) (b7:vars.length≤16) :
  Calls Tryz.prog 112 #[.pointer (some ⟨M,0,none⟩),.agg #[int .u8 T.kind,.string T.text,int i64 T.num,int i64 T.place,.slice p n c],.bool binds] w (lh F d M ts rs vars nm sal nv cs acs vT vR vV vC vA (bI binds vars T) w):=by
 have ad:Ft w ((w.alloc (.cells #[int .u8 T.kind,.string T.text,int i64 T.num,int i64 T.place,.slice p n c] 76)).alloc (.cells #[int .u8 0,int i64 0,int .u8 0,int i64 0,string ⟨#[]⟩] 55)):=((EB _ w).alloc (EA _) _).alloc (by simp) _;have av:T.kind=12∨¬T.kind=12:=by omega
 rcases av with R|R
 ·have HO:Hid (bI binds vars T=.ok (vars,⟨1,0,.zero⟩)):=by show _=_;unfold bI;rw[R];rfl
  have u:Ft w ((w.alloc (.cells #[int .u8 12,.string T.text,int i64 T.num,int i64 T.place,.slice p n c] 76)).alloc (.cells #[int .u8 1,int i64 0,int .u8 0,int i64 0,string ⟨#[]⟩] 55)):=((EB _ w).alloc (EA _) _).alloc (by simp) _;obtain⟨_,S,_⟩:=am w (.cells #[int .u8 12,.string T.text,int i64 T.num,int i64 T.place,.slice p n c] 76) (.cells #[int .u8 1,int i64 0,int .u8 0,int i64 0,string ⟨#[]⟩] 55);have HX:=Hd S;have HP:Hid (lh F d M ts rs vars nm sal nv cs acs vT vR vV vC vA (bI binds vars T) w (.returned (.agg #[int .u8 1,int i64 0,int .u8 0,int i64 0,string ⟨#[]⟩])) ((w.alloc (.cells #[int .u8 12,.string T.text,int i64 T.num,int i64 T.place,.slice p n c] 76)).alloc (.cells #[int .u8 1,int i64 0,int .u8 0,int i64 0,string ⟨#[]⟩] 55))):=by
   refine⟨Chg.of_below u,?_⟩;rw[HO.o];exact⟨rfl,vV,hw.below u,fun b j=>Or.inl j⟩
  rw[R];clear hw ad u S hk R HO
  go_enter Tryz.func112,Tryz.ntmps112
  go_wp2_with fail
  exact nz _ _ (w.heap.size+1) _ _ _ _ _ HX.o _ rfl HP.o
 obtain⟨w1,U⟩:=zzx ((w.alloc (.cells #[int .u8 T.kind,.string T.text,int i64 T.num,int i64 T.place,.slice p n c] 76)).alloc (.cells #[int .u8 0,int i64 0,int .u8 0,int i64 0,string ⟨#[]⟩] 55));obtain⟨af,S,_⟩:=am w (.cells #[int .u8 T.kind,.string T.text,int i64 T.num,int i64 T.place,.slice p n c] 76) (.cells #[int .u8 0,int i64 0,int .u8 0,int i64 0,string ⟨#[]⟩] 55);rw[←U]at ad af S;have t:=Hd ad;have I:=Hd af;have V:=Hd S;have HW:=Hd hw;have a1:=Hd (hw.below ad);clear hw ad af S
 by_cases bc:T.kind=13
 ·obtain⟨D,G,rfl⟩:=a1.o.v.shape;obtain⟨a,bd⟩:=zzy (vars.length);have hm:=a1.o.m;have ct:=Hd hm;have HI:=Hd (fun (x:Wb w1)=>rN vars T.text (.slice D vars.length G) (fun _=>True) x.1 ((a1.o.below x.2).v.row (fun _ _=>trivial) (fun _ _=>trivial)));have HN:=Hd bd;have HO:Hid (bI binds vars T=match idxOf T.text vars with|some k=>.ok (vars,⟨3,k,.zero⟩)|none=>if !binds then .error (213,T.place) else if 16≤vars.length then .error (204,T.place) else .ok (vars++[T.text],⟨2,vars.length,.zero⟩)):=by show _=_;unfold bI;rw[bc];rfl
  rw[bd]at HI hm b7;obtain⟨e0,X,e2,e3,e4⟩:=cells5 I.o;have A:w1.cell? ⟨M,2,none⟩=some (.slice D a G):=by rw[Fq _ _ _ _ _ _ hm];rfl
  rw[bc]at U e0 I ⊢;clear R hk hm bd
  go_enter Tryz.func112,Tryz.ntmps112
  go_upto_region 5 with fail
  change Code.wp _ _ _ _ ((w.alloc (.cells #[int .u8 13,.string T.text,int i64 T.num,int i64 T.place,.slice p n c] 76)).alloc (.cells #[int .u8 0,int i64 0,int .u8 0,int i64 0,string ⟨#[]⟩] 55));rw[show (w.alloc (.cells #[int .u8 13,.string T.text,int i64 T.num,int i64 T.place,.slice p n c] 76)).alloc (.cells #[int .u8 0,int i64 0,int .u8 0,int i64 0,string ⟨#[]⟩] 55)=w1 from U.symm];clear U;have X1:=fun x:Wb w1=>x.cell X
  have M2:=fun x:Wb w1=>x.cell A
  refine ae (by kernel_rfl) (by kernel_rfl) ?_
  repeat (go_big_quiet_step ((go_at_call 156;exact Calls.below_of (HI.o _))))
  refine wpQuiet_nil ?_;intro W2 b0;have u:=az b0;have l:=Hd u;have b8:=Hd (a1.o.below u);clear b0 u X1 M2 HI e0 X e2 e3 e4 A
  cases a6:idxOf T.text vars with
  | some k =>
   rw[a6]at HO;clear a6;rw[show dR (some k)=(k:Int) from rfl];have cv:(0:Int)≤k:=by omega
   have q:=aa l.o V.o (Ez.1 V.o).1;obtain⟨e0,X,e2,e3,e4⟩:=cells5 q;have g0:=ab q 0;have g1:=ab q 1;have g2:=ab q 2;have g3:=ab q 3;have g4:=ab q 4;have HP:Hid (lh F d M ts rs vars nm sal nv cs acs vT vR (.slice D vars.length G) vC vA (bI binds vars T) w (.returned (.agg #[int .u8 3,int i64 (k:Int),int .u8 0,int i64 0,string ⟨#[]⟩])) (st5 W2 (w.heap.size+1) (int .u8 3) (int i64 (k:Int)) (int .u8 0) (int i64 0) (string ⟨#[]⟩))):=by
    have ak:=rP (t.o.trans (l.o.mono t.o.size)) (EV w.heap.size) (int .u8 3) (int i64 (k:Int)) (int .u8 0) (int i64 0) (string ⟨#[]⟩);refine⟨Chg.of_below ak,?_⟩;rw[HO.o];exact⟨rfl,_,HW.o.below ak,fun b j=>Or.inl j⟩
   have an:=Hd (un q (int .u8 3) (int i64 (k:Int)) (int .u8 0) (int i64 0) (string ⟨#[]⟩));clear q;go_wp2_with fail
   exact nz _ _ (w.heap.size+1) _ _ _ _ _ an.o _ rfl HP.o
  | none =>
   rw[a6]at HO;clear a6;rw[show dR none=(-1:Int) from rfl];have af:=aa l.o I.o (Ez.1 I.o).1;obtain⟨e0,X,e2,e3,e4⟩:=cells5 af;have A:W2.cell? ⟨M,2,none⟩=some (.slice D a G):=by rw[Fq _ _ _ _ _ _ b8.o.m,←HN.o];rfl
   have E0:=fun x:Wb W2=>x.cell e0
   have E1:=fun x:Wb W2=>x.cell X
   have E2:=fun x:Wb W2=>x.cell e2
   have E3:=fun x:Wb W2=>x.cell e3
   have E4:=fun x:Wb W2=>x.cell e4
   have M2:=fun x:Wb W2=>x.cell A
   go_wp2_with fail
   cases binds with
   | false =>
    by_cases bk:16≤a
    ·have bl:(16:Int)≤a:=by omega
     refine RE.wp_region_eff (by kernel_rfl) 12 [11] [] (fun _ W=>∃x:Wb W2,W=x.1) (fun W W'=>Ft W W') (fun i r=>r.getD 0 undef) (fun i W r=>if i=11 then cz W2.heap.size [(true,213),(true,204)] W (r.getD 0 undef) else True) (by kernel_rfl) (fun _ _ _ _ _ _ h j=>ci h j) (fun i W W' r h _ j=>by split at h;(rw[n9 (by assumption)];exact h.below j);rw[n8 (by assumption)];trivial) ⟨⟨W2.drew,(EB _ _).drew⟩,rfl⟩ ?_;simp only[EK,ET,EL,ES]
     repeat (refine RE.wpE_read (fun W=>∃x:Wb W2,W=x.1) (fun _ _ _ h=>h) rfl rfl rfl ⟨⟨W2.drew,(EB _ _).drew⟩,rfl⟩ ?_;go_big_quiet_step (fail);refine wpQuiet_nil ?_)
     refine RE.wpE_turn rfl rfl ?_ (fun r=>?_)
     ·intro W Y _ B;obtain⟨s9,_,x,rfl⟩:=Y;exact gV true true 213 204 _ _ rfl rfl rfl x.2.size (fun v W' j ho=>⟨[v],rfl,j,j,ho⟩)
     simp only[Act.put,EC,EI,EH];refine RE.wpE_nil ?_;intro W J B;obtain⟨x,rfl⟩:=J;obtain⟨g,O,lg,P⟩:cz W2.heap.size [(true,213),(true,204)] x.1 (r.getD 0 undef):=B 11 r rfl;rw[O];have L:=Hd (bV [(true,213),(true,204)] 13 T.text T.num T.place (.slice p n c) g 2 2 x.1 rfl (by omega) P);have y:=Hd (t.o.trans ((l.o.trans (x.2.mono l.o.size)).mono t.o.size));have N:=Hd x.2;clear B O lg P E0 E1 E2 E3 E4 M2;go_wp2_with fail
     refine L.o.mono ?_;rintro e H ⟨C,he⟩;have he:e=aJ 213 T.place:=he;subst he;refine⟨rfl,Chg.of_below (y.o.trans (C.mono y.o.size)),?_⟩;rw[HO.o];rfl
    ·have bl:¬((16:Int)≤a):=by omega
     refine RE.wp_region_eff (by kernel_rfl) 12 [11] [] (fun _ W=>∃x:Wb W2,W=x.1) (fun W W'=>Ft W W') (fun i r=>r.getD 0 undef) (fun i W r=>if i=11 then cz W2.heap.size [(true,213),(false,204)] W (r.getD 0 undef) else True) (by kernel_rfl) (fun _ _ _ _ _ _ h j=>ci h j) (fun i W W' r h _ j=>by split at h;(rw[n9 (by assumption)];exact h.below j);rw[n8 (by assumption)];trivial) ⟨⟨W2.drew,(EB _ _).drew⟩,rfl⟩ ?_;simp only[EK,ET,EL,ES]
     repeat (refine RE.wpE_read (fun W=>∃x:Wb W2,W=x.1) (fun _ _ _ h=>h) rfl rfl rfl ⟨⟨W2.drew,(EB _ _).drew⟩,rfl⟩ ?_;go_big_quiet_step (fail);refine wpQuiet_nil ?_)
     refine RE.wpE_turn rfl rfl ?_ (fun r=>?_)
     ·intro W Y _ B;obtain⟨s9,_,x,rfl⟩:=Y;exact gV true false 213 204 _ _ rfl rfl rfl x.2.size (fun v W' j ho=>⟨[v],rfl,j,j,ho⟩)
     simp only[Act.put,EC,EI,EH];refine RE.wpE_nil ?_;intro W J B;obtain⟨x,rfl⟩:=J;obtain⟨g,O,lg,P⟩:cz W2.heap.size [(true,213),(false,204)] x.1 (r.getD 0 undef):=B 11 r rfl;rw[O];have L:=Hd (bV [(true,213),(false,204)] 13 T.text T.num T.place (.slice p n c) g 2 2 x.1 rfl (by omega) P);have y:=Hd (t.o.trans ((l.o.trans (x.2.mono l.o.size)).mono t.o.size));have N:=Hd x.2;clear B O lg P E0 E1 E2 E3 E4 M2;go_wp2_with fail
     refine L.o.mono ?_;rintro e H ⟨C,he⟩;have he:e=aJ 213 T.place:=he;subst he;refine⟨rfl,Chg.of_below (y.o.trans (C.mono y.o.size)),?_⟩;rw[HO.o];rfl
   | true =>
    by_cases bk:16≤a
    ·have bl:(16:Int)≤a:=by omega
     have aq:16≤vars.length:=by rw[HN.o];exact bk
     refine RE.wp_region_eff (by kernel_rfl) 12 [11] [] (fun _ W=>∃x:Wb W2,W=x.1) (fun W W'=>Ft W W') (fun i r=>r.getD 0 undef) (fun i W r=>if i=11 then cz W2.heap.size [(false,213),(true,204)] W (r.getD 0 undef) else True) (by kernel_rfl) (fun _ _ _ _ _ _ h j=>ci h j) (fun i W W' r h _ j=>by split at h;(rw[n9 (by assumption)];exact h.below j);rw[n8 (by assumption)];trivial) ⟨⟨W2.drew,(EB _ _).drew⟩,rfl⟩ ?_;simp only[EK,ET,EL,ES]
     repeat (refine RE.wpE_read (fun W=>∃x:Wb W2,W=x.1) (fun _ _ _ h=>h) rfl rfl rfl ⟨⟨W2.drew,(EB _ _).drew⟩,rfl⟩ ?_;go_big_quiet_step (fail);refine wpQuiet_nil ?_)
     refine RE.wpE_turn rfl rfl ?_ (fun r=>?_)
     ·intro W Y _ B;obtain⟨s9,_,x,rfl⟩:=Y;exact gV false true 213 204 _ _ rfl rfl rfl x.2.size (fun v W' j ho=>⟨[v],rfl,j,j,ho⟩)
     simp only[Act.put,EC,EI,EH];refine RE.wpE_nil ?_;intro W J B;obtain⟨x,rfl⟩:=J;obtain⟨g,O,lg,P⟩:cz W2.heap.size [(false,213),(true,204)] x.1 (r.getD 0 undef):=B 11 r rfl;rw[O];have L:=Hd (bV [(false,213),(true,204)] 13 T.text T.num T.place (.slice p n c) g 2 2 x.1 rfl (by omega) P);have y:=Hd (t.o.trans ((l.o.trans (x.2.mono l.o.size)).mono t.o.size));have N:=Hd x.2;clear B O lg P E0 E1 E2 E3 E4 M2;go_wp2_with fail
     refine L.o.mono ?_;rintro e H ⟨C,he⟩;have he:e=aJ 204 T.place:=he;subst he;refine⟨rfl,Chg.of_below (y.o.trans (C.mono y.o.size)),?_⟩;rw[HO.o];rw[n8 (by simp),n9 aq];rfl
    ·have bl:¬((16:Int)≤a):=by omega
     have aq:¬16≤vars.length:=by rw[HN.o];exact bk
     refine RE.wp_region_eff (by kernel_rfl) 12 [11] [] (fun _ W=>∃x:Wb W2,W=x.1) (fun W W'=>Ft W W') (fun i r=>r.getD 0 undef) (fun i W r=>if i=11 then cz W2.heap.size [(false,213),(false,204)] W (r.getD 0 undef) else True) (by kernel_rfl) (fun _ _ _ _ _ _ h j=>ci h j) (fun i W W' r h _ j=>by split at h;(rw[n9 (by assumption)];exact h.below j);rw[n8 (by assumption)];trivial) ⟨⟨W2.drew,(EB _ _).drew⟩,rfl⟩ ?_;simp only[EK,ET,EL,ES]
     repeat (refine RE.wpE_read (fun W=>∃x:Wb W2,W=x.1) (fun _ _ _ h=>h) rfl rfl rfl ⟨⟨W2.drew,(EB _ _).drew⟩,rfl⟩ ?_;go_big_quiet_step (fail);refine wpQuiet_nil ?_)
     refine RE.wpE_turn rfl rfl ?_ (fun r=>?_)
     ·intro W Y _ B;obtain⟨s9,_,x,rfl⟩:=Y;exact gV false false 213 204 _ _ rfl rfl rfl x.2.size (fun v W' j ho=>⟨[v],rfl,j,j,ho⟩)
     simp only[Act.put,EC,EI,EH];refine RE.wpE_nil ?_;intro W J B;obtain⟨x,rfl⟩:=J;obtain⟨g,O,lg,P⟩:cz W2.heap.size [(false,213),(false,204)] x.1 (r.getD 0 undef):=B 11 r rfl;rw[O];have L:=Hd (bV [(false,213),(false,204)] 13 T.text T.num T.place (.slice p n c) g 2 2 x.1 rfl (by omega) P);have y:=Hd (t.o.trans ((l.o.trans (x.2.mono l.o.size)).mono t.o.size));have N:=Hd x.2;clear B O lg P E0 E1 E2 E3 E4 M2;go_wp2_with fail
     refine L.o.mono ?_;rintro e H ⟨C,he⟩;have he:e=.returned (.tuple #[]):=he;subst he;have b9:Hid (bI true vars T=.ok (vars++[T.text],⟨2,vars.length,.zero⟩)):=by show _=_;rw[HO.o];rw[n8 (by simp),n8 aq]
     have bn:=Hd (y.o.trans (C.mono y.o.size));have bq:=Hd (aa (l.o.trans ((N.o.trans (C.mono N.o.size)).mono l.o.size)) I.o (Ez.1 I.o).1);have a7:=Hd (aa (l.o.trans ((N.o.trans (C.mono N.o.size)).mono l.o.size)) V.o (Ez.1 V.o).1);have z:=Hd (HW.o.below bn.o);clear C e0 X e2 e3 e4 A;obtain⟨us,ar,b1⟩:=z.o.v;have a8:=b1;rw[HN.o]at ar;have b2:=Hd ar;have ca:=Hd a8;obtain⟨e0,X,e2,e3,e4⟩:=cells5 bq.o;have A:H.cell? ⟨M,2,none⟩=some (.slice D a G):=by rw[Fq _ _ _ _ _ _ z.o.m,←HN.o];rfl
     have hK:∀b,(b=M∨b=w.heap.size)→b<H.heap.size∧(slice D a G).ownBlock≠some b:=fun b j=>by
      rw[←HN.o];rcases j with rfl|rfl
      ·exact⟨z.o.lt,row_ne z.o.m z.o.v (by decide)⟩
      ·exact⟨(Ez.1 bq.o).1,row_ne bq.o z.o.v (by decide)⟩
     have b3:=Hd (jh (E:=9) (sz:=1) (row:=us++[.string T.text]) (K:=fun b=>b=M∨b=w.heap.size) hK);have E1:=fun x:Ks H (fun b=>b=M∨b=w.heap.size)=>x.cell (Or.inr rfl) X
     have M2:=fun x:Ks H (fun b=>b=M∨b=w.heap.size)=>x.cell (Or.inl rfl) A
     clear ar b1 a8 e0 X e2 e3 e4 A hK;go_wp2_with fail
     refine RE.wp_region_eff (by kernel_rfl) 9 [7,8] [8] (stA 9 1 H D a G (us++[.string T.text])) (ApR H) (fun _ r=>r.getD 0 undef) (phA 9 1 H D a G [.string T.text] (us++[.string T.text]) 7 8) (by kernel_rfl) (fun _ _ _ _ _ _ h j=>h.below j) (fun _ _ _ _ h _ hR=>h.keep hR) stA.zero ?_;simp only[EK,ET,EL,ES]
     repeat (refine RE.wpE_read (fun W=>∃x:Ks H (fun b=>b=M∨b=w.heap.size),W=x.1) (b3.o _) rfl rfl rfl stA.zero ?_;go_big_quiet_step (fail);refine wpQuiet_nil ?_)
     refine RE.wpE_turn rfl rfl ?_ (fun cc=>?_)
     ·intro W Y J B;obtain⟨s9,_,h9⟩:=Y;exact dB xl (vs:=[.string T.text]) _ rfl rfl rfl h9.size (fun v W' j ho=>⟨[v],rfl,j,ApR.of_below j,ho⟩)
     simp only[Act.put,EC,EI,EH];refine RE.wpE_turn rfl rfl ?_ (fun b4=>?_)
     ·intro W Y J B;obtain⟨x,rfl⟩:∃x:Wb H,W=x.1:=J rfl;exact fZ xl (p:=D) (n:=a) (c:=G) (w4:=H) (vs:=[.string T.text]) (xs:=us) _ _ rfl rfl (B 7 cc (by kernel_rfl) rfl) rfl (by simp[Value.oneCell']) x.2 b2.o (by omega) (fun v' W' h1 h2 h3=>⟨[v'],rfl,h1,h2,h3⟩)
     simp only[Act.put,EC,EI,EH];refine RE.wpE_nil ?_;intro W J B;have J:ApS 9 1 H D a G (us++[.string T.text]) W:=J;have hV:ApV 9 1 H D a G (us++[.string T.text]) W (b4.getD 0 undef):=B 8 b4 rfl;obtain⟨g',cap,O,P,Y,ba⟩:=hU J hV;rw[O];have br:Chg (fun b=>(slice D vars.length G).ownBlock=some b) H W:=by rw[HN.o];exact Y
     have bt:(slice D vars.length G).ownBlock=some g'∨H.heap.size≤g':=by rw[HN.o];exact P
     obtain⟨Z,bB,bR⟩:=z.o.pushV (x:=T.text) HN.o ca.o ⟨rfl,by unfold maxLen;omega⟩ bt br ba;have A:W.cell? ⟨M,2,none⟩=some (.slice D a G):=by rw[Fq _ _ _ _ _ _ (bR.trans z.o.m),←HN.o];rfl
     have ch:=ao (bR.trans z.o.m) 2;have b5:W.heap[w.heap.size+1]?=some (.cells #[int .u8 0,int i64 0,int .u8 0,int i64 0,string ⟨#[]⟩] 55 (0,0)):=(br.block _ (Ez.1 a7.o).1 (row_ne a7.o z.o.v (by decide))).trans a7.o;have bb:w.heap.size+1≠M:=fun e=>z.o.not_own a7.o (by kernel_rfl) (Or.inl e)
     obtain⟨W6,Q⟩:=zzx (W.setCell ⟨M,2,none⟩ (slice (some ⟨g',0,none⟩) (a+1) cap));have s:W6.heap[w.heap.size+1]?=some (.cells #[int .u8 0,int i64 0,int .u8 0,int i64 0,string ⟨#[]⟩] 55 (0,0)):=by rw[Q];exact (ED W ⟨M,2,none⟩ _ _ bb).trans b5
     rw[←Q]at Z bB;have cx:=Hd Z;have an:=Hd (un s (int .u8 2) (int i64 (a:Int)) (int .u8 0) (int i64 0) (string ⟨#[]⟩));have HP:Hid (lh F d M ts rs vars nm sal nv cs acs vT vR (.slice D vars.length G) vC vA (bI true vars T) w (.returned (.agg #[int .u8 2,int i64 (a:Int),int .u8 0,int i64 0,string ⟨#[]⟩])) (st5 W6 (w.heap.size+1) (int .u8 2) (int i64 (a:Int)) (int .u8 0) (int i64 0) (string ⟨#[]⟩))):=by
      have ck:=Z.not_own s (by kernel_rfl)
      have cl:=Z.upd (W':=st5 W6 (w.heap.size+1) (int .u8 2) (int i64 (a:Int)) (int .u8 0) (int i64 0) (string ⟨#[]⟩)) (by rw[Cj];exact EA _) (fun b j=>AK _ _ _ _ _ b (by
       rcases j with j|j
       ·have:=(HW.o.f b j).1;omega
       ·exact fun e=>ck (e ▸ j)))
      have cq:Chg (aL M [vT,vR,.slice D vars.length G,vC,vA]) w W6:=cp (Chg.of_below bn.o) bB (fun x hx=>Or.inl hx);have cr:Chg (aL M [vT,vR,.slice D vars.length G,vC,vA]) w (st5 W6 (w.heap.size+1) (int .u8 2) (int i64 (a:Int)) (int .u8 0) (int i64 0) (string ⟨#[]⟩)):=((((cq.setCell (Or.inr (EV _)) _).setCell (Or.inr (EV _)) _).setCell (Or.inr (EV _)) _).setCell (Or.inr (EV _)) _).setCell (Or.inr (EV _)) _;refine⟨cr,?_⟩;rw[b9.o];refine⟨by rw[←HN.o];rfl,_,cl,fun b j=>?_⟩;injection j with j
      have j:g'=b:=j;subst j;rcases bt with h|h
      ·exact Or.inl h
      ·have:=bn.o.size;exact Or.inr (by omega)
     obtain⟨e0,X,e2,e3,e4⟩:=cells5 s;have g0:=ab s 0;have g1:=ab s 1;have g2:=ab s 2;have g3:=ab s 3;have g4:=ab s 4;have cA:W6.cell? ⟨M,2,none⟩=some (slice (some ⟨g',0,none⟩) (a+1) cap):=by rw[Fq _ _ _ _ _ _ Z.m];rfl
     clear J hV B O P Y ba br bt Z bB bR b5 s E1 M2 b3 bb;go_upto_region 10 with fail
     change Code.wp _ _ _ _ (W.setCell ⟨M,2,none⟩ (slice (some ⟨g',0,none⟩) (a+1) cap));rw[←Q];clear Q A ch;go_wp2_with fail
     exact nz _ _ (w.heap.size+1) _ _ _ _ _ an.o _ rfl HP.o
 ·have b6:T.kind=14∨T.kind=15:=by omega
  have HO:Hid (bI binds vars T=.ok (vars,⟨4,0,bC T⟩)):=by
   show _=_
   unfold bI;rcases b6 with h|h<;>rw[h]<;>rfl
  have cC:¬((T.kind:Int)=12):=by omega
  have cR:¬((T.kind:Int)=13):=by omega
  have HC:Hid (Calls Tryz.prog 157 #[.agg #[int .u8 T.kind,.string T.text,int i64 T.num,int i64 T.place,.slice p n c]] w1 fun e w'=>e=.returned (.agg #[int .u8 (bC T).kind,int i64 (bC T).num,.string (bC T).text])∧Ft w1 w'):=qY T (.slice p n c) w1 b6 hs;obtain⟨e0,X,e2,e3,e4⟩:=cells5 I.o;clear hk R bc
  go_enter Tryz.func112,Tryz.ntmps112
  go_upto_region 11 with fail
  change Code.wp _ _ _ _ ((w.alloc (.cells #[int .u8 T.kind,.string T.text,int i64 T.num,int i64 T.place,.slice p n c] 76)).alloc (.cells #[int .u8 0,int i64 0,int .u8 0,int i64 0,string ⟨#[]⟩] 55));rw[←U];clear U;go_wp2_with fail
  refine HC.o.mono ?_;rintro e w2 ⟨rfl,u⟩;have q:=aa u V.o (Ez.1 V.o).1;have l:=Hd (t.o.trans (u.mono t.o.size));have an:=Hd (un q (int .u8 4) (int i64 0) (int .u8 (bC T).kind) (int i64 (bC T).num) (.string (bC T).text));have HP:Hid (lh F d M ts rs vars nm sal nv cs acs vT vR vV vC vA (bI binds vars T) w (.returned (.agg #[int .u8 4,int i64 0,int .u8 (bC T).kind,int i64 (bC T).num,.string (bC T).text])) (st5 w2 (w.heap.size+1) (int .u8 4) (int i64 0) (int .u8 (bC T).kind) (int i64 (bC T).num) (.string (bC T).text))):=by
   have ak:=rP l.o (EV w.heap.size) (int .u8 4) (int i64 0) (int .u8 (bC T).kind) (int i64 (bC T).num) (.string (bC T).text);refine⟨Chg.of_below ak,?_⟩;rw[HO.o];exact⟨rfl,_,HW.o.below ak,fun b j=>Or.inl j⟩
  clear u e0 X e2 e3 e4;obtain⟨e0,X,e2,e3,e4⟩:=cells5 q;have g0:=ab q 0;have g1:=ab q 1;have g2:=ab q 2;have g3:=ab q 3;have g4:=ab q 4;clear q;go_wp2_with fail
  exact nz _ _ (w.heap.size+1) _ _ _ _ _ an.o _ rfl HP.o
