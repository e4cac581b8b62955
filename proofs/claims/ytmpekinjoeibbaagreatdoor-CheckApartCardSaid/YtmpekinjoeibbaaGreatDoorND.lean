/- Parts of one proof, joined; conditions stand in each theorem. -/
import Derived.Test.YtmpekinjoeibbaaGreatDoorNC
import Derived.Test.YtmpekinjoeibbaaGreatDoorNA
open Go renaming Value→r3,World→p7,TypeId→vn,undef→tT,wpQuiet_nil→vk
open Option renaming some→A,none→V
open Go.Obj renaming cells→p8
open Go.Value renaming string→p9,int→I,slice→O,agg→s3,bool→ur,pointer→tv
open Go.IntKind renaming i64→Y,u8→J
open Or renaming inl→tE,inr→tS
open Bool renaming false→r7,true→r5
open Go.World renaming setCell→xD
open Go.Proofs.Tryz renaming prog→r6
open Go.Ending renaming returned→tF
open Except renaming ok→vb,error→wD
namespace Go.Proofs.YtmpekinjoeibbaaGreatDoor
set_option maxHeartbeats 4000000
set_option maxRecDepth 100000
open Go.RowKit
theorem xC(x:ByteArray):∀(l:List ByteArray),Lib.idxOfS l x=eh (idxOf x l):=by
 have h:∀(l:List ByteArray) (m:Nat),Lib.idxFromS l x m=eh (gl x l m):=by
  intro l
  induction l with
  | nil=>intro m;rfl
  | cons y l c =>
   intro m;unfold Lib.idxFromS gl
   by_cases h:y=x
   ·subst h;simp[eh]
   ·have f:(y.data.toList==x.data.toList)=false:=by
     rw[pr];intro e;apply h;obtain⟨⟨a⟩⟩:=y;obtain⟨⟨b⟩⟩:=x;have e:a=b:=e;rw[e]
    simp only[h,f,oX,Fx];exact c (m+1)
 exact fun l=>h l 0
def bf(M:Nat) (vs:List r3) (b:Nat):Prop:=b=M∨∃v∈vs,v.ownBlock=A b
def RCA(W:p7) (D:Nat→Prop) (d:Nat) (rs:List au) (cs:List aK) (acs:List bm) (vR vC vA:r3):Prop:=
 ∃e a c:Nat→Prop,(∀b,e b→D b)∧(∀b,a b→D b)∧(∀b,c b→D b)∧(∀b,e b→¬a b∧¬c b)∧(∀b,a b→¬c b)∧cO W e 39 (eU d) rs vR∧cO W a 53 (ft d) cs vC∧cO W c 59 (f6 d) acs vA
theorem RCA.t{W W':p7}{D f:Nat→Prop}{d:Nat}{rs:List au}{cs:List aK}{acs:List bm}{vR vC vA:r3}(h:RCA W D d rs cs acs vR vC vA)(hv:∀v∈[vR,vC,vA],∀g,v.ownBlock=A g→W'.heap[g]?=W.heap[g]?)
  (c:∀b,D b→∀o,W.heap[b]?=A o→W'.heap[b]?=A o) (e:∀b,D b→f b):RCA W' f d rs cs acs vR vC vA:=by
 obtain⟨l,m,n,i,j,k,p,q,r,s,t⟩:=h;exact⟨l,m,n,fun b a=>e b (i b a),fun b a=>e b (j b a),fun b a=>e b (k b a),p,q,r.t (hv _ (by simp)) (fun b a=>c b (i b a)) (fun _ h=>h),s.t (hv _ (by simp)) (fun b a=>c b (j b a)) (fun _ h=>h),t.t (hv _ (by simp)) (fun b a=>c b (k b a)) (fun _ h=>h)⟩
structure MkG (F D:Nat→Prop) (d M:Nat) (ts:List ap) (rs:List au) (vars:List ByteArray) (nm:ByteArray) (sal nv:Int) (cs:List aK) (acs:List bm) (vT vR vV vC vA:r3) (W:p7):Prop where
 f:∀b,F b→b<W.heap.size∧¬bf M [vT,vR,vV,vC,vA] b
 df:∀b,D b→F b
 m:W.heap[M]?=A (p8 #[vT,vR,vV,p9 nm,I Y sal,I Y nv,vC,vA] 98 (0,0))
 t:bF W F 41 cN ts vT
 v:bF W F 9 Rd.str vars vV
 rca:RCA W D d rs cs acs vR vC vA
abbrev MkW(F:Nat→Prop):=MkG F F
theorem row_ne{α:Type}{W:p7}{F:Nat→Prop}{E c:vn}{r:Rd α}{xs:List α}{v:r3}{M:Nat}{cs:Array r3}(hm:W.heap[M]?=A (p8 cs c (0,0)))(h:bF W F E r xs v)(b:E≠c):v.ownBlock≠A M:=fun e=>by
 obtain⟨f,a⟩:=h.h e;rw[hm]at a;injection a with a
 injection a with _ a
 exact b a.symm
theorem iI{α:Type}{W W' c:p7}{M:Nat}{F:Nat→Prop}{E:vn}{r:Rd α}{xs:List α}{v v2:r3}(h:bF c F E r xs v)(e:v.ownBlock≠A M)(f:Chg (fun x=>v2.ownBlock=A x) c W)(hv:∀g,v.ownBlock=A g→v2.ownBlock≠A g)
  (hF:∀b,F b→b<c.heap.size∧v2.ownBlock≠A b∧b≠M) (hw:∀b,b≠M→W'.heap[b]?=W.heap[b]?):bF W' F E r xs v:=
 (h.other f hv (fun b a=>⟨(hF b a).1,(hF b a).2.1⟩) (fun _ a=>a)).q e (fun b a=>(hF b a).2.2) (fun _ a=>a) hw
theorem rV{α:Type}{W W' c:p7}{M:Nat}{F:Nat→Prop}{E:vn}{r:Rd α}{xs:List α}{x:α}{v:r3}{us vs:List r3}{g cap n:Nat}(i:xs.length=n)(j:r.h c F xs us)(k:r.at_ c F x vs)(l:Chg (fun b=>v.ownBlock=A b) c W)(e:W.ownsRow 0 E r.n (O (A ⟨g,0,V⟩) (n+1) cap) (n+1) (us++vs))
  (hF:∀b,F b→b<c.heap.size∧v.ownBlock≠A b∧b≠M) (f:g≠M) (hw:∀b,b≠M→W'.heap[b]?=W.heap[b]?):bF W' F E r (xs++[x]) (O (A ⟨g,0,V⟩) (n+1) cap):=by
 have m:∀b,F b→∀o,c.heap[b]?=A o→W'.heap[b]?=A o:=fun b h o p=>(hw b (hF b h).2.2).trans ((l.q b (hF b h).1 (hF b h).2.1).trans p)
 refine⟨us++vs,?_,Rd.cells_keep m (Rd.cells_snoc j k)⟩;rw[Fl,i];exact bE e fun q a=>by
  injection a with a
  have a:g=q:=a;subst a;exact hw g f
section
variable {F F' D:Nat→Prop} {d M:Nat} {ts:List ap} {rs:List au} {vars:List ByteArray} {nm:ByteArray} {sal nv:Int} {cs:List aK} {acs:List bm} {vT vR vV vC vA:r3} {W W':p7}
theorem MkG.r(h:MkG F D d M ts rs vars nm sal nv cs acs vT vR vV vC vA W):bF W F 39 (eU d) rs vR:=by
 obtain⟨f,g,i,a,j,k,l,m,c,n,o⟩:=h.rca;exact c.h.N fun b e=>h.df b (a b e)
theorem MkG.c(h:MkG F D d M ts rs vars nm sal nv cs acs vT vR vV vC vA W):bF W F 53 (ft d) cs vC:=by
 obtain⟨g,i,j,k,a,l,m,n,o,e,p⟩:=h.rca;exact e.h.N fun b f=>h.df b (a b f)
theorem MkG.crow(h:MkG F D d M ts rs vars nm sal nv cs acs vT vR vV vC vA W):(ec d).y W (fun b=>b<W.heap.size) cs vC:=kf (jG d) (fun h=>ut h) (h.c.y (fun b a=>(h.f b a).1) (fun _ e=>h.c.lt e))
theorem MkG.a(h:MkG F D d M ts rs vars nm sal nv cs acs vT vR vV vC vA W):bF W F 59 (f6 d) acs vA:=by
 obtain⟨g,i,j,k,l,c,m,n,o,p,e⟩:=h.rca;exact e.h.N fun b f=>h.df b (c b f)
theorem MkG.lt(h:MkG F D d M ts rs vars nm sal nv cs acs vT vR vV vC vA W):M<W.heap.size:=(ES.1 h.m).1
theorem MkG.b(h:MkG F D d M ts rs vars nm sal nv cs acs vT vR vV vC vA W){b:Nat}(e:bf M [vT,vR,vV,vC,vA] b):b<W.heap.size:=by
 rcases e with rfl|⟨v,hv,e⟩
 ·exact h.lt
 ·simp only[FK,FH,o5]at hv;rcases hv with rfl|rfl|rfl|rfl|rfl
  ·exact h.t.lt e
  ·exact h.r.lt e
  ·exact h.v.lt e
  ·exact h.c.lt e
  ·exact h.a.lt e
theorem MkG.upd(h:MkG F D d M ts rs vars nm sal nv cs acs vT vR vV vC vA W)(c:W.heap.size≤W'.heap.size)(e:∀b,(F b∨bf M [vT,vR,vV,vC,vA] b)→W'.heap[b]?=W.heap[b]?):MkG F D d M ts rs vars nm sal nv cs acs vT vR vV vC vA W':=by
 have i:∀b,F b→∀o,W.heap[b]?=A o→W'.heap[b]?=A o:=fun b a o k=>(e b (tE a)).trans k
 have j:∀v∈[vT,vR,vV,vC,vA],∀g,v.ownBlock=A g→W'.heap[g]?=W.heap[g]?:=fun v hv g l=>e g (tS (tS ⟨v,hv,l⟩))
 exact⟨fun b a=>⟨EY (h.f b a).1 c,(h.f b a).2⟩,h.df,(e M (tS (tE Z))).trans h.m,h.t.t (j _ (by simp)) i (fun _ h=>h),h.v.t (j _ (by simp)) i (fun _ h=>h),h.rca.t (fun v hv=>j v (by simp only[FK,FH,o5]at hv ⊢;rcases hv with hv|hv|hv<;>simp[hv])) (fun b a=>i b (h.df b a)) (fun _ h=>h)⟩
theorem MkG.C(h:MkG F D d M ts rs vars nm sal nv cs acs vT vR vV vC vA W)(e:FS W W'):MkG F D d M ts rs vars nm sal nv cs acs vT vR vV vC vA W':=
 h.upd e.size fun b a=>e.block b (by rcases a with c|c;exact (h.f b c).1;exact h.b c)
theorem MkG.grow(h:MkG F D d M ts rs vars nm sal nv cs acs vT vR vV vC vA W)(a:∀b,F b→F' b)(c:∀b,F' b→b<W.heap.size∧¬bf M [vT,vR,vV,vC,vA] b):MkG F' D d M ts rs vars nm sal nv cs acs vT vR vV vC vA W:=
 ⟨c,fun b e=>a b (h.df b e),h.m,h.t.N a,h.v.N a,h.rca⟩
theorem MkG.q(h:MkG F D d M ts rs vars nm sal nv cs acs vT vR vV vC vA W){g:Nat}{xs:Array r3}{E:vn}(f:W.heap[g]?=A (p8 xs E (0,0)))(j:[98,41,39,9,53,59].contains E=r7):¬bf M [vT,vR,vV,vC,vA] g:=by
 have b:∀x∈[98,41,39,9,53,59],x≠E:=fun x k e=>by
  subst e;rw[List.contains_iff_mem.2 k]at j
  cases j
 rintro (rfl|⟨v,hv,i⟩)
 ·have:=h.m;rw[f]at this;injection this with this
  injection this with _ this
  exact b 98 (by simp) this.symm
 ·simp only[FK,FH,o5]at hv;rcases hv with rfl|rfl|rfl|rfl|rfl
  ·exact row_ne f h.t (b _ (by simp)) i
  ·exact row_ne f h.r (b _ (by simp)) i
  ·exact row_ne f h.v (b _ (by simp)) i
  ·exact row_ne f h.c (b _ (by simp)) i
  ·exact row_ne f h.a (b _ (by simp)) i
theorem MkG.pushV{l:p7}{x:ByteArray}{us vs:List r3}{g cap n:Nat}(h:MkG F D d M ts rs vars nm sal nv cs acs vT vR vV vC vA l)(E:vars.length=n)(H:Rd.str.h l F vars us)(K:Rd.str.at_ l F x vs)(i:vV.ownBlock=A g∨l.heap.size≤g)
  (s:Chg (fun b=>vV.ownBlock=A b) l W) (u:W.ownsRow 0 9 Rd.str.n (O (A ⟨g,0,V⟩) (n+1) cap) (n+1) (us++vs)) :
  MkG F D d M ts rs (vars++[x]) nm sal nv cs acs vT vR (O (A ⟨g,0,V⟩) (n+1) cap) vC vA (W.setCell ⟨M,2,V⟩ (O (A ⟨g,0,V⟩) (n+1) cap))∧Chg (bf M [vT,vR,vV,vC,vA]) l (W.setCell ⟨M,2,V⟩ (O (A ⟨g,0,V⟩) (n+1) cap))∧W.heap[M]?=l.heap[M]?:=by
 have q:=row_ne h.m h.v (by decide);have hw:∀b,b≠M→(W.setCell ⟨M,2,V⟩ (O (A ⟨g,0,V⟩) (n+1) cap)).heap[b]?=W.heap[b]?:=fun b j=>EW W ⟨M,2,V⟩ _ b j
 have C:W.heap[M]?=l.heap[M]?:=s.q M h.lt q;have y:g≠M:=by
  rcases i with i|i
  ·exact fun e=>q (e ▸ i)
  ·have:=h.lt;omega
 have hF:∀b,F b→b<l.heap.size∧vV.ownBlock≠A b∧b≠M:=fun b j=>⟨(h.f b j).1,fun e=>(h.f b j).2 (tS ⟨vV,by simp,e⟩),fun e=>(h.f b j).2 (tE e)⟩
 have z:(W.setCell ⟨M,2,V⟩ (O (A ⟨g,0,V⟩) (n+1) cap)).heap.size=W.heap.size:=by simp[xD]
 have L:∀b,F b→b<(W.setCell ⟨M,2,V⟩ (O (A ⟨g,0,V⟩) (n+1) cap)).heap.size∧¬bf M [vT,vR,(O (A ⟨g,0,V⟩) (n+1) cap),vC,vA] b:=fun b j=>by
  refine⟨by rw[z];exact EY (h.f b j).1 s.u,fun k=>?_⟩;rcases k with k|⟨v,hv,k⟩
  ·exact (hF b j).2.2 k
  ·by_cases B:v=(O (A ⟨g,0,V⟩) (n+1) cap)
   ·subst B;injection k with k
    have k:g=b:=k;subst k;rcases i with i|i
    ·exact (hF g j).2.1 i
    ·have:=(hF g j).1;omega
   ·refine (h.f b j).2 (tS ⟨v,?_,k⟩);simp only[FK,FH,o5]at hv ⊢;rcases hv with hv|hv|hv|hv|hv<;>simp_all
 have w:∀b,b<l.heap.size→vV.ownBlock≠A b→b≠M→(W.setCell ⟨M,2,V⟩ (O (A ⟨g,0,V⟩) (n+1) cap)).heap[b]?=l.heap[b]?:=fun b N P Q=>(hw b Q).trans (s.q b N P)
 refine⟨⟨L,h.df,?_,iI h.t (row_ne h.m h.t (by decide)) s (fun g i=>h.t.T h.v (by decide) i) hF hw,rV E H K s u hF y hw,h.rca.t (fun v hv g i=>?_) (fun b j o k=>(w b (hF b (h.df b j)).1 (hF b (h.df b j)).2.1 (hF b (h.df b j)).2.2).trans k) (fun _ h=>h)⟩,?_,C⟩
 ·exact heap_set (C.trans h.m) 2 _
 ·simp only[FK,FH,o5]at hv;rcases hv with rfl|rfl|rfl
  ·exact w g (h.r.lt i) (h.r.T h.v (by decide) i) (fun e=>row_ne h.m h.r (by decide) (e ▸ i))
  ·exact w g (h.c.lt i) (h.c.T h.v (by decide) i) (fun e=>row_ne h.m h.c (by decide) (e ▸ i))
  ·exact w g (h.a.lt i) (h.a.T h.v (by decide) i) (fun e=>row_ne h.m h.a (by decide) (e ▸ i))
 ·exact (Chg.N (G:=bf M [vT,vR,vV,vC,vA]) s (fun b j=>tS ⟨vV,by simp,j⟩)).t (p:=⟨M,2,V⟩) (tE (tE Z)) _
def zU(W:p7) (D:Nat→Prop) (d:Nat) (rs:List au) (cs:List aK) (acs:List bm) (vR vA:r3) (us:List r3):Prop:=
 ∃e a c:Nat→Prop,(∀b,e b→D b)∧(∀b,a b→D b)∧(∀b,c b→D b)∧(∀b,e b→¬a b∧¬c b)∧(∀b,a b→¬c b)∧cO W e 39 (eU d) rs vR∧(ft d).lcells W a cs us∧cO W c 59 (f6 d) acs vA
def A7(W:p7) (D:Nat→Prop) (d:Nat) (rs:List au) (cs:List aK) (acs:List bm) (vR vC:r3) (us:List r3):Prop:=
 ∃e a c:Nat→Prop,(∀b,e b→D b)∧(∀b,a b→D b)∧(∀b,c b→D b)∧(∀b,e b→¬a b∧¬c b)∧(∀b,a b→¬c b)∧cO W e 39 (eU d) rs vR∧cO W a 53 (ft d) cs vC∧(f6 d).lcells W c acs us
theorem MkG.cc(h:MkG F D d M ts rs vars nm sal nv cs acs vT vR vV vC vA W):∃us,W.ownsRow 0 53 (ft d).n vC cs.length us∧zU W D d rs cs acs vR vA us:=by
 obtain⟨a,b,c,e,f,g,i,j,k,⟨us,l,m⟩,o⟩:=h.rca;exact⟨us,l,a,b,c,e,f,g,i,j,k,m,o⟩
theorem MkG.aa(h:MkG F D d M ts rs vars nm sal nv cs acs vT vR vV vC vA W):∃us,W.ownsRow 0 59 (f6 d).n vA acs.length us∧A7 W D d rs cs acs vR vC us:=by
 obtain⟨a,b,c,e,f,g,i,j,k,l,us,m,o⟩:=h.rca;exact⟨us,m,a,b,c,e,f,g,i,j,k,l,o⟩
theorem MkG.pushC{k:p7}{H:Nat→Prop}{x:aK}{us vs:List r3}{g cap n:Nat}(h:MkG F D d M ts rs vars nm sal nv cs acs vT vR vV vC vA k)(X:cs.length=n)(hc:zU k D d rs cs acs vR vA us)(hx:(ft d).at_ k H x vs)(w:∀b,H b→F b∧¬D b)(l:vC.ownBlock=A g∨k.heap.size≤g)
  (u:Chg (fun b=>vC.ownBlock=A b) k W) (y:W.ownsRow 0 53 (ft d).n (O (A ⟨g,0,V⟩) (n+1) cap) (n+1) (us++vs)) :
  MkW F d M ts rs vars nm sal nv (cs++[x]) acs vT vR vV (O (A ⟨g,0,V⟩) (n+1) cap) vA (W.setCell ⟨M,6,V⟩ (O (A ⟨g,0,V⟩) (n+1) cap))∧Chg (bf M [vT,vR,vV,vC,vA]) k (W.setCell ⟨M,6,V⟩ (O (A ⟨g,0,V⟩) (n+1) cap))∧W.heap[M]?=k.heap[M]?:=by
 have s:=row_ne h.m h.c (by decide);have hw:∀b,b≠M→(W.setCell ⟨M,6,V⟩ (O (A ⟨g,0,V⟩) (n+1) cap)).heap[b]?=W.heap[b]?:=fun b i=>EW W ⟨M,6,V⟩ _ b i
 have R:W.heap[M]?=k.heap[M]?:=u.q M h.lt s;have C:g≠M:=by
  rcases l with l|l
  ·exact fun e=>s (e ▸ l)
  ·have:=h.lt;omega
 have hF:∀b,F b→b<k.heap.size∧vC.ownBlock≠A b∧b≠M:=fun b i=>⟨(h.f b i).1,fun e=>(h.f b i).2 (tS ⟨vC,by simp,e⟩),fun e=>(h.f b i).2 (tE e)⟩
 have E:(W.setCell ⟨M,6,V⟩ (O (A ⟨g,0,V⟩) (n+1) cap)).heap.size=W.heap.size:=by simp[xD]
 have hs:∀b,F b→b<(W.setCell ⟨M,6,V⟩ (O (A ⟨g,0,V⟩) (n+1) cap)).heap.size∧¬bf M [vT,vR,vV,(O (A ⟨g,0,V⟩) (n+1) cap),vA] b:=fun b i=>by
  refine⟨by rw[E];exact EY (h.f b i).1 u.u,fun q=>?_⟩;rcases q with q|⟨v,hv,q⟩
  ·exact (hF b i).2.2 q
  ·by_cases K:v=(O (A ⟨g,0,V⟩) (n+1) cap)
   ·subst K;injection q with q
    have q:g=b:=q;subst q;rcases l with l|l
    ·exact (hF g i).2.1 l
    ·have:=(hF g i).1;omega
   ·refine (h.f b i).2 (tS ⟨v,?_,q⟩);simp only[FK,FH,o5]at hv ⊢;rcases hv with hv|hv|hv|hv|hv<;>simp_all
 obtain⟨Dr,Dc,Da,L,N,P,S,k5,T,kc,U⟩:=hc;have Q:∀b,b<k.heap.size→vC.ownBlock≠A b→b≠M→(W.setCell ⟨M,6,V⟩ (O (A ⟨g,0,V⟩) (n+1) cap)).heap[b]?=k.heap[b]?:=fun b h1 h2 h3=>(hw b h3).trans (u.q b h1 h2)
 have B:∀b,F b→∀o,k.heap[b]?=A o→(W.setCell ⟨M,6,V⟩ (O (A ⟨g,0,V⟩) (n+1) cap)).heap[b]?=A o:=fun b i o q=>(Q b (hF b i).1 (hF b i).2.1 (hF b i).2.2).trans q
 refine⟨⟨hs,fun _ h=>h,?_,iI h.t (row_ne h.m h.t (by decide)) u (fun g l=>h.t.T h.c (by decide) l) hF hw,iI h.v (row_ne h.m h.v (by decide)) u (fun g l=>h.v.T h.c (by decide) l) hF hw,⟨Dr,(fun b=>Dc b∨H b),Da,fun b i=>h.df b (L b i),fun b i=>i.elim (fun i=>h.df b (N b i)) (fun i=>(w b i).1),fun b i=>h.df b (P b i),fun b i=>⟨fun e=>e.elim (S b i).1 (fun e=>(w b e).2 (L b i)),(S b i).2⟩,fun b i e=>i.elim (fun i=>k5 b i e) (fun i=>(w b i).2 (P b e)),T.t (fun z j=>Q z (T.lt j) (h.r.T h.c (by decide) j) (fun e=>row_ne h.m h.r (by decide) (e ▸ j))) (fun b i=>B b (h.df b (L b i))) (fun _ h=>h),⟨us++vs,by rw[Fl,X];exact bE y (fun z j=>by
    injection j with j
    have j:g=z:=j;subst j
    exact hw g C),Rd.tf (Rd.sI (fun b i=>B b (h.df b (N b i))) kc) ((ft d).t (fun b i=>B b (w b i).1) hx) (fun b i e=>(w b e).2 (N b i)) (fun _ i=>tE i) (fun _ i=>tS i)⟩,U.t (fun z j=>Q z (U.lt j) (h.a.T h.c (by decide) j) (fun e=>row_ne h.m h.a (by decide) (e ▸ j))) (fun b i=>B b (h.df b (P b i))) (fun _ h=>h)⟩⟩,?_,R⟩
 ·exact heap_set (R.trans h.m) 6 _
 ·exact (Chg.N (G:=bf M [vT,vR,vV,vC,vA]) u (fun b i=>tS ⟨vC,by simp,i⟩)).t (p:=⟨M,6,V⟩) (tE (tE Z)) _
theorem MkG.pushA{k:p7}{H:Nat→Prop}{x:bm}{us vs:List r3}{g cap n:Nat}(h:MkG F D d M ts rs vars nm sal nv cs acs vT vR vV vC vA k)(X:acs.length=n)(hc:A7 k D d rs cs acs vR vC us)(hx:(f6 d).at_ k H x vs)(w:∀b,H b→F b∧¬D b)(l:vA.ownBlock=A g∨k.heap.size≤g)
  (u:Chg (fun b=>vA.ownBlock=A b) k W) (y:W.ownsRow 0 59 (f6 d).n (O (A ⟨g,0,V⟩) (n+1) cap) (n+1) (us++vs)) :
  MkW F d M ts rs vars nm sal nv cs (acs++[x]) vT vR vV vC (O (A ⟨g,0,V⟩) (n+1) cap) (W.setCell ⟨M,7,V⟩ (O (A ⟨g,0,V⟩) (n+1) cap))∧Chg (bf M [vT,vR,vV,vC,vA]) k (W.setCell ⟨M,7,V⟩ (O (A ⟨g,0,V⟩) (n+1) cap))∧W.heap[M]?=k.heap[M]?:=by
 have s:=row_ne h.m h.a (by decide);have hw:∀b,b≠M→(W.setCell ⟨M,7,V⟩ (O (A ⟨g,0,V⟩) (n+1) cap)).heap[b]?=W.heap[b]?:=fun b i=>EW W ⟨M,7,V⟩ _ b i
 have R:W.heap[M]?=k.heap[M]?:=u.q M h.lt s;have C:g≠M:=by
  rcases l with l|l
  ·exact fun e=>s (e ▸ l)
  ·have:=h.lt;omega
 have hF:∀b,F b→b<k.heap.size∧vA.ownBlock≠A b∧b≠M:=fun b i=>⟨(h.f b i).1,fun e=>(h.f b i).2 (tS ⟨vA,by simp,e⟩),fun e=>(h.f b i).2 (tE e)⟩
 have E:(W.setCell ⟨M,7,V⟩ (O (A ⟨g,0,V⟩) (n+1) cap)).heap.size=W.heap.size:=by simp[xD]
 have hs:∀b,F b→b<(W.setCell ⟨M,7,V⟩ (O (A ⟨g,0,V⟩) (n+1) cap)).heap.size∧¬bf M [vT,vR,vV,vC,(O (A ⟨g,0,V⟩) (n+1) cap)] b:=fun b i=>by
  refine⟨by rw[E];exact EY (h.f b i).1 u.u,fun q=>?_⟩;rcases q with q|⟨v,hv,q⟩
  ·exact (hF b i).2.2 q
  ·by_cases K:v=(O (A ⟨g,0,V⟩) (n+1) cap)
   ·subst K;injection q with q
    have q:g=b:=q;subst q;rcases l with l|l
    ·exact (hF g i).2.1 l
    ·have:=(hF g i).1;omega
   ·refine (h.f b i).2 (tS ⟨v,?_,q⟩);simp only[FK,FH,o5]at hv ⊢;rcases hv with hv|hv|hv|hv|hv<;>simp_all
 obtain⟨Dr,Dc,Da,L,N,P,S,k5,T,U,ka⟩:=hc;have Q:∀b,b<k.heap.size→vA.ownBlock≠A b→b≠M→(W.setCell ⟨M,7,V⟩ (O (A ⟨g,0,V⟩) (n+1) cap)).heap[b]?=k.heap[b]?:=fun b h1 h2 h3=>(hw b h3).trans (u.q b h1 h2)
 have B:∀b,F b→∀o,k.heap[b]?=A o→(W.setCell ⟨M,7,V⟩ (O (A ⟨g,0,V⟩) (n+1) cap)).heap[b]?=A o:=fun b i o q=>(Q b (hF b i).1 (hF b i).2.1 (hF b i).2.2).trans q
 refine⟨⟨hs,fun _ h=>h,?_,iI h.t (row_ne h.m h.t (by decide)) u (fun g l=>h.t.T h.a (by decide) l) hF hw,iI h.v (row_ne h.m h.v (by decide)) u (fun g l=>h.v.T h.a (by decide) l) hF hw,⟨Dr,Dc,(fun b=>Da b∨H b),fun b i=>h.df b (L b i),fun b i=>h.df b (N b i),fun b i=>i.elim (fun i=>h.df b (P b i)) (fun i=>(w b i).1),fun b i=>⟨(S b i).1,fun e=>e.elim (S b i).2 (fun e=>(w b e).2 (L b i))⟩,fun b i e=>e.elim (fun e=>k5 b i e) (fun e=>(w b e).2 (N b i)),T.t (fun z j=>Q z (T.lt j) (h.r.T h.a (by decide) j) (fun e=>row_ne h.m h.r (by decide) (e ▸ j))) (fun b i=>B b (h.df b (L b i))) (fun _ h=>h),U.t (fun z j=>Q z (U.lt j) (h.c.T h.a (by decide) j) (fun e=>row_ne h.m h.c (by decide) (e ▸ j))) (fun b i=>B b (h.df b (N b i))) (fun _ h=>h),⟨us++vs,by rw[Fl,X];exact bE y (fun z j=>by
    injection j with j
    have j:g=z:=j;subst j
    exact hw g C),Rd.tf (Rd.sI (fun b i=>B b (h.df b (P b i))) ka) ((f6 d).t (fun b i=>B b (w b i).1) hx) (fun b i e=>(w b e).2 (P b i)) (fun _ i=>tE i) (fun _ i=>tS i)⟩⟩⟩,?_,R⟩
 ·exact heap_set (R.trans h.m) 7 _
 ·exact (Chg.N (G:=bf M [vT,vR,vV,vC,vA]) u (fun b i=>tS ⟨vA,by simp,i⟩)).t (p:=⟨M,7,V⟩) (tE (tE Z)) _
end
theorem so(vars:List ByteArray)(x:ByteArray)(v:r3)(F:Nat→Prop)(w:p7)(hv:Rd.str.y w F vars v):Calls r6 183 #[v,p9 x] w (fun e w'=>e=tF (I Y (eh (idxOf x vars)))∧FS w w'):=by
 have a:=Rd.ss hv;rcases hv with ⟨rfl,p,c,rfl⟩|⟨b,off,cap,k,l,_,m,o,rfl,g⟩
 ·refine (Tryz.slices_Index_string_empty p c x w).mono ?_;rintro e w' ⟨rfl,rfl⟩;exact⟨by rw[xC],EU _ _⟩
 ·refine (Tryz.slices_Index_string b off vars.length cap vars x w (ET _) (by unfold maxLen at a;omega) (fun j f=>?_)).mono ?_
  ·obtain⟨vs,⟨rfl,_⟩,h⟩:=g j vars[j] (EX f);have:=h 0 _ Z;have i:off+j*Rd.str.n+0=off+j:=by show off+j*1+0=off+j;omega
   rw[i]at this;rw[this,List.getD_eq_getElem?_getD,EX f];rfl
  ·rintro e w' ⟨rfl,rfl⟩;exact⟨by rw[Fq (ET _),xC],EU _ _⟩
theorem xN:Elem 9 96 1 16:=Elem.of (z:=p9 ByteArray.empty) Tryz.underlying96 (by kernel_rfl) Z (by decide) (by decide)
def cF(binds:Bool) (vars:List ByteArray) (T:ah):Except Flt (List ByteArray×dF):=
 if T.b==12 then vb (vars,⟨1,0,.zero⟩)
 else if T.b==13 then match idxOf T.h vars with
  | some k=>vb (vars,⟨3,k,.zero⟩)
  | none=>if !binds then wD (213,T.t) else if 16≤vars.length then wD (204,T.t) else vb (vars++[T.h],⟨2,vars.length,.zero⟩)
 else vb (vars,⟨4,0,bu T⟩)
theorem wT(binds:Bool)(s:List ByteArray×List dF)(T:ah):dD binds s T=match cF binds s.1 T with | .ok r=>vb (r.1,s.2++[r.2]) | .error e=>wD e:=by
 unfold dD cF
 split
 ·rfl
 ·split
  ·cases idxOf T.h s.1 with
   | some k=>rfl
   | none =>
    dsimp only
    split
    ·rfl
    ·split<;>rfl
  ·rfl
def cM(L:Nat) (l:List (Bool×Int)) (W:p7) (v:r3):Prop:=∃g,v=O (A ⟨g,0,V⟩) l.length l.length∧L≤g∧W.heap[g]?=A (p8 (fo l).toArray 162 (0,0))
theorem cM.C{L:Nat}{l:List (Bool×Int)}{W W':p7}{v:r3}(h:cM L l W v)(b:FS W W'):cM L l W' v:=by
 obtain⟨g,c,e,a⟩:=h;exact⟨g,c,e,ag b a (ES.1 a).1⟩
theorem mC{o:Oper}{a:Act}{W:p7}{G:r3→p7→Prop}{L n:Nat}{l:List (Bool×Int)}{parts:Array (Nat×Operand)}(j:o.op=.buildSlice 215 n parts)(k:l.length=n)(h:0<n∧n≤10)
  (m:∀z:r3,z.cells.size=2→Instr.fill (fun i=>A (i*2,2)) ((Array.range (n*2)).map (z.cells[· % z.cells.size]!)) (parts.map fun (x:Nat×Operand)=>(x.1,a.eval x.2)).toList=A (fo l).toArray) (p:L≤W.heap.size)
  (q:∀v W',FS W W'→cM L l W' v→G v W'):RE.Upon r6 o a W G:=by
 obtain⟨i0,z,e,f,b,r,g⟩:=kZ.info;have c:(execOp a.eval o).run r6 W=.ok (.value (O (A ⟨W.heap.size,0,V⟩) n n)) (W.alloc (p8 (fo l).toArray 162)):=by
  unfold execOp;simp only[j,o8];rw[run_buildSlice W 215 162 n _ (fo l).toArray i0 z kZ.und e f (by rw[b];omega) (by rw[b];omega) (by rw[b];exact m z g)];rfl
 exact RE.upon_run c (q _ _ ((EU _ W).alloc (ET _) _) ⟨_,by rw[k],p,ot W _⟩)
theorem size2{z:r3}(h:z.cells.size=2):∃x y,z.cells=#[x,y]:=by
 obtain⟨x,y,a⟩:∃x y,z.cells.toList=[x,y]:=by
  have b:z.cells.toList.length=2:=by rw[Fz];exact h
  match c:z.cells.toList,b with
  | [x,y],_=>exact⟨x,y,Z⟩
 exact⟨x,y,by rw[←Array.toArray_toList (xs:=z.cells),a]⟩
theorem zc(a b:Bool)(c e:Int)(z:r3)(h:z.cells.size=2):Instr.fill (fun i=>A (i*2,2)) ((Array.range (2*2)).map (z.cells[· % z.cells.size]!)) [(0,s3 #[ur a,I Y c]),(1,s3 #[ur b,I Y e])]=A (fo [(a,c),(b,e)]).toArray:=by
 obtain⟨x,y,f⟩:=size2 h;rw[f]
 kernel_rfl
theorem yZ(a b c:Bool)(e f g:Int)(z:r3)(h:z.cells.size=2):Instr.fill (fun i=>A (i*2,2)) ((Array.range (3*2)).map (z.cells[· % z.cells.size]!)) [(0,s3 #[ur a,I Y e]),(1,s3 #[ur b,I Y f]),(2,s3 #[ur c,I Y g])]=A (fo [(a,e),(b,f),(c,g)]).toArray:=by
 obtain⟨x,y,j⟩:=size2 h;rw[j]
 kernel_rfl
theorem iG{o:Oper}{a:Act}{W:p7}{G:r3→p7→Prop}{L:Nat}(b c:Bool)(f g:Int)(x y:Operand)(h:o.op=.buildSlice 215 2 #[(0,x),(1,y)])(i:a.eval x=s3 #[ur b,I Y f])(j:a.eval y=s3 #[ur c,I Y g])(k:L≤W.heap.size)
  (m:∀v W',FS W W'→cM L [(b,f),(c,g)] W' v→G v W'):RE.Upon r6 o a W G:=by
 refine mC (l:=[(b,f),(c,g)]) h Z (by decide) (fun z n=>?_) k m;have e:((#[(0,x),(1,y)]:Array (Nat×Operand)).map fun (q:Nat×Operand)=>(q.1,a.eval q.2)).toList=[(0,a.eval x),(1,a.eval y)]:=by simp
 rw[e,i,j];exact zc b c f g z n
theorem iD{o:Oper}{a:Act}{W:p7}{G:r3→p7→Prop}{L:Nat}(b c f:Bool)(g h i:Int)(x y u:Operand)(j:o.op=.buildSlice 215 3 #[(0,x),(1,y),(2,u)])(k:a.eval x=s3 #[ur b,I Y g])(m:a.eval y=s3 #[ur c,I Y h])(hu:a.eval u=s3 #[ur f,I Y i])(n:L≤W.heap.size)
  (p:∀v W',FS W W'→cM L [(b,g),(c,h),(f,i)] W' v→G v W'):RE.Upon r6 o a W G:=by
 refine mC (l:=[(b,g),(c,h),(f,i)]) j Z (by decide) (fun z r=>?_) n p;have e:((#[(0,x),(1,y),(2,u)]:Array (Nat×Operand)).map fun (q:Nat×Operand)=>(q.1,a.eval q.2)).toList=[(0,a.eval x),(1,a.eval y),(2,a.eval u)]:=by simp
 rw[e,k,m,hu];exact yZ b c f g h i z r
def st5(W:p7) (g:Nat) (a b c d e:r3):World:=((((W.setCell ⟨g,0,V⟩ a).setCell ⟨g,1,V⟩ b).setCell ⟨g,2,V⟩ c).setCell ⟨g,3,V⟩ d).setCell ⟨g,4,V⟩ e
theorem uV{W:p7}{g:Nat}{f i x2 x3 x4:r3}{t:vn}(h:W.heap[g]?=A (p8 #[f,i,x2,x3,x4] t (0,0)))(a b c d e:r3):(st5 W g a b c d e).heap[g]?=A (p8 #[a,b,c,d,e] t (0,0)):=
 heap_set (heap_set (heap_set (heap_set (heap_set h 0 a) 1 b) 2 c) 3 d) 4 e
theorem su{B:Nat}{w W:p7}{g:Nat}(h:Below B w W)(f:B≤g)(a b c d e:r3):Below B w (st5 W g a b c d e):=
 ((((h.setCell f a).setCell f b).setCell f c).setCell f d).setCell f e
theorem A5{W:p7}{g:Nat}(a b c d e:r3)(k:Nat)(h:k≠g):(st5 W g a b c d e).heap[k]?=W.heap[k]?:=by
 have f:∀(j:p7) (i:Nat) (u:r3),(j.setCell ⟨g,i,V⟩ u).heap[k]?=j.heap[k]?:=fun j i u=>EW j ⟨g,i,V⟩ u k h
 unfold st5;rw[f,f,f,f,f]
theorem CH{W:p7}{g:Nat}(a b c d e:r3):(st5 W g a b c d e).heap.size=W.heap.size:=by simp[st5,xD]
theorem nU(W:p7)(g:Ending→p7→Prop)(T:Nat)(a b c d e:r3)(h:W.heap[T]?=A (p8 #[a,b,c,d,e] 56 (0,0)))
  (tmps:Array r3) (i:tmps.getD 6 tT=tv (A ⟨T,0,V⟩)) (j:g (tF (s3 #[a,b,c,d,e])) W):bodyPost r6 Tryz.f108 g .ret ⟨tmps,[]⟩ W:=by
 obtain⟨c0,c1,c2,k,c4⟩:=cells5 h;have f:tmps[6]?.getD tT=tv (A ⟨T,0,V⟩):=by simpa using i
 refine bodyPost_ret (v:=s3 #[a,b,c,d,e]) ?_ Z j;simp[results,Tryz.results108,go_sem,f,c0,c1,c2,k,c4]
theorem dz{F G:Nat→Prop}{a b c:p7}(h:Chg F a b)(k:Chg G b c)(g:∀x,G x→F x∨a.heap.size≤x):Chg F a c:=
 ⟨k.os.trans h.os,k.tape.trans h.tape,k.a.trans h.a,EZ h.u k.u,fun i e f=>(k.q i (EY e h.u) (fun j=>by rcases g i j with h|h;exact f h;omega)).trans (h.q i e f)⟩
def Grew(v a:r3) (n:Nat):Prop:=∀b,a.ownBlock=A b→v.ownBlock=A b∨n≤b
def lD(F:Nat→Prop) (d M:Nat) (ts:List ap) (rs:List au) (_vars:List ByteArray) (nm:ByteArray) (sal nv:Int) (cs:List aK) (acs:List bm) (vT vR vV vC vA:r3) (r:Except Flt (List ByteArray×dF)) (w:p7) (e:Ending) (w':p7):Prop:=
 Chg (bf M [vT,vR,vV,vC,vA]) w w'∧match r with
 | .ok x=>e=tF (s3 (gU x.2).toArray)∧∃a,MkW F d M ts rs x.1 nm sal nv cs acs vT vR a vC vA w'∧Grew vV a w.heap.size
 | .error er=>e=aQ er.1 er.2
theorem Dq(F:Nat→Prop)(d M:Nat)(ts:List ap)(rs:List au)(vars:List ByteArray)(nm:ByteArray)(sal nv:Int)(cs:List aK)(acs:List bm)(vT vR vV vC vA:r3)(T:ah)(p:Option Addr)(n c:Nat)(binds:Bool)(w:p7)
  (hw:MkW F d M ts rs vars nm sal nv cs acs vT vR vV vC vA w) (hk:T.b=12∨T.b=13∨T.b=14∨T.b=15) (hs:T.h.size≤72007) (cl:vars.length≤16) :
  Calls r6 108 #[tv (A ⟨M,0,V⟩),s3 #[I J T.b,p9 T.h,I Y T.q,I Y T.t,O p n c],ur binds] w (lD F d M ts rs vars nm sal nv cs acs vT vR vV vC vA (cF binds vars T) w):=by
 have av:FS w ((w.alloc (p8 #[I J T.b,p9 T.h,I Y T.q,I Y T.t,O p n c] 64)).alloc (p8 #[I J 0,I Y 0,I J 0,I Y 0,p9 ⟨#[]⟩] 56)):=((EU _ w).alloc (ET _) _).alloc (by simp) _;have bb:T.b=12∨¬T.b=12:=by omega
 rcases bb with ad|ad
 ·have HO:Hid (cF binds vars T=vb (vars,⟨1,0,.zero⟩)):=by show _=_;unfold cF;rw[ad];rfl
  have t:FS w ((w.alloc (p8 #[I J 12,p9 T.h,I Y T.q,I Y T.t,O p n c] 64)).alloc (p8 #[I J 1,I Y 0,I J 0,I Y 0,p9 ⟨#[]⟩] 56)):=((EU _ w).alloc (ET _) _).alloc (by simp) _;obtain⟨_,af,_⟩:=ay w (p8 #[I J 12,p9 T.h,I Y T.q,I Y T.t,O p n c] 64) (p8 #[I J 1,I Y 0,I J 0,I Y 0,p9 ⟨#[]⟩] 56);have HX:=Hd af;have HP:Hid (lD F d M ts rs vars nm sal nv cs acs vT vR vV vC vA (cF binds vars T) w (tF (s3 #[I J 1,I Y 0,I J 0,I Y 0,p9 ⟨#[]⟩])) ((w.alloc (p8 #[I J 12,p9 T.h,I Y T.q,I Y T.t,O p n c] 64)).alloc (p8 #[I J 1,I Y 0,I J 0,I Y 0,p9 ⟨#[]⟩] 56))):=by
   refine⟨Chg.b t,?_⟩;rw[HO.o];exact⟨Z,vV,hw.C t,fun b j=>tE j⟩
  rw[ad];clear hw av t af hk ad HO
  go_enter Tryz.func108,Tryz.ntmps108
  go_wp2_with fail
  exact nU _ _ (w.heap.size+1) _ _ _ _ _ HX.o _ Z HP.o
 obtain⟨w1,ak⟩:=zzx ((w.alloc (p8 #[I J T.b,p9 T.h,I Y T.q,I Y T.t,O p n c] 64)).alloc (p8 #[I J 0,I Y 0,I J 0,I Y 0,p9 ⟨#[]⟩] 56));obtain⟨a1,af,_⟩:=ay w (p8 #[I J T.b,p9 T.h,I Y T.q,I Y T.t,O p n c] 64) (p8 #[I J 0,I Y 0,I J 0,I Y 0,p9 ⟨#[]⟩] 56);rw[←ak]at av a1 af;obtain⟨s,N,aq,HW,bc⟩:=zz5 av a1 af hw (hw.C av);clear hw av a1 af
 by_cases br:T.b=13
 ·obtain⟨G,H,rfl⟩:=bc.o.v.b;obtain⟨a,bt⟩:=zzy (vars.length);have hm:=bc.o.m;obtain⟨c1,HI,HN⟩:=zz3 hm (fun (x:Wb w1)=>so vars T.h (O G vars.length H) (fun _=>True) x.1 ((bc.o.C x.2).v.y (fun _ _=>trivial) (fun _ _=>trivial))) bt;have HO:Hid (cF binds vars T=match idxOf T.h vars with|some k=>vb (vars,⟨3,k,.zero⟩)|none=>if !binds then wD (213,T.t) else if 16≤vars.length then wD (204,T.t) else vb (vars++[T.h],⟨2,vars.length,.zero⟩)):=by show _=_;unfold cF;rw[br];rfl
  rw[bt]at HI hm cl;obtain⟨e0,e1,e2,e3,e4⟩:=cells5 N.o;have z:w1.cell? ⟨M,2,V⟩=A (O G a H):=by rw[FR _ _ _ _ _ _ hm];rfl
  rw[br]at ak e0 N ⊢;clear ad hk hm bt
  go_enter Tryz.func108,Tryz.ntmps108
  go_upto_region 5 with fail
  change Code.wp _ _ _ _ ((w.alloc (p8 #[I J 13,p9 T.h,I Y T.q,I Y T.t,O p n c] 64)).alloc (p8 #[I J 0,I Y 0,I J 0,I Y 0,p9 ⟨#[]⟩] 56));rw[show (w.alloc (p8 #[I J 13,p9 T.h,I Y T.q,I Y T.t,O p n c] 64)).alloc (p8 #[I J 0,I Y 0,I J 0,I Y 0,p9 ⟨#[]⟩] 56)=w1 from ak.symm];clear ak;have X1:=fun x:Wb w1=>x.b e1
  have M2:=fun x:Wb w1=>x.b z
  refine aj (by kernel_rfl) (by kernel_rfl) ?_
  repeat (go_big_quiet_step ((go_at_call 183;exact Calls.b (HI.o _))))
  refine vk ?_;intro W2 b7;have t:=aE b7;obtain⟨l,cp⟩:=zz2 t (bc.o.C t);clear b7 t X1 M2 HI e0 e1 e2 e3 e4 z
  cases bd:idxOf T.h vars with
  | some k =>
   rw[bd]at HO;clear bd;rw[show eh (A k)=(k:Int) from rfl];have c3:(0:Int)≤k:=by omega
   have q:=ag l.o aq.o (ES.1 aq.o).1;obtain⟨e0,e1,e2,e3,e4⟩:=cells5 q;have g0:=ae q 0;have g1:=ae q 1;have g2:=ae q 2;have g3:=ae q 3;have g4:=ae q 4;have HP:Hid (lD F d M ts rs vars nm sal nv cs acs vT vR (O G vars.length H) vC vA (cF binds vars T) w (tF (s3 #[I J 3,I Y (k:Int),I J 0,I Y 0,p9 ⟨#[]⟩])) (st5 W2 (w.heap.size+1) (I J 3) (I Y (k:Int)) (I J 0) (I Y 0) (p9 ⟨#[]⟩))):=by
    have a6:=su (s.o.trans (l.o.mono s.o.size)) (Fw w.heap.size) (I J 3) (I Y (k:Int)) (I J 0) (I Y 0) (p9 ⟨#[]⟩);refine⟨Chg.b a6,?_⟩;rw[HO.o];exact⟨Z,_,HW.o.C a6,fun b j=>tE j⟩
   have a7:=Hd (uV q (I J 3) (I Y (k:Int)) (I J 0) (I Y 0) (p9 ⟨#[]⟩));clear q;go_wp2_with fail
   exact nU _ _ (w.heap.size+1) _ _ _ _ _ a7.o _ Z HP.o
  | none =>
   rw[bd]at HO;clear bd;rw[show eh V=(-1:Int) from rfl];have a1:=ag l.o N.o (ES.1 N.o).1;obtain⟨e0,e1,e2,e3,e4⟩:=cells5 a1;have z:W2.cell? ⟨M,2,V⟩=A (O G a H):=by rw[FR _ _ _ _ _ _ cp.o.m,←HN.o];rfl
   have E0:=fun x:Wb W2=>x.b e0
   have E1:=fun x:Wb W2=>x.b e1
   have E2:=fun x:Wb W2=>x.b e2
   have E3:=fun x:Wb W2=>x.b e3
   have E4:=fun x:Wb W2=>x.b e4
   have M2:=fun x:Wb W2=>x.b z
   go_wp2_with fail
   cases binds with
   | false =>
    by_cases bB:16≤a
    ·have bR:(16:Int)≤a:=by omega
     refine RE.t (by kernel_rfl) 12 [11] [] (fun _ W=>∃x:Wb W2,W=x.1) (fun W W'=>FS W W') (fun i ys=>ys.getD 0 tT) (fun i W ys=>if i=11 then cM W2.heap.size [(r5,213),(r5,204)] W (ys.getD 0 tT) else True) (by kernel_rfl) (fun _ _ _ _ _ _ h j=>cd h j) (fun i W W' ys h _ j=>by split at h;(rw[oA (by assumption)];exact h.C j);rw[ox (by assumption)];trivial) ⟨⟨W2.drew,(EU _ _).drew⟩,Z⟩ ?_;simp only[Fg,Fu,Fh,Ft]
     repeat (refine RE.h (fun W=>∃x:Wb W2,W=x.1) (fun _ _ _ h=>h) Z Z Z ⟨⟨W2.drew,(EU _ _).drew⟩,Z⟩ ?_;go_big_quiet_step (fail);refine vk ?_)
     refine RE.b Z Z ?_ (fun ys=>?_)
     ·intro W hC _ B;obtain⟨s9,_,x,rfl⟩:=hC;exact iG r5 r5 213 204 _ _ Z Z Z x.2.size (fun v W' j ho=>⟨[v],Z,j,j,ho⟩)
     simp only[Act.put,EV,Fe,Fc];refine RE.q ?_;intro W P B;obtain⟨x,rfl⟩:=P;obtain⟨g,S,lg,U⟩:cM W2.heap.size [(r5,213),(r5,204)] x.1 (ys.getD 0 tT):=B 11 ys Z;rw[S];obtain⟨Q,u,R⟩:=zz3 (bS [(r5,213),(r5,204)] 13 T.h T.q T.t (O p n c) g 2 2 x.1 Z (by omega) U) (s.o.trans ((l.o.trans (x.2.mono l.o.size)).mono s.o.size)) x.2;clear B S lg U E0 E1 E2 E3 E4 M2;go_wp2_with fail
     refine Q.o.mono ?_;rintro e L ⟨C,he⟩;have he:e=aQ 213 T.t:=he;subst he;refine⟨Z,Chg.b (u.o.trans (C.mono u.o.size)),?_⟩;rw[HO.o];rfl
    ·have bR:¬((16:Int)≤a):=by omega
     refine RE.t (by kernel_rfl) 12 [11] [] (fun _ W=>∃x:Wb W2,W=x.1) (fun W W'=>FS W W') (fun i ys=>ys.getD 0 tT) (fun i W ys=>if i=11 then cM W2.heap.size [(r5,213),(r7,204)] W (ys.getD 0 tT) else True) (by kernel_rfl) (fun _ _ _ _ _ _ h j=>cd h j) (fun i W W' ys h _ j=>by split at h;(rw[oA (by assumption)];exact h.C j);rw[ox (by assumption)];trivial) ⟨⟨W2.drew,(EU _ _).drew⟩,Z⟩ ?_;simp only[Fg,Fu,Fh,Ft]
     repeat (refine RE.h (fun W=>∃x:Wb W2,W=x.1) (fun _ _ _ h=>h) Z Z Z ⟨⟨W2.drew,(EU _ _).drew⟩,Z⟩ ?_;go_big_quiet_step (fail);refine vk ?_)
     refine RE.b Z Z ?_ (fun ys=>?_)
     ·intro W hC _ B;obtain⟨s9,_,x,rfl⟩:=hC;exact iG r5 r7 213 204 _ _ Z Z Z x.2.size (fun v W' j ho=>⟨[v],Z,j,j,ho⟩)
     simp only[Act.put,EV,Fe,Fc];refine RE.q ?_;intro W P B;obtain⟨x,rfl⟩:=P;obtain⟨g,S,lg,U⟩:cM W2.heap.size [(r5,213),(r7,204)] x.1 (ys.getD 0 tT):=B 11 ys Z;rw[S];obtain⟨Q,u,R⟩:=zz3 (bS [(r5,213),(r7,204)] 13 T.h T.q T.t (O p n c) g 2 2 x.1 Z (by omega) U) (s.o.trans ((l.o.trans (x.2.mono l.o.size)).mono s.o.size)) x.2;clear B S lg U E0 E1 E2 E3 E4 M2;go_wp2_with fail
     refine Q.o.mono ?_;rintro e L ⟨C,he⟩;have he:e=aQ 213 T.t:=he;subst he;refine⟨Z,Chg.b (u.o.trans (C.mono u.o.size)),?_⟩;rw[HO.o];rfl
   | true =>
    by_cases bB:16≤a
    ·have bR:(16:Int)≤a:=by omega
     have a8:16≤vars.length:=by rw[HN.o];exact bB
     refine RE.t (by kernel_rfl) 12 [11] [] (fun _ W=>∃x:Wb W2,W=x.1) (fun W W'=>FS W W') (fun i ys=>ys.getD 0 tT) (fun i W ys=>if i=11 then cM W2.heap.size [(r7,213),(r5,204)] W (ys.getD 0 tT) else True) (by kernel_rfl) (fun _ _ _ _ _ _ h j=>cd h j) (fun i W W' ys h _ j=>by split at h;(rw[oA (by assumption)];exact h.C j);rw[ox (by assumption)];trivial) ⟨⟨W2.drew,(EU _ _).drew⟩,Z⟩ ?_;simp only[Fg,Fu,Fh,Ft]
     repeat (refine RE.h (fun W=>∃x:Wb W2,W=x.1) (fun _ _ _ h=>h) Z Z Z ⟨⟨W2.drew,(EU _ _).drew⟩,Z⟩ ?_;go_big_quiet_step (fail);refine vk ?_)
     refine RE.b Z Z ?_ (fun ys=>?_)
     ·intro W hC _ B;obtain⟨s9,_,x,rfl⟩:=hC;exact iG r7 r5 213 204 _ _ Z Z Z x.2.size (fun v W' j ho=>⟨[v],Z,j,j,ho⟩)
     simp only[Act.put,EV,Fe,Fc];refine RE.q ?_;intro W P B;obtain⟨x,rfl⟩:=P;obtain⟨g,S,lg,U⟩:cM W2.heap.size [(r7,213),(r5,204)] x.1 (ys.getD 0 tT):=B 11 ys Z;rw[S];obtain⟨Q,u,R⟩:=zz3 (bS [(r7,213),(r5,204)] 13 T.h T.q T.t (O p n c) g 2 2 x.1 Z (by omega) U) (s.o.trans ((l.o.trans (x.2.mono l.o.size)).mono s.o.size)) x.2;clear B S lg U E0 E1 E2 E3 E4 M2;go_wp2_with fail
     refine Q.o.mono ?_;rintro e L ⟨C,he⟩;have he:e=aQ 204 T.t:=he;subst he;refine⟨Z,Chg.b (u.o.trans (C.mono u.o.size)),?_⟩;rw[HO.o];rw[ox (by simp),oA a8];rfl
    ·have bR:¬((16:Int)≤a):=by omega
     have a8:¬16≤vars.length:=by rw[HN.o];exact bB
     refine RE.t (by kernel_rfl) 12 [11] [] (fun _ W=>∃x:Wb W2,W=x.1) (fun W W'=>FS W W') (fun i ys=>ys.getD 0 tT) (fun i W ys=>if i=11 then cM W2.heap.size [(r7,213),(r7,204)] W (ys.getD 0 tT) else True) (by kernel_rfl) (fun _ _ _ _ _ _ h j=>cd h j) (fun i W W' ys h _ j=>by split at h;(rw[oA (by assumption)];exact h.C j);rw[ox (by assumption)];trivial) ⟨⟨W2.drew,(EU _ _).drew⟩,Z⟩ ?_;simp only[Fg,Fu,Fh,Ft]
     repeat (refine RE.h (fun W=>∃x:Wb W2,W=x.1) (fun _ _ _ h=>h) Z Z Z ⟨⟨W2.drew,(EU _ _).drew⟩,Z⟩ ?_;go_big_quiet_step (fail);refine vk ?_)
     refine RE.b Z Z ?_ (fun ys=>?_)
     ·intro W hC _ B;obtain⟨s9,_,x,rfl⟩:=hC;exact iG r7 r7 213 204 _ _ Z Z Z x.2.size (fun v W' j ho=>⟨[v],Z,j,j,ho⟩)
     simp only[Act.put,EV,Fe,Fc];refine RE.q ?_;intro W P B;obtain⟨x,rfl⟩:=P;obtain⟨g,S,lg,U⟩:cM W2.heap.size [(r7,213),(r7,204)] x.1 (ys.getD 0 tT):=B 11 ys Z;rw[S];obtain⟨Q,u,R⟩:=zz3 (bS [(r7,213),(r7,204)] 13 T.h T.q T.t (O p n c) g 2 2 x.1 Z (by omega) U) (s.o.trans ((l.o.trans (x.2.mono l.o.size)).mono s.o.size)) x.2;clear B S lg U E0 E1 E2 E3 E4 M2;go_wp2_with fail
     refine Q.o.mono ?_;rintro e L ⟨C,he⟩;have he:e=tF (Value.tuple #[]):=he;subst he;have cq:Hid (cF r5 vars T=vb (vars++[T.h],⟨2,vars.length,.zero⟩)):=by show _=_;rw[HO.o];rw[ox (by simp),ox a8]
     obtain⟨b1,b2,bk⟩:=zz3 (u.o.trans (C.mono u.o.size)) (ag (l.o.trans ((R.o.trans (C.mono R.o.size)).mono l.o.size)) N.o (ES.1 N.o).1) (ag (l.o.trans ((R.o.trans (C.mono R.o.size)).mono l.o.size)) aq.o (ES.1 aq.o).1);have y:=Hd (HW.o.C b1.o);clear C e0 e1 e2 e3 e4 z;obtain⟨us,ba,b8⟩:=y.o.v;have bl:=b8;rw[HN.o]at ba;obtain⟨b9,cr⟩:=zz2 ba bl;obtain⟨e0,e1,e2,e3,e4⟩:=cells5 b2.o;have z:L.cell? ⟨M,2,V⟩=A (O G a H):=by rw[FR _ _ _ _ _ _ y.o.m,←HN.o];rfl
     have hK:∀b,(b=M∨b=w.heap.size)→b<L.heap.size∧(O G a H).ownBlock≠A b:=fun b j=>by
      rw[←HN.o];rcases j with rfl|rfl
      ·exact⟨y.o.lt,row_ne y.o.m y.o.v (by decide)⟩
      ·exact⟨(ES.1 b2.o).1,row_ne b2.o y.o.v (by decide)⟩
     have ca:=Hd (kb (E:=9) (sz:=1) (row:=us++[p9 T.h]) (K:=fun b=>b=M∨b=w.heap.size) hK);have E1:=fun x:Ks L (fun b=>b=M∨b=w.heap.size)=>x.b (tS Z) e1
     have M2:=fun x:Ks L (fun b=>b=M∨b=w.heap.size)=>x.b (tE Z) z
     clear ba b8 bl e0 e1 e2 e3 e4 z hK;go_wp2_with fail
     refine RE.t (by kernel_rfl) 9 [7,8] [8] (stA 9 1 L G a H (us++[p9 T.h])) (ApR L) (fun _ ys=>ys.getD 0 tT) (phA 9 1 L G a H [p9 T.h] (us++[p9 T.h]) 7 8) (by kernel_rfl) (fun _ _ _ _ _ _ h j=>h.C j) (fun _ _ _ _ h _ hR=>h.t hR) stA.zero ?_;simp only[Fg,Fu,Fh,Ft]
     repeat (refine RE.h (fun W=>∃x:Ks L (fun b=>b=M∨b=w.heap.size),W=x.1) (ca.o _) Z Z Z stA.zero ?_;go_big_quiet_step (fail);refine vk ?_)
     refine RE.b Z Z ?_ (fun ct=>?_)
     ·intro W hC P B;obtain⟨s9,_,h9⟩:=hC;exact eL xN (vs:=[p9 T.h]) _ Z Z Z h9.u (fun v W' j ho=>⟨[v],Z,j,ApR.b j,ho⟩)
     simp only[Act.put,EV,Fe,Fc];refine RE.b Z Z ?_ (fun cb=>?_)
     ·intro W hC P B;obtain⟨x,rfl⟩:∃x:Wb L,W=x.1:=P Z;exact iH xN (p:=G) (n:=a) (c:=H) (w4:=L) (vs:=[p9 T.h]) (xs:=us) _ _ Z Z (B 7 ct (by kernel_rfl) Z) Z (by simp[Value.oneCell']) x.2 b9.o (by omega) (fun v' W' h1 h2 h3=>⟨[v'],Z,h1,h2,h3⟩)
     simp only[Act.put,EV,Fe,Fc];refine RE.q ?_;intro W P B;have P:ApS 9 1 L G a H (us++[p9 T.h]) W:=P;have hV:ApV 9 1 L G a H (us++[p9 T.h]) W (cb.getD 0 tT):=B 8 cb Z;obtain⟨g',cap,S,U,hC,bn⟩:=jq P hV;rw[S];have b3:Chg (fun b=>(O G vars.length H).ownBlock=A b) L W:=by rw[HN.o];exact hC
     have b4:(O G vars.length H).ownBlock=A g'∨L.heap.size≤g':=by rw[HN.o];exact U
     obtain⟨ar,b5,b6⟩:=y.o.pushV (x:=T.h) HN.o cr.o ⟨Z,by unfold maxLen;omega⟩ b4 b3 bn;have z:W.cell? ⟨M,2,V⟩=A (O G a H):=by rw[FR _ _ _ _ _ _ (b6.trans y.o.m),←HN.o];rfl
     have cu:=bM (b6.trans y.o.m) 2;have ch:W.heap[w.heap.size+1]?=A (p8 #[I J 0,I Y 0,I J 0,I Y 0,p9 ⟨#[]⟩] 56 (0,0)):=(b3.q _ (ES.1 bk.o).1 (row_ne bk.o y.o.v (by decide))).trans bk.o;have bq:w.heap.size+1≠M:=fun e=>y.o.q bk.o (by kernel_rfl) (tE e)
     obtain⟨W6,X⟩:=zzx (W.setCell ⟨M,2,V⟩ (O (A ⟨g',0,V⟩) (a+1) cap));have r:W6.heap[w.heap.size+1]?=A (p8 #[I J 0,I Y 0,I J 0,I Y 0,p9 ⟨#[]⟩] 56 (0,0)):=by rw[X];exact (EW W ⟨M,2,V⟩ _ _ bq).trans ch
     rw[←X]at ar b5;have c5:=Hd ar;have a7:=Hd (uV r (I J 2) (I Y (a:Int)) (I J 0) (I Y 0) (p9 ⟨#[]⟩));have HP:Hid (lD F d M ts rs vars nm sal nv cs acs vT vR (O G vars.length H) vC vA (cF r5 vars T) w (tF (s3 #[I J 2,I Y (a:Int),I J 0,I Y 0,p9 ⟨#[]⟩])) (st5 W6 (w.heap.size+1) (I J 2) (I Y (a:Int)) (I J 0) (I Y 0) (p9 ⟨#[]⟩))):=by
      have cv:=ar.q r (by kernel_rfl)
      have cx:=ar.upd (W':=st5 W6 (w.heap.size+1) (I J 2) (I Y (a:Int)) (I J 0) (I Y 0) (p9 ⟨#[]⟩)) (by rw[CH];exact ET _) (fun b j=>A5 _ _ _ _ _ b (by
       rcases j with j|j
       ·have:=(HW.o.f b j).1;omega
       ·exact fun e=>cv (e ▸ j)))
      have cT:Chg (bf M [vT,vR,O G vars.length H,vC,vA]) w W6:=dz (Chg.b b1.o) b5 (fun x hx=>tE hx);have cW:Chg (bf M [vT,vR,O G vars.length H,vC,vA]) w (st5 W6 (w.heap.size+1) (I J 2) (I Y (a:Int)) (I J 0) (I Y 0) (p9 ⟨#[]⟩)):=((((cT.t (tS (Fw _)) _).t (tS (Fw _)) _).t (tS (Fw _)) _).t (tS (Fw _)) _).t (tS (Fw _)) _;refine⟨cW,?_⟩;rw[cq.o];refine⟨by rw[←HN.o];rfl,_,cx,fun b j=>?_⟩;injection j with j
      have j:g'=b:=j;subst j;rcases b4 with h|h
      ·exact tE h
      ·have:=b1.o.size;exact tS (by omega)
     obtain⟨e0,e1,e2,e3,e4⟩:=cells5 r;have g0:=ae r 0;have g1:=ae r 1;have g2:=ae r 2;have g3:=ae r 3;have g4:=ae r 4;have c6:W6.cell? ⟨M,2,V⟩=A (O (A ⟨g',0,V⟩) (a+1) cap):=by rw[FR _ _ _ _ _ _ ar.m];rfl
     clear P hV B S U hC bn b3 b4 ar b5 b6 ch r E1 M2 ca bq;go_upto_region 10 with fail
     change Code.wp _ _ _ _ (W.setCell ⟨M,2,V⟩ (O (A ⟨g',0,V⟩) (a+1) cap));rw[←X];clear X z cu;go_wp2_with fail
     exact nU _ _ (w.heap.size+1) _ _ _ _ _ a7.o _ Z HP.o
 ·have ck:T.b=14∨T.b=15:=by omega
  have HO:Hid (cF binds vars T=vb (vars,⟨4,0,bu T⟩)):=by
   show _=_
   unfold cF;rcases ck with h|h<;>rw[h]<;>rfl
  have c7:¬((T.b:Int)=12):=by omega
  have c8:¬((T.b:Int)=13):=by omega
  have HC:Hid (Calls r6 184 #[s3 #[I J T.b,p9 T.h,I Y T.q,I Y T.t,O p n c]] w1 fun e w'=>e=tF (s3 #[I J (bu T).b,I Y (bu T).q,p9 (bu T).h])∧FS w1 w'):=rI T (O p n c) w1 ck hs;obtain⟨e0,e1,e2,e3,e4⟩:=cells5 N.o;clear hk ad br
  go_enter Tryz.func108,Tryz.ntmps108
  go_upto_region 11 with fail
  change Code.wp _ _ _ _ ((w.alloc (p8 #[I J T.b,p9 T.h,I Y T.q,I Y T.t,O p n c] 64)).alloc (p8 #[I J 0,I Y 0,I J 0,I Y 0,p9 ⟨#[]⟩] 56));rw[←ak];clear ak;go_wp2_with fail
  refine HC.o.mono ?_;rintro e w2 ⟨rfl,t⟩;have q:=ag t aq.o (ES.1 aq.o).1;obtain⟨l,a7⟩:=zz2 (s.o.trans (t.mono s.o.size)) (uV q (I J 4) (I Y 0) (I J (bu T).b) (I Y (bu T).q) (p9 (bu T).h));have HP:Hid (lD F d M ts rs vars nm sal nv cs acs vT vR vV vC vA (cF binds vars T) w (tF (s3 #[I J 4,I Y 0,I J (bu T).b,I Y (bu T).q,p9 (bu T).h])) (st5 w2 (w.heap.size+1) (I J 4) (I Y 0) (I J (bu T).b) (I Y (bu T).q) (p9 (bu T).h))):=by
   have a6:=su l.o (Fw w.heap.size) (I J 4) (I Y 0) (I J (bu T).b) (I Y (bu T).q) (p9 (bu T).h);refine⟨Chg.b a6,?_⟩;rw[HO.o];exact⟨Z,_,HW.o.C a6,fun b j=>tE j⟩
  clear t e0 e1 e2 e3 e4;obtain⟨e0,e1,e2,e3,e4⟩:=cells5 q;have g0:=ae q 0;have g1:=ae q 1;have g2:=ae q 2;have g3:=ae q 3;have g4:=ae q 4;clear q;go_wp2_with fail
  exact nU _ _ (w.heap.size+1) _ _ _ _ _ a7.o _ Z HP.o
