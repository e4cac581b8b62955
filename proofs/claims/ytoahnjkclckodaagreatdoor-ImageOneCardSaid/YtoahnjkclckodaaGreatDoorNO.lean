/- Parts of one proof, joined; conditions stand in each theorem. -/
import Derived.Test.YtoahnjkclckodaaGreatDoorNN
import Derived.Test.YtoahnjkclckodaaGreatDoorNA
import Derived.Test.YtoahnjkclckodaaGreatDoorMD
import Derived.Test.YtoahnjkclckodaaGreatDoorMM
import Derived.Defers
import Derived.Recover
import Derived.Test.YtoahnjkclckodaaGreatDoorMJ
import Derived.Test.YtoahnjkclckodaaGreatDoorMXP
open Go renaming World→J,Value→tT,undef→wF,wpQuiet_nil→xL,Ending→AR,Calls→wg
open Option renaming some→A,none→Y
open Go.Obj renaming cells→r9
open Go.Proofs.Tryz renaming prog→vo
open Go.Value renaming pointer→vv,agg→xk,int→I,tuple→y9,slice→O,string→tS
open Go.IntKind renaming i64→U,u8→tF
open Go.Ending renaming returned→wj
open Go.Code renaming wp→xD
open Except renaming error→z6,ok→xt
open Go.World renaming cell?→AF,setCell→AJ
namespace Go.Proofs.YtoahnjkclckodaaGreatDoor
set_option maxHeartbeats 16000000
set_option maxRecDepth 100000
open Go.RowKit
theorem ap.lift{w:J}{B d a:Nat}{ks:List ac}{b:tT}(h:ap w B d ks b)(c:d≤a):ap w B a ks b:=by
 induction c with
 | refl=>exact h
 | step _ e=>exact e.more
theorem yK{w:J}{B:Nat}:∀{d:Nat} {T:ac} {a:tT},ap w B d T.z a→ga d T:=by
 intro d
 induction d with
 | zero=>intro T a h;exact h.1
 | succ d f =>
  intro T a h k c;rcases h with ⟨g,_⟩|⟨b,off,cap,_,_,_,_,_,j⟩
  ·rw[g]at c;simp at c
  ·obtain⟨i,hi⟩:=List.getElem?_of_mem c;obtain⟨_,s,_,_,_,_,_,e⟩:=j i k hi;exact f e
theorem uc:∀{d:Nat} {T:ac},jx d T→eP d T
 | 0,_,h=>h
 | _d+1,_,h=>⟨h.1,h.2.1,fun k a=>uc (h.2.2 k a)⟩
theorem eP.more:∀{d:Nat} {T:ac},ga d T→eP d T→eP (d+1) T
 | 0,T,he,h=>⟨h,by rw[show T.z=[] from he];exact FR _,fun k a=>by rw[show T.z=[] from he]at a;simp at a⟩
 | d+1,T,he,h=>⟨h.1,h.2.1,fun k a=>eP.more (he k a) (h.2.2 k a)⟩
theorem xZ{d a:Nat}{T:ac}(he:ga d T)(b:d≤a):ga a T:=by
 induction b with
 | refl=>exact he
 | step _ c=>exact c.more
theorem eP.lift{d a:Nat}{T:ac}(he:ga d T)(h:eP d T)(b:d≤a):eP a T:=by
 induction b with
 | refl=>exact h
 | step hm c=>exact eP.more (xZ he hm) c
theorem jk:∀(l:List Nat) (c:Nat),l.foldl (· + ·) c=c+l.foldl (· + ·) 0
 | [],c=>rfl
 | x::l,c=>by
  rw[List.foldl_cons,List.foldl_cons,jk l (c+x),jk l (0+x)];omega
theorem Bp:∀(d:Nat) (T:ac),1≤dI d T
 | 0,_=>Fy _
 | d+1,T=>by
  show 1≤(T.z.map (dI d)).foldl (· + ·) 1
  rw[jk];omega
theorem uF(f:ac→Nat)(b:∀T,1≤f T):∀(l:List ac),l.length≤(l.map f).foldl (· + ·) 0∧∀k∈l,f k≤(l.map f).foldl (· + ·) 0
 | []=>⟨Fy _,fun k a=>by simp at a⟩
 | z::l=>by
  obtain⟨d,c⟩:=uF f b l;rw[List.map_cons,List.foldl_cons,jk];refine⟨by have:=b z;simp only[F9];omega,fun k a=>?_⟩;rcases Ge.1 a with rfl|a
  ·omega
  ·have:=c k a;omega
theorem lE{d:Nat}{T:ac}:T.z.length<dI (d+1) T∧∀k∈T.z,dI d k<dI (d+1) T:=by
 obtain⟨c,a⟩:=uF (dI d) (Bp d) T.z;have e:dI (d+1) T=(T.z.map (dI d)).foldl (· + ·) 1:=rfl;rw[e,jk];exact⟨by omega,fun k b=>by have:=a k b;omega⟩
theorem uM:∀{d:Nat} {T:ac},ga d T→dI d T≤4096→T.z.length≤4096
 | 0,T,he,_=>by rw[show T.z=[] from he];exact FR _
 | d+1,T,_,h=>by have:=(lE (d:=d) (T:=T)).1;omega
theorem DV{D d:Nat}{K:ac}(l:d≤D+1)(he:ga d K)(i:okF d K=true)(hm:dI d K≤4096)(e:eP d K):l8 D K:=by
 have j:=AZ i;obtain⟨_,a,c⟩:=zn j;have kid:∀k∈K.z,eP D k∧k.h.size≤72007:=fun k a=>by
  cases d with
  | zero=>rw[show K.z=[] from he]at a;simp at a
  | succ d=>exact⟨eP.lift (he k a) (e.2.2 k a) (by omega),(e.2.2 k a).h⟩
 refine⟨?_,by have:=uM he hm;omega,fun h=>?_,fun h=>?_,fun h k b=>(kid k b).1⟩
 ·unfold t7 at c;unfold I64
  split at c
  ·simp only[FV,oX]at c;omega
  ·split at c
   ·simp only[FV,oX]at c;omega
   ·have:K.u=0:=by simpa using c
    omega
 ·intro k b;have f:dm [12,13,14,15] K.z=true:=by
   unfold fY at a;rcases h with h|h<;>rw[h]at a<;>exact a
  have:=Gb.1 f k b;refine⟨?_,(kid k b).2⟩
  simpa using this
 ·have f:(K.z.length==1&&gn K.z)=true:=by
   unfold fY at a;rw[h]at a;exact a
  simp only[FV,beq_iff_eq]at f
  cases g:K.z with
  | nil=>rw[g]at f;simp at f
  | cons t r=>exact⟨t,r,Z,(kid t (by rw[g];simp)).1⟩
structure EY (D:Nat) (T:ac):Prop where
 few:T.z.length≤4096
 kid:∀k∈T.z,k.z.length≤4096∧(k.q=4→∀K∈k.z,l8 D K)
theorem Eo{D:Nat}{T:ac}(he:ga D T)(g:okF D T=true)(hm:dI D T≤4096)(h:jx D T):EY D T:=by
 have i:=uc h
 cases D with
 | zero=>exact⟨by rw[show T.z=[] from he];exact FR _,fun k a=>by rw[show T.z=[] from he]at a;simp at a⟩
 | succ d =>
  have m:=(lE (d:=d) (T:=T)).1;refine⟨by omega,fun k a=>?_⟩;have j:=(lE (d:=d) (T:=T)).2 k a;have b:=he k a;have e:okF d k=true:=by
   have:(cz T&&T.z.all (okF d))=true:=g;simp only[FV]at this;exact Gb.1 this.2 k a
  refine⟨uM b (by omega),fun n K c=>?_⟩
  cases d with
  | zero=>rw[show k.z=[] from b]at c;simp at c
  | succ d =>
   have l:=(lE (d:=d) (T:=k)).2 K c;have f:okF d K=true:=by
    have:(cz k&&k.z.all (okF d))=true:=e;simp only[FV]at this;exact Gb.1 this.2 K c
   exact DV (by omega) (b K c) f (by omega) (((i.2.2 k a)).2.2 K c)
theorem wk(r f:Nat)(er pl:Int)(a:List PanicEntry)(a0 a1 H D:tT)(w:J)(K:w.heap[r]?=A (r9 #[a0,a1] 107 (0,0)))(L:w.heap[f]?=A (r9 #[H,D] 109 (0,0)))(g:r≠f) :
  CallsD vo 96 #[vv (A ⟨r,0,Y⟩),vv (A ⟨f,0,Y⟩)] (.panicking ({ v:=.iface 109 (xk #[I U er,I U pl]),recovered:=false }::a)) w fun e M w' =>
   e=wj (y9 #[])∧M=.panicking ({ v:=.iface 109 (xk #[I U er,I U pl]),recovered:=true }::a)∧
   Chg (fun b=>b=r∨b=f) w w'∧w'.heap[r]?=A (r9 #[O Y 0 0,O Y 0 0] 107 (0,0))∧w'.heap[f]?=A (r9 #[I U er,I U pl] 109 (0,0)):=by
 refine callsD_of_wpS Tryz.func96 Z fun n cs hu=>?_
 apply wpS_seq;apply wpS_region;simp[wpOpsS,go_sem,recoverD,hu,Tryz.ntmps96,Exit.thenS];apply wpS_seq;apply wpS_region;simp[wpOpsS,go_sem,Exit.thenS];refine wpS_cond (t:=true) (by simp[Act.eval,Array.replicate]) ?_;simp only[o4];refine wpS_of_wp ?_;change xD _ _ _ ⟨#[vv (A ⟨r,0,Y⟩),vv (A ⟨f,0,Y⟩),.iface 109 (xk #[I U er,I U pl]),.iface 109 (xk #[I U er,I U pl]),.iface 109 (xk #[I U er,I U pl]),Value.bool true,wF,wF,wF],[]⟩ w;refine RE.u (by kernel_rfl) 4 [2,3] [3] (fun s W=>if s=0 then Gl w W else Chg (fun b=>b=r) w W∧W.heap[r]?=A (r9 #[O Y 0 0,O Y 0 0] 107 (0,0))) (fun _ _=>True) (fun i _=>if i=2 then xk #[I U er,I U pl] else wF) (fun _ _ _=>True) (by kernel_rfl) ?_ (fun _ _ _ _ _ _ _=>trivial) (Fz _ _).drew ?_
 ·intro i z B s W W' h q
  split at h
  ·rw[oE (by assumption)];exact h.trans (q.mono h.size)
  ·rw[oB (by assumption)];exact⟨h.1.h (Chg.t q),aa q h.2 (Fx.1 h.2).1⟩
 simp only[FO,FY,FQ,FX];have E:∀(m s:Nat) (W:J),s≤m→(if s=0 then Gl w W else Chg (fun b=>b=r) w W∧W.heap[r]?=A (r9 #[O Y 0 0,O Y 0 0] 107 (0,0)))→∃x:Ks w (fun _=>False),W=x.1:=fun _ _ W _ _=>⟨⟨W,fun _ h=>h.elim⟩,Z⟩
 repeat (refine RE.q (fun W=>∃x:Ks w (fun _=>False),W=x.1) (E _) Z Z Z (Fz _ _).drew ?_;go_big_quiet_step (fail);refine xL ?_)
 refine RE.h Z Z ?_ (fun N=>?_)
 ·intro W C _ _;refine RE.upon_run (v:=xk #[I U er,I U pl]) (w':=W) ?_ ⟨[],Z,Fz _ _,trivial,trivial⟩;have G:(Instr.typeAssert (.iface 109 (xk #[I U er,I U pl])) 20 109 false).run vo W=.ok (xk #[I U er,I U pl]) W:=by kernel_rfl
  simp[execOp,Act.eval,G]
 simp only[Act.put,FA,FM,FK,Nat.reduceAdd,↓reduceIte];refine RE.h Z Z ?_ (fun N=>?_)
 ·intro W C l _;have l:Gl w W:=l Z;have c:=aa l K (Fx.1 K).1;refine RE.upon_skip (w':=W.setCells r 0 [O Y 0 0,O Y 0 0]) ?_ ⟨[],Z,?_,trivial,trivial⟩
  ·refine RE.run_store_agg 107 (.tmp 0) (.tmp 6) Z r 0 #[O Y 0 0,O Y 0 0] Z Z ?_ (by kernel_rfl) (by simp[Value.oneCell']);intro j u;have u:j<2:=u;rw[Gk _ _ _ _ _ _ c,ax c];have:j=0∨j=1:=by omega
   rcases this with rfl|rfl<;>exact⟨Z,Z⟩
  ·refine⟨?_,?_⟩
   ·exact Chg.z (F:=fun b=>b=r) (Chg.z (F:=fun b=>b=r) (Chg.t l) (p:=⟨r,0,Y⟩) (Or.inl Z) _) (p:=⟨r,1,Y⟩) (Or.inl Z) _
   ·have z:(W.setCell ⟨r,0,Y⟩ (O Y 0 0)).heap[r]?=A (r9 #[O Y 0 0,a1] 107 (0,0)):=heap_set c 0 _;have B:((W.setCell ⟨r,0,Y⟩ (O Y 0 0)).setCell ⟨r,1,Y⟩ (O Y 0 0)).heap[r]?=A (r9 #[O Y 0 0,O Y 0 0] 107 (0,0)):=heap_set z 1 _;exact B
 simp only[Act.put,Nat.reduceAdd];refine RE.t ?_;intro W l _;obtain⟨C,c⟩:Chg (fun b=>b=r) w W∧W.heap[r]?=A (r9 #[O Y 0 0,O Y 0 0] 107 (0,0)):=l;have k:W.heap[f]?=A (r9 #[H,D] 109 (0,0)):=(C.q f (Fx.1 L).1 (fun e=>g e.symm)).trans L;refine wpList_store_mid Z 109 (.tmp 1) (.tmp 8) Z f 0 #[I U er,I U pl] Z Z ?_ (by kernel_rfl) (by simp[Value.oneCell']) ?_
 ·intro j u;have u:j<2:=u;rw[Gk _ _ _ _ _ _ k,ax k];have:j=0∨j=1:=by omega
  rcases this with rfl|rfl<;>exact⟨Z,Z⟩
 have d:Chg (fun b=>b=r∨b=f) w (W.setCells f 0 [I U er,I U pl])∧(W.setCells f 0 [I U er,I U pl]).heap[r]?=A (r9 #[O Y 0 0,O Y 0 0] 107 (0,0))∧(W.setCells f 0 [I U er,I U pl]).heap[f]?=A (r9 #[I U er,I U pl] 109 (0,0)):=by
  refine⟨Chg.z (F:=fun b=>b=r∨b=f) (Chg.z (F:=fun b=>b=r∨b=f) (Chg.D C (fun b q=>Or.inl q)) (p:=⟨f,0,Y⟩) (Or.inl (Or.inr Z)) _) (p:=⟨f,1,Y⟩) (Or.inl (Or.inr Z)) _,?_,?_⟩
  ·show ((W.setCell ⟨f,0,Y⟩ (I U er)).setCell ⟨f,1,Y⟩ (I U pl)).heap[r]?=_
   rw[FC _ _ _ _ g,FC _ _ _ _ g];exact c
  ·have z:(W.setCell ⟨f,0,Y⟩ (I U er)).heap[f]?=A (r9 #[I U er,D] 109 (0,0)):=heap_set k 0 _;have B:((W.setCell ⟨f,0,Y⟩ (I U er)).setCell ⟨f,1,Y⟩ (I U pl)).heap[f]?=A (r9 #[I U er,I U pl] 109 (0,0)):=heap_set z 1 _;exact B
 have y:=Hd d;clear d
 cases n
 simp_all [wpList,bodyPostS,results,Tryz.results96]
 exact⟨Z,y.o⟩
theorem catch_idle(r f:Nat)(w:J) :
  CallsD vo 96 #[vv (A ⟨r,0,Y⟩),vv (A ⟨f,0,Y⟩)] .returning w fun e b w'=>e=wj (y9 #[])∧b=.returning∧w'=w:=by
 refine callsD_of_wpS Tryz.func96 Z fun a cs hu=>?_
 apply wpS_seq;apply wpS_region;simp[wpOpsS,go_sem,recoverD,hu,Tryz.ntmps96,Exit.thenS];apply wpS_seq;apply wpS_region;simp[wpOpsS,go_sem,Exit.thenS];refine wpS_cond (t:=false) (by simp[Act.eval,Array.replicate]) ?_;simp only[F4,o1];refine wpS_of_wp (wp_skip ?_)
 cases a
 simp_all [bodyPostS,results,Tryz.results96]
def iV(d:Nat) (T:ac):Except Flt de:=if jr d T then mS d T else z6 (4,0)
def pJ(d:Nat) (r:Except Flt de) (w:J) (e:AR) (w':J):Prop:=Gl w w'∧match r with
 | .ok R=>∃st sr,e=wj (y9 #[xk #[st,sr],xk #[I U 0,I U 0]])∧eD.h w' (bf w w') R.a st∧(fh d).h w' (bf w w') R.c sr
 | .error er=>e=wj (y9 #[xk #[O Y 0 0,O Y 0 0],xk #[I U er.1,I U er.2]])
theorem yn(w:J)(a b c:Obj):((((w.alloc a).alloc b).alloc c).heap[w.heap.size]?=A a)∧((((w.alloc a).alloc b).alloc c).heap[w.heap.size+1]?=A b)∧((((w.alloc a).alloc b).alloc c).heap[w.heap.size+2]?=A c):=by
 obtain⟨e,f,_⟩:=aW w a b;have d:Below ((w.alloc a).alloc b).heap.size ((w.alloc a).alloc b) (((w.alloc a).alloc b).alloc c):=(Fz _ _).alloc (Fy _) _;have g:((w.alloc a).alloc b).heap.size=w.heap.size+2:=by simp
 refine⟨aa d e (by omega),aa d f (by omega),?_⟩;have:=oA ((w.alloc a).alloc b) c;rw[g]at this;exact this
theorem oI{W:J}{r f:Nat}{a0 a1 c b:tT}(d:W.heap[r]?=A (r9 #[a0,a1] 107 (0,0)))(e:W.heap[f]?=A (r9 #[c,b] 109 (0,0)))(a:r≠f)(x y u v:tT) :
  ((((W.setCell ⟨r,0,Y⟩ x).setCell ⟨r,1,Y⟩ y).setCell ⟨f,0,Y⟩ u).setCell ⟨f,1,Y⟩ v).heap[r]?=A (r9 #[x,y] 107 (0,0))∧((((W.setCell ⟨r,0,Y⟩ x).setCell ⟨r,1,Y⟩ y).setCell ⟨f,0,Y⟩ u).setCell ⟨f,1,Y⟩ v).heap[f]?=A (r9 #[u,v] 109 (0,0)):=by
 have g:(W.setCell ⟨r,0,Y⟩ x).heap[r]?=A (r9 #[x,a1] 107 (0,0)):=heap_set d 0 _;have h:((W.setCell ⟨r,0,Y⟩ x).setCell ⟨r,1,Y⟩ y).heap[r]?=A (r9 #[x,y] 107 (0,0)):=heap_set g 1 _;have g0:((W.setCell ⟨r,0,Y⟩ x).setCell ⟨r,1,Y⟩ y).heap[f]?=A (r9 #[c,b] 109 (0,0)):=by rw[FC _ _ _ _ a.symm,FC _ _ _ _ a.symm];exact e
 have g1:(((W.setCell ⟨r,0,Y⟩ x).setCell ⟨r,1,Y⟩ y).setCell ⟨f,0,Y⟩ u).heap[f]?=A (r9 #[u,b] 109 (0,0)):=heap_set g0 0 _;have g2:((((W.setCell ⟨r,0,Y⟩ x).setCell ⟨r,1,Y⟩ y).setCell ⟨f,0,Y⟩ u).setCell ⟨f,1,Y⟩ v).heap[f]?=A (r9 #[u,v] 109 (0,0)):=heap_set g1 1 _;refine⟨?_,g2⟩;rw[FC _ _ _ _ a,FC _ _ _ _ a];exact h
theorem lQ{W:J}{R:AR→J→Prop}{tmps:Array tT}{r f:Nat}{a b x y:tT}(h:tmps.getD 2 wF=vv (A ⟨r,0,Y⟩))(i:tmps.getD 3 wF=vv (A ⟨f,0,Y⟩))
  (e:W.heap[r]?=A (r9 #[a,b] 107 (0,0))) (g:W.heap[f]?=A (r9 #[x,y] 109 (0,0))) (j:R (wj (y9 #[xk #[a,b],xk #[x,y]])) W):Leaves vo Tryz.f73 tmps R [] .returning W:=by
 have k:W.cell? ⟨r,0,Y⟩=A a:=by simp[AF,e]
 have l:W.cell? ⟨r,1,Y⟩=A b:=by simp[AF,e]
 have d0:W.cell? ⟨f,0,Y⟩=A x:=by simp[AF,g]
 have d1:W.cell? ⟨f,1,Y⟩=A y:=by simp[AF,g]
 have c:tmps[2]?.getD wF=vv (A ⟨r,0,Y⟩):=by simpa using h
 have d:tmps[3]?.getD wF=vv (A ⟨f,0,Y⟩):=by simpa using i
 refine⟨y9 #[xk #[a,b],xk #[x,y]],?_,j⟩;simp[results,Tryz.results73,go_sem,c,d,k,l,d0,d1]
theorem zO{W w:J}{R:AR→J→Prop}{tmps:Array tT}{a b x y:tT}(c:tmps.getD 2 wF=vv (A ⟨w.heap.size+1,0,Y⟩))(d:tmps.getD 3 wF=vv (A ⟨w.heap.size+1+1,0,Y⟩))
  (g:W.heap[w.heap.size+1]?=A (r9 #[a,b] 107 (0,0))) (h:W.heap[w.heap.size+1+1]?=A (r9 #[x,y] 109 (0,0))) (i:R (wj (y9 #[xk #[a,b],xk #[x,y]])) W) :
  Leaves vo Tryz.f73 tmps R [{ target:=Target.fn (Fn.func 96) #[vv (A ⟨w.heap.size+1,0,Y⟩),vv (A ⟨w.heap.size+1+1,0,Y⟩)],args:=#[] }] .returning W:=by
 refine leaves_cons (f:=96) (args:=#[vv (A ⟨w.heap.size+1,0,Y⟩),vv (A ⟨w.heap.size+1+1,0,Y⟩)]) (by simp) (by simp[go_sem]) ?_;refine (catch_idle (w.heap.size+1) (w.heap.size+1+1) W).mono ?_;rintro e k j ⟨rfl,rfl,rfl⟩;exact lQ c d g h i
theorem qK{d:Nat}{T:ac}{W w:J}{tmps:Array tT}{a b x y:tT}{er:Flt}(i:tmps.getD 2 wF=vv (A ⟨w.heap.size+1,0,Y⟩))(j:tmps.getD 3 wF=vv (A ⟨w.heap.size+1+1,0,Y⟩))(c:Gl w W)
  (k:W.heap[w.heap.size+1]?=A (r9 #[a,b] 107 (0,0))) (l:W.heap[w.heap.size+1+1]?=A (r9 #[x,y] 109 (0,0))) (hm:iV d T=z6 er) :
  Leaves vo Tryz.f73 tmps (pJ d (iV d T) w) [{ target:=Target.fn (Fn.func 96) #[vv (A ⟨w.heap.size+1,0,Y⟩),vv (A ⟨w.heap.size+1+1,0,Y⟩)],args:=#[] }] (.panicking [{ v:=.iface 109 (xk #[I U er.1,I U er.2]),recovered:=false }]) W:=by
 refine leaves_cons (f:=96) (args:=#[vv (A ⟨w.heap.size+1,0,Y⟩),vv (A ⟨w.heap.size+1+1,0,Y⟩)]) (by simp) (by simp[go_sem]) ?_;refine (wk (w.heap.size+1) (w.heap.size+1+1) er.1 er.2 [] a b x y W k l (by omega)).mono ?_;rintro e o m ⟨rfl,rfl,n,g,h⟩;refine lQ i j g h ⟨Chg.K c n (fun b c=>by rcases c with rfl|rfl<;>omega) c.size,?_⟩
 rw[hm]
def yF(d M:Nat) (T:ac) (n:Nat) (W2:J) (i:tT) (W:J):Prop:=
 ∃(j:Nat) (ts:List ay) (vT:tT),j≤n∧i=I U (j:Int)∧be hZ [] (T.z.take j)=xt ts∧ts.length≤j∧MkB (fun _=>False) d M ts [] vT (O Y 0 0) W∧(∀g,vT.ownBlock=A g→M≤g)∧Below M W2 W
def zj(d M:Nat) (T:ac) (n:Nat) (ts:List ay) (vT:tT) (W2:J) (i:tT) (W:J):Prop:=
 ∃(j:Nat) (rs:List aK) (F:Nat→Prop) (vR:tT),j≤n∧i=I U (j:Int)∧be (gR d ts) [] (T.z.take j)=xt rs∧rs.length≤j∧MkB F d M ts rs vT vR W∧(∀g,vR.ownBlock=A g→M≤g)∧(∀b,F b→M≤b)∧Below M W2 W
theorem AM{ts a:List ay}{K:ac}(h:fj ts K=xt a):a.length=ts.length+1:=by
 unfold fj at h
 split at h
 ·cases h
 ·split at h
  ·cases h
  ·split at h
   ·cases h
   ·injection h with h;rw[←h];simp
theorem Ba{d:Nat}{ts:List ay}{rs a:List aK}{K:ac}(h:eA d ts rs K=xt a):a.length=rs.length+1:=by
 unfold eA at h
 split at h
 ·cases h
 ·split at h
  ·cases h
  ·split at h
   ·cases h
   ·split at h
    ·cases h
    ·injection h with h;rw[←h];simp
theorem Cc(d:Nat)(T:ac)(v:tT)(w:J)(hv:fi w w.heap.size d T v)(cl:jx d T)(ht:aB w) :
  wg vo 73 #[v] w (pJ d (iV d T) w):=by
 have gH:∀(fn:Fn) (first cap:Array tT) (w:J),(Instr.makeFunc fn first cap).run vo w=.ok (Value.func fn first cap) w:=fun _ _ _ _=>rfl
 have HV:=Hd hv;obtain⟨u,s,rfl,aq⟩:=hv;obtain⟨p,c,hs⟩:=aq.h;obtain⟨n,hn⟩:=zzy (T.z.length);rw[hn]at hs;subst hs;obtain⟨w1,b8⟩:=zzx (((w.alloc (r9 #[I tF T.q,tS T.h,I U T.u,I U T.t,O p n c] 145)).alloc (r9 #[O Y 0 0,O Y 0 0] 107)).alloc (r9 #[I U 0,I U 0] 109));obtain⟨b9,cm,cn⟩:=yn w (r9 #[I tF T.q,tS T.h,I U T.u,I U T.t,O p n c] 145) (r9 #[O Y 0 0,O Y 0 0] 107) (r9 #[I U 0,I U 0] 109);have bt:Gl w w1:=by rw[b8];exact (((Fz _ w).alloc (Fy _) _).alloc (by simp) _).alloc (by simp;omega) _
 rw[←b8]at b9 cm cn;obtain⟨cC,cV,cW,c5,ba,HN,c6⟩:=zz7 b9 cm cn bt aq hn (mX d T _ w.heap.size w1 ⟨u,_,Z,aq.C bt⟩ bt.size cl (ht.C bt));have e5:=Hd cl;obtain⟨e0,e1,e2,e3,e4⟩:=cells5 b9;clear b9 cm cn bt aq hn u cl
 go_enter_defers Tryz.func73,Tryz.ntmps73
 go_upto_region 1 with fail
 change xD _ _ _ _ (((w.alloc (r9 #[I tF T.q,tS T.h,I U T.u,I U T.t,O p n c] 145)).alloc (r9 #[O Y 0 0,O Y 0 0] 107)).alloc (r9 #[I U 0,I U 0] 109));rw[←b8];clear b8;go_wp2_with fail
 refine c6.o.mono ?_;rintro e W2 ⟨rfl,bB⟩;have bR:=Hd (c5.o.trans (bB.mono c5.o.size));have cp:=aa bB cC.o (Fx.1 cC.o).1;have c7:=aa bB cV.o (Fx.1 cV.o).1;have cq:=aa bB cW.o (Fx.1 cW.o).1;obtain⟨e6,bb,bd⟩:=zz3 cp c7 cq;clear bB c6 e0 e1 e2 e3 e4
 cases X:jr d T with
 | false =>
  have HM:Hid (iV d T=z6 (4,0)):=by show _=_;unfold iV;rw[X];rfl
  clear X;have c0:W2.cell? ⟨w.heap.size+1,0,Y⟩=A (O Y 0 0):=by rw[Gk _ _ _ _ _ _ bb.o];rfl
  have c1:W2.cell? ⟨w.heap.size+1,1,Y⟩=A (O Y 0 0):=by rw[Gk _ _ _ _ _ _ bb.o];rfl
  have d0:W2.cell? ⟨w.heap.size+1+1,0,Y⟩=A (I U 0):=by rw[Gk _ _ _ _ _ _ bd.o];rfl
  have d1:W2.cell? ⟨w.heap.size+1+1,1,Y⟩=A (I U 0):=by rw[Gk _ _ _ _ _ _ bd.o];rfl
  have f1:=dR bb.o;have f2:∀i,W2.frozen? ⟨w.heap.size+1+1,i,Y⟩=false:=dR bd.o;obtain⟨W,ad⟩:=zzx ((((W2.setCell ⟨w.heap.size+1,0,Y⟩ (O Y 0 0)).setCell ⟨w.heap.size+1,1,Y⟩ (O Y 0 0)).setCell ⟨w.heap.size+1+1,0,Y⟩ (I U 4)).setCell ⟨w.heap.size+1+1,1,Y⟩ (I U 0));have HZ:=Hd (oI bb.o bd.o (show w.heap.size+1≠w.heap.size+2 by omega) (O Y 0 0) (O Y 0 0) (I U 4) (I U 0));have cr:Hid (Gl w W):=by show Below _ _ _;rw[ad];exact (((bR.o.setCell (p:=⟨w.heap.size+1,0,Y⟩) (F3 _) _).setCell (p:=⟨w.heap.size+1,1,Y⟩) (F3 _) _).setCell (p:=⟨w.heap.size+1+1,0,Y⟩) (FH (F3 _) (F3 _)) _).setCell (p:=⟨w.heap.size+1+1,1,Y⟩) (FH (F3 _) (F3 _)) _
  rw[←ad]at HZ;go_wp2_with fail
  rw[←ad];refine lQ Z Z HZ.o.1 HZ.o.2 ⟨cr.o,?_⟩;rw[HM.o]
 | true =>
  have ca:(T.q==1&&okF d T&&decide (fW d T≤30)&&decide (dI d T≤4096))=true:=X;simp only[FV,oX]at ca;have cb:=Hd (Eo (yK ba.o) ca.1.1.2 ca.2 e5.o);have HM:Hid (iV d T=mS d T):=by show _=_;unfold iV;rw[X];rfl
  have gE:n≤4096:=by rw[←HN.o];exact cb.o.few
  clear X ca;obtain⟨M,hM⟩:=zzx (W2.heap.size);obtain⟨w4,cc⟩:=zzx (W2.alloc (r9 #[O Y 0 0,O Y 0 0,O Y 0 0,tS ⟨#[]⟩,I U 0,I U 0,O Y 0 0,O Y 0 0] 202));have c8:w4.heap[M]?=A (r9 #[O Y 0 0,O Y 0 0,O Y 0 0,tS ⟨#[]⟩,I U 0,I U 0,O Y 0 0,O Y 0 0] 202 (0,0)):=by rw[cc,hM];exact oA W2 _
  have m:Hid (w.heap.size+3≤M):=by
   have:=(Fx.1 cq).1
   show _≤_
   rw[hM];omega
  have c9:Hid (Below M W2 w4):=by show Below _ _ _;rw[cc,hM];exact (Fz _ W2).alloc (Fy _) _
  have e7:Hid (MkB (fun _=>False) d M [] [] (O Y 0 0) (O Y 0 0) w4):=⟨fun _ h=>h.elim,⟨_,_,_,_,_,_,c8⟩,aw.nil,aw.nil⟩;have e8:Hid (M=W2.heap.size):=hM;obtain⟨e0,e1,e2,e3,e4⟩:=cells5 (aa c9.o cp (by have:=m.o;omega));clear cp c7 cq c8;go_upto_region 5 with fail
  rw[←hM];change xD _ _ _ _ (W2.alloc (r9 #[O Y 0 0,O Y 0 0,O Y 0 0,tS ⟨#[]⟩,I U 0,I U 0,O Y 0 0,O Y 0 0] 202));rw[←cc];clear cc hM;go_wp2_with fail
  go_loopw [20] (yF d M T n W2) (fun i _=>n-(intOf i).toNat)
  case atStart=>exact⟨0,[],O Y 0 0,FR _,Z,Z,Fy _,e7.o,(fun g hg=>by cases hg),c9.o⟩
  case round =>
   obtain⟨j,ts,vT,hj,rfl,G,hlen,bk,dd,bl⟩:=hrel;have dg:(0:Int)≤j:=by omega
   obtain⟨bq,x,b0,Q⟩:=zz4 G bk dd bl;have H:Hid (Gl w wr):=bR.o.trans (bl.mono (by have:=m.o;omega));have R:Hid (M≤wr.heap.size):=F8 bk.lt;clear G bk dd bl e0 e1 e2 e3 e4
   by_cases cf:j<n
   ·have e9:(j:Int)<n:=by omega
    obtain⟨K,hK⟩:∃K,T.z[j]?=A K:=⟨_,FD (by rw[HN.o];exact cf)⟩;have ar:=FZ hK;have aq:=(ba.o.C H.o).lift (F3 d);rcases aq with ⟨h0,_⟩|⟨b,off,cap,h1,h2,h3,h4,he,h6⟩
    ·rw[h0]at hK;simp at hK
    rw[HN.o]at he h3;injection he with ct _ cu
    subst ct;subst cu;obtain⟨u,sK,c0,c1,c2,c3,c4,L⟩:=h6 j K hK;obtain⟨ps,y,b1⟩:=L.h;obtain⟨S,af⟩:=zzy (K.z.length);rw[af]at b1;subst b1;have bm:=Hd (it (f:=hZ) hK bq.o)
    by_cases C:K.q=2
    ·have c0:wr.cell? ⟨b,off+j*5,Y⟩=A (I tF 2):=by rw[c0,C];rfl
     obtain⟨B,q⟩:=zzx (wr.alloc (r9 #[I tF 2,tS K.h,I U K.u,I U K.t,O ps S y] 145));have a:Gl wr B:=by rw[q];exact (Fz _ wr).alloc (Fy _) _
     have N:B.heap[wr.heap.size]?=A (r9 #[I tF 2,tS K.h,I U K.u,I U K.t,O ps S y] 145 (0,0)):=by rw[q];exact oA wr _
     have V:=Hd a;have P:Hid (Below M W2 B):=Q.o.trans (a.mono R.o);have D:=L.C (a.mono H.o.size);have cv:Hid (wg vo 97 #[vv (A ⟨M,0,Y⟩),xk #[I tF 2,tS K.h,I U K.u,I U K.t,O ps S y]] B (oN (fun _=>False) d M [] vT (O Y 0 0) (fj ts K) B)):=by
      have h:=zT (fun _=>False) d M ts [] vT (O Y 0 0) K ps S y d B (x.o.C a) C (by omega) af (by have:=(cb.o.kid K ar).1;omega) (((D.up (FH H.o.size a.size))).lift (F3 _)) u.2.1;rw[C]at h;exact h
     obtain⟨k0,k1,k2,k3,k4⟩:=cells5 N;clear u L h6 h1 h2 h3 h4 hK ar a N D af;go_upto_region 8 with fail
     change xD _ _ _ _ (wr.alloc (r9 #[I tF 2,tS K.h,I U K.u,I U K.t,O ps S y] 145));rw[←q];clear q c0 c1 c2 c3 c4;go_wp2_with fail
     refine cv.o.mono ?_;rintro e W ⟨b2,he⟩;have z:Below M W2 W:=Chg.K P.o b2 (fun b E=>by rcases E with rfl|⟨v,hv,E⟩;exact Fy _;simp only[Ge,Gc,o9]at hv;rcases hv with rfl|rfl;exact b0.o b E;cases E) (FH R.o V.o.size)
     clear k0 k1 k2 k3 k4
     cases X:fj ts K with
     | error er =>
      rw[X]at he;have he:e=aJ er.1 er.2:=he;subst he;have b3:w.heap.size+1<M:=by have:=m.o;omega
      refine qK (d:=d) (T:=T) (er:=er) Z Z (bR.o.trans (z.mono (by have:=m.o;omega))) ((z.block _ b3).trans bb.o) ((z.block (w.heap.size+2) (by have:=m.o;omega)).trans bd.o) ?_;rw[HM.o];unfold mS;rw[jq (f:=hZ) (l:=T.z) (k:=j+1) (s:=[]) (e:=er) (bm.o.trans ?_)]
      show (if K.q==2 then fj ts K else xt ts)=_
      rw[C];exact X
     | ok fm =>
      rw[X]at he;obtain⟨rfl,fr,a1,b4⟩:=he;have HR:Hid (yF d M T n W2 (I U ((j+1:Nat):Int)) W):=by
       refine⟨j+1,fm,fr,by omega,Z,?_,by rw[AM X];omega,a1,fun g hg=>?_,z⟩
       ·rw[bm.o]
        show (if K.q==2 then fj ts K else xt ts)=_
        rw[C];exact X
       ·rcases b4 g hg with h|h
        ·exact b0.o g h
        ·exact FH (FH R.o V.o.size) h
      clear a1 b4 b2 z X;go_wp2_with fail
      refine⟨HR.o,?_⟩;simp[intOf];omega
    ·have fs:¬((K.q:Int)=2):=by omega
     obtain⟨B,q⟩:=zzx (wr.alloc (r9 #[I tF K.q,tS K.h,I U K.u,I U K.t,O ps S y] 145));have a:Gl wr B:=by rw[q];exact (Fz _ wr).alloc (Fy _) _
     have N:B.heap[wr.heap.size]?=A (r9 #[I tF K.q,tS K.h,I U K.u,I U K.t,O ps S y] 145 (0,0)):=by rw[q];exact oA wr _
     have V:=Hd a;have P:Hid (Below M W2 B):=Q.o.trans (a.mono R.o);have D:=L.C (a.mono H.o.size);obtain⟨k0,k1,k2,k3,k4⟩:=cells5 N;clear u L h6 h1 h2 h3 h4 hK ar a N D af;go_upto_region 8 with fail
     change xD _ _ _ _ (wr.alloc (r9 #[I tF K.q,tS K.h,I U K.u,I U K.t,O ps S y] 145));rw[←q];clear q c0 c1 c2 c3 c4;have HR:Hid (yF d M T n W2 (I U ((j+1:Nat):Int)) B):=by
      refine⟨j+1,ts,vT,by omega,Z,?_,by omega,x.o.C V.o,b0.o,P.o⟩;rw[bm.o]
      show (if K.q==2 then fj ts K else xt ts)=_
      rw[show (K.q==2)=false by simpa using C];rfl
     go_wp2_with fail
     refine⟨HR.o,?_⟩;simp[intOf];omega
   ·have a6:be hZ [] T.z=xt ts:=by
     rw[←bq.o,FW (by rw[HN.o];omega)]
    have ch:=Hd a6;clear a6;have dn:=aa Q.o e6.o (by have:=m.o;have:=e8.o;omega);obtain⟨e0,e1,e2,e3,e4⟩:=cells5 dn;clear dn;have gF:ts.length≤4096:=by omega
    clear hlen bq;go_wp2_with fail
    go_loopw [34] (zj d M T n ts vT W2) (fun i _=>n-(intOf i).toNat)
    case atStart=>exact⟨0,[],fun _=>False,O Y 0 0,FR _,Z,Z,Fy _,x.o,(fun g hg=>by cases hg),(fun b E=>E.elim),Q.o⟩
    case round =>
     clear dg hj cf;clear x Q H;obtain⟨j,rs,F,vR,hj,rfl,G,hlen,bk,ck,hF,bl⟩:=hrel;have dg:(0:Int)≤j:=by omega
     obtain⟨bq,x,bn,HF,Q⟩:=zz5 G bk ck hF bl;have H:Hid (Gl w wr):=bR.o.trans (bl.mono (by have:=m.o;omega));have R:Hid (M≤wr.heap.size):=F8 bk.lt;clear G bk ck hF bl e0 e1 e2 e3 e4
     by_cases cf:j<n
     ·have e9:(j:Int)<n:=by omega
      obtain⟨K,hK⟩:∃K,T.z[j]?=A K:=⟨_,FD (by rw[HN.o];exact cf)⟩;have ar:=FZ hK;have aq:=(ba.o.C H.o).lift (F3 d);rcases aq with ⟨h0,_⟩|⟨b,off,cap,h1,h2,h3,h4,he,h6⟩
      ·rw[h0]at hK;simp at hK
      rw[HN.o]at he h3;injection he with ct _ cu
      subst ct;subst cu;obtain⟨u,sK,c0,c1,c2,c3,c4,L⟩:=h6 j K hK;obtain⟨ps,y,b1⟩:=L.h;obtain⟨S,af⟩:=zzy (K.z.length);rw[af]at b1;subst b1;have bm:=Hd (it (f:=gR d ts) hK bq.o)
      by_cases C:K.q=4
      ·have c0:wr.cell? ⟨b,off+j*5,Y⟩=A (I tF 4):=by rw[c0,C];rfl
       obtain⟨B,q⟩:=zzx (wr.alloc (r9 #[I tF 4,tS K.h,I U K.u,I U K.t,O ps S y] 145));have a:Gl wr B:=by rw[q];exact (Fz _ wr).alloc (Fy _) _
       have N:B.heap[wr.heap.size]?=A (r9 #[I tF 4,tS K.h,I U K.u,I U K.t,O ps S y] 145 (0,0)):=by rw[q];exact oA wr _
       have V:=Hd a;have P:Hid (Below M W2 B):=Q.o.trans (a.mono R.o);have D:=L.C (a.mono H.o.size);have cy:∀b,aZ M [vT,vR] b→M≤b:=fun b E=>by
        rcases E with rfl|⟨v,hv,E⟩
        ·exact Fy _
        ·simp only[Ge,Gc,o9]at hv;rcases hv with rfl|rfl
         ·exact b0.o b E
         ·exact bn.o b E
       have cv:Hid (wg vo 98 #[vv (A ⟨M,0,Y⟩),xk #[I tF 4,tS K.h,I U K.u,I U K.t,O ps S y]] B (nI F d M ts vT vR (eA d ts rs K) B)):=by
        have h:=zP F d M ts rs vT vR K ps S y w.heap.size B (x.o.C a) C (by omega) (by omega) af (by have:=(cb.o.kid K ar).1;omega) (D.lift (FH (F3 _) (F3 _))) (FH H.o.size a.size) (fun b E=>by have:=cy b E;have:=m.o;omega) u.2.1 ⟨u.2.2.1,u.2.2.2.1⟩ ((cb.o.kid K ar).2 C);rw[C]at h;exact h
       have ft:=Hd cy;obtain⟨k0,k1,k2,k3,k4⟩:=cells5 N;clear u L h6 h1 h2 h3 h4 hK ar a N D af cy;go_upto_region 14 with fail
       change xD _ _ _ _ (wr.alloc (r9 #[I tF 4,tS K.h,I U K.u,I U K.t,O ps S y] 145));rw[←q];clear q c0 c1 c2 c3 c4;go_wp2_with fail
       refine cv.o.mono ?_;rintro e W ⟨b2,he⟩;have z:Below M W2 W:=Chg.K P.o b2 ft.o (FH R.o V.o.size);clear k0 k1 k2 k3 k4
       cases X:eA d ts rs K with
       | error er =>
        rw[X]at he;have he:e=aJ er.1 er.2:=he;subst he;have b3:w.heap.size+1<M:=by have:=m.o;omega
        refine qK (d:=d) (T:=T) (er:=er) Z Z (bR.o.trans (z.mono (by have:=m.o;omega))) ((z.block _ b3).trans bb.o) ((z.block (w.heap.size+2) (by have:=m.o;omega)).trans bd.o) ?_;rw[HM.o];unfold mS;rw[ch.o];dsimp only;rw[jq (f:=gR d ts) (l:=T.z) (k:=j+1) (s:=[]) (e:=er) (bm.o.trans ?_)]
        show (if K.q==4 then eA d ts rs K else xt rs)=_
        rw[C];exact X
       | ok fv =>
        rw[X]at he;obtain⟨rfl,F2,fz,a1,b4,fI,ds⟩:=he;have HR:Hid (zj d M T n ts vT W2 (I U ((j+1:Nat):Int)) W):=by
         refine⟨j+1,fv,F2,fz,by omega,Z,?_,by rw[Ba X];omega,a1,fun g hg=>?_,fun b E=>?_,z⟩
         ·rw[bm.o]
          show (if K.q==4 then eA d ts rs K else xt rs)=_
          rw[C];exact X
         ·rcases b4 g hg with h|h
          ·exact bn.o g h
          ·exact FH (FH R.o V.o.size) h
         ·rcases ds b E with h|h
          ·exact HF.o b h
          ·exact FH (FH R.o V.o.size) h
        clear a1 b4 fI ds b2 z X;go_wp2_with fail
        refine⟨HR.o,?_⟩;simp[intOf];omega
      ·have fs:¬((K.q:Int)=4):=by omega
       obtain⟨B,q⟩:=zzx (wr.alloc (r9 #[I tF K.q,tS K.h,I U K.u,I U K.t,O ps S y] 145));have a:Gl wr B:=by rw[q];exact (Fz _ wr).alloc (Fy _) _
       have N:B.heap[wr.heap.size]?=A (r9 #[I tF K.q,tS K.h,I U K.u,I U K.t,O ps S y] 145 (0,0)):=by rw[q];exact oA wr _
       have V:=Hd a;have P:Hid (Below M W2 B):=Q.o.trans (a.mono R.o);have D:=L.C (a.mono H.o.size);obtain⟨k0,k1,k2,k3,k4⟩:=cells5 N;clear u L h6 h1 h2 h3 h4 hK ar a N D af;go_upto_region 14 with fail
       change xD _ _ _ _ (wr.alloc (r9 #[I tF K.q,tS K.h,I U K.u,I U K.t,O ps S y] 145));rw[←q];clear q c0 c1 c2 c3 c4;have HR:Hid (zj d M T n ts vT W2 (I U ((j+1:Nat):Int)) B):=by
        refine⟨j+1,rs,F,vR,by omega,Z,?_,by omega,x.o.C V.o,bn.o,HF.o,P.o⟩;rw[bm.o]
        show (if K.q==4 then eA d ts rs K else xt rs)=_
        rw[show (K.q==4)=false by simpa using C];rfl
       go_wp2_with fail
       refine⟨HR.o,?_⟩;simp[intOf];omega
     ·have a6:be (gR d ts) [] T.z=xt rs:=by
       rw[←bq.o,FW (by rw[HN.o];omega)]
      have dt:Hid (iV d T=xt ⟨ts,rs⟩):=by
       show _=_
       rw[HM.o];unfold mS;rw[ch.o];dsimp only;rw[a6]
      obtain⟨pT,cT,dv⟩:=x.o.t.q;obtain⟨pR,cR,eg⟩:=x.o.r.q;obtain⟨nT,en⟩:=zzy (ts.length);obtain⟨nR,eo⟩:=zzy (rs.length);rw[en]at dv;rw[eo]at eg;subst dv;subst eg;have fT:w.heap.size+1<M:=by have:=m.o;omega
      have gf:w.heap.size+2<M:=by have:=m.o;omega
      have b5:=(Q.o.block _ fT).trans bb.o;have b6:=(Q.o.block _ gf).trans bd.o;have m0:=x.o.z.1;have m1:=x.o.z.2;have c0:wr.cell? ⟨w.heap.size+1,0,Y⟩=A (O Y 0 0):=by rw[Gk _ _ _ _ _ _ b5];rfl
      have c1:wr.cell? ⟨w.heap.size+1,1,Y⟩=A (O Y 0 0):=by rw[Gk _ _ _ _ _ _ b5];rfl
      have d0:wr.cell? ⟨w.heap.size+1+1,0,Y⟩=A (I U 0):=by rw[Gk _ _ _ _ _ _ b6];rfl
      have d1:wr.cell? ⟨w.heap.size+1+1,1,Y⟩=A (I U 0):=by rw[Gk _ _ _ _ _ _ b6];rfl
      have f1:=dR b5;have f2:∀i,wr.frozen? ⟨w.heap.size+1+1,i,Y⟩=false:=dR b6;obtain⟨W,ad⟩:=zzx ((((wr.setCell ⟨w.heap.size+1,0,Y⟩ (O pT nT cT)).setCell ⟨w.heap.size+1,1,Y⟩ (O pR nR cR)).setCell ⟨w.heap.size+1+1,0,Y⟩ (I U 0)).setCell ⟨w.heap.size+1+1,1,Y⟩ (I U 0));have HZ:=Hd (oI b5 b6 (show w.heap.size+1≠w.heap.size+2 by omega) (O pT nT cT) (O pR nR cR) (I U 0) (I U 0));rw[←ad]at HZ;have cr:Hid (Gl w W):=by show Below _ _ _;rw[ad];exact (((H.o.setCell (p:=⟨w.heap.size+1,0,Y⟩) (F3 _) _).setCell (p:=⟨w.heap.size+1,1,Y⟩) (F3 _) _).setCell (p:=⟨w.heap.size+1+1,0,Y⟩) (FH (F3 _) (F3 _)) _).setCell (p:=⟨w.heap.size+1+1,1,Y⟩) (FH (F3 _) (F3 _)) _
      have cA:∀b,M≤b∧b<wr.heap.size→∀o,wr.heap[b]?=A o→W.heap[b]?=A o:=fun b E o ho=>by
       rw[ad,FC _ _ _ _ (show b≠w.heap.size+1+1 by omega),FC _ _ _ _ (show b≠w.heap.size+1+1 by omega),FC _ _ _ _ (show b≠w.heap.size+1 by omega),FC _ _ _ _ (show b≠w.heap.size+1 by omega)];exact ho
      have et:W.heap.size=wr.heap.size:=by rw[ad];simp[AJ]
      have b7:∀b,M≤b∧b<wr.heap.size→bf w W b:=fun b E=>⟨by omega,by rw[et];exact E.2⟩
      have gg:Hid (eD.h W (bf w W) ts (O pT nT cT)):=Rd.sv b7 (Rd.sb cA (x.o.t.h (fun b E=>⟨HF.o b E,(x.o.f b E).1⟩) (fun g hg=>⟨b0.o g hg,x.o.t.lt hg⟩)));have gD:Hid ((fh d).h W (bf w W) rs (O pR nR cR)):=Rd.sv b7 (Rd.sb cA (x.o.r.h (fun b E=>⟨HF.o b E,(x.o.f b E).1⟩) (fun g hg=>⟨bn.o g hg,x.o.r.lt hg⟩)));clear a6 b5 b6 cA et b7 en eo;go_wp2_with fail
      rw[←ad];refine zO Z Z HZ.o.1 HZ.o.2 ⟨cr.o,?_⟩;rw[dt.o];exact⟨_,_,Z,gg.o,gD.o⟩
def cx(s:ByteArray):Except Flt de:=if (fV s).2.1=0 then iV 30 (fV s).1 else z6 (fV s).2
theorem mJ{W:J}{tmps:Array tT}{R:AR→J→Prop}{r f:Nat}{a b x y:tT}(h:tmps.getD 2 wF=vv (A ⟨r,0,Y⟩))(i:tmps.getD 3 wF=vv (A ⟨f,0,Y⟩))
  (e:W.heap[r]?=A (r9 #[a,b] 107 (0,0))) (g:W.heap[f]?=A (r9 #[x,y] 109 (0,0))) (j:R (wj (y9 #[xk #[a,b],xk #[x,y]])) W):bodyPost vo Tryz.f49 R .ret ⟨tmps,[]⟩ W:=by
 have k:W.cell? ⟨r,0,Y⟩=A a:=by simp[AF,e]
 have l:W.cell? ⟨r,1,Y⟩=A b:=by simp[AF,e]
 have d0:W.cell? ⟨f,0,Y⟩=A x:=by simp[AF,g]
 have d1:W.cell? ⟨f,1,Y⟩=A y:=by simp[AF,g]
 have c:tmps[2]?.getD wF=vv (A ⟨r,0,Y⟩):=by simpa using h
 have d:tmps[3]?.getD wF=vv (A ⟨f,0,Y⟩):=by simpa using i
 refine bodyPost_ret (v:=y9 #[xk #[a,b],xk #[x,y]]) ?_ Z j;simp[results,Tryz.results49,go_sem,c,d,k,l,d0,d1]
theorem yM(s:ByteArray)(w:J)(ht:aB w):wg vo 49 #[tS s] w (pJ 30 (cx s) w):=by
 obtain⟨w1,H⟩:=zzx ((w.alloc (r9 #[O Y 0 0,O Y 0 0] 107)).alloc (r9 #[I U 0,I U 0] 109));obtain⟨aq,ar,_⟩:=aW w (r9 #[O Y 0 0,O Y 0 0] 107) (r9 #[I U 0,I U 0] 109);have a1:Gl w w1:=by rw[H];exact ((Fz _ w).alloc (Fy _) _).alloc (by simp) _
 rw[←H]at aq ar;obtain⟨bn,bq,bt,HP⟩:=zz4 aq ar a1 (vZ s w1 (ht.C a1));have HT:=Hd (fun W (hW:Gl w W)=>ht.C hW);clear aq ar a1
 go_enter Tryz.func49,Tryz.ntmps49
 go_upto_region 1 with fail
 change xD _ _ _ _ ((w.alloc (r9 #[O Y 0 0,O Y 0 0] 107)).alloc (r9 #[I U 0,I U 0] 109));rw[←H];clear H;go_wp2_with fail
 refine HP.o.mono ?_;rintro e W2 ⟨sl,rfl,K,h,t,f,_⟩;obtain⟨⟨T,er,pl⟩,a6⟩:∃x,fV s=x:=⟨_,rfl⟩;rw[a6]at h t f ⊢;have bB:=Hd a6;obtain⟨p,c,bR⟩:=h.q;obtain⟨n,hn⟩:=zzy (T.z.length);have ch:sl=O p n c:=by rw[bR,←hn]
 subst ch;have z:ap W2 W2.heap.size 30 T.z (O p n c):=h.z (fun b L=>L.2);have b0:=Hd (bt.o.trans (K.mono bt.o.size));have h0:=aa K bn.o (Fx.1 bn.o).1;have q:=aa K bq.o (Fx.1 bq.o).1;obtain⟨a,M⟩:=zzx ((W2.alloc (r9 #[I tF T.q,tS T.h,I U T.u,I U T.t,O p n c] 145)).alloc (r9 #[I U er,I U pl] 109));obtain⟨ba,g,_⟩:=aW W2 (r9 #[I tF T.q,tS T.h,I U T.u,I U T.t,O p n c] 145) (r9 #[I U er,I U pl] 109);have k:Gl W2 a:=by rw[M];exact ((Fz _ W2).alloc (Fy _) _).alloc (by simp) _
 rw[←M]at ba g;obtain⟨B,N,bb⟩:=zz3 (b0.o.trans (k.mono b0.o.size)) (aa k h0 (Fx.1 h0).1) (aa k q (Fx.1 q).1);have b1:Hid (w.heap.size+2≤W2.heap.size):=by
  have:=(Fx.1 q).1
  show _≤_;omega
 obtain⟨HM,ck,P⟩:=zz3 (Cc 30 T _ a ⟨t,_,Z,(z.C k).up k.size⟩ (f 30).slim (HT.o a B.o)) ba g;clear a6 h t f bR hn z K h0 q k ba g;go_upto_region 2 with fail
 change xD _ _ _ _ ((W2.alloc (r9 #[I tF T.q,tS T.h,I U T.u,I U T.t,O p n c] 145)).alloc (r9 #[I U er,I U pl] 109));rw[←M];clear M;obtain⟨n0,n1,n2,n3,n4⟩:=cells5 ck.o;have g0:a.cell? ⟨W2.heap.size+1,0,Y⟩=A (I U er):=by rw[Gk _ _ _ _ _ _ P.o];rfl
 have g1:a.cell? ⟨W2.heap.size+1,1,Y⟩=A (I U pl):=by rw[Gk _ _ _ _ _ _ P.o];rfl
 by_cases Q:er=0
 ·have S:Hid (cx s=iV 30 T):=by show _=_;unfold cx;rw[bB.o,oE Q]
  subst Q;go_wp2_with fail
  refine HM.o.mono ?_;rintro e r ⟨bd,he⟩;have C:=aa bd N.o (Fx.1 N.o).1;have D:=aa bd bb.o (Fx.1 bb.o).1;have cl:=Hd (B.o.trans (bd.mono B.o.size));have c0:r.cell? ⟨w.heap.size,0,Y⟩=A (O Y 0 0):=by rw[Gk _ _ _ _ _ _ C];rfl
  have c1:r.cell? ⟨w.heap.size,1,Y⟩=A (O Y 0 0):=by rw[Gk _ _ _ _ _ _ C];rfl
  have d0:r.cell? ⟨w.heap.size+1,0,Y⟩=A (I U 0):=by rw[Gk _ _ _ _ _ _ D];rfl
  have d1:r.cell? ⟨w.heap.size+1,1,Y⟩=A (I U 0):=by rw[Gk _ _ _ _ _ _ D];rfl
  have f1:=dR C;have f2:=dR D;obtain⟨cm,cn⟩:=zz2 C D;clear C D n0 n1 n2 n3 n4 g0 g1 HM;have fin:∀x y u v,Gl w ((((r.setCell ⟨w.heap.size,0,Y⟩ x).setCell ⟨w.heap.size,1,Y⟩ y).setCell ⟨w.heap.size+1,0,Y⟩ u).setCell ⟨w.heap.size+1,1,Y⟩ v):=fun x y u v =>(((cl.o.setCell (p:=⟨w.heap.size,0,Y⟩) (Fy _) _).setCell (p:=⟨w.heap.size,1,Y⟩) (Fy _) _).setCell (p:=⟨w.heap.size+1,0,Y⟩) (F3 _) _).setCell (p:=⟨w.heap.size+1,1,Y⟩) (F3 _) _
  have V:=Hd fin;have b2:∀x y u v,_:=fun x y u v=>oI cm.o cn.o (show w.heap.size≠w.heap.size+1 by omega) x y u v
  have b3:=Hd b2;clear fin b2
  cases l:iV 30 T with
  | error er =>
   rw[l]at he;have he:e=wj (y9 #[xk #[O Y 0 0,O Y 0 0],xk #[I U er.1,I U er.2]]):=he;subst he;have E:Hid (cx s=z6 er):=S.o.trans l;clear l;go_wp2_with fail
   have hz:=b3.o (O Y 0 0) (O Y 0 0) (I U er.1) (I U er.2);refine mJ Z Z hz.1 hz.2 ⟨V.o _ _ _ _,?_⟩;rw[E.o]
  | ok R =>
   rw[l]at he;obtain⟨st,sr,rfl,bk,bl⟩:=he;have E:Hid (cx s=xt R):=S.o.trans l;obtain⟨pT,cT,b4⟩:=Rd.q bk;obtain⟨pR,cR,b5⟩:=Rd.q bl;obtain⟨nT,b6⟩:=zzy (R.a.length);obtain⟨nR,b7⟩:=zzy (R.c.length);rw[b6]at b4;rw[b7]at b5;subst b4;subst b5;obtain⟨cp,cq⟩:=zz2 bk bl;have cr:=B.o.size;have b8:W2.heap.size+1<a.heap.size:=(Fx.1 P.o).1;have b9:Hid (w.heap.size+2≤a.heap.size):=by have:=b1.o;show _≤_;omega
   clear l bk bl b6 b7 cr b8;go_wp2_with fail
   have hz:=b3.o (O pT nT cT) (O pR nR cR) (I U 0) (I U 0);refine mJ Z Z hz.1 hz.2 ⟨V.o _ _ _ _,?_⟩;rw[E.o];have ct:((((r.setCell ⟨w.heap.size,0,Y⟩ (O pT nT cT)).setCell ⟨w.heap.size,1,Y⟩ (O pR nR cR)).setCell ⟨w.heap.size+1,0,Y⟩ (I U 0)).setCell ⟨w.heap.size+1,1,Y⟩ (I U 0)).heap.size=r.heap.size:=by simp[AJ]
   have m:∀b,bf a r b→∀o,r.heap[b]?=A o→((((r.setCell ⟨w.heap.size,0,Y⟩ (O pT nT cT)).setCell ⟨w.heap.size,1,Y⟩ (O pR nR cR)).setCell ⟨w.heap.size+1,0,Y⟩ (I U 0)).setCell ⟨w.heap.size+1,1,Y⟩ (I U 0)).heap[b]?=A o:=fun b L o ho=>by
    have q:=L.1;have X:=b9.o;rw[FC _ _ _ _ (show b≠w.heap.size+1 by omega),FC _ _ _ _ (show b≠w.heap.size+1 by omega),FC _ _ _ _ (show b≠w.heap.size by omega),FC _ _ _ _ (show b≠w.heap.size by omega)];exact ho
   have ad:∀b,bf a r b→bf w ((((r.setCell ⟨w.heap.size,0,Y⟩ (O pT nT cT)).setCell ⟨w.heap.size,1,Y⟩ (O pR nR cR)).setCell ⟨w.heap.size+1,0,Y⟩ (I U 0)).setCell ⟨w.heap.size+1,1,Y⟩ (I U 0)) b:=fun b L=>⟨by have:=L.1;have:=b9.o;omega,by rw[ct];exact L.2⟩
   exact⟨_,_,Z,Rd.sv ad (Rd.sb m cp.o),Rd.sv ad (Rd.sb m cq.o)⟩
 ·have S:Hid (cx s=z6 (er,pl)):=by show _=_;unfold cx;rw[bB.o,oB Q]
  have cC:decide (er=0)=false:=oT Q;go_upto_region 3 with fail
  obtain⟨d,F⟩:=zzx (a.drew.setCells w.heap.size 0 [O Y 0 0,O Y 0 0]);have m:∀b,b≠w.heap.size→d.heap[b]?=a.heap[b]?:=fun b L=>by
   rw[F]
   show ((a.drew.setCell ⟨w.heap.size,0,Y⟩ (O Y 0 0)).setCell ⟨w.heap.size,1,Y⟩ (O Y 0 0)).heap[b]?=_
   rw[FC _ _ _ _ L,FC _ _ _ _ L];rfl
  have af:W2.heap.size+1≠w.heap.size:=by have:=b1.o;omega
  have g:d.heap[W2.heap.size+1]?=A (r9 #[I U er,I U pl] 109 (0,0)):=(m _ af).trans P.o;have ca:d.heap[w.heap.size+1]?=A (r9 #[I U 0,I U 0] 109 (0,0)):=(m _ (by omega)).trans bb.o;have cb:d.heap[w.heap.size]?=A (r9 #[O Y 0 0,O Y 0 0] 107 (0,0)):=by
   rw[F];have q:(a.drew.setCell ⟨w.heap.size,0,Y⟩ (O Y 0 0)).heap[w.heap.size]?=A (r9 #[O Y 0 0,O Y 0 0] 107 (0,0)):=heap_set (show a.drew.heap[w.heap.size]?=_ from N.o) 0 _;have X:((a.drew.setCell ⟨w.heap.size,0,Y⟩ (O Y 0 0)).setCell ⟨w.heap.size,1,Y⟩ (O Y 0 0)).heap[w.heap.size]?=A (r9 #[O Y 0 0,O Y 0 0] 107 (0,0)):=heap_set q 1 _;exact X
  have cc:Gl w d:=by
   rw[F];exact ((B.o.drew).setCell (p:=⟨w.heap.size,0,Y⟩) (Fy _) _).setCell (p:=⟨w.heap.size,1,Y⟩) (Fy _) _
  have G0:=fun x:RE.Two a.drew d=>RE.Two.h (p:=⟨W2.heap.size+1,0,Y⟩) (show a.drew.cell? ⟨W2.heap.size+1,0,Y⟩=_ from g0) (by rw[Gk _ _ _ _ _ _ g];rfl) x
  have G1:=fun x:RE.Two a.drew d=>RE.Two.h (p:=⟨W2.heap.size+1,1,Y⟩) (show a.drew.cell? ⟨W2.heap.size+1,1,Y⟩=_ from g1) (by rw[Gk _ _ _ _ _ _ g];rfl) x
  obtain⟨cu,bm,cv,cy⟩:=zz4 F ca cb cc;clear F m g ca cb cc af n0 n1 n2 n3 n4 g0 g1;refine RE.u (by kernel_rfl) 3 [2] [2] (fun s W=>if s=0 then W=a.drew else W=d) (fun _ _=>True) (fun _ _=>wF) (fun _ _ _=>True) (by kernel_rfl) (fun i q X=>by rw[q]at X;cases X) (fun _ _ _ _ _ _ _=>trivial) Z ?_;simp only[FO,FY,FQ,FX]
  repeat (refine RE.q (fun W=>∃x:RE.Two a.drew d,W=x.1) RE.two_class Z Z Z Z ?_;go_big_quiet_step (fail);refine xL ?_)
  refine RE.h Z Z ?_ (fun xs=>?_)
  ·intro W hC hS _;obtain rfl:W=a.drew:=hS Z;refine RE.upon_skip (w':=a.drew.setCells w.heap.size 0 [O Y 0 0,O Y 0 0]) ?_ ⟨[],Z,cu.o.symm,trivial,trivial⟩;refine RE.run_store_agg 107 (.tmp 2) (.tmp 14) Z w.heap.size 0 #[O Y 0 0,O Y 0 0] Z Z ?_ (by kernel_rfl) (by simp[Value.oneCell']);intro j hj;have hj:j<2:=hj;have hh:a.drew.heap[w.heap.size]?=_:=N.o;rw[Gk _ _ _ _ _ _ hh,ax hh];have:j=0∨j=1:=by omega
   rcases this with rfl|rfl<;>exact⟨Z,Z⟩
  simp only[Act.put];refine RE.t ?_;intro W hS _;have hS:W=d:=hS;rw[hS];clear hS G0 G1;refine wpList_store_mid Z 109 (.tmp 3) (.tmp 15) Z (w.heap.size+1) 0 #[I U er,I U pl] Z Z ?_ (by kernel_rfl) (by simp[Value.oneCell']) ?_
  ·intro j hj;have hj:j<2:=hj;rw[Gk _ _ _ _ _ _ bm.o,ax bm.o];have:j=0∨j=1:=by omega
   rcases this with rfl|rfl<;>exact⟨Z,Z⟩
  have G:((d.setCell ⟨w.heap.size+1,0,Y⟩ (I U er)).setCell ⟨w.heap.size+1,1,Y⟩ (I U pl)).heap[w.heap.size]?=A (r9 #[O Y 0 0,O Y 0 0] 107 (0,0)):=by
   rw[FC _ _ _ _ (show w.heap.size≠w.heap.size+1 by omega),FC _ _ _ _ (show w.heap.size≠w.heap.size+1 by omega)];exact cv.o
  have q:(d.setCell ⟨w.heap.size+1,0,Y⟩ (I U er)).heap[w.heap.size+1]?=A (r9 #[I U er,I U 0] 109 (0,0)):=heap_set bm.o 0 _;have X:((d.setCell ⟨w.heap.size+1,0,Y⟩ (I U er)).setCell ⟨w.heap.size+1,1,Y⟩ (I U pl)).heap[w.heap.size+1]?=A (r9 #[I U er,I U pl] 109 (0,0)):=heap_set q 1 _;have cf:Gl w ((d.setCell ⟨w.heap.size+1,0,Y⟩ (I U er)).setCell ⟨w.heap.size+1,1,Y⟩ (I U pl)):=(cy.o.setCell (p:=⟨w.heap.size+1,0,Y⟩) (F3 _) _).setCell (p:=⟨w.heap.size+1,1,Y⟩) (F3 _) _;obtain⟨HL,H2,cA⟩:=zz3 G X cf;clear G q X cf;change wpList _ _ _ _ _ ((d.setCell ⟨w.heap.size+1,0,Y⟩ (I U er)).setCell ⟨w.heap.size+1,1,Y⟩ (I U pl));go_wp2_with fail
  refine mJ Z Z HL.o H2.o ⟨cA.o,?_⟩;rw[S.o]
