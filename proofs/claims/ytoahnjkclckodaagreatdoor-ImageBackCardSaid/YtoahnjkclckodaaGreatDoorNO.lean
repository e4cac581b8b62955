/- Parts of one proof, joined; conditions stand in each theorem. -/
import Derived.Test.YtoahnjkclckodaaGreatDoorNN
import Derived.Test.YtoahnjkclckodaaGreatDoorNA
import Derived.Test.YtoahnjkclckodaaGreatDoorMD
import Derived.Test.YtoahnjkclckodaaGreatDoorMM
import Derived.Defers
import Derived.Recover
import Derived.Test.YtoahnjkclckodaaGreatDoorMH
import Derived.Test.YtoahnjkclckodaaGreatDoorMXP
open Go renaming World→J,Value→tS,undef→xk,wpQuiet_nil→xL,Ending→AJ,Calls→vv
open Option renaming some→A,none→Y
open Go.Obj renaming cells→r7
open Go.Proofs.Tryz renaming prog→va
open Go.Value renaming pointer→vo,agg→wP,int→I,tuple→y9,slice→O,string→r9
open Go.IntKind renaming i64→U,u8→r8
open Go.Ending renaming returned→wg
open Go.Code renaming wp→xv
open Except renaming error→zs,ok→xn
open Go.World renaming cell?→At,setCell→AF
namespace Go.Proofs.YtoahnjkclckodaaGreatDoor
set_option maxHeartbeats 16000000
set_option maxRecDepth 100000
open Go.RowKit
theorem ax.lift{w:J}{B d a:Nat}{ks:List ac}{b:tS}(h:ax w B d ks b)(c:d≤a):ax w B a ks b:=by
 induction c with
 | refl=>exact h
 | step _ e=>exact e.more
theorem BG{w:J}{B:Nat}:∀{d:Nat} {T:ac} {a:tS},ax w B d T.z a→cN d T:=by
 intro d
 induction d with
 | zero=>intro T a h;exact h.1
 | succ d f =>
  intro T a h k c;rcases h with ⟨g,_⟩|⟨b,off,cap,_,_,_,_,_,j⟩
  ·rw[g]at c;simp at c
  ·obtain⟨i,hi⟩:=List.getElem?_of_mem c;obtain⟨_,s,_,_,_,_,_,e⟩:=j i k hi;exact f e
theorem wX:∀{d:Nat} {T:ac},j4 d T→fo d T
 | 0,_,h=>h
 | _d+1,_,h=>⟨h.1,h.2.1,fun k a=>wX (h.2.2 k a)⟩
theorem fo.more:∀{d:Nat} {T:ac},cN d T→fo d T→fo (d+1) T
 | 0,T,he,h=>⟨h,by rw[show T.z=[] from he];exact J0 _,fun k a=>by rw[show T.z=[] from he]at a;simp at a⟩
 | d+1,T,he,h=>⟨h.1,h.2.1,fun k a=>fo.more (he k a) (h.2.2 k a)⟩
theorem AW{d a:Nat}{T:ac}(he:cN d T)(b:d≤a):cN a T:=by
 induction b with
 | refl=>exact he
 | step _ c=>exact c.more
theorem fo.lift{d a:Nat}{T:ac}(he:cN d T)(h:fo d T)(b:d≤a):fo a T:=by
 induction b with
 | refl=>exact h
 | step hm c=>exact fo.more (AW he hm) c
theorem jL:∀(l:List Nat) (c:Nat),l.foldl (· + ·) c=c+l.foldl (· + ·) 0
 | [],c=>rfl
 | x::l,c=>by
  rw[List.foldl_cons,List.foldl_cons,jL l (c+x),jL l (0+x)];omega
theorem EJ:∀(d:Nat) (T:ac),1≤dN d T
 | 0,_=>JM _
 | d+1,T=>by
  show 1≤(T.z.map (dN d)).foldl (· + ·) 1
  rw[jL];omega
theorem xM(f:ac→Nat)(b:∀T,1≤f T):∀(l:List ac),l.length≤(l.map f).foldl (· + ·) 0∧∀k∈l,f k≤(l.map f).foldl (· + ·) 0
 | []=>⟨JM _,fun k a=>by simp at a⟩
 | z::l=>by
  obtain⟨d,c⟩:=xM f b l;rw[List.map_cons,List.foldl_cons,jL];refine⟨by have:=b z;simp only[Kf];omega,fun k a=>?_⟩;rcases Kk.1 a with rfl|a
  ·omega
  ·have:=c k a;omega
theorem mz{d:Nat}{T:ac}:T.z.length<dN (d+1) T∧∀k∈T.z,dN d k<dN (d+1) T:=by
 obtain⟨c,a⟩:=xM (dN d) (EJ d) T.z;have e:dN (d+1) T=(T.z.map (dN d)).foldl (· + ·) 1:=rfl;rw[e,jL];exact⟨by omega,fun k b=>by have:=a k b;omega⟩
theorem xY:∀{d:Nat} {T:ac},cN d T→dN d T≤4096→T.z.length≤4096
 | 0,T,he,_=>by rw[show T.z=[] from he];exact J0 _
 | d+1,T,_,h=>by have:=(mz (d:=d) (T:=T)).1;omega
theorem Ik{D d:Nat}{K:ac}(l:d≤D+1)(he:cN d K)(i:okF d K=true)(hm:dN d K≤4096)(e:fo d K):nh D K:=by
 have j:=jB i;obtain⟨_,a,c⟩:=gY j;have kid:∀k∈K.z,fo D k∧k.h.size≤72007:=fun k a=>by
  cases d with
  | zero=>rw[show K.z=[] from he]at a;simp at a
  | succ d=>exact⟨fo.lift (he k a) (e.2.2 k a) (by omega),(e.2.2 k a).h⟩
 refine⟨?_,by have:=xY he hm;omega,fun h=>?_,fun h=>?_,fun h k b=>(kid k b).1⟩
 ·unfold wQ at c;unfold I64
  split at c
  ·simp only[J4,oB]at c;omega
  ·split at c
   ·simp only[J4,oB]at c;omega
   ·have:K.u=0:=by simpa using c
    omega
 ·intro k b;have f:cE [12,13,14,15] K.z=true:=by
   unfold gw at a;rcases h with h|h<;>rw[h]at a<;>exact a
  have:=Kh.1 f k b;refine⟨?_,(kid k b).2⟩
  simpa using this
 ·have f:(K.z.length==1&&ej K.z)=true:=by
   unfold gw at a;rw[h]at a;exact a
  simp only[J4,q7]at f
  cases g:K.z with
  | nil=>rw[g]at f;simp at f
  | cons t r=>exact⟨t,r,Z,(kid t (by rw[g];simp)).1⟩
structure Js (D:Nat) (T:ac):Prop where
 few:T.z.length≤4096
 kid:∀k∈T.z,k.z.length≤4096∧(k.q=4→∀K∈k.z,nh D K)
theorem IK{D:Nat}{T:ac}(he:cN D T)(g:okF D T=true)(hm:dN D T≤4096)(h:j4 D T):Js D T:=by
 have i:=wX h
 cases D with
 | zero=>exact⟨by rw[show T.z=[] from he];exact J0 _,fun k a=>by rw[show T.z=[] from he]at a;simp at a⟩
 | succ d =>
  have m:=(mz (d:=d) (T:=T)).1;refine⟨by omega,fun k a=>?_⟩;have j:=(mz (d:=d) (T:=T)).2 k a;have b:=he k a;have e:okF d k=true:=by
   have:(bu T&&T.z.all (okF d))=true:=g;simp only[J4]at this;exact Kh.1 this.2 k a
  refine⟨xY b (by omega),fun n K c=>?_⟩
  cases d with
  | zero=>rw[show k.z=[] from b]at c;simp at c
  | succ d =>
   have l:=(mz (d:=d) (T:=k)).2 K c;have f:okF d K=true:=by
    have:(bu k&&k.z.all (okF d))=true:=e;simp only[J4]at this;exact Kh.1 this.2 K c
   exact Ik (by omega) (b K c) f (by omega) (((i.2.2 k a)).2.2 K c)
theorem zm(r f:Nat)(er pl:Int)(a:List PanicEntry)(a0 a1 H D:tS)(w:J)(K:w.heap[r]?=A (r7 #[a0,a1] 107 (0,0)))(L:w.heap[f]?=A (r7 #[H,D] 109 (0,0)))(g:r≠f) :
  CallsD va 96 #[vo (A ⟨r,0,Y⟩),vo (A ⟨f,0,Y⟩)] (.panicking ({ v:=.iface 109 (wP #[I U er,I U pl]),recovered:=false }::a)) w fun e M w' =>
   e=wg (y9 #[])∧M=.panicking ({ v:=.iface 109 (wP #[I U er,I U pl]),recovered:=true }::a)∧
   Chg (fun b=>b=r∨b=f) w w'∧w'.heap[r]?=A (r7 #[O Y 0 0,O Y 0 0] 107 (0,0))∧w'.heap[f]?=A (r7 #[I U er,I U pl] 109 (0,0)):=by
 refine callsD_of_wpS Tryz.func96 Z fun n cs hu=>?_
 apply wpS_seq;apply wpS_region;simp[wpOpsS,go_sem,recoverD,hu,Tryz.ntmps96,Exit.thenS];apply wpS_seq;apply wpS_region;simp[wpOpsS,go_sem,Exit.thenS];refine wpS_cond (t:=true) (by simp[Act.eval,Array.replicate]) ?_;simp only[oX];refine wpS_of_wp ?_;change xv _ _ _ ⟨#[vo (A ⟨r,0,Y⟩),vo (A ⟨f,0,Y⟩),.iface 109 (wP #[I U er,I U pl]),.iface 109 (wP #[I U er,I U pl]),.iface 109 (wP #[I U er,I U pl]),Value.bool true,xk,xk,xk],[]⟩ w;refine RE.z (by kernel_rfl) 4 [2,3] [3] (fun s W=>if s=0 then Kr w W else Chg (fun b=>b=r) w W∧W.heap[r]?=A (r7 #[O Y 0 0,O Y 0 0] 107 (0,0))) (fun _ _=>True) (fun i _=>if i=2 then wP #[I U er,I U pl] else xk) (fun _ _ _=>True) (by kernel_rfl) ?_ (fun _ _ _ _ _ _ _=>trivial) (JO _ _).drew ?_
 ·intro i z B s W W' h q
  split at h
  ·rw[oj (by assumption)];exact h.trans (q.mono h.size)
  ·rw[oe (by assumption)];exact⟨h.1.h (Chg.u q),aa q h.2 (JL.1 h.2).1⟩
 simp only[JY,J7,JZ,J6];have E:∀(m s:Nat) (W:J),s≤m→(if s=0 then Kr w W else Chg (fun b=>b=r) w W∧W.heap[r]?=A (r7 #[O Y 0 0,O Y 0 0] 107 (0,0)))→∃x:Ks w (fun _=>False),W=x.1:=fun _ _ W _ _=>⟨⟨W,fun _ h=>h.elim⟩,Z⟩
 repeat (refine RE.q (fun W=>∃x:Ks w (fun _=>False),W=x.1) (E _) Z Z Z (JO _ _).drew ?_;go_big_quiet_step (fail);refine xL ?_)
 refine RE.h Z Z ?_ (fun N=>?_)
 ·intro W C _ _;refine RE.upon_run (v:=wP #[I U er,I U pl]) (w':=W) ?_ ⟨[],Z,JO _ _,trivial,trivial⟩;have G:(Instr.typeAssert (.iface 109 (wP #[I U er,I U pl])) 20 109 false).run va W=.ok (wP #[I U er,I U pl]) W:=by kernel_rfl
  simp[execOp,Act.eval,G]
 simp only[Act.put,JP,JW,JV,Nat.reduceAdd,↓reduceIte];refine RE.h Z Z ?_ (fun N=>?_)
 ·intro W C l _;have l:Kr w W:=l Z;have c:=aa l K (JL.1 K).1;refine RE.upon_skip (w':=W.setCells r 0 [O Y 0 0,O Y 0 0]) ?_ ⟨[],Z,?_,trivial,trivial⟩
  ·refine RE.run_store_agg 107 (.tmp 0) (.tmp 6) Z r 0 #[O Y 0 0,O Y 0 0] Z Z ?_ (by kernel_rfl) (by simp[Value.oneCell']);intro j u;have u:j<2:=u;rw[Kq _ _ _ _ _ _ c,aB c];have:j=0∨j=1:=by omega
   rcases this with rfl|rfl<;>exact⟨Z,Z⟩
  ·refine⟨?_,?_⟩
   ·exact Chg.K (F:=fun b=>b=r) (Chg.K (F:=fun b=>b=r) (Chg.u l) (p:=⟨r,0,Y⟩) (Or.inl Z) _) (p:=⟨r,1,Y⟩) (Or.inl Z) _
   ·have z:(W.setCell ⟨r,0,Y⟩ (O Y 0 0)).heap[r]?=A (r7 #[O Y 0 0,a1] 107 (0,0)):=heap_set c 0 _;have B:((W.setCell ⟨r,0,Y⟩ (O Y 0 0)).setCell ⟨r,1,Y⟩ (O Y 0 0)).heap[r]?=A (r7 #[O Y 0 0,O Y 0 0] 107 (0,0)):=heap_set z 1 _;exact B
 simp only[Act.put,Nat.reduceAdd];refine RE.u ?_;intro W l _;obtain⟨C,c⟩:Chg (fun b=>b=r) w W∧W.heap[r]?=A (r7 #[O Y 0 0,O Y 0 0] 107 (0,0)):=l;have k:W.heap[f]?=A (r7 #[H,D] 109 (0,0)):=(C.q f (JL.1 L).1 (fun e=>g e.symm)).trans L;refine wpList_store_mid Z 109 (.tmp 1) (.tmp 8) Z f 0 #[I U er,I U pl] Z Z ?_ (by kernel_rfl) (by simp[Value.oneCell']) ?_
 ·intro j u;have u:j<2:=u;rw[Kq _ _ _ _ _ _ k,aB k];have:j=0∨j=1:=by omega
  rcases this with rfl|rfl<;>exact⟨Z,Z⟩
 have d:Chg (fun b=>b=r∨b=f) w (W.setCells f 0 [I U er,I U pl])∧(W.setCells f 0 [I U er,I U pl]).heap[r]?=A (r7 #[O Y 0 0,O Y 0 0] 107 (0,0))∧(W.setCells f 0 [I U er,I U pl]).heap[f]?=A (r7 #[I U er,I U pl] 109 (0,0)):=by
  refine⟨Chg.K (F:=fun b=>b=r∨b=f) (Chg.K (F:=fun b=>b=r∨b=f) (Chg.N C (fun b q=>Or.inl q)) (p:=⟨f,0,Y⟩) (Or.inl (Or.inr Z)) _) (p:=⟨f,1,Y⟩) (Or.inl (Or.inr Z)) _,?_,?_⟩
  ·show ((W.setCell ⟨f,0,Y⟩ (I U er)).setCell ⟨f,1,Y⟩ (I U pl)).heap[r]?=_
   rw[JQ _ _ _ _ g,JQ _ _ _ _ g];exact c
  ·have z:(W.setCell ⟨f,0,Y⟩ (I U er)).heap[f]?=A (r7 #[I U er,D] 109 (0,0)):=heap_set k 0 _;have B:((W.setCell ⟨f,0,Y⟩ (I U er)).setCell ⟨f,1,Y⟩ (I U pl)).heap[f]?=A (r7 #[I U er,I U pl] 109 (0,0)):=heap_set z 1 _;exact B
 have y:=Hd d;clear d
 cases n
 simp_all [wpList,bodyPostS,results,Tryz.results96]
 exact⟨Z,y.o⟩
theorem catch_idle(r f:Nat)(w:J) :
  CallsD va 96 #[vo (A ⟨r,0,Y⟩),vo (A ⟨f,0,Y⟩)] .returning w fun e b w'=>e=wg (y9 #[])∧b=.returning∧w'=w:=by
 refine callsD_of_wpS Tryz.func96 Z fun a cs hu=>?_
 apply wpS_seq;apply wpS_region;simp[wpOpsS,go_sem,recoverD,hu,Tryz.ntmps96,Exit.thenS];apply wpS_seq;apply wpS_region;simp[wpOpsS,go_sem,Exit.thenS];refine wpS_cond (t:=false) (by simp[Act.eval,Array.replicate]) ?_;simp only[Ka,oF];refine wpS_of_wp (wp_skip ?_)
 cases a
 simp_all [bodyPostS,results,Tryz.results96]
def jc(d:Nat) (T:ac):Except Flt dc:=if jU d T then lz d T else zs (4,0)
def rA(d:Nat) (r:Except Flt dc) (w:J) (e:AJ) (w':J):Prop:=Kr w w'∧match r with
 | .ok R=>∃st sr,e=wg (y9 #[wP #[st,sr],wP #[I U 0,I U 0]])∧eW.h w' (bs w w') R.c st∧(fM d).h w' (bs w w') R.a sr
 | .error er=>e=wg (y9 #[wP #[O Y 0 0,O Y 0 0],wP #[I U er.1,I U er.2]])
theorem Bh(w:J)(a b c:Obj):((((w.alloc a).alloc b).alloc c).heap[w.heap.size]?=A a)∧((((w.alloc a).alloc b).alloc c).heap[w.heap.size+1]?=A b)∧((((w.alloc a).alloc b).alloc c).heap[w.heap.size+2]?=A c):=by
 obtain⟨e,f,_⟩:=bc w a b;have d:Below ((w.alloc a).alloc b).heap.size ((w.alloc a).alloc b) (((w.alloc a).alloc b).alloc c):=(JO _ _).alloc (JM _) _;have g:((w.alloc a).alloc b).heap.size=w.heap.size+2:=by simp
 refine⟨aa d e (by omega),aa d f (by omega),?_⟩;have:=oc ((w.alloc a).alloc b) c;rw[g]at this;exact this
theorem qB{W:J}{r f:Nat}{a0 a1 c b:tS}(d:W.heap[r]?=A (r7 #[a0,a1] 107 (0,0)))(e:W.heap[f]?=A (r7 #[c,b] 109 (0,0)))(a:r≠f)(x y u v:tS) :
  ((((W.setCell ⟨r,0,Y⟩ x).setCell ⟨r,1,Y⟩ y).setCell ⟨f,0,Y⟩ u).setCell ⟨f,1,Y⟩ v).heap[r]?=A (r7 #[x,y] 107 (0,0))∧((((W.setCell ⟨r,0,Y⟩ x).setCell ⟨r,1,Y⟩ y).setCell ⟨f,0,Y⟩ u).setCell ⟨f,1,Y⟩ v).heap[f]?=A (r7 #[u,v] 109 (0,0)):=by
 have g:(W.setCell ⟨r,0,Y⟩ x).heap[r]?=A (r7 #[x,a1] 107 (0,0)):=heap_set d 0 _;have h:((W.setCell ⟨r,0,Y⟩ x).setCell ⟨r,1,Y⟩ y).heap[r]?=A (r7 #[x,y] 107 (0,0)):=heap_set g 1 _;have g0:((W.setCell ⟨r,0,Y⟩ x).setCell ⟨r,1,Y⟩ y).heap[f]?=A (r7 #[c,b] 109 (0,0)):=by rw[JQ _ _ _ _ a.symm,JQ _ _ _ _ a.symm];exact e
 have g1:(((W.setCell ⟨r,0,Y⟩ x).setCell ⟨r,1,Y⟩ y).setCell ⟨f,0,Y⟩ u).heap[f]?=A (r7 #[u,b] 109 (0,0)):=heap_set g0 0 _;have g2:((((W.setCell ⟨r,0,Y⟩ x).setCell ⟨r,1,Y⟩ y).setCell ⟨f,0,Y⟩ u).setCell ⟨f,1,Y⟩ v).heap[f]?=A (r7 #[u,v] 109 (0,0)):=heap_set g1 1 _;refine⟨?_,g2⟩;rw[JQ _ _ _ _ a,JQ _ _ _ _ a];exact h
theorem mK{W:J}{R:AJ→J→Prop}{tmps:Array tS}{r f:Nat}{a b x y:tS}(h:tmps.getD 2 xk=vo (A ⟨r,0,Y⟩))(i:tmps.getD 3 xk=vo (A ⟨f,0,Y⟩))
  (e:W.heap[r]?=A (r7 #[a,b] 107 (0,0))) (g:W.heap[f]?=A (r7 #[x,y] 109 (0,0))) (j:R (wg (y9 #[wP #[a,b],wP #[x,y]])) W):Leaves va Tryz.f73 tmps R [] .returning W:=by
 have k:W.cell? ⟨r,0,Y⟩=A a:=by simp[At,e]
 have l:W.cell? ⟨r,1,Y⟩=A b:=by simp[At,e]
 have d0:W.cell? ⟨f,0,Y⟩=A x:=by simp[At,g]
 have d1:W.cell? ⟨f,1,Y⟩=A y:=by simp[At,g]
 have c:tmps[2]?.getD xk=vo (A ⟨r,0,Y⟩):=by simpa using h
 have d:tmps[3]?.getD xk=vo (A ⟨f,0,Y⟩):=by simpa using i
 refine⟨y9 #[wP #[a,b],wP #[x,y]],?_,j⟩;simp[results,Tryz.results73,go_sem,c,d,k,l,d0,d1]
theorem CW{W w:J}{R:AJ→J→Prop}{tmps:Array tS}{a b x y:tS}(c:tmps.getD 2 xk=vo (A ⟨w.heap.size+1,0,Y⟩))(d:tmps.getD 3 xk=vo (A ⟨w.heap.size+1+1,0,Y⟩))
  (g:W.heap[w.heap.size+1]?=A (r7 #[a,b] 107 (0,0))) (h:W.heap[w.heap.size+1+1]?=A (r7 #[x,y] 109 (0,0))) (i:R (wg (y9 #[wP #[a,b],wP #[x,y]])) W) :
  Leaves va Tryz.f73 tmps R [{ target:=Target.fn (Fn.func 96) #[vo (A ⟨w.heap.size+1,0,Y⟩),vo (A ⟨w.heap.size+1+1,0,Y⟩)],args:=#[] }] .returning W:=by
 refine leaves_cons (f:=96) (args:=#[vo (A ⟨w.heap.size+1,0,Y⟩),vo (A ⟨w.heap.size+1+1,0,Y⟩)]) (by simp) (by simp[go_sem]) ?_;refine (catch_idle (w.heap.size+1) (w.heap.size+1+1) W).mono ?_;rintro e k j ⟨rfl,rfl,rfl⟩;exact mK c d g h i
theorem sU{d:Nat}{T:ac}{W w:J}{tmps:Array tS}{a b x y:tS}{er:Flt}(i:tmps.getD 2 xk=vo (A ⟨w.heap.size+1,0,Y⟩))(j:tmps.getD 3 xk=vo (A ⟨w.heap.size+1+1,0,Y⟩))(c:Kr w W)
  (k:W.heap[w.heap.size+1]?=A (r7 #[a,b] 107 (0,0))) (l:W.heap[w.heap.size+1+1]?=A (r7 #[x,y] 109 (0,0))) (hm:jc d T=zs er) :
  Leaves va Tryz.f73 tmps (rA d (jc d T) w) [{ target:=Target.fn (Fn.func 96) #[vo (A ⟨w.heap.size+1,0,Y⟩),vo (A ⟨w.heap.size+1+1,0,Y⟩)],args:=#[] }] (.panicking [{ v:=.iface 109 (wP #[I U er.1,I U er.2]),recovered:=false }]) W:=by
 refine leaves_cons (f:=96) (args:=#[vo (A ⟨w.heap.size+1,0,Y⟩),vo (A ⟨w.heap.size+1+1,0,Y⟩)]) (by simp) (by simp[go_sem]) ?_;refine (zm (w.heap.size+1) (w.heap.size+1+1) er.1 er.2 [] a b x y W k l (by omega)).mono ?_;rintro e o m ⟨rfl,rfl,n,g,h⟩;refine mK i j g h ⟨Chg.X c n (fun b c=>by rcases c with rfl|rfl<;>omega) c.size,?_⟩
 rw[hm]
def BC(d M:Nat) (T:ac) (n:Nat) (W2:J) (i:tS) (W:J):Prop:=
 ∃(j:Nat) (ts:List am) (vT:tS),j≤n∧i=I U (j:Int)∧aV gn [] (T.z.take j)=xn ts∧ts.length≤j∧MkB (fun _=>False) d M ts [] vT (O Y 0 0) W∧(∀g,vT.ownBlock=A g→M≤g)∧Below M W2 W
def Ci(d M:Nat) (T:ac) (n:Nat) (ts:List am) (vT:tS) (W2:J) (i:tS) (W:J):Prop:=
 ∃(j:Nat) (rs:List aD) (F:Nat→Prop) (vR:tS),j≤n∧i=I U (j:Int)∧aV (gi d ts) [] (T.z.take j)=xn rs∧rs.length≤j∧MkB F d M ts rs vT vR W∧(∀g,vR.ownBlock=A g→M≤g)∧(∀b,F b→M≤b)∧Below M W2 W
theorem D9{ts a:List am}{K:ac}(h:fP ts K=xn a):a.length=ts.length+1:=by
 unfold fP at h
 split at h
 ·cases h
 ·split at h
  ·cases h
  ·split at h
   ·cases h
   ·injection h with h;rw[←h];simp
theorem Ev{d:Nat}{ts:List am}{rs a:List aD}{K:ac}(h:eQ d ts rs K=xn a):a.length=rs.length+1:=by
 unfold eQ at h
 split at h
 ·cases h
 ·split at h
  ·cases h
  ·split at h
   ·cases h
   ·split at h
    ·cases h
    ·injection h with h;rw[←h];simp
theorem FU(d:Nat)(T:ac)(v:tS)(w:J)(hv:fN w w.heap.size d T v)(ck:j4 d T)(ht:aI w) :
  vv va 73 #[v] w (rA d (jc d T) w):=by
 have gD:∀(fn:Fn) (first cap:Array tS) (w:J),(Instr.makeFunc fn first cap).run va w=.ok (Value.func fn first cap) w:=fun _ _ _ _=>rfl
 have HV:=Hd hv;obtain⟨u,s,rfl,aq⟩:=hv;obtain⟨p,c,hs⟩:=aq.h;obtain⟨n,hn⟩:=zzy (T.z.length);rw[hn]at hs;subst hs;obtain⟨w1,b7⟩:=zzx (((w.alloc (r7 #[I r8 T.q,r9 T.h,I U T.u,I U T.C,O p n c] 145)).alloc (r7 #[O Y 0 0,O Y 0 0] 107)).alloc (r7 #[I U 0,I U 0] 109));obtain⟨b8,cl,cm⟩:=Bh w (r7 #[I r8 T.q,r9 T.h,I U T.u,I U T.C,O p n c] 145) (r7 #[O Y 0 0,O Y 0 0] 107) (r7 #[I U 0,I U 0] 109);have bq:Kr w w1:=by rw[b7];exact (((JO _ w).alloc (JM _) _).alloc (by simp) _).alloc (by simp;omega) _
 rw[←b7]at b8 cl cm;obtain⟨cA,cC,cV,cW,ba,HN,c5⟩:=zz7 b8 cl cm bq aq hn (oS d T _ w.heap.size w1 ⟨u,_,Z,aq.C bq⟩ bq.size ck (ht.C bq));have eo:=Hd ck;obtain⟨e0,e1,e2,e3,e4⟩:=cells5 b8;clear b8 cl cm bq aq hn u ck
 go_enter_defers Tryz.func73,Tryz.ntmps73
 go_upto_region 1 with fail
 change xv _ _ _ _ (((w.alloc (r7 #[I r8 T.q,r9 T.h,I U T.u,I U T.C,O p n c] 145)).alloc (r7 #[O Y 0 0,O Y 0 0] 107)).alloc (r7 #[I U 0,I U 0] 109));rw[←b7];clear b7;go_wp2_with fail
 refine c5.o.mono ?_;rintro e W2 ⟨rfl,bt⟩;have bB:=Hd (cW.o.trans (bt.mono cW.o.size));have cn:=aa bt cA.o (JL.1 cA.o).1;have c6:=aa bt cC.o (JL.1 cC.o).1;have cp:=aa bt cV.o (JL.1 cV.o).1;obtain⟨et,bb,bd⟩:=zz3 cn c6 cp;clear bt c5 e0 e1 e2 e3 e4
 cases X:jU d T with
 | false =>
  have HM:Hid (jc d T=zs (4,0)):=by show _=_;unfold jc;rw[X];rfl
  clear X;have c0:W2.cell? ⟨w.heap.size+1,0,Y⟩=A (O Y 0 0):=by rw[Kq _ _ _ _ _ _ bb.o];rfl
  have c1:W2.cell? ⟨w.heap.size+1,1,Y⟩=A (O Y 0 0):=by rw[Kq _ _ _ _ _ _ bb.o];rfl
  have d0:W2.cell? ⟨w.heap.size+1+1,0,Y⟩=A (I U 0):=by rw[Kq _ _ _ _ _ _ bd.o];rfl
  have d1:W2.cell? ⟨w.heap.size+1+1,1,Y⟩=A (I U 0):=by rw[Kq _ _ _ _ _ _ bd.o];rfl
  have f1:=ee bb.o;have f2:∀i,W2.frozen? ⟨w.heap.size+1+1,i,Y⟩=false:=ee bd.o;obtain⟨W,ad⟩:=zzx ((((W2.setCell ⟨w.heap.size+1,0,Y⟩ (O Y 0 0)).setCell ⟨w.heap.size+1,1,Y⟩ (O Y 0 0)).setCell ⟨w.heap.size+1+1,0,Y⟩ (I U 4)).setCell ⟨w.heap.size+1+1,1,Y⟩ (I U 0));have HZ:=Hd (qB bb.o bd.o (show w.heap.size+1≠w.heap.size+2 by omega) (O Y 0 0) (O Y 0 0) (I U 4) (I U 0));have cq:Hid (Kr w W):=by show Below _ _ _;rw[ad];exact (((bB.o.setCell (p:=⟨w.heap.size+1,0,Y⟩) (J9 _) _).setCell (p:=⟨w.heap.size+1,1,Y⟩) (J9 _) _).setCell (p:=⟨w.heap.size+1+1,0,Y⟩) (JU (J9 _) (J9 _)) _).setCell (p:=⟨w.heap.size+1+1,1,Y⟩) (JU (J9 _) (J9 _)) _
  rw[←ad]at HZ;go_wp2_with fail
  rw[←ad];refine mK Z Z HZ.o.1 HZ.o.2 ⟨cq.o,?_⟩;rw[HM.o]
 | true =>
  have b9:(T.q==1&&okF d T&&decide (dU d T≤30)&&decide (dN d T≤4096))=true:=X;simp only[J4,oB]at b9;have ca:=Hd (IK (BG ba.o) b9.1.1.2 b9.2 eo.o);have HM:Hid (jc d T=lz d T):=by show _=_;unfold jc;rw[X];rfl
  have gg:n≤4096:=by rw[←HN.o];exact ca.o.few
  clear X b9;obtain⟨M,hM⟩:=zzx (W2.heap.size);obtain⟨w4,cb⟩:=zzx (W2.alloc (r7 #[O Y 0 0,O Y 0 0,O Y 0 0,r9 ⟨#[]⟩,I U 0,I U 0,O Y 0 0,O Y 0 0] 202));have c7:w4.heap[M]?=A (r7 #[O Y 0 0,O Y 0 0,O Y 0 0,r9 ⟨#[]⟩,I U 0,I U 0,O Y 0 0,O Y 0 0] 202 (0,0)):=by rw[cb,hM];exact oc W2 _
  have m:Hid (w.heap.size+3≤M):=by
   have:=(JL.1 cp).1
   show _≤_
   rw[hM];omega
  have c8:Hid (Below M W2 w4):=by show Below _ _ _;rw[cb,hM];exact (JO _ W2).alloc (JM _) _
  have e5:Hid (MkB (fun _=>False) d M [] [] (O Y 0 0) (O Y 0 0) w4):=⟨fun _ h=>h.elim,⟨_,_,_,_,_,_,c7⟩,aA.nil,aA.nil⟩;have e6:Hid (M=W2.heap.size):=hM;obtain⟨e0,e1,e2,e3,e4⟩:=cells5 (aa c8.o cn (by have:=m.o;omega));clear cn c6 cp c7;go_upto_region 5 with fail
  rw[←hM];change xv _ _ _ _ (W2.alloc (r7 #[O Y 0 0,O Y 0 0,O Y 0 0,r9 ⟨#[]⟩,I U 0,I U 0,O Y 0 0,O Y 0 0] 202));rw[←cb];clear cb hM;go_wp2_with fail
  go_loopw [20] (BC d M T n W2) (fun i _=>n-(intOf i).toNat)
  case atStart=>exact⟨0,[],O Y 0 0,J0 _,Z,Z,JM _,e5.o,(fun g hg=>by cases hg),c8.o⟩
  case round =>
   obtain⟨j,ts,vT,hj,rfl,G,hlen,bg,c9,bk⟩:=hrel;have dd:(0:Int)≤j:=by omega
   obtain⟨bn,x,bR,Q⟩:=zz4 G bg c9 bk;have H:Hid (Kr w wr):=bB.o.trans (bk.mono (by have:=m.o;omega));have R:Hid (M≤wr.heap.size):=Ke bg.lt;clear G bg c9 bk e0 e1 e2 e3 e4
   by_cases cc:j<n
   ·have e7:(j:Int)<n:=by omega
    obtain⟨K,hK⟩:∃K,T.z[j]?=A K:=⟨_,JR (by rw[HN.o];exact cc)⟩;have ar:=J8 hK;have aq:=(ba.o.C H.o).lift (J9 d);rcases aq with ⟨h0,_⟩|⟨b,off,cap,h1,h2,h3,h4,he,h6⟩
    ·rw[h0]at hK;simp at hK
    rw[HN.o]at he h3;injection he with cr _ ct
    subst cr;subst ct;obtain⟨u,sK,c0,c1,c2,c3,c4,L⟩:=h6 j K hK;obtain⟨ps,y,b0⟩:=L.h;obtain⟨S,af⟩:=zzy (K.z.length);rw[af]at b0;subst b0;have bl:=Hd (iU (f:=gn) hK bn.o)
    by_cases C:K.q=2
    ·have c0:wr.cell? ⟨b,off+j*5,Y⟩=A (I r8 2):=by rw[c0,C];rfl
     obtain⟨B,q⟩:=zzx (wr.alloc (r7 #[I r8 2,r9 K.h,I U K.u,I U K.C,O ps S y] 145));have a:Kr wr B:=by rw[q];exact (JO _ wr).alloc (JM _) _
     have N:B.heap[wr.heap.size]?=A (r7 #[I r8 2,r9 K.h,I U K.u,I U K.C,O ps S y] 145 (0,0)):=by rw[q];exact oc wr _
     have V:=Hd a;have P:Hid (Below M W2 B):=Q.o.trans (a.mono R.o);have D:=L.C (a.mono H.o.size);have cu:Hid (vv va 97 #[vo (A ⟨M,0,Y⟩),wP #[I r8 2,r9 K.h,I U K.u,I U K.C,O ps S y]] B (qF (fun _=>False) d M [] vT (O Y 0 0) (fP ts K) B)):=by
      have h:=C6 (fun _=>False) d M ts [] vT (O Y 0 0) K ps S y d B (x.o.C a) C (by omega) af (by have:=(ca.o.kid K ar).1;omega) (((D.up (JU H.o.size a.size))).lift (J9 _)) u.2.1;rw[C]at h;exact h
     obtain⟨k0,k1,k2,k3,k4⟩:=cells5 N;clear u L h6 h1 h2 h3 h4 hK ar a N D af;go_upto_region 8 with fail
     change xv _ _ _ _ (wr.alloc (r7 #[I r8 2,r9 K.h,I U K.u,I U K.C,O ps S y] 145));rw[←q];clear q c0 c1 c2 c3 c4;go_wp2_with fail
     refine cu.o.mono ?_;rintro e W ⟨b1,he⟩;have z:Below M W2 W:=Chg.X P.o b1 (fun b E=>by rcases E with rfl|⟨v,hv,E⟩;exact JM _;simp only[Kk,Ki,o8]at hv;rcases hv with rfl|rfl;exact bR.o b E;cases E) (JU R.o V.o.size)
     clear k0 k1 k2 k3 k4
     cases X:fP ts K with
     | error er =>
      rw[X]at he;have he:e=aR er.1 er.2:=he;subst he;have b2:w.heap.size+1<M:=by have:=m.o;omega
      refine sU (d:=d) (T:=T) (er:=er) Z Z (bB.o.trans (z.mono (by have:=m.o;omega))) ((z.block _ b2).trans bb.o) ((z.block (w.heap.size+2) (by have:=m.o;omega)).trans bd.o) ?_;rw[HM.o];unfold lz;rw[jS (f:=gn) (l:=T.z) (k:=j+1) (s:=[]) (e:=er) (bl.o.trans ?_)]
      show (if K.q==2 then fP ts K else xn ts)=_
      rw[C];exact X
     | ok e8 =>
      rw[X]at he;obtain⟨rfl,e9,a1,b3⟩:=he;have HR:Hid (BC d M T n W2 (I U ((j+1:Nat):Int)) W):=by
       refine⟨j+1,e8,e9,by omega,Z,?_,by rw[D9 X];omega,a1,fun g hg=>?_,z⟩
       ·rw[bl.o]
        show (if K.q==2 then fP ts K else xn ts)=_
        rw[C];exact X
       ·rcases b3 g hg with h|h
        ·exact bR.o g h
        ·exact JU (JU R.o V.o.size) h
      clear a1 b3 b1 z X;go_wp2_with fail
      refine⟨HR.o,?_⟩;simp[intOf];omega
    ·have fm:¬((K.q:Int)=2):=by omega
     obtain⟨B,q⟩:=zzx (wr.alloc (r7 #[I r8 K.q,r9 K.h,I U K.u,I U K.C,O ps S y] 145));have a:Kr wr B:=by rw[q];exact (JO _ wr).alloc (JM _) _
     have N:B.heap[wr.heap.size]?=A (r7 #[I r8 K.q,r9 K.h,I U K.u,I U K.C,O ps S y] 145 (0,0)):=by rw[q];exact oc wr _
     have V:=Hd a;have P:Hid (Below M W2 B):=Q.o.trans (a.mono R.o);have D:=L.C (a.mono H.o.size);obtain⟨k0,k1,k2,k3,k4⟩:=cells5 N;clear u L h6 h1 h2 h3 h4 hK ar a N D af;go_upto_region 8 with fail
     change xv _ _ _ _ (wr.alloc (r7 #[I r8 K.q,r9 K.h,I U K.u,I U K.C,O ps S y] 145));rw[←q];clear q c0 c1 c2 c3 c4;have HR:Hid (BC d M T n W2 (I U ((j+1:Nat):Int)) B):=by
      refine⟨j+1,ts,vT,by omega,Z,?_,by omega,x.o.C V.o,bR.o,P.o⟩;rw[bl.o]
      show (if K.q==2 then fP ts K else xn ts)=_
      rw[show (K.q==2)=false by simpa using C];rfl
     go_wp2_with fail
     refine⟨HR.o,?_⟩;simp[intOf];omega
   ·have a6:aV gn [] T.z=xn ts:=by
     rw[←bn.o,J5 (by rw[HN.o];omega)]
    have cf:=Hd a6;clear a6;have dg:=aa Q.o et.o (by have:=m.o;have:=e6.o;omega);obtain⟨e0,e1,e2,e3,e4⟩:=cells5 dg;clear dg;have gr:ts.length≤4096:=by omega
    clear hlen bn;go_wp2_with fail
    go_loopw [34] (Ci d M T n ts vT W2) (fun i _=>n-(intOf i).toNat)
    case atStart=>exact⟨0,[],fun _=>False,O Y 0 0,J0 _,Z,Z,JM _,x.o,(fun g hg=>by cases hg),(fun b E=>E.elim),Q.o⟩
    case round =>
     clear dd hj cc;clear x Q H;obtain⟨j,rs,F,vR,hj,rfl,G,hlen,bg,ch,hF,bk⟩:=hrel;have dd:(0:Int)≤j:=by omega
     obtain⟨bn,x,bm,HF,Q⟩:=zz5 G bg ch hF bk;have H:Hid (Kr w wr):=bB.o.trans (bk.mono (by have:=m.o;omega));have R:Hid (M≤wr.heap.size):=Ke bg.lt;clear G bg ch hF bk e0 e1 e2 e3 e4
     by_cases cc:j<n
     ·have e7:(j:Int)<n:=by omega
      obtain⟨K,hK⟩:∃K,T.z[j]?=A K:=⟨_,JR (by rw[HN.o];exact cc)⟩;have ar:=J8 hK;have aq:=(ba.o.C H.o).lift (J9 d);rcases aq with ⟨h0,_⟩|⟨b,off,cap,h1,h2,h3,h4,he,h6⟩
      ·rw[h0]at hK;simp at hK
      rw[HN.o]at he h3;injection he with cr _ ct
      subst cr;subst ct;obtain⟨u,sK,c0,c1,c2,c3,c4,L⟩:=h6 j K hK;obtain⟨ps,y,b0⟩:=L.h;obtain⟨S,af⟩:=zzy (K.z.length);rw[af]at b0;subst b0;have bl:=Hd (iU (f:=gi d ts) hK bn.o)
      by_cases C:K.q=4
      ·have c0:wr.cell? ⟨b,off+j*5,Y⟩=A (I r8 4):=by rw[c0,C];rfl
       obtain⟨B,q⟩:=zzx (wr.alloc (r7 #[I r8 4,r9 K.h,I U K.u,I U K.C,O ps S y] 145));have a:Kr wr B:=by rw[q];exact (JO _ wr).alloc (JM _) _
       have N:B.heap[wr.heap.size]?=A (r7 #[I r8 4,r9 K.h,I U K.u,I U K.C,O ps S y] 145 (0,0)):=by rw[q];exact oc wr _
       have V:=Hd a;have P:Hid (Below M W2 B):=Q.o.trans (a.mono R.o);have D:=L.C (a.mono H.o.size);have cv:∀b,bh M [vT,vR] b→M≤b:=fun b E=>by
        rcases E with rfl|⟨v,hv,E⟩
        ·exact JM _
        ·simp only[Kk,Ki,o8]at hv;rcases hv with rfl|rfl
         ·exact bR.o b E
         ·exact bm.o b E
       have cu:Hid (vv va 98 #[vo (A ⟨M,0,Y⟩),wP #[I r8 4,r9 K.h,I U K.u,I U K.C,O ps S y]] B (pE F d M ts vT vR (eQ d ts rs K) B)):=by
        have h:=CX F d M ts rs vT vR K ps S y w.heap.size B (x.o.C a) C (by omega) (by omega) af (by have:=(ca.o.kid K ar).1;omega) (D.lift (JU (J9 _) (J9 _))) (JU H.o.size a.size) (fun b E=>by have:=cv b E;have:=m.o;omega) u.2.1 ⟨u.2.2.1,u.2.2.2.1⟩ ((ca.o.kid K ar).2 C);rw[C]at h;exact h
       have fr:=Hd cv;obtain⟨k0,k1,k2,k3,k4⟩:=cells5 N;clear u L h6 h1 h2 h3 h4 hK ar a N D af cv;go_upto_region 14 with fail
       change xv _ _ _ _ (wr.alloc (r7 #[I r8 4,r9 K.h,I U K.u,I U K.C,O ps S y] 145));rw[←q];clear q c0 c1 c2 c3 c4;go_wp2_with fail
       refine cu.o.mono ?_;rintro e W ⟨b1,he⟩;have z:Below M W2 W:=Chg.X P.o b1 fr.o (JU R.o V.o.size);clear k0 k1 k2 k3 k4
       cases X:eQ d ts rs K with
       | error er =>
        rw[X]at he;have he:e=aR er.1 er.2:=he;subst he;have b2:w.heap.size+1<M:=by have:=m.o;omega
        refine sU (d:=d) (T:=T) (er:=er) Z Z (bB.o.trans (z.mono (by have:=m.o;omega))) ((z.block _ b2).trans bb.o) ((z.block (w.heap.size+2) (by have:=m.o;omega)).trans bd.o) ?_;rw[HM.o];unfold lz;rw[cf.o];dsimp only;rw[jS (f:=gi d ts) (l:=T.z) (k:=j+1) (s:=[]) (e:=er) (bl.o.trans ?_)]
        show (if K.q==4 then eQ d ts rs K else xn rs)=_
        rw[C];exact X
       | ok fs =>
        rw[X]at he;obtain⟨rfl,F2,ft,a1,b3,fv,dn⟩:=he;have HR:Hid (Ci d M T n ts vT W2 (I U ((j+1:Nat):Int)) W):=by
         refine⟨j+1,fs,F2,ft,by omega,Z,?_,by rw[Ev X];omega,a1,fun g hg=>?_,fun b E=>?_,z⟩
         ·rw[bl.o]
          show (if K.q==4 then eQ d ts rs K else xn rs)=_
          rw[C];exact X
         ·rcases b3 g hg with h|h
          ·exact bm.o g h
          ·exact JU (JU R.o V.o.size) h
         ·rcases dn b E with h|h
          ·exact HF.o b h
          ·exact JU (JU R.o V.o.size) h
        clear a1 b3 fv dn b1 z X;go_wp2_with fail
        refine⟨HR.o,?_⟩;simp[intOf];omega
      ·have fm:¬((K.q:Int)=4):=by omega
       obtain⟨B,q⟩:=zzx (wr.alloc (r7 #[I r8 K.q,r9 K.h,I U K.u,I U K.C,O ps S y] 145));have a:Kr wr B:=by rw[q];exact (JO _ wr).alloc (JM _) _
       have N:B.heap[wr.heap.size]?=A (r7 #[I r8 K.q,r9 K.h,I U K.u,I U K.C,O ps S y] 145 (0,0)):=by rw[q];exact oc wr _
       have V:=Hd a;have P:Hid (Below M W2 B):=Q.o.trans (a.mono R.o);have D:=L.C (a.mono H.o.size);obtain⟨k0,k1,k2,k3,k4⟩:=cells5 N;clear u L h6 h1 h2 h3 h4 hK ar a N D af;go_upto_region 14 with fail
       change xv _ _ _ _ (wr.alloc (r7 #[I r8 K.q,r9 K.h,I U K.u,I U K.C,O ps S y] 145));rw[←q];clear q c0 c1 c2 c3 c4;have HR:Hid (Ci d M T n ts vT W2 (I U ((j+1:Nat):Int)) B):=by
        refine⟨j+1,rs,F,vR,by omega,Z,?_,by omega,x.o.C V.o,bm.o,HF.o,P.o⟩;rw[bl.o]
        show (if K.q==4 then eQ d ts rs K else xn rs)=_
        rw[show (K.q==4)=false by simpa using C];rfl
       go_wp2_with fail
       refine⟨HR.o,?_⟩;simp[intOf];omega
     ·have a6:aV (gi d ts) [] T.z=xn rs:=by
       rw[←bn.o,J5 (by rw[HN.o];omega)]
      have ds:Hid (jc d T=xn ⟨ts,rs⟩):=by
       show _=_
       rw[HM.o];unfold lz;rw[cf.o];dsimp only;rw[a6]
      obtain⟨pT,cT,dt⟩:=x.o.t.q;obtain⟨pR,cR,dv⟩:=x.o.r.q;obtain⟨nT,ef⟩:=zzy (ts.length);obtain⟨nR,eg⟩:=zzy (rs.length);rw[ef]at dt;rw[eg]at dv;subst dt;subst dv;have fz:w.heap.size+1<M:=by have:=m.o;omega
      have fI:w.heap.size+2<M:=by have:=m.o;omega
      have b4:=(Q.o.block _ fz).trans bb.o;have b5:=(Q.o.block _ fI).trans bd.o;have m0:=x.o.z.1;have m1:=x.o.z.2;have c0:wr.cell? ⟨w.heap.size+1,0,Y⟩=A (O Y 0 0):=by rw[Kq _ _ _ _ _ _ b4];rfl
      have c1:wr.cell? ⟨w.heap.size+1,1,Y⟩=A (O Y 0 0):=by rw[Kq _ _ _ _ _ _ b4];rfl
      have d0:wr.cell? ⟨w.heap.size+1+1,0,Y⟩=A (I U 0):=by rw[Kq _ _ _ _ _ _ b5];rfl
      have d1:wr.cell? ⟨w.heap.size+1+1,1,Y⟩=A (I U 0):=by rw[Kq _ _ _ _ _ _ b5];rfl
      have f1:=ee b4;have f2:∀i,wr.frozen? ⟨w.heap.size+1+1,i,Y⟩=false:=ee b5;obtain⟨W,ad⟩:=zzx ((((wr.setCell ⟨w.heap.size+1,0,Y⟩ (O pT nT cT)).setCell ⟨w.heap.size+1,1,Y⟩ (O pR nR cR)).setCell ⟨w.heap.size+1+1,0,Y⟩ (I U 0)).setCell ⟨w.heap.size+1+1,1,Y⟩ (I U 0));have HZ:=Hd (qB b4 b5 (show w.heap.size+1≠w.heap.size+2 by omega) (O pT nT cT) (O pR nR cR) (I U 0) (I U 0));rw[←ad]at HZ;have cq:Hid (Kr w W):=by show Below _ _ _;rw[ad];exact (((H.o.setCell (p:=⟨w.heap.size+1,0,Y⟩) (J9 _) _).setCell (p:=⟨w.heap.size+1,1,Y⟩) (J9 _) _).setCell (p:=⟨w.heap.size+1+1,0,Y⟩) (JU (J9 _) (J9 _)) _).setCell (p:=⟨w.heap.size+1+1,1,Y⟩) (JU (J9 _) (J9 _)) _
      have cy:∀b,M≤b∧b<wr.heap.size→∀o,wr.heap[b]?=A o→W.heap[b]?=A o:=fun b E o ho=>by
       rw[ad,JQ _ _ _ _ (show b≠w.heap.size+1+1 by omega),JQ _ _ _ _ (show b≠w.heap.size+1+1 by omega),JQ _ _ _ _ (show b≠w.heap.size+1 by omega),JQ _ _ _ _ (show b≠w.heap.size+1 by omega)];exact ho
      have en:W.heap.size=wr.heap.size:=by rw[ad];simp[AF]
      have b6:∀b,M≤b∧b<wr.heap.size→bs w W b:=fun b E=>⟨by omega,by rw[en];exact E.2⟩
      have fT:Hid (eW.h W (bs w W) ts (O pT nT cT)):=Rd.sI b6 (Rd.sv cy (x.o.t.h (fun b E=>⟨HF.o b E,(x.o.f b E).1⟩) (fun g hg=>⟨bR.o g hg,x.o.t.lt hg⟩)));have gf:Hid ((fM d).h W (bs w W) rs (O pR nR cR)):=Rd.sI b6 (Rd.sv cy (x.o.r.h (fun b E=>⟨HF.o b E,(x.o.f b E).1⟩) (fun g hg=>⟨bm.o g hg,x.o.r.lt hg⟩)));clear a6 b4 b5 cy en b6 ef eg;go_wp2_with fail
      rw[←ad];refine CW Z Z HZ.o.1 HZ.o.2 ⟨cq.o,?_⟩;rw[ds.o];exact⟨_,_,Z,fT.o,gf.o⟩
def cd(s:ByteArray):Except Flt dc:=if (fa s).2.1=0 then jc 30 (fa s).1 else zs (fa s).2
theorem oy{W:J}{tmps:Array tS}{R:AJ→J→Prop}{r f:Nat}{a b x y:tS}(h:tmps.getD 2 xk=vo (A ⟨r,0,Y⟩))(i:tmps.getD 3 xk=vo (A ⟨f,0,Y⟩))
  (e:W.heap[r]?=A (r7 #[a,b] 107 (0,0))) (g:W.heap[f]?=A (r7 #[x,y] 109 (0,0))) (j:R (wg (y9 #[wP #[a,b],wP #[x,y]])) W):bodyPost va Tryz.f49 R .ret ⟨tmps,[]⟩ W:=by
 have k:W.cell? ⟨r,0,Y⟩=A a:=by simp[At,e]
 have l:W.cell? ⟨r,1,Y⟩=A b:=by simp[At,e]
 have d0:W.cell? ⟨f,0,Y⟩=A x:=by simp[At,g]
 have d1:W.cell? ⟨f,1,Y⟩=A y:=by simp[At,g]
 have c:tmps[2]?.getD xk=vo (A ⟨r,0,Y⟩):=by simpa using h
 have d:tmps[3]?.getD xk=vo (A ⟨f,0,Y⟩):=by simpa using i
 refine bodyPost_ret (v:=y9 #[wP #[a,b],wP #[x,y]]) ?_ Z j;simp[results,Tryz.results49,go_sem,c,d,k,l,d0,d1]
theorem BJ(s:ByteArray)(w:J)(ht:aI w):vv va 49 #[r9 s] w (rA 30 (cd s) w):=by
 obtain⟨w1,H⟩:=zzx ((w.alloc (r7 #[O Y 0 0,O Y 0 0] 107)).alloc (r7 #[I U 0,I U 0] 109));obtain⟨aq,ar,_⟩:=bc w (r7 #[O Y 0 0,O Y 0 0] 107) (r7 #[I U 0,I U 0] 109);have a1:Kr w w1:=by rw[H];exact ((JO _ w).alloc (JM _) _).alloc (by simp) _
 rw[←H]at aq ar;obtain⟨bm,bn,bq,HP⟩:=zz4 aq ar a1 (zh s w1 (ht.C a1));have HT:=Hd (fun W (hW:Kr w W)=>ht.C hW);clear aq ar a1
 go_enter Tryz.func49,Tryz.ntmps49
 go_upto_region 1 with fail
 change xv _ _ _ _ ((w.alloc (r7 #[O Y 0 0,O Y 0 0] 107)).alloc (r7 #[I U 0,I U 0] 109));rw[←H];clear H;go_wp2_with fail
 refine HP.o.mono ?_;rintro e W2 ⟨sl,rfl,K,h,t,f,_⟩;obtain⟨⟨T,er,pl⟩,a6⟩:∃x,fa s=x:=⟨_,rfl⟩;rw[a6]at h t f ⊢;have bt:=Hd a6;obtain⟨p,c,bB⟩:=h.q;obtain⟨n,hn⟩:=zzy (T.z.length);have cf:sl=O p n c:=by rw[bB,←hn]
 subst cf;have z:ax W2 W2.heap.size 30 T.z (O p n c):=h.z (fun b L=>L.2);have bR:=Hd (bq.o.trans (K.mono bq.o.size));have h0:=aa K bm.o (JL.1 bm.o).1;have q:=aa K bn.o (JL.1 bn.o).1;obtain⟨a,M⟩:=zzx ((W2.alloc (r7 #[I r8 T.q,r9 T.h,I U T.u,I U T.C,O p n c] 145)).alloc (r7 #[I U er,I U pl] 109));obtain⟨ba,g,_⟩:=bc W2 (r7 #[I r8 T.q,r9 T.h,I U T.u,I U T.C,O p n c] 145) (r7 #[I U er,I U pl] 109);have k:Kr W2 a:=by rw[M];exact ((JO _ W2).alloc (JM _) _).alloc (by simp) _
 rw[←M]at ba g;obtain⟨B,N,bb⟩:=zz3 (bR.o.trans (k.mono bR.o.size)) (aa k h0 (JL.1 h0).1) (aa k q (JL.1 q).1);have b0:Hid (w.heap.size+2≤W2.heap.size):=by
  have:=(JL.1 q).1
  show _≤_;omega
 obtain⟨HM,ch,P⟩:=zz3 (FU 30 T _ a ⟨t,_,Z,(z.C k).up k.size⟩ (f 30).slim (HT.o a B.o)) ba g;clear a6 h t f bB hn z K h0 q k ba g;go_upto_region 2 with fail
 change xv _ _ _ _ ((W2.alloc (r7 #[I r8 T.q,r9 T.h,I U T.u,I U T.C,O p n c] 145)).alloc (r7 #[I U er,I U pl] 109));rw[←M];clear M;obtain⟨n0,n1,n2,n3,n4⟩:=cells5 ch.o;have g0:a.cell? ⟨W2.heap.size+1,0,Y⟩=A (I U er):=by rw[Kq _ _ _ _ _ _ P.o];rfl
 have g1:a.cell? ⟨W2.heap.size+1,1,Y⟩=A (I U pl):=by rw[Kq _ _ _ _ _ _ P.o];rfl
 by_cases Q:er=0
 ·have S:Hid (cd s=jc 30 T):=by show _=_;unfold cd;rw[bt.o,oj Q]
  subst Q;go_wp2_with fail
  refine HM.o.mono ?_;rintro e r ⟨bd,he⟩;have C:=aa bd N.o (JL.1 N.o).1;have D:=aa bd bb.o (JL.1 bb.o).1;have ck:=Hd (B.o.trans (bd.mono B.o.size));have c0:r.cell? ⟨w.heap.size,0,Y⟩=A (O Y 0 0):=by rw[Kq _ _ _ _ _ _ C];rfl
  have c1:r.cell? ⟨w.heap.size,1,Y⟩=A (O Y 0 0):=by rw[Kq _ _ _ _ _ _ C];rfl
  have d0:r.cell? ⟨w.heap.size+1,0,Y⟩=A (I U 0):=by rw[Kq _ _ _ _ _ _ D];rfl
  have d1:r.cell? ⟨w.heap.size+1,1,Y⟩=A (I U 0):=by rw[Kq _ _ _ _ _ _ D];rfl
  have f1:=ee C;have f2:=ee D;obtain⟨cl,cm⟩:=zz2 C D;clear C D n0 n1 n2 n3 n4 g0 g1 HM;have fin:∀x y u v,Kr w ((((r.setCell ⟨w.heap.size,0,Y⟩ x).setCell ⟨w.heap.size,1,Y⟩ y).setCell ⟨w.heap.size+1,0,Y⟩ u).setCell ⟨w.heap.size+1,1,Y⟩ v):=fun x y u v =>(((ck.o.setCell (p:=⟨w.heap.size,0,Y⟩) (JM _) _).setCell (p:=⟨w.heap.size,1,Y⟩) (JM _) _).setCell (p:=⟨w.heap.size+1,0,Y⟩) (J9 _) _).setCell (p:=⟨w.heap.size+1,1,Y⟩) (J9 _) _
  have V:=Hd fin;have b1:∀x y u v,_:=fun x y u v=>qB cl.o cm.o (show w.heap.size≠w.heap.size+1 by omega) x y u v
  have b2:=Hd b1;clear fin b1
  cases l:jc 30 T with
  | error er =>
   rw[l]at he;have he:e=wg (y9 #[wP #[O Y 0 0,O Y 0 0],wP #[I U er.1,I U er.2]]):=he;subst he;have E:Hid (cd s=zs er):=S.o.trans l;clear l;go_wp2_with fail
   have hz:=b2.o (O Y 0 0) (O Y 0 0) (I U er.1) (I U er.2);refine oy Z Z hz.1 hz.2 ⟨V.o _ _ _ _,?_⟩;rw[E.o]
  | ok R =>
   rw[l]at he;obtain⟨st,sr,rfl,bg,bk⟩:=he;have E:Hid (cd s=xn R):=S.o.trans l;obtain⟨pT,cT,b3⟩:=Rd.q bg;obtain⟨pR,cR,b4⟩:=Rd.q bk;obtain⟨nT,b5⟩:=zzy (R.c.length);obtain⟨nR,b6⟩:=zzy (R.a.length);rw[b5]at b3;rw[b6]at b4;subst b3;subst b4;obtain⟨cn,cp⟩:=zz2 bg bk;have cq:=B.o.size;have b7:W2.heap.size+1<a.heap.size:=(JL.1 P.o).1;have b8:Hid (w.heap.size+2≤a.heap.size):=by have:=b0.o;show _≤_;omega
   clear l bg bk b5 b6 cq b7;go_wp2_with fail
   have hz:=b2.o (O pT nT cT) (O pR nR cR) (I U 0) (I U 0);refine oy Z Z hz.1 hz.2 ⟨V.o _ _ _ _,?_⟩;rw[E.o];have cr:((((r.setCell ⟨w.heap.size,0,Y⟩ (O pT nT cT)).setCell ⟨w.heap.size,1,Y⟩ (O pR nR cR)).setCell ⟨w.heap.size+1,0,Y⟩ (I U 0)).setCell ⟨w.heap.size+1,1,Y⟩ (I U 0)).heap.size=r.heap.size:=by simp[AF]
   have m:∀b,bs a r b→∀o,r.heap[b]?=A o→((((r.setCell ⟨w.heap.size,0,Y⟩ (O pT nT cT)).setCell ⟨w.heap.size,1,Y⟩ (O pR nR cR)).setCell ⟨w.heap.size+1,0,Y⟩ (I U 0)).setCell ⟨w.heap.size+1,1,Y⟩ (I U 0)).heap[b]?=A o:=fun b L o ho=>by
    have q:=L.1;have X:=b8.o;rw[JQ _ _ _ _ (show b≠w.heap.size+1 by omega),JQ _ _ _ _ (show b≠w.heap.size+1 by omega),JQ _ _ _ _ (show b≠w.heap.size by omega),JQ _ _ _ _ (show b≠w.heap.size by omega)];exact ho
   have ad:∀b,bs a r b→bs w ((((r.setCell ⟨w.heap.size,0,Y⟩ (O pT nT cT)).setCell ⟨w.heap.size,1,Y⟩ (O pR nR cR)).setCell ⟨w.heap.size+1,0,Y⟩ (I U 0)).setCell ⟨w.heap.size+1,1,Y⟩ (I U 0)) b:=fun b L=>⟨by have:=L.1;have:=b8.o;omega,by rw[cr];exact L.2⟩
   exact⟨_,_,Z,Rd.sI ad (Rd.sv m cn.o),Rd.sI ad (Rd.sv m cp.o)⟩
 ·have S:Hid (cd s=zs (er,pl)):=by show _=_;unfold cd;rw[bt.o,oe Q]
  have cA:decide (er=0)=false:=oE Q;go_upto_region 3 with fail
  obtain⟨d,F⟩:=zzx (a.drew.setCells w.heap.size 0 [O Y 0 0,O Y 0 0]);have m:∀b,b≠w.heap.size→d.heap[b]?=a.heap[b]?:=fun b L=>by
   rw[F]
   show ((a.drew.setCell ⟨w.heap.size,0,Y⟩ (O Y 0 0)).setCell ⟨w.heap.size,1,Y⟩ (O Y 0 0)).heap[b]?=_
   rw[JQ _ _ _ _ L,JQ _ _ _ _ L];rfl
  have af:W2.heap.size+1≠w.heap.size:=by have:=b0.o;omega
  have g:d.heap[W2.heap.size+1]?=A (r7 #[I U er,I U pl] 109 (0,0)):=(m _ af).trans P.o;have b9:d.heap[w.heap.size+1]?=A (r7 #[I U 0,I U 0] 109 (0,0)):=(m _ (by omega)).trans bb.o;have ca:d.heap[w.heap.size]?=A (r7 #[O Y 0 0,O Y 0 0] 107 (0,0)):=by
   rw[F];have q:(a.drew.setCell ⟨w.heap.size,0,Y⟩ (O Y 0 0)).heap[w.heap.size]?=A (r7 #[O Y 0 0,O Y 0 0] 107 (0,0)):=heap_set (show a.drew.heap[w.heap.size]?=_ from N.o) 0 _;have X:((a.drew.setCell ⟨w.heap.size,0,Y⟩ (O Y 0 0)).setCell ⟨w.heap.size,1,Y⟩ (O Y 0 0)).heap[w.heap.size]?=A (r7 #[O Y 0 0,O Y 0 0] 107 (0,0)):=heap_set q 1 _;exact X
  have cb:Kr w d:=by
   rw[F];exact ((B.o.drew).setCell (p:=⟨w.heap.size,0,Y⟩) (JM _) _).setCell (p:=⟨w.heap.size,1,Y⟩) (JM _) _
  have G0:=fun x:RE.Two a.drew d=>RE.Two.h (p:=⟨W2.heap.size+1,0,Y⟩) (show a.drew.cell? ⟨W2.heap.size+1,0,Y⟩=_ from g0) (by rw[Kq _ _ _ _ _ _ g];rfl) x
  have G1:=fun x:RE.Two a.drew d=>RE.Two.h (p:=⟨W2.heap.size+1,1,Y⟩) (show a.drew.cell? ⟨W2.heap.size+1,1,Y⟩=_ from g1) (by rw[Kq _ _ _ _ _ _ g];rfl) x
  obtain⟨ct,bl,cu,cv⟩:=zz4 F b9 ca cb;clear F m g b9 ca cb af n0 n1 n2 n3 n4 g0 g1;refine RE.z (by kernel_rfl) 3 [2] [2] (fun s W=>if s=0 then W=a.drew else W=d) (fun _ _=>True) (fun _ _=>xk) (fun _ _ _=>True) (by kernel_rfl) (fun i q X=>by rw[q]at X;cases X) (fun _ _ _ _ _ _ _=>trivial) Z ?_;simp only[JY,J7,JZ,J6]
  repeat (refine RE.q (fun W=>∃x:RE.Two a.drew d,W=x.1) RE.two_class Z Z Z Z ?_;go_big_quiet_step (fail);refine xL ?_)
  refine RE.h Z Z ?_ (fun xs=>?_)
  ·intro W hC hS _;obtain rfl:W=a.drew:=hS Z;refine RE.upon_skip (w':=a.drew.setCells w.heap.size 0 [O Y 0 0,O Y 0 0]) ?_ ⟨[],Z,ct.o.symm,trivial,trivial⟩;refine RE.run_store_agg 107 (.tmp 2) (.tmp 14) Z w.heap.size 0 #[O Y 0 0,O Y 0 0] Z Z ?_ (by kernel_rfl) (by simp[Value.oneCell']);intro j hj;have hj:j<2:=hj;have hh:a.drew.heap[w.heap.size]?=_:=N.o;rw[Kq _ _ _ _ _ _ hh,aB hh];have:j=0∨j=1:=by omega
   rcases this with rfl|rfl<;>exact⟨Z,Z⟩
  simp only[Act.put];refine RE.u ?_;intro W hS _;have hS:W=d:=hS;rw[hS];clear hS G0 G1;refine wpList_store_mid Z 109 (.tmp 3) (.tmp 15) Z (w.heap.size+1) 0 #[I U er,I U pl] Z Z ?_ (by kernel_rfl) (by simp[Value.oneCell']) ?_
  ·intro j hj;have hj:j<2:=hj;rw[Kq _ _ _ _ _ _ bl.o,aB bl.o];have:j=0∨j=1:=by omega
   rcases this with rfl|rfl<;>exact⟨Z,Z⟩
  have G:((d.setCell ⟨w.heap.size+1,0,Y⟩ (I U er)).setCell ⟨w.heap.size+1,1,Y⟩ (I U pl)).heap[w.heap.size]?=A (r7 #[O Y 0 0,O Y 0 0] 107 (0,0)):=by
   rw[JQ _ _ _ _ (show w.heap.size≠w.heap.size+1 by omega),JQ _ _ _ _ (show w.heap.size≠w.heap.size+1 by omega)];exact cu.o
  have q:(d.setCell ⟨w.heap.size+1,0,Y⟩ (I U er)).heap[w.heap.size+1]?=A (r7 #[I U er,I U 0] 109 (0,0)):=heap_set bl.o 0 _;have X:((d.setCell ⟨w.heap.size+1,0,Y⟩ (I U er)).setCell ⟨w.heap.size+1,1,Y⟩ (I U pl)).heap[w.heap.size+1]?=A (r7 #[I U er,I U pl] 109 (0,0)):=heap_set q 1 _;have cc:Kr w ((d.setCell ⟨w.heap.size+1,0,Y⟩ (I U er)).setCell ⟨w.heap.size+1,1,Y⟩ (I U pl)):=(cv.o.setCell (p:=⟨w.heap.size+1,0,Y⟩) (J9 _) _).setCell (p:=⟨w.heap.size+1,1,Y⟩) (J9 _) _;obtain⟨HL,H2,cy⟩:=zz3 G X cc;clear G q X cc;change wpList _ _ _ _ _ ((d.setCell ⟨w.heap.size+1,0,Y⟩ (I U er)).setCell ⟨w.heap.size+1,1,Y⟩ (I U pl));go_wp2_with fail
  refine oy Z Z HL.o H2.o ⟨cy.o,?_⟩;rw[S.o]
