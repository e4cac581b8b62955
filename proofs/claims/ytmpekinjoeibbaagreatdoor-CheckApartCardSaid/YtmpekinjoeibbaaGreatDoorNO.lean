/- Parts of one proof, joined; conditions stand in each theorem. -/
import Derived.Test.YtmpekinjoeibbaaGreatDoorNN
import Derived.Test.YtmpekinjoeibbaaGreatDoorNA
import Derived.Test.YtmpekinjoeibbaaGreatDoorMD
import Derived.Test.YtmpekinjoeibbaaGreatDoorMM
import Derived.Defers
import Derived.Recover
import Derived.Test.YtmpekinjoeibbaaGreatDoorMJ
import Derived.Test.YtmpekinjoeibbaaGreatDoorMXP
open Go renaming World→p7,Value→r3,undef→tT,wpQuiet_nil→vk,Ending→xv,Calls→r9
open Option renaming some→A,none→V
open Go.Obj renaming cells→p8
open Go.Proofs.Tryz renaming prog→r6
open Go.Value renaming pointer→tv,agg→s3,int→I,tuple→wF,slice→O,string→p9
open Go.IntKind renaming i64→Y,u8→J
open Go.Ending renaming returned→tF
open Go.Code renaming wp→wB
open Except renaming error→wD,ok→vb
open Go.World renaming cell?→xj,setCell→xD
namespace Go.Proofs.YtmpekinjoeibbaaGreatDoor
set_option maxHeartbeats 16000000
set_option maxRecDepth 100000
open Go.RowKit
theorem aF.lift{w:p7}{B d a:Nat}{b:List ah}{c:r3}(h:aF w B d b c)(e:d≤a):aF w B a b c:=by
 induction e with
 | refl=>exact h
 | step _ f=>exact f.y
theorem yE{w:p7}{B:Nat}:∀{d:Nat} {T:ah} {a:r3},aF w B d T.u a→dn d T:=by
 intro d
 induction d with
 | zero=>intro T a h;exact h.1
 | succ d f =>
  intro T a h k c;rcases h with ⟨g,_⟩|⟨b,off,cap,_,_,_,_,_,j⟩
  ·rw[g]at c;simp at c
  ·obtain⟨i,l⟩:=List.getElem?_of_mem c;obtain⟨_,s,_,_,_,_,_,e⟩:=j i k l;exact f e
theorem tR:∀{d:Nat} {T:ah},jv d T→eW d T
 | 0,_,h=>h
 | _d+1,_,h=>⟨h.1,h.2.1,fun k a=>tR (h.2.2 k a)⟩
theorem eW.y:∀{d:Nat} {T:ah},dn d T→eW d T→eW (d+1) T
 | 0,T,he,h=>⟨h,by rw[show T.u=[] from he];exact Fi _,fun k a=>by rw[show T.u=[] from he]at a;simp at a⟩
 | d+1,T,he,h=>⟨h.1,h.2.1,fun k a=>eW.y (he k a) (h.2.2 k a)⟩
theorem xW{d a:Nat}{T:ah}(he:dn d T)(b:d≤a):dn a T:=by
 induction b with
 | refl=>exact he
 | step _ c=>exact c.y
theorem eW.lift{d a:Nat}{T:ah}(he:dn d T)(h:eW d T)(b:d≤a):eW a T:=by
 induction b with
 | refl=>exact h
 | step hm c=>exact eW.y (xW he hm) c
theorem jg:∀(l:List Nat) (c:Nat),l.foldl (· + ·) c=c+l.foldl (· + ·) 0
 | [],c=>rfl
 | x::l,c=>by
  rw[List.foldl_cons,List.foldl_cons,jg l (c+x),jg l (0+x)];omega
theorem A6:∀(d:Nat) (T:ah),1≤bw d T
 | 0,_=>ET _
 | d+1,T=>by
  show 1≤(T.u.map (bw d)).foldl (· + ·) 1
  rw[jg];omega
theorem uu(f:ah→Nat)(b:∀T,1≤f T):∀(l:List ah),l.length≤(l.map f).foldl (· + ·) 0∧∀k∈l,f k≤(l.map f).foldl (· + ·) 0
 | []=>⟨ET _,fun k a=>by simp at a⟩
 | z::l=>by
  obtain⟨d,c⟩:=uu f b l;rw[List.map_cons,List.foldl_cons,jg];refine⟨by have:=b z;simp only[FC];omega,fun k a=>?_⟩;rcases FK.1 a with rfl|a
  ·omega
  ·have:=c k a;omega
theorem kX{d:Nat}{T:ah}:T.u.length<bw (d+1) T∧∀k∈T.u,bw d k<bw (d+1) T:=by
 obtain⟨c,a⟩:=uu (bw d) (A6 d) T.u;have e:bw (d+1) T=(T.u.map (bw d)).foldl (· + ·) 1:=rfl;rw[e,jg];exact⟨by omega,fun k b=>by have:=a k b;omega⟩
theorem uG:∀{d:Nat} {T:ah},dn d T→bw d T≤4096→T.u.length≤4096
 | 0,T,he,_=>by rw[show T.u=[] from he];exact Fi _
 | d+1,T,_,h=>by have:=(kX (d:=d) (T:=T)).1;omega
theorem Dw{D d:Nat}{K:ah}(l:d≤D+1)(he:dn d K)(i:okF d K=true)(hm:bw d K≤4096)(e:eW d K):lx D K:=by
 have j:=AG i;obtain⟨_,a,c⟩:=zf j;have kid:∀k∈K.u,eW D k∧k.h.size≤72007:=fun k a=>by
  cases d with
  | zero=>rw[show K.u=[] from he]at a;simp at a
  | succ d=>exact⟨eW.lift (he k a) (e.2.2 k a) (by omega),(e.2.2 k a).h⟩
 refine⟨?_,by have:=uG he hm;omega,fun h=>?_,fun h=>?_,fun h k b=>(kid k b).1⟩
 ·unfold tJ at c;unfold I64
  split at c
  ·simp only[Fp,oE]at c;omega
  ·split at c
   ·simp only[Fp,oE]at c;omega
   ·have:K.q=0:=by simpa using c
    omega
 ·intro k b;have f:du [12,13,14,15] K.u=true:=by
   unfold fZ at a;rcases h with h|h<;>rw[h]at a<;>exact a
  have:=FG.1 f k b;refine⟨?_,(kid k b).2⟩
  simpa using this
 ·have f:(K.u.length==1&&gw K.u)=true:=by
   unfold fZ at a;rw[h]at a;exact a
  simp only[Fp,pv]at f
  cases g:K.u with
  | nil=>rw[g]at f;simp at f
  | cons t r=>exact⟨t,r,Z,(kid t (by rw[g];simp)).1⟩
structure ED (D:Nat) (T:ah):Prop where
 few:T.u.length≤4096
 kid:∀k∈T.u,k.u.length≤4096∧(k.b=4→∀K∈k.u,lx D K)
theorem D4{D:Nat}{T:ah}(he:dn D T)(g:okF D T=true)(hm:bw D T≤4096)(h:jv D T):ED D T:=by
 have i:=tR h
 cases D with
 | zero=>exact⟨by rw[show T.u=[] from he];exact Fi _,fun k a=>by rw[show T.u=[] from he]at a;simp at a⟩
 | succ d =>
  have m:=(kX (d:=d) (T:=T)).1;refine⟨by omega,fun k a=>?_⟩;have j:=(kX (d:=d) (T:=T)).2 k a;have b:=he k a;have e:okF d k=true:=by
   have:(cJ T&&T.u.all (okF d))=true:=g;simp only[Fp]at this;exact FG.1 this.2 k a
  refine⟨uG b (by omega),fun n K c=>?_⟩
  cases d with
  | zero=>rw[show k.u=[] from b]at c;simp at c
  | succ d =>
   have l:=(kX (d:=d) (T:=k)).2 K c;have f:okF d K=true:=by
    have:(cJ k&&k.u.all (okF d))=true:=e;simp only[Fp]at this;exact FG.1 this.2 K c
   exact Dw (by omega) (b K c) f (by omega) (((i.2.2 k a)).2.2 K c)
theorem wq(r f:Nat)(er pl:Int)(a:List PanicEntry)(a0 a1 b0 D:r3)(w:p7)(H:w.heap[r]?=A (p8 #[a0,a1] 26 (0,0)))(K:w.heap[f]?=A (p8 #[b0,D] 29 (0,0)))(g:r≠f) :
  CallsD r6 23 #[tv (A ⟨r,0,V⟩),tv (A ⟨f,0,V⟩)] (.panicking ({ v:=.iface 29 (s3 #[I Y er,I Y pl]),recovered:=false }::a)) w fun e L w' =>
   e=tF (wF #[])∧L=.panicking ({ v:=.iface 29 (s3 #[I Y er,I Y pl]),recovered:=true }::a)∧
   Chg (fun b=>b=r∨b=f) w w'∧w'.heap[r]?=A (p8 #[O V 0 0,O V 0 0] 26 (0,0))∧w'.heap[f]?=A (p8 #[I Y er,I Y pl] 29 (0,0)):=by
 refine callsD_of_wpS Tryz.func23 Z fun n cs hu=>?_
 apply wpS_seq;apply wpS_region;simp[wpOpsS,go_sem,recoverD,hu,Tryz.ntmps23,Exit.thenS];apply wpS_seq;apply wpS_region;simp[wpOpsS,go_sem,Exit.thenS];refine wpS_cond (t:=true) (by simp[Act.eval,Array.replicate]) ?_;simp only[o4];refine wpS_of_wp ?_;change wB _ _ _ ⟨#[tv (A ⟨r,0,V⟩),tv (A ⟨f,0,V⟩),.iface 29 (s3 #[I Y er,I Y pl]),.iface 29 (s3 #[I Y er,I Y pl]),.iface 29 (s3 #[I Y er,I Y pl]),Value.bool true,tT,tT,tT],[]⟩ w;refine RE.t (by kernel_rfl) 4 [2,3] [3] (fun s W=>if s=0 then FS w W else Chg (fun b=>b=r) w W∧W.heap[r]?=A (p8 #[O V 0 0,O V 0 0] 26 (0,0))) (fun _ _=>True) (fun i _=>if i=2 then s3 #[I Y er,I Y pl] else tT) (fun _ _ _=>True) (by kernel_rfl) ?_ (fun _ _ _ _ _ _ _=>trivial) (EU _ _).drew ?_
 ·intro i z B s W W' h q
  split at h
  ·rw[oA (by assumption)];exact h.trans (q.mono h.size)
  ·rw[ox (by assumption)];exact⟨h.1.h (Chg.b q),ag q h.2 (ES.1 h.2).1⟩
 simp only[Fg,Fu,Fh,Ft];have E:∀(m s:Nat) (W:p7),s≤m→(if s=0 then FS w W else Chg (fun b=>b=r) w W∧W.heap[r]?=A (p8 #[O V 0 0,O V 0 0] 26 (0,0)))→∃x:Ks w (fun _=>False),W=x.1:=fun _ _ W _ _=>⟨⟨W,fun _ h=>h.elim⟩,Z⟩
 repeat (refine RE.h (fun W=>∃x:Ks w (fun _=>False),W=x.1) (E _) Z Z Z (EU _ _).drew ?_;go_big_quiet_step (fail);refine vk ?_)
 refine RE.b Z Z ?_ (fun ys=>?_)
 ·intro W C _ _;refine RE.upon_run (v:=s3 #[I Y er,I Y pl]) (w':=W) ?_ ⟨[],Z,EU _ _,trivial,trivial⟩;have G:(Instr.typeAssert (.iface 29 (s3 #[I Y er,I Y pl])) 20 29 false).run r6 W=.ok (s3 #[I Y er,I Y pl]) W:=by kernel_rfl
  simp[execOp,Act.eval,G]
 simp only[Act.put,EV,Fe,Fc,Nat.reduceAdd,↓reduceIte];refine RE.b Z Z ?_ (fun ys=>?_)
 ·intro W C l _;have l:FS w W:=l Z;have c:=ag l H (ES.1 H).1;refine RE.upon_skip (w':=W.setCells r 0 [O V 0 0,O V 0 0]) ?_ ⟨[],Z,?_,trivial,trivial⟩
  ·refine RE.run_store_agg 26 (.tmp 0) (.tmp 6) Z r 0 #[O V 0 0,O V 0 0] Z Z ?_ (by kernel_rfl) (by simp[Value.oneCell']);intro j u;have u:j<2:=u;rw[FR _ _ _ _ _ _ c,bM c];have:j=0∨j=1:=by omega
   rcases this with rfl|rfl<;>exact⟨Z,Z⟩
  ·refine⟨?_,?_⟩
   ·exact Chg.t (F:=fun b=>b=r) (Chg.t (F:=fun b=>b=r) (Chg.b l) (p:=⟨r,0,V⟩) (Or.inl Z) _) (p:=⟨r,1,V⟩) (Or.inl Z) _
   ·have z:(W.setCell ⟨r,0,V⟩ (O V 0 0)).heap[r]?=A (p8 #[O V 0 0,a1] 26 (0,0)):=heap_set c 0 _;have B:((W.setCell ⟨r,0,V⟩ (O V 0 0)).setCell ⟨r,1,V⟩ (O V 0 0)).heap[r]?=A (p8 #[O V 0 0,O V 0 0] 26 (0,0)):=heap_set z 1 _;exact B
 simp only[Act.put,Nat.reduceAdd];refine RE.q ?_;intro W l _;obtain⟨C,c⟩:Chg (fun b=>b=r) w W∧W.heap[r]?=A (p8 #[O V 0 0,O V 0 0] 26 (0,0)):=l;have k:W.heap[f]?=A (p8 #[b0,D] 29 (0,0)):=(C.q f (ES.1 K).1 (fun e=>g e.symm)).trans K;refine wpList_store_mid Z 29 (.tmp 1) (.tmp 8) Z f 0 #[I Y er,I Y pl] Z Z ?_ (by kernel_rfl) (by simp[Value.oneCell']) ?_
 ·intro j u;have u:j<2:=u;rw[FR _ _ _ _ _ _ k,bM k];have:j=0∨j=1:=by omega
  rcases this with rfl|rfl<;>exact⟨Z,Z⟩
 have d:Chg (fun b=>b=r∨b=f) w (W.setCells f 0 [I Y er,I Y pl])∧(W.setCells f 0 [I Y er,I Y pl]).heap[r]?=A (p8 #[O V 0 0,O V 0 0] 26 (0,0))∧(W.setCells f 0 [I Y er,I Y pl]).heap[f]?=A (p8 #[I Y er,I Y pl] 29 (0,0)):=by
  refine⟨Chg.t (F:=fun b=>b=r∨b=f) (Chg.t (F:=fun b=>b=r∨b=f) (Chg.N C (fun b q=>Or.inl q)) (p:=⟨f,0,V⟩) (Or.inl (Or.inr Z)) _) (p:=⟨f,1,V⟩) (Or.inl (Or.inr Z)) _,?_,?_⟩
  ·show ((W.setCell ⟨f,0,V⟩ (I Y er)).setCell ⟨f,1,V⟩ (I Y pl)).heap[r]?=_
   rw[EW _ _ _ _ g,EW _ _ _ _ g];exact c
  ·have z:(W.setCell ⟨f,0,V⟩ (I Y er)).heap[f]?=A (p8 #[I Y er,D] 29 (0,0)):=heap_set k 0 _;have B:((W.setCell ⟨f,0,V⟩ (I Y er)).setCell ⟨f,1,V⟩ (I Y pl)).heap[f]?=A (p8 #[I Y er,I Y pl] 29 (0,0)):=heap_set z 1 _;exact B
 have y:=Hd d;clear d
 cases n
 simp_all [wpList,bodyPostS,results,Tryz.results23]
 exact⟨Z,y.o⟩
theorem catch_idle(r f:Nat)(w:p7) :
  CallsD r6 23 #[tv (A ⟨r,0,V⟩),tv (A ⟨f,0,V⟩)] .returning w fun e b w'=>e=tF (wF #[])∧b=.returning∧w'=w:=by
 refine callsD_of_wpS Tryz.func23 Z fun a cs hu=>?_
 apply wpS_seq;apply wpS_region;simp[wpOpsS,go_sem,recoverD,hu,Tryz.ntmps23,Exit.thenS];apply wpS_seq;apply wpS_region;simp[wpOpsS,go_sem,Exit.thenS];refine wpS_cond (t:=false) (by simp[Act.eval,Array.replicate]) ?_;simp only[Fx,oX];refine wpS_of_wp (wp_skip ?_)
 cases a
 simp_all [bodyPostS,results,Tryz.results23]
def iK(d:Nat) (T:ah):Except Flt bO:=if iO d T then mi d T else wD (4,0)
def kL(d:Nat) (r:Except Flt bO) (w:p7) (e:xv) (w':p7):Prop:=FS w w'∧match r with
 | .ok R=>∃st a,e=tF (wF #[s3 #[st,a],s3 #[I Y 0,I Y 0]])∧cN.lrow 41 w' (aW w w') R.a st∧(eU d).lrow 39 w' (aW w w') R.b a
 | .error er=>e=tF (wF #[s3 #[O V 0 0,O V 0 0],s3 #[I Y er.1,I Y er.2]])
def tV(d:Nat) (r:Except Flt bO) (w:p7) (e:xv) (w':p7):Prop:=FS w w'∧match r with
 | .ok R=>∃st a,e=tF (wF #[s3 #[st,a],s3 #[I Y 0,I Y 0]])∧cN.y w' (aW w w') R.a st∧(dP d).y w' (aW w w') R.b a
 | .error er=>e=tF (wF #[s3 #[O V 0 0,O V 0 0],s3 #[I Y er.1,I Y er.2]])
theorem ym(w:p7)(a b c:Obj):((((w.alloc a).alloc b).alloc c).heap[w.heap.size]?=A a)∧((((w.alloc a).alloc b).alloc c).heap[w.heap.size+1]?=A b)∧((((w.alloc a).alloc b).alloc c).heap[w.heap.size+2]?=A c):=by
 obtain⟨e,f,_⟩:=ay w a b;have d:Below ((w.alloc a).alloc b).heap.size ((w.alloc a).alloc b) (((w.alloc a).alloc b).alloc c):=(EU _ _).alloc (ET _) _;have g:((w.alloc a).alloc b).heap.size=w.heap.size+2:=by simp
 refine⟨ag d e (by omega),ag d f (by omega),?_⟩;have:=ot ((w.alloc a).alloc b) c;rw[g]at this;exact this
theorem nH{W:p7}{r f:Nat}{a0 a1 b0 b:r3}(c:W.heap[r]?=A (p8 #[a0,a1] 26 (0,0)))(d:W.heap[f]?=A (p8 #[b0,b] 29 (0,0)))(a:r≠f)(x y u v:r3) :
  ((((W.setCell ⟨r,0,V⟩ x).setCell ⟨r,1,V⟩ y).setCell ⟨f,0,V⟩ u).setCell ⟨f,1,V⟩ v).heap[r]?=A (p8 #[x,y] 26 (0,0))∧((((W.setCell ⟨r,0,V⟩ x).setCell ⟨r,1,V⟩ y).setCell ⟨f,0,V⟩ u).setCell ⟨f,1,V⟩ v).heap[f]?=A (p8 #[u,v] 29 (0,0)):=by
 have e:(W.setCell ⟨r,0,V⟩ x).heap[r]?=A (p8 #[x,a1] 26 (0,0)):=heap_set c 0 _;have g:((W.setCell ⟨r,0,V⟩ x).setCell ⟨r,1,V⟩ y).heap[r]?=A (p8 #[x,y] 26 (0,0)):=heap_set e 1 _;have g0:((W.setCell ⟨r,0,V⟩ x).setCell ⟨r,1,V⟩ y).heap[f]?=A (p8 #[b0,b] 29 (0,0)):=by rw[EW _ _ _ _ a.symm,EW _ _ _ _ a.symm];exact d
 have g1:(((W.setCell ⟨r,0,V⟩ x).setCell ⟨r,1,V⟩ y).setCell ⟨f,0,V⟩ u).heap[f]?=A (p8 #[u,b] 29 (0,0)):=heap_set g0 0 _;have g2:((((W.setCell ⟨r,0,V⟩ x).setCell ⟨r,1,V⟩ y).setCell ⟨f,0,V⟩ u).setCell ⟨f,1,V⟩ v).heap[f]?=A (p8 #[u,v] 29 (0,0)):=heap_set g1 1 _;refine⟨?_,g2⟩;rw[EW _ _ _ _ a,EW _ _ _ _ a];exact g
theorem lq{W:p7}{R:xv→p7→Prop}{tmps:Array r3}{r f:Nat}{a b x y:r3}(h:tmps.getD 2 tT=tv (A ⟨r,0,V⟩))(i:tmps.getD 3 tT=tv (A ⟨f,0,V⟩))
  (e:W.heap[r]?=A (p8 #[a,b] 26 (0,0))) (g:W.heap[f]?=A (p8 #[x,y] 29 (0,0))) (j:R (tF (wF #[s3 #[a,b],s3 #[x,y]])) W):Leaves r6 Tryz.f10 tmps R [] .returning W:=by
 have c0:W.cell? ⟨r,0,V⟩=A a:=by simp[xj,e]
 have c1:W.cell? ⟨r,1,V⟩=A b:=by simp[xj,e]
 have d0:W.cell? ⟨f,0,V⟩=A x:=by simp[xj,g]
 have d1:W.cell? ⟨f,1,V⟩=A y:=by simp[xj,g]
 have c:tmps[2]?.getD tT=tv (A ⟨r,0,V⟩):=by simpa using h
 have d:tmps[3]?.getD tT=tv (A ⟨f,0,V⟩):=by simpa using i
 refine⟨wF #[s3 #[a,b],s3 #[x,y]],?_,j⟩;simp[results,Tryz.results10,go_sem,c,d,c0,c1,d0,d1]
theorem zC{W w:p7}{R:xv→p7→Prop}{tmps:Array r3}{a b x y:r3}(c:tmps.getD 2 tT=tv (A ⟨w.heap.size+1,0,V⟩))(d:tmps.getD 3 tT=tv (A ⟨w.heap.size+1+1,0,V⟩))
  (g:W.heap[w.heap.size+1]?=A (p8 #[a,b] 26 (0,0))) (h:W.heap[w.heap.size+1+1]?=A (p8 #[x,y] 29 (0,0))) (i:R (tF (wF #[s3 #[a,b],s3 #[x,y]])) W) :
  Leaves r6 Tryz.f10 tmps R [{ target:=Target.fn (Fn.func 23) #[tv (A ⟨w.heap.size+1,0,V⟩),tv (A ⟨w.heap.size+1+1,0,V⟩)],args:=#[] }] .returning W:=by
 refine leaves_cons (f:=23) (args:=#[tv (A ⟨w.heap.size+1,0,V⟩),tv (A ⟨w.heap.size+1+1,0,V⟩)]) (by simp) (by simp[go_sem]) ?_;refine (catch_idle (w.heap.size+1) (w.heap.size+1+1) W).mono ?_;rintro e k j ⟨rfl,rfl,rfl⟩;exact lq c d g h i
theorem qj{d:Nat}{T:ah}{W w:p7}{tmps:Array r3}{a b x y:r3}{er:Flt}(i:tmps.getD 2 tT=tv (A ⟨w.heap.size+1,0,V⟩))(j:tmps.getD 3 tT=tv (A ⟨w.heap.size+1+1,0,V⟩))(c:FS w W)
  (k:W.heap[w.heap.size+1]?=A (p8 #[a,b] 26 (0,0))) (l:W.heap[w.heap.size+1+1]?=A (p8 #[x,y] 29 (0,0))) (hm:iK d T=wD er) :
  Leaves r6 Tryz.f10 tmps (kL d (iK d T) w) [{ target:=Target.fn (Fn.func 23) #[tv (A ⟨w.heap.size+1,0,V⟩),tv (A ⟨w.heap.size+1+1,0,V⟩)],args:=#[] }] (.panicking [{ v:=.iface 29 (s3 #[I Y er.1,I Y er.2]),recovered:=false }]) W:=by
 refine leaves_cons (f:=23) (args:=#[tv (A ⟨w.heap.size+1,0,V⟩),tv (A ⟨w.heap.size+1+1,0,V⟩)]) (by simp) (by simp[go_sem]) ?_;refine (wq (w.heap.size+1) (w.heap.size+1+1) er.1 er.2 [] a b x y W k l (by omega)).mono ?_;rintro e o m ⟨rfl,rfl,n,g,h⟩;refine lq i j g h ⟨Chg.T c n (fun b c=>by rcases c with rfl|rfl<;>omega) c.size,?_⟩
 rw[hm]
def yB(d M:Nat) (T:ah) (n:Nat) (W2:p7) (i:r3) (W:p7):Prop:=
 ∃(j:Nat) (ts:List ap) (vT:r3),j≤n∧i=I Y (j:Int)∧bs i5 [] (T.u.take j)=vb ts∧ts.length≤j∧MkB (fun _=>False) d M ts [] vT (O V 0 0) W∧(∀g,vT.ownBlock=A g→M≤g)∧Below M W2 W
def zb(d M:Nat) (T:ah) (n:Nat) (ts:List ap) (vT:r3) (W2:p7) (i:r3) (W:p7):Prop:=
 ∃(j:Nat) (rs:List au) (F:Nat→Prop) (vR:r3),j≤n∧i=I Y (j:Int)∧bs (i3 d ts) [] (T.u.take j)=vb rs∧rs.length≤j∧MkB F d M ts rs vT vR W∧(∀g,vR.ownBlock=A g→M≤g)∧(∀b,F b→M≤b)∧Below M W2 W
theorem Aq{ts a:List ap}{K:ah}(h:fl ts K=vb a):a.length=ts.length+1:=by
 unfold fl at h
 split at h
 ·cases h
 ·split at h
  ·cases h
  ·split at h
   ·cases h
   ·injection h with h;rw[←h];simp
theorem AM{d:Nat}{ts:List ap}{rs a:List au}{K:ah}(h:eE d ts rs K=vb a):a.length=rs.length+1:=by
 unfold eE at h
 split at h
 ·cases h
 ·split at h
  ·cases h
  ·split at h
   ·cases h
   ·split at h
    ·cases h
    ·injection h with h;rw[←h];simp
theorem BP(d:Nat)(T:ah)(v:r3)(w:p7)(hv:fk w w.heap.size d T v)(ch:jv d T)(ht:aM w) :
  r9 r6 10 #[v] w (kL d (iK d T) w):=by
 have gD:∀(fn:Fn) (first cap:Array r3) (w:p7),(Instr.makeFunc fn first cap).run r6 w=.ok (Value.func fn first cap) w:=fun _ _ _ _=>rfl
 have HV:=Hd hv;obtain⟨u,s,rfl,ak⟩:=hv;obtain⟨p,c,hs⟩:=ak.t;obtain⟨n,hn⟩:=zzy (T.u.length);rw[hn]at hs;subst hs;obtain⟨w1,b4⟩:=zzx (((w.alloc (p8 #[I J T.b,p9 T.h,I Y T.q,I Y T.t,O p n c] 64)).alloc (p8 #[O V 0 0,O V 0 0] 26)).alloc (p8 #[I Y 0,I Y 0] 29));obtain⟨b5,ck,cl⟩:=ym w (p8 #[I J T.b,p9 T.h,I Y T.q,I Y T.t,O p n c] 64) (p8 #[O V 0 0,O V 0 0] 26) (p8 #[I Y 0,I Y 0] 29);have bk:FS w w1:=by rw[b4];exact (((EU _ w).alloc (ET _) _).alloc (by simp) _).alloc (by simp;omega) _
 rw[←b4]at b5 ck cl;obtain⟨cW,c5,c6,c7,a1,HN,c8⟩:=zz7 b5 ck cl bk ak hn (mn d T _ w.heap.size w1 ⟨u,_,Z,ak.C bk⟩ bk.size ch (ht.C bk));have e5:=Hd ch;obtain⟨e0,e1,e2,e3,e4⟩:=cells5 b5;clear b5 ck cl bk ak hn u ch
 go_enter_defers Tryz.func10,Tryz.ntmps10
 go_upto_region 1 with fail
 change wB _ _ _ _ (((w.alloc (p8 #[I J T.b,p9 T.h,I Y T.q,I Y T.t,O p n c] 64)).alloc (p8 #[O V 0 0,O V 0 0] 26)).alloc (p8 #[I Y 0,I Y 0] 29));rw[←b4];clear b4;go_wp2_with fail
 refine c8.o.mono ?_;rintro e W2 ⟨rfl,bl⟩;have bn:=Hd (c7.o.trans (bl.mono c7.o.size));have cp:=ag bl cW.o (ES.1 cW.o).1;have c9:=ag bl c5.o (ES.1 c5.o).1;have cq:=ag bl c6.o (ES.1 c6.o).1;obtain⟨e6,a6,a7⟩:=zz3 cp c9 cq;clear bl c8 e0 e1 e2 e3 e4
 cases X:iO d T with
 | false =>
  have HM:Hid (iK d T=wD (4,0)):=by show _=_;unfold iK;rw[X];rfl
  clear X;have c0:W2.cell? ⟨w.heap.size+1,0,V⟩=A (O V 0 0):=by rw[FR _ _ _ _ _ _ a6.o];rfl
  have c1:W2.cell? ⟨w.heap.size+1,1,V⟩=A (O V 0 0):=by rw[FR _ _ _ _ _ _ a6.o];rfl
  have d0:W2.cell? ⟨w.heap.size+1+1,0,V⟩=A (I Y 0):=by rw[FR _ _ _ _ _ _ a7.o];rfl
  have d1:W2.cell? ⟨w.heap.size+1+1,1,V⟩=A (I Y 0):=by rw[FR _ _ _ _ _ _ a7.o];rfl
  have f1:=cH a6.o;have f2:∀i,W2.frozen? ⟨w.heap.size+1+1,i,V⟩=false:=cH a7.o;obtain⟨W,ad⟩:=zzx ((((W2.setCell ⟨w.heap.size+1,0,V⟩ (O V 0 0)).setCell ⟨w.heap.size+1,1,V⟩ (O V 0 0)).setCell ⟨w.heap.size+1+1,0,V⟩ (I Y 4)).setCell ⟨w.heap.size+1+1,1,V⟩ (I Y 0));have HZ:=Hd (nH a6.o a7.o (show w.heap.size+1≠w.heap.size+2 by omega) (O V 0 0) (O V 0 0) (I Y 4) (I Y 0));have cr:Hid (FS w W):=by show Below _ _ _;rw[ad];exact (((bn.o.setCell (p:=⟨w.heap.size+1,0,V⟩) (Fw _) _).setCell (p:=⟨w.heap.size+1,1,V⟩) (Fw _) _).setCell (p:=⟨w.heap.size+1+1,0,V⟩) (EZ (Fw _) (Fw _)) _).setCell (p:=⟨w.heap.size+1+1,1,V⟩) (EZ (Fw _) (Fw _)) _
  rw[←ad]at HZ;go_wp2_with fail
  rw[←ad];refine lq Z Z HZ.o.1 HZ.o.2 ⟨cr.o,?_⟩;rw[HM.o]
 | true =>
  have b6:(T.b==1&&okF d T&&decide (dU d T≤30)&&decide (bw d T≤4096))=true:=X;simp only[Fp,oE]at b6;have b7:=Hd (D4 (yE a1.o) b6.1.1.2 b6.2 e5.o);have HM:Hid (iK d T=mi d T):=by show _=_;unfold iK;rw[X];rfl
  have gg:n≤4096:=by rw[←HN.o];exact b7.o.few
  clear X b6;obtain⟨M,hM⟩:=zzx (W2.heap.size);obtain⟨w4,b8⟩:=zzx (W2.alloc (p8 #[O V 0 0,O V 0 0,O V 0 0,p9 ⟨#[]⟩,I Y 0,I Y 0,O V 0 0,O V 0 0] 98));have da:w4.heap[M]?=A (p8 #[O V 0 0,O V 0 0,O V 0 0,p9 ⟨#[]⟩,I Y 0,I Y 0,O V 0 0,O V 0 0] 98 (0,0)):=by rw[b8,hM];exact ot W2 _
  have m:Hid (w.heap.size+3≤M):=by
   have:=(ES.1 cq).1
   show _≤_
   rw[hM];omega
  have dc:Hid (Below M W2 w4):=by show Below _ _ _;rw[b8,hM];exact (EU _ W2).alloc (ET _) _
  have e7:Hid (MkB (fun _=>False) d M [] [] (O V 0 0) (O V 0 0) w4):=⟨fun _ h=>h.elim,fun _ h=>h,⟨_,_,_,_,_,_,da⟩,bF.nil,cO.nil⟩;have e8:Hid (M=W2.heap.size):=hM;obtain⟨e0,e1,e2,e3,e4⟩:=cells5 (ag dc.o cp (by have:=m.o;omega));clear cp c9 cq da;go_upto_region 5 with fail
  rw[←hM];change wB _ _ _ _ (W2.alloc (p8 #[O V 0 0,O V 0 0,O V 0 0,p9 ⟨#[]⟩,I Y 0,I Y 0,O V 0 0,O V 0 0] 98));rw[←b8];clear b8 hM;go_wp2_with fail
  go_loopw [20] (yB d M T n W2) (fun i _=>n-(intOf i).toNat)
  case atStart=>exact⟨0,[],O V 0 0,Fi _,Z,Z,ET _,e7.o,(fun g hg=>by cases hg),dc.o⟩
  case round =>
   obtain⟨j,ts,vT,hj,rfl,E,hlen,a8,dd,ba⟩:=hrel;have dg:(0:Int)≤j:=by omega
   obtain⟨bd,x,bq,P⟩:=zz4 E a8 dd ba;have G:Hid (FS w wr):=bn.o.trans (ba.mono (by have:=m.o;omega));have Q:Hid (M≤wr.heap.size):=FB a8.lt;clear E a8 dd ba e0 e1 e2 e3 e4
   by_cases b9:j<n
   ·have e9:(j:Int)<n:=by omega
    obtain⟨K,hK⟩:∃K,T.u[j]?=A K:=⟨_,EX (by rw[HN.o];exact b9)⟩;have aq:=Fv hK;have ak:=(a1.o.C G.o).lift (Fw d);rcases ak with ⟨h0,_⟩|⟨b,off,cap,h1,h2,h3,h4,he,h6⟩
    ·rw[h0]at hK;simp at hK
    rw[HN.o]at he h3;injection he with ct _ cu
    subst ct;subst cu;obtain⟨u,sK,c0,c1,c2,c3,c4,H⟩:=h6 j K hK;obtain⟨ps,y,br⟩:=H.t;obtain⟨R,af⟩:=zzy (K.u.length);rw[af]at br;subst br;have bb:=Hd (it (f:=i5) hK bd.o)
    by_cases C:K.b=2
    ·have c0:wr.cell? ⟨b,off+j*5,V⟩=A (I J 2):=by rw[c0,C];rfl
     obtain⟨B,q⟩:=zzx (wr.alloc (p8 #[I J 2,p9 K.h,I Y K.q,I Y K.t,O ps R y] 64));have a:FS wr B:=by rw[q];exact (EU _ wr).alloc (ET _) _
     have L:B.heap[wr.heap.size]?=A (p8 #[I J 2,p9 K.h,I Y K.q,I Y K.t,O ps R y] 64 (0,0)):=by rw[q];exact ot wr _
     have S:=Hd a;have N:Hid (Below M W2 B):=P.o.trans (a.mono Q.o);have D:=H.C (a.mono G.o.size);have cv:Hid (r9 r6 24 #[tv (A ⟨M,0,V⟩),s3 #[I J 2,p9 K.h,I Y K.q,I Y K.t,O ps R y]] B (nL (fun _=>False) d M [] vT (O V 0 0) (fl ts K) B)):=by
      have h:=zF (fun _=>False) d M ts [] vT (O V 0 0) K ps R y d B (x.o.C a) C (by omega) af (by have:=(b7.o.kid K aq).1;omega) (((D.up (EZ G.o.size a.size))).lift (Fw _)) u.2.1;rw[C]at h;exact h
     obtain⟨k0,k1,k2,k3,k4⟩:=cells5 L;clear u H h6 h1 h2 h3 h4 hK aq a L D af;go_upto_region 8 with fail
     change wB _ _ _ _ (wr.alloc (p8 #[I J 2,p9 K.h,I Y K.q,I Y K.t,O ps R y] 64));rw[←q];clear q c0 c1 c2 c3 c4;go_wp2_with fail
     refine cv.o.mono ?_;rintro e W ⟨bt,he⟩;have z:Below M W2 W:=Chg.T N.o bt (fun b U=>by rcases U with rfl|⟨v,hv,U⟩;exact ET _;simp only[FK,FH,o5]at hv;rcases hv with rfl|rfl;exact bq.o b U;cases U) (EZ Q.o S.o.size)
     clear k0 k1 k2 k3 k4
     cases X:fl ts K with
     | error er =>
      rw[X]at he;have he:e=aQ er.1 er.2:=he;subst he;have bB:w.heap.size+1<M:=by have:=m.o;omega
      refine qj (d:=d) (T:=T) (er:=er) Z Z (bn.o.trans (z.mono (by have:=m.o;omega))) ((z.block _ bB).trans a6.o) ((z.block (w.heap.size+2) (by have:=m.o;omega)).trans a7.o) ?_;rw[HM.o];unfold mi;rw[jm (f:=i5) (l:=T.u) (k:=j+1) (s:=[]) (e:=er) (bb.o.trans ?_)]
      show (if K.b==2 then fl ts K else vb ts)=_
      rw[C];exact X
     | ok fe =>
      rw[X]at he;obtain⟨rfl,fm,ar,bR⟩:=he;have HR:Hid (yB d M T n W2 (I Y ((j+1:Nat):Int)) W):=by
       refine⟨j+1,fe,fm,by omega,Z,?_,by rw[Aq X];omega,ar,fun g hg=>?_,z⟩
       ·rw[bb.o]
        show (if K.b==2 then fl ts K else vb ts)=_
        rw[C];exact X
       ·rcases bR g hg with h|h
        ·exact bq.o g h
        ·exact EZ (EZ Q.o S.o.size) h
      clear ar bR bt z X;go_wp2_with fail
      refine⟨HR.o,?_⟩;simp[intOf];omega
    ·have fp:¬((K.b:Int)=2):=by omega
     obtain⟨B,q⟩:=zzx (wr.alloc (p8 #[I J K.b,p9 K.h,I Y K.q,I Y K.t,O ps R y] 64));have a:FS wr B:=by rw[q];exact (EU _ wr).alloc (ET _) _
     have L:B.heap[wr.heap.size]?=A (p8 #[I J K.b,p9 K.h,I Y K.q,I Y K.t,O ps R y] 64 (0,0)):=by rw[q];exact ot wr _
     have S:=Hd a;have N:Hid (Below M W2 B):=P.o.trans (a.mono Q.o);have D:=H.C (a.mono G.o.size);obtain⟨k0,k1,k2,k3,k4⟩:=cells5 L;clear u H h6 h1 h2 h3 h4 hK aq a L D af;go_upto_region 8 with fail
     change wB _ _ _ _ (wr.alloc (p8 #[I J K.b,p9 K.h,I Y K.q,I Y K.t,O ps R y] 64));rw[←q];clear q c0 c1 c2 c3 c4;have HR:Hid (yB d M T n W2 (I Y ((j+1:Nat):Int)) B):=by
      refine⟨j+1,ts,vT,by omega,Z,?_,by omega,x.o.C S.o,bq.o,N.o⟩;rw[bb.o]
      show (if K.b==2 then fl ts K else vb ts)=_
      rw[show (K.b==2)=false by simpa using C];rfl
     go_wp2_with fail
     refine⟨HR.o,?_⟩;simp[intOf];omega
   ·have av:bs i5 [] T.u=vb ts:=by
     rw[←bd.o,Fq (by rw[HN.o];omega)]
    have ca:=Hd av;clear av;have dr:=ag P.o e6.o (by have:=m.o;have:=e8.o;omega);obtain⟨e0,e1,e2,e3,e4⟩:=cells5 dr;clear dr;have gm:ts.length≤4096:=by omega
    clear hlen bd;go_wp2_with fail
    go_loopw [34] (zb d M T n ts vT W2) (fun i _=>n-(intOf i).toNat)
    case atStart=>exact⟨0,[],fun _=>False,O V 0 0,Fi _,Z,Z,ET _,x.o,(fun g hg=>by cases hg),(fun b U=>U.elim),P.o⟩
    case round =>
     clear dg hj b9;clear x P G;obtain⟨j,rs,F,vR,hj,rfl,E,hlen,a8,cb,hF,ba⟩:=hrel;have dg:(0:Int)≤j:=by omega
     obtain⟨bd,x,bc,HF,P⟩:=zz5 E a8 cb hF ba;have G:Hid (FS w wr):=bn.o.trans (ba.mono (by have:=m.o;omega));have Q:Hid (M≤wr.heap.size):=FB a8.lt;clear E a8 cb hF ba e0 e1 e2 e3 e4
     by_cases b9:j<n
     ·have e9:(j:Int)<n:=by omega
      obtain⟨K,hK⟩:∃K,T.u[j]?=A K:=⟨_,EX (by rw[HN.o];exact b9)⟩;have aq:=Fv hK;have ak:=(a1.o.C G.o).lift (Fw d);rcases ak with ⟨h0,_⟩|⟨b,off,cap,h1,h2,h3,h4,he,h6⟩
      ·rw[h0]at hK;simp at hK
      rw[HN.o]at he h3;injection he with ct _ cu
      subst ct;subst cu;obtain⟨u,sK,c0,c1,c2,c3,c4,H⟩:=h6 j K hK;obtain⟨ps,y,br⟩:=H.t;obtain⟨R,af⟩:=zzy (K.u.length);rw[af]at br;subst br;have bb:=Hd (it (f:=i3 d ts) hK bd.o)
      by_cases C:K.b=4
      ·have c0:wr.cell? ⟨b,off+j*5,V⟩=A (I J 4):=by rw[c0,C];rfl
       obtain⟨B,q⟩:=zzx (wr.alloc (p8 #[I J 4,p9 K.h,I Y K.q,I Y K.t,O ps R y] 64));have a:FS wr B:=by rw[q];exact (EU _ wr).alloc (ET _) _
       have L:B.heap[wr.heap.size]?=A (p8 #[I J 4,p9 K.h,I Y K.q,I Y K.t,O ps R y] 64 (0,0)):=by rw[q];exact ot wr _
       have S:=Hd a;have N:Hid (Below M W2 B):=P.o.trans (a.mono Q.o);have D:=H.C (a.mono G.o.size);have cx:∀b,bf M [vT,vR] b→M≤b:=fun b U=>by
        rcases U with rfl|⟨v,hv,U⟩
        ·exact ET _
        ·simp only[FK,FH,o5]at hv;rcases hv with rfl|rfl
         ·exact bq.o b U
         ·exact bc.o b U
       have cv:Hid (r9 r6 25 #[tv (A ⟨M,0,V⟩),s3 #[I J 4,p9 K.h,I Y K.q,I Y K.t,O ps R y]] B (mF F d M ts vT vR (eE d ts rs K) B)):=by
        have h:=zD F d M ts rs vT vR K ps R y w.heap.size B (x.o.C a) C (by omega) (by omega) af (by have:=(b7.o.kid K aq).1;omega) (D.lift (EZ (Fw _) (Fw _))) (EZ G.o.size a.size) (fun b U=>by have:=cx b U;have:=m.o;omega) u.2.1 ⟨u.2.2.1,u.2.2.2.1⟩ ((b7.o.kid K aq).2 C);rw[C]at h;exact h
       have fr:=Hd cx;obtain⟨k0,k1,k2,k3,k4⟩:=cells5 L;clear u H h6 h1 h2 h3 h4 hK aq a L D af cx;go_upto_region 14 with fail
       change wB _ _ _ _ (wr.alloc (p8 #[I J 4,p9 K.h,I Y K.q,I Y K.t,O ps R y] 64));rw[←q];clear q c0 c1 c2 c3 c4;go_wp2_with fail
       refine cv.o.mono ?_;rintro e W ⟨bt,he⟩;have z:Below M W2 W:=Chg.T N.o bt fr.o (EZ Q.o S.o.size);clear k0 k1 k2 k3 k4
       cases X:eE d ts rs K with
       | error er =>
        rw[X]at he;have he:e=aQ er.1 er.2:=he;subst he;have bB:w.heap.size+1<M:=by have:=m.o;omega
        refine qj (d:=d) (T:=T) (er:=er) Z Z (bn.o.trans (z.mono (by have:=m.o;omega))) ((z.block _ bB).trans a6.o) ((z.block (w.heap.size+2) (by have:=m.o;omega)).trans a7.o) ?_;rw[HM.o];unfold mi;rw[ca.o];dsimp only;rw[jm (f:=i3 d ts) (l:=T.u) (k:=j+1) (s:=[]) (e:=er) (bb.o.trans ?_)]
        show (if K.b==4 then eE d ts rs K else vb rs)=_
        rw[C];exact X
       | ok fv =>
        rw[X]at he;obtain⟨rfl,F2,fz,ar,bR,fI,ds⟩:=he;have HR:Hid (zb d M T n ts vT W2 (I Y ((j+1:Nat):Int)) W):=by
         refine⟨j+1,fv,F2,fz,by omega,Z,?_,by rw[AM X];omega,ar,fun g hg=>?_,fun b U=>?_,z⟩
         ·rw[bb.o]
          show (if K.b==4 then eE d ts rs K else vb rs)=_
          rw[C];exact X
         ·rcases bR g hg with h|h
          ·exact bc.o g h
          ·exact EZ (EZ Q.o S.o.size) h
         ·rcases ds b U with h|h
          ·exact HF.o b h
          ·exact EZ (EZ Q.o S.o.size) h
        clear ar bR fI ds bt z X;go_wp2_with fail
        refine⟨HR.o,?_⟩;simp[intOf];omega
      ·have fp:¬((K.b:Int)=4):=by omega
       obtain⟨B,q⟩:=zzx (wr.alloc (p8 #[I J K.b,p9 K.h,I Y K.q,I Y K.t,O ps R y] 64));have a:FS wr B:=by rw[q];exact (EU _ wr).alloc (ET _) _
       have L:B.heap[wr.heap.size]?=A (p8 #[I J K.b,p9 K.h,I Y K.q,I Y K.t,O ps R y] 64 (0,0)):=by rw[q];exact ot wr _
       have S:=Hd a;have N:Hid (Below M W2 B):=P.o.trans (a.mono Q.o);have D:=H.C (a.mono G.o.size);obtain⟨k0,k1,k2,k3,k4⟩:=cells5 L;clear u H h6 h1 h2 h3 h4 hK aq a L D af;go_upto_region 14 with fail
       change wB _ _ _ _ (wr.alloc (p8 #[I J K.b,p9 K.h,I Y K.q,I Y K.t,O ps R y] 64));rw[←q];clear q c0 c1 c2 c3 c4;have HR:Hid (zb d M T n ts vT W2 (I Y ((j+1:Nat):Int)) B):=by
        refine⟨j+1,rs,F,vR,by omega,Z,?_,by omega,x.o.C S.o,bc.o,HF.o,N.o⟩;rw[bb.o]
        show (if K.b==4 then eE d ts rs K else vb rs)=_
        rw[show (K.b==4)=false by simpa using C];rfl
       go_wp2_with fail
       refine⟨HR.o,?_⟩;simp[intOf];omega
     ·have av:bs (i3 d ts) [] T.u=vb rs:=by
       rw[←bd.o,Fq (by rw[HN.o];omega)]
      have dv:Hid (iK d T=vb ⟨ts,rs⟩):=by
       show _=_
       rw[HM.o];unfold mi;rw[ca.o];dsimp only;rw[av]
      obtain⟨pT,cT,eg⟩:=x.o.t.b;obtain⟨pR,cR,en⟩:=x.o.r.b;obtain⟨nT,eo⟩:=zzy (ts.length);obtain⟨nR,et⟩:=zzy (rs.length);rw[eo]at eg;rw[et]at en;subst eg;subst en;have fT:w.heap.size+1<M:=by have:=m.o;omega
      have ga:w.heap.size+2<M:=by have:=m.o;omega
      have b1:=(P.o.block _ fT).trans a6.o;have b2:=(P.o.block _ ga).trans a7.o;have m0:=x.o.h.1;have m1:=x.o.h.2;have c0:wr.cell? ⟨w.heap.size+1,0,V⟩=A (O V 0 0):=by rw[FR _ _ _ _ _ _ b1];rfl
      have c1:wr.cell? ⟨w.heap.size+1,1,V⟩=A (O V 0 0):=by rw[FR _ _ _ _ _ _ b1];rfl
      have d0:wr.cell? ⟨w.heap.size+1+1,0,V⟩=A (I Y 0):=by rw[FR _ _ _ _ _ _ b2];rfl
      have d1:wr.cell? ⟨w.heap.size+1+1,1,V⟩=A (I Y 0):=by rw[FR _ _ _ _ _ _ b2];rfl
      have f1:=cH b1;have f2:∀i,wr.frozen? ⟨w.heap.size+1+1,i,V⟩=false:=cH b2;obtain⟨W,ad⟩:=zzx ((((wr.setCell ⟨w.heap.size+1,0,V⟩ (O pT nT cT)).setCell ⟨w.heap.size+1,1,V⟩ (O pR nR cR)).setCell ⟨w.heap.size+1+1,0,V⟩ (I Y 0)).setCell ⟨w.heap.size+1+1,1,V⟩ (I Y 0));have HZ:=Hd (nH b1 b2 (show w.heap.size+1≠w.heap.size+2 by omega) (O pT nT cT) (O pR nR cR) (I Y 0) (I Y 0));rw[←ad]at HZ;have cr:Hid (FS w W):=by show Below _ _ _;rw[ad];exact (((G.o.setCell (p:=⟨w.heap.size+1,0,V⟩) (Fw _) _).setCell (p:=⟨w.heap.size+1,1,V⟩) (Fw _) _).setCell (p:=⟨w.heap.size+1+1,0,V⟩) (EZ (Fw _) (Fw _)) _).setCell (p:=⟨w.heap.size+1+1,1,V⟩) (EZ (Fw _) (Fw _)) _
      have cV:∀b,M≤b∧b<wr.heap.size→∀o,wr.heap[b]?=A o→W.heap[b]?=A o:=fun b U o ho=>by
       rw[ad,EW _ _ _ _ (show b≠w.heap.size+1+1 by omega),EW _ _ _ _ (show b≠w.heap.size+1+1 by omega),EW _ _ _ _ (show b≠w.heap.size+1 by omega),EW _ _ _ _ (show b≠w.heap.size+1 by omega)];exact ho
      have ev:W.heap.size=wr.heap.size:=by rw[ad];simp[xD]
      have b3:∀b,M≤b∧b<wr.heap.size→aW w W b:=fun b U=>⟨by omega,by rw[ev];exact U.2⟩
      have gb:Hid (cN.lrow 41 W (aW w W) ts (O pT nT cT)):=Rd.th b3 (Rd.sm cV (rW (fun h=>fW.2 (fW.1 h)) x.o.t (fun g hg=>⟨bq.o g hg,x.o.t.lt hg⟩)));have gf:Hid ((eU d).lrow 39 W (aW w W) rs (O pR nR cR)):=Rd.th b3 (Rd.sm cV (x.o.rl.lrow (fun b U=>⟨HF.o b U,(x.o.f b U).1⟩) (fun g hg=>⟨⟨bc.o g hg,x.o.r.lt hg⟩,fun h=>(x.o.f g h).2 (Or.inr ⟨_,by simp,hg⟩)⟩)));clear av b1 b2 cV ev b3 eo et;go_wp2_with fail
      rw[←ad];refine zC Z Z HZ.o.1 HZ.o.2 ⟨cr.o,?_⟩;rw[dv.o];exact⟨_,_,Z,gb.o,gf.o⟩
theorem DR{d:Nat}{r:Except Flt bO}{w w':p7}{e:xv}(h:kL d r w e w'):tV d r w e w':=by
 obtain⟨a,h⟩:=h;refine⟨a,?_⟩
 cases r with
 | error er=>exact h
 | ok R =>
  obtain⟨st,b,rfl,c,f⟩:=h;exact⟨st,b,Z,c.h,kf (nN d) (fun h=>pn h) f.h⟩
def ew(s:ByteArray):Except Flt bO:=if (fV s).2.1=0 then iK 30 (fV s).1 else wD (fV s).2
theorem l7{W:p7}{tmps:Array r3}{R:xv→p7→Prop}{r f:Nat}{a b x y:r3}(h:tmps.getD 2 tT=tv (A ⟨r,0,V⟩))(i:tmps.getD 3 tT=tv (A ⟨f,0,V⟩))
  (e:W.heap[r]?=A (p8 #[a,b] 26 (0,0))) (g:W.heap[f]?=A (p8 #[x,y] 29 (0,0))) (j:R (tF (wF #[s3 #[a,b],s3 #[x,y]])) W):bodyPost r6 Tryz.f5 R .ret ⟨tmps,[]⟩ W:=by
 have c0:W.cell? ⟨r,0,V⟩=A a:=by simp[xj,e]
 have c1:W.cell? ⟨r,1,V⟩=A b:=by simp[xj,e]
 have d0:W.cell? ⟨f,0,V⟩=A x:=by simp[xj,g]
 have d1:W.cell? ⟨f,1,V⟩=A y:=by simp[xj,g]
 have c:tmps[2]?.getD tT=tv (A ⟨r,0,V⟩):=by simpa using h
 have d:tmps[3]?.getD tT=tv (A ⟨f,0,V⟩):=by simpa using i
 refine bodyPost_ret (v:=wF #[s3 #[a,b],s3 #[x,y]]) ?_ Z j;simp[results,Tryz.results5,go_sem,c,d,c0,c1,d0,d1]
theorem qk(s:ByteArray)(w:p7)(ht:aM w):r9 r6 5 #[p9 s] w (kL 30 (ew s) w):=by
 obtain⟨w1,H⟩:=zzx ((w.alloc (p8 #[O V 0 0,O V 0 0] 26)).alloc (p8 #[I Y 0,I Y 0] 29));obtain⟨ak,aq,_⟩:=ay w (p8 #[O V 0 0,O V 0 0] 26) (p8 #[I Y 0,I Y 0] 29);have ar:FS w w1:=by rw[H];exact ((EU _ w).alloc (ET _) _).alloc (by simp) _
 rw[←H]at ak aq;obtain⟨bc,bd,bk,HP⟩:=zz4 ak aq ar (v6 s w1 (ht.C ar));have HT:=Hd (fun W (hW:FS w W)=>ht.C hW);clear ak aq ar
 go_enter Tryz.func5,Tryz.ntmps5
 go_upto_region 1 with fail
 change wB _ _ _ _ ((w.alloc (p8 #[O V 0 0,O V 0 0] 26)).alloc (p8 #[I Y 0,I Y 0] 29));rw[←H];clear H;go_wp2_with fail
 refine HP.o.mono ?_;rintro e W2 ⟨sl,rfl,K,h,t,f,_⟩;obtain⟨⟨T,er,pl⟩,av⟩:∃x,fV s=x:=⟨_,rfl⟩;rw[av]at h t f ⊢;have bl:=Hd av;obtain⟨p,c,bn⟩:=h.b;obtain⟨n,hn⟩:=zzy (T.u.length);have ca:sl=O p n c:=by rw[bn,←hn]
 subst ca;have z:aF W2 W2.heap.size 30 T.u (O p n c):=h.u (fun b L=>L.2);have bq:=Hd (bk.o.trans (K.mono bk.o.size));have h0:=ag K bc.o (ES.1 bc.o).1;have q:=ag K bd.o (ES.1 bd.o).1;obtain⟨a,M⟩:=zzx ((W2.alloc (p8 #[I J T.b,p9 T.h,I Y T.q,I Y T.t,O p n c] 64)).alloc (p8 #[I Y er,I Y pl] 29));obtain⟨a1,g,_⟩:=ay W2 (p8 #[I J T.b,p9 T.h,I Y T.q,I Y T.t,O p n c] 64) (p8 #[I Y er,I Y pl] 29);have k:FS W2 a:=by rw[M];exact ((EU _ W2).alloc (ET _) _).alloc (by simp) _
 rw[←M]at a1 g;obtain⟨B,N,a6⟩:=zz3 (bq.o.trans (k.mono bq.o.size)) (ag k h0 (ES.1 h0).1) (ag k q (ES.1 q).1);have br:Hid (w.heap.size+2≤W2.heap.size):=by
  have:=(ES.1 q).1
  show _≤_;omega
 obtain⟨HM,cb,P⟩:=zz3 (BP 30 T _ a ⟨t,_,Z,(z.C k).up k.size⟩ (f 30).slim (HT.o a B.o)) a1 g;clear av h t f bn hn z K h0 q k a1 g;go_upto_region 2 with fail
 change wB _ _ _ _ ((W2.alloc (p8 #[I J T.b,p9 T.h,I Y T.q,I Y T.t,O p n c] 64)).alloc (p8 #[I Y er,I Y pl] 29));rw[←M];clear M;obtain⟨n0,n1,n2,n3,n4⟩:=cells5 cb.o;have g0:a.cell? ⟨W2.heap.size+1,0,V⟩=A (I Y er):=by rw[FR _ _ _ _ _ _ P.o];rfl
 have g1:a.cell? ⟨W2.heap.size+1,1,V⟩=A (I Y pl):=by rw[FR _ _ _ _ _ _ P.o];rfl
 by_cases Q:er=0
 ·have S:Hid (ew s=iK 30 T):=by show _=_;unfold ew;rw[bl.o,oA Q]
  subst Q;go_wp2_with fail
  refine HM.o.mono ?_;rintro e r ⟨a7,he⟩;have C:=ag a7 N.o (ES.1 N.o).1;have D:=ag a7 a6.o (ES.1 a6.o).1;have ch:=Hd (B.o.trans (a7.mono B.o.size));have c0:r.cell? ⟨w.heap.size,0,V⟩=A (O V 0 0):=by rw[FR _ _ _ _ _ _ C];rfl
  have c1:r.cell? ⟨w.heap.size,1,V⟩=A (O V 0 0):=by rw[FR _ _ _ _ _ _ C];rfl
  have d0:r.cell? ⟨w.heap.size+1,0,V⟩=A (I Y 0):=by rw[FR _ _ _ _ _ _ D];rfl
  have d1:r.cell? ⟨w.heap.size+1,1,V⟩=A (I Y 0):=by rw[FR _ _ _ _ _ _ D];rfl
  have f1:=cH C;have f2:=cH D;obtain⟨ck,cl⟩:=zz2 C D;clear C D n0 n1 n2 n3 n4 g0 g1 HM;have fin:∀x y u v,FS w ((((r.setCell ⟨w.heap.size,0,V⟩ x).setCell ⟨w.heap.size,1,V⟩ y).setCell ⟨w.heap.size+1,0,V⟩ u).setCell ⟨w.heap.size+1,1,V⟩ v):=fun x y u v =>(((ch.o.setCell (p:=⟨w.heap.size,0,V⟩) (ET _) _).setCell (p:=⟨w.heap.size,1,V⟩) (ET _) _).setCell (p:=⟨w.heap.size+1,0,V⟩) (Fw _) _).setCell (p:=⟨w.heap.size+1,1,V⟩) (Fw _) _
  have U:=Hd fin;have bt:∀x y u v,_:=fun x y u v=>nH ck.o cl.o (show w.heap.size≠w.heap.size+1 by omega) x y u v
  have bB:=Hd bt;clear fin bt
  cases l:iK 30 T with
  | error er =>
   rw[l]at he;have he:e=tF (wF #[s3 #[O V 0 0,O V 0 0],s3 #[I Y er.1,I Y er.2]]):=he;subst he;have E:Hid (ew s=wD er):=S.o.trans l;clear l;go_wp2_with fail
   have hz:=bB.o (O V 0 0) (O V 0 0) (I Y er.1) (I Y er.2);refine l7 Z Z hz.1 hz.2 ⟨U.o _ _ _ _,?_⟩;rw[E.o]
  | ok R =>
   rw[l]at he;obtain⟨st,sr,rfl,a8,ba⟩:=he;have E:Hid (ew s=vb R):=S.o.trans l;obtain⟨pT,cT,bR⟩:=Rd.b a8.h;obtain⟨pR,cR,b1⟩:=Rd.b ba.h;obtain⟨nT,b2⟩:=zzy (R.a.length);obtain⟨nR,b3⟩:=zzy (R.b.length);rw[b2]at bR;rw[b3]at b1;subst bR;subst b1;obtain⟨cp,cq⟩:=zz2 a8 ba;have cr:=B.o.size;have b4:W2.heap.size+1<a.heap.size:=(ES.1 P.o).1;have b5:Hid (w.heap.size+2≤a.heap.size):=by have:=br.o;show _≤_;omega
   clear l a8 ba b2 b3 cr b4;go_wp2_with fail
   have hz:=bB.o (O pT nT cT) (O pR nR cR) (I Y 0) (I Y 0);refine l7 Z Z hz.1 hz.2 ⟨U.o _ _ _ _,?_⟩;rw[E.o];have ct:((((r.setCell ⟨w.heap.size,0,V⟩ (O pT nT cT)).setCell ⟨w.heap.size,1,V⟩ (O pR nR cR)).setCell ⟨w.heap.size+1,0,V⟩ (I Y 0)).setCell ⟨w.heap.size+1,1,V⟩ (I Y 0)).heap.size=r.heap.size:=by simp[xD]
   have m:∀b,aW a r b→∀o,r.heap[b]?=A o→((((r.setCell ⟨w.heap.size,0,V⟩ (O pT nT cT)).setCell ⟨w.heap.size,1,V⟩ (O pR nR cR)).setCell ⟨w.heap.size+1,0,V⟩ (I Y 0)).setCell ⟨w.heap.size+1,1,V⟩ (I Y 0)).heap[b]?=A o:=fun b L o ho=>by
    have q:=L.1;have X:=b5.o;rw[EW _ _ _ _ (show b≠w.heap.size+1 by omega),EW _ _ _ _ (show b≠w.heap.size+1 by omega),EW _ _ _ _ (show b≠w.heap.size by omega),EW _ _ _ _ (show b≠w.heap.size by omega)];exact ho
   have ad:∀b,aW a r b→aW w ((((r.setCell ⟨w.heap.size,0,V⟩ (O pT nT cT)).setCell ⟨w.heap.size,1,V⟩ (O pR nR cR)).setCell ⟨w.heap.size+1,0,V⟩ (I Y 0)).setCell ⟨w.heap.size+1,1,V⟩ (I Y 0)) b:=fun b L=>⟨by have:=L.1;have:=b5.o;omega,by rw[ct];exact L.2⟩
   exact⟨_,_,Z,Rd.th ad (Rd.sm m cp.o),Rd.th ad (Rd.sm m cq.o)⟩
 ·have S:Hid (ew s=wD (er,pl)):=by show _=_;unfold ew;rw[bl.o,ox Q]
  have cW:decide (er=0)=false:=oB Q;go_upto_region 3 with fail
  obtain⟨d,F⟩:=zzx (a.drew.setCells w.heap.size 0 [O V 0 0,O V 0 0]);have m:∀b,b≠w.heap.size→d.heap[b]?=a.heap[b]?:=fun b L=>by
   rw[F]
   show ((a.drew.setCell ⟨w.heap.size,0,V⟩ (O V 0 0)).setCell ⟨w.heap.size,1,V⟩ (O V 0 0)).heap[b]?=_
   rw[EW _ _ _ _ L,EW _ _ _ _ L];rfl
  have af:W2.heap.size+1≠w.heap.size:=by have:=br.o;omega
  have g:d.heap[W2.heap.size+1]?=A (p8 #[I Y er,I Y pl] 29 (0,0)):=(m _ af).trans P.o;have b6:d.heap[w.heap.size+1]?=A (p8 #[I Y 0,I Y 0] 29 (0,0)):=(m _ (by omega)).trans a6.o;have b7:d.heap[w.heap.size]?=A (p8 #[O V 0 0,O V 0 0] 26 (0,0)):=by
   rw[F];have q:(a.drew.setCell ⟨w.heap.size,0,V⟩ (O V 0 0)).heap[w.heap.size]?=A (p8 #[O V 0 0,O V 0 0] 26 (0,0)):=heap_set (show a.drew.heap[w.heap.size]?=_ from N.o) 0 _;have X:((a.drew.setCell ⟨w.heap.size,0,V⟩ (O V 0 0)).setCell ⟨w.heap.size,1,V⟩ (O V 0 0)).heap[w.heap.size]?=A (p8 #[O V 0 0,O V 0 0] 26 (0,0)):=heap_set q 1 _;exact X
  have b8:FS w d:=by
   rw[F];exact ((B.o.drew).setCell (p:=⟨w.heap.size,0,V⟩) (ET _) _).setCell (p:=⟨w.heap.size,1,V⟩) (ET _) _
  have G0:=fun x:RE.Two a.drew d=>RE.Two.b (p:=⟨W2.heap.size+1,0,V⟩) (show a.drew.cell? ⟨W2.heap.size+1,0,V⟩=_ from g0) (by rw[FR _ _ _ _ _ _ g];rfl) x
  have G1:=fun x:RE.Two a.drew d=>RE.Two.b (p:=⟨W2.heap.size+1,1,V⟩) (show a.drew.cell? ⟨W2.heap.size+1,1,V⟩=_ from g1) (by rw[FR _ _ _ _ _ _ g];rfl) x
  obtain⟨cu,bb,cv,cx⟩:=zz4 F b6 b7 b8;clear F m g b6 b7 b8 af n0 n1 n2 n3 n4 g0 g1;refine RE.t (by kernel_rfl) 3 [2] [2] (fun s W=>if s=0 then W=a.drew else W=d) (fun _ _=>True) (fun _ _=>tT) (fun _ _ _=>True) (by kernel_rfl) (fun i q X=>by rw[q]at X;cases X) (fun _ _ _ _ _ _ _=>trivial) Z ?_;simp only[Fg,Fu,Fh,Ft]
  repeat (refine RE.h (fun W=>∃x:RE.Two a.drew d,W=x.1) RE.y Z Z Z Z ?_;go_big_quiet_step (fail);refine vk ?_)
  refine RE.b Z Z ?_ (fun xs=>?_)
  ·intro W hC hS _;obtain rfl:W=a.drew:=hS Z;refine RE.upon_skip (w':=a.drew.setCells w.heap.size 0 [O V 0 0,O V 0 0]) ?_ ⟨[],Z,cu.o.symm,trivial,trivial⟩;refine RE.run_store_agg 26 (.tmp 2) (.tmp 14) Z w.heap.size 0 #[O V 0 0,O V 0 0] Z Z ?_ (by kernel_rfl) (by simp[Value.oneCell']);intro j hj;have hj:j<2:=hj;have hh:a.drew.heap[w.heap.size]?=_:=N.o;rw[FR _ _ _ _ _ _ hh,bM hh];have:j=0∨j=1:=by omega
   rcases this with rfl|rfl<;>exact⟨Z,Z⟩
  simp only[Act.put];refine RE.q ?_;intro W hS _;have hS:W=d:=hS;rw[hS];clear hS G0 G1;refine wpList_store_mid Z 29 (.tmp 3) (.tmp 15) Z (w.heap.size+1) 0 #[I Y er,I Y pl] Z Z ?_ (by kernel_rfl) (by simp[Value.oneCell']) ?_
  ·intro j hj;have hj:j<2:=hj;rw[FR _ _ _ _ _ _ bb.o,bM bb.o];have:j=0∨j=1:=by omega
   rcases this with rfl|rfl<;>exact⟨Z,Z⟩
  have G:((d.setCell ⟨w.heap.size+1,0,V⟩ (I Y er)).setCell ⟨w.heap.size+1,1,V⟩ (I Y pl)).heap[w.heap.size]?=A (p8 #[O V 0 0,O V 0 0] 26 (0,0)):=by
   rw[EW _ _ _ _ (show w.heap.size≠w.heap.size+1 by omega),EW _ _ _ _ (show w.heap.size≠w.heap.size+1 by omega)];exact cv.o
  have q:(d.setCell ⟨w.heap.size+1,0,V⟩ (I Y er)).heap[w.heap.size+1]?=A (p8 #[I Y er,I Y 0] 29 (0,0)):=heap_set bb.o 0 _;have X:((d.setCell ⟨w.heap.size+1,0,V⟩ (I Y er)).setCell ⟨w.heap.size+1,1,V⟩ (I Y pl)).heap[w.heap.size+1]?=A (p8 #[I Y er,I Y pl] 29 (0,0)):=heap_set q 1 _;have b9:FS w ((d.setCell ⟨w.heap.size+1,0,V⟩ (I Y er)).setCell ⟨w.heap.size+1,1,V⟩ (I Y pl)):=(cx.o.setCell (p:=⟨w.heap.size+1,0,V⟩) (Fw _) _).setCell (p:=⟨w.heap.size+1,1,V⟩) (Fw _) _;obtain⟨HL,H2,cV⟩:=zz3 G X b9;clear G q X b9;change wpList _ _ _ _ _ ((d.setCell ⟨w.heap.size+1,0,V⟩ (I Y er)).setCell ⟨w.heap.size+1,1,V⟩ (I Y pl));go_wp2_with fail
  refine l7 Z Z HL.o H2.o ⟨cV.o,?_⟩;rw[S.o]
theorem qq(s:ByteArray)(w:p7)(a:aM w):r9 r6 5 #[p9 s] w (tV 30 (ew s) w):=(qk s w a).mono fun _ _ h=>DR h
