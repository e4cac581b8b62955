/- Parts of one proof, joined; conditions stand in each theorem. -/
import Derived.Test.YtkhfjgjjhlnnnaaGreatDoorYNN
import Derived.Test.YtkhfjgjjhlnnnaaGreatDoorYNA
import Derived.Test.YtkhfjgjjhlnnnaaGreatDoorYMD
import Derived.Test.YtkhfjgjjhlnnnaaGreatDoorYMM
import Derived.Defers
import Derived.Recover
import Derived.Test.YtkhfjgjjhlnnnaaGreatDoorYMJ
import Derived.Test.YtkhfjgjjhlnnnaaGreatDoorYMZK
open Go renaming World→wD,Value→wF,undef→At,wpQuiet_nil→Bk,Ending→CI,Calls→xL
open Option renaming some→Y,none→U
open Go.Obj renaming cells→wq
open Go.Proofs.Tryz renaming prog→xD
open Go.Value renaming pointer→xV,agg→xS,int→I,tuple→CA,slice→A,string→J
open Go.IntKind renaming i64→Z,u8→O
open Go.Ending renaming returned→z8
open Go.Code renaming wp→AR
open Except renaming error→BT,ok→AF
open Go.World renaming cell?→CR,setCell→CK
namespace Go.Proofs.YtkhfjgjjhlnnnaaGreatDoor
set_option maxHeartbeats 16000000
set_option maxRecDepth 100000
open Go.RowKit
theorem ao.lift{w:wD}{B d d':Nat}{a:List ab}{b:wF}(h:ao w B d a b)(c:d≤d'):ao w B d' a b:=by
 induction c with
 | refl=>exact h
 | step _ e=>exact e.more
theorem qD{w:wD}{B:Nat}:∀{d:Nat} {T:ab} {a:wF},ao w B d T.u a→fC d T:=by
 intro d
 induction d with
 | zero=>intro T a h;exact h.1
 | succ d f =>
  intro T a h k c;rcases h with ⟨g,_⟩|⟨b,off,cap,_,_,_,_,_,j⟩
  ·rw[g]at c;simp at c
  ·obtain⟨i,l⟩:=List.getElem?_of_mem c;obtain⟨_,s,_,_,_,_,_,e⟩:=j i k l;exact f e
theorem pD:∀{d:Nat} {T:ab},gx d T→dh d T
 | 0,_,h=>h
 | _d+1,_,h=>⟨h.1,h.2.1,fun k a=>pD (h.2.2 k a)⟩
theorem dh.more:∀{d:Nat} {T:ab},fC d T→dh d T→dh (d+1) T
 | 0,T,he,h=>⟨h,by rw[show T.u=[] from he];exact Fa _,fun k a=>by rw[show T.u=[] from he]at a;simp at a⟩
 | d+1,T,he,h=>⟨h.1,h.2.1,fun k a=>dh.more (he k a) (h.2.2 k a)⟩
theorem qk{d d':Nat}{T:ab}(he:fC d T)(a:d≤d'):fC d' T:=by
 induction a with
 | refl=>exact he
 | step _ b=>exact b.more
theorem dh.lift{d d':Nat}{T:ab}(he:fC d T)(h:dh d T)(a:d≤d'):dh d' T:=by
 induction a with
 | refl=>exact h
 | step hm b=>exact dh.more (qk he hm) b
theorem jq:∀(l:List Nat) (c:Nat),l.foldl (· + ·) c=c+l.foldl (· + ·) 0
 | [],c=>rfl
 | x::l,c=>by
  rw[List.foldl_cons,List.foldl_cons,jq l (c+x),jq l (0+x)];omega
theorem AY:∀(d:Nat) (T:ab),1≤aM d T
 | 0,_=>EO _
 | d+1,T=>by
  show 1≤(T.u.map (aM d)).foldl (· + ·) 1
  rw[jq];omega
theorem ug(f:ab→Nat)(b:∀T,1≤f T):∀(l:List ab),l.length≤(l.map f).foldl (· + ·) 0∧∀k∈l,f k≤(l.map f).foldl (· + ·) 0
 | []=>⟨EO _,fun k a=>by simp at a⟩
 | z::l=>by
  obtain⟨d,c⟩:=ug f b l;rw[List.map_cons,List.foldl_cons,jq];refine⟨by have:=b z;simp only[Fv];omega,fun k a=>?_⟩;rcases FA.1 a with rfl|a
  ·omega
  ·have:=c k a;omega
theorem lB{d:Nat}{T:ab}:T.u.length<aM (d+1) T∧∀k∈T.u,aM d k<aM (d+1) T:=by
 obtain⟨c,a⟩:=ug (aM d) (AY d) T.u;have e:aM (d+1) T=(T.u.map (aM d)).foldl (· + ·) 1:=rfl;rw[e,jq];exact⟨by omega,fun k b=>by have:=a k b;omega⟩
theorem ut:∀{d:Nat} {T:ab},fC d T→aM d T≤4096→T.u.length≤4096
 | 0,T,he,_=>by rw[show T.u=[] from he];exact Fa _
 | d+1,T,_,h=>by have:=(lB (d:=d) (T:=T)).1;omega
theorem Du{D d:Nat}{K:ab}(l:d≤D+1)(he:fC d K)(i:okF d K=true)(hm:aM d K≤4096)(e:dh d K):lQ D K:=by
 have j:=AB i;obtain⟨_,a,c⟩:=yJ j;have kid:∀k∈K.u,dh D k∧k.f.size≤72007:=fun k a=>by
  cases d with
  | zero=>rw[show K.u=[] from he]at a;simp at a
  | succ d=>exact⟨dh.lift (he k a) (e.2.2 k a) (by omega),(e.2.2 k a).f⟩
 refine⟨?_,by have:=ut he hm;omega,fun h=>?_,fun h=>?_,fun h k b=>(kid k b).1⟩
 ·unfold bL at c;unfold I64
  split at c
  ·simp only[Ff,r7]at c;omega
  ·split at c
   ·simp only[Ff,r7]at c;omega
   ·have:K.h=0:=by simpa using c
    omega
 ·intro k b;have f:bG [12,13,14,15] K.u=true:=by
   unfold bv at a;rcases h with h|h<;>rw[h]at a<;>exact a
  have:=Fx.1 f k b;refine⟨?_,(kid k b).2⟩
  simpa using this
 ·have f:(K.u.length==1&&cI K.u)=true:=by
   unfold bv at a;rw[h]at a;exact a
  simp only[Ff,tk]at f
  cases g:K.u with
  | nil=>rw[g]at f;simp at f
  | cons t r=>exact⟨t,r,V,(kid t (by rw[g];simp)).1⟩
structure EC (D:Nat) (T:ab):Prop where
 few:T.u.length≤4096
 kid:∀k∈T.u,k.u.length≤4096∧(k.b=4→∀K∈k.u,lQ D K)
theorem xp{D:Nat}{T:ab}(he:fC D T)(g:okF D T=true)(hm:aM D T≤4096)(h:gx D T):EC D T:=by
 have i:=pD h
 cases D with
 | zero=>exact⟨by rw[show T.u=[] from he];exact Fa _,fun k a=>by rw[show T.u=[] from he]at a;simp at a⟩
 | succ d =>
  have m:=(lB (d:=d) (T:=T)).1;refine⟨by omega,fun k a=>?_⟩;have j:=(lB (d:=d) (T:=T)).2 k a;have b:=he k a;have e:okF d k=true:=by
   have:(aI T&&T.u.all (okF d))=true:=g;simp only[Ff]at this;exact Fx.1 this.2 k a
  refine⟨ut b (by omega),fun n K c=>?_⟩
  cases d with
  | zero=>rw[show k.u=[] from b]at c;simp at c
  | succ d =>
   have l:=(lB (d:=d) (T:=k)).2 K c;have f:okF d K=true:=by
    have:(aI k&&k.u.all (okF d))=true:=e;simp only[Ff]at this;exact Fx.1 this.2 K c
   exact Du (by omega) (b K c) f (by omega) (((i.2.2 k a)).2.2 K c)
theorem vQ(r f:Nat)(er pl:Int)(a:List PanicEntry)(a0 a1 H D:wF)(w:wD)(K:w.heap[r]?=Y (wq #[a0,a1] 32 (0,0)))(L:w.heap[f]?=Y (wq #[H,D] 35 (0,0)))(g:r≠f) :
  CallsD xD 21 #[xV (Y ⟨r,0,U⟩),xV (Y ⟨f,0,U⟩)] (.panicking ({ v:=.iface 35 (xS #[I Z er,I Z pl]),recovered:=false }::a)) w fun e M w' =>
   e=z8 (CA #[])∧M=.panicking ({ v:=.iface 35 (xS #[I Z er,I Z pl]),recovered:=true }::a)∧
   Chg (fun b=>b=r∨b=f) w w'∧w'.heap[r]?=Y (wq #[A U 0 0,A U 0 0] 32 (0,0))∧w'.heap[f]?=Y (wq #[I Z er,I Z pl] 35 (0,0)):=by
 refine callsD_of_wpS Tryz.func21 V fun n cs hu=>?_
 apply wpS_seq;apply wpS_region;simp[wpOpsS,go_sem,recoverD,hu,Tryz.ntmps21,Exit.thenS];apply wpS_seq;apply wpS_region;simp[wpOpsS,go_sem,Exit.thenS];refine wpS_cond (t:=true) (by simp[Act.eval,Array.replicate]) ?_;simp only[sx];refine wpS_of_wp ?_;change AR _ _ _ ⟨#[xV (Y ⟨r,0,U⟩),xV (Y ⟨f,0,U⟩),.iface 35 (xS #[I Z er,I Z pl]),.iface 35 (xS #[I Z er,I Z pl]),.iface 35 (xS #[I Z er,I Z pl]),Value.bool true,At,At,At],[]⟩ w;refine RE.u (by kernel_rfl) 4 [2,3] [3] (fun s W=>if s=0 then FK w W else Chg (fun b=>b=r) w W∧W.heap[r]?=Y (wq #[A U 0 0,A U 0 0] 32 (0,0))) (fun _ _=>True) (fun i _=>if i=2 then xS #[I Z er,I Z pl] else At) (fun _ _ _=>True) (by kernel_rfl) ?_ (fun _ _ _ _ _ _ _=>trivial) (EP _ _).drew ?_
 ·intro i z B s W W' h q
  split at h
  ·rw[rv (by assumption)];exact h.trans (q.mono h.size)
  ·rw[qv (by assumption)];exact⟨h.1.b (Chg.f q),aa q h.2 (EN.1 h.2).1⟩
 simp only[EY,Fi,EZ,Fh];have E:∀(m s:Nat) (W:wD),s≤m→(if s=0 then FK w W else Chg (fun b=>b=r) w W∧W.heap[r]?=Y (wq #[A U 0 0,A U 0 0] 32 (0,0)))→∃x:Ks w (fun _=>False),W=x.1:=fun _ _ W _ _=>⟨⟨W,fun _ h=>h.elim⟩,V⟩
 repeat (refine RE.b (fun W=>∃x:Ks w (fun _=>False),W=x.1) (E _) V V V (EP _ _).drew ?_;go_big_quiet_step (fail);refine Bk ?_)
 refine RE.f V V ?_ (fun ys=>?_)
 ·intro W C _ _;refine RE.upon_run (v:=xS #[I Z er,I Z pl]) (w':=W) ?_ ⟨[],V,EP _ _,trivial,trivial⟩;have G:(Instr.typeAssert (.iface 35 (xS #[I Z er,I Z pl])) 20 35 false).run xD W=.ok (xS #[I Z er,I Z pl]) W:=by kernel_rfl
  simp[execOp,Act.eval,G]
 simp only[Act.put,EQ,EW,EV,Nat.reduceAdd,↓reduceIte];refine RE.f V V ?_ (fun ys=>?_)
 ·intro W C l _;have l:FK w W:=l V;have c:=aa l K (EN.1 K).1;refine RE.C (w':=W.setCells r 0 [A U 0 0,A U 0 0]) ?_ ⟨[],V,?_,trivial,trivial⟩
  ·refine RE.K 32 (.tmp 0) (.tmp 6) V r 0 #[A U 0 0,A U 0 0] V V ?_ (by kernel_rfl) (by simp[Value.oneCell']);intro j u;have u:j<2:=u;rw[FI _ _ _ _ _ _ c,bK c];have:j=0∨j=1:=by omega
   rcases this with rfl|rfl<;>exact⟨V,V⟩
  ·refine⟨?_,?_⟩
   ·exact Chg.y (F:=fun b=>b=r) (Chg.y (F:=fun b=>b=r) (Chg.f l) (p:=⟨r,0,U⟩) (Or.inl V) _) (p:=⟨r,1,U⟩) (Or.inl V) _
   ·have z:(W.setCell ⟨r,0,U⟩ (A U 0 0)).heap[r]?=Y (wq #[A U 0 0,a1] 32 (0,0)):=heap_set c 0 _;have B:((W.setCell ⟨r,0,U⟩ (A U 0 0)).setCell ⟨r,1,U⟩ (A U 0 0)).heap[r]?=Y (wq #[A U 0 0,A U 0 0] 32 (0,0)):=heap_set z 1 _;exact B
 simp only[Act.put,Nat.reduceAdd];refine RE.h ?_;intro W l _;obtain⟨C,c⟩:Chg (fun b=>b=r) w W∧W.heap[r]?=Y (wq #[A U 0 0,A U 0 0] 32 (0,0)):=l;have k:W.heap[f]?=Y (wq #[H,D] 35 (0,0)):=(C.u f (EN.1 L).1 (fun e=>g e.symm)).trans L;refine wpList_store_mid V 35 (.tmp 1) (.tmp 8) V f 0 #[I Z er,I Z pl] V V ?_ (by kernel_rfl) (by simp[Value.oneCell']) ?_
 ·intro j u;have u:j<2:=u;rw[FI _ _ _ _ _ _ k,bK k];have:j=0∨j=1:=by omega
  rcases this with rfl|rfl<;>exact⟨V,V⟩
 have d:Chg (fun b=>b=r∨b=f) w (W.setCells f 0 [I Z er,I Z pl])∧(W.setCells f 0 [I Z er,I Z pl]).heap[r]?=Y (wq #[A U 0 0,A U 0 0] 32 (0,0))∧(W.setCells f 0 [I Z er,I Z pl]).heap[f]?=Y (wq #[I Z er,I Z pl] 35 (0,0)):=by
  refine⟨Chg.y (F:=fun b=>b=r∨b=f) (Chg.y (F:=fun b=>b=r∨b=f) (Chg.N C (fun b q=>Or.inl q)) (p:=⟨f,0,U⟩) (Or.inl (Or.inr V)) _) (p:=⟨f,1,U⟩) (Or.inl (Or.inr V)) _,?_,?_⟩
  ·show ((W.setCell ⟨f,0,U⟩ (I Z er)).setCell ⟨f,1,U⟩ (I Z pl)).heap[r]?=_
   rw[ER _ _ _ _ g,ER _ _ _ _ g];exact c
  ·have z:(W.setCell ⟨f,0,U⟩ (I Z er)).heap[f]?=Y (wq #[I Z er,D] 35 (0,0)):=heap_set k 0 _;have B:((W.setCell ⟨f,0,U⟩ (I Z er)).setCell ⟨f,1,U⟩ (I Z pl)).heap[f]?=Y (wq #[I Z er,I Z pl] 35 (0,0)):=heap_set z 1 _;exact B
 have y:=Hd d;clear d
 cases n
 simp_all [wpList,bodyPostS,results,Tryz.results21]
 exact⟨V,y.o⟩
theorem catch_idle(r f:Nat)(w:wD) :
  CallsD xD 21 #[xV (Y ⟨r,0,U⟩),xV (Y ⟨f,0,U⟩)] .returning w fun e b w'=>e=z8 (CA #[])∧b=.returning∧w'=w:=by
 refine callsD_of_wpS Tryz.func21 V fun a cs hu=>?_
 apply wpS_seq;apply wpS_region;simp[wpOpsS,go_sem,recoverD,hu,Tryz.ntmps21,Exit.thenS];apply wpS_seq;apply wpS_region;simp[wpOpsS,go_sem,Exit.thenS];refine wpS_cond (t:=false) (by simp[Act.eval,Array.replicate]) ?_;simp only[Fo,sm];refine wpS_of_wp (wp_skip ?_)
 cases a
 simp_all [bodyPostS,results,Tryz.results21]
def eP(d:Nat) (T:ab):Except Flt eL:=if fQ d T then kH d T else BT (4,0)
def jH(d:Nat) (r:Except Flt eL) (w:wD) (e:CI) (w':wD):Prop:=FK w w'∧match r with
 | .ok R=>∃st a,e=z8 (CA #[xS #[st,a],xS #[I Z 0,I Z 0]])∧bV.K w' (ai w w') R.a st∧(bX d).K w' (ai w w') R.b a
 | .error er=>e=z8 (CA #[xS #[A U 0 0,A U 0 0],xS #[I Z er.1,I Z er.2]])
theorem qq(w:wD)(a b c:Obj):((((w.alloc a).alloc b).alloc c).heap[w.heap.size]?=Y a)∧((((w.alloc a).alloc b).alloc c).heap[w.heap.size+1]?=Y b)∧((((w.alloc a).alloc b).alloc c).heap[w.heap.size+2]?=Y c):=by
 obtain⟨e,f,_⟩:=ap w a b;have d:Below ((w.alloc a).alloc b).heap.size ((w.alloc a).alloc b) (((w.alloc a).alloc b).alloc c):=(EP _ _).alloc (EO _) _;have g:((w.alloc a).alloc b).heap.size=w.heap.size+2:=by simp
 refine⟨aa d e (by omega),aa d f (by omega),?_⟩;have:=p9 ((w.alloc a).alloc b) c;rw[g]at this;exact this
theorem kj{W:wD}{r f:Nat}{a0 a1 c b:wF}(d:W.heap[r]?=Y (wq #[a0,a1] 32 (0,0)))(e:W.heap[f]?=Y (wq #[c,b] 35 (0,0)))(a:r≠f)(x y u v:wF) :
  ((((W.setCell ⟨r,0,U⟩ x).setCell ⟨r,1,U⟩ y).setCell ⟨f,0,U⟩ u).setCell ⟨f,1,U⟩ v).heap[r]?=Y (wq #[x,y] 32 (0,0))∧((((W.setCell ⟨r,0,U⟩ x).setCell ⟨r,1,U⟩ y).setCell ⟨f,0,U⟩ u).setCell ⟨f,1,U⟩ v).heap[f]?=Y (wq #[u,v] 35 (0,0)):=by
 have g:(W.setCell ⟨r,0,U⟩ x).heap[r]?=Y (wq #[x,a1] 32 (0,0)):=heap_set d 0 _;have h:((W.setCell ⟨r,0,U⟩ x).setCell ⟨r,1,U⟩ y).heap[r]?=Y (wq #[x,y] 32 (0,0)):=heap_set g 1 _;have g0:((W.setCell ⟨r,0,U⟩ x).setCell ⟨r,1,U⟩ y).heap[f]?=Y (wq #[c,b] 35 (0,0)):=by rw[ER _ _ _ _ a.symm,ER _ _ _ _ a.symm];exact e
 have g1:(((W.setCell ⟨r,0,U⟩ x).setCell ⟨r,1,U⟩ y).setCell ⟨f,0,U⟩ u).heap[f]?=Y (wq #[u,b] 35 (0,0)):=heap_set g0 0 _;have g2:((((W.setCell ⟨r,0,U⟩ x).setCell ⟨r,1,U⟩ y).setCell ⟨f,0,U⟩ u).setCell ⟨f,1,U⟩ v).heap[f]?=Y (wq #[u,v] 35 (0,0)):=heap_set g1 1 _;refine⟨?_,g2⟩;rw[ER _ _ _ _ a,ER _ _ _ _ a];exact h
theorem lK{W:wD}{R:CI→wD→Prop}{tmps:Array wF}{r f:Nat}{a b x y:wF}(h:tmps.getD 2 At=xV (Y ⟨r,0,U⟩))(i:tmps.getD 3 At=xV (Y ⟨f,0,U⟩))
  (e:W.heap[r]?=Y (wq #[a,b] 32 (0,0))) (g:W.heap[f]?=Y (wq #[x,y] 35 (0,0))) (j:R (z8 (CA #[xS #[a,b],xS #[x,y]])) W):Leaves xD Tryz.f9 tmps R [] .returning W:=by
 have k:W.cell? ⟨r,0,U⟩=Y a:=by simp[CR,e]
 have l:W.cell? ⟨r,1,U⟩=Y b:=by simp[CR,e]
 have d0:W.cell? ⟨f,0,U⟩=Y x:=by simp[CR,g]
 have d1:W.cell? ⟨f,1,U⟩=Y y:=by simp[CR,g]
 have c:tmps[2]?.getD At=xV (Y ⟨r,0,U⟩):=by simpa using h
 have d:tmps[3]?.getD At=xV (Y ⟨f,0,U⟩):=by simpa using i
 refine⟨CA #[xS #[a,b],xS #[x,y]],?_,j⟩;simp[results,Tryz.results9,go_sem,c,d,k,l,d0,d1]
theorem zk{W w:wD}{R:CI→wD→Prop}{tmps:Array wF}{a b x y:wF}(c:tmps.getD 2 At=xV (Y ⟨w.heap.size+1,0,U⟩))(d:tmps.getD 3 At=xV (Y ⟨w.heap.size+1+1,0,U⟩))
  (g:W.heap[w.heap.size+1]?=Y (wq #[a,b] 32 (0,0))) (h:W.heap[w.heap.size+1+1]?=Y (wq #[x,y] 35 (0,0))) (i:R (z8 (CA #[xS #[a,b],xS #[x,y]])) W) :
  Leaves xD Tryz.f9 tmps R [{ target:=Target.fn (Fn.func 21) #[xV (Y ⟨w.heap.size+1,0,U⟩),xV (Y ⟨w.heap.size+1+1,0,U⟩)],args:=#[] }] .returning W:=by
 refine leaves_cons (f:=21) (args:=#[xV (Y ⟨w.heap.size+1,0,U⟩),xV (Y ⟨w.heap.size+1+1,0,U⟩)]) (by simp) (by simp[go_sem]) ?_;refine (catch_idle (w.heap.size+1) (w.heap.size+1+1) W).mono ?_;rintro e k j ⟨rfl,rfl,rfl⟩;exact lK c d g h i
theorem qw{d:Nat}{T:ab}{W w:wD}{tmps:Array wF}{a b x y:wF}{er:Flt}(i:tmps.getD 2 At=xV (Y ⟨w.heap.size+1,0,U⟩))(j:tmps.getD 3 At=xV (Y ⟨w.heap.size+1+1,0,U⟩))(c:FK w W)
  (k:W.heap[w.heap.size+1]?=Y (wq #[a,b] 32 (0,0))) (l:W.heap[w.heap.size+1+1]?=Y (wq #[x,y] 35 (0,0))) (hm:eP d T=BT er) :
  Leaves xD Tryz.f9 tmps (jH d (eP d T) w) [{ target:=Target.fn (Fn.func 21) #[xV (Y ⟨w.heap.size+1,0,U⟩),xV (Y ⟨w.heap.size+1+1,0,U⟩)],args:=#[] }] (.panicking [{ v:=.iface 35 (xS #[I Z er.1,I Z er.2]),recovered:=false }]) W:=by
 refine leaves_cons (f:=21) (args:=#[xV (Y ⟨w.heap.size+1,0,U⟩),xV (Y ⟨w.heap.size+1+1,0,U⟩)]) (by simp) (by simp[go_sem]) ?_;refine (vQ (w.heap.size+1) (w.heap.size+1+1) er.1 er.2 [] a b x y W k l (by omega)).mono ?_;rintro e o m ⟨rfl,rfl,n,g,h⟩;refine lK i j g h ⟨Chg.C c n (fun b c=>by rcases c with rfl|rfl<;>omega) c.size,?_⟩
 rw[hm]
def yc(d M:Nat) (T:ab) (n:Nat) (W2:wD) (i:wF) (W:wD):Prop:=
 ∃(j:Nat) (ts:List ae) (vT:wF),j≤n∧i=I Z (j:Int)∧aG dk [] (T.u.take j)=AF ts∧ts.length≤j∧MkB (fun _=>False) d M ts [] vT (A U 0 0) W∧(∀g,vT.ownBlock=Y g→M≤g)∧Below M W2 W
def yG(d M:Nat) (T:ab) (n:Nat) (ts:List ae) (vT:wF) (W2:wD) (i:wF) (W:wD):Prop:=
 ∃(j:Nat) (rs:List an) (F:Nat→Prop) (vR:wF),j≤n∧i=I Z (j:Int)∧aG (cG d ts) [] (T.u.take j)=AF rs∧rs.length≤j∧MkB F d M ts rs vT vR W∧(∀g,vR.ownBlock=Y g→M≤g)∧(∀b,F b→M≤b)∧Below M W2 W
theorem Am{ts a:List ae}{K:ab}(h:fD ts K=AF a):a.length=ts.length+1:=by
 unfold fD at h
 split at h
 ·cases h
 ·split at h
  ·cases h
  ·split at h
   ·cases h
   ·injection h with h;rw[←h];simp
theorem AK{d:Nat}{ts:List ae}{rs a:List an}{K:ab}(h:eJ d ts rs K=AF a):a.length=rs.length+1:=by
 unfold eJ at h
 split at h
 ·cases h
 ·split at h
  ·cases h
  ·split at h
   ·cases h
   ·split at h
    ·cases h
    ·injection h with h;rw[←h];simp
theorem tQ(d:Nat)(T:ab)(v:wF)(w:wD)(hv:dH w w.heap.size d T v)(cc:gx d T)(ht:aR w) :
  xL xD 9 #[v] w (jH d (eP d T) w):=by
 have fI:∀(fn:Fn) (first cap:Array wF) (w:wD),(Instr.makeFunc fn first cap).run xD w=.ok (Value.func fn first cap) w:=fun _ _ _ _=>rfl
 have HV:=Hd hv;obtain⟨u,s,rfl,ak⟩:=hv;obtain⟨p,c,hs⟩:=ak.f;obtain⟨n,hn⟩:=zzy (T.u.length);rw[hn]at hs;subst hs;obtain⟨w1,b4⟩:=zzx (((w.alloc (wq #[I O T.b,J T.f,I Z T.h,I Z T.y,A p n c] 25)).alloc (wq #[A U 0 0,A U 0 0] 32)).alloc (wq #[I Z 0,I Z 0] 35));obtain⟨b5,ch,ck⟩:=qq w (wq #[I O T.b,J T.f,I Z T.h,I Z T.y,A p n c] 25) (wq #[A U 0 0,A U 0 0] 32) (wq #[I Z 0,I Z 0] 35);have bl:FK w w1:=by rw[b4];exact (((EP _ w).alloc (EO _) _).alloc (by simp) _).alloc (by simp;omega) _
 rw[←b4]at b5 ch ck;obtain⟨cC,cV,cW,c5,av,HN,c6⟩:=zz7 b5 ch ck bl ak hn (mM d T _ w.heap.size w1 ⟨u,_,V,ak.z bl⟩ bl.size cc (ht.z bl));have eg:=Hd cc;obtain⟨e0,e1,e2,e3,e4⟩:=cells5 b5;clear b5 ch ck bl ak hn u cc
 go_enter_defers Tryz.func9,Tryz.ntmps9
 go_upto_region 1 with fail
 change AR _ _ _ _ (((w.alloc (wq #[I O T.b,J T.f,I Z T.h,I Z T.y,A p n c] 25)).alloc (wq #[A U 0 0,A U 0 0] 32)).alloc (wq #[I Z 0,I Z 0] 35));rw[←b4];clear b4;go_wp2_with fail
 refine c6.o.mono ?_;rintro e W2 ⟨rfl,bn⟩;have bq:=Hd (c5.o.trans (bn.mono c5.o.size));have cl:=aa bn cC.o (EN.1 cC.o).1;have c7:=aa bn cV.o (EN.1 cV.o).1;have cq:=aa bn cW.o (EN.1 cW.o).1;obtain⟨ek,a1,a6⟩:=zz3 cl c7 cq;clear bn c6 e0 e1 e2 e3 e4
 cases hr:fQ d T with
 | false =>
  have HM:Hid (eP d T=BT (4,0)):=by show _=_;unfold eP;rw[hr];rfl
  clear hr;have c0:W2.cell? ⟨w.heap.size+1,0,U⟩=Y (A U 0 0):=by rw[FI _ _ _ _ _ _ a1.o];rfl
  have c1:W2.cell? ⟨w.heap.size+1,1,U⟩=Y (A U 0 0):=by rw[FI _ _ _ _ _ _ a1.o];rfl
  have d0:W2.cell? ⟨w.heap.size+1+1,0,U⟩=Y (I Z 0):=by rw[FI _ _ _ _ _ _ a6.o];rfl
  have d1:W2.cell? ⟨w.heap.size+1+1,1,U⟩=Y (I Z 0):=by rw[FI _ _ _ _ _ _ a6.o];rfl
  have f1:=aE a1.o;have f2:∀i,W2.frozen? ⟨w.heap.size+1+1,i,U⟩=false:=aE a6.o;obtain⟨X,ad⟩:=zzx ((((W2.setCell ⟨w.heap.size+1,0,U⟩ (A U 0 0)).setCell ⟨w.heap.size+1,1,U⟩ (A U 0 0)).setCell ⟨w.heap.size+1+1,0,U⟩ (I Z 4)).setCell ⟨w.heap.size+1+1,1,U⟩ (I Z 0));have HZ:=Hd (kj a1.o a6.o (show w.heap.size+1≠w.heap.size+2 by omega) (A U 0 0) (A U 0 0) (I Z 4) (I Z 0));have cr:Hid (FK w X):=by show Below _ _ _;rw[ad];exact (((bq.o.setCell (p:=⟨w.heap.size+1,0,U⟩) (Fl _) _).setCell (p:=⟨w.heap.size+1,1,U⟩) (Fl _) _).setCell (p:=⟨w.heap.size+1+1,0,U⟩) (EU (Fl _) (Fl _)) _).setCell (p:=⟨w.heap.size+1+1,1,U⟩) (EU (Fl _) (Fl _)) _
  rw[←ad]at HZ;go_wp2_with fail
  rw[←ad];refine lK V V HZ.o.1 HZ.o.2 ⟨cr.o,?_⟩;rw[HM.o]
 | true =>
  have b6:(T.b==1&&okF d T&&decide (bS d T≤30)&&decide (aM d T≤4096))=true:=hr;simp only[Ff,r7]at b6;have b7:=Hd (xp (qD av.o) b6.1.1.2 b6.2 eg.o);have HM:Hid (eP d T=kH d T):=by show _=_;unfold eP;rw[hr];rfl
  have fv:n≤4096:=by rw[←HN.o];exact b7.o.few
  clear hr b6;obtain⟨M,hM⟩:=zzx (W2.heap.size);obtain⟨w4,b8⟩:=zzx (W2.alloc (wq #[A U 0 0,A U 0 0,A U 0 0,J ⟨#[]⟩,I Z 0,I Z 0,A U 0 0,A U 0 0] 79));have c8:w4.heap[M]?=Y (wq #[A U 0 0,A U 0 0,A U 0 0,J ⟨#[]⟩,I Z 0,I Z 0,A U 0 0,A U 0 0] 79 (0,0)):=by rw[b8,hM];exact p9 W2 _
  have m:Hid (w.heap.size+3≤M):=by
   have:=(EN.1 cq).1
   show _≤_
   rw[hM];omega
  have c9:Hid (Below M W2 w4):=by show Below _ _ _;rw[b8,hM];exact (EP _ W2).alloc (EO _) _
  have el:Hid (MkB (fun _=>False) d M [] [] (A U 0 0) (A U 0 0) w4):=⟨fun _ h=>h.elim,⟨_,_,_,_,_,_,c8⟩,aH.nil,aH.nil⟩;have en:Hid (M=W2.heap.size):=hM;obtain⟨e0,e1,e2,e3,e4⟩:=cells5 (aa c9.o cl (by have:=m.o;omega));clear cl c7 cq c8;go_upto_region 5 with fail
  rw[←hM];change AR _ _ _ _ (W2.alloc (wq #[A U 0 0,A U 0 0,A U 0 0,J ⟨#[]⟩,I Z 0,I Z 0,A U 0 0,A U 0 0] 79));rw[←b8];clear b8 hM;go_wp2_with fail
  go_loopw [20] (yc d M T n W2) (fun i _=>n-(intOf i).toNat)
  case atStart=>exact⟨0,[],A U 0 0,Fa _,V,V,EO _,el.o,(fun g hg=>by cases hg),c9.o⟩
  case round =>
   obtain⟨j,ts,vT,hj,rfl,G,hlen,ba,da,bb⟩:=hrel;have dc:(0:Int)≤j:=by omega
   obtain⟨bk,x,br,Q⟩:=zz4 G ba da bb;have H:Hid (FK w wr):=bq.o.trans (bb.mono (by have:=m.o;omega));have R:Hid (M≤wr.heap.size):=Fu ba.lt;clear G ba da bb e0 e1 e2 e3 e4
   by_cases b9:j<n
   ·have eo:(j:Int)<n:=by omega
    obtain⟨K,hK⟩:∃K,T.u[j]?=Y K:=⟨_,ES (by rw[HN.o];exact b9)⟩;have al:=Fj hK;have ak:=(av.o.z H.o).lift (Fl d);rcases ak with ⟨h0,_⟩|⟨b,off,cap,h1,h2,h3,h4,he,h6⟩
    ·rw[h0]at hK;simp at hK
    rw[HN.o]at he h3;injection he with ct _ cu
    subst ct;subst cu;obtain⟨u,sK,c0,c1,c2,c3,c4,L⟩:=h6 j K hK;obtain⟨ps,y,bt⟩:=L.f;obtain⟨S,af⟩:=zzy (K.u.length);rw[af]at bt;subst bt;have bc:=Hd (gA (f:=dk) hK bk.o)
    by_cases C:K.b=2
    ·have c0:wr.cell? ⟨b,off+j*5,U⟩=Y (I O 2):=by rw[c0,C];rfl
     obtain⟨B,q⟩:=zzx (wr.alloc (wq #[I O 2,J K.f,I Z K.h,I Z K.y,A ps S y] 25));have a:FK wr B:=by rw[q];exact (EP _ wr).alloc (EO _) _
     have N:B.heap[wr.heap.size]?=Y (wq #[I O 2,J K.f,I Z K.h,I Z K.y,A ps S y] 25 (0,0)):=by rw[q];exact p9 wr _
     have W:=Hd a;have P:Hid (Below M W2 B):=Q.o.trans (a.mono R.o);have D:=L.z (a.mono H.o.size);have cv:Hid (xL xD 22 #[xV (Y ⟨M,0,U⟩),xS #[I O 2,J K.f,I Z K.h,I Z K.y,A ps S y]] B (oy (fun _=>False) d M [] vT (A U 0 0) (fD ts K) B)):=by
      have h:=zp (fun _=>False) d M ts [] vT (A U 0 0) K ps S y d B (x.o.z a) C (by omega) af (by have:=(b7.o.kid K al).1;omega) (((D.up (EU H.o.size a.size))).lift (Fl _)) u.2.1;rw[C]at h;exact h
     obtain⟨k0,k1,k2,k3,k4⟩:=cells5 N;clear u L h6 h1 h2 h3 h4 hK al a N D af;go_upto_region 8 with fail
     change AR _ _ _ _ (wr.alloc (wq #[I O 2,J K.f,I Z K.h,I Z K.y,A ps S y] 25));rw[←q];clear q c0 c1 c2 c3 c4;go_wp2_with fail
     refine cv.o.mono ?_;rintro e X ⟨bB,he⟩;have z:Below M W2 X:=Chg.C P.o bB (fun b E=>by rcases E with rfl|⟨v,hv,E⟩;exact EO _;simp only[FA,Fy,sI]at hv;rcases hv with rfl|rfl;exact br.o b E;cases E) (EU R.o W.o.size)
     clear k0 k1 k2 k3 k4
     cases hr:fD ts K with
     | error er =>
      rw[hr]at he;have he:e=aU er.1 er.2:=he;subst he;have bR:w.heap.size+1<M:=by have:=m.o;omega
      refine qw (d:=d) (T:=T) (er:=er) V V (bq.o.trans (z.mono (by have:=m.o;omega))) ((z.block _ bR).trans a1.o) ((z.block (w.heap.size+2) (by have:=m.o;omega)).trans a6.o) ?_;rw[HM.o];unfold kH;rw[gB (f:=dk) (l:=T.u) (k:=j+1) (s:=[]) (e:=er) (bc.o.trans ?_)]
      show (if K.b==2 then fD ts K else AF ts)=_
      rw[C];exact hr
     | ok ep =>
      rw[hr]at he;obtain⟨rfl,et,aq,b0⟩:=he;have HR:Hid (yc d M T n W2 (I Z ((j+1:Nat):Int)) X):=by
       refine⟨j+1,ep,et,by omega,V,?_,by rw[Am hr];omega,aq,fun g hg=>?_,z⟩
       ·rw[bc.o]
        show (if K.b==2 then fD ts K else AF ts)=_
        rw[C];exact hr
       ·rcases b0 g hg with h|h
        ·exact br.o g h
        ·exact EU (EU R.o W.o.size) h
      clear aq b0 bB z hr;go_wp2_with fail
      refine⟨HR.o,?_⟩;simp[intOf];omega
    ·have ev:¬((K.b:Int)=2):=by omega
     obtain⟨B,q⟩:=zzx (wr.alloc (wq #[I O K.b,J K.f,I Z K.h,I Z K.y,A ps S y] 25));have a:FK wr B:=by rw[q];exact (EP _ wr).alloc (EO _) _
     have N:B.heap[wr.heap.size]?=Y (wq #[I O K.b,J K.f,I Z K.h,I Z K.y,A ps S y] 25 (0,0)):=by rw[q];exact p9 wr _
     have W:=Hd a;have P:Hid (Below M W2 B):=Q.o.trans (a.mono R.o);have D:=L.z (a.mono H.o.size);obtain⟨k0,k1,k2,k3,k4⟩:=cells5 N;clear u L h6 h1 h2 h3 h4 hK al a N D af;go_upto_region 8 with fail
     change AR _ _ _ _ (wr.alloc (wq #[I O K.b,J K.f,I Z K.h,I Z K.y,A ps S y] 25));rw[←q];clear q c0 c1 c2 c3 c4;have HR:Hid (yc d M T n W2 (I Z ((j+1:Nat):Int)) B):=by
      refine⟨j+1,ts,vT,by omega,V,?_,by omega,x.o.z W.o,br.o,P.o⟩;rw[bc.o]
      show (if K.b==2 then fD ts K else AF ts)=_
      rw[show (K.b==2)=false by simpa using C];rfl
     go_wp2_with fail
     refine⟨HR.o,?_⟩;simp[intOf];omega
   ·have ar:aG dk [] T.u=AF ts:=by
     rw[←bk.o,Fg (by rw[HN.o];omega)]
    have ca:=Hd ar;clear ar;have dd:=aa Q.o ek.o (by have:=m.o;have:=en.o;omega);obtain⟨e0,e1,e2,e3,e4⟩:=cells5 dd;clear dd;have fz:ts.length≤4096:=by omega
    clear hlen bk;go_wp2_with fail
    go_loopw [34] (yG d M T n ts vT W2) (fun i _=>n-(intOf i).toNat)
    case atStart=>exact⟨0,[],fun _=>False,A U 0 0,Fa _,V,V,EO _,x.o,(fun g hg=>by cases hg),(fun b E=>E.elim),Q.o⟩
    case round =>
     clear dc hj b9;clear x Q H;obtain⟨j,rs,F,vR,hj,rfl,G,hlen,ba,cb,hF,bb⟩:=hrel;have dc:(0:Int)≤j:=by omega
     obtain⟨bk,x,bd,HF,Q⟩:=zz5 G ba cb hF bb;have H:Hid (FK w wr):=bq.o.trans (bb.mono (by have:=m.o;omega));have R:Hid (M≤wr.heap.size):=Fu ba.lt;clear G ba cb hF bb e0 e1 e2 e3 e4
     by_cases b9:j<n
     ·have eo:(j:Int)<n:=by omega
      obtain⟨K,hK⟩:∃K,T.u[j]?=Y K:=⟨_,ES (by rw[HN.o];exact b9)⟩;have al:=Fj hK;have ak:=(av.o.z H.o).lift (Fl d);rcases ak with ⟨h0,_⟩|⟨b,off,cap,h1,h2,h3,h4,he,h6⟩
      ·rw[h0]at hK;simp at hK
      rw[HN.o]at he h3;injection he with ct _ cu
      subst ct;subst cu;obtain⟨u,sK,c0,c1,c2,c3,c4,L⟩:=h6 j K hK;obtain⟨ps,y,bt⟩:=L.f;obtain⟨S,af⟩:=zzy (K.u.length);rw[af]at bt;subst bt;have bc:=Hd (gA (f:=cG d ts) hK bk.o)
      by_cases C:K.b=4
      ·have c0:wr.cell? ⟨b,off+j*5,U⟩=Y (I O 4):=by rw[c0,C];rfl
       obtain⟨B,q⟩:=zzx (wr.alloc (wq #[I O 4,J K.f,I Z K.h,I Z K.y,A ps S y] 25));have a:FK wr B:=by rw[q];exact (EP _ wr).alloc (EO _) _
       have N:B.heap[wr.heap.size]?=Y (wq #[I O 4,J K.f,I Z K.h,I Z K.y,A ps S y] 25 (0,0)):=by rw[q];exact p9 wr _
       have W:=Hd a;have P:Hid (Below M W2 B):=Q.o.trans (a.mono R.o);have D:=L.z (a.mono H.o.size);have cx:∀b,bj M [vT,vR] b→M≤b:=fun b E=>by
        rcases E with rfl|⟨v,hv,E⟩
        ·exact EO _
        ·simp only[FA,Fy,sI]at hv;rcases hv with rfl|rfl
         ·exact br.o b E
         ·exact bd.o b E
       have cv:Hid (xL xD 23 #[xV (Y ⟨M,0,U⟩),xS #[I O 4,J K.f,I Z K.h,I Z K.y,A ps S y]] B (m9 F d M ts vT vR (eJ d ts rs K) B)):=by
        have h:=zl F d M ts rs vT vR K ps S y w.heap.size B (x.o.z a) C (by omega) (by omega) af (by have:=(b7.o.kid K al).1;omega) (D.lift (EU (Fl _) (Fl _))) (EU H.o.size a.size) (fun b E=>by have:=cx b E;have:=m.o;omega) u.2.1 ⟨u.2.2.1,u.2.2.2.1⟩ ((b7.o.kid K al).2 C);rw[C]at h;exact h
       have e5:=Hd cx;obtain⟨k0,k1,k2,k3,k4⟩:=cells5 N;clear u L h6 h1 h2 h3 h4 hK al a N D af cx;go_upto_region 14 with fail
       change AR _ _ _ _ (wr.alloc (wq #[I O 4,J K.f,I Z K.h,I Z K.y,A ps S y] 25));rw[←q];clear q c0 c1 c2 c3 c4;go_wp2_with fail
       refine cv.o.mono ?_;rintro e X ⟨bB,he⟩;have z:Below M W2 X:=Chg.C P.o bB e5.o (EU R.o W.o.size);clear k0 k1 k2 k3 k4
       cases hr:eJ d ts rs K with
       | error er =>
        rw[hr]at he;have he:e=aU er.1 er.2:=he;subst he;have bR:w.heap.size+1<M:=by have:=m.o;omega
        refine qw (d:=d) (T:=T) (er:=er) V V (bq.o.trans (z.mono (by have:=m.o;omega))) ((z.block _ bR).trans a1.o) ((z.block (w.heap.size+2) (by have:=m.o;omega)).trans a6.o) ?_;rw[HM.o];unfold kH;rw[ca.o];dsimp only;rw[gB (f:=cG d ts) (l:=T.u) (k:=j+1) (s:=[]) (e:=er) (bc.o.trans ?_)]
        show (if K.b==4 then eJ d ts rs K else AF rs)=_
        rw[C];exact hr
       | ok e6 =>
        rw[hr]at he;obtain⟨rfl,F2,e7,aq,b0,e8,dg⟩:=he;have HR:Hid (yG d M T n ts vT W2 (I Z ((j+1:Nat):Int)) X):=by
         refine⟨j+1,e6,F2,e7,by omega,V,?_,by rw[AK hr];omega,aq,fun g hg=>?_,fun b E=>?_,z⟩
         ·rw[bc.o]
          show (if K.b==4 then eJ d ts rs K else AF rs)=_
          rw[C];exact hr
         ·rcases b0 g hg with h|h
          ·exact bd.o g h
          ·exact EU (EU R.o W.o.size) h
         ·rcases dg b E with h|h
          ·exact HF.o b h
          ·exact EU (EU R.o W.o.size) h
        clear aq b0 e8 dg bB z hr;go_wp2_with fail
        refine⟨HR.o,?_⟩;simp[intOf];omega
      ·have ev:¬((K.b:Int)=4):=by omega
       obtain⟨B,q⟩:=zzx (wr.alloc (wq #[I O K.b,J K.f,I Z K.h,I Z K.y,A ps S y] 25));have a:FK wr B:=by rw[q];exact (EP _ wr).alloc (EO _) _
       have N:B.heap[wr.heap.size]?=Y (wq #[I O K.b,J K.f,I Z K.h,I Z K.y,A ps S y] 25 (0,0)):=by rw[q];exact p9 wr _
       have W:=Hd a;have P:Hid (Below M W2 B):=Q.o.trans (a.mono R.o);have D:=L.z (a.mono H.o.size);obtain⟨k0,k1,k2,k3,k4⟩:=cells5 N;clear u L h6 h1 h2 h3 h4 hK al a N D af;go_upto_region 14 with fail
       change AR _ _ _ _ (wr.alloc (wq #[I O K.b,J K.f,I Z K.h,I Z K.y,A ps S y] 25));rw[←q];clear q c0 c1 c2 c3 c4;have HR:Hid (yG d M T n ts vT W2 (I Z ((j+1:Nat):Int)) B):=by
        refine⟨j+1,rs,F,vR,by omega,V,?_,by omega,x.o.z W.o,bd.o,HF.o,P.o⟩;rw[bc.o]
        show (if K.b==4 then eJ d ts rs K else AF rs)=_
        rw[show (K.b==4)=false by simpa using C];rfl
       go_wp2_with fail
       refine⟨HR.o,?_⟩;simp[intOf];omega
     ·have ar:aG (cG d ts) [] T.u=AF rs:=by
       rw[←bk.o,Fg (by rw[HN.o];omega)]
      have dp:Hid (eP d T=AF ⟨ts,rs⟩):=by
       show _=_
       rw[HM.o];unfold kH;rw[ca.o];dsimp only;rw[ar]
      obtain⟨pT,cT,ds⟩:=x.o.t.b;obtain⟨pR,cR,dv⟩:=x.o.r.b;obtain⟨nT,ea⟩:=zzy (ts.length);obtain⟨nR,eb⟩:=zzy (rs.length);rw[ea]at ds;rw[eb]at dv;subst ds;subst dv;have e9:w.heap.size+1<M:=by have:=m.o;omega
      have fe:w.heap.size+2<M:=by have:=m.o;omega
      have b1:=(Q.o.block _ e9).trans a1.o;have b2:=(Q.o.block _ fe).trans a6.o;have m0:=x.o.u.1;have m1:=x.o.u.2;have c0:wr.cell? ⟨w.heap.size+1,0,U⟩=Y (A U 0 0):=by rw[FI _ _ _ _ _ _ b1];rfl
      have c1:wr.cell? ⟨w.heap.size+1,1,U⟩=Y (A U 0 0):=by rw[FI _ _ _ _ _ _ b1];rfl
      have d0:wr.cell? ⟨w.heap.size+1+1,0,U⟩=Y (I Z 0):=by rw[FI _ _ _ _ _ _ b2];rfl
      have d1:wr.cell? ⟨w.heap.size+1+1,1,U⟩=Y (I Z 0):=by rw[FI _ _ _ _ _ _ b2];rfl
      have f1:=aE b1;have f2:∀i,wr.frozen? ⟨w.heap.size+1+1,i,U⟩=false:=aE b2;obtain⟨X,ad⟩:=zzx ((((wr.setCell ⟨w.heap.size+1,0,U⟩ (A pT nT cT)).setCell ⟨w.heap.size+1,1,U⟩ (A pR nR cR)).setCell ⟨w.heap.size+1+1,0,U⟩ (I Z 0)).setCell ⟨w.heap.size+1+1,1,U⟩ (I Z 0));have HZ:=Hd (kj b1 b2 (show w.heap.size+1≠w.heap.size+2 by omega) (A pT nT cT) (A pR nR cR) (I Z 0) (I Z 0));rw[←ad]at HZ;have cr:Hid (FK w X):=by show Below _ _ _;rw[ad];exact (((H.o.setCell (p:=⟨w.heap.size+1,0,U⟩) (Fl _) _).setCell (p:=⟨w.heap.size+1,1,U⟩) (Fl _) _).setCell (p:=⟨w.heap.size+1+1,0,U⟩) (EU (Fl _) (Fl _)) _).setCell (p:=⟨w.heap.size+1+1,1,U⟩) (EU (Fl _) (Fl _)) _
      have cA:∀b,M≤b∧b<wr.heap.size→∀o,wr.heap[b]?=Y o→X.heap[b]?=Y o:=fun b E o ho=>by
       rw[ad,ER _ _ _ _ (show b≠w.heap.size+1+1 by omega),ER _ _ _ _ (show b≠w.heap.size+1+1 by omega),ER _ _ _ _ (show b≠w.heap.size+1 by omega),ER _ _ _ _ (show b≠w.heap.size+1 by omega)];exact ho
      have ec:X.heap.size=wr.heap.size:=by rw[ad];simp[CK]
      have b3:∀b,M≤b∧b<wr.heap.size→ai w X b:=fun b E=>⟨by omega,by rw[ec];exact E.2⟩
      have fm:Hid (bV.K X (ai w X) ts (A pT nT cT)):=Rd.y b3 (Rd.f cA (x.o.t.K (fun b E=>⟨HF.o b E,(x.o.f b E).1⟩) (fun g hg=>⟨br.o g hg,x.o.t.lt hg⟩)));have fp:Hid ((bX d).K X (ai w X) rs (A pR nR cR)):=Rd.y b3 (Rd.f cA (x.o.r.K (fun b E=>⟨HF.o b E,(x.o.f b E).1⟩) (fun g hg=>⟨bd.o g hg,x.o.r.lt hg⟩)));clear ar b1 b2 cA ec b3 ea eb;go_wp2_with fail
      rw[←ad];refine zk V V HZ.o.1 HZ.o.2 ⟨cr.o,?_⟩;rw[dp.o];exact⟨_,_,V,fm.o,fp.o⟩
def gV(s:ByteArray):Except Flt eL:=if (gm s).2.1=0 then eP 30 (gm s).1 else BT (gm s).2
theorem mq{W:wD}{tmps:Array wF}{R:CI→wD→Prop}{r f:Nat}{a b x y:wF}(h:tmps.getD 2 At=xV (Y ⟨r,0,U⟩))(i:tmps.getD 3 At=xV (Y ⟨f,0,U⟩))
  (e:W.heap[r]?=Y (wq #[a,b] 32 (0,0))) (g:W.heap[f]?=Y (wq #[x,y] 35 (0,0))) (j:R (z8 (CA #[xS #[a,b],xS #[x,y]])) W):bodyPost xD Tryz.f15 R .ret ⟨tmps,[]⟩ W:=by
 have k:W.cell? ⟨r,0,U⟩=Y a:=by simp[CR,e]
 have l:W.cell? ⟨r,1,U⟩=Y b:=by simp[CR,e]
 have d0:W.cell? ⟨f,0,U⟩=Y x:=by simp[CR,g]
 have d1:W.cell? ⟨f,1,U⟩=Y y:=by simp[CR,g]
 have c:tmps[2]?.getD At=xV (Y ⟨r,0,U⟩):=by simpa using h
 have d:tmps[3]?.getD At=xV (Y ⟨f,0,U⟩):=by simpa using i
 refine bodyPost_ret (v:=CA #[xS #[a,b],xS #[x,y]]) ?_ V j;simp[results,Tryz.results15,go_sem,c,d,k,l,d0,d1]
theorem qG(s:ByteArray)(w:wD)(ht:aR w):xL xD 15 #[J s] w (jH 30 (gV s) w):=by
 obtain⟨w1,H⟩:=zzx ((w.alloc (wq #[A U 0 0,A U 0 0] 32)).alloc (wq #[I Z 0,I Z 0] 35));obtain⟨ak,al,_⟩:=ap w (wq #[A U 0 0,A U 0 0] 32) (wq #[I Z 0,I Z 0] 35);have aq:FK w w1:=by rw[H];exact ((EP _ w).alloc (EO _) _).alloc (by simp) _
 rw[←H]at ak al;obtain⟨bd,bk,bl,HP⟩:=zz4 ak al aq (vL s w1 (ht.z aq));have HT:=Hd (fun W (hW:FK w W)=>ht.z hW);clear ak al aq
 go_enter Tryz.func15,Tryz.ntmps15
 go_upto_region 1 with fail
 change AR _ _ _ _ ((w.alloc (wq #[A U 0 0,A U 0 0] 32)).alloc (wq #[I Z 0,I Z 0] 35));rw[←H];clear H;go_wp2_with fail
 refine HP.o.mono ?_;rintro e W2 ⟨sl,rfl,K,h,t,f,_⟩;obtain⟨⟨T,er,pl⟩,ar⟩:∃x,gm s=x:=⟨_,rfl⟩;rw[ar]at h t f ⊢;have bn:=Hd ar;obtain⟨p,c,bq⟩:=h.b;obtain⟨n,hn⟩:=zzy (T.u.length);have ca:sl=A p n c:=by rw[bq,←hn]
 subst ca;have z:ao W2 W2.heap.size 30 T.u (A p n c):=h.u (fun b L=>L.2);have br:=Hd (bl.o.trans (K.mono bl.o.size));have h0:=aa K bd.o (EN.1 bd.o).1;have q:=aa K bk.o (EN.1 bk.o).1;obtain⟨a,M⟩:=zzx ((W2.alloc (wq #[I O T.b,J T.f,I Z T.h,I Z T.y,A p n c] 25)).alloc (wq #[I Z er,I Z pl] 35));obtain⟨av,g,_⟩:=ap W2 (wq #[I O T.b,J T.f,I Z T.h,I Z T.y,A p n c] 25) (wq #[I Z er,I Z pl] 35);have k:FK W2 a:=by rw[M];exact ((EP _ W2).alloc (EO _) _).alloc (by simp) _
 rw[←M]at av g;obtain⟨B,N,a1⟩:=zz3 (br.o.trans (k.mono br.o.size)) (aa k h0 (EN.1 h0).1) (aa k q (EN.1 q).1);have bt:Hid (w.heap.size+2≤W2.heap.size):=by
  have:=(EN.1 q).1
  show _≤_;omega
 obtain⟨HM,cb,P⟩:=zz3 (tQ 30 T _ a ⟨t,_,V,(z.z k).up k.size⟩ (f 30).slim (HT.o a B.o)) av g;clear ar h t f bq hn z K h0 q k av g;go_upto_region 2 with fail
 change AR _ _ _ _ ((W2.alloc (wq #[I O T.b,J T.f,I Z T.h,I Z T.y,A p n c] 25)).alloc (wq #[I Z er,I Z pl] 35));rw[←M];clear M;obtain⟨n0,n1,n2,n3,n4⟩:=cells5 cb.o;have g0:a.cell? ⟨W2.heap.size+1,0,U⟩=Y (I Z er):=by rw[FI _ _ _ _ _ _ P.o];rfl
 have g1:a.cell? ⟨W2.heap.size+1,1,U⟩=Y (I Z pl):=by rw[FI _ _ _ _ _ _ P.o];rfl
 by_cases Q:er=0
 ·have S:Hid (gV s=eP 30 T):=by show _=_;unfold gV;rw[bn.o,rv Q]
  subst Q;go_wp2_with fail
  refine HM.o.mono ?_;rintro e r ⟨a6,he⟩;have C:=aa a6 N.o (EN.1 N.o).1;have D:=aa a6 a1.o (EN.1 a1.o).1;have cc:=Hd (B.o.trans (a6.mono B.o.size));have c0:r.cell? ⟨w.heap.size,0,U⟩=Y (A U 0 0):=by rw[FI _ _ _ _ _ _ C];rfl
  have c1:r.cell? ⟨w.heap.size,1,U⟩=Y (A U 0 0):=by rw[FI _ _ _ _ _ _ C];rfl
  have d0:r.cell? ⟨w.heap.size+1,0,U⟩=Y (I Z 0):=by rw[FI _ _ _ _ _ _ D];rfl
  have d1:r.cell? ⟨w.heap.size+1,1,U⟩=Y (I Z 0):=by rw[FI _ _ _ _ _ _ D];rfl
  have f1:=aE C;have f2:=aE D;obtain⟨ch,ck⟩:=zz2 C D;clear C D n0 n1 n2 n3 n4 g0 g1 HM;have fin:∀x y u v,FK w ((((r.setCell ⟨w.heap.size,0,U⟩ x).setCell ⟨w.heap.size,1,U⟩ y).setCell ⟨w.heap.size+1,0,U⟩ u).setCell ⟨w.heap.size+1,1,U⟩ v):=fun x y u v =>(((cc.o.setCell (p:=⟨w.heap.size,0,U⟩) (EO _) _).setCell (p:=⟨w.heap.size,1,U⟩) (EO _) _).setCell (p:=⟨w.heap.size+1,0,U⟩) (Fl _) _).setCell (p:=⟨w.heap.size+1,1,U⟩) (Fl _) _
  have X:=Hd fin;have bB:∀x y u v,_:=fun x y u v=>kj ch.o ck.o (show w.heap.size≠w.heap.size+1 by omega) x y u v
  have bR:=Hd bB;clear fin bB
  cases l:eP 30 T with
  | error er =>
   rw[l]at he;have he:e=z8 (CA #[xS #[A U 0 0,A U 0 0],xS #[I Z er.1,I Z er.2]]):=he;subst he;have E:Hid (gV s=BT er):=S.o.trans l;clear l;go_wp2_with fail
   have hz:=bR.o (A U 0 0) (A U 0 0) (I Z er.1) (I Z er.2);refine mq V V hz.1 hz.2 ⟨X.o _ _ _ _,?_⟩;rw[E.o]
  | ok R =>
   rw[l]at he;obtain⟨st,sr,rfl,ba,bb⟩:=he;have E:Hid (gV s=AF R):=S.o.trans l;obtain⟨pT,cT,b0⟩:=Rd.b ba;obtain⟨pR,cR,b1⟩:=Rd.b bb;obtain⟨nT,b2⟩:=zzy (R.a.length);obtain⟨nR,b3⟩:=zzy (R.b.length);rw[b2]at b0;rw[b3]at b1;subst b0;subst b1;obtain⟨cl,cq⟩:=zz2 ba bb;have cr:=B.o.size;have b4:W2.heap.size+1<a.heap.size:=(EN.1 P.o).1;have b5:Hid (w.heap.size+2≤a.heap.size):=by have:=bt.o;show _≤_;omega
   clear l ba bb b2 b3 cr b4;go_wp2_with fail
   have hz:=bR.o (A pT nT cT) (A pR nR cR) (I Z 0) (I Z 0);refine mq V V hz.1 hz.2 ⟨X.o _ _ _ _,?_⟩;rw[E.o];have ct:((((r.setCell ⟨w.heap.size,0,U⟩ (A pT nT cT)).setCell ⟨w.heap.size,1,U⟩ (A pR nR cR)).setCell ⟨w.heap.size+1,0,U⟩ (I Z 0)).setCell ⟨w.heap.size+1,1,U⟩ (I Z 0)).heap.size=r.heap.size:=by simp[CK]
   have m:∀b,ai a r b→∀o,r.heap[b]?=Y o→((((r.setCell ⟨w.heap.size,0,U⟩ (A pT nT cT)).setCell ⟨w.heap.size,1,U⟩ (A pR nR cR)).setCell ⟨w.heap.size+1,0,U⟩ (I Z 0)).setCell ⟨w.heap.size+1,1,U⟩ (I Z 0)).heap[b]?=Y o:=fun b L o ho=>by
    have q:=L.1;have h2:=b5.o;rw[ER _ _ _ _ (show b≠w.heap.size+1 by omega),ER _ _ _ _ (show b≠w.heap.size+1 by omega),ER _ _ _ _ (show b≠w.heap.size by omega),ER _ _ _ _ (show b≠w.heap.size by omega)];exact ho
   have ad:∀b,ai a r b→ai w ((((r.setCell ⟨w.heap.size,0,U⟩ (A pT nT cT)).setCell ⟨w.heap.size,1,U⟩ (A pR nR cR)).setCell ⟨w.heap.size+1,0,U⟩ (I Z 0)).setCell ⟨w.heap.size+1,1,U⟩ (I Z 0)) b:=fun b L=>⟨by have:=L.1;have:=b5.o;omega,by rw[ct];exact L.2⟩
   exact⟨_,_,V,Rd.y ad (Rd.f m cl.o),Rd.y ad (Rd.f m cq.o)⟩
 ·have S:Hid (gV s=BT (er,pl)):=by show _=_;unfold gV;rw[bn.o,qv Q]
  have cC:decide (er=0)=false:=r6 Q;go_upto_region 3 with fail
  obtain⟨d,F⟩:=zzx (a.drew.setCells w.heap.size 0 [A U 0 0,A U 0 0]);have m:∀b,b≠w.heap.size→d.heap[b]?=a.heap[b]?:=fun b L=>by
   rw[F]
   show ((a.drew.setCell ⟨w.heap.size,0,U⟩ (A U 0 0)).setCell ⟨w.heap.size,1,U⟩ (A U 0 0)).heap[b]?=_
   rw[ER _ _ _ _ L,ER _ _ _ _ L];rfl
  have af:W2.heap.size+1≠w.heap.size:=by have:=bt.o;omega
  have g:d.heap[W2.heap.size+1]?=Y (wq #[I Z er,I Z pl] 35 (0,0)):=(m _ af).trans P.o;have b6:d.heap[w.heap.size+1]?=Y (wq #[I Z 0,I Z 0] 35 (0,0)):=(m _ (by omega)).trans a1.o;have b7:d.heap[w.heap.size]?=Y (wq #[A U 0 0,A U 0 0] 32 (0,0)):=by
   rw[F];have q:(a.drew.setCell ⟨w.heap.size,0,U⟩ (A U 0 0)).heap[w.heap.size]?=Y (wq #[A U 0 0,A U 0 0] 32 (0,0)):=heap_set (show a.drew.heap[w.heap.size]?=_ from N.o) 0 _;have h2:((a.drew.setCell ⟨w.heap.size,0,U⟩ (A U 0 0)).setCell ⟨w.heap.size,1,U⟩ (A U 0 0)).heap[w.heap.size]?=Y (wq #[A U 0 0,A U 0 0] 32 (0,0)):=heap_set q 1 _;exact h2
  have b8:FK w d:=by
   rw[F];exact ((B.o.drew).setCell (p:=⟨w.heap.size,0,U⟩) (EO _) _).setCell (p:=⟨w.heap.size,1,U⟩) (EO _) _
  have G0:=fun x:RE.Two a.drew d=>RE.Two.b (p:=⟨W2.heap.size+1,0,U⟩) (show a.drew.cell? ⟨W2.heap.size+1,0,U⟩=_ from g0) (by rw[FI _ _ _ _ _ _ g];rfl) x
  have G1:=fun x:RE.Two a.drew d=>RE.Two.b (p:=⟨W2.heap.size+1,1,U⟩) (show a.drew.cell? ⟨W2.heap.size+1,1,U⟩=_ from g1) (by rw[FI _ _ _ _ _ _ g];rfl) x
  obtain⟨cu,bc,cv,cx⟩:=zz4 F b6 b7 b8;clear F m g b6 b7 b8 af n0 n1 n2 n3 n4 g0 g1;refine RE.u (by kernel_rfl) 3 [2] [2] (fun s W=>if s=0 then W=a.drew else W=d) (fun _ _=>True) (fun _ _=>At) (fun _ _ _=>True) (by kernel_rfl) (fun i q h2=>by rw[q]at h2;cases h2) (fun _ _ _ _ _ _ _=>trivial) V ?_;simp only[EY,Fi,EZ,Fh]
  repeat (refine RE.b (fun W=>∃x:RE.Two a.drew d,W=x.1) RE.z V V V V ?_;go_big_quiet_step (fail);refine Bk ?_)
  refine RE.f V V ?_ (fun xs=>?_)
  ·intro W hC hS _;obtain rfl:W=a.drew:=hS V;refine RE.C (w':=a.drew.setCells w.heap.size 0 [A U 0 0,A U 0 0]) ?_ ⟨[],V,cu.o.symm,trivial,trivial⟩;refine RE.K 32 (.tmp 2) (.tmp 14) V w.heap.size 0 #[A U 0 0,A U 0 0] V V ?_ (by kernel_rfl) (by simp[Value.oneCell']);intro j hj;have hj:j<2:=hj;have hh:a.drew.heap[w.heap.size]?=_:=N.o;rw[FI _ _ _ _ _ _ hh,bK hh];have:j=0∨j=1:=by omega
   rcases this with rfl|rfl<;>exact⟨V,V⟩
  simp only[Act.put];refine RE.h ?_;intro W hS _;have hS:W=d:=hS;rw[hS];clear hS G0 G1;refine wpList_store_mid V 35 (.tmp 3) (.tmp 15) V (w.heap.size+1) 0 #[I Z er,I Z pl] V V ?_ (by kernel_rfl) (by simp[Value.oneCell']) ?_
  ·intro j hj;have hj:j<2:=hj;rw[FI _ _ _ _ _ _ bc.o,bK bc.o];have:j=0∨j=1:=by omega
   rcases this with rfl|rfl<;>exact⟨V,V⟩
  have G:((d.setCell ⟨w.heap.size+1,0,U⟩ (I Z er)).setCell ⟨w.heap.size+1,1,U⟩ (I Z pl)).heap[w.heap.size]?=Y (wq #[A U 0 0,A U 0 0] 32 (0,0)):=by
   rw[ER _ _ _ _ (show w.heap.size≠w.heap.size+1 by omega),ER _ _ _ _ (show w.heap.size≠w.heap.size+1 by omega)];exact cv.o
  have q:(d.setCell ⟨w.heap.size+1,0,U⟩ (I Z er)).heap[w.heap.size+1]?=Y (wq #[I Z er,I Z 0] 35 (0,0)):=heap_set bc.o 0 _;have h2:((d.setCell ⟨w.heap.size+1,0,U⟩ (I Z er)).setCell ⟨w.heap.size+1,1,U⟩ (I Z pl)).heap[w.heap.size+1]?=Y (wq #[I Z er,I Z pl] 35 (0,0)):=heap_set q 1 _;have b9:FK w ((d.setCell ⟨w.heap.size+1,0,U⟩ (I Z er)).setCell ⟨w.heap.size+1,1,U⟩ (I Z pl)):=(cx.o.setCell (p:=⟨w.heap.size+1,0,U⟩) (Fl _) _).setCell (p:=⟨w.heap.size+1,1,U⟩) (Fl _) _;obtain⟨HL,H2,cA⟩:=zz3 G h2 b9;clear G q h2 b9;change wpList _ _ _ _ _ ((d.setCell ⟨w.heap.size+1,0,U⟩ (I Z er)).setCell ⟨w.heap.size+1,1,U⟩ (I Z pl));go_wp2_with fail
  refine mq V V HL.o H2.o ⟨cA.o,?_⟩;rw[S.o]
