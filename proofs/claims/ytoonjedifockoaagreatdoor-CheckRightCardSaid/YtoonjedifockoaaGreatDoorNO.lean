/- Parts of one proof, joined; conditions stand in each theorem. -/
import Derived.Test.YtoonjedifockoaaGreatDoorNN
import Derived.Test.YtoonjedifockoaaGreatDoorNA
import Derived.Test.YtoonjedifockoaaGreatDoorMD
import Derived.Test.YtoonjedifockoaaGreatDoorMM
import Derived.Defers
import Derived.Recover
import Derived.Test.YtoonjedifockoaaGreatDoorMJ
import Derived.Test.YtoonjedifockoaaGreatDoorMZK
namespace Go.Proofs.YtoonjedifockoaaGreatDoor
open Go.IntKind(i64)
open Go.Value(int string slice)
set_option maxHeartbeats 16000000
set_option maxRecDepth 100000
open Go.RowKit
theorem aD.lift{w:World}{B d d':Nat}{a:List ac}{b:Value}(h:aD w B d a b)(c:d≤d'):aD w B d' a b:=by
 induction c with
 | refl=>exact h
 | step _ e=>exact e.more
theorem yg{w:World}{B:Nat}:∀{d:Nat} {T:ac} {a:Value},aD w B d T.kids a→fE d T:=by
 intro d
 induction d with
 | zero=>intro T a h;exact h.1
 | succ d f =>
  intro T a h k c;rcases h with ⟨g,_⟩|⟨b,off,cap,_,_,_,_,_,j⟩
  ·rw[g]at c;simp at c
  ·obtain⟨i,l⟩:=List.getElem?_of_mem c;obtain⟨_,s,_,_,_,_,_,e⟩:=j i k l;exact f e
theorem sV:∀{d:Nat} {T:ac},iQ d T→eC d T
 | 0,_,h=>h
 | _d+1,_,h=>⟨h.1,h.2.1,fun k a=>sV (h.2.2 k a)⟩
theorem eC.more:∀{d:Nat} {T:ac},fE d T→eC d T→eC (d+1) T
 | 0,T,he,h=>⟨h,by rw[show T.kids=[] from he];exact EM _,fun k a=>by rw[show T.kids=[] from he]at a;simp at a⟩
 | d+1,T,he,h=>⟨h.1,h.2.1,fun k a=>eC.more (he k a) (h.2.2 k a)⟩
theorem xr{d d':Nat}{T:ac}(he:fE d T)(a:d≤d'):fE d' T:=by
 induction a with
 | refl=>exact he
 | step _ b=>exact b.more
theorem eC.lift{d d':Nat}{T:ac}(he:fE d T)(h:eC d T)(a:d≤d'):eC d' T:=by
 induction a with
 | refl=>exact h
 | step hm b=>exact eC.more (xr he hm) b
theorem iE:∀(l:List Nat) (c:Nat),l.foldl (· + ·) c=c+l.foldl (· + ·) 0
 | [],c=>rfl
 | x::l,c=>by
  rw[List.foldl_cons,List.foldl_cons,iE l (c+x),iE l (0+x)];omega
theorem AM:∀(d:Nat) (T:ac),1≤dA d T
 | 0,_=>EA _
 | d+1,T=>by
  show 1≤(T.kids.map (dA d)).foldl (· + ·) 1
  rw[iE];omega
theorem tI(f:ac→Nat)(b:∀T,1≤f T):∀(l:List ac),l.length≤(l.map f).foldl (· + ·) 0∧∀k∈l,f k≤(l.map f).foldl (· + ·) 0
 | []=>⟨EA _,fun k a=>by simp at a⟩
 | z::l=>by
  obtain⟨d,c⟩:=tI f b l;rw[List.map_cons,List.foldl_cons,iE];refine⟨by have:=b z;simp only[Fb];omega,fun k a=>?_⟩;rcases Fh.1 a with rfl|a
  ·omega
  ·have:=c k a;omega
theorem kD{d:Nat}{T:ac}:T.kids.length<dA (d+1) T∧∀k∈T.kids,dA d k<dA (d+1) T:=by
 obtain⟨c,a⟩:=tI (dA d) (AM d) T.kids;have e:dA (d+1) T=(T.kids.map (dA d)).foldl (· + ·) 1:=rfl;rw[e,iE];exact⟨by omega,fun k b=>by have:=a k b;omega⟩
theorem tR:∀{d:Nat} {T:ac},fE d T→dA d T≤4096→T.kids.length≤4096
 | 0,T,he,_=>by rw[show T.kids=[] from he];exact EM _
 | d+1,T,_,h=>by have:=(kD (d:=d) (T:=T)).1;omega
theorem Dc{D d:Nat}{K:ac}(l:d≤D+1)(he:fE d K)(i:okF d K=true)(hm:dA d K≤4096)(e:eC d K):kW D K:=by
 have j:=Ar i;obtain⟨_,a,c⟩:=yI j;have kid:∀k∈K.kids,eC D k∧k.text.size≤72007:=fun k a=>by
  cases d with
  | zero=>rw[show K.kids=[] from he]at a;simp at a
  | succ d=>exact⟨eC.lift (he k a) (e.2.2 k a) (by omega),(e.2.2 k a).text⟩
 refine⟨?_,by have:=tR he hm;omega,fun h=>?_,fun h=>?_,fun h k b=>(kid k b).1⟩
 ·unfold sP at c;unfold I64
  split at c
  ·simp only[EQ,oe]at c;omega
  ·split at c
   ·simp only[EQ,oe]at c;omega
   ·have:K.num=0:=by simpa using c
    omega
 ·intro k b;have f:cZ [12,13,14,15] K.kids=true:=by
   unfold fA at a;rcases h with h|h<;>rw[h]at a<;>exact a
  have:=Fe.1 f k b;refine⟨?_,(kid k b).2⟩
  simpa using this
 ·have f:(K.kids.length==1&&fS K.kids)=true:=by
   unfold fA at a;rw[h]at a;exact a
  simp only[EQ,o2]at f
  cases g:K.kids with
  | nil=>rw[g]at f;simp at f
  | cons t r=>exact⟨t,r,rfl,(kid t (by rw[g];simp)).1⟩
structure Em (D:Nat) (T:ac):Prop where
 few:T.kids.length≤4096
 kid:∀k∈T.kids,k.kids.length≤4096∧(k.kind=4→∀K∈k.kids,kW D K)
theorem Dy{D:Nat}{T:ac}(he:fE D T)(g:okF D T=true)(hm:dA D T≤4096)(h:iQ D T):Em D T:=by
 have i:=sV h
 cases D with
 | zero=>exact⟨by rw[show T.kids=[] from he];exact EM _,fun k a=>by rw[show T.kids=[] from he]at a;simp at a⟩
 | succ d =>
  have m:=(kD (d:=d) (T:=T)).1;refine⟨by omega,fun k a=>?_⟩;have j:=(kD (d:=d) (T:=T)).2 k a;have b:=he k a;have e:okF d k=true:=by
   have:(cw T&&T.kids.all (okF d))=true:=g;simp only[EQ]at this;exact Fe.1 this.2 k a
  refine⟨tR b (by omega),fun n K c=>?_⟩
  cases d with
  | zero=>rw[show k.kids=[] from b]at c;simp at c
  | succ d =>
   have l:=(kD (d:=d) (T:=k)).2 K c;have f:okF d K=true:=by
    have:(cw k&&k.kids.all (okF d))=true:=e;simp only[EQ]at this;exact Fe.1 this.2 K c
   exact Dc (by omega) (b K c) f (by omega) (((i.2.2 k a)).2.2 K c)
theorem vE(r f:Nat)(er pl:Int)(a:List PanicEntry)(a0 a1 G C:Value)(w:World)(H:w.heap[r]?=some (.cells #[a0,a1] 25 (0,0)))(I:w.heap[f]?=some (.cells #[G,C] 32 (0,0)))(g:r≠f) :
  CallsD Tryz.prog 51 #[.pointer (some ⟨r,0,none⟩),.pointer (some ⟨f,0,none⟩)] (.panicking ({ v:=.iface 32 (.agg #[int i64 er,int i64 pl]),recovered:=false }::a)) w fun e J w' =>
   e=.returned (.tuple #[])∧J=.panicking ({ v:=.iface 32 (.agg #[int i64 er,int i64 pl]),recovered:=true }::a)∧
   Chg (fun b=>b=r∨b=f) w w'∧w'.heap[r]?=some (.cells #[slice none 0 0,slice none 0 0] 25 (0,0))∧w'.heap[f]?=some (.cells #[int i64 er,int i64 pl] 32 (0,0)):=by
 refine callsD_of_wpS Tryz.func51 rfl fun n cs hu=>?_
 apply wpS_seq;apply wpS_region;simp[wpOpsS,go_sem,recoverD,hu,Tryz.ntmps51,Exit.thenS];apply wpS_seq;apply wpS_region;simp[wpOpsS,go_sem,Exit.thenS];refine wpS_cond (t:=true) (by simp[Act.eval,Array.replicate]) ?_;simp only[oA];refine wpS_of_wp ?_;change Code.wp _ _ _ ⟨#[.pointer (some ⟨r,0,none⟩),.pointer (some ⟨f,0,none⟩),.iface 32 (.agg #[int i64 er,int i64 pl]),.iface 32 (.agg #[int i64 er,int i64 pl]),.iface 32 (.agg #[int i64 er,int i64 pl]),.bool true,undef,undef,undef],[]⟩ w;refine RE.wp_region_eff (by kernel_rfl) 4 [2,3] [3] (fun s W=>if s=0 then Ft w W else Chg (fun b=>b=r) w W∧W.heap[r]?=some (.cells #[slice none 0 0,slice none 0 0] 25 (0,0))) (fun _ _=>True) (fun i _=>if i=2 then .agg #[int i64 er,int i64 pl] else undef) (fun _ _ _=>True) (by kernel_rfl) ?_ (fun _ _ _ _ _ _ _=>trivial) (EB _ _).drew ?_
 ·intro i z A s W W' h q
  split at h
  ·rw[n9 (by assumption)];exact h.trans (q.mono h.size)
  ·rw[n8 (by assumption)];exact⟨h.1.trans (Chg.of_below q),aa q h.2 (Ez.1 h.2).1⟩
 simp only[EK,ET,EL,ES];have D:∀(m s:Nat) (W:World),s≤m→(if s=0 then Ft w W else Chg (fun b=>b=r) w W∧W.heap[r]?=some (.cells #[slice none 0 0,slice none 0 0] 25 (0,0)))→∃x:Ks w (fun _=>False),W=x.1:=fun _ _ W _ _=>⟨⟨W,fun _ h=>h.elim⟩,rfl⟩
 repeat (refine RE.wpE_read (fun W=>∃x:Ks w (fun _=>False),W=x.1) (D _) rfl rfl rfl (EB _ _).drew ?_;go_big_quiet_step (fail);refine wpQuiet_nil ?_)
 refine RE.wpE_turn rfl rfl ?_ (fun K=>?_)
 ·intro W B _ _;refine RE.upon_run (v:=.agg #[int i64 er,int i64 pl]) (w':=W) ?_ ⟨[],rfl,EB _ _,trivial,trivial⟩;have E:(Instr.typeAssert (.iface 32 (.agg #[int i64 er,int i64 pl])) 20 32 false).run Tryz.prog W=.ok (.agg #[int i64 er,int i64 pl]) W:=by kernel_rfl
  simp[execOp,Act.eval,E]
 simp only[Act.put,EC,EI,EH,Nat.reduceAdd,↓reduceIte];refine RE.wpE_turn rfl rfl ?_ (fun K=>?_)
 ·intro W B l _;have l:Ft w W:=l rfl;have c:=aa l H (Ez.1 H).1;refine RE.upon_skip (w':=W.setCells r 0 [slice none 0 0,slice none 0 0]) ?_ ⟨[],rfl,?_,trivial,trivial⟩
  ·refine RE.run_store_agg 25 (.tmp 0) (.tmp 6) rfl r 0 #[slice none 0 0,slice none 0 0] rfl rfl ?_ (by kernel_rfl) (by simp[Value.oneCell']);intro j u;have u:j<2:=u;rw[Fq _ _ _ _ _ _ c,ao c];have:j=0∨j=1:=by omega
   rcases this with rfl|rfl<;>exact⟨rfl,rfl⟩
  ·refine⟨?_,?_⟩
   ·exact Chg.setCell (F:=fun b=>b=r) (Chg.setCell (F:=fun b=>b=r) (Chg.of_below l) (p:=⟨r,0,none⟩) (Or.inl rfl) _) (p:=⟨r,1,none⟩) (Or.inl rfl) _
   ·have z:(W.setCell ⟨r,0,none⟩ (slice none 0 0)).heap[r]?=some (.cells #[slice none 0 0,a1] 25 (0,0)):=heap_set c 0 _;have A:((W.setCell ⟨r,0,none⟩ (slice none 0 0)).setCell ⟨r,1,none⟩ (slice none 0 0)).heap[r]?=some (.cells #[slice none 0 0,slice none 0 0] 25 (0,0)):=heap_set z 1 _;exact A
 simp only[Act.put,Nat.reduceAdd];refine RE.wpE_nil ?_;intro W l _;obtain⟨B,c⟩:Chg (fun b=>b=r) w W∧W.heap[r]?=some (.cells #[slice none 0 0,slice none 0 0] 25 (0,0)):=l;have k:W.heap[f]?=some (.cells #[G,C] 32 (0,0)):=(B.block f (Ez.1 I).1 (fun e=>g e.symm)).trans I;refine wpList_store_mid rfl 32 (.tmp 1) (.tmp 8) rfl f 0 #[int i64 er,int i64 pl] rfl rfl ?_ (by kernel_rfl) (by simp[Value.oneCell']) ?_
 ·intro j u;have u:j<2:=u;rw[Fq _ _ _ _ _ _ k,ao k];have:j=0∨j=1:=by omega
  rcases this with rfl|rfl<;>exact⟨rfl,rfl⟩
 have d:Chg (fun b=>b=r∨b=f) w (W.setCells f 0 [int i64 er,int i64 pl])∧(W.setCells f 0 [int i64 er,int i64 pl]).heap[r]?=some (.cells #[slice none 0 0,slice none 0 0] 25 (0,0))∧(W.setCells f 0 [int i64 er,int i64 pl]).heap[f]?=some (.cells #[int i64 er,int i64 pl] 32 (0,0)):=by
  refine⟨Chg.setCell (F:=fun b=>b=r∨b=f) (Chg.setCell (F:=fun b=>b=r∨b=f) (Chg.sub B (fun b q=>Or.inl q)) (p:=⟨f,0,none⟩) (Or.inl (Or.inr rfl)) _) (p:=⟨f,1,none⟩) (Or.inl (Or.inr rfl)) _,?_,?_⟩
  ·show ((W.setCell ⟨f,0,none⟩ (int i64 er)).setCell ⟨f,1,none⟩ (int i64 pl)).heap[r]?=_
   rw[ED _ _ _ _ g,ED _ _ _ _ g];exact c
  ·have z:(W.setCell ⟨f,0,none⟩ (int i64 er)).heap[f]?=some (.cells #[int i64 er,C] 32 (0,0)):=heap_set k 0 _;have A:((W.setCell ⟨f,0,none⟩ (int i64 er)).setCell ⟨f,1,none⟩ (int i64 pl)).heap[f]?=some (.cells #[int i64 er,int i64 pl] 32 (0,0)):=heap_set z 1 _;exact A
 have y:=Hd d;clear d
 cases n
 simp_all [wpList,bodyPostS,results,Tryz.results51]
 exact⟨rfl,y.o⟩
theorem catch_idle(r f:Nat)(w:World) :
  CallsD Tryz.prog 51 #[.pointer (some ⟨r,0,none⟩),.pointer (some ⟨f,0,none⟩)] .returning w fun e b w'=>e=.returned (.tuple #[])∧b=.returning∧w'=w:=by
 refine callsD_of_wpS Tryz.func51 rfl fun a cs hu=>?_
 apply wpS_seq;apply wpS_region;simp[wpOpsS,go_sem,recoverD,hu,Tryz.ntmps51,Exit.thenS];apply wpS_seq;apply wpS_region;simp[wpOpsS,go_sem,Exit.thenS];refine wpS_cond (t:=false) (by simp[Act.eval,Array.replicate]) ?_;simp only[EW,oi];refine wpS_of_wp (wp_skip ?_)
 cases a
 simp_all [bodyPostS,results,Tryz.results51]
def iS(d:Nat) (T:ac):Except Flt cd:=if iJ d T then qt d T else .error (4,0)
def ow(d:Nat) (r:Except Flt cd) (w:World) (e:Ending) (w':World):Prop:=Ft w w'∧match r with
 | .ok R=>∃st a,e=.returned (.tuple #[.agg #[st,a],.agg #[int i64 0,int i64 0]])∧bo.row w' (bj w w') R.types st∧(bh d).row w' (bj w w') R.rules a
 | .error er=>e=.returned (.tuple #[.agg #[slice none 0 0,slice none 0 0],.agg #[int i64 er.1,int i64 er.2]])
theorem xF(w:World)(a b c:Obj):((((w.alloc a).alloc b).alloc c).heap[w.heap.size]?=some a)∧((((w.alloc a).alloc b).alloc c).heap[w.heap.size+1]?=some b)∧((((w.alloc a).alloc b).alloc c).heap[w.heap.size+2]?=some c):=by
 obtain⟨e,f,_⟩:=am w a b;have d:Below ((w.alloc a).alloc b).heap.size ((w.alloc a).alloc b) (((w.alloc a).alloc b).alloc c):=(EB _ _).alloc (EA _) _;have g:((w.alloc a).alloc b).heap.size=w.heap.size+2:=by simp
 refine⟨aa d e (by omega),aa d f (by omega),?_⟩;have:=n7 ((w.alloc a).alloc b) c;rw[g]at this;exact this
theorem m8{W:World}{r f:Nat}{a0 a1 c b:Value}(d:W.heap[r]?=some (.cells #[a0,a1] 25 (0,0)))(e:W.heap[f]?=some (.cells #[c,b] 32 (0,0)))(a:r≠f)(x y u v:Value) :
  ((((W.setCell ⟨r,0,none⟩ x).setCell ⟨r,1,none⟩ y).setCell ⟨f,0,none⟩ u).setCell ⟨f,1,none⟩ v).heap[r]?=some (.cells #[x,y] 25 (0,0))∧((((W.setCell ⟨r,0,none⟩ x).setCell ⟨r,1,none⟩ y).setCell ⟨f,0,none⟩ u).setCell ⟨f,1,none⟩ v).heap[f]?=some (.cells #[u,v] 32 (0,0)):=by
 have g:(W.setCell ⟨r,0,none⟩ x).heap[r]?=some (.cells #[x,a1] 25 (0,0)):=heap_set d 0 _;have h:((W.setCell ⟨r,0,none⟩ x).setCell ⟨r,1,none⟩ y).heap[r]?=some (.cells #[x,y] 25 (0,0)):=heap_set g 1 _;have g0:((W.setCell ⟨r,0,none⟩ x).setCell ⟨r,1,none⟩ y).heap[f]?=some (.cells #[c,b] 32 (0,0)):=by rw[ED _ _ _ _ a.symm,ED _ _ _ _ a.symm];exact e
 have g1:(((W.setCell ⟨r,0,none⟩ x).setCell ⟨r,1,none⟩ y).setCell ⟨f,0,none⟩ u).heap[f]?=some (.cells #[u,b] 32 (0,0)):=heap_set g0 0 _;have g2:((((W.setCell ⟨r,0,none⟩ x).setCell ⟨r,1,none⟩ y).setCell ⟨f,0,none⟩ u).setCell ⟨f,1,none⟩ v).heap[f]?=some (.cells #[u,v] 32 (0,0)):=heap_set g1 1 _;refine⟨?_,g2⟩;rw[ED _ _ _ _ a,ED _ _ _ _ a];exact h
theorem kO{W:World}{R:Ending→World→Prop}{tmps:Array Value}{r f:Nat}{a b x y:Value}(h:tmps.getD 2 undef=.pointer (some ⟨r,0,none⟩))(i:tmps.getD 3 undef=.pointer (some ⟨f,0,none⟩))
  (e:W.heap[r]?=some (.cells #[a,b] 25 (0,0))) (g:W.heap[f]?=some (.cells #[x,y] 32 (0,0))) (j:R (.returned (.tuple #[.agg #[a,b],.agg #[x,y]])) W):Leaves Tryz.prog Tryz.f24 tmps R [] .returning W:=by
 have k:W.cell? ⟨r,0,none⟩=some a:=by simp[World.cell?,e]
 have l:W.cell? ⟨r,1,none⟩=some b:=by simp[World.cell?,e]
 have d0:W.cell? ⟨f,0,none⟩=some x:=by simp[World.cell?,g]
 have d1:W.cell? ⟨f,1,none⟩=some y:=by simp[World.cell?,g]
 have c:tmps[2]?.getD undef=.pointer (some ⟨r,0,none⟩):=by simpa using h
 have d:tmps[3]?.getD undef=.pointer (some ⟨f,0,none⟩):=by simpa using i
 refine⟨.tuple #[.agg #[a,b],.agg #[x,y]],?_,j⟩;simp[results,Tryz.results24,go_sem,c,d,k,l,d0,d1]
theorem zj{W w:World}{R:Ending→World→Prop}{tmps:Array Value}{a b x y:Value}(c:tmps.getD 2 undef=.pointer (some ⟨w.heap.size+1,0,none⟩))(d:tmps.getD 3 undef=.pointer (some ⟨w.heap.size+1+1,0,none⟩))
  (g:W.heap[w.heap.size+1]?=some (.cells #[a,b] 25 (0,0))) (h:W.heap[w.heap.size+1+1]?=some (.cells #[x,y] 32 (0,0))) (i:R (.returned (.tuple #[.agg #[a,b],.agg #[x,y]])) W) :
  Leaves Tryz.prog Tryz.f24 tmps R [{ target:=Target.fn (Fn.func 51) #[.pointer (some ⟨w.heap.size+1,0,none⟩),.pointer (some ⟨w.heap.size+1+1,0,none⟩)],args:=#[] }] .returning W:=by
 refine leaves_cons (f:=51) (args:=#[.pointer (some ⟨w.heap.size+1,0,none⟩),.pointer (some ⟨w.heap.size+1+1,0,none⟩)]) (by simp) (by simp[go_sem]) ?_;refine (catch_idle (w.heap.size+1) (w.heap.size+1+1) W).mono ?_;rintro e k j ⟨rfl,rfl,rfl⟩;exact kO c d g h i
theorem pE{d:Nat}{T:ac}{W w:World}{tmps:Array Value}{a b x y:Value}{er:Flt}(i:tmps.getD 2 undef=.pointer (some ⟨w.heap.size+1,0,none⟩))(j:tmps.getD 3 undef=.pointer (some ⟨w.heap.size+1+1,0,none⟩))(c:Ft w W)
  (k:W.heap[w.heap.size+1]?=some (.cells #[a,b] 25 (0,0))) (l:W.heap[w.heap.size+1+1]?=some (.cells #[x,y] 32 (0,0))) (hm:iS d T=.error er) :
  Leaves Tryz.prog Tryz.f24 tmps (ow d (iS d T) w) [{ target:=Target.fn (Fn.func 51) #[.pointer (some ⟨w.heap.size+1,0,none⟩),.pointer (some ⟨w.heap.size+1+1,0,none⟩)],args:=#[] }] (.panicking [{ v:=.iface 32 (.agg #[int i64 er.1,int i64 er.2]),recovered:=false }]) W:=by
 refine leaves_cons (f:=51) (args:=#[.pointer (some ⟨w.heap.size+1,0,none⟩),.pointer (some ⟨w.heap.size+1+1,0,none⟩)]) (by simp) (by simp[go_sem]) ?_;refine (vE (w.heap.size+1) (w.heap.size+1+1) er.1 er.2 [] a b x y W k l (by omega)).mono ?_;rintro e o m ⟨rfl,rfl,n,g,h⟩;refine kO i j g h ⟨Chg.to_below c n (fun b c=>by rcases c with rfl|rfl<;>omega) c.size,?_⟩
 rw[hm]
def ya(d M:Nat) (T:ac) (n:Nat) (W2:World) (i:Value) (W:World):Prop:=
 ∃(j:Nat) (ts:List ai) (vT:Value),j≤n∧i=int i64 (j:Int)∧bG j8 [] (T.kids.take j)=.ok ts∧ts.length≤j∧MkB (fun _=>False) d M ts [] vT (slice none 0 0) W∧(∀g,vT.ownBlock=some g→M≤g)∧Below M W2 W
def yE(d M:Nat) (T:ac) (n:Nat) (ts:List ai) (vT:Value) (W2:World) (i:Value) (W:World):Prop:=
 ∃(j:Nat) (rs:List aj) (F:Nat→Prop) (vR:Value),j≤n∧i=int i64 (j:Int)∧bG (j1 d ts) [] (T.kids.take j)=.ok rs∧rs.length≤j∧MkB F d M ts rs vT vR W∧(∀g,vR.ownBlock=some g→M≤g)∧(∀b,F b→M≤b)∧Below M W2 W
theorem Af{ts a:List ai}{K:ac}(h:eQ ts K=.ok a):a.length=ts.length+1:=by
 unfold eQ at h
 split at h
 ·cases h
 ·split at h
  ·cases h
  ·split at h
   ·cases h
   ·injection h with h;rw[←h];simp
theorem Ax{d:Nat}{ts:List ai}{rs a:List aj}{K:ac}(h:ee d ts rs K=.ok a):a.length=rs.length+1:=by
 unfold ee at h
 split at h
 ·cases h
 ·split at h
  ·cases h
  ·split at h
   ·cases h
   ·split at h
    ·cases h
    ·injection h with h;rw[←h];simp
theorem Bv(d:Nat)(T:ac)(v:Value)(w:World)(hv:eO w w.heap.size d T v)(b4:iQ d T)(ht:aM w) :
  Calls Tryz.prog 24 #[v] w (ow d (iS d T) w):=by
 have fv:∀(fn:Fn) (first cap:Array Value) (w:World),(Instr.makeFunc fn first cap).run Tryz.prog w=.ok (.func fn first cap) w:=fun _ _ _ _=>rfl
 have HV:=Hd hv;obtain⟨u,s,rfl,V⟩:=hv;obtain⟨p,c,hs⟩:=V.slice;obtain⟨n,hn⟩:=zzy (T.kids.length);rw[hn]at hs;subst hs;obtain⟨w1,br⟩:=zzx (((w.alloc (.cells #[int .u8 T.kind,.string T.text,int i64 T.num,int i64 T.place,.slice p n c] 76)).alloc (.cells #[slice none 0 0,slice none 0 0] 25)).alloc (.cells #[int i64 0,int i64 0] 32));obtain⟨bt,b5,b6⟩:=xF w (.cells #[int .u8 T.kind,.string T.text,int i64 T.num,int i64 T.place,.slice p n c] 76) (.cells #[slice none 0 0,slice none 0 0] 25) (.cells #[int i64 0,int i64 0] 32);have a6:Ft w w1:=by rw[br];exact (((EB _ w).alloc (EA _) _).alloc (by simp) _).alloc (by simp;omega) _
 rw[←br]at bt b5 b6;have cq:=Hd bt;have cr:=Hd b5;have ct:=Hd b6;have cv:=Hd a6;have ad:=Hd V;have HN:=Hd hn;have cx:=Hd (lW d T _ w.heap.size w1 ⟨u,_,rfl,V.below a6⟩ a6.size b4 (ht.below a6));have ds:=Hd b4;obtain⟨e0,e1,e2,e3,e4⟩:=cells5 bt;clear bt b5 b6 a6 V hn u b4
 go_enter_defers Tryz.func24,Tryz.ntmps24
 go_upto_region 1 with fail
 change Code.wp _ _ _ _ (((w.alloc (.cells #[int .u8 T.kind,.string T.text,int i64 T.num,int i64 T.place,.slice p n c] 76)).alloc (.cells #[slice none 0 0,slice none 0 0] 25)).alloc (.cells #[int i64 0,int i64 0] 32));rw[←br];clear br;go_wp2_with fail
 refine cx.o.mono ?_;rintro e W2 ⟨rfl,a7⟩;have a8:=Hd (cv.o.trans (a7.mono cv.o.size));have b7:=aa a7 cq.o (Ez.1 cq.o).1;have cA:=aa a7 cr.o (Ez.1 cr.o).1;have b8:=aa a7 ct.o (Ez.1 ct.o).1;have dv:=Hd b7;have af:=Hd cA;have ak:=Hd b8;clear a7 cx e0 e1 e2 e3 e4
 cases R:iJ d T with
 | false =>
  have HM:Hid (iS d T=.error (4,0)):=by show _=_;unfold iS;rw[R];rfl
  clear R;have c0:W2.cell? ⟨w.heap.size+1,0,none⟩=some (slice none 0 0):=by rw[Fq _ _ _ _ _ _ af.o];rfl
  have c1:W2.cell? ⟨w.heap.size+1,1,none⟩=some (slice none 0 0):=by rw[Fq _ _ _ _ _ _ af.o];rfl
  have d0:W2.cell? ⟨w.heap.size+1+1,0,none⟩=some (int i64 0):=by rw[Fq _ _ _ _ _ _ ak.o];rfl
  have d1:W2.cell? ⟨w.heap.size+1+1,1,none⟩=some (int i64 0):=by rw[Fq _ _ _ _ _ _ ak.o];rfl
  have f1:=bT af.o;have f2:∀i,W2.frozen? ⟨w.heap.size+1+1,i,none⟩=false:=bT ak.o;obtain⟨Q,S⟩:=zzx ((((W2.setCell ⟨w.heap.size+1,0,none⟩ (slice none 0 0)).setCell ⟨w.heap.size+1,1,none⟩ (slice none 0 0)).setCell ⟨w.heap.size+1+1,0,none⟩ (int i64 4)).setCell ⟨w.heap.size+1+1,1,none⟩ (int i64 0));have HZ:=Hd (m8 af.o ak.o (show w.heap.size+1≠w.heap.size+2 by omega) (slice none 0 0) (slice none 0 0) (int i64 4) (int i64 0));have b9:Hid (Ft w Q):=by show Below _ _ _;rw[S];exact (((a8.o.setCell (p:=⟨w.heap.size+1,0,none⟩) (EV _) _).setCell (p:=⟨w.heap.size+1,1,none⟩) (EV _) _).setCell (p:=⟨w.heap.size+1+1,0,none⟩) (EG (EV _) (EV _)) _).setCell (p:=⟨w.heap.size+1+1,1,none⟩) (EG (EV _) (EV _)) _
  rw[←S]at HZ;go_wp2_with fail
  rw[←S];refine kO rfl rfl HZ.o.1 HZ.o.2 ⟨b9.o,?_⟩;rw[HM.o]
 | true =>
  have bB:(T.kind==1&&okF d T&&decide (fu d T≤30)&&decide (dA d T≤4096))=true:=R;simp only[EQ,oe]at bB;have bR:=Hd (Dy (yg ad.o) bB.1.1.2 bB.2 ds.o);have HM:Hid (iS d T=qt d T):=by show _=_;unfold iS;rw[R];rfl
  have fr:n≤4096:=by rw[←HN.o];exact bR.o.few
  clear R bB;obtain⟨M,hM⟩:=zzx (W2.heap.size);obtain⟨w4,b0⟩:=zzx (W2.alloc (.cells #[slice none 0 0,slice none 0 0,slice none 0 0,string ⟨#[]⟩,int i64 0,int i64 0,slice none 0 0,slice none 0 0] 116));have cC:w4.heap[M]?=some (.cells #[slice none 0 0,slice none 0 0,slice none 0 0,string ⟨#[]⟩,int i64 0,int i64 0,slice none 0 0,slice none 0 0] 116 (0,0)):=by rw[b0,hM];exact n7 W2 _
  have m:Hid (w.heap.size+3≤M):=by
   have:=(Ez.1 b8).1
   show _≤_
   rw[hM];omega
  have cV:Hid (Below M W2 w4):=by show Below _ _ _;rw[b0,hM];exact (EB _ W2).alloc (EA _) _
  have ec:Hid (MkB (fun _=>False) d M [] [] (slice none 0 0) (slice none 0 0) w4):=⟨fun _ h=>h.elim,⟨_,_,_,_,_,_,cC⟩,aX.nil,aX.nil⟩;have eg:Hid (M=W2.heap.size):=hM;obtain⟨e0,e1,e2,e3,e4⟩:=cells5 (aa cV.o b7 (by have:=m.o;omega));clear b7 cA b8 cC;go_upto_region 5 with fail
  rw[←hM];change Code.wp _ _ _ _ (W2.alloc (.cells #[slice none 0 0,slice none 0 0,slice none 0 0,string ⟨#[]⟩,int i64 0,int i64 0,slice none 0 0,slice none 0 0] 116));rw[←b0];clear b0 hM;go_wp2_with fail
  go_loopw [20] (ya d M T n W2) (fun i _=>n-(intOf i).toNat)
  case atStart=>exact⟨0,[],slice none 0 0,EM _,rfl,rfl,EA _,ec.o,(fun g hg=>by cases hg),cV.o⟩
  case round =>
   obtain⟨j,ts,vT,hj,rfl,E,hlen,an,cW,aq⟩:=hrel;have c5:(0:Int)≤j:=by omega
   have a1:=Hd E;have x:=Hd an;have ba:=Hd cW;have L:=Hd aq;have G:Hid (Ft w wr):=a8.o.trans (aq.mono (by have:=m.o;omega));have N:Hid (M≤wr.heap.size):=Fa an.lt;clear E an cW aq e0 e1 e2 e3 e4
   by_cases b1:j<n
   ·have ek:(j:Int)<n:=by omega
    obtain⟨K,hK⟩:∃K,T.kids[j]?=some K:=⟨_,EE (by rw[HN.o];exact b1)⟩;have W:=EU hK;have V:=(ad.o.below G.o).lift (EV d);rcases V with ⟨h0,_⟩|⟨b,off,cap,h1,h2,h3,h4,he,h6⟩
    ·rw[h0]at hK;simp at hK
    rw[HN.o]at he h3;injection he with ca _ cc
    subst ca;subst cc;obtain⟨u,sK,c0,c1,c2,c3,c4,H⟩:=h6 j K hK;obtain⟨X,y,bb⟩:=H.slice;obtain⟨O,U⟩:=zzy (K.kids.length);rw[U]at bb;subst bb;have ar:=Hd (fL (f:=j8) hK a1.o)
    by_cases B:K.kind=2
    ·have c0:wr.cell? ⟨b,off+j*5,none⟩=some (int .u8 2):=by rw[c0,B];rfl
     obtain⟨A,q⟩:=zzx (wr.alloc (.cells #[int .u8 2,.string K.text,int i64 K.num,int i64 K.place,.slice X O y] 76));have a:Ft wr A:=by rw[q];exact (EB _ wr).alloc (EA _) _
     have I:A.heap[wr.heap.size]?=some (.cells #[int .u8 2,.string K.text,int i64 K.num,int i64 K.place,.slice X O y] 76 (0,0)):=by rw[q];exact n7 wr _
     have P:=Hd a;have J:Hid (Below M W2 A):=L.o.trans (a.mono N.o);have C:=H.below (a.mono G.o.size);have ch:Hid (Calls Tryz.prog 52 #[.pointer (some ⟨M,0,none⟩),.agg #[int .u8 2,.string K.text,int i64 K.num,int i64 K.place,.slice X O y]] A (np (fun _=>False) d M [] vT (slice none 0 0) (eQ ts K) A)):=by
      have h:=zn (fun _=>False) d M ts [] vT (slice none 0 0) K X O y d A (x.o.below a) B (by omega) U (by have:=(bR.o.kid K W).1;omega) (((C.up (EG G.o.size a.size))).lift (EV _)) u.2.1;rw[B]at h;exact h
     obtain⟨k0,k1,k2,k3,k4⟩:=cells5 I;clear u H h6 h1 h2 h3 h4 hK W a I C U;go_upto_region 8 with fail
     change Code.wp _ _ _ _ (wr.alloc (.cells #[int .u8 2,.string K.text,int i64 K.num,int i64 K.place,.slice X O y] 76));rw[←q];clear q c0 c1 c2 c3 c4;go_wp2_with fail
     refine ch.o.mono ?_;rintro e Q ⟨bc,he⟩;have z:Below M W2 Q:=Chg.to_below J.o bc (fun b D=>by rcases D with rfl|⟨v,hv,D⟩;exact EA _;simp only[Fh,Ff,oB]at hv;rcases hv with rfl|rfl;exact ba.o b D;cases D) (EG N.o P.o.size)
     clear k0 k1 k2 k3 k4
     cases R:eQ ts K with
     | error er =>
      rw[R]at he;have he:e=aJ er.1 er.2:=he;subst he;have bd:w.heap.size+1<M:=by have:=m.o;omega
      refine pE (d:=d) (T:=T) (er:=er) rfl rfl (a8.o.trans (z.mono (by have:=m.o;omega))) ((z.block _ bd).trans af.o) ((z.block (w.heap.size+2) (by have:=m.o;omega)).trans ak.o) ?_;rw[HM.o];unfold qt;rw[gJ (f:=j8) (l:=T.kids) (k:=j+1) (s:=[]) (e:=er) (ar.o.trans ?_)]
      show (if K.kind==2 then eQ ts K else .ok ts)=_
      rw[B];exact R
     | ok el =>
      rw[R]at he;obtain⟨rfl,en,Y,bk⟩:=he;have HR:Hid (ya d M T n W2 (int i64 ((j+1:Nat):Int)) Q):=by
       refine⟨j+1,el,en,by omega,rfl,?_,by rw[Af R];omega,Y,fun g hg=>?_,z⟩
       ·rw[ar.o]
        show (if K.kind==2 then eQ ts K else .ok ts)=_
        rw[B];exact R
       ·rcases bk g hg with h|h
        ·exact ba.o g h
        ·exact EG (EG N.o P.o.size) h
      clear Y bk bc z R;go_wp2_with fail
      refine⟨HR.o,?_⟩;simp[intOf];omega
    ·have eo:¬((K.kind:Int)=2):=by omega
     obtain⟨A,q⟩:=zzx (wr.alloc (.cells #[int .u8 K.kind,.string K.text,int i64 K.num,int i64 K.place,.slice X O y] 76));have a:Ft wr A:=by rw[q];exact (EB _ wr).alloc (EA _) _
     have I:A.heap[wr.heap.size]?=some (.cells #[int .u8 K.kind,.string K.text,int i64 K.num,int i64 K.place,.slice X O y] 76 (0,0)):=by rw[q];exact n7 wr _
     have P:=Hd a;have J:Hid (Below M W2 A):=L.o.trans (a.mono N.o);have C:=H.below (a.mono G.o.size);obtain⟨k0,k1,k2,k3,k4⟩:=cells5 I;clear u H h6 h1 h2 h3 h4 hK W a I C U;go_upto_region 8 with fail
     change Code.wp _ _ _ _ (wr.alloc (.cells #[int .u8 K.kind,.string K.text,int i64 K.num,int i64 K.place,.slice X O y] 76));rw[←q];clear q c0 c1 c2 c3 c4;have HR:Hid (ya d M T n W2 (int i64 ((j+1:Nat):Int)) A):=by
      refine⟨j+1,ts,vT,by omega,rfl,?_,by omega,x.o.below P.o,ba.o,J.o⟩;rw[ar.o]
      show (if K.kind==2 then eQ ts K else .ok ts)=_
      rw[show (K.kind==2)=false by simpa using B];rfl
     go_wp2_with fail
     refine⟨HR.o,?_⟩;simp[intOf];omega
   ·have Z:bG j8 [] T.kids=.ok ts:=by
     rw[←a1.o,ER (by rw[HN.o];omega)]
    have b2:=Hd Z;clear Z;have c6:=aa L.o dv.o (by have:=m.o;have:=eg.o;omega);obtain⟨e0,e1,e2,e3,e4⟩:=cells5 c6;clear c6;have fs:ts.length≤4096:=by omega
    clear hlen a1;go_wp2_with fail
    go_loopw [34] (yE d M T n ts vT W2) (fun i _=>n-(intOf i).toNat)
    case atStart=>exact⟨0,[],fun _=>False,slice none 0 0,EM _,rfl,rfl,EA _,x.o,(fun g hg=>by cases hg),(fun b D=>D.elim),L.o⟩
    case round =>
     clear c5 hj b1;clear x L G;obtain⟨j,rs,F,vR,hj,rfl,E,hlen,an,b3,hF,aq⟩:=hrel;have c5:(0:Int)≤j:=by omega
     have a1:=Hd E;have x:=Hd an;have av:=Hd b3;have HF:=Hd hF;have L:=Hd aq;have G:Hid (Ft w wr):=a8.o.trans (aq.mono (by have:=m.o;omega));have N:Hid (M≤wr.heap.size):=Fa an.lt;clear E an b3 hF aq e0 e1 e2 e3 e4
     by_cases b1:j<n
     ·have ek:(j:Int)<n:=by omega
      obtain⟨K,hK⟩:∃K,T.kids[j]?=some K:=⟨_,EE (by rw[HN.o];exact b1)⟩;have W:=EU hK;have V:=(ad.o.below G.o).lift (EV d);rcases V with ⟨h0,_⟩|⟨b,off,cap,h1,h2,h3,h4,he,h6⟩
      ·rw[h0]at hK;simp at hK
      rw[HN.o]at he h3;injection he with ca _ cc
      subst ca;subst cc;obtain⟨u,sK,c0,c1,c2,c3,c4,H⟩:=h6 j K hK;obtain⟨X,y,bb⟩:=H.slice;obtain⟨O,U⟩:=zzy (K.kids.length);rw[U]at bb;subst bb;have ar:=Hd (fL (f:=j1 d ts) hK a1.o)
      by_cases B:K.kind=4
      ·have c0:wr.cell? ⟨b,off+j*5,none⟩=some (int .u8 4):=by rw[c0,B];rfl
       obtain⟨A,q⟩:=zzx (wr.alloc (.cells #[int .u8 4,.string K.text,int i64 K.num,int i64 K.place,.slice X O y] 76));have a:Ft wr A:=by rw[q];exact (EB _ wr).alloc (EA _) _
       have I:A.heap[wr.heap.size]?=some (.cells #[int .u8 4,.string K.text,int i64 K.num,int i64 K.place,.slice X O y] 76 (0,0)):=by rw[q];exact n7 wr _
       have P:=Hd a;have J:Hid (Below M W2 A):=L.o.trans (a.mono N.o);have C:=H.below (a.mono G.o.size);have ck:∀b,aL M [vT,vR] b→M≤b:=fun b D=>by
        rcases D with rfl|⟨v,hv,D⟩
        ·exact EA _
        ·simp only[Fh,Ff,oB]at hv;rcases hv with rfl|rfl
         ·exact ba.o b D
         ·exact av.o b D
       have ch:Hid (Calls Tryz.prog 53 #[.pointer (some ⟨M,0,none⟩),.agg #[int .u8 4,.string K.text,int i64 K.num,int i64 K.place,.slice X O y]] A (mo F d M ts vT vR (ee d ts rs K) A)):=by
        have h:=zk F d M ts rs vT vR K X O y w.heap.size A (x.o.below a) B (by omega) (by omega) U (by have:=(bR.o.kid K W).1;omega) (C.lift (EG (EV _) (EV _))) (EG G.o.size a.size) (fun b D=>by have:=ck b D;have:=m.o;omega) u.2.1 ⟨u.2.2.1,u.2.2.2.1⟩ ((bR.o.kid K W).2 B);rw[B]at h;exact h
       have et:=Hd ck;obtain⟨k0,k1,k2,k3,k4⟩:=cells5 I;clear u H h6 h1 h2 h3 h4 hK W a I C U ck;go_upto_region 14 with fail
       change Code.wp _ _ _ _ (wr.alloc (.cells #[int .u8 4,.string K.text,int i64 K.num,int i64 K.place,.slice X O y] 76));rw[←q];clear q c0 c1 c2 c3 c4;go_wp2_with fail
       refine ch.o.mono ?_;rintro e Q ⟨bc,he⟩;have z:Below M W2 Q:=Chg.to_below J.o bc et.o (EG N.o P.o.size);clear k0 k1 k2 k3 k4
       cases R:ee d ts rs K with
       | error er =>
        rw[R]at he;have he:e=aJ er.1 er.2:=he;subst he;have bd:w.heap.size+1<M:=by have:=m.o;omega
        refine pE (d:=d) (T:=T) (er:=er) rfl rfl (a8.o.trans (z.mono (by have:=m.o;omega))) ((z.block _ bd).trans af.o) ((z.block (w.heap.size+2) (by have:=m.o;omega)).trans ak.o) ?_;rw[HM.o];unfold qt;rw[b2.o];dsimp only;rw[gJ (f:=j1 d ts) (l:=T.kids) (k:=j+1) (s:=[]) (e:=er) (ar.o.trans ?_)]
        show (if K.kind==4 then ee d ts rs K else .ok rs)=_
        rw[B];exact R
       | ok ev =>
        rw[R]at he;obtain⟨rfl,F2,e5,Y,bk,e6,c7⟩:=he;have HR:Hid (yE d M T n ts vT W2 (int i64 ((j+1:Nat):Int)) Q):=by
         refine⟨j+1,ev,F2,e5,by omega,rfl,?_,by rw[Ax R];omega,Y,fun g hg=>?_,fun b D=>?_,z⟩
         ·rw[ar.o]
          show (if K.kind==4 then ee d ts rs K else .ok rs)=_
          rw[B];exact R
         ·rcases bk g hg with h|h
          ·exact av.o g h
          ·exact EG (EG N.o P.o.size) h
         ·rcases c7 b D with h|h
          ·exact HF.o b h
          ·exact EG (EG N.o P.o.size) h
        clear Y bk e6 c7 bc z R;go_wp2_with fail
        refine⟨HR.o,?_⟩;simp[intOf];omega
      ·have eo:¬((K.kind:Int)=4):=by omega
       obtain⟨A,q⟩:=zzx (wr.alloc (.cells #[int .u8 K.kind,.string K.text,int i64 K.num,int i64 K.place,.slice X O y] 76));have a:Ft wr A:=by rw[q];exact (EB _ wr).alloc (EA _) _
       have I:A.heap[wr.heap.size]?=some (.cells #[int .u8 K.kind,.string K.text,int i64 K.num,int i64 K.place,.slice X O y] 76 (0,0)):=by rw[q];exact n7 wr _
       have P:=Hd a;have J:Hid (Below M W2 A):=L.o.trans (a.mono N.o);have C:=H.below (a.mono G.o.size);obtain⟨k0,k1,k2,k3,k4⟩:=cells5 I;clear u H h6 h1 h2 h3 h4 hK W a I C U;go_upto_region 14 with fail
       change Code.wp _ _ _ _ (wr.alloc (.cells #[int .u8 K.kind,.string K.text,int i64 K.num,int i64 K.place,.slice X O y] 76));rw[←q];clear q c0 c1 c2 c3 c4;have HR:Hid (yE d M T n ts vT W2 (int i64 ((j+1:Nat):Int)) A):=by
        refine⟨j+1,rs,F,vR,by omega,rfl,?_,by omega,x.o.below P.o,av.o,HF.o,J.o⟩;rw[ar.o]
        show (if K.kind==4 then ee d ts rs K else .ok rs)=_
        rw[show (K.kind==4)=false by simpa using B];rfl
       go_wp2_with fail
       refine⟨HR.o,?_⟩;simp[intOf];omega
     ·have Z:bG (j1 d ts) [] T.kids=.ok rs:=by
       rw[←a1.o,ER (by rw[HN.o];omega)]
      have c8:Hid (iS d T=.ok ⟨ts,rs⟩):=by
       show _=_
       rw[HM.o];unfold qt;rw[b2.o];dsimp only;rw[Z]
      obtain⟨pT,cT,c9⟩:=x.o.t.shape;obtain⟨pR,cR,da⟩:=x.o.r.shape;obtain⟨nT,dc⟩:=zzy (ts.length);obtain⟨nR,dd⟩:=zzy (rs.length);rw[dc]at c9;rw[dd]at da;subst c9;subst da;have e7:w.heap.size+1<M:=by have:=m.o;omega
      have e8:w.heap.size+2<M:=by have:=m.o;omega
      have bl:=(L.o.block _ e7).trans af.o;have bn:=(L.o.block _ e8).trans ak.o;have m0:=x.o.cells.1;have m1:=x.o.cells.2;have c0:wr.cell? ⟨w.heap.size+1,0,none⟩=some (slice none 0 0):=by rw[Fq _ _ _ _ _ _ bl];rfl
      have c1:wr.cell? ⟨w.heap.size+1,1,none⟩=some (slice none 0 0):=by rw[Fq _ _ _ _ _ _ bl];rfl
      have d0:wr.cell? ⟨w.heap.size+1+1,0,none⟩=some (int i64 0):=by rw[Fq _ _ _ _ _ _ bn];rfl
      have d1:wr.cell? ⟨w.heap.size+1+1,1,none⟩=some (int i64 0):=by rw[Fq _ _ _ _ _ _ bn];rfl
      have f1:=bT bl;have f2:∀i,wr.frozen? ⟨w.heap.size+1+1,i,none⟩=false:=bT bn;obtain⟨Q,S⟩:=zzx ((((wr.setCell ⟨w.heap.size+1,0,none⟩ (.slice pT nT cT)).setCell ⟨w.heap.size+1,1,none⟩ (.slice pR nR cR)).setCell ⟨w.heap.size+1+1,0,none⟩ (int i64 0)).setCell ⟨w.heap.size+1+1,1,none⟩ (int i64 0));have HZ:=Hd (m8 bl bn (show w.heap.size+1≠w.heap.size+2 by omega) (.slice pT nT cT) (.slice pR nR cR) (int i64 0) (int i64 0));rw[←S]at HZ;have b9:Hid (Ft w Q):=by show Below _ _ _;rw[S];exact (((G.o.setCell (p:=⟨w.heap.size+1,0,none⟩) (EV _) _).setCell (p:=⟨w.heap.size+1,1,none⟩) (EV _) _).setCell (p:=⟨w.heap.size+1+1,0,none⟩) (EG (EV _) (EV _)) _).setCell (p:=⟨w.heap.size+1+1,1,none⟩) (EG (EV _) (EV _)) _
      have cl:∀b,M≤b∧b<wr.heap.size→∀o,wr.heap[b]?=some o→Q.heap[b]?=some o:=fun b D o ho=>by
       rw[S,ED _ _ _ _ (show b≠w.heap.size+1+1 by omega),ED _ _ _ _ (show b≠w.heap.size+1+1 by omega),ED _ _ _ _ (show b≠w.heap.size+1 by omega),ED _ _ _ _ (show b≠w.heap.size+1 by omega)];exact ho
      have dg:Q.heap.size=wr.heap.size:=by rw[S];simp[World.setCell]
      have bq:∀b,M≤b∧b<wr.heap.size→bj w Q b:=fun b D=>⟨by omega,by rw[dg];exact D.2⟩
      have e9:Hid (bo.row Q (bj w Q) ts (.slice pT nT cT)):=Rd.row_sub bq (Rd.row_keep cl (x.o.t.row (fun b D=>⟨HF.o b D,(x.o.f b D).1⟩) (fun g hg=>⟨ba.o g hg,x.o.t.lt hg⟩)));have fm:Hid ((bh d).row Q (bj w Q) rs (.slice pR nR cR)):=Rd.row_sub bq (Rd.row_keep cl (x.o.r.row (fun b D=>⟨HF.o b D,(x.o.f b D).1⟩) (fun g hg=>⟨av.o g hg,x.o.r.lt hg⟩)));clear Z bl bn cl dg bq dc dd;go_wp2_with fail
      rw[←S];refine zj rfl rfl HZ.o.1 HZ.o.2 ⟨b9.o,?_⟩;rw[c8.o];exact⟨_,_,rfl,e9.o,fm.o⟩
def fW(s:ByteArray):Except Flt cd:=if (ft s).2.1=0 then iS 30 (ft s).1 else .error (ft s).2
theorem lI{W:World}{tmps:Array Value}{R:Ending→World→Prop}{r f:Nat}{a b x y:Value}(h:tmps.getD 2 undef=.pointer (some ⟨r,0,none⟩))(i:tmps.getD 3 undef=.pointer (some ⟨f,0,none⟩))
  (e:W.heap[r]?=some (.cells #[a,b] 25 (0,0))) (g:W.heap[f]?=some (.cells #[x,y] 32 (0,0))) (j:R (.returned (.tuple #[.agg #[a,b],.agg #[x,y]])) W):bodyPost Tryz.prog Tryz.f10 R .ret ⟨tmps,[]⟩ W:=by
 have k:W.cell? ⟨r,0,none⟩=some a:=by simp[World.cell?,e]
 have l:W.cell? ⟨r,1,none⟩=some b:=by simp[World.cell?,e]
 have d0:W.cell? ⟨f,0,none⟩=some x:=by simp[World.cell?,g]
 have d1:W.cell? ⟨f,1,none⟩=some y:=by simp[World.cell?,g]
 have c:tmps[2]?.getD undef=.pointer (some ⟨r,0,none⟩):=by simpa using h
 have d:tmps[3]?.getD undef=.pointer (some ⟨f,0,none⟩):=by simpa using i
 refine bodyPost_ret (v:=.tuple #[.agg #[a,b],.agg #[x,y]]) ?_ rfl j;simp[results,Tryz.results10,go_sem,c,d,k,l,d0,d1]
theorem pL(s:ByteArray)(w:World)(ht:aM w):Calls Tryz.prog 10 #[.string s] w (ow 30 (fW s) w):=by
 obtain⟨w1,G⟩:=zzx ((w.alloc (.cells #[slice none 0 0,slice none 0 0] 25)).alloc (.cells #[int i64 0,int i64 0] 32));obtain⟨U,V,_⟩:=am w (.cells #[slice none 0 0,slice none 0 0] 25) (.cells #[int i64 0,int i64 0] 32);have X:Ft w w1:=by rw[G];exact ((EB _ w).alloc (EA _) _).alloc (by simp) _
 rw[←G]at U V;have ar:=Hd U;have av:=Hd V;have a1:=Hd X;have HP:=Hd (vw s w1 (ht.below X));have HT:=Hd (fun W (hW:Ft w W)=>ht.below hW);clear U V X
 go_enter Tryz.func10,Tryz.ntmps10
 go_upto_region 1 with fail
 change Code.wp _ _ _ _ ((w.alloc (.cells #[slice none 0 0,slice none 0 0] 25)).alloc (.cells #[int i64 0,int i64 0] 32));rw[←G];clear G;go_wp2_with fail
 refine HP.o.mono ?_;rintro e W2 ⟨sl,rfl,H,h,t,f,_⟩;obtain⟨⟨T,er,pl⟩,Y⟩:∃x,ft s=x:=⟨_,rfl⟩;rw[Y]at h t f ⊢;have a6:=Hd Y;obtain⟨p,c,a7⟩:=h.shape;obtain⟨n,hn⟩:=zzy (T.kids.length);have b1:sl=.slice p n c:=by rw[a7,←hn]
 subst b1;have z:aD W2 W2.heap.size 30 T.kids (.slice p n c):=h.kids (fun b I=>I.2);have a8:=Hd (a1.o.trans (H.mono a1.o.size));have h0:=aa H ar.o (Ez.1 ar.o).1;have q:=aa H av.o (Ez.1 av.o).1;obtain⟨a,J⟩:=zzx ((W2.alloc (.cells #[int .u8 T.kind,.string T.text,int i64 T.num,int i64 T.place,.slice p n c] 76)).alloc (.cells #[int i64 er,int i64 pl] 32));obtain⟨Z,g,_⟩:=am W2 (.cells #[int .u8 T.kind,.string T.text,int i64 T.num,int i64 T.place,.slice p n c] 76) (.cells #[int i64 er,int i64 pl] 32);have k:Ft W2 a:=by rw[J];exact ((EB _ W2).alloc (EA _) _).alloc (by simp) _
 rw[←J]at Z g;have A:=Hd (a8.o.trans (k.mono a8.o.size));have K:=Hd (aa k h0 (Ez.1 h0).1);have ad:=Hd (aa k q (Ez.1 q).1);have ba:Hid (w.heap.size+2≤W2.heap.size):=by
  have:=(Ez.1 q).1
  show _≤_;omega
 have HM:=Hd (Bv 30 T _ a ⟨t,_,rfl,(z.below k).up k.size⟩ (f 30).slim (HT.o a A.o));have b2:=Hd Z;have L:=Hd g;clear Y h t f a7 hn z H h0 q k Z g;go_upto_region 2 with fail
 change Code.wp _ _ _ _ ((W2.alloc (.cells #[int .u8 T.kind,.string T.text,int i64 T.num,int i64 T.place,.slice p n c] 76)).alloc (.cells #[int i64 er,int i64 pl] 32));rw[←J];clear J;obtain⟨n0,n1,n2,n3,n4⟩:=cells5 b2.o;have g0:a.cell? ⟨W2.heap.size+1,0,none⟩=some (int i64 er):=by rw[Fq _ _ _ _ _ _ L.o];rfl
 have g1:a.cell? ⟨W2.heap.size+1,1,none⟩=some (int i64 pl):=by rw[Fq _ _ _ _ _ _ L.o];rfl
 by_cases M:er=0
 ·have N:Hid (fW s=iS 30 T):=by show _=_;unfold fW;rw[a6.o,n9 M]
  subst M;go_wp2_with fail
  refine HM.o.mono ?_;rintro e r ⟨af,he⟩;have B:=aa af K.o (Ez.1 K.o).1;have C:=aa af ad.o (Ez.1 ad.o).1;have b3:=Hd (A.o.trans (af.mono A.o.size));have c0:r.cell? ⟨w.heap.size,0,none⟩=some (slice none 0 0):=by rw[Fq _ _ _ _ _ _ B];rfl
  have c1:r.cell? ⟨w.heap.size,1,none⟩=some (slice none 0 0):=by rw[Fq _ _ _ _ _ _ B];rfl
  have d0:r.cell? ⟨w.heap.size+1,0,none⟩=some (int i64 0):=by rw[Fq _ _ _ _ _ _ C];rfl
  have d1:r.cell? ⟨w.heap.size+1,1,none⟩=some (int i64 0):=by rw[Fq _ _ _ _ _ _ C];rfl
  have f1:=bT B;have f2:=bT C;have b4:=Hd B;have b5:=Hd C;clear B C n0 n1 n2 n3 n4 g0 g1 HM;have fin:∀x y u v,Ft w ((((r.setCell ⟨w.heap.size,0,none⟩ x).setCell ⟨w.heap.size,1,none⟩ y).setCell ⟨w.heap.size+1,0,none⟩ u).setCell ⟨w.heap.size+1,1,none⟩ v):=fun x y u v =>(((b3.o.setCell (p:=⟨w.heap.size,0,none⟩) (EA _) _).setCell (p:=⟨w.heap.size,1,none⟩) (EA _) _).setCell (p:=⟨w.heap.size+1,0,none⟩) (EV _) _).setCell (p:=⟨w.heap.size+1,1,none⟩) (EV _) _
  have O:=Hd fin;have bb:∀x y u v,_:=fun x y u v=>m8 b4.o b5.o (show w.heap.size≠w.heap.size+1 by omega) x y u v
  have bc:=Hd bb;clear fin bb
  cases l:iS 30 T with
  | error er =>
   rw[l]at he;have he:e=.returned (.tuple #[.agg #[slice none 0 0,slice none 0 0],.agg #[int i64 er.1,int i64 er.2]]):=he;subst he;have D:Hid (fW s=.error er):=N.o.trans l;clear l;go_wp2_with fail
   have hz:=bc.o (slice none 0 0) (slice none 0 0) (int i64 er.1) (int i64 er.2);refine lI rfl rfl hz.1 hz.2 ⟨O.o _ _ _ _,?_⟩;rw[D.o]
  | ok R =>
   rw[l]at he;obtain⟨st,sr,rfl,ak,an⟩:=he;have D:Hid (fW s=.ok R):=N.o.trans l;obtain⟨pT,cT,bd⟩:=Rd.row_shape ak;obtain⟨pR,cR,bk⟩:=Rd.row_shape an;obtain⟨nT,bl⟩:=zzy (R.types.length);obtain⟨nR,bn⟩:=zzy (R.rules.length);rw[bl]at bd;rw[bn]at bk;subst bd;subst bk;have b6:=Hd ak;have b7:=Hd an;have b8:=A.o.size;have bq:W2.heap.size+1<a.heap.size:=(Ez.1 L.o).1;have br:Hid (w.heap.size+2≤a.heap.size):=by have:=ba.o;show _≤_;omega
   clear l ak an bl bn b8 bq;go_wp2_with fail
   have hz:=bc.o (.slice pT nT cT) (.slice pR nR cR) (int i64 0) (int i64 0);refine lI rfl rfl hz.1 hz.2 ⟨O.o _ _ _ _,?_⟩;rw[D.o];have b9:((((r.setCell ⟨w.heap.size,0,none⟩ (.slice pT nT cT)).setCell ⟨w.heap.size,1,none⟩ (.slice pR nR cR)).setCell ⟨w.heap.size+1,0,none⟩ (int i64 0)).setCell ⟨w.heap.size+1,1,none⟩ (int i64 0)).heap.size=r.heap.size:=by simp[World.setCell]
   have m:∀b,bj a r b→∀o,r.heap[b]?=some o→((((r.setCell ⟨w.heap.size,0,none⟩ (.slice pT nT cT)).setCell ⟨w.heap.size,1,none⟩ (.slice pR nR cR)).setCell ⟨w.heap.size+1,0,none⟩ (int i64 0)).setCell ⟨w.heap.size+1,1,none⟩ (int i64 0)).heap[b]?=some o:=fun b I o ho=>by
    have q:=I.1;have P:=br.o;rw[ED _ _ _ _ (show b≠w.heap.size+1 by omega),ED _ _ _ _ (show b≠w.heap.size+1 by omega),ED _ _ _ _ (show b≠w.heap.size by omega),ED _ _ _ _ (show b≠w.heap.size by omega)];exact ho
   have Q:∀b,bj a r b→bj w ((((r.setCell ⟨w.heap.size,0,none⟩ (.slice pT nT cT)).setCell ⟨w.heap.size,1,none⟩ (.slice pR nR cR)).setCell ⟨w.heap.size+1,0,none⟩ (int i64 0)).setCell ⟨w.heap.size+1,1,none⟩ (int i64 0)) b:=fun b I=>⟨by have:=I.1;have:=br.o;omega,by rw[b9];exact I.2⟩
   exact⟨_,_,rfl,Rd.row_sub Q (Rd.row_keep m b6.o),Rd.row_sub Q (Rd.row_keep m b7.o)⟩
 ·have N:Hid (fW s=.error (er,pl)):=by show _=_;unfold fW;rw[a6.o,n8 M]
  have cl:decide (er=0)=false:=oc M;go_upto_region 3 with fail
  obtain⟨d,E⟩:=zzx (a.drew.setCells w.heap.size 0 [slice none 0 0,slice none 0 0]);have m:∀b,b≠w.heap.size→d.heap[b]?=a.heap[b]?:=fun b I=>by
   rw[E]
   show ((a.drew.setCell ⟨w.heap.size,0,none⟩ (slice none 0 0)).setCell ⟨w.heap.size,1,none⟩ (slice none 0 0)).heap[b]?=_
   rw[ED _ _ _ _ I,ED _ _ _ _ I];rfl
  have S:W2.heap.size+1≠w.heap.size:=by have:=ba.o;omega
  have g:d.heap[W2.heap.size+1]?=some (.cells #[int i64 er,int i64 pl] 32 (0,0)):=(m _ S).trans L.o;have bt:d.heap[w.heap.size+1]?=some (.cells #[int i64 0,int i64 0] 32 (0,0)):=(m _ (by omega)).trans ad.o;have bB:d.heap[w.heap.size]?=some (.cells #[slice none 0 0,slice none 0 0] 25 (0,0)):=by
   rw[E];have q:(a.drew.setCell ⟨w.heap.size,0,none⟩ (slice none 0 0)).heap[w.heap.size]?=some (.cells #[slice none 0 0,slice none 0 0] 25 (0,0)):=heap_set (show a.drew.heap[w.heap.size]?=_ from K.o) 0 _;have P:((a.drew.setCell ⟨w.heap.size,0,none⟩ (slice none 0 0)).setCell ⟨w.heap.size,1,none⟩ (slice none 0 0)).heap[w.heap.size]?=some (.cells #[slice none 0 0,slice none 0 0] 25 (0,0)):=heap_set q 1 _;exact P
  have bR:Ft w d:=by
   rw[E];exact ((A.o.drew).setCell (p:=⟨w.heap.size,0,none⟩) (EA _) _).setCell (p:=⟨w.heap.size,1,none⟩) (EA _) _
  have G0:=fun x:RE.Two a.drew d=>RE.Two.cell (p:=⟨W2.heap.size+1,0,none⟩) (show a.drew.cell? ⟨W2.heap.size+1,0,none⟩=_ from g0) (by rw[Fq _ _ _ _ _ _ g];rfl) x
  have G1:=fun x:RE.Two a.drew d=>RE.Two.cell (p:=⟨W2.heap.size+1,1,none⟩) (show a.drew.cell? ⟨W2.heap.size+1,1,none⟩=_ from g1) (by rw[Fq _ _ _ _ _ _ g];rfl) x
  have ca:=Hd E;have aq:=Hd bt;have cc:=Hd bB;have ch:=Hd bR;clear E m g bt bB bR S n0 n1 n2 n3 n4 g0 g1;refine RE.wp_region_eff (by kernel_rfl) 3 [2] [2] (fun s W=>if s=0 then W=a.drew else W=d) (fun _ _=>True) (fun _ _=>undef) (fun _ _ _=>True) (by kernel_rfl) (fun i q P=>by rw[q]at P;cases P) (fun _ _ _ _ _ _ _=>trivial) rfl ?_;simp only[EK,ET,EL,ES]
  repeat (refine RE.wpE_read (fun W=>∃x:RE.Two a.drew d,W=x.1) RE.two_class rfl rfl rfl rfl ?_;go_big_quiet_step (fail);refine wpQuiet_nil ?_)
  refine RE.wpE_turn rfl rfl ?_ (fun xs=>?_)
  ·intro W hC hS _;obtain rfl:W=a.drew:=hS rfl;refine RE.upon_skip (w':=a.drew.setCells w.heap.size 0 [slice none 0 0,slice none 0 0]) ?_ ⟨[],rfl,ca.o.symm,trivial,trivial⟩;refine RE.run_store_agg 25 (.tmp 2) (.tmp 14) rfl w.heap.size 0 #[slice none 0 0,slice none 0 0] rfl rfl ?_ (by kernel_rfl) (by simp[Value.oneCell']);intro j hj;have hj:j<2:=hj;have hh:a.drew.heap[w.heap.size]?=_:=K.o;rw[Fq _ _ _ _ _ _ hh,ao hh];have:j=0∨j=1:=by omega
   rcases this with rfl|rfl<;>exact⟨rfl,rfl⟩
  simp only[Act.put];refine RE.wpE_nil ?_;intro W hS _;have hS:W=d:=hS;rw[hS];clear hS G0 G1;refine wpList_store_mid rfl 32 (.tmp 3) (.tmp 15) rfl (w.heap.size+1) 0 #[int i64 er,int i64 pl] rfl rfl ?_ (by kernel_rfl) (by simp[Value.oneCell']) ?_
  ·intro j hj;have hj:j<2:=hj;rw[Fq _ _ _ _ _ _ aq.o,ao aq.o];have:j=0∨j=1:=by omega
   rcases this with rfl|rfl<;>exact⟨rfl,rfl⟩
  have F:((d.setCell ⟨w.heap.size+1,0,none⟩ (int i64 er)).setCell ⟨w.heap.size+1,1,none⟩ (int i64 pl)).heap[w.heap.size]?=some (.cells #[slice none 0 0,slice none 0 0] 25 (0,0)):=by
   rw[ED _ _ _ _ (show w.heap.size≠w.heap.size+1 by omega),ED _ _ _ _ (show w.heap.size≠w.heap.size+1 by omega)];exact cc.o
  have q:(d.setCell ⟨w.heap.size+1,0,none⟩ (int i64 er)).heap[w.heap.size+1]?=some (.cells #[int i64 er,int i64 0] 32 (0,0)):=heap_set aq.o 0 _;have P:((d.setCell ⟨w.heap.size+1,0,none⟩ (int i64 er)).setCell ⟨w.heap.size+1,1,none⟩ (int i64 pl)).heap[w.heap.size+1]?=some (.cells #[int i64 er,int i64 pl] 32 (0,0)):=heap_set q 1 _;have b0:Ft w ((d.setCell ⟨w.heap.size+1,0,none⟩ (int i64 er)).setCell ⟨w.heap.size+1,1,none⟩ (int i64 pl)):=(ch.o.setCell (p:=⟨w.heap.size+1,0,none⟩) (EV _) _).setCell (p:=⟨w.heap.size+1,1,none⟩) (EV _) _;have HL:=Hd F;have H2:=Hd P;have ck:=Hd b0;clear F q P b0;change wpList _ _ _ _ _ ((d.setCell ⟨w.heap.size+1,0,none⟩ (int i64 er)).setCell ⟨w.heap.size+1,1,none⟩ (int i64 pl));go_wp2_with fail
  refine lI rfl rfl HL.o H2.o ⟨ck.o,?_⟩;rw[N.o]
