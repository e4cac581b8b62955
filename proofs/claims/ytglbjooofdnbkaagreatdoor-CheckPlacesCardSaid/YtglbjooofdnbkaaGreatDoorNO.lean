/- Several texts joined, each with its own sentence and conditions ahead of it: MkPl, MkCa, MkMa, MkSo. -/
import Derived.Test.YtglbjooofdnbkaaGreatDoorNN
import Derived.Test.YtglbjooofdnbkaaGreatDoorNA
import Derived.Test.YtglbjooofdnbkaaGreatDoorME
import Derived.Test.YtglbjooofdnbkaaGreatDoorMM
import Derived.Defers
import Derived.Recover
import Derived.Test.YtglbjooofdnbkaaGreatDoorMJ
import Derived.Test.YtglbjooofdnbkaaGreatDoorMZK
namespace Go.Proofs.YtglbjooofdnbkaaGreatDoor
set_option maxHeartbeats 16000000
set_option maxRecDepth 100000
open Go.RowKit
theorem KidsAt.lift {w:World}{B d d':Nat}{ks:List Tree}{sl:Value}(h:KidsAt w B d ks sl)(hd:d≤d'):KidsAt w B d' ks sl:=by
 induction hd with
 | refl=>exact h
 | step _ ih=>exact ih.more
theorem kids_exact {w:World}{B:Nat}:∀{d:Nat}{T:Tree}{sl:Value},KidsAt w B d T.kids sl→exactT d T:=by
 intro d
 induction d with
 | zero=>intro T sl h;exact h.1
 | succ d ih =>
  intro T sl h k hk
  rcases h with ⟨h0,_⟩|⟨b,off,cap,_,_,_,_,_,h6⟩
  ·rw[h0] at hk;simp at hk
  ·obtain⟨i,hi⟩:=List.getElem?_of_mem hk
   obtain⟨_,s,_,_,_,_,_,hkk⟩:=h6 i k hi
   exact ih hkk
theorem spare_of:∀{d:Nat}{T:Tree},Slim d T→Spare d T
 | 0,_,h=>h
 | _d+1,_,h=>⟨h.1,h.2.1,fun k hk=>spare_of (h.2.2 k hk)⟩
theorem Spare.more:∀{d:Nat}{T:Tree},exactT d T→Spare d T→Spare (d+1) T
 | 0,T,he,h=>⟨h,by rw[show T.kids=[] from he];exact Nat.zero_le _,fun k hk=>by rw[show T.kids=[] from he] at hk;simp at hk⟩
 | d+1,T,he,h=>⟨h.1,h.2.1,fun k hk=>Spare.more (he k hk) (h.2.2 k hk)⟩
theorem exact_lift {d d':Nat}{T:Tree}(he:exactT d T)(hd:d≤d'):exactT d' T:=by
 induction hd with
 | refl=>exact he
 | step _ ih=>exact ih.more
theorem Spare.lift {d d':Nat}{T:Tree}(he:exactT d T)(h:Spare d T)(hd:d≤d'):Spare d' T:=by
 induction hd with
 | refl=>exact h
 | step hm ih=>exact Spare.more (exact_lift he hm) ih
theorem foldl_addP:∀(l:List Nat)(c:Nat),l.foldl (· + ·) c=c+l.foldl (· + ·) 0
 | [],c=>rfl
 | x::l,c=>by
  rw[List.foldl_cons,List.foldl_cons,foldl_addP l (c+x),foldl_addP l (0+x)]
  omega
theorem many_posP:∀(d:Nat)(T:Tree),1≤manyF d T
 | 0,_=>Nat.le_refl _
 | d+1,T=>by
  show 1≤(T.kids.map (manyF d)).foldl (· + ·) 1
  rw[foldl_addP];omega
theorem many_sum (f:Tree→Nat)(hf:∀T,1≤f T):∀(l:List Tree),l.length≤(l.map f).foldl (· + ·) 0∧∀k∈l,f k≤(l.map f).foldl (· + ·) 0
 | []=>⟨Nat.le_refl _,fun k hk=>by simp at hk⟩
 | z::l=>by
  obtain⟨h1,h2⟩:=many_sum f hf l
  rw[List.map_cons,List.foldl_cons,foldl_addP]
  refine⟨by have:=hf z;simp only[List.length_cons];omega,fun k hk=>?_⟩
  rcases List.mem_cons.1 hk with rfl|hk
  ·omega
  ·have:=h2 k hk;omega
theorem many_kids {d:Nat}{T:Tree}:T.kids.length<manyF (d+1) T∧∀k∈T.kids,manyF d k<manyF (d+1) T:=by
 obtain⟨h1,h2⟩:=many_sum (manyF d) (many_posP d) T.kids
 have e:manyF (d+1) T=(T.kids.map (manyF d)).foldl (· + ·) 1:=rfl
 rw[e,foldl_addP]
 exact⟨by omega,fun k hk=>by have:=h2 k hk;omega⟩
theorem kids_few:∀{d:Nat}{T:Tree},exactT d T→manyF d T≤4096→T.kids.length≤4096
 | 0,T,he,_=>by rw[show T.kids=[] from he];exact Nat.zero_le _
 | d+1,T,_,h=>by have:=(many_kids (d:=d) (T:=T)).1;omega
theorem part_of {D d:Nat}{K:Tree}(hD:d≤D+1)(he:exactT d K)(hok:okF d K=true)(hm:manyF d K≤4096)(hsp:Spare d K):PartOk D K:=by
 have hl:=okF_level hok
 obtain⟨_,hk,hn⟩:=level_text hl
 have kid:∀k∈K.kids,Spare D k∧k.text.size≤72007:=fun k hk=>by
  cases d with
  | zero=>rw[show K.kids=[] from he] at hk;simp at hk
  | succ d=>exact⟨Spare.lift (he k hk) (hsp.2.2 k hk) (by omega),(hsp.2.2 k hk).text⟩
 refine⟨?_,by have:=kids_few he hm;omega,fun h=>?_,fun h=>?_,fun h k hk'=>(kid k hk').1⟩
 ·unfold numOk at hn
  unfold I64
  split at hn
  ·simp only[Bool.and_eq_true,decide_eq_true_eq] at hn;omega
  ·split at hn
   ·simp only[Bool.and_eq_true,decide_eq_true_eq] at hn;omega
   ·have:K.num=0:=by simpa using hn
    omega
 ·intro k hk'
  have ha:among [12,13,14,15] K.kids=true:=by
   unfold kidsOk at hk
   rcases h with h|h<;>rw[h] at hk<;>exact hk
  have:=List.all_eq_true.1 ha k hk'
  refine⟨?_,(kid k hk').2⟩
  simpa using this
 ·have ha:(K.kids.length==1&&exprsB K.kids)=true:=by
   unfold kidsOk at hk
   rw[h] at hk;exact hk
  simp only[Bool.and_eq_true,beq_iff_eq] at ha
  cases hkk:K.kids with
  | nil=>rw[hkk] at ha;simp at ha
  | cons t r=>exact⟨t,r,rfl,(kid t (by rw[hkk];simp)).1⟩
structure ProgOk (D:Nat) (T:Tree):Prop where
 few:T.kids.length≤4096
 kid:∀k∈T.kids,k.kids.length≤4096∧(k.kind=4→∀K∈k.kids,PartOk D K)
theorem prog_of {D:Nat}{T:Tree}(he:exactT D T)(hok:okF D T=true)(hm:manyF D T≤4096)(hsl:Slim D T):ProgOk D T:=by
 have hsp:=spare_of hsl
 cases D with
 | zero=>exact⟨by rw[show T.kids=[] from he];exact Nat.zero_le _,fun k hk=>by rw[show T.kids=[] from he] at hk;simp at hk⟩
 | succ d =>
  have h1:=(many_kids (d:=d) (T:=T)).1
  refine⟨by omega,fun k hk=>?_⟩
  have hmk:=(many_kids (d:=d) (T:=T)).2 k hk
  have hek:=he k hk
  have hokk:okF d k=true:=by
   have:(levelOk T&&T.kids.all (okF d))=true:=hok
   simp only[Bool.and_eq_true] at this
   exact List.all_eq_true.1 this.2 k hk
  refine⟨kids_few hek (by omega),fun h4 K hK=>?_⟩
  cases d with
  | zero=>rw[show k.kids=[] from hek] at hK;simp at hK
  | succ d =>
   have hm2:=(many_kids (d:=d) (T:=k)).2 K hK
   have hok2:okF d K=true:=by
    have:(levelOk k&&k.kids.all (okF d))=true:=hokk
    simp only[Bool.and_eq_true] at this
    exact List.all_eq_true.1 this.2 K hK
   exact part_of (by omega) (hek K hK) hok2 (by omega) (((hsp.2.2 k hk)).2.2 K hK)
theorem catch_fault (r f:Nat)(er pl:Int)(older:List PanicEntry)(a0 a1 b0 b1:Value)(w:World)(hr:w.heap[r]? = some (.cells #[a0,a1] 32 (0,0)))(hf:w.heap[f]? = some (.cells #[b0,b1] 35 (0,0)))(hne:r≠f) :
  CallsD Tryz.prog 15 #[.pointer (some ⟨r,0,none⟩),.pointer (some ⟨f,0,none⟩)] (.panicking ({ v:=.iface 35 (.agg #[.int .i64 er,.int .i64 pl]),recovered:=false }::older)) w fun e u' w' =>
   e=.returned (.tuple #[])∧u'=.panicking ({ v:=.iface 35 (.agg #[.int .i64 er,.int .i64 pl]),recovered:=true }::older) ∧
   Chg (fun b=>b=r∨b=f) w w'∧w'.heap[r]? = some (.cells #[.slice none 0 0,.slice none 0 0] 32 (0,0))∧w'.heap[f]? = some (.cells #[.int .i64 er,.int .i64 pl] 35 (0,0)):=by
 refine callsD_of_wpS Tryz.func15 rfl fun c₀ cs hu=>?_
 apply wpS_seq
 apply wpS_region
 simp[wpOpsS,go_sem,recoverD,hu,Tryz.ntmps15,Exit.thenS]
 apply wpS_seq
 apply wpS_region
 simp[wpOpsS,go_sem,Exit.thenS]
 refine wpS_cond (t:=true) (by simp[Act.eval,Array.replicate]) ?_
 simp only[if_true]
 refine wpS_of_wp ?_
 change Code.wp _ _ _ ⟨#[.pointer (some ⟨r,0,none⟩),.pointer (some ⟨f,0,none⟩),.iface 35 (.agg #[.int .i64 er,.int .i64 pl]),.iface 35 (.agg #[.int .i64 er,.int .i64 pl]),.iface 35 (.agg #[.int .i64 er,.int .i64 pl]),.bool true,undef,undef,undef],[]⟩ w
 refine RE.wp_region_eff (by kernel_rfl) 4 [2,3] [3] (fun s W=>if s=0 then Below w.heap.size w W else Chg (fun b=>b=r) w W∧W.heap[r]? = some (.cells #[.slice none 0 0,.slice none 0 0] 32 (0,0))) (fun _ _=>True) (fun i _=>if i=2 then .agg #[.int .i64 er,.int .i64 pl] else undef) (fun _ _ _=>True) (by kernel_rfl) ?_ (fun _ _ _ _ _ _ _=>trivial) (Below.refl _ _).drew ?_
 ·intro i h1 h2 s W W' h hb
  split at h
  ·rw[if_pos (by assumption)]
   exact h.trans (hb.mono h.size)
  ·rw[if_neg (by assumption)]
   exact⟨h.1.trans (Chg.of_below hb),heap_below hb h.2 (Array.getElem?_eq_some_iff.1 h.2).1⟩
 simp only[List.take_succ_cons,List.take_zero,List.drop_succ_cons,List.drop_zero]
 have hrd:∀(m s:Nat) (W:World),s≤m→(if s=0 then Below w.heap.size w W else Chg (fun b=>b=r) w W∧W.heap[r]? = some (.cells #[.slice none 0 0,.slice none 0 0] 32 (0,0)))→∃x:Ks w (fun _=>False),W=x.1:=fun _ _ W _ _=>⟨⟨W,fun _ h=>h.elim⟩,rfl⟩
 repeat (refine RE.wpE_read (fun W=>∃x:Ks w (fun _=>False),W=x.1) (hrd _) rfl rfl rfl (Below.refl _ _).drew ?_;go_big_quiet_step (fail);refine wpQuiet_nil ?_)
 refine RE.wpE_turn rfl rfl ?_ (fun ys=>?_)
 ·intro W hC _ _
  refine RE.upon_run (v:=.agg #[.int .i64 er,.int .i64 pl]) (w':=W) ?_ ⟨[],rfl,Below.refl _ _,trivial,trivial⟩
  have hta:(Instr.typeAssert (.iface 35 (.agg #[.int .i64 er,.int .i64 pl])) 20 35 false).run Tryz.prog W=.ok (.agg #[.int .i64 er,.int .i64 pl]) W:=by kernel_rfl
  simp[execOp,Act.eval,hta]
 simp only[Act.put,List.setIfInBounds_toArray,List.set_cons_zero,List.set_cons_succ,Nat.reduceAdd,↓reduceIte]
 refine RE.wpE_turn rfl rfl ?_ (fun ys=>?_)
 ·intro W hC hS _
  have hS:Below w.heap.size w W:=hS rfl
  have hr':=heap_below hS hr (Array.getElem?_eq_some_iff.1 hr).1
  refine RE.upon_skip (w':=W.setCells r 0 [.slice none 0 0,.slice none 0 0]) ?_ ⟨[],rfl,?_,trivial,trivial⟩
  ·refine RE.run_store_agg 32 (.tmp 0) (.tmp 6) rfl r 0 #[.slice none 0 0,.slice none 0 0] rfl rfl ?_ (by kernel_rfl) (by simp[Value.oneCell'])
   intro j hj
   have hj:j<2:=hj
   rw[cell_of_row _ _ _ _ _ _ hr',frozen_of hr']
   have:j=0∨j=1:=by omega
   rcases this with rfl|rfl<;>exact⟨rfl,rfl⟩
  ·refine⟨?_,?_⟩
   ·exact Chg.setCell (F:=fun b=>b=r) (Chg.setCell (F:=fun b=>b=r) (Chg.of_below hS) (p:=⟨r,0,none⟩) (Or.inl rfl) _) (p:=⟨r,1,none⟩) (Or.inl rfl) _
   ·have h1:(W.setCell ⟨r,0,none⟩ (.slice none 0 0)).heap[r]? = some (.cells #[.slice none 0 0,a1] 32 (0,0)):=heap_set hr' 0 _
    have h2:((W.setCell ⟨r,0,none⟩ (.slice none 0 0)).setCell ⟨r,1,none⟩ (.slice none 0 0)).heap[r]? = some (.cells #[.slice none 0 0,.slice none 0 0] 32 (0,0)):=heap_set h1 1 _
    exact h2
 simp only[Act.put,Nat.reduceAdd]
 refine RE.wpE_nil ?_
 intro W hS _
 obtain⟨hC,hr'⟩:Chg (fun b=>b=r) w W∧W.heap[r]? = some (.cells #[.slice none 0 0,.slice none 0 0] 32 (0,0)):=hS
 have hf':W.heap[f]? = some (.cells #[b0,b1] 35 (0,0)):=(hC.block f (Array.getElem?_eq_some_iff.1 hf).1 (fun e=>hne e.symm)).trans hf
 refine wpList_store_mid rfl 35 (.tmp 1) (.tmp 8) rfl f 0 #[.int .i64 er,.int .i64 pl] rfl rfl ?_ (by kernel_rfl) (by simp[Value.oneCell']) ?_
 ·intro j hj
  have hj:j<2:=hj
  rw[cell_of_row _ _ _ _ _ _ hf',frozen_of hf']
  have:j=0∨j=1:=by omega
  rcases this with rfl|rfl<;>exact⟨rfl,rfl⟩
 have hfin:Chg (fun b=>b=r∨b=f) w (W.setCells f 0 [.int .i64 er,.int .i64 pl])∧(W.setCells f 0 [.int .i64 er,.int .i64 pl]).heap[r]? = some (.cells #[.slice none 0 0,.slice none 0 0] 32 (0,0))∧(W.setCells f 0 [.int .i64 er,.int .i64 pl]).heap[f]? = some (.cells #[.int .i64 er,.int .i64 pl] 35 (0,0)):=by
  refine⟨Chg.setCell (F:=fun b=>b=r∨b=f) (Chg.setCell (F:=fun b=>b=r∨b=f) (Chg.sub hC (fun b hb=>Or.inl hb)) (p:=⟨f,0,none⟩) (Or.inl (Or.inr rfl)) _) (p:=⟨f,1,none⟩) (Or.inl (Or.inr rfl)) _,?_,?_⟩
  ·show ((W.setCell ⟨f,0,none⟩ (.int .i64 er)).setCell ⟨f,1,none⟩ (.int .i64 pl)).heap[r]? = _
   rw[Below.heap_setCell _ _ _ _ hne,Below.heap_setCell _ _ _ _ hne]
   exact hr'
  ·have h1:(W.setCell ⟨f,0,none⟩ (.int .i64 er)).heap[f]? = some (.cells #[.int .i64 er,b1] 35 (0,0)):=heap_set hf' 0 _
   have h2:((W.setCell ⟨f,0,none⟩ (.int .i64 er)).setCell ⟨f,1,none⟩ (.int .i64 pl)).heap[f]? = some (.cells #[.int .i64 er,.int .i64 pl] 35 (0,0)):=heap_set h1 1 _
   exact h2
 have HFin:=Hd hfin
 clear hfin
 cases c₀
 simp_all [wpList,bodyPostS,results,Tryz.results15]
 exact⟨rfl,HFin.out⟩
theorem catch_idle (r f:Nat)(w:World) :
  CallsD Tryz.prog 15 #[.pointer (some ⟨r,0,none⟩),.pointer (some ⟨f,0,none⟩)] .returning w fun e u' w'=>e=.returned (.tuple #[])∧u'=.returning∧w'=w:=by
 refine callsD_of_wpS Tryz.func15 rfl fun c₀ cs hu=>?_
 apply wpS_seq
 apply wpS_region
 simp[wpOpsS,go_sem,recoverD,hu,Tryz.ntmps15,Exit.thenS]
 apply wpS_seq
 apply wpS_region
 simp[wpOpsS,go_sem,Exit.thenS]
 refine wpS_cond (t:=false) (by simp[Act.eval,Array.replicate]) ?_
 simp only[Bool.false_eq_true,if_false]
 refine wpS_of_wp (wp_skip ?_)
 cases c₀
 simp_all [bodyPostS,results,Tryz.results15]
def makeF (d:Nat) (T:Tree):Except Flt CRules:=if rightF d T then makeM d T else .error (4,0)
def RulesOut (d:Nat) (r:Except Flt CRules) (w:World) (e:Ending) (w':World):Prop:=Below w.heap.size w w'∧match r with
 | .ok R=>∃st sr,e=.returned (.tuple #[.agg #[st,sr],.agg #[.int .i64 0,.int .i64 0]])∧typeRd.row w' (Since2 w w') R.types st∧(ruleRd d).row w' (Since2 w w') R.rules sr
 | .error er=>e=.returned (.tuple #[.agg #[.slice none 0 0,.slice none 0 0],.agg #[.int .i64 er.1,.int .i64 er.2]])
theorem three_new8 (w:World)(a b c:Obj):((((w.alloc a).alloc b).alloc c).heap[w.heap.size]? = some a)∧((((w.alloc a).alloc b).alloc c).heap[w.heap.size+1]? = some b)∧((((w.alloc a).alloc b).alloc c).heap[w.heap.size+2]? = some c):=by
 obtain⟨h1,h2,_⟩:=two_new' w a b
 have hb:Below ((w.alloc a).alloc b).heap.size ((w.alloc a).alloc b) (((w.alloc a).alloc b).alloc c):=(Below.refl _ _).alloc (Nat.le_refl _) _
 have hs:((w.alloc a).alloc b).heap.size=w.heap.size+2:=by simp
 refine⟨heap_below hb h1 (by omega),heap_below hb h2 (by omega),?_⟩
 have:=heap_alloc_new ((w.alloc a).alloc b) c
 rw[hs] at this
 exact this
theorem boxes_set {W:World}{r f:Nat}{a0 a1 b0 b1:Value}(hr:W.heap[r]? = some (.cells #[a0,a1] 32 (0,0)))(hf:W.heap[f]? = some (.cells #[b0,b1] 35 (0,0)))(hne:r≠f)(x y u v:Value) :
  ((((W.setCell ⟨r,0,none⟩ x).setCell ⟨r,1,none⟩ y).setCell ⟨f,0,none⟩ u).setCell ⟨f,1,none⟩ v).heap[r]? = some (.cells #[x,y] 32 (0,0))∧((((W.setCell ⟨r,0,none⟩ x).setCell ⟨r,1,none⟩ y).setCell ⟨f,0,none⟩ u).setCell ⟨f,1,none⟩ v).heap[f]? = some (.cells #[u,v] 35 (0,0)):=by
 have h1:(W.setCell ⟨r,0,none⟩ x).heap[r]? = some (.cells #[x,a1] 32 (0,0)):=heap_set hr 0 _
 have h2:((W.setCell ⟨r,0,none⟩ x).setCell ⟨r,1,none⟩ y).heap[r]? = some (.cells #[x,y] 32 (0,0)):=heap_set h1 1 _
 have g0:((W.setCell ⟨r,0,none⟩ x).setCell ⟨r,1,none⟩ y).heap[f]? = some (.cells #[b0,b1] 35 (0,0)):=by rw[Below.heap_setCell _ _ _ _ hne.symm,Below.heap_setCell _ _ _ _ hne.symm];exact hf
 have g1:(((W.setCell ⟨r,0,none⟩ x).setCell ⟨r,1,none⟩ y).setCell ⟨f,0,none⟩ u).heap[f]? = some (.cells #[u,b1] 35 (0,0)):=heap_set g0 0 _
 have g2:((((W.setCell ⟨r,0,none⟩ x).setCell ⟨r,1,none⟩ y).setCell ⟨f,0,none⟩ u).setCell ⟨f,1,none⟩ v).heap[f]? = some (.cells #[u,v] 35 (0,0)):=heap_set g1 1 _
 refine⟨?_,g2⟩
 rw[Below.heap_setCell _ _ _ _ hne,Below.heap_setCell _ _ _ _ hne]
 exact h2
theorem leaves_done {W:World}{R:Ending→World→Prop}{tmps:Array Value}{r f:Nat}{a b x y:Value}(h2:tmps.getD 2 undef=.pointer (some ⟨r,0,none⟩))(h3:tmps.getD 3 undef=.pointer (some ⟨f,0,none⟩))
  (hr:W.heap[r]? = some (.cells #[a,b] 32 (0,0))) (hf:W.heap[f]? = some (.cells #[x,y] 35 (0,0))) (hR:R (.returned (.tuple #[.agg #[a,b],.agg #[x,y]])) W):Leaves Tryz.prog Tryz.f8 tmps R [] .returning W:=by
 have c0:W.cell? ⟨r,0,none⟩=some a:=by simp[World.cell?,hr]
 have c1:W.cell? ⟨r,1,none⟩=some b:=by simp[World.cell?,hr]
 have d0:W.cell? ⟨f,0,none⟩=some x:=by simp[World.cell?,hf]
 have d1:W.cell? ⟨f,1,none⟩=some y:=by simp[World.cell?,hf]
 have h2':tmps[2]?.getD undef=.pointer (some ⟨r,0,none⟩):=by simpa using h2
 have h3':tmps[3]?.getD undef=.pointer (some ⟨f,0,none⟩):=by simpa using h3
 refine⟨.tuple #[.agg #[a,b],.agg #[x,y]],?_,hR⟩
 simp[results,Tryz.results8,go_sem,h2',h3',c0,c1,d0,d1]
theorem make_idle {W w:World}{R:Ending→World→Prop}{tmps:Array Value}{a b x y:Value}(h2:tmps.getD 2 undef=.pointer (some ⟨w.heap.size+1,0,none⟩))(h3:tmps.getD 3 undef=.pointer (some ⟨w.heap.size+1+1,0,none⟩))
  (hr:W.heap[w.heap.size+1]? = some (.cells #[a,b] 32 (0,0))) (hf:W.heap[w.heap.size+1+1]? = some (.cells #[x,y] 35 (0,0))) (hR:R (.returned (.tuple #[.agg #[a,b],.agg #[x,y]])) W) :
  Leaves Tryz.prog Tryz.f8 tmps R [{ target:=Target.fn (Fn.func 15) #[.pointer (some ⟨w.heap.size+1,0,none⟩),.pointer (some ⟨w.heap.size+1+1,0,none⟩)],args:=#[] }] .returning W:=by
 refine leaves_cons (f:=15) (args:=#[.pointer (some ⟨w.heap.size+1,0,none⟩),.pointer (some ⟨w.heap.size+1+1,0,none⟩)]) (by simp) (by simp[go_sem]) ?_
 refine (catch_idle (w.heap.size+1) (w.heap.size+1+1) W).mono ?_
 rintro e u' w'' ⟨rfl,rfl,rfl⟩
 exact leaves_done h2 h3 hr hf hR
theorem make_fault {d:Nat}{T:Tree}{W w:World}{tmps:Array Value}{a b x y:Value}{er:Flt}(h2:tmps.getD 2 undef=.pointer (some ⟨w.heap.size+1,0,none⟩))(h3:tmps.getD 3 undef=.pointer (some ⟨w.heap.size+1+1,0,none⟩))(hb:Below w.heap.size w W)
  (hr:W.heap[w.heap.size+1]? = some (.cells #[a,b] 32 (0,0))) (hf:W.heap[w.heap.size+1+1]? = some (.cells #[x,y] 35 (0,0))) (hm:makeF d T=.error er) :
  Leaves Tryz.prog Tryz.f8 tmps (RulesOut d (makeF d T) w) [{ target:=Target.fn (Fn.func 15) #[.pointer (some ⟨w.heap.size+1,0,none⟩),.pointer (some ⟨w.heap.size+1+1,0,none⟩)],args:=#[] }] (.panicking [{ v:=.iface 35 (.agg #[.int .i64 er.1,.int .i64 er.2]),recovered:=false }]) W:=by
 refine leaves_cons (f:=15) (args:=#[.pointer (some ⟨w.heap.size+1,0,none⟩),.pointer (some ⟨w.heap.size+1+1,0,none⟩)]) (by simp) (by simp[go_sem]) ?_
 refine (catch_fault (w.heap.size+1) (w.heap.size+1+1) er.1 er.2 [] a b x y W hr hf (by omega)).mono ?_
 rintro e u' w'' ⟨rfl,rfl,hc,hr',hf'⟩
 refine leaves_done h2 h3 hr' hf' ⟨Chg.to_below hb hc (fun b hb=>by rcases hb with rfl|rfl<;>omega) hb.size,?_⟩
 rw[hm]
def TyRel (d M:Nat) (T:Tree) (n:Nat) (W2:World) (i:Value) (W:World):Prop:=
 ∃(j:Nat) (ts:List CType) (vT:Value),j≤n∧i=.int .i64 (j:Int)∧foldE typeStep [] (T.kids.take j)=.ok ts∧ts.length≤j∧MkB (fun _=>False) d M ts [] vT (.slice none 0 0) W∧(∀g,vT.ownBlock=some g→M≤g)∧Below M W2 W
def RuRel (d M:Nat) (T:Tree) (n:Nat) (ts:List CType) (vT:Value) (W2:World) (i:Value) (W:World):Prop:=
 ∃(j:Nat) (rs:List CRule) (F:Nat→Prop) (vR:Value),j≤n∧i=.int .i64 (j:Int)∧foldE (ruleStep d ts) [] (T.kids.take j)=.ok rs∧rs.length≤j∧MkB F d M ts rs vT vR W∧(∀g,vR.ownBlock=some g→M≤g)∧(∀b,F b→M≤b)∧Below M W2 W
theorem kinds_len {ts ts':List CType}{K:Tree}(h:kindsM ts K=.ok ts'):ts'.length=ts.length+1:=by
 unfold kindsM at h
 split at h
 ·cases h
 ·split at h
  ·cases h
  ·split at h
   ·cases h
   ·injection h with h;rw[←h];simp
theorem whole_len {d:Nat}{ts:List CType}{rs rs':List CRule}{K:Tree}(h:wholeM d ts rs K=.ok rs'):rs'.length=rs.length+1:=by
 unfold wholeM at h
 split at h
 ·cases h
 ·split at h
  ·cases h
  ·split at h
   ·cases h
   ·split at h
    ·cases h
    ·injection h with h;rw[←h];simp
theorem make_any (d:Nat)(T:Tree)(v:Value)(w:World)(hv:NodeAt w w.heap.size d T v)(hsl:Slim d T)(ht:AsciiTab w) :
  Calls Tryz.prog 8 #[v] w (RulesOut d (makeF d T) w):=by
 have hmf:∀(fn:Fn) (first cap:Array Value) (w:World),(Instr.makeFunc fn first cap).run Tryz.prog w=.ok (.func fn first cap) w:=fun _ _ _ _=>rfl
 have HV:=Hd hv
 obtain⟨hfit,s,rfl,hks⟩:=hv
 obtain⟨p,c,hs⟩:=hks.slice
 obtain⟨n,hn⟩:∃n,T.kids.length=n:=⟨_,rfl⟩
 rw[hn] at hs
 subst hs
 obtain⟨w1,hw1⟩:∃w1,w1=((w.alloc (.cells #[.int .u8 T.kind,.string T.text,.int .i64 T.num,.int .i64 T.place,.slice p n c] 25)).alloc (.cells #[.slice none 0 0,.slice none 0 0] 32)).alloc (.cells #[.int .i64 0,.int .i64 0] 35):=⟨_,rfl⟩
 obtain⟨hx0,hx1,hx2⟩:=three_new8 w (.cells #[.int .u8 T.kind,.string T.text,.int .i64 T.num,.int .i64 T.place,.slice p n c] 25) (.cells #[.slice none 0 0,.slice none 0 0] 32) (.cells #[.int .i64 0,.int .i64 0] 35)
 have hb1:Below w.heap.size w w1:=by rw[hw1];exact (((Below.refl _ w).alloc (Nat.le_refl _) _).alloc (by simp) _).alloc (by simp;omega) _
 rw[←hw1] at hx0 hx1 hx2
 have HX0:=Hd hx0
 have HX1:=Hd hx1
 have HX2:=Hd hx2
 have HB1:=Hd hb1
 have HKids:=Hd hks
 have HN:=Hd hn
 have HRi:=Hd (nodeRight_any d T _ w.heap.size w1 ⟨hfit,_,rfl,hks.below hb1⟩ hb1.size hsl (ht.below hb1))
 have HSl:=Hd hsl
 obtain⟨e0,e1,e2,e3,e4⟩:=cells5 hx0
 clear hx0 hx1 hx2 hb1 hks hn hfit hsl
 go_enter_defers Tryz.func8,Tryz.ntmps8
 go_upto_region 1 with fail
 change Code.wp _ _ _ _ (((w.alloc (.cells #[.int .u8 T.kind,.string T.text,.int .i64 T.num,.int .i64 T.place,.slice p n c] 25)).alloc (.cells #[.slice none 0 0,.slice none 0 0] 32)).alloc (.cells #[.int .i64 0,.int .i64 0] 35))
 rw[←hw1]
 clear hw1
 go_wp2_with fail
 refine HRi.out.mono ?_
 rintro e W2 ⟨rfl,hb2⟩
 have HB2:=Hd (HB1.out.trans (hb2.mono HB1.out.size))
 have h0':=heap_below hb2 HX0.out (Array.getElem?_eq_some_iff.1 HX0.out).1
 have h1':=heap_below hb2 HX1.out (Array.getElem?_eq_some_iff.1 HX1.out).1
 have h2':=heap_below hb2 HX2.out (Array.getElem?_eq_some_iff.1 HX2.out).1
 have HY0:=Hd h0'
 have HY1:=Hd h1'
 have HY2:=Hd h2'
 clear hb2 HRi e0 e1 e2 e3 e4
 cases hr:rightF d T with
 | false =>
  have HM:Hid (makeF d T=.error (4,0)):=by show _=_;unfold makeF;rw[hr];rfl
  clear hr
  have c0:W2.cell? ⟨w.heap.size+1,0,none⟩=some (.slice none 0 0):=by rw[cell_of_row _ _ _ _ _ _ HY1.out];rfl
  have c1:W2.cell? ⟨w.heap.size+1,1,none⟩=some (.slice none 0 0):=by rw[cell_of_row _ _ _ _ _ _ HY1.out];rfl
  have d0:W2.cell? ⟨w.heap.size+1+1,0,none⟩=some (.int .i64 0):=by rw[cell_of_row _ _ _ _ _ _ HY2.out];rfl
  have d1:W2.cell? ⟨w.heap.size+1+1,1,none⟩=some (.int .i64 0):=by rw[cell_of_row _ _ _ _ _ _ HY2.out];rfl
  have f1:=frozenAll HY1.out
  have f2:∀i,W2.frozen? ⟨w.heap.size+1+1,i,none⟩=false:=frozenAll HY2.out
  obtain⟨W3,hW3⟩:∃W3,W3=(((W2.setCell ⟨w.heap.size+1,0,none⟩ (.slice none 0 0)).setCell ⟨w.heap.size+1,1,none⟩ (.slice none 0 0)).setCell ⟨w.heap.size+1+1,0,none⟩ (.int .i64 4)).setCell ⟨w.heap.size+1+1,1,none⟩ (.int .i64 0):=⟨_,rfl⟩
  have HZ:=Hd (boxes_set HY1.out HY2.out (show w.heap.size+1≠w.heap.size+2 by omega) (.slice none 0 0) (.slice none 0 0) (.int .i64 4) (.int .i64 0))
  have HB3:Hid (Below w.heap.size w W3):=by show Below _ _ _;rw[hW3];exact (((HB2.out.setCell (p:=⟨w.heap.size+1,0,none⟩) (Nat.le_succ _) _).setCell (p:=⟨w.heap.size+1,1,none⟩) (Nat.le_succ _) _).setCell (p:=⟨w.heap.size+1+1,0,none⟩) (Nat.le_trans (Nat.le_succ _) (Nat.le_succ _)) _).setCell (p:=⟨w.heap.size+1+1,1,none⟩) (Nat.le_trans (Nat.le_succ _) (Nat.le_succ _)) _
  rw[←hW3] at HZ
  go_wp2_with fail
  rw[←hW3]
  refine leaves_done rfl rfl HZ.out.1 HZ.out.2 ⟨HB3.out,?_⟩
  rw[HM.out]
 | true =>
  have hr':(T.kind==1&&okF d T&&decide (deepF d T≤30)&&decide (manyF d T≤4096))=true:=hr
  simp only[Bool.and_eq_true,decide_eq_true_eq] at hr'
  have HOk:=Hd (prog_of (kids_exact HKids.out) hr'.1.1.2 hr'.2 HSl.out)
  have HM:Hid (makeF d T=makeM d T):=by show _=_;unfold makeF;rw[hr];rfl
  have hfew:n≤4096:=by rw[←HN.out];exact HOk.out.few
  clear hr hr'
  obtain⟨M,hM⟩:∃M,M=W2.heap.size:=⟨_,rfl⟩
  obtain⟨w4,hw4⟩:∃w4,w4=W2.alloc (.cells #[.slice none 0 0,.slice none 0 0,.slice none 0 0,.string ⟨#[]⟩,.int .i64 0,.int .i64 0,.slice none 0 0,.slice none 0 0] 77):=⟨_,rfl⟩
  have hM4:w4.heap[M]? = some (.cells #[.slice none 0 0,.slice none 0 0,.slice none 0 0,.string ⟨#[]⟩,.int .i64 0,.int .i64 0,.slice none 0 0,.slice none 0 0] 77 (0,0)):=by rw[hw4,hM];exact heap_alloc_new W2 _
  have HMge:Hid (w.heap.size+3≤M):=by
   have:=(Array.getElem?_eq_some_iff.1 h2').1
   show _≤_
   rw[hM];omega
  have HB4:Hid (Below M W2 w4):=by show Below _ _ _;rw[hw4,hM];exact (Below.refl _ W2).alloc (Nat.le_refl _) _
  have HK0:Hid (MkB (fun _=>False) d M [] [] (.slice none 0 0) (.slice none 0 0) w4):=⟨fun _ h=>h.elim,⟨_,_,_,_,_,_,hM4⟩,RowIn.nil,RowIn.nil⟩
  have HW2:Hid (M=W2.heap.size):=hM
  obtain⟨e0,e1,e2,e3,e4⟩:=cells5 (heap_below HB4.out h0' (by have:=HMge.out;omega))
  clear h0' h1' h2' hM4
  go_upto_region 5 with fail
  rw[←hM]
  change Code.wp _ _ _ _ (W2.alloc (.cells #[.slice none 0 0,.slice none 0 0,.slice none 0 0,.string ⟨#[]⟩,.int .i64 0,.int .i64 0,.slice none 0 0,.slice none 0 0] 77))
  rw[←hw4]
  clear hw4 hM
  go_wp2_with fail
  go_loopw [20] (TyRel d M T n W2) (fun i _=>n-(intOf i).toNat)
  case atStart=>exact⟨0,[],.slice none 0 0,Nat.zero_le _,rfl,rfl,Nat.le_refl _,HK0.out,(fun g hg=>by cases hg),HB4.out⟩
  case round =>
   obtain⟨j,ts,vT,hj,rfl,hfold,hlen,hmk,hge,hbm⟩:=hrel
   have hj0:(0:Int)≤j:=by omega
   have HFo:=Hd hfold
   have HMk:=Hd hmk
   have HGe:=Hd hge
   have HBm:=Hd hbm
   have HBw:Hid (Below w.heap.size w wr):=HB2.out.trans (hbm.mono (by have:=HMge.out;omega))
   have HMr:Hid (M≤wr.heap.size):=Nat.le_of_lt hmk.lt
   clear hfold hmk hge hbm e0 e1 e2 e3 e4
   by_cases hlt:j<n
   ·have hj1:(j:Int)<n:=by omega
    obtain⟨K,hK⟩:∃K,T.kids[j]? = some K:=⟨_,List.getElem?_eq_getElem (by rw[HN.out];exact hlt)⟩
    have hKm:=List.mem_of_getElem? hK
    have hks:=(HKids.out.below HBw.out).lift (Nat.le_succ d)
    rcases hks with ⟨h0,_⟩|⟨b,off,cap,h1,h2,h3,h4,he,h6⟩
    ·rw[h0] at hK;simp at hK
    rw[HN.out] at he h3
    injection he with e1' _ e3'
    subst e1';subst e3'
    obtain⟨hfit,sK,c0,c1,c2,c3,c4,hkk⟩:=h6 j K hK
    obtain⟨ps,cs',hsK⟩:=hkk.slice
    obtain⟨nk,hnk⟩:∃nk,K.kids.length=nk:=⟨_,rfl⟩
    rw[hnk] at hsK
    subst hsK
    have HNx:=Hd (foldE_take (f:=typeStep) hK HFo.out)
    by_cases hk2:K.kind=2
    ·have c0:wr.cell? ⟨b,off+j*5,none⟩=some (.int .u8 2):=by rw[c0,hk2];rfl
     obtain⟨w5,hw5⟩:∃w5,w5=wr.alloc (.cells #[.int .u8 2,.string K.text,.int .i64 K.num,.int .i64 K.place,.slice ps nk cs'] 25):=⟨_,rfl⟩
     have hb5:Below wr.heap.size wr w5:=by rw[hw5];exact (Below.refl _ wr).alloc (Nat.le_refl _) _
     have hk5:w5.heap[wr.heap.size]? = some (.cells #[.int .u8 2,.string K.text,.int .i64 K.num,.int .i64 K.place,.slice ps nk cs'] 25 (0,0)):=by rw[hw5];exact heap_alloc_new wr _
     have HB5:=Hd hb5
     have HBm5:Hid (Below M W2 w5):=HBm.out.trans (hb5.mono HMr.out)
     have hk5':=hkk.below (hb5.mono HBw.out.size)
     have HKi:Hid (Calls Tryz.prog 16 #[.pointer (some ⟨M,0,none⟩),.agg #[.int .u8 2,.string K.text,.int .i64 K.num,.int .i64 K.place,.slice ps nk cs']] w5 (KindsPost (fun _=>False) d M [] vT (.slice none 0 0) (kindsM ts K) w5)):=by
      have h:=kinds_any (fun _=>False) d M ts [] vT (.slice none 0 0) K ps nk cs' d w5 (HMk.out.below hb5) hk2 (by omega) hnk (by have:=(HOk.out.kid K hKm).1;omega) (((hk5'.up (Nat.le_trans HBw.out.size hb5.size))).lift (Nat.le_succ _)) hfit.2.1
      rw[hk2] at h
      exact h
     obtain⟨k0,k1,k2,k3,k4⟩:=cells5 hk5
     clear hfit hkk h6 h1 h2 h3 h4 hK hKm hb5 hk5 hk5' hnk
     go_upto_region 8 with fail
     change Code.wp _ _ _ _ (wr.alloc (.cells #[.int .u8 2,.string K.text,.int .i64 K.num,.int .i64 K.place,.slice ps nk cs'] 25))
     rw[←hw5]
     clear hw5 c0 c1 c2 c3 c4
     go_wp2_with fail
     refine HKi.out.mono ?_
     rintro e W3 ⟨hch,he⟩
     have hbm3:Below M W2 W3:=Chg.to_below HBm5.out hch (fun b hb=>by rcases hb with rfl|⟨v,hv,hb⟩;exact Nat.le_refl _;simp only[List.mem_cons,List.not_mem_nil,or_false] at hv;rcases hv with rfl|rfl;exact HGe.out b hb;cases hb) (Nat.le_trans HMr.out HB5.out.size)
     clear k0 k1 k2 k3 k4
     cases hr:kindsM ts K with
     | error er =>
      rw[hr] at he
      have he:e=faultP er.1 er.2:=he
      subst he
      have hlt1:w.heap.size+1<M:=by have:=HMge.out;omega
      refine make_fault (d:=d) (T:=T) (er:=er) rfl rfl (HB2.out.trans (hbm3.mono (by have:=HMge.out;omega))) ((hbm3.block _ hlt1).trans HY1.out) ((hbm3.block (w.heap.size+2) (by have:=HMge.out;omega)).trans HY2.out) ?_
      rw[HM.out]
      unfold makeM
      rw[foldE_stop (f:=typeStep) (l:=T.kids) (k:=j+1) (s:=[]) (e:=er) (HNx.out.trans ?_)]
      show (if K.kind==2 then kindsM ts K else .ok ts)=_
      rw[hk2]
      exact hr
     | ok ts' =>
      rw[hr] at he
      obtain⟨rfl,vT2,hmk2,hg2⟩:=he
      have HR:Hid (TyRel d M T n W2 (.int .i64 ((j+1:Nat):Int)) W3):=by
       refine⟨j+1,ts',vT2,by omega,rfl,?_,by rw[kinds_len hr];omega,hmk2,fun g hg=>?_,hbm3⟩
       ·rw[HNx.out]
        show (if K.kind==2 then kindsM ts K else .ok ts)=_
        rw[hk2]
        exact hr
       ·rcases hg2 g hg with h|h
        ·exact HGe.out g h
        ·exact Nat.le_trans (Nat.le_trans HMr.out HB5.out.size) h
      clear hmk2 hg2 hch hbm3 hr
      go_wp2_with fail
      refine⟨HR.out,?_⟩
      simp[intOf];omega
    ·have hkn:¬((K.kind:Int)=2):=by omega
     obtain⟨w5,hw5⟩:∃w5,w5=wr.alloc (.cells #[.int .u8 K.kind,.string K.text,.int .i64 K.num,.int .i64 K.place,.slice ps nk cs'] 25):=⟨_,rfl⟩
     have hb5:Below wr.heap.size wr w5:=by rw[hw5];exact (Below.refl _ wr).alloc (Nat.le_refl _) _
     have hk5:w5.heap[wr.heap.size]? = some (.cells #[.int .u8 K.kind,.string K.text,.int .i64 K.num,.int .i64 K.place,.slice ps nk cs'] 25 (0,0)):=by rw[hw5];exact heap_alloc_new wr _
     have HB5:=Hd hb5
     have HBm5:Hid (Below M W2 w5):=HBm.out.trans (hb5.mono HMr.out)
     have hk5':=hkk.below (hb5.mono HBw.out.size)
     obtain⟨k0,k1,k2,k3,k4⟩:=cells5 hk5
     clear hfit hkk h6 h1 h2 h3 h4 hK hKm hb5 hk5 hk5' hnk
     go_upto_region 8 with fail
     change Code.wp _ _ _ _ (wr.alloc (.cells #[.int .u8 K.kind,.string K.text,.int .i64 K.num,.int .i64 K.place,.slice ps nk cs'] 25))
     rw[←hw5]
     clear hw5 c0 c1 c2 c3 c4
     have HR:Hid (TyRel d M T n W2 (.int .i64 ((j+1:Nat):Int)) w5):=by
      refine⟨j+1,ts,vT,by omega,rfl,?_,by omega,HMk.out.below HB5.out,HGe.out,HBm5.out⟩
      rw[HNx.out]
      show (if K.kind==2 then kindsM ts K else .ok ts)=_
      rw[show (K.kind==2)=false by simpa using hk2]
      rfl
     go_wp2_with fail
     refine⟨HR.out,?_⟩
     simp[intOf];omega
   ·have hall:foldE typeStep [] T.kids=.ok ts:=by
     rw[←HFo.out,List.take_of_length_le (by rw[HN.out];omega)]
    have HAll:=Hd hall
    clear hall
    have hrk:=heap_below HBm.out HY0.out (by have:=HMge.out;have:=HW2.out;omega)
    obtain⟨e0,e1,e2,e3,e4⟩:=cells5 hrk
    clear hrk
    have hlt2:ts.length≤4096:=by omega
    clear hlen HFo
    go_wp2_with fail
    go_loopw [34] (RuRel d M T n ts vT W2) (fun i _=>n-(intOf i).toNat)
    case atStart=>exact⟨0,[],fun _=>False,.slice none 0 0,Nat.zero_le _,rfl,rfl,Nat.le_refl _,HMk.out,(fun g hg=>by cases hg),(fun b hb=>hb.elim),HBm.out⟩
    case round =>
     clear hj0 hj hlt
     clear HMk HBm HBw
     obtain⟨j,rs,F,vR,hj,rfl,hfold,hlen,hmk,hgeR,hF,hbm⟩:=hrel
     have hj0:(0:Int)≤j:=by omega
     have HFo:=Hd hfold
     have HMk:=Hd hmk
     have HGeR:=Hd hgeR
     have HF:=Hd hF
     have HBm:=Hd hbm
     have HBw:Hid (Below w.heap.size w wr):=HB2.out.trans (hbm.mono (by have:=HMge.out;omega))
     have HMr:Hid (M≤wr.heap.size):=Nat.le_of_lt hmk.lt
     clear hfold hmk hgeR hF hbm e0 e1 e2 e3 e4
     by_cases hlt:j<n
     ·have hj1:(j:Int)<n:=by omega
      obtain⟨K,hK⟩:∃K,T.kids[j]? = some K:=⟨_,List.getElem?_eq_getElem (by rw[HN.out];exact hlt)⟩
      have hKm:=List.mem_of_getElem? hK
      have hks:=(HKids.out.below HBw.out).lift (Nat.le_succ d)
      rcases hks with ⟨h0,_⟩|⟨b,off,cap,h1,h2,h3,h4,he,h6⟩
      ·rw[h0] at hK;simp at hK
      rw[HN.out] at he h3
      injection he with e1' _ e3'
      subst e1';subst e3'
      obtain⟨hfit,sK,c0,c1,c2,c3,c4,hkk⟩:=h6 j K hK
      obtain⟨ps,cs',hsK⟩:=hkk.slice
      obtain⟨nk,hnk⟩:∃nk,K.kids.length=nk:=⟨_,rfl⟩
      rw[hnk] at hsK
      subst hsK
      have HNx:=Hd (foldE_take (f:=ruleStep d ts) hK HFo.out)
      by_cases hk2:K.kind=4
      ·have c0:wr.cell? ⟨b,off+j*5,none⟩=some (.int .u8 4):=by rw[c0,hk2];rfl
       obtain⟨w5,hw5⟩:∃w5,w5=wr.alloc (.cells #[.int .u8 4,.string K.text,.int .i64 K.num,.int .i64 K.place,.slice ps nk cs'] 25):=⟨_,rfl⟩
       have hb5:Below wr.heap.size wr w5:=by rw[hw5];exact (Below.refl _ wr).alloc (Nat.le_refl _) _
       have hk5:w5.heap[wr.heap.size]? = some (.cells #[.int .u8 4,.string K.text,.int .i64 K.num,.int .i64 K.place,.slice ps nk cs'] 25 (0,0)):=by rw[hw5];exact heap_alloc_new wr _
       have HB5:=Hd hb5
       have HBm5:Hid (Below M W2 w5):=HBm.out.trans (hb5.mono HMr.out)
       have hk5':=hkk.below (hb5.mono HBw.out.size)
       have hO5:∀b,Own8 M [vT,vR] b→M≤b:=fun b hb=>by
        rcases hb with rfl|⟨v,hv,hb⟩
        ·exact Nat.le_refl _
        ·simp only[List.mem_cons,List.not_mem_nil,or_false] at hv
         rcases hv with rfl|rfl
         ·exact HGe.out b hb
         ·exact HGeR.out b hb
       have HKi:Hid (Calls Tryz.prog 17 #[.pointer (some ⟨M,0,none⟩),.agg #[.int .u8 4,.string K.text,.int .i64 K.num,.int .i64 K.place,.slice ps nk cs']] w5 (WholePost F d M ts vT vR (wholeM d ts rs K) w5)):=by
        have h:=whole_any F d M ts rs vT vR K ps nk cs' w.heap.size w5 (HMk.out.below hb5) hk2 (by omega) (by omega) hnk (by have:=(HOk.out.kid K hKm).1;omega) (hk5'.lift (Nat.le_trans (Nat.le_succ _) (Nat.le_succ _))) (Nat.le_trans HBw.out.size hb5.size) (fun b hb=>by have:=hO5 b hb;have:=HMge.out;omega) hfit.2.1 ⟨hfit.2.2.1,hfit.2.2.2.1⟩ ((HOk.out.kid K hKm).2 hk2)
        rw[hk2] at h
        exact h
       have HO5:=Hd hO5
       obtain⟨k0,k1,k2,k3,k4⟩:=cells5 hk5
       clear hfit hkk h6 h1 h2 h3 h4 hK hKm hb5 hk5 hk5' hnk hO5
       go_upto_region 14 with fail
       change Code.wp _ _ _ _ (wr.alloc (.cells #[.int .u8 4,.string K.text,.int .i64 K.num,.int .i64 K.place,.slice ps nk cs'] 25))
       rw[←hw5]
       clear hw5 c0 c1 c2 c3 c4
       go_wp2_with fail
       refine HKi.out.mono ?_
       rintro e W3 ⟨hch,he⟩
       have hbm3:Below M W2 W3:=Chg.to_below HBm5.out hch HO5.out (Nat.le_trans HMr.out HB5.out.size)
       clear k0 k1 k2 k3 k4
       cases hr:wholeM d ts rs K with
       | error er =>
        rw[hr] at he
        have he:e=faultP er.1 er.2:=he
        subst he
        have hlt1:w.heap.size+1<M:=by have:=HMge.out;omega
        refine make_fault (d:=d) (T:=T) (er:=er) rfl rfl (HB2.out.trans (hbm3.mono (by have:=HMge.out;omega))) ((hbm3.block _ hlt1).trans HY1.out) ((hbm3.block (w.heap.size+2) (by have:=HMge.out;omega)).trans HY2.out) ?_
        rw[HM.out]
        unfold makeM
        rw[HAll.out]
        dsimp only
        rw[foldE_stop (f:=ruleStep d ts) (l:=T.kids) (k:=j+1) (s:=[]) (e:=er) (HNx.out.trans ?_)]
        show (if K.kind==4 then wholeM d ts rs K else .ok rs)=_
        rw[hk2]
        exact hr
       | ok rs' =>
        rw[hr] at he
        obtain⟨rfl,F2,vR2,hmk2,hg2,hs1,hs2⟩:=he
        have HR:Hid (RuRel d M T n ts vT W2 (.int .i64 ((j+1:Nat):Int)) W3):=by
         refine⟨j+1,rs',F2,vR2,by omega,rfl,?_,by rw[whole_len hr];omega,hmk2,fun g hg=>?_,fun b hb=>?_,hbm3⟩
         ·rw[HNx.out]
          show (if K.kind==4 then wholeM d ts rs K else .ok rs)=_
          rw[hk2]
          exact hr
         ·rcases hg2 g hg with h|h
          ·exact HGeR.out g h
          ·exact Nat.le_trans (Nat.le_trans HMr.out HB5.out.size) h
         ·rcases hs2 b hb with h|h
          ·exact HF.out b h
          ·exact Nat.le_trans (Nat.le_trans HMr.out HB5.out.size) h
        clear hmk2 hg2 hs1 hs2 hch hbm3 hr
        go_wp2_with fail
        refine⟨HR.out,?_⟩
        simp[intOf];omega
      ·have hkn:¬((K.kind:Int)=4):=by omega
       obtain⟨w5,hw5⟩:∃w5,w5=wr.alloc (.cells #[.int .u8 K.kind,.string K.text,.int .i64 K.num,.int .i64 K.place,.slice ps nk cs'] 25):=⟨_,rfl⟩
       have hb5:Below wr.heap.size wr w5:=by rw[hw5];exact (Below.refl _ wr).alloc (Nat.le_refl _) _
       have hk5:w5.heap[wr.heap.size]? = some (.cells #[.int .u8 K.kind,.string K.text,.int .i64 K.num,.int .i64 K.place,.slice ps nk cs'] 25 (0,0)):=by rw[hw5];exact heap_alloc_new wr _
       have HB5:=Hd hb5
       have HBm5:Hid (Below M W2 w5):=HBm.out.trans (hb5.mono HMr.out)
       have hk5':=hkk.below (hb5.mono HBw.out.size)
       obtain⟨k0,k1,k2,k3,k4⟩:=cells5 hk5
       clear hfit hkk h6 h1 h2 h3 h4 hK hKm hb5 hk5 hk5' hnk
       go_upto_region 14 with fail
       change Code.wp _ _ _ _ (wr.alloc (.cells #[.int .u8 K.kind,.string K.text,.int .i64 K.num,.int .i64 K.place,.slice ps nk cs'] 25))
       rw[←hw5]
       clear hw5 c0 c1 c2 c3 c4
       have HR:Hid (RuRel d M T n ts vT W2 (.int .i64 ((j+1:Nat):Int)) w5):=by
        refine⟨j+1,rs,F,vR,by omega,rfl,?_,by omega,HMk.out.below HB5.out,HGeR.out,HF.out,HBm5.out⟩
        rw[HNx.out]
        show (if K.kind==4 then wholeM d ts rs K else .ok rs)=_
        rw[show (K.kind==4)=false by simpa using hk2]
        rfl
       go_wp2_with fail
       refine⟨HR.out,?_⟩
       simp[intOf];omega
     ·have hall:foldE (ruleStep d ts) [] T.kids=.ok rs:=by
       rw[←HFo.out,List.take_of_length_le (by rw[HN.out];omega)]
      have HRes:Hid (makeF d T=.ok ⟨ts,rs⟩):=by
       show _=_
       rw[HM.out]
       unfold makeM
       rw[HAll.out]
       dsimp only
       rw[hall]
      obtain⟨pT,cT,hvT⟩:=HMk.out.t.shape
      obtain⟨pR,cR,hvR⟩:=HMk.out.r.shape
      obtain⟨nT,hnT⟩:∃nT,ts.length=nT:=⟨_,rfl⟩
      obtain⟨nR,hnR⟩:∃nR,rs.length=nR:=⟨_,rfl⟩
      rw[hnT] at hvT
      rw[hnR] at hvR
      subst hvT;subst hvR
      have hl1:w.heap.size+1<M:=by have:=HMge.out;omega
      have hl2:w.heap.size+2<M:=by have:=HMge.out;omega
      have hr1:=(HBm.out.block _ hl1).trans HY1.out
      have hr2:=(HBm.out.block _ hl2).trans HY2.out
      have m0:=HMk.out.cells.1
      have m1:=HMk.out.cells.2
      have c0:wr.cell? ⟨w.heap.size+1,0,none⟩=some (.slice none 0 0):=by rw[cell_of_row _ _ _ _ _ _ hr1];rfl
      have c1:wr.cell? ⟨w.heap.size+1,1,none⟩=some (.slice none 0 0):=by rw[cell_of_row _ _ _ _ _ _ hr1];rfl
      have d0:wr.cell? ⟨w.heap.size+1+1,0,none⟩=some (.int .i64 0):=by rw[cell_of_row _ _ _ _ _ _ hr2];rfl
      have d1:wr.cell? ⟨w.heap.size+1+1,1,none⟩=some (.int .i64 0):=by rw[cell_of_row _ _ _ _ _ _ hr2];rfl
      have f1:=frozenAll hr1
      have f2:∀i,wr.frozen? ⟨w.heap.size+1+1,i,none⟩=false:=frozenAll hr2
      obtain⟨W3,hW3⟩:∃W3,W3=(((wr.setCell ⟨w.heap.size+1,0,none⟩ (.slice pT nT cT)).setCell ⟨w.heap.size+1,1,none⟩ (.slice pR nR cR)).setCell ⟨w.heap.size+1+1,0,none⟩ (.int .i64 0)).setCell ⟨w.heap.size+1+1,1,none⟩ (.int .i64 0):=⟨_,rfl⟩
      have HZ:=Hd (boxes_set hr1 hr2 (show w.heap.size+1≠w.heap.size+2 by omega) (.slice pT nT cT) (.slice pR nR cR) (.int .i64 0) (.int .i64 0))
      rw[←hW3] at HZ
      have HB3:Hid (Below w.heap.size w W3):=by show Below _ _ _;rw[hW3];exact (((HBw.out.setCell (p:=⟨w.heap.size+1,0,none⟩) (Nat.le_succ _) _).setCell (p:=⟨w.heap.size+1,1,none⟩) (Nat.le_succ _) _).setCell (p:=⟨w.heap.size+1+1,0,none⟩) (Nat.le_trans (Nat.le_succ _) (Nat.le_succ _)) _).setCell (p:=⟨w.heap.size+1+1,1,none⟩) (Nat.le_trans (Nat.le_succ _) (Nat.le_succ _)) _
      have hot:∀b,M≤b∧b<wr.heap.size→∀o,wr.heap[b]? = some o→W3.heap[b]? = some o:=fun b hb o ho=>by
       rw[hW3,Below.heap_setCell _ _ _ _ (show b≠w.heap.size+1+1 by omega),Below.heap_setCell _ _ _ _ (show b≠w.heap.size+1+1 by omega),Below.heap_setCell _ _ _ _ (show b≠w.heap.size+1 by omega),Below.heap_setCell _ _ _ _ (show b≠w.heap.size+1 by omega)]
       exact ho
      have hsz:W3.heap.size=wr.heap.size:=by rw[hW3];simp[World.setCell]
      have hsub:∀b,M≤b∧b<wr.heap.size→Since2 w W3 b:=fun b hb=>⟨by omega,by rw[hsz];exact hb.2⟩
      have HRT:Hid (typeRd.row W3 (Since2 w W3) ts (.slice pT nT cT)):=Rd.row_sub hsub (Rd.row_keep hot (HMk.out.t.row (fun b hb=>⟨HF.out b hb,(HMk.out.f b hb).1⟩) (fun g hg=>⟨HGe.out g hg,HMk.out.t.lt hg⟩)))
      have HRR:Hid ((ruleRd d).row W3 (Since2 w W3) rs (.slice pR nR cR)):=Rd.row_sub hsub (Rd.row_keep hot (HMk.out.r.row (fun b hb=>⟨HF.out b hb,(HMk.out.f b hb).1⟩) (fun g hg=>⟨HGeR.out g hg,HMk.out.r.lt hg⟩)))
      clear hall hr1 hr2 hot hsz hsub hnT hnR
      go_wp2_with fail
      rw[←hW3]
      refine make_idle rfl rfl HZ.out.1 HZ.out.2 ⟨HB3.out,?_⟩
      rw[HRes.out]
      exact⟨_,_,rfl,HRT.out,HRR.out⟩
def sourceF (s:ByteArray):Except Flt CRules:=if (progM s).2.1=0 then makeF 30 (progM s).1 else .error (progM s).2
theorem source_ret {W:World}{tmps:Array Value}{R:Ending→World→Prop}{r f:Nat}{a b x y:Value}(h2:tmps.getD 2 undef=.pointer (some ⟨r,0,none⟩))(h3:tmps.getD 3 undef=.pointer (some ⟨f,0,none⟩))
  (hr:W.heap[r]? = some (.cells #[a,b] 32 (0,0))) (hf:W.heap[f]? = some (.cells #[x,y] 35 (0,0))) (hR:R (.returned (.tuple #[.agg #[a,b],.agg #[x,y]])) W):bodyPost Tryz.prog Tryz.f12 R .ret ⟨tmps,[]⟩ W:=by
 have c0:W.cell? ⟨r,0,none⟩=some a:=by simp[World.cell?,hr]
 have c1:W.cell? ⟨r,1,none⟩=some b:=by simp[World.cell?,hr]
 have d0:W.cell? ⟨f,0,none⟩=some x:=by simp[World.cell?,hf]
 have d1:W.cell? ⟨f,1,none⟩=some y:=by simp[World.cell?,hf]
 have h2':tmps[2]?.getD undef=.pointer (some ⟨r,0,none⟩):=by simpa using h2
 have h3':tmps[3]?.getD undef=.pointer (some ⟨f,0,none⟩):=by simpa using h3
 refine bodyPost_ret (v:=.tuple #[.agg #[a,b],.agg #[x,y]]) ?_ rfl hR
 simp[results,Tryz.results12,go_sem,h2',h3',c0,c1,d0,d1]
theorem source_any (s:ByteArray)(w:World)(ht:AsciiTab w):Calls Tryz.prog 12 #[.string s] w (RulesOut 30 (sourceF s) w):=by
 obtain⟨w1,hw1⟩:∃w1,w1=(w.alloc (.cells #[.slice none 0 0,.slice none 0 0] 32)).alloc (.cells #[.int .i64 0,.int .i64 0] 35):=⟨_,rfl⟩
 obtain⟨hx0,hx1,_⟩:=two_new' w (.cells #[.slice none 0 0,.slice none 0 0] 32) (.cells #[.int .i64 0,.int .i64 0] 35)
 have hb1:Below w.heap.size w w1:=by rw[hw1];exact ((Below.refl _ w).alloc (Nat.le_refl _) _).alloc (by simp) _
 rw[←hw1] at hx0 hx1
 have HX0:=Hd hx0
 have HX1:=Hd hx1
 have HB1:=Hd hb1
 have HP:=Hd (program_any s w1 (ht.below hb1))
 have HT:=Hd (fun W (hW:Below w.heap.size w W)=>ht.below hW)
 clear hx0 hx1 hb1
 go_enter Tryz.func12,Tryz.ntmps12
 go_upto_region 1 with fail
 change Code.wp _ _ _ _ ((w.alloc (.cells #[.slice none 0 0,.slice none 0 0] 32)).alloc (.cells #[.int .i64 0,.int .i64 0] 35))
 rw[←hw1]
 clear hw1
 go_wp2_with fail
 refine HP.out.mono ?_
 rintro e W2 ⟨sl,rfl,hb2,hown,hfit,htrim,_⟩
 obtain⟨⟨T,er,pl⟩,hpr⟩:∃x,progM s=x:=⟨_,rfl⟩
 rw[hpr] at hown hfit htrim ⊢
 have HPr:=Hd hpr
 obtain⟨p,c,hsl⟩:=hown.shape
 obtain⟨n,hn⟩:∃n,T.kids.length=n:=⟨_,rfl⟩
 have hn':sl=.slice p n c:=by rw[hsl,←hn]
 subst hn'
 have hkids:KidsAt W2 W2.heap.size 30 T.kids (.slice p n c):=hown.kids (fun b hb=>hb.2)
 have HB2:=Hd (HB1.out.trans (hb2.mono HB1.out.size))
 have h0:=heap_below hb2 HX0.out (Array.getElem?_eq_some_iff.1 HX0.out).1
 have h1:=heap_below hb2 HX1.out (Array.getElem?_eq_some_iff.1 HX1.out).1
 obtain⟨w3,hw3⟩:∃w3,w3=(W2.alloc (.cells #[.int .u8 T.kind,.string T.text,.int .i64 T.num,.int .i64 T.place,.slice p n c] 25)).alloc (.cells #[.int .i64 er,.int .i64 pl] 35):=⟨_,rfl⟩
 obtain⟨hn3,hf3,_⟩:=two_new' W2 (.cells #[.int .u8 T.kind,.string T.text,.int .i64 T.num,.int .i64 T.place,.slice p n c] 25) (.cells #[.int .i64 er,.int .i64 pl] 35)
 have hb3:Below W2.heap.size W2 w3:=by rw[hw3];exact ((Below.refl _ W2).alloc (Nat.le_refl _) _).alloc (by simp) _
 rw[←hw3] at hn3 hf3
 have HB3:=Hd (HB2.out.trans (hb3.mono HB2.out.size))
 have HY0:=Hd (heap_below hb3 h0 (Array.getElem?_eq_some_iff.1 h0).1)
 have HY1:=Hd (heap_below hb3 h1 (Array.getElem?_eq_some_iff.1 h1).1)
 have HS2:Hid (w.heap.size+2≤W2.heap.size):=by
  have:=(Array.getElem?_eq_some_iff.1 h1).1
  show _≤_;omega
 have HM:=Hd (make_any 30 T _ w3 ⟨hfit,_,rfl,(hkids.below hb3).up hb3.size⟩ (htrim 30).slim (HT.out w3 HB3.out))
 have HN3:=Hd hn3
 have HF3:=Hd hf3
 clear hpr hown hfit htrim hsl hn hkids hb2 h0 h1 hb3 hn3 hf3
 go_upto_region 2 with fail
 change Code.wp _ _ _ _ ((W2.alloc (.cells #[.int .u8 T.kind,.string T.text,.int .i64 T.num,.int .i64 T.place,.slice p n c] 25)).alloc (.cells #[.int .i64 er,.int .i64 pl] 35))
 rw[←hw3]
 clear hw3
 obtain⟨n0,n1,n2,n3,n4⟩:=cells5 HN3.out
 have g0:w3.cell? ⟨W2.heap.size+1,0,none⟩=some (.int .i64 er):=by rw[cell_of_row _ _ _ _ _ _ HF3.out];rfl
 have g1:w3.cell? ⟨W2.heap.size+1,1,none⟩=some (.int .i64 pl):=by rw[cell_of_row _ _ _ _ _ _ HF3.out];rfl
 by_cases her:er=0
 ·have HSo:Hid (sourceF s=makeF 30 T):=by show _=_;unfold sourceF;rw[HPr.out,if_pos her]
  subst her
  go_wp2_with fail
  refine HM.out.mono ?_
  rintro e W5 ⟨hb5,he⟩
  have hy0:=heap_below hb5 HY0.out (Array.getElem?_eq_some_iff.1 HY0.out).1
  have hy1:=heap_below hb5 HY1.out (Array.getElem?_eq_some_iff.1 HY1.out).1
  have HB5:=Hd (HB3.out.trans (hb5.mono HB3.out.size))
  have c0:W5.cell? ⟨w.heap.size,0,none⟩=some (.slice none 0 0):=by rw[cell_of_row _ _ _ _ _ _ hy0];rfl
  have c1:W5.cell? ⟨w.heap.size,1,none⟩=some (.slice none 0 0):=by rw[cell_of_row _ _ _ _ _ _ hy0];rfl
  have d0:W5.cell? ⟨w.heap.size+1,0,none⟩=some (.int .i64 0):=by rw[cell_of_row _ _ _ _ _ _ hy1];rfl
  have d1:W5.cell? ⟨w.heap.size+1,1,none⟩=some (.int .i64 0):=by rw[cell_of_row _ _ _ _ _ _ hy1];rfl
  have f1:=frozenAll hy0
  have f2:=frozenAll hy1
  have HH0:=Hd hy0
  have HH1:=Hd hy1
  clear hy0 hy1 n0 n1 n2 n3 n4 g0 g1 HM
  have fin:∀x y u v,Below w.heap.size w ((((W5.setCell ⟨w.heap.size,0,none⟩ x).setCell ⟨w.heap.size,1,none⟩ y).setCell ⟨w.heap.size+1,0,none⟩ u).setCell ⟨w.heap.size+1,1,none⟩ v):=fun x y u v =>
   (((HB5.out.setCell (p:=⟨w.heap.size,0,none⟩) (Nat.le_refl _) _).setCell (p:=⟨w.heap.size,1,none⟩) (Nat.le_refl _) _).setCell (p:=⟨w.heap.size+1,0,none⟩) (Nat.le_succ _) _).setCell (p:=⟨w.heap.size+1,1,none⟩) (Nat.le_succ _) _
  have HFin:=Hd fin
  have hbx:∀x y u v,_:=fun x y u v=>boxes_set HH0.out HH1.out (show w.heap.size≠w.heap.size+1 by omega) x y u v
  have HBx:=Hd hbx
  clear fin hbx
  cases hmk:makeF 30 T with
  | error er =>
   rw[hmk] at he
   have he:e=.returned (.tuple #[.agg #[.slice none 0 0,.slice none 0 0],.agg #[.int .i64 er.1,.int .i64 er.2]]):=he
   subst he
   have HRes:Hid (sourceF s=.error er):=HSo.out.trans hmk
   clear hmk
   go_wp2_with fail
   have hz:=HBx.out (.slice none 0 0) (.slice none 0 0) (.int .i64 er.1) (.int .i64 er.2)
   refine source_ret rfl rfl hz.1 hz.2 ⟨HFin.out _ _ _ _,?_⟩
   rw[HRes.out]
  | ok R =>
   rw[hmk] at he
   obtain⟨st,sr,rfl,hrt,hrr⟩:=he
   have HRes:Hid (sourceF s=.ok R):=HSo.out.trans hmk
   obtain⟨pT,cT,hvT⟩:=Rd.row_shape hrt
   obtain⟨pR,cR,hvR⟩:=Rd.row_shape hrr
   obtain⟨nT,hnT⟩:∃nT,R.types.length=nT:=⟨_,rfl⟩
   obtain⟨nR,hnR⟩:∃nR,R.rules.length=nR:=⟨_,rfl⟩
   rw[hnT] at hvT
   rw[hnR] at hvR
   subst hvT;subst hvR
   have HRT:=Hd hrt
   have HRR:=Hd hrr
   have hs3:=HB3.out.size
   have hs23:W2.heap.size+1<w3.heap.size:=(Array.getElem?_eq_some_iff.1 HF3.out).1
   have HS3:Hid (w.heap.size+2≤w3.heap.size):=by have:=HS2.out;show _≤_;omega
   clear hmk hrt hrr hnT hnR hs3 hs23
   go_wp2_with fail
   have hz:=HBx.out (.slice pT nT cT) (.slice pR nR cR) (.int .i64 0) (.int .i64 0)
   refine source_ret rfl rfl hz.1 hz.2 ⟨HFin.out _ _ _ _,?_⟩
   rw[HRes.out]
   have hsz:((((W5.setCell ⟨w.heap.size,0,none⟩ (.slice pT nT cT)).setCell ⟨w.heap.size,1,none⟩ (.slice pR nR cR)).setCell ⟨w.heap.size+1,0,none⟩ (.int .i64 0)).setCell ⟨w.heap.size+1,1,none⟩ (.int .i64 0)).heap.size=W5.heap.size:=by simp[World.setCell]
   have hot:∀b,Since2 w3 W5 b→∀o,W5.heap[b]? = some o→((((W5.setCell ⟨w.heap.size,0,none⟩ (.slice pT nT cT)).setCell ⟨w.heap.size,1,none⟩ (.slice pR nR cR)).setCell ⟨w.heap.size+1,0,none⟩ (.int .i64 0)).setCell ⟨w.heap.size+1,1,none⟩ (.int .i64 0)).heap[b]? = some o:=fun b hb o ho=>by
    have h1:=hb.1
    have h2:=HS3.out
    rw[Below.heap_setCell _ _ _ _ (show b≠w.heap.size+1 by omega),Below.heap_setCell _ _ _ _ (show b≠w.heap.size+1 by omega),Below.heap_setCell _ _ _ _ (show b≠w.heap.size by omega),Below.heap_setCell _ _ _ _ (show b≠w.heap.size by omega)]
    exact ho
   have hsub:∀b,Since2 w3 W5 b→Since2 w ((((W5.setCell ⟨w.heap.size,0,none⟩ (.slice pT nT cT)).setCell ⟨w.heap.size,1,none⟩ (.slice pR nR cR)).setCell ⟨w.heap.size+1,0,none⟩ (.int .i64 0)).setCell ⟨w.heap.size+1,1,none⟩ (.int .i64 0)) b:=fun b hb=>⟨by have:=hb.1;have:=HS3.out;omega,by rw[hsz];exact hb.2⟩
   exact⟨_,_,rfl,Rd.row_sub hsub (Rd.row_keep hot HRT.out),Rd.row_sub hsub (Rd.row_keep hot HRR.out)⟩
 ·have HSo:Hid (sourceF s=.error (er,pl)):=by show _=_;unfold sourceF;rw[HPr.out,if_neg her]
  have herb:decide (er=0)=false:=decide_eq_false her
  go_upto_region 3 with fail
  obtain⟨wa,hwa⟩:∃wa,wa=w3.drew.setCells w.heap.size 0 [.slice none 0 0,.slice none 0 0]:=⟨_,rfl⟩
  have hot:∀b,b≠w.heap.size→wa.heap[b]? = w3.heap[b]?:=fun b hb=>by
   rw[hwa]
   show ((w3.drew.setCell ⟨w.heap.size,0,none⟩ (.slice none 0 0)).setCell ⟨w.heap.size,1,none⟩ (.slice none 0 0)).heap[b]? = _
   rw[Below.heap_setCell _ _ _ _ hb,Below.heap_setCell _ _ _ _ hb]
   rfl
  have hne2:W2.heap.size+1≠w.heap.size:=by have:=HS2.out;omega
  have hf3:wa.heap[W2.heap.size+1]? = some (.cells #[.int .i64 er,.int .i64 pl] 35 (0,0)):=(hot _ hne2).trans HF3.out
  have hr3:wa.heap[w.heap.size+1]? = some (.cells #[.int .i64 0,.int .i64 0] 35 (0,0)):=(hot _ (by omega)).trans HY1.out
  have hx3:wa.heap[w.heap.size]? = some (.cells #[.slice none 0 0,.slice none 0 0] 32 (0,0)):=by
   rw[hwa]
   have h1:(w3.drew.setCell ⟨w.heap.size,0,none⟩ (.slice none 0 0)).heap[w.heap.size]? = some (.cells #[.slice none 0 0,.slice none 0 0] 32 (0,0)):=heap_set (show w3.drew.heap[w.heap.size]? = _ from HY0.out) 0 _
   have h2:((w3.drew.setCell ⟨w.heap.size,0,none⟩ (.slice none 0 0)).setCell ⟨w.heap.size,1,none⟩ (.slice none 0 0)).heap[w.heap.size]? = some (.cells #[.slice none 0 0,.slice none 0 0] 32 (0,0)):=heap_set h1 1 _
   exact h2
  have hba:Below w.heap.size w wa:=by
   rw[hwa]
   exact ((HB3.out.drew).setCell (p:=⟨w.heap.size,0,none⟩) (Nat.le_refl _) _).setCell (p:=⟨w.heap.size,1,none⟩) (Nat.le_refl _) _
  have G0:=fun x:RE.Two w3.drew wa=>RE.Two.cell (p:=⟨W2.heap.size+1,0,none⟩) (show w3.drew.cell? ⟨W2.heap.size+1,0,none⟩=_ from g0) (by rw[cell_of_row _ _ _ _ _ _ hf3];rfl) x
  have G1:=fun x:RE.Two w3.drew wa=>RE.Two.cell (p:=⟨W2.heap.size+1,1,none⟩) (show w3.drew.cell? ⟨W2.heap.size+1,1,none⟩=_ from g1) (by rw[cell_of_row _ _ _ _ _ _ hf3];rfl) x
  have HWa:=Hd hwa
  have HR3:=Hd hr3
  have HX3:=Hd hx3
  have HBa:=Hd hba
  clear hwa hot hf3 hr3 hx3 hba hne2 n0 n1 n2 n3 n4 g0 g1
  refine RE.wp_region_eff (by kernel_rfl) 3 [2] [2] (fun s W=>if s=0 then W=w3.drew else W=wa) (fun _ _=>True) (fun _ _=>undef) (fun _ _ _=>True) (by kernel_rfl) (fun i h1 h2=>by rw[h1] at h2;cases h2) (fun _ _ _ _ _ _ _=>trivial) rfl ?_
  simp only[List.take_succ_cons,List.take_zero,List.drop_succ_cons,List.drop_zero]
  repeat (refine RE.wpE_read (fun W=>∃x:RE.Two w3.drew wa,W=x.1) RE.two_class rfl rfl rfl rfl ?_;go_big_quiet_step (fail);refine wpQuiet_nil ?_)
  refine RE.wpE_turn rfl rfl ?_ (fun xs=>?_)
  ·intro W hC hS _
   obtain rfl:W=w3.drew:=hS rfl
   refine RE.upon_skip (w':=w3.drew.setCells w.heap.size 0 [.slice none 0 0,.slice none 0 0]) ?_ ⟨[],rfl,HWa.out.symm,trivial,trivial⟩
   refine RE.run_store_agg 32 (.tmp 2) (.tmp 14) rfl w.heap.size 0 #[.slice none 0 0,.slice none 0 0] rfl rfl ?_ (by kernel_rfl) (by simp[Value.oneCell'])
   intro j hj
   have hj:j<2:=hj
   have hh:w3.drew.heap[w.heap.size]? = _:=HY0.out
   rw[cell_of_row _ _ _ _ _ _ hh,frozen_of hh]
   have:j=0∨j=1:=by omega
   rcases this with rfl|rfl<;>exact⟨rfl,rfl⟩
  simp only[Act.put]
  refine RE.wpE_nil ?_
  intro W hS _
  have hS:W=wa:=hS
  rw[hS]
  clear hS G0 G1
  refine wpList_store_mid rfl 35 (.tmp 3) (.tmp 15) rfl (w.heap.size+1) 0 #[.int .i64 er,.int .i64 pl] rfl rfl ?_ (by kernel_rfl) (by simp[Value.oneCell']) ?_
  ·intro j hj
   have hj:j<2:=hj
   rw[cell_of_row _ _ _ _ _ _ HR3.out,frozen_of HR3.out]
   have:j=0∨j=1:=by omega
   rcases this with rfl|rfl<;>exact⟨rfl,rfl⟩
  have hlast:((wa.setCell ⟨w.heap.size+1,0,none⟩ (.int .i64 er)).setCell ⟨w.heap.size+1,1,none⟩ (.int .i64 pl)).heap[w.heap.size]? = some (.cells #[.slice none 0 0,.slice none 0 0] 32 (0,0)):=by
   rw[Below.heap_setCell _ _ _ _ (show w.heap.size≠w.heap.size+1 by omega),Below.heap_setCell _ _ _ _ (show w.heap.size≠w.heap.size+1 by omega)]
   exact HX3.out
  have h1:(wa.setCell ⟨w.heap.size+1,0,none⟩ (.int .i64 er)).heap[w.heap.size+1]? = some (.cells #[.int .i64 er,.int .i64 0] 35 (0,0)):=heap_set HR3.out 0 _
  have h2:((wa.setCell ⟨w.heap.size+1,0,none⟩ (.int .i64 er)).setCell ⟨w.heap.size+1,1,none⟩ (.int .i64 pl)).heap[w.heap.size+1]? = some (.cells #[.int .i64 er,.int .i64 pl] 35 (0,0)):=heap_set h1 1 _
  have hbl:Below w.heap.size w ((wa.setCell ⟨w.heap.size+1,0,none⟩ (.int .i64 er)).setCell ⟨w.heap.size+1,1,none⟩ (.int .i64 pl)):=(HBa.out.setCell (p:=⟨w.heap.size+1,0,none⟩) (Nat.le_succ _) _).setCell (p:=⟨w.heap.size+1,1,none⟩) (Nat.le_succ _) _
  have HL:=Hd hlast
  have H2:=Hd h2
  have HBl:=Hd hbl
  clear hlast h1 h2 hbl
  change wpList _ _ _ _ _ ((wa.setCell ⟨w.heap.size+1,0,none⟩ (.int .i64 er)).setCell ⟨w.heap.size+1,1,none⟩ (.int .i64 pl))
  go_wp2_with fail
  refine source_ret rfl rfl HL.out H2.out ⟨HBl.out,?_⟩
  rw[HSo.out]
end Go.Proofs.YtglbjooofdnbkaaGreatDoor
