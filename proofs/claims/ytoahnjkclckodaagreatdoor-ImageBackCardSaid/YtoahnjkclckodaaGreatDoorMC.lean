/- Parts of one proof, joined; conditions stand in each theorem. -/
import Derived.Test.YtoahnjkclckodaaGreatDoorMA
import Derived.RangeFuncNested
import Derived.RangeFuncBound
import Derived.RangeFuncCalls
import Derived.RangeFuncLeaves
import Derived.Shelf.Abstract
import Derived.Shelf.RegionOpen
import Derived.OwnWalkIn
import Derived.TacticsInMore
import Derived.LoopNIn
import Derived.LoopIn
import Derived.Test.YtoahnjkclckodaaGreatDoorMB
open Go renaming Value→tS,World→J,Ending→AJ,Calls→vv,undef→xk
open Go.Value renaming func→z6,bool→xt,int→I,string→r9,tuple→y9,agg→wP,slice→O,pointer→vo
open Option renaming some→A,none→Y
open Go.Ending renaming returned→wg
open Go.IntKind renaming u8→r8,i64→U
open Go.Obj renaming cells→r7
namespace Go.Proofs.YtoahnjkclckodaaGreatDoor
set_option maxHeartbeats 1000000
set_option maxRecDepth 100000
open Go.RowKit
def ln(fn:FuncId) (tmps:Array tS) (a:Array Tmp) (assign body:Code) (D:Nat) (st:LoopState) (b:Option Code):Loop:=
 { state:=st,pending:=b,fn,tmps,params:=a,assign,body,defers:=D }
theorem BR{n:Nat}{P:Program}{g:Operand}{j:Array Tmp}{assign body:Code}{Q:Exit→Act→J→Prop}{a:Act}{w:J}(d:Nat)(i:Array tS)(D:Nat)(args:Array tS)
  (l:a.eval g=z6 (.func d) #[] i) (m:∀args w,(callFunc d args).run P w=.ok (.enter d args) w) (k:w.heap.size=D) (c:#[z6 (.yield (D+1)) #[] #[]]++i=args)
  (h:∀fn e b,Hid (e=ln fn a.tmps j assign body D)→Hid (b=(w.alloc (.deferred (A []))).alloc (.loop (e .ready Y)))→
   CallsIn Fence.wide (n-1) P d args b (rangePost Fence.wide n P (D+1) Q { a with defers:={ target:=.collected D,args:=#[] }::a.defers })) :
  (Code.rangeFunc g j assign body).wpIn Fence.wide n P Q a w:=by
 refine wpIn_rangeFunc ?_;intro fn _;obtain⟨b,f⟩:=zzy ((w.alloc (.deferred (A []))).alloc (.loop (ln fn a.tmps j assign body w.heap.size .ready Y)));have o:=h fn _ b (Hd Z) (Hd (by rw[←f,k]));subst k c
 refine⟨w.heap.size+1,[{ target:=.collected w.heap.size,args:=#[] }],b,{ target:=.fn (.func d) i,args:=#[z6 (.yield (w.heap.size+1)) #[] #[]] },b,d,
  #[z6 (.yield (w.heap.size+1)) #[] #[]]++i,b,?_,?_,?_,?_,(fun h=>by cases h),?_⟩
 ·rw[←f];exact run_enterLoop_outer _ _ _ _ _
 ·simp only[resolve,l];simp[go_sem]
 ·intro p _;trivial
 ·simp[invoke,go_sem,m]
 ·exact o
theorem By{n:Nat}{P:Program}{l:Nat}{fn:FuncId}{tmps:Array tS}{g:Array Tmp}{assign body:Code}{D:Nat}{args:Array tS}{W:J}{R:AJ→J→Prop}
  {b:LoopState→Option Code→Loop} (i:Hid (b=ln fn tmps g assign body D))
  (j:W.heap[l]?=A (.loop (b .ready Y))) (k:args.size=g.size)
  (h:assign.wpIn (Fence.wide.inRound l) n P (Exit.then (fun d a=>a.heap[l]?=A (.loop (b .ready Y))∧
    body.wpIn (Fence.wide.inRound l) n P (roundPost P l R) d (a.putObj l (.loop (b .busy Y)))) (fun _ _ _=>False))
   { tmps:=(g.zip args).foldl (fun t (p,v)=>t.setIfInBounds p v) tmps,defers:=[] } W) :
  YieldAt Fence.wide n P l args W R:=by
 obtain rfl:=i.o;have m:=run_yield (P:=P) (args:=args) j k;refine⟨fn,_,assign,body,m,roundIn_of_wpIn trivial (wpIn_mono h ?_)⟩;rintro e d a f
 cases e with
 | normal=>exact⟨_,run_beginRound f.1 Z,f.2⟩
 | exit id=>exact f.elim
 | goto t=>exact f.elim
 | ret=>exact f.elim
 | panic c=>exact f.elim
 | outgrown=>exact f.elim
theorem xT{P:Program}{l:Nat}{fn:FuncId}{tmps:Array tS}{c:Array Tmp}{assign body:Code}{D:Nat}{a:Act}{W:J}{R:AJ→J→Prop}
  {b:LoopState→Option Code→Loop} (d:Hid (b=ln fn tmps c assign body D))
  (e:W.heap[l]?=A (.loop (b .busy Y))) (h:R (wg (xt true)) (W.putObj l (.loop (b .ready Y)))) :
  roundPost P l R .normal a W:=by
 obtain rfl:=d.o;exact⟨_,_,run_endRound (P:=P) Y e,h⟩
theorem wH{P:Program}{l:Nat}{fn:FuncId}{tmps:Array tS}{c:Array Tmp}{assign body:Code}{D:Nat}{a:Act}{W:J}{R:AJ→J→Prop}
  {b:LoopState→Option Code→Loop} (d:Hid (b=ln fn tmps c assign body D))
  (e:W.heap[l]?=A (.loop (b .busy Y))) (h:R (wg (xt false)) (W.putObj l (.loop (b .done (A .ret))))) :
  roundPost P l R .ret a W:=by
 obtain rfl:=d.o;exact⟨_,_,run_endRound (P:=P) (A .ret) e,h⟩
theorem yj{n:Nat}{P:Program}{l:Nat}{fn:FuncId}{tmps:Array tS}{c:Array Tmp}{assign body:Code}{D:Nat}{a:Act}{W:J}{Q:Exit→Act→J→Prop}{v:tS}
  {b:LoopState→Option Code→Loop} (d:Hid (b=ln fn tmps c assign body D))
  (e:W.heap[l]?=A (.loop (b .ready Y))) (h:Q .normal a (W.putObj l (.loop (b .exhausted Y)))) :
  rangePost Fence.wide n P l Q a (wg v) W:=by
 obtain rfl:=d.o;exact⟨Y,_,run_endLoop (P:=P) e (by simp[ln]),h⟩
theorem wm{n:Nat}{P:Program}{l:Nat}{fn:FuncId}{tmps:Array tS}{c:Array Tmp}{assign body:Code}{D:Nat}{a:Act}{W:J}{Q:Exit→Act→J→Prop}{v:tS}
  {b:LoopState→Option Code→Loop} (d:Hid (b=ln fn tmps c assign body D))
  (e:W.heap[l]?=A (.loop (b .done (A .ret)))) (h:Code.ret.wpIn Fence.wide n P Q a (W.putObj l (.loop (b .exhausted (A .ret))))) :
  rangePost Fence.wide n P l Q a (wg v) W:=by
 obtain rfl:=d.o;exact⟨A .ret,_,run_endLoop (P:=P) e (by simp[ln]),h⟩
open Go.Shelf
attribute [local go_sem] Oper.semAt_some
def gl(t:Tok):List Value:=[I r8 t.1,r9 t.2.1,I U t.2.2]
def bO(l:List Tok):List Value:=l.flatMap gl
def nQ(w:J) (s:ByteArray) (e:AJ) (W:J):Prop:=
 Kr w W∧
 (((ay s 0).2=Y∧∃v,e=wg (y9 #[v,wP #[I U 0,I U 0]])∧W.ownsRow w.heap.size 192 3 v ((ay s 0).1.length+1) (bO ((ay s 0).1++[(7,⟨#[]⟩,s.size)])))∨
  ∃er pl,(ay s 0).2=A (er,pl)∧e=wg (y9 #[O Y 0 0,wP #[I U er,I U pl]]))
theorem rf(s:ByteArray)(w:J)(a:16384<s.size) :
  vv Tryz.prog 91 #[r9 s] w fun e w'=>e=wg (y9 #[O Y 0 0,wP #[I U 3,I U 0]])∧Kr w w':=by
 go_enter Tryz.func91,Tryz.ntmps91
 go_wp2
 go_returns
 exact⟨Z,by go_grown⟩
theorem wu(s:ByteArray)(w:J) :
  vv Tryz.prog 115 #[r9 s] w fun e w'=>e=wg (vo (A ⟨w.heap.size,0,Y⟩))∧w'=w.alloc (r7 #[r9 s,I U (0:Nat),I U (-1)] 246):=by
 go_enter Tryz.func115,Tryz.ntmps115
 go_wp2
 go_ret;exact⟨Z,Z⟩
theorem IT(R:Nat)(w:J) :
  vv Tryz.prog 116 #[vo (A ⟨R,0,Y⟩)] w fun e w'=>e=wg (z6 (.func 137) #[] #[vo (A ⟨w.heap.size,0,Y⟩)])∧w'=w.alloc (r7 #[vo (A ⟨R,0,Y⟩)] 217):=by
 go_enter Tryz.func116,Tryz.ntmps116
 go_wp2
 go_ret;exact⟨Z,Z⟩
structure TL (w:J) (B:Nat) (rec:Loop) (pre:List Tok) (W:J):Prop where
 low:Below B w W
 t2:W.heap[B]?=A (r7 #[O Y 0 0] 182 (0,0))
 t3:W.heap[B+1]?=A (r7 #[I U 0,I U 0] 109 (0,0))
 bx:W.heap[B+5]?=A (r7 #[vo (A ⟨B+3,0,Y⟩)] 217 (0,0))
 o:∃v,W.heap[B+4]?=A (r7 #[v] 182 (0,0))∧W.ownsRow (B+6) 192 3 v pre.length (bO pre)
 lp:W.heap[B+7]?=A (.loop rec)
 df:W.heap[B+6]?=A (.deferred (A []))
 hB:3<B
 tab:aI W
section
variable {w W W':J} {B:Nat} {rec:Loop} {pre:List Tok}
theorem TL.z(h:TL w B rec pre W):B+7<W.heap.size:=(JL.1 h.lp).1
theorem TL.q(h:TL w B rec pre W)(a:W.grownBy W' (A (B+2))):TL w B rec pre W':=by
 obtain⟨v,c,b⟩:=h.o;have d:=h.z
 exact { low:=h.low.grown a (by omega) (fun k e=>by cases e;omega),t2:=ap a h.t2 (by simp),t3:=ap a h.t3 (by simp),bx:=ap a h.bx (by simp),
         o:=⟨v,ap a c (by simp),b.kept a (Or.inr (fun e=>by have:=(b.lt _ e).1;omega))⟩,lp:=ap a h.lp (by simp),df:=ap a h.df (by simp),hB:=h.hB,tab:=h.tab.u a (by have:=h.hB;omega) }
theorem TL.put(h:TL w B rec pre W)(a:Loop):TL w B a pre (W.putObj (B+7) (.loop a)):=by
 obtain⟨v,c,d⟩:=h.o;have f:=h.z;have b:=grownBy_putObj' W (B+7) (.loop a)
 exact { low:=h.low.grown b (by omega) (fun k e=>by cases e;omega),t2:=ap b h.t2 (by simp),t3:=ap b h.t3 (by simp),bx:=ap b h.bx (by simp),
         o:=⟨v,ap b c (by simp),ownsRow_putObj d _ h.lp Z⟩,lp:=World.putObj_heap_same f,df:=ap b h.df (by simp),hB:=h.hB,tab:=h.tab.u b (by have:=h.hB;omega) }
theorem TL.N(h:TL w B rec pre W)(o:Obj):TL w B rec pre (W.alloc o):=by
 obtain⟨v,b,c⟩:=h.o;have d:=h.z;have a:Kr W (W.alloc o):=(JO _ W).alloc (JM _) o
 exact { low:=h.low.alloc (by omega) o,t2:=aa a h.t2 (by omega),t3:=aa a h.t3 (by omega),bx:=aa a h.bx (by omega),
         o:=⟨v,aa a b (by omega),c.alloc o⟩,lp:=aa a h.lp (by omega),df:=aa a h.df (by omega),hB:=h.hB,tab:=h.tab.C a }
theorem TL.outKept(h:TL w B rec pre W){v:tS}(a:W.heap[B+4]?=A (r7 #[v] 182 (0,0)))(b:W.ownsRow (B+6) 192 3 v pre.length (bO pre))(c:W.grownBy W' v.ownBlock):W'.heap[B+4]?=A (r7 #[v] 182 (0,0)):=by
 have d:=h.z;exact ap c a (fun e=>by have:=(b.lt _ e.symm).1;omega)
theorem TL.dfKept(h:TL w B rec pre W){v:tS}(b:W.ownsRow (B+6) 192 3 v pre.length (bO pre))(c:W.grownBy W' v.ownBlock):W'.heap[B+6]?=A (.deferred (A [])):=by
 refine ap c h.df (fun e=>?_);rcases b.2 with ⟨rfl,_⟩|⟨g,cap,cur,rfl,_,a,_⟩
 ·simp[Value.ownBlock]at e
 ·simp only[Value.ownBlock,o6]at e;subst e;have:=h.df;rw[a]at this;cases this
theorem TL.push(h:TL w B rec pre W){v j:tS}{t:Tok}(p:W.heap[B+4]?=A (r7 #[v] 182 (0,0)))(l:W.ownsRow (B+6) 192 3 v pre.length (bO pre))(c:W.grownBy W' v.ownBlock)(m:W'.ownsRow (B+6) 192 3 j (pre.length+1) (bO pre++gl t)) :
  TL w B rec (pre++[t]) (W'.setCell ⟨B+4,0,Y⟩ j):=by
 have s:=h.z;have a:∀i,i≤B+5→A i≠v.ownBlock:=fun i hi e=>by have:=(l.lt i e.symm).1;omega
 have d:∀{i:Nat} {o:Obj},W.heap[i]?=A o→o.isCells=false→A i≠v.ownBlock:=fun {i o} hi q e=>by
  rcases l.2 with ⟨rfl,_⟩|⟨g,cap,cur,rfl,_,b,_⟩
  ·simp[Value.ownBlock]at e
  ·simp only[Value.ownBlock,o6]at e;subst e;rw[hi]at b;injection b with b;subst b;simp[Obj.isCells]at q
 have f:Below B w W':=h.low.grown c (by omega) (fun k e=>by have:=(l.lt k e).1;omega);have r:W'.heap[B+4]?=A (r7 #[v] 182 (0,0)):=ap c p (a _ (by omega));have n:(W'.setCell ⟨B+4,0,Y⟩ j).ownsRow (B+6) 192 3 j (pre.length+1) (bO pre++gl t):=ownsRow_setCell_below m (by show B+4<B+6;omega) _
 exact { low:=f.setCell (by show B≤B+4;omega) _,t2:=az (ap c h.t2 (a _ (by omega))) (by omega) _ _,t3:=az (ap c h.t3 (a _ (by omega))) (by omega) _ _,bx:=az (ap c h.bx (a _ (by omega))) (by omega) _ _,
         o:=⟨j,heap_set r 0 j,by simpa [bO]using n⟩,lp:=az (ap c h.lp (d h.lp Z)) (by omega) _ _,df:=az (ap c h.df (d h.df Z)) (by omega) _ _,hB:=h.hB,
         tab:=(h.tab.q (c.block _ h.tab.lt (a _ (by have:=h.hB;omega)))).q (JQ _ _ _ _ (by show 3≠B+4;have:=h.hB;omega)) }
theorem TL.fault(h:TL w B rec pre W)(er pl:Int)(a:Loop) :
  ((((W.setCell ⟨B,0,Y⟩ (O Y 0 0)).setCell ⟨B+1,0,Y⟩ (I U er)).setCell ⟨B+1,1,Y⟩ (I U pl)).drew).heap[B+7]?=A (.loop rec)∧
  ∀b,b=((((W.setCell ⟨B,0,Y⟩ (O Y 0 0)).setCell ⟨B+1,0,Y⟩ (I U er)).setCell ⟨B+1,1,Y⟩ (I U pl)).drew).putObj (B+7) (.loop a)→
   (Below B w b∧b.heap[B]?=A (r7 #[O Y 0 0] 182 (0,0))∧b.heap[B+1]?=A (r7 #[I U er,I U pl] 109 (0,0))∧b.heap[B+7]?=A (.loop a)∧b.heap[B+6]?=A (.deferred (A []))):=by
 have g:=h.z;have c:=az (az (az h.lp (T:=B) (by omega) 0 (O Y 0 0)) (T:=B+1) (by omega) 0 (I U er)) (T:=B+1) (by omega) 1 (I U pl);refine⟨c,?_⟩;rintro b rfl;have d1:=az (az (az h.df (T:=B) (by omega) 0 (O Y 0 0)) (T:=B+1) (by omega) 0 (I U er)) (T:=B+1) (by omega) 1 (I U pl);have t2:=az (az (heap_set h.t2 0 (O Y 0 0)) (T:=B+1) (by omega) 0 (I U er)) (T:=B+1) (by omega) 1 (I U pl);have t3:=heap_set (heap_set (az h.t3 (T:=B) (by omega) 0 (O Y 0 0)) 0 (I U er)) 1 (I U pl);have d:=(((h.low.setCell (p:=⟨B,0,Y⟩) (JM _) (O Y 0 0)).setCell (p:=⟨B+1,0,Y⟩) (by show B≤B+1;omega) (I U er)).setCell (p:=⟨B+1,1,Y⟩) (by show B≤B+1;omega) (I U pl)).drew;have f:B+7<((((W.setCell ⟨B,0,Y⟩ (O Y 0 0)).setCell ⟨B+1,0,Y⟩ (I U er)).setCell ⟨B+1,1,Y⟩ (I U pl)).drew).heap.size:=(JL.1 c).1;exact⟨d.grown (grownBy_putObj' _ _ _) (by omega) (fun k e=>by cases e;omega),(World.putObj_heap_other (by omega)).trans t2,(World.putObj_heap_other (by omega)).trans t3,World.putObj_heap_same f,(World.putObj_heap_other (by omega)).trans d1⟩
end
theorem tt(w W:J)(s:ByteArray)(v:tS)(er pl:Int)(T2:W.heap[w.heap.size]?=A (r7 #[v] 182 (0,0)))(e:W.heap[w.heap.size+1]?=A (r7 #[I U er,I U pl] 109 (0,0)))
  (df:W.heap[w.heap.size+6]?=A (.deferred (A []))) (tmps:Array tS) (f:tmps.getD 2 xk=vo (A ⟨w.heap.size,0,Y⟩)) (g:tmps.getD 3 xk=vo (A ⟨w.heap.size+1,0,Y⟩))
  (h:nQ w s (wg (y9 #[v,wP #[I U er,I U pl]])) (W.putObj (w.heap.size+6) (.deferred Y))) :
  bodyPostM Fence.wide 9 Tryz.prog Tryz.f91 (nQ w s) .ret ⟨tmps,[{ target:=.collected (w.heap.size+6),args:=#[] }]⟩ W:=by
 refine⟨by simp,Or.inl ⟨_,_,Z,run_takeDeferred df,?_⟩⟩;have i:(W.putObj (w.heap.size+6) (.deferred Y)).heap[w.heap.size]?=A (r7 #[v] 182 (0,0)):=(World.putObj_heap_other (by omega)).trans T2;have d:(W.putObj (w.heap.size+6) (.deferred Y)).heap[w.heap.size+1]?=A (r7 #[I U er,I U pl] 109 (0,0)):=(World.putObj_heap_other (by omega)).trans e;generalize W.putObj (w.heap.size+6) (.deferred Y)=a at *;have c2:a.cell? ⟨w.heap.size,0,Y⟩=A v:=Kq _ _ 0 _ _ _ i;have j:a.cell? ⟨w.heap.size+1,0,Y⟩=A (I U er):=Kq _ _ 0 _ _ _ d;have c4:a.cell? ⟨w.heap.size+1,1,Y⟩=A (I U pl):=Kq _ _ 1 _ _ _ d;have b:tmps[2]?.getD xk=vo (A ⟨w.heap.size,0,Y⟩):=by simpa using f
 have c:tmps[3]?.getD xk=vo (A ⟨w.heap.size+1,0,Y⟩):=by simpa using g
 refine⟨_,?_,h⟩;simp[results,Tryz.results91,go_sem,b,c,c2,j,c4]
theorem Ic:(Tryz.prog.info? 192).map (fun i=>(i.zero,i.size,i.bytes))=A (A (wP #[I r8 0,r9 ByteArray.empty,I U 0]),3,32):=by kernel_rfl
theorem sL(s:ByteArray)(w:J)(hs:s.size≤16384)(ht:aI w) :
  vv Tryz.prog 91 #[r9 s] w (nQ w s):=by
 refine callsIn_wide (n:=9).1 ?_;refine callsIn_of_wp_marks Tryz.func91 Z trivial ?_ Z;simp only[Tryz.ntmps91,List.size_toArray,Kf,List.length_nil,Nat.reduceAdd,Nat.reduceSub,Array.replicate_succ,Array.replicate_zero,List.push_toArray,List.append_toArray,List.nil_append,List.cons_append]
 gi_wp2_with fail
 refine⟨trivial,callsIn_wide.2 ((wu s _).mono ?_)⟩;rintro e w1 ⟨rfl,rfl⟩
 gi_wp2_with fail
 refine⟨trivial,callsIn_wide.2 ((IT _ _).mono ?_)⟩;rintro e w1 ⟨rfl,rfl⟩
 gi_wp2_with fail
 refine BR 137 #[vo (A ⟨w.heap.size+5,0,Y⟩)] (w.heap.size+6) #[z6 (.yield (w.heap.size+7)) #[] #[],vo (A ⟨w.heap.size+5,0,Y⟩)] Z (enters_of Tryz.func137 (by kernel_rfl) Z) (by simp) Z ?_;intro fn c P g D;have z:TL w w.heap.size (c .ready Y) [] P∧Rdr P (w.heap.size+3) (w.heap.size+2) s 0:=by
  have u:Kr w P:=by
   rw[D.o];exact ((((((((JO _ w).alloc (JM _) _).alloc (by simp) _).alloc (by simp;omega) _).alloc (by simp;omega) _).alloc (by simp;omega) _).alloc (by simp;omega) _).alloc (by simp;omega) _).alloc (by simp;omega) _
  refine⟨{ low:=u,t2:=?_,t3:=?_,bx:=?_,o:=⟨O Y 0 0,?_,World.ownsRow_nil P _ _ _⟩,lp:=?_,df:=?_,hB:=ht.lt,tab:=ht.C u },?_,(-1),?_⟩<;>(rw[D.o];simp only[iF,o3];repeat (first|rw[oj trivial] | rw[oe (by omega)] | rw[oj (by omega)]);try rfl)
 clear D;obtain⟨z,hR⟩:=z;dsimp only;obtain⟨i0,Q,R,S,V⟩:=info_parts Ic;have hQ:w.heap.size+2≠3:=by have:=ht.lt;omega
 refine (all1_in 8 (w.heap.size+7) (w.heap.size+5) (w.heap.size+3) (w.heap.size+2) s hs hQ (fun pre W=>TL w w.heap.size (c .ready Y) pre W)
  (fun er pl W=>Kr w W∧W.heap[w.heap.size]?=A (r7 #[O Y 0 0] 182 (0,0))∧W.heap[w.heap.size+1]?=A (r7 #[I U er,I U pl] 109 (0,0))∧W.heap[w.heap.size+7]?=A (.loop (c .done (A .ret)))∧W.heap[w.heap.size+6]?=A (.deferred (A [])))
  (fun pre W W' h hg=>h.q hg) (fun pre W h=>⟨h.tab,Kq _ _ 0 _ _ _ h.bx⟩) ?hY P hR z).mono ?hend
 case hY =>
  intro pre k W hk bq h;refine By g h.lp Z ?_
  gi_wp2_with fail
  generalize hT:ag s k s[k]=t at *;obtain⟨kd,tx,er,en⟩:=t;dsimp only;have h2:=h.N (r7 #[I r8 kd,r9 tx,I U k] 192);have f:=h2.put (c .busy Y);have bt:=h.z;have X:∀j,Rdr W (w.heap.size+3) (w.heap.size+2) s j→Rdr ((W.alloc (r7 #[I r8 kd,r9 tx,I U k] 192)).putObj (w.heap.size+7) (.loop (c .busy Y))) (w.heap.size+3) (w.heap.size+2) s j:=fun j hj=>by
   have a6:=hj.K ((JO _ W).alloc (JM _) (r7 #[I r8 kd,r9 tx,I U k] 192));obtain⟨p1,p,p2⟩:=a6;exact⟨(World.putObj_heap_other (by omega)).trans p1,p,(World.putObj_heap_other (by omega)).trans p2⟩
  have h6:((W.alloc (r7 #[I r8 kd,r9 tx,I U k] 192)).putObj (w.heap.size+7) (.loop (c .busy Y))).heap[W.heap.size]?=A (r7 #[I r8 kd,r9 tx,I U k] 192 (0,0)):=by rw[World.putObj_heap_other (by omega)];exact oc W _
  refine⟨h2.lp,?_⟩;have bm:W.heap.size<((W.alloc (r7 #[I r8 kd,r9 tx,I U k] 192)).putObj (w.heap.size+7) (.loop (c .busy Y))).heap.size:=(JL.1 h6).1;generalize (W.alloc (r7 #[I r8 kd,r9 tx,I U k] 192)).putObj (w.heap.size+7) (.loop (c .busy Y))=l at *;generalize W.heap.size=T6 at *;obtain⟨H6,ba,HT⟩:=zz3 h6 X hT;clear h2 h6 X hT;obtain⟨c0,c1,c2,f0,f1,f2⟩:=cells3 H6.o
  by_cases he:er=0
  ·subst he;obtain⟨v,E,b⟩:=f.o;have kv:l.cell? ⟨w.heap.size+4,0,Y⟩=A v:=Kq _ _ 0 _ _ _ E;have F:=Hd E;have ad:=f.z;clear E
   gi_wp2_with (gi_at_builtin;go_must (refine wpListIn_append_own _ Z (.tmp 28) (.tmp 30) 182 Z (w.heap.size+6) 192 i0 _ 3 32 Tryz.underlying182 Q R S V Z (by decide) v pre.length (bO pre) Z (b.alloc _) ⟨l.heap.size,0,Y⟩ 1 1 [I r8 kd,r9 tx,I U k] Z Z (jx l [I r8 kd,r9 tx,I U k] 192) (by simp[Value.oneCell']) (by simp only[maxLen];omega) (by omega) (by simp;omega) ?_);intro v' x d r _;obtain⟨g',C,rfl⟩:=ownsRow_succ d;have m:l.grownBy x v.ownBlock:=o5 (World.grownBy_alloc l _ _) r;have af:=f.outKept F.o b m;have bB:x.cell? ⟨w.heap.size+4,0,Y⟩=A v:=Kq _ _ 0 _ _ _ af;have bR:x.frozen? ⟨w.heap.size+4,0,Y⟩=false:=aB af 0)
   have y:∀i,i<w.heap.size+6→A i≠v.ownBlock:=fun i hi e=>by have:=(b.lt i e.symm).1;omega
   have hp:=f.push F.o b m (t:=(kd,tx,k)) d;exact xT g hp.lp (Or.inl ⟨Z,Z,hp.put _,fun j hj=>(((ba.o j hj).move m (y _ (by omega)) (y _ (by omega))).h (T:=w.heap.size+4) (i:=0) _ (by omega) (by omega)).move (grownBy_putObj' _ _ _) (by simp) (by simp)⟩)
  ·have b0:((er:Int) != 0)=true:=by rw[bne_iff_ne];omega
   have HE:=Hd he;clear he;have k2:l.cell? ⟨w.heap.size,0,Y⟩=A (O Y 0 0):=Kq _ _ 0 _ _ _ f.t2;have k3:l.cell? ⟨w.heap.size+1,0,Y⟩=A (I U 0):=Kq _ _ 0 _ _ _ f.t3;have b1:l.cell? ⟨w.heap.size+1,1,Y⟩=A (I U 0):=Kq _ _ 1 _ _ _ f.t3;have b4:l.frozen? ⟨w.heap.size,0,Y⟩=false:=by simp[World.frozen?,f.t2]
   have f3:l.frozen? ⟨w.heap.size+1,0,Y⟩=false:=by simp[World.frozen?,f.t3]
   have b5:l.frozen? ⟨w.heap.size+1,1,Y⟩=false:=by simp[World.frozen?,f.t3]
   have aq:=f.fault er k (c .done (A .ret));have ar:=Hd aq;clear aq
   gi_wp2_with fail
   gi_region
   all_goals gi_wp2
   all_goals exact wH g ar.o.1 (Or.inr ⟨HE.o,Z,ar.o.2 _ Z⟩)
 case hend =>
  clear z hR;rintro e W ⟨⟨vr,rfl⟩,(⟨y,h⟩|⟨er,pl,bb,u,k2,k3,hl,bd⟩)⟩
  ·refine yj g h.lp ?_;have bg:=Hd y;have f:=h.put (c .exhausted Y);clear y h;generalize W.putObj (w.heap.size+7) (.loop (c .exhausted Y))=l at *;obtain⟨v,E,b⟩:=f.o;have kv:l.cell? ⟨w.heap.size+4,0,Y⟩=A v:=Kq _ _ 0 _ _ _ E;have F:=Hd E;have ad:=f.z;have hlen:(ay s 0).1.length+0≤s.size:=rR s (s.size+1) 0 (J0 _);clear E
   gi_wp2_with (gi_at_builtin;go_must (refine wpListIn_append_own _ Z (.tmp 32) (.tmp 36) 182 Z (w.heap.size+6) 192 i0 _ 3 32 Tryz.underlying182 Q R S V Z (by decide) v (ay s 0).1.length (bO (ay s 0).1) Z (b.alloc _) ⟨l.heap.size,0,Y⟩ 1 1 [I r8 7,r9 ⟨#[]⟩,I U s.size] Z Z (jx l [I r8 7,r9 ⟨#[]⟩,I U s.size] 192) (by simp[Value.oneCell']) (by simp only[maxLen];omega) (by omega) (by simp;omega) ?_);intro v' x d r _;obtain⟨g',C,rfl⟩:=ownsRow_succ d;have m:l.grownBy x v.ownBlock:=o5 (World.grownBy_alloc l _ _) r;have T2:=ap m f.t2 (fun e=>by have:=(b.lt _ e.symm).1;omega);have T3:=ap m f.t3 (fun e=>by have:=(b.lt _ e.symm).1;omega);have a2:x.cell? ⟨w.heap.size,0,Y⟩=A (O Y 0 0):=Kq _ _ 0 _ _ _ T2;have b2:x.frozen? ⟨w.heap.size,0,Y⟩=false:=aB T2 0;have a3:x.cell? ⟨w.heap.size+1,0,Y⟩=A (I U 0):=Kq _ _ 0 _ _ _ T3;have b6:x.cell? ⟨w.heap.size+1,1,Y⟩=A (I U 0):=Kq _ _ 1 _ _ _ T3;have b3:x.frozen? ⟨w.heap.size+1,0,Y⟩=false:=aB T3 0;have b7:x.frozen? ⟨w.heap.size+1,1,Y⟩=false:=aB T3 1)
   have G:=d;generalize O (A ⟨g',0,Y⟩) ((ay s 0).1.length+1) C=H at *;have e2:=az (az (heap_set T2 0 H) (T:=w.heap.size+1) (by omega) 0 (I U 0)) (T:=w.heap.size+1) (by omega) 1 (I U 0);have e3:=heap_set (heap_set (az T3 (T:=w.heap.size) (by omega) 0 H) 0 (I U 0)) 1 (I U 0);have a1:x.heap[w.heap.size+6]?=A (.deferred (A [])):=f.dfKept b m;have K:=az (az (az a1 (T:=w.heap.size) (by omega) 0 H) (T:=w.heap.size+1) (by omega) 0 (I U 0)) (T:=w.heap.size+1) (by omega) 1 (I U 0);have L:Kr w x:=f.low.grown m (by omega) (fun k e=>by have:=(b.lt k e).1;omega);have M:=((L.setCell (p:=⟨w.heap.size,0,Y⟩) (JM _) H).setCell (p:=⟨w.heap.size+1,0,Y⟩) (by show w.heap.size≤w.heap.size+1;omega) (I U 0)).setCell (p:=⟨w.heap.size+1,1,Y⟩) (by show w.heap.size≤w.heap.size+1;omega) (I U 0);have bk:=ownsRow_setCell_below (ownsRow_setCell_below (ownsRow_setCell_below G (a:=⟨w.heap.size,0,Y⟩) (by show w.heap.size<w.heap.size+6;omega) H) (a:=⟨w.heap.size+1,0,Y⟩) (by show w.heap.size+1<w.heap.size+6;omega) (I U 0)) (a:=⟨w.heap.size+1,1,Y⟩) (by show w.heap.size+1<w.heap.size+6;omega) (I U 0);have bl:=ownsRow_base (b':=w.heap.size) (ownsRow_putObj bk (.deferred Y) K Z) (by omega);have bn:=(JL.1 K).1;have N:=M.grown (grownBy_putObj' _ (w.heap.size+6) (.deferred Y)) (by omega) (fun k e=>by cases e;omega);refine tt w _ s H _ _ e2 e3 K _ Z Z ⟨N,Or.inl ⟨bg.o,H,Z,?_⟩⟩
   simpa [bO,gl]using bl
  ·refine wm g hl ?_;have hz:w.heap.size+7<W.heap.size:=(JL.1 hl).1
   gi_wp2_with fail
   refine tt w _ s _ _ _ ((World.putObj_heap_other (by omega)).trans k2) ((World.putObj_heap_other (by omega)).trans k3) ((World.putObj_heap_other (by omega)).trans bd) _ Z Z ?_;exact⟨(u.grown (grownBy_putObj' _ _ _) (by omega) (fun k e=>by cases e;omega)).grown (grownBy_putObj' _ _ _) (by simp;omega) (fun k e=>by cases e;omega),Or.inr ⟨er,pl,bb,Z⟩⟩
