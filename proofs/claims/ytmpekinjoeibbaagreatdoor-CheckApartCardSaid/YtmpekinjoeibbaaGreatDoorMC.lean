/- Parts of one proof, joined; conditions stand in each theorem. -/
import Derived.Test.YtmpekinjoeibbaaGreatDoorMA
import Derived.RangeFuncNested
import Derived.RangeFuncBound
import Derived.RangeFuncCalls
import Derived.RangeFuncLeaves
import Derived.Shelf.Abstract
import Derived.Shelf.RegionOpen
import Derived.OwnWalkIn
import Derived.TacticsInMore
import Derived.LoopNIn
import Derived.LoopIn
import Derived.Test.YtmpekinjoeibbaaGreatDoorMB
open Go renaming Value→r3,World→p7,Ending→xv,Calls→r9,undef→tT
open Go.Value renaming func→wP,bool→ur,int→I,string→p9,tuple→wF,agg→s3,slice→O,pointer→tv
open Option renaming some→A,none→V
open Go.Ending renaming returned→tF
open Go.IntKind renaming u8→J,i64→Y
open Go.Obj renaming cells→p8
namespace Go.Proofs.YtmpekinjoeibbaaGreatDoor
set_option maxHeartbeats 1000000
set_option maxRecDepth 100000
open Go.RowKit
def kh(fn:FuncId) (tmps:Array r3) (a:Array Tmp) (assign body:Code) (D:Nat) (st:LoopState) (b:Option Code):Loop:=
 { state:=st,pending:=b,fn,tmps,params:=a,assign,body,defers:=D }
theorem yL{n:Nat}{P:Program}{g:Operand}{j:Array Tmp}{assign body:Code}{Q:Exit→Act→p7→Prop}{a:Act}{w:p7}(d:Nat)(i:Array r3)(D:Nat)(args:Array r3)
  (l:a.eval g=wP (.func d) #[] i) (m:∀args w,(callFunc d args).run P w=.ok (.enter d args) w) (k:w.heap.size=D) (c:#[wP (.yield (D+1)) #[] #[]]++i=args)
  (h:∀fn e b,Hid (e=kh fn a.tmps j assign body D)→Hid (b=(w.alloc (.deferred (A []))).alloc (.loop (e .ready V)))→
   CallsIn Fence.wide (n-1) P d args b (rangePost Fence.wide n P (D+1) Q { a with defers:={ target:=.collected D,args:=#[] }::a.defers })) :
  (Code.rangeFunc g j assign body).wpIn Fence.wide n P Q a w:=by
 refine wpIn_rangeFunc ?_;intro fn _;obtain⟨b,f⟩:=zzy ((w.alloc (.deferred (A []))).alloc (.loop (kh fn a.tmps j assign body w.heap.size .ready V)));have o:=h fn _ b (Hd Z) (Hd (by rw[←f,k]));subst k c
 refine⟨w.heap.size+1,[{ target:=.collected w.heap.size,args:=#[] }],b,{ target:=.fn (.func d) i,args:=#[wP (.yield (w.heap.size+1)) #[] #[]] },b,d,
  #[wP (.yield (w.heap.size+1)) #[] #[]]++i,b,?_,?_,?_,?_,(fun h=>by cases h),?_⟩
 ·rw[←f];exact run_enterLoop_outer _ _ _ _ _
 ·simp only[resolve,l];simp[go_sem]
 ·intro p _;trivial
 ·simp[invoke,go_sem,m]
 ·exact o
theorem yz{n:Nat}{P:Program}{l:Nat}{fn:FuncId}{tmps:Array r3}{g:Array Tmp}{assign body:Code}{D:Nat}{args:Array r3}{W:p7}{R:xv→p7→Prop}
  {b:LoopState→Option Code→Loop} (i:Hid (b=kh fn tmps g assign body D))
  (j:W.heap[l]?=A (.loop (b .ready V))) (k:args.size=g.size)
  (h:assign.wpIn (Fence.wide.inRound l) n P (Exit.then (fun d a=>a.heap[l]?=A (.loop (b .ready V))∧
    body.wpIn (Fence.wide.inRound l) n P (roundPost P l R) d (a.putObj l (.loop (b .busy V)))) (fun _ _ _=>False))
   { tmps:=(g.zip args).foldl (fun t (p,v)=>t.setIfInBounds p v) tmps,defers:=[] } W) :
  YieldAt Fence.wide n P l args W R:=by
 obtain rfl:=i.o;have m:=run_yield (P:=P) (args:=args) j k;refine⟨fn,_,assign,body,m,roundIn_of_wpIn trivial (wpIn_mono h ?_)⟩;rintro e d a f
 cases e with
 | normal=>exact⟨_,run_beginRound f.1 Z,f.2⟩
 | exit id=>exact f.elim
 | goto t=>exact f.elim
 | ret=>exact f.elim
 | panic c=>exact f.elim
 | outgrown=>exact f.elim
theorem uB{P:Program}{l:Nat}{fn:FuncId}{tmps:Array r3}{c:Array Tmp}{assign body:Code}{D:Nat}{a:Act}{W:p7}{R:xv→p7→Prop}
  {b:LoopState→Option Code→Loop} (d:Hid (b=kh fn tmps c assign body D))
  (e:W.heap[l]?=A (.loop (b .busy V))) (h:R (tF (ur true)) (W.putObj l (.loop (b .ready V)))) :
  roundPost P l R .normal a W:=by
 obtain rfl:=d.o;exact⟨_,_,run_endRound (P:=P) V e,h⟩
theorem tn{P:Program}{l:Nat}{fn:FuncId}{tmps:Array r3}{c:Array Tmp}{assign body:Code}{D:Nat}{a:Act}{W:p7}{R:xv→p7→Prop}
  {b:LoopState→Option Code→Loop} (d:Hid (b=kh fn tmps c assign body D))
  (e:W.heap[l]?=A (.loop (b .busy V))) (h:R (tF (ur false)) (W.putObj l (.loop (b .done (A .ret))))) :
  roundPost P l R .ret a W:=by
 obtain rfl:=d.o;exact⟨_,_,run_endRound (P:=P) (A .ret) e,h⟩
theorem uS{n:Nat}{P:Program}{l:Nat}{fn:FuncId}{tmps:Array r3}{c:Array Tmp}{assign body:Code}{D:Nat}{a:Act}{W:p7}{Q:Exit→Act→p7→Prop}{v:r3}
  {b:LoopState→Option Code→Loop} (d:Hid (b=kh fn tmps c assign body D))
  (e:W.heap[l]?=A (.loop (b .ready V))) (h:Q .normal a (W.putObj l (.loop (b .exhausted V)))) :
  rangePost Fence.wide n P l Q a (tF v) W:=by
 obtain rfl:=d.o;exact⟨V,_,run_endLoop (P:=P) e (by simp[kh]),h⟩
theorem sL{n:Nat}{P:Program}{l:Nat}{fn:FuncId}{tmps:Array r3}{c:Array Tmp}{assign body:Code}{D:Nat}{a:Act}{W:p7}{Q:Exit→Act→p7→Prop}{v:r3}
  {b:LoopState→Option Code→Loop} (d:Hid (b=kh fn tmps c assign body D))
  (e:W.heap[l]?=A (.loop (b .done (A .ret)))) (h:Code.ret.wpIn Fence.wide n P Q a (W.putObj l (.loop (b .exhausted (A .ret))))) :
  rangePost Fence.wide n P l Q a (tF v) W:=by
 obtain rfl:=d.o;exact⟨A .ret,_,run_endLoop (P:=P) e (by simp[kh]),h⟩
open Go.Shelf
attribute [local go_sem] Oper.semAt_some
def fO(t:Tok):List Value:=[I J t.1,p9 t.2.1,I Y t.2.2]
def bK(l:List Tok):List Value:=l.flatMap fO
def lJ(w:p7) (s:ByteArray) (e:xv) (W:p7):Prop:=
 FS w W∧
 (((aG s 0).2=V∧∃v,e=tF (wF #[v,s3 #[I Y 0,I Y 0]])∧W.ownsRow w.heap.size 89 3 v ((aG s 0).1.length+1) (bK ((aG s 0).1++[(7,⟨#[]⟩,s.size)])))∨
  ∃er pl,(aG s 0).2=A (er,pl)∧e=tF (wF #[O V 0 0,s3 #[I Y er,I Y pl]]))
theorem oC(s:ByteArray)(w:p7)(a:16384<s.size) :
  r9 Tryz.prog 18 #[p9 s] w fun e w'=>e=tF (wF #[O V 0 0,s3 #[I Y 3,I Y 0]])∧FS w w':=by
 go_enter Tryz.func18,Tryz.ntmps18
 go_wp2
 go_returns
 exact⟨Z,by go_grown⟩
theorem sT(s:ByteArray)(w:p7) :
  r9 Tryz.prog 38 #[p9 s] w fun e w'=>e=tF (tv (A ⟨w.heap.size,0,V⟩))∧w'=w.alloc (p8 #[p9 s,I Y (0:Nat),I Y (-1)] 203):=by
 go_enter Tryz.func38,Tryz.ntmps38
 go_wp2
 go_ret;exact⟨Z,Z⟩
theorem Eb(R:Nat)(w:p7) :
  r9 Tryz.prog 39 #[tv (A ⟨R,0,V⟩)] w fun e w'=>e=tF (wP (.func 92) #[] #[tv (A ⟨w.heap.size,0,V⟩)])∧w'=w.alloc (p8 #[tv (A ⟨R,0,V⟩)] 141):=by
 go_enter Tryz.func39,Tryz.ntmps39
 go_wp2
 go_ret;exact⟨Z,Z⟩
structure TL (w:p7) (B:Nat) (rec:Loop) (pre:List Tok) (W:p7):Prop where
 low:Below B w W
 t2:W.heap[B]?=A (p8 #[O V 0 0] 79 (0,0))
 t3:W.heap[B+1]?=A (p8 #[I Y 0,I Y 0] 29 (0,0))
 bx:W.heap[B+5]?=A (p8 #[tv (A ⟨B+3,0,V⟩)] 141 (0,0))
 o:∃v,W.heap[B+4]?=A (p8 #[v] 79 (0,0))∧W.ownsRow (B+6) 89 3 v pre.length (bK pre)
 lp:W.heap[B+7]?=A (.loop rec)
 df:W.heap[B+6]?=A (.deferred (A []))
 hB:1<B
 tab:aM W
section
variable {w W W':p7} {B:Nat} {rec:Loop} {pre:List Tok}
theorem TL.u(h:TL w B rec pre W):B+7<W.heap.size:=(ES.1 h.lp).1
theorem TL.q(h:TL w B rec pre W)(a:W.grownBy W' (A (B+2))):TL w B rec pre W':=by
 obtain⟨v,hv,b⟩:=h.o;have c:=h.u
 exact { low:=h.low.grown a (by omega) (fun k e=>by cases e;omega),t2:=aJ a h.t2 (by simp),t3:=aJ a h.t3 (by simp),bx:=aJ a h.bx (by simp),
         o:=⟨v,aJ a hv (by simp),b.kept a (Or.inr (fun e=>by have:=(b.lt _ e).1;omega))⟩,lp:=aJ a h.lp (by simp),df:=aJ a h.df (by simp),hB:=h.hB,tab:=h.tab.N a (by have:=h.hB;omega) }
theorem TL.put(h:TL w B rec pre W)(a:Loop):TL w B a pre (W.putObj (B+7) (.loop a)):=by
 obtain⟨v,hv,c⟩:=h.o;have d:=h.u;have b:=grownBy_putObj' W (B+7) (.loop a)
 exact { low:=h.low.grown b (by omega) (fun k e=>by cases e;omega),t2:=aJ b h.t2 (by simp),t3:=aJ b h.t3 (by simp),bx:=aJ b h.bx (by simp),
         o:=⟨v,aJ b hv (by simp),ownsRow_putObj c _ h.lp Z⟩,lp:=World.putObj_heap_same d,df:=aJ b h.df (by simp),hB:=h.hB,tab:=h.tab.N b (by have:=h.hB;omega) }
theorem TL.y(h:TL w B rec pre W)(o:Obj):TL w B rec pre (W.alloc o):=by
 obtain⟨v,hv,b⟩:=h.o;have c:=h.u;have a:FS W (W.alloc o):=(EU _ W).alloc (ET _) o
 exact { low:=h.low.alloc (by omega) o,t2:=ag a h.t2 (by omega),t3:=ag a h.t3 (by omega),bx:=ag a h.bx (by omega),
         o:=⟨v,ag a hv (by omega),b.alloc o⟩,lp:=ag a h.lp (by omega),df:=ag a h.df (by omega),hB:=h.hB,tab:=h.tab.C a }
theorem TL.outKept(h:TL w B rec pre W){v:r3}(hv:W.heap[B+4]?=A (p8 #[v] 79 (0,0)))(a:W.ownsRow (B+6) 89 3 v pre.length (bK pre))(b:W.grownBy W' v.ownBlock):W'.heap[B+4]?=A (p8 #[v] 79 (0,0)):=by
 have c:=h.u;exact aJ b hv (fun e=>by have:=(a.lt _ e.symm).1;omega)
theorem TL.dfKept(h:TL w B rec pre W){v:r3}(b:W.ownsRow (B+6) 89 3 v pre.length (bK pre))(c:W.grownBy W' v.ownBlock):W'.heap[B+6]?=A (.deferred (A [])):=by
 refine aJ c h.df (fun e=>?_);rcases b.2 with ⟨rfl,_⟩|⟨g,cap,cur,rfl,_,a,_⟩
 ·simp[Value.ownBlock]at e
 ·simp only[Value.ownBlock,oF]at e;subst e;have:=h.df;rw[a]at this;cases this
theorem TL.push(h:TL w B rec pre W){v j:r3}{t:Tok}(hv:W.heap[B+4]?=A (p8 #[v] 79 (0,0)))(l:W.ownsRow (B+6) 89 3 v pre.length (bK pre))(c:W.grownBy W' v.ownBlock)(m:W'.ownsRow (B+6) 89 3 j (pre.length+1) (bK pre++fO t)) :
  TL w B rec (pre++[t]) (W'.setCell ⟨B+4,0,V⟩ j):=by
 have s:=h.u;have a:∀i,i≤B+5→A i≠v.ownBlock:=fun i p e=>by have:=(l.lt i e.symm).1;omega
 have d:∀{i:Nat} {o:Obj},W.heap[i]?=A o→o.isCells=false→A i≠v.ownBlock:=fun {i o} p q e=>by
  rcases l.2 with ⟨rfl,_⟩|⟨g,cap,cur,rfl,_,b,_⟩
  ·simp[Value.ownBlock]at e
  ·simp only[Value.ownBlock,oF]at e;subst e;rw[p]at b;injection b with b;subst b;simp[Obj.isCells]at q
 have f:Below B w W':=h.low.grown c (by omega) (fun k e=>by have:=(l.lt k e).1;omega);have r:W'.heap[B+4]?=A (p8 #[v] 79 (0,0)):=aJ c hv (a _ (by omega));have n:(W'.setCell ⟨B+4,0,V⟩ j).ownsRow (B+6) 89 3 j (pre.length+1) (bK pre++fO t):=ownsRow_setCell_below m (by show B+4<B+6;omega) _
 exact { low:=f.setCell (by show B≤B+4;omega) _,t2:=aH (aJ c h.t2 (a _ (by omega))) (by omega) _ _,t3:=aH (aJ c h.t3 (a _ (by omega))) (by omega) _ _,bx:=aH (aJ c h.bx (a _ (by omega))) (by omega) _ _,
         o:=⟨j,heap_set r 0 j,by simpa [bK]using n⟩,lp:=aH (aJ c h.lp (d h.lp Z)) (by omega) _ _,df:=aH (aJ c h.df (d h.df Z)) (by omega) _ _,hB:=h.hB,
         tab:=(h.tab.q (c.block _ h.tab.lt (a _ (by have:=h.hB;omega)))).q (EW _ _ _ _ (by show 1≠B+4;have:=h.hB;omega)) }
theorem TL.fault(h:TL w B rec pre W)(er pl:Int)(a:Loop) :
  ((((W.setCell ⟨B,0,V⟩ (O V 0 0)).setCell ⟨B+1,0,V⟩ (I Y er)).setCell ⟨B+1,1,V⟩ (I Y pl)).drew).heap[B+7]?=A (.loop rec)∧
  ∀b,b=((((W.setCell ⟨B,0,V⟩ (O V 0 0)).setCell ⟨B+1,0,V⟩ (I Y er)).setCell ⟨B+1,1,V⟩ (I Y pl)).drew).putObj (B+7) (.loop a)→
   (Below B w b∧b.heap[B]?=A (p8 #[O V 0 0] 79 (0,0))∧b.heap[B+1]?=A (p8 #[I Y er,I Y pl] 29 (0,0))∧b.heap[B+7]?=A (.loop a)∧b.heap[B+6]?=A (.deferred (A []))):=by
 have g:=h.u;have c:=aH (aH (aH h.lp (T:=B) (by omega) 0 (O V 0 0)) (T:=B+1) (by omega) 0 (I Y er)) (T:=B+1) (by omega) 1 (I Y pl);refine⟨c,?_⟩;rintro b rfl;have d1:=aH (aH (aH h.df (T:=B) (by omega) 0 (O V 0 0)) (T:=B+1) (by omega) 0 (I Y er)) (T:=B+1) (by omega) 1 (I Y pl);have t2:=aH (aH (heap_set h.t2 0 (O V 0 0)) (T:=B+1) (by omega) 0 (I Y er)) (T:=B+1) (by omega) 1 (I Y pl);have t3:=heap_set (heap_set (aH h.t3 (T:=B) (by omega) 0 (O V 0 0)) 0 (I Y er)) 1 (I Y pl);have d:=(((h.low.setCell (p:=⟨B,0,V⟩) (ET _) (O V 0 0)).setCell (p:=⟨B+1,0,V⟩) (by show B≤B+1;omega) (I Y er)).setCell (p:=⟨B+1,1,V⟩) (by show B≤B+1;omega) (I Y pl)).drew;have f:B+7<((((W.setCell ⟨B,0,V⟩ (O V 0 0)).setCell ⟨B+1,0,V⟩ (I Y er)).setCell ⟨B+1,1,V⟩ (I Y pl)).drew).heap.size:=(ES.1 c).1;exact⟨d.grown (grownBy_putObj' _ _ _) (by omega) (fun k e=>by cases e;omega),(World.putObj_heap_other (by omega)).trans t2,(World.putObj_heap_other (by omega)).trans t3,World.putObj_heap_same f,(World.putObj_heap_other (by omega)).trans d1⟩
end
theorem qx(w W:p7)(s:ByteArray)(v:r3)(er pl:Int)(T2:W.heap[w.heap.size]?=A (p8 #[v] 79 (0,0)))(e:W.heap[w.heap.size+1]?=A (p8 #[I Y er,I Y pl] 29 (0,0)))
  (df:W.heap[w.heap.size+6]?=A (.deferred (A []))) (tmps:Array r3) (f:tmps.getD 2 tT=tv (A ⟨w.heap.size,0,V⟩)) (g:tmps.getD 3 tT=tv (A ⟨w.heap.size+1,0,V⟩))
  (h:lJ w s (tF (wF #[v,s3 #[I Y er,I Y pl]])) (W.putObj (w.heap.size+6) (.deferred V))) :
  bodyPostM Fence.wide 9 Tryz.prog Tryz.f18 (lJ w s) .ret ⟨tmps,[{ target:=.collected (w.heap.size+6),args:=#[] }]⟩ W:=by
 refine⟨by simp,Or.inl ⟨_,_,Z,run_takeDeferred df,?_⟩⟩;have i:(W.putObj (w.heap.size+6) (.deferred V)).heap[w.heap.size]?=A (p8 #[v] 79 (0,0)):=(World.putObj_heap_other (by omega)).trans T2;have d:(W.putObj (w.heap.size+6) (.deferred V)).heap[w.heap.size+1]?=A (p8 #[I Y er,I Y pl] 29 (0,0)):=(World.putObj_heap_other (by omega)).trans e;generalize W.putObj (w.heap.size+6) (.deferred V)=a at *;have c2:a.cell? ⟨w.heap.size,0,V⟩=A v:=FR _ _ 0 _ _ _ i;have j:a.cell? ⟨w.heap.size+1,0,V⟩=A (I Y er):=FR _ _ 0 _ _ _ d;have c4:a.cell? ⟨w.heap.size+1,1,V⟩=A (I Y pl):=FR _ _ 1 _ _ _ d;have b:tmps[2]?.getD tT=tv (A ⟨w.heap.size,0,V⟩):=by simpa using f
 have c:tmps[3]?.getD tT=tv (A ⟨w.heap.size+1,0,V⟩):=by simpa using g
 refine⟨_,?_,h⟩;simp[results,Tryz.results18,go_sem,b,c,c2,j,c4]
theorem Do:(Tryz.prog.info? 89).map (fun i=>(i.zero,i.size,i.bytes))=A (A (s3 #[I J 0,p9 ByteArray.empty,I Y 0]),3,32):=by kernel_rfl
theorem qe(s:ByteArray)(w:p7)(hs:s.size≤16384)(ht:aM w) :
  r9 Tryz.prog 18 #[p9 s] w (lJ w s):=by
 refine callsIn_wide (n:=9).1 ?_;refine callsIn_of_wp_marks Tryz.func18 Z trivial ?_ Z;simp only[Tryz.ntmps18,List.size_toArray,FC,List.length_nil,Nat.reduceAdd,Nat.reduceSub,Array.replicate_succ,Array.replicate_zero,List.push_toArray,List.append_toArray,List.nil_append,List.cons_append]
 gi_wp2_with fail
 refine⟨trivial,callsIn_wide.2 ((sT s _).mono ?_)⟩;rintro e w1 ⟨rfl,rfl⟩
 gi_wp2_with fail
 refine⟨trivial,callsIn_wide.2 ((Eb _ _).mono ?_)⟩;rintro e w1 ⟨rfl,rfl⟩
 gi_wp2_with fail
 refine yL 92 #[tv (A ⟨w.heap.size+5,0,V⟩)] (w.heap.size+6) #[wP (.yield (w.heap.size+7)) #[] #[],tv (A ⟨w.heap.size+5,0,V⟩)] Z (enters_of Tryz.func92 (by kernel_rfl) Z) (by simp) Z ?_;intro fn c N g D;have z:TL w w.heap.size (c .ready V) [] N∧Rdr N (w.heap.size+3) (w.heap.size+2) s 0:=by
  have u:FS w N:=by
   rw[D.o];exact ((((((((EU _ w).alloc (ET _) _).alloc (by simp) _).alloc (by simp;omega) _).alloc (by simp;omega) _).alloc (by simp;omega) _).alloc (by simp;omega) _).alloc (by simp;omega) _).alloc (by simp;omega) _
  refine⟨{ low:=u,t2:=?_,t3:=?_,bx:=?_,o:=⟨O V 0 0,?_,World.ownsRow_nil N _ _ _⟩,lp:=?_,df:=?_,hB:=ht.lt,tab:=ht.C u },?_,(-1),?_⟩<;>(rw[D.o];simp only[ib,o2];repeat (first|rw[oA trivial] | rw[ox (by omega)] | rw[oA (by omega)]);try rfl)
 clear D;obtain⟨z,hR⟩:=z;dsimp only;obtain⟨i0,P,Q,R,S⟩:=info_parts Do;have hQ:w.heap.size+2≠1:=by have:=ht.lt;omega
 refine (all1_in 8 (w.heap.size+7) (w.heap.size+5) (w.heap.size+3) (w.heap.size+2) s hs hQ (fun pre W=>TL w w.heap.size (c .ready V) pre W)
  (fun er pl W=>FS w W∧W.heap[w.heap.size]?=A (p8 #[O V 0 0] 79 (0,0))∧W.heap[w.heap.size+1]?=A (p8 #[I Y er,I Y pl] 29 (0,0))∧W.heap[w.heap.size+7]?=A (.loop (c .done (A .ret)))∧W.heap[w.heap.size+6]?=A (.deferred (A [])))
  (fun pre W W' h hg=>h.q hg) (fun pre W h=>⟨h.tab,FR _ _ 0 _ _ _ h.bx⟩) ?hY N hR z).mono ?hend
 case hY =>
  intro pre k W hk bd h;refine yz g h.lp Z ?_
  gi_wp2_with fail
  generalize hT:an s k s[k]=t at *;obtain⟨kd,tx,er,en⟩:=t;dsimp only;have h2:=h.y (p8 #[I J kd,p9 tx,I Y k] 89);have f:=h2.put (c .busy V);have bk:=h.u;have U:∀j,Rdr W (w.heap.size+3) (w.heap.size+2) s j→Rdr ((W.alloc (p8 #[I J kd,p9 tx,I Y k] 89)).putObj (w.heap.size+7) (.loop (c .busy V))) (w.heap.size+3) (w.heap.size+2) s j:=fun j hj=>by
   have ar:=hj.t ((EU _ W).alloc (ET _) (p8 #[I J kd,p9 tx,I Y k] 89));obtain⟨p1,p,p2⟩:=ar;exact⟨(World.putObj_heap_other (by omega)).trans p1,p,(World.putObj_heap_other (by omega)).trans p2⟩
  have h6:((W.alloc (p8 #[I J kd,p9 tx,I Y k] 89)).putObj (w.heap.size+7) (.loop (c .busy V))).heap[W.heap.size]?=A (p8 #[I J kd,p9 tx,I Y k] 89 (0,0)):=by rw[World.putObj_heap_other (by omega)];exact ot W _
  refine⟨h2.lp,?_⟩;have bb:W.heap.size<((W.alloc (p8 #[I J kd,p9 tx,I Y k] 89)).putObj (w.heap.size+7) (.loop (c .busy V))).heap.size:=(ES.1 h6).1;generalize (W.alloc (p8 #[I J kd,p9 tx,I Y k] 89)).putObj (w.heap.size+7) (.loop (c .busy V))=l at *;generalize W.heap.size=T6 at *;obtain⟨H6,av,HT⟩:=zz3 h6 U hT;clear h2 h6 U hT;obtain⟨c0,c1,c2,f0,f1,f2⟩:=cells3 H6.o
  by_cases he:er=0
  ·subst he;obtain⟨v,hv,b⟩:=f.o;have kv:l.cell? ⟨w.heap.size+4,0,V⟩=A v:=FR _ _ 0 _ _ _ hv;have E:=Hd hv;have X:=f.u;clear hv
   gi_wp2_with (gi_at_builtin;go_must (refine wpListIn_append_own _ Z (.tmp 28) (.tmp 30) 79 Z (w.heap.size+6) 89 i0 _ 3 32 Tryz.underlying79 P Q R S Z (by decide) v pre.length (bK pre) Z (b.alloc _) ⟨l.heap.size,0,V⟩ 1 1 [I J kd,p9 tx,I Y k] Z Z (dp l [I J kd,p9 tx,I Y k] 89) (by simp[Value.oneCell']) (by simp only[maxLen];omega) (by omega) (by simp;omega) ?_);intro v' x d r _;obtain⟨g',C,rfl⟩:=ownsRow_succ d;have m:l.grownBy x v.ownBlock:=o1 (World.grownBy_alloc l _ _) r;have ad:=f.outKept E.o b m;have bl:x.cell? ⟨w.heap.size+4,0,V⟩=A v:=FR _ _ 0 _ _ _ ad;have bn:x.frozen? ⟨w.heap.size+4,0,V⟩=false:=bM ad 0)
   have y:∀i,i<w.heap.size+6→A i≠v.ownBlock:=fun i hi e=>by have:=(b.lt i e.symm).1;omega
   have hp:=f.push E.o b m (t:=(kd,tx,k)) d;exact uB g hp.lp (Or.inl ⟨Z,Z,hp.put _,fun j hj=>(((av.o j hj).move m (y _ (by omega)) (y _ (by omega))).b (T:=w.heap.size+4) (i:=0) _ (by omega) (by omega)).move (grownBy_putObj' _ _ _) (by simp) (by simp)⟩)
  ·have bq:((er:Int) != 0)=true:=by rw[bne_iff_ne];omega
   have HE:=Hd he;clear he;have k2:l.cell? ⟨w.heap.size,0,V⟩=A (O V 0 0):=FR _ _ 0 _ _ _ f.t2;have k3:l.cell? ⟨w.heap.size+1,0,V⟩=A (I Y 0):=FR _ _ 0 _ _ _ f.t3;have br:l.cell? ⟨w.heap.size+1,1,V⟩=A (I Y 0):=FR _ _ 1 _ _ _ f.t3;have bt:l.frozen? ⟨w.heap.size,0,V⟩=false:=by simp[World.frozen?,f.t2]
   have f3:l.frozen? ⟨w.heap.size+1,0,V⟩=false:=by simp[World.frozen?,f.t3]
   have bB:l.frozen? ⟨w.heap.size+1,1,V⟩=false:=by simp[World.frozen?,f.t3]
   have af:=f.fault er k (c .done (A .ret));have ak:=Hd af;clear af
   gi_wp2_with fail
   gi_region
   all_goals gi_wp2
   all_goals exact tn g ak.o.1 (Or.inr ⟨HE.o,Z,ak.o.2 _ Z⟩)
 case hend =>
  clear z hR;rintro e W ⟨⟨vr,rfl⟩,(⟨y,h⟩|⟨er,pl,a1,u,k2,k3,hl,a6⟩)⟩
  ·refine uS g h.lp ?_;have a7:=Hd y;have f:=h.put (c .exhausted V);clear y h;generalize W.putObj (w.heap.size+7) (.loop (c .exhausted V))=l at *;obtain⟨v,hv,b⟩:=f.o;have kv:l.cell? ⟨w.heap.size+4,0,V⟩=A v:=FR _ _ 0 _ _ _ hv;have E:=Hd hv;have X:=f.u;have hlen:(aG s 0).1.length+0≤s.size:=pw s (s.size+1) 0 (Fi _);clear hv
   gi_wp2_with (gi_at_builtin;go_must (refine wpListIn_append_own _ Z (.tmp 32) (.tmp 36) 79 Z (w.heap.size+6) 89 i0 _ 3 32 Tryz.underlying79 P Q R S Z (by decide) v (aG s 0).1.length (bK (aG s 0).1) Z (b.alloc _) ⟨l.heap.size,0,V⟩ 1 1 [I J 7,p9 ⟨#[]⟩,I Y s.size] Z Z (dp l [I J 7,p9 ⟨#[]⟩,I Y s.size] 89) (by simp[Value.oneCell']) (by simp only[maxLen];omega) (by omega) (by simp;omega) ?_);intro v' x d r _;obtain⟨g',C,rfl⟩:=ownsRow_succ d;have m:l.grownBy x v.ownBlock:=o1 (World.grownBy_alloc l _ _) r;have T2:=aJ m f.t2 (fun e=>by have:=(b.lt _ e.symm).1;omega);have T3:=aJ m f.t3 (fun e=>by have:=(b.lt _ e.symm).1;omega);have a2:x.cell? ⟨w.heap.size,0,V⟩=A (O V 0 0):=FR _ _ 0 _ _ _ T2;have b2:x.frozen? ⟨w.heap.size,0,V⟩=false:=bM T2 0;have a3:x.cell? ⟨w.heap.size+1,0,V⟩=A (I Y 0):=FR _ _ 0 _ _ _ T3;have bR:x.cell? ⟨w.heap.size+1,1,V⟩=A (I Y 0):=FR _ _ 1 _ _ _ T3;have b3:x.frozen? ⟨w.heap.size+1,0,V⟩=false:=bM T3 0;have b1:x.frozen? ⟨w.heap.size+1,1,V⟩=false:=bM T3 1)
   have F:=d;generalize O (A ⟨g',0,V⟩) ((aG s 0).1.length+1) C=G at *;have e2:=aH (aH (heap_set T2 0 G) (T:=w.heap.size+1) (by omega) 0 (I Y 0)) (T:=w.heap.size+1) (by omega) 1 (I Y 0);have e3:=heap_set (heap_set (aH T3 (T:=w.heap.size) (by omega) 0 G) 0 (I Y 0)) 1 (I Y 0);have aq:x.heap[w.heap.size+6]?=A (.deferred (A [])):=f.dfKept b m;have H:=aH (aH (aH aq (T:=w.heap.size) (by omega) 0 G) (T:=w.heap.size+1) (by omega) 0 (I Y 0)) (T:=w.heap.size+1) (by omega) 1 (I Y 0);have K:FS w x:=f.low.grown m (by omega) (fun k e=>by have:=(b.lt k e).1;omega);have L:=((K.setCell (p:=⟨w.heap.size,0,V⟩) (ET _) G).setCell (p:=⟨w.heap.size+1,0,V⟩) (by show w.heap.size≤w.heap.size+1;omega) (I Y 0)).setCell (p:=⟨w.heap.size+1,1,V⟩) (by show w.heap.size≤w.heap.size+1;omega) (I Y 0);have a8:=ownsRow_setCell_below (ownsRow_setCell_below (ownsRow_setCell_below F (a:=⟨w.heap.size,0,V⟩) (by show w.heap.size<w.heap.size+6;omega) G) (a:=⟨w.heap.size+1,0,V⟩) (by show w.heap.size+1<w.heap.size+6;omega) (I Y 0)) (a:=⟨w.heap.size+1,1,V⟩) (by show w.heap.size+1<w.heap.size+6;omega) (I Y 0);have ba:=ownsRow_base (b':=w.heap.size) (ownsRow_putObj a8 (.deferred V) H Z) (by omega);have bc:=(ES.1 H).1;have M:=L.grown (grownBy_putObj' _ (w.heap.size+6) (.deferred V)) (by omega) (fun k e=>by cases e;omega);refine qx w _ s G _ _ e2 e3 H _ Z Z ⟨M,Or.inl ⟨a7.o,G,Z,?_⟩⟩
   simpa [bK,fO]using ba
  ·refine sL g hl ?_;have hz:w.heap.size+7<W.heap.size:=(ES.1 hl).1
   gi_wp2_with fail
   refine qx w _ s _ _ _ ((World.putObj_heap_other (by omega)).trans k2) ((World.putObj_heap_other (by omega)).trans k3) ((World.putObj_heap_other (by omega)).trans a6) _ Z Z ?_;exact⟨(u.grown (grownBy_putObj' _ _ _) (by omega) (fun k e=>by cases e;omega)).grown (grownBy_putObj' _ _ _) (by simp;omega) (fun k e=>by cases e;omega),Or.inr ⟨er,pl,a1,Z⟩⟩
