/- Parts of one proof, joined; conditions stand in each theorem. -/
import Derived.Test.YtkhfjgjjhlnnnaaGreatDoorYMA
import Derived.RangeFuncNested
import Derived.RangeFuncBound
import Derived.RangeFuncCalls
import Derived.RangeFuncLeaves
import Derived.Shelf.Abstract
import Derived.Shelf.RegionOpen
import Derived.OwnWalkIn
import Derived.TacticsInMore
import Derived.LoopNIn
import Derived.LoopIn
import Derived.Test.YtkhfjgjjhlnnnaaGreatDoorYMB
open Go renaming Value→wF,World→wD,Ending→CI,Calls→xL,undef→At
open Go.Value renaming func→CF,bool→AJ,int→I,string→J,tuple→CA,agg→xS,slice→A,pointer→xV
open Option renaming some→Y,none→U
open Go.Ending renaming returned→z8
open Go.IntKind renaming u8→O,i64→Z
open Go.Obj renaming cells→wq
namespace Go.Proofs.YtkhfjgjjhlnnnaaGreatDoor
set_option maxHeartbeats 1000000
set_option maxRecDepth 100000
open Go.RowKit
def kC(fn:FuncId) (tmps:Array wF) (a:Array Tmp) (assign body:Code) (D:Nat) (st:LoopState) (b:Option Code):Loop:=
 { state:=st,pending:=b,fn,tmps,params:=a,assign,body,defers:=D }
theorem yo{n:Nat}{P:Program}{g:Operand}{j:Array Tmp}{assign body:Code}{Q:Exit→Act→wD→Prop}{a:Act}{w:wD}(d:Nat)(i:Array wF)(D:Nat)(args:Array wF)
  (l:a.eval g=CF (.func d) #[] i) (m:∀args w,(callFunc d args).run P w=.ok (.enter d args) w) (k:w.heap.size=D) (c:#[CF (.yield (D+1)) #[] #[]]++i=args)
  (h:∀fn e b,Hid (e=kC fn a.tmps j assign body D)→Hid (b=(w.alloc (.deferred (Y []))).alloc (.loop (e .ready U)))→
   CallsIn Fence.wide (n-1) P d args b (rangePost Fence.wide n P (D+1) Q { a with defers:={ target:=.collected D,args:=#[] }::a.defers })) :
  (Code.rangeFunc g j assign body).wpIn Fence.wide n P Q a w:=by
 refine wpIn_rangeFunc ?_;intro fn _;obtain⟨b,f⟩:=zzy ((w.alloc (.deferred (Y []))).alloc (.loop (kC fn a.tmps j assign body w.heap.size .ready U)));have o:=h fn _ b (Hd V) (Hd (by rw[←f,k]));subst k c
 refine⟨w.heap.size+1,[{ target:=.collected w.heap.size,args:=#[] }],b,{ target:=.fn (.func d) i,args:=#[CF (.yield (w.heap.size+1)) #[] #[]] },b,d,
  #[CF (.yield (w.heap.size+1)) #[] #[]]++i,b,?_,?_,?_,?_,(fun h=>by cases h),?_⟩
 ·rw[←f];exact run_enterLoop_outer _ _ _ _ _
 ·simp only[resolve,l];simp[go_sem]
 ·intro p _;trivial
 ·simp[invoke,go_sem,m]
 ·exact o
theorem ya{n:Nat}{P:Program}{l:Nat}{fn:FuncId}{tmps:Array wF}{g:Array Tmp}{assign body:Code}{D:Nat}{args:Array wF}{W:wD}{R:CI→wD→Prop}
  {b:LoopState→Option Code→Loop} (i:Hid (b=kC fn tmps g assign body D))
  (j:W.heap[l]?=Y (.loop (b .ready U))) (k:args.size=g.size)
  (h:assign.wpIn (Fence.wide.inRound l) n P (Exit.then (fun d a=>a.heap[l]?=Y (.loop (b .ready U))∧
    body.wpIn (Fence.wide.inRound l) n P (roundPost P l R) d (a.putObj l (.loop (b .busy U)))) (fun _ _ _=>False))
   { tmps:=(g.zip args).foldl (fun t (p,v)=>t.setIfInBounds p v) tmps,defers:=[] } W) :
  YieldAt Fence.wide n P l args W R:=by
 obtain rfl:=i.o;have m:=run_yield (P:=P) (args:=args) j k;refine⟨fn,_,assign,body,m,roundIn_of_wpIn trivial (wpIn_mono h ?_)⟩;rintro e d a f
 cases e with
 | normal=>exact⟨_,run_beginRound f.1 V,f.2⟩
 | exit id=>exact f.elim
 | goto t=>exact f.elim
 | ret=>exact f.elim
 | panic c=>exact f.elim
 | outgrown=>exact f.elim
theorem um{P:Program}{l:Nat}{fn:FuncId}{tmps:Array wF}{c:Array Tmp}{assign body:Code}{D:Nat}{a:Act}{W:wD}{R:CI→wD→Prop}
  {b:LoopState→Option Code→Loop} (d:Hid (b=kC fn tmps c assign body D))
  (e:W.heap[l]?=Y (.loop (b .busy U))) (h:R (z8 (AJ true)) (W.putObj l (.loop (b .ready U)))) :
  roundPost P l R .normal a W:=by
 obtain rfl:=d.o;exact⟨_,_,run_endRound (P:=P) U e,h⟩
theorem tn{P:Program}{l:Nat}{fn:FuncId}{tmps:Array wF}{c:Array Tmp}{assign body:Code}{D:Nat}{a:Act}{W:wD}{R:CI→wD→Prop}
  {b:LoopState→Option Code→Loop} (d:Hid (b=kC fn tmps c assign body D))
  (e:W.heap[l]?=Y (.loop (b .busy U))) (h:R (z8 (AJ false)) (W.putObj l (.loop (b .done (Y .ret))))) :
  roundPost P l R .ret a W:=by
 obtain rfl:=d.o;exact⟨_,_,run_endRound (P:=P) (Y .ret) e,h⟩
theorem uG{n:Nat}{P:Program}{l:Nat}{fn:FuncId}{tmps:Array wF}{c:Array Tmp}{assign body:Code}{D:Nat}{a:Act}{W:wD}{Q:Exit→Act→wD→Prop}{v:wF}
  {b:LoopState→Option Code→Loop} (d:Hid (b=kC fn tmps c assign body D))
  (e:W.heap[l]?=Y (.loop (b .ready U))) (h:Q .normal a (W.putObj l (.loop (b .exhausted U)))) :
  rangePost Fence.wide n P l Q a (z8 v) W:=by
 obtain rfl:=d.o;exact⟨U,_,run_endLoop (P:=P) e (by simp[kC]),h⟩
theorem ta{n:Nat}{P:Program}{l:Nat}{fn:FuncId}{tmps:Array wF}{c:Array Tmp}{assign body:Code}{D:Nat}{a:Act}{W:wD}{Q:Exit→Act→wD→Prop}{v:wF}
  {b:LoopState→Option Code→Loop} (d:Hid (b=kC fn tmps c assign body D))
  (e:W.heap[l]?=Y (.loop (b .done (Y .ret)))) (h:Code.ret.wpIn Fence.wide n P Q a (W.putObj l (.loop (b .exhausted (Y .ret))))) :
  rangePost Fence.wide n P l Q a (z8 v) W:=by
 obtain rfl:=d.o;exact⟨Y .ret,_,run_endLoop (P:=P) e (by simp[kC]),h⟩
open Go.Shelf
attribute [local go_sem] Oper.semAt_some
def gh(t:Tok):List Value:=[I O t.1,J t.2.1,I Z t.2.2]
def bQ(l:List Tok):List Value:=l.flatMap gh
def l7(w:wD) (s:ByteArray) (e:CI) (W:wD):Prop:=
 FK w W∧
 (((aJ s 0).2=U∧∃v,e=z8 (CA #[v,xS #[I Z 0,I Z 0]])∧W.ownsRow w.heap.size 122 3 v ((aJ s 0).1.length+1) (bQ ((aJ s 0).1++[(7,⟨#[]⟩,s.size)])))∨
  ∃er pl,(aJ s 0).2=Y (er,pl)∧e=z8 (CA #[A U 0 0,xS #[I Z er,I Z pl]]))
theorem oZ(s:ByteArray)(w:wD)(a:16384<s.size) :
  xL Tryz.prog 54 #[J s] w fun e w'=>e=z8 (CA #[A U 0 0,xS #[I Z 3,I Z 0]])∧FK w w':=by
 go_enter Tryz.func54,Tryz.ntmps54
 go_wp2
 go_returns
 exact⟨V,by go_grown⟩
theorem td(s:ByteArray)(w:wD) :
  xL Tryz.prog 86 #[J s] w fun e w'=>e=z8 (xV (Y ⟨w.heap.size,0,U⟩))∧w'=w.alloc (wq #[J s,I Z (0:Nat),I Z (-1)] 247):=by
 go_enter Tryz.func86,Tryz.ntmps86
 go_wp2
 go_ret;exact⟨V,V⟩
theorem Ed(R:Nat)(w:wD) :
  xL Tryz.prog 87 #[xV (Y ⟨R,0,U⟩)] w fun e w'=>e=z8 (CF (.func 155) #[] #[xV (Y ⟨w.heap.size,0,U⟩)])∧w'=w.alloc (wq #[xV (Y ⟨R,0,U⟩)] 184):=by
 go_enter Tryz.func87,Tryz.ntmps87
 go_wp2
 go_ret;exact⟨V,V⟩
structure TL (w:wD) (B:Nat) (rec:Loop) (pre:List Tok) (W:wD):Prop where
 low:Below B w W
 t2:W.heap[B]?=Y (wq #[A U 0 0] 112 (0,0))
 t3:W.heap[B+1]?=Y (wq #[I Z 0,I Z 0] 35 (0,0))
 bx:W.heap[B+5]?=Y (wq #[xV (Y ⟨B+3,0,U⟩)] 184 (0,0))
 o:∃v,W.heap[B+4]?=Y (wq #[v] 112 (0,0))∧W.ownsRow (B+6) 122 3 v pre.length (bQ pre)
 lp:W.heap[B+7]?=Y (.loop rec)
 df:W.heap[B+6]?=Y (.deferred (Y []))
 hB:1<B
 tab:aR W
section
variable {w W W':wD} {B:Nat} {rec:Loop} {pre:List Tok}
theorem TL.h(h:TL w B rec pre W):B+7<W.heap.size:=(EN.1 h.lp).1
theorem TL.q(h:TL w B rec pre W)(a:W.grownBy W' (Y (B+2))):TL w B rec pre W':=by
 obtain⟨v,c,b⟩:=h.o;have d:=h.h
 exact { low:=h.low.grown a (by omega) (fun k e=>by cases e;omega),t2:=aV a h.t2 (by simp),t3:=aV a h.t3 (by simp),bx:=aV a h.bx (by simp),
         o:=⟨v,aV a c (by simp),b.kept a (Or.inr (fun e=>by have:=(b.lt _ e).1;omega))⟩,lp:=aV a h.lp (by simp),df:=aV a h.df (by simp),hB:=h.hB,tab:=h.tab.h a (by have:=h.hB;omega) }
theorem TL.put(h:TL w B rec pre W)(a:Loop):TL w B a pre (W.putObj (B+7) (.loop a)):=by
 obtain⟨v,c,d⟩:=h.o;have f:=h.h;have b:=grownBy_putObj' W (B+7) (.loop a)
 exact { low:=h.low.grown b (by omega) (fun k e=>by cases e;omega),t2:=aV b h.t2 (by simp),t3:=aV b h.t3 (by simp),bx:=aV b h.bx (by simp),
         o:=⟨v,aV b c (by simp),ownsRow_putObj d _ h.lp V⟩,lp:=World.putObj_heap_same f,df:=aV b h.df (by simp),hB:=h.hB,tab:=h.tab.h b (by have:=h.hB;omega) }
theorem TL.u(h:TL w B rec pre W)(o:Obj):TL w B rec pre (W.alloc o):=by
 obtain⟨v,b,c⟩:=h.o;have d:=h.h;have a:FK W (W.alloc o):=(EP _ W).alloc (EO _) o
 exact { low:=h.low.alloc (by omega) o,t2:=aa a h.t2 (by omega),t3:=aa a h.t3 (by omega),bx:=aa a h.bx (by omega),
         o:=⟨v,aa a b (by omega),c.alloc o⟩,lp:=aa a h.lp (by omega),df:=aa a h.df (by omega),hB:=h.hB,tab:=h.tab.z a }
theorem TL.outKept(h:TL w B rec pre W){v:wF}(a:W.heap[B+4]?=Y (wq #[v] 112 (0,0)))(b:W.ownsRow (B+6) 122 3 v pre.length (bQ pre))(c:W.grownBy W' v.ownBlock):W'.heap[B+4]?=Y (wq #[v] 112 (0,0)):=by
 have d:=h.h;exact aV c a (fun e=>by have:=(b.lt _ e.symm).1;omega)
theorem TL.dfKept(h:TL w B rec pre W){v:wF}(b:W.ownsRow (B+6) 122 3 v pre.length (bQ pre))(c:W.grownBy W' v.ownBlock):W'.heap[B+6]?=Y (.deferred (Y [])):=by
 refine aV c h.df (fun e=>?_);rcases b.2 with ⟨rfl,_⟩|⟨g,cap,cur,rfl,_,a,_⟩
 ·simp[Value.ownBlock]at e
 ·simp only[Value.ownBlock,ss]at e;subst e;have:=h.df;rw[a]at this;cases this
theorem TL.push(h:TL w B rec pre W){v j:wF}{t:Tok}(q:W.heap[B+4]?=Y (wq #[v] 112 (0,0)))(l:W.ownsRow (B+6) 122 3 v pre.length (bQ pre))(c:W.grownBy W' v.ownBlock)(m:W'.ownsRow (B+6) 122 3 j (pre.length+1) (bQ pre++gh t)) :
  TL w B rec (pre++[t]) (W'.setCell ⟨B+4,0,U⟩ j):=by
 have u:=h.h;have a:∀i,i≤B+5→Y i≠v.ownBlock:=fun i p e=>by have:=(l.lt i e.symm).1;omega
 have d:∀{i:Nat} {o:Obj},W.heap[i]?=Y o→o.isCells=false→Y i≠v.ownBlock:=fun {i o} p r e=>by
  rcases l.2 with ⟨rfl,_⟩|⟨g,cap,cur,rfl,_,b,_⟩
  ·simp[Value.ownBlock]at e
  ·simp only[Value.ownBlock,ss]at e;subst e;rw[p]at b;injection b with b;subst b;simp[Obj.isCells]at r
 have f:Below B w W':=h.low.grown c (by omega) (fun k e=>by have:=(l.lt k e).1;omega);have s:W'.heap[B+4]?=Y (wq #[v] 112 (0,0)):=aV c q (a _ (by omega));have n:(W'.setCell ⟨B+4,0,U⟩ j).ownsRow (B+6) 122 3 j (pre.length+1) (bQ pre++gh t):=ownsRow_setCell_below m (by show B+4<B+6;omega) _
 exact { low:=f.setCell (by show B≤B+4;omega) _,t2:=aK (aV c h.t2 (a _ (by omega))) (by omega) _ _,t3:=aK (aV c h.t3 (a _ (by omega))) (by omega) _ _,bx:=aK (aV c h.bx (a _ (by omega))) (by omega) _ _,
         o:=⟨j,heap_set s 0 j,by simpa [bQ]using n⟩,lp:=aK (aV c h.lp (d h.lp V)) (by omega) _ _,df:=aK (aV c h.df (d h.df V)) (by omega) _ _,hB:=h.hB,
         tab:=(h.tab.u (c.block _ h.tab.lt (a _ (by have:=h.hB;omega)))).u (ER _ _ _ _ (by show 1≠B+4;have:=h.hB;omega)) }
theorem TL.fault(h:TL w B rec pre W)(er pl:Int)(a:Loop) :
  ((((W.setCell ⟨B,0,U⟩ (A U 0 0)).setCell ⟨B+1,0,U⟩ (I Z er)).setCell ⟨B+1,1,U⟩ (I Z pl)).drew).heap[B+7]?=Y (.loop rec)∧
  ∀b,b=((((W.setCell ⟨B,0,U⟩ (A U 0 0)).setCell ⟨B+1,0,U⟩ (I Z er)).setCell ⟨B+1,1,U⟩ (I Z pl)).drew).putObj (B+7) (.loop a)→
   (Below B w b∧b.heap[B]?=Y (wq #[A U 0 0] 112 (0,0))∧b.heap[B+1]?=Y (wq #[I Z er,I Z pl] 35 (0,0))∧b.heap[B+7]?=Y (.loop a)∧b.heap[B+6]?=Y (.deferred (Y []))):=by
 have g:=h.h;have c:=aK (aK (aK h.lp (T:=B) (by omega) 0 (A U 0 0)) (T:=B+1) (by omega) 0 (I Z er)) (T:=B+1) (by omega) 1 (I Z pl);refine⟨c,?_⟩;rintro b rfl;have d1:=aK (aK (aK h.df (T:=B) (by omega) 0 (A U 0 0)) (T:=B+1) (by omega) 0 (I Z er)) (T:=B+1) (by omega) 1 (I Z pl);have t2:=aK (aK (heap_set h.t2 0 (A U 0 0)) (T:=B+1) (by omega) 0 (I Z er)) (T:=B+1) (by omega) 1 (I Z pl);have t3:=heap_set (heap_set (aK h.t3 (T:=B) (by omega) 0 (A U 0 0)) 0 (I Z er)) 1 (I Z pl);have d:=(((h.low.setCell (p:=⟨B,0,U⟩) (EO _) (A U 0 0)).setCell (p:=⟨B+1,0,U⟩) (by show B≤B+1;omega) (I Z er)).setCell (p:=⟨B+1,1,U⟩) (by show B≤B+1;omega) (I Z pl)).drew;have f:B+7<((((W.setCell ⟨B,0,U⟩ (A U 0 0)).setCell ⟨B+1,0,U⟩ (I Z er)).setCell ⟨B+1,1,U⟩ (I Z pl)).drew).heap.size:=(EN.1 c).1;exact⟨d.grown (grownBy_putObj' _ _ _) (by omega) (fun k e=>by cases e;omega),(World.putObj_heap_other (by omega)).trans t2,(World.putObj_heap_other (by omega)).trans t3,World.putObj_heap_same f,(World.putObj_heap_other (by omega)).trans d1⟩
end
theorem qM(w W:wD)(s:ByteArray)(v:wF)(er pl:Int)(T2:W.heap[w.heap.size]?=Y (wq #[v] 112 (0,0)))(e:W.heap[w.heap.size+1]?=Y (wq #[I Z er,I Z pl] 35 (0,0)))
  (df:W.heap[w.heap.size+6]?=Y (.deferred (Y []))) (tmps:Array wF) (f:tmps.getD 2 At=xV (Y ⟨w.heap.size,0,U⟩)) (g:tmps.getD 3 At=xV (Y ⟨w.heap.size+1,0,U⟩))
  (h:l7 w s (z8 (CA #[v,xS #[I Z er,I Z pl]])) (W.putObj (w.heap.size+6) (.deferred U))) :
  bodyPostM Fence.wide 9 Tryz.prog Tryz.f54 (l7 w s) .ret ⟨tmps,[{ target:=.collected (w.heap.size+6),args:=#[] }]⟩ W:=by
 refine⟨by simp,Or.inl ⟨_,_,V,run_takeDeferred df,?_⟩⟩;have i:(W.putObj (w.heap.size+6) (.deferred U)).heap[w.heap.size]?=Y (wq #[v] 112 (0,0)):=(World.putObj_heap_other (by omega)).trans T2;have d:(W.putObj (w.heap.size+6) (.deferred U)).heap[w.heap.size+1]?=Y (wq #[I Z er,I Z pl] 35 (0,0)):=(World.putObj_heap_other (by omega)).trans e;generalize W.putObj (w.heap.size+6) (.deferred U)=a at *;have c2:a.cell? ⟨w.heap.size,0,U⟩=Y v:=FI _ _ 0 _ _ _ i;have j:a.cell? ⟨w.heap.size+1,0,U⟩=Y (I Z er):=FI _ _ 0 _ _ _ d;have c4:a.cell? ⟨w.heap.size+1,1,U⟩=Y (I Z pl):=FI _ _ 1 _ _ _ d;have b:tmps[2]?.getD At=xV (Y ⟨w.heap.size,0,U⟩):=by simpa using f
 have c:tmps[3]?.getD At=xV (Y ⟨w.heap.size+1,0,U⟩):=by simpa using g
 refine⟨_,?_,h⟩;simp[results,Tryz.results54,go_sem,b,c,c2,j,c4]
theorem Dh:(Tryz.prog.info? 122).map (fun i=>(i.zero,i.size,i.bytes))=Y (Y (xS #[I O 0,J ByteArray.empty,I Z 0]),3,32):=by kernel_rfl
theorem qp(s:ByteArray)(w:wD)(hs:s.size≤16384)(ht:aR w) :
  xL Tryz.prog 54 #[J s] w (l7 w s):=by
 refine callsIn_wide (n:=9).1 ?_;refine callsIn_of_wp_marks Tryz.func54 V trivial ?_ V;simp only[Tryz.ntmps54,List.size_toArray,Fv,List.length_nil,Nat.reduceAdd,Nat.reduceSub,Array.replicate_succ,Array.replicate_zero,List.push_toArray,List.append_toArray,List.nil_append,List.cons_append]
 gi_wp2_with fail
 refine⟨trivial,callsIn_wide.2 ((td s _).mono ?_)⟩;rintro e w1 ⟨rfl,rfl⟩
 gi_wp2_with fail
 refine⟨trivial,callsIn_wide.2 ((Ed _ _).mono ?_)⟩;rintro e w1 ⟨rfl,rfl⟩
 gi_wp2_with fail
 refine yo 155 #[xV (Y ⟨w.heap.size+5,0,U⟩)] (w.heap.size+6) #[CF (.yield (w.heap.size+7)) #[] #[],xV (Y ⟨w.heap.size+5,0,U⟩)] V (enters_of Tryz.func155 (by kernel_rfl) V) (by simp) V ?_;intro fn c N g D;have z:TL w w.heap.size (c .ready U) [] N∧Rdr N (w.heap.size+3) (w.heap.size+2) s 0:=by
  have u:FK w N:=by
   rw[D.o];exact ((((((((EP _ w).alloc (EO _) _).alloc (by simp) _).alloc (by simp;omega) _).alloc (by simp;omega) _).alloc (by simp;omega) _).alloc (by simp;omega) _).alloc (by simp;omega) _).alloc (by simp;omega) _
  refine⟨{ low:=u,t2:=?_,t3:=?_,bx:=?_,o:=⟨A U 0 0,?_,World.ownsRow_nil N _ _ _⟩,lp:=?_,df:=?_,hB:=ht.lt,tab:=ht.z u },?_,(-1),?_⟩<;>(rw[D.o];simp only[im,r9];repeat (first|rw[rv trivial] | rw[qv (by omega)] | rw[rv (by omega)]);try rfl)
 clear D;obtain⟨z,hR⟩:=z;dsimp only;obtain⟨i0,P,Q,R,S⟩:=info_parts Dh;have hQ:w.heap.size+2≠1:=by have:=ht.lt;omega
 refine (all1_in 8 (w.heap.size+7) (w.heap.size+5) (w.heap.size+3) (w.heap.size+2) s hs hQ (fun pre W=>TL w w.heap.size (c .ready U) pre W)
  (fun er pl W=>FK w W∧W.heap[w.heap.size]?=Y (wq #[A U 0 0] 112 (0,0))∧W.heap[w.heap.size+1]?=Y (wq #[I Z er,I Z pl] 35 (0,0))∧W.heap[w.heap.size+7]?=Y (.loop (c .done (Y .ret)))∧W.heap[w.heap.size+6]?=Y (.deferred (Y [])))
  (fun pre W W' h hg=>h.q hg) (fun pre W h=>⟨h.tab,FI _ _ 0 _ _ _ h.bx⟩) ?hY N hR z).mono ?hend
 case hY =>
  intro pre k W hk bl h;refine ya g h.lp V ?_
  gi_wp2_with fail
  generalize hT:aj s k s[k]=t at *;obtain⟨kd,tx,er,en⟩:=t;dsimp only;have h2:=h.u (wq #[I O kd,J tx,I Z k] 122);have f:=h2.put (c .busy U);have bn:=h.h;have X:∀j,Rdr W (w.heap.size+3) (w.heap.size+2) s j→Rdr ((W.alloc (wq #[I O kd,J tx,I Z k] 122)).putObj (w.heap.size+7) (.loop (c .busy U))) (w.heap.size+3) (w.heap.size+2) s j:=fun j hj=>by
   have ar:=hj.C ((EP _ W).alloc (EO _) (wq #[I O kd,J tx,I Z k] 122));obtain⟨p1,p,p2⟩:=ar;exact⟨(World.putObj_heap_other (by omega)).trans p1,p,(World.putObj_heap_other (by omega)).trans p2⟩
  have h6:((W.alloc (wq #[I O kd,J tx,I Z k] 122)).putObj (w.heap.size+7) (.loop (c .busy U))).heap[W.heap.size]?=Y (wq #[I O kd,J tx,I Z k] 122 (0,0)):=by rw[World.putObj_heap_other (by omega)];exact p9 W _
  refine⟨h2.lp,?_⟩;have bd:W.heap.size<((W.alloc (wq #[I O kd,J tx,I Z k] 122)).putObj (w.heap.size+7) (.loop (c .busy U))).heap.size:=(EN.1 h6).1;generalize (W.alloc (wq #[I O kd,J tx,I Z k] 122)).putObj (w.heap.size+7) (.loop (c .busy U))=l at *;generalize W.heap.size=T6 at *;obtain⟨H6,av,HT⟩:=zz3 h6 X hT;clear h2 h6 X hT;obtain⟨c0,c1,c2,f0,f1,f2⟩:=cells3 H6.o
  by_cases he:er=0
  ·subst he;obtain⟨v,E,b⟩:=f.o;have kv:l.cell? ⟨w.heap.size+4,0,U⟩=Y v:=FI _ _ 0 _ _ _ E;have F:=Hd E;have ad:=f.h;clear E
   gi_wp2_with (gi_at_builtin;go_must (refine wpListIn_append_own _ V (.tmp 28) (.tmp 30) 112 V (w.heap.size+6) 122 i0 _ 3 32 Tryz.underlying112 P Q R S V (by decide) v pre.length (bQ pre) V (b.alloc _) ⟨l.heap.size,0,U⟩ 1 1 [I O kd,J tx,I Z k] V V (vq l [I O kd,J tx,I Z k] 122) (by simp[Value.oneCell']) (by simp only[maxLen];omega) (by omega) (by simp;omega) ?_);intro v' x d r _;obtain⟨g',C,rfl⟩:=ownsRow_succ d;have m:l.grownBy x v.ownBlock:=sn (World.grownBy_alloc l _ _) r;have af:=f.outKept F.o b m;have bq:x.cell? ⟨w.heap.size+4,0,U⟩=Y v:=FI _ _ 0 _ _ _ af;have br:x.frozen? ⟨w.heap.size+4,0,U⟩=false:=bK af 0)
   have y:∀i,i<w.heap.size+6→Y i≠v.ownBlock:=fun i hi e=>by have:=(b.lt i e.symm).1;omega
   have hp:=f.push F.o b m (t:=(kd,tx,k)) d;exact um g hp.lp (Or.inl ⟨V,V,hp.put _,fun j hj=>(((av.o j hj).move m (y _ (by omega)) (y _ (by omega))).b (T:=w.heap.size+4) (i:=0) _ (by omega) (by omega)).move (grownBy_putObj' _ _ _) (by simp) (by simp)⟩)
  ·have bt:((er:Int) != 0)=true:=by rw[bne_iff_ne];omega
   have HE:=Hd he;clear he;have k2:l.cell? ⟨w.heap.size,0,U⟩=Y (A U 0 0):=FI _ _ 0 _ _ _ f.t2;have k3:l.cell? ⟨w.heap.size+1,0,U⟩=Y (I Z 0):=FI _ _ 0 _ _ _ f.t3;have bB:l.cell? ⟨w.heap.size+1,1,U⟩=Y (I Z 0):=FI _ _ 1 _ _ _ f.t3;have bR:l.frozen? ⟨w.heap.size,0,U⟩=false:=by simp[World.frozen?,f.t2]
   have f3:l.frozen? ⟨w.heap.size+1,0,U⟩=false:=by simp[World.frozen?,f.t3]
   have b0:l.frozen? ⟨w.heap.size+1,1,U⟩=false:=by simp[World.frozen?,f.t3]
   have ak:=f.fault er k (c .done (Y .ret));have al:=Hd ak;clear ak
   gi_wp2_with fail
   gi_region
   all_goals gi_wp2
   all_goals exact tn g al.o.1 (Or.inr ⟨HE.o,V,al.o.2 _ V⟩)
 case hend =>
  clear z hR;rintro e W ⟨⟨vr,rfl⟩,(⟨y,h⟩|⟨er,pl,a1,u,k2,k3,hl,a6⟩)⟩
  ·refine uG g h.lp ?_;have ba:=Hd y;have f:=h.put (c .exhausted U);clear y h;generalize W.putObj (w.heap.size+7) (.loop (c .exhausted U))=l at *;obtain⟨v,E,b⟩:=f.o;have kv:l.cell? ⟨w.heap.size+4,0,U⟩=Y v:=FI _ _ 0 _ _ _ E;have F:=Hd E;have ad:=f.h;have hlen:(aJ s 0).1.length+0≤s.size:=pU s (s.size+1) 0 (Fa _);clear E
   gi_wp2_with (gi_at_builtin;go_must (refine wpListIn_append_own _ V (.tmp 32) (.tmp 36) 112 V (w.heap.size+6) 122 i0 _ 3 32 Tryz.underlying112 P Q R S V (by decide) v (aJ s 0).1.length (bQ (aJ s 0).1) V (b.alloc _) ⟨l.heap.size,0,U⟩ 1 1 [I O 7,J ⟨#[]⟩,I Z s.size] V V (vq l [I O 7,J ⟨#[]⟩,I Z s.size] 122) (by simp[Value.oneCell']) (by simp only[maxLen];omega) (by omega) (by simp;omega) ?_);intro v' x d r _;obtain⟨g',C,rfl⟩:=ownsRow_succ d;have m:l.grownBy x v.ownBlock:=sn (World.grownBy_alloc l _ _) r;have T2:=aV m f.t2 (fun e=>by have:=(b.lt _ e.symm).1;omega);have T3:=aV m f.t3 (fun e=>by have:=(b.lt _ e.symm).1;omega);have a2:x.cell? ⟨w.heap.size,0,U⟩=Y (A U 0 0):=FI _ _ 0 _ _ _ T2;have b2:x.frozen? ⟨w.heap.size,0,U⟩=false:=bK T2 0;have a3:x.cell? ⟨w.heap.size+1,0,U⟩=Y (I Z 0):=FI _ _ 0 _ _ _ T3;have b1:x.cell? ⟨w.heap.size+1,1,U⟩=Y (I Z 0):=FI _ _ 1 _ _ _ T3;have b3:x.frozen? ⟨w.heap.size+1,0,U⟩=false:=bK T3 0;have b4:x.frozen? ⟨w.heap.size+1,1,U⟩=false:=bK T3 1)
   have G:=d;generalize A (Y ⟨g',0,U⟩) ((aJ s 0).1.length+1) C=vv at *;have e2:=aK (aK (heap_set T2 0 vv) (T:=w.heap.size+1) (by omega) 0 (I Z 0)) (T:=w.heap.size+1) (by omega) 1 (I Z 0);have e3:=heap_set (heap_set (aK T3 (T:=w.heap.size) (by omega) 0 vv) 0 (I Z 0)) 1 (I Z 0);have aq:x.heap[w.heap.size+6]?=Y (.deferred (Y [])):=f.dfKept b m;have H:=aK (aK (aK aq (T:=w.heap.size) (by omega) 0 vv) (T:=w.heap.size+1) (by omega) 0 (I Z 0)) (T:=w.heap.size+1) (by omega) 1 (I Z 0);have K:FK w x:=f.low.grown m (by omega) (fun k e=>by have:=(b.lt k e).1;omega);have L:=((K.setCell (p:=⟨w.heap.size,0,U⟩) (EO _) vv).setCell (p:=⟨w.heap.size+1,0,U⟩) (by show w.heap.size≤w.heap.size+1;omega) (I Z 0)).setCell (p:=⟨w.heap.size+1,1,U⟩) (by show w.heap.size≤w.heap.size+1;omega) (I Z 0);have bb:=ownsRow_setCell_below (ownsRow_setCell_below (ownsRow_setCell_below G (a:=⟨w.heap.size,0,U⟩) (by show w.heap.size<w.heap.size+6;omega) vv) (a:=⟨w.heap.size+1,0,U⟩) (by show w.heap.size+1<w.heap.size+6;omega) (I Z 0)) (a:=⟨w.heap.size+1,1,U⟩) (by show w.heap.size+1<w.heap.size+6;omega) (I Z 0);have bc:=ownsRow_base (b':=w.heap.size) (ownsRow_putObj bb (.deferred U) H V) (by omega);have bk:=(EN.1 H).1;have M:=L.grown (grownBy_putObj' _ (w.heap.size+6) (.deferred U)) (by omega) (fun k e=>by cases e;omega);refine qM w _ s vv _ _ e2 e3 H _ V V ⟨M,Or.inl ⟨ba.o,vv,V,?_⟩⟩
   simpa [bQ,gh]using bc
  ·refine ta g hl ?_;have hz:w.heap.size+7<W.heap.size:=(EN.1 hl).1
   gi_wp2_with fail
   refine qM w _ s _ _ _ ((World.putObj_heap_other (by omega)).trans k2) ((World.putObj_heap_other (by omega)).trans k3) ((World.putObj_heap_other (by omega)).trans a6) _ V V ?_;exact⟨(u.grown (grownBy_putObj' _ _ _) (by omega) (fun k e=>by cases e;omega)).grown (grownBy_putObj' _ _ _) (by simp;omega) (fun k e=>by cases e;omega),Or.inr ⟨er,pl,a1,V⟩⟩
