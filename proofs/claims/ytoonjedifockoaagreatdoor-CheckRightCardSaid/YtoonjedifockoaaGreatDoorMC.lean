/- Parts of one proof, joined; conditions stand in each theorem. -/
import Derived.Test.YtoonjedifockoaaGreatDoorMA
import Derived.RangeFuncNested
import Derived.RangeFuncBound
import Derived.RangeFuncCalls
import Derived.RangeFuncLeaves
import Derived.Shelf.Abstract
import Derived.Shelf.RegionOpen
import Derived.OwnWalkIn
import Derived.TacticsInMore
import Derived.LoopNIn
import Derived.LoopIn
import Derived.Test.YtoonjedifockoaaGreatDoorMB
namespace Go.Proofs.YtoonjedifockoaaGreatDoor
open Go.IntKind(i64)
open Go.Value(int string slice)
set_option maxHeartbeats 1000000
set_option maxRecDepth 100000
open Go.RowKit
def jO(fn:FuncId) (tmps:Array Value) (a:Array Tmp) (assign body:Code) (D:Nat) (st:LoopState) (b:Option Code):Loop:=
 { state:=st,pending:=b,fn,tmps,params:=a,assign,body,defers:=D }
theorem yl{n:Nat}{P:Program}{g:Operand}{j:Array Tmp}{assign body:Code}{Q:Exit→Act→World→Prop}{a:Act}{w:World}(d:Nat)(i:Array Value)(D:Nat)(args:Array Value)
  (l:a.eval g=.func (.func d) #[] i) (m:∀args w,(callFunc d args).run P w=.ok (.enter d args) w) (k:w.heap.size=D) (c:#[.func (.yield (D+1)) #[] #[]]++i=args)
  (h:∀fn e b,Hid (e=jO fn a.tmps j assign body D)→Hid (b=(w.alloc (.deferred (some []))).alloc (.loop (e .ready none)))→
   CallsIn Fence.wide (n-1) P d args b (rangePost Fence.wide n P (D+1) Q { a with defers:={ target:=.collected D,args:=#[] }::a.defers })) :
  (Code.rangeFunc g j assign body).wpIn Fence.wide n P Q a w:=by
 refine wpIn_rangeFunc ?_;intro fn _;obtain⟨b,f⟩:=zzy ((w.alloc (.deferred (some []))).alloc (.loop (jO fn a.tmps j assign body w.heap.size .ready none)));have o:=h fn _ b (Hd rfl) (Hd (by rw[←f,k]));subst k c
 refine⟨w.heap.size+1,[{ target:=.collected w.heap.size,args:=#[] }],b,{ target:=.fn (.func d) i,args:=#[.func (.yield (w.heap.size+1)) #[] #[]] },b,d,
  #[.func (.yield (w.heap.size+1)) #[] #[]]++i,b,?_,?_,?_,?_,(fun h=>by cases h),?_⟩
 ·rw[←f];exact run_enterLoop_outer _ _ _ _ _
 ·simp only[resolve,l];simp[go_sem]
 ·intro p _;trivial
 ·simp[invoke,go_sem,m]
 ·exact o
theorem xY{n:Nat}{P:Program}{l:Nat}{fn:FuncId}{tmps:Array Value}{g:Array Tmp}{assign body:Code}{D:Nat}{args:Array Value}{W:World}{R:Ending→World→Prop}
  {b:LoopState→Option Code→Loop} (i:Hid (b=jO fn tmps g assign body D))
  (j:W.heap[l]?=some (.loop (b .ready none))) (k:args.size=g.size)
  (h:assign.wpIn (Fence.wide.inRound l) n P (Exit.then (fun d a=>a.heap[l]?=some (.loop (b .ready none))∧
    body.wpIn (Fence.wide.inRound l) n P (roundPost P l R) d (a.putObj l (.loop (b .busy none)))) (fun _ _ _=>False))
   { tmps:=(g.zip args).foldl (fun t (p,v)=>t.setIfInBounds p v) tmps,defers:=[] } W) :
  YieldAt Fence.wide n P l args W R:=by
 obtain rfl:=i.o;have m:=run_yield (P:=P) (args:=args) j k;refine⟨fn,_,assign,body,m,roundIn_of_wpIn trivial (wpIn_mono h ?_)⟩;rintro e d a f
 cases e with
 | normal=>exact⟨_,run_beginRound f.1 rfl,f.2⟩
 | exit id=>exact f.elim
 | goto t=>exact f.elim
 | ret=>exact f.elim
 | panic c=>exact f.elim
 | outgrown=>exact f.elim
theorem tN{P:Program}{l:Nat}{fn:FuncId}{tmps:Array Value}{c:Array Tmp}{assign body:Code}{D:Nat}{a:Act}{W:World}{R:Ending→World→Prop}
  {b:LoopState→Option Code→Loop} (d:Hid (b=jO fn tmps c assign body D))
  (e:W.heap[l]?=some (.loop (b .busy none))) (h:R (.returned (.bool true)) (W.putObj l (.loop (b .ready none)))) :
  roundPost P l R .normal a W:=by
 obtain rfl:=d.o;exact⟨_,_,run_endRound (P:=P) none e,h⟩
theorem sF{P:Program}{l:Nat}{fn:FuncId}{tmps:Array Value}{c:Array Tmp}{assign body:Code}{D:Nat}{a:Act}{W:World}{R:Ending→World→Prop}
  {b:LoopState→Option Code→Loop} (d:Hid (b=jO fn tmps c assign body D))
  (e:W.heap[l]?=some (.loop (b .busy none))) (h:R (.returned (.bool false)) (W.putObj l (.loop (b .done (some .ret))))) :
  roundPost P l R .ret a W:=by
 obtain rfl:=d.o;exact⟨_,_,run_endRound (P:=P) (some .ret) e,h⟩
theorem ui{n:Nat}{P:Program}{l:Nat}{fn:FuncId}{tmps:Array Value}{c:Array Tmp}{assign body:Code}{D:Nat}{a:Act}{W:World}{Q:Exit→Act→World→Prop}{v:Value}
  {b:LoopState→Option Code→Loop} (d:Hid (b=jO fn tmps c assign body D))
  (e:W.heap[l]?=some (.loop (b .ready none))) (h:Q .normal a (W.putObj l (.loop (b .exhausted none)))) :
  rangePost Fence.wide n P l Q a (.returned v) W:=by
 obtain rfl:=d.o;exact⟨none,_,run_endLoop (P:=P) e (by simp[jO]),h⟩
theorem si{n:Nat}{P:Program}{l:Nat}{fn:FuncId}{tmps:Array Value}{c:Array Tmp}{assign body:Code}{D:Nat}{a:Act}{W:World}{Q:Exit→Act→World→Prop}{v:Value}
  {b:LoopState→Option Code→Loop} (d:Hid (b=jO fn tmps c assign body D))
  (e:W.heap[l]?=some (.loop (b .done (some .ret)))) (h:Code.ret.wpIn Fence.wide n P Q a (W.putObj l (.loop (b .exhausted (some .ret))))) :
  rangePost Fence.wide n P l Q a (.returned v) W:=by
 obtain rfl:=d.o;exact⟨some .ret,_,run_endLoop (P:=P) e (by simp[jO]),h⟩
open Go.Shelf
attribute [local go_sem] Oper.semAt_some
def fl(t:Tok):List Value:=[int .u8 t.1,.string t.2.1,int i64 t.2.2]
def bO(l:List Tok):List Value:=l.flatMap fl
def lq(w:World) (s:ByteArray) (e:Ending) (W:World):Prop:=
 Ft w W∧
 (((aE s 0).2=none∧∃v,e=.returned (.tuple #[v,.agg #[int i64 0,int i64 0]])∧W.ownsRow w.heap.size 108 3 v ((aE s 0).1.length+1) (bO ((aE s 0).1++[(7,⟨#[]⟩,s.size)])))∨
  ∃er pl,(aE s 0).2=some (er,pl)∧e=.returned (.tuple #[slice none 0 0,.agg #[int i64 er,int i64 pl]]))
theorem nW(s:ByteArray)(w:World)(a:16384<s.size) :
  Calls Tryz.prog 46 #[.string s] w fun e w'=>e=.returned (.tuple #[slice none 0 0,.agg #[int i64 3,int i64 0]])∧Ft w w':=by
 go_enter Tryz.func46,Tryz.ntmps46
 go_wp2
 go_returns
 exact⟨rfl,by go_grown⟩
theorem sq(s:ByteArray)(w:World) :
  Calls Tryz.prog 69 #[.string s] w fun e w'=>e=.returned (.pointer (some ⟨w.heap.size,0,none⟩))∧w'=w.alloc (.cells #[.string s,int i64 (0:Nat),int i64 (-1)] 162):=by
 go_enter Tryz.func69,Tryz.ntmps69
 go_wp2
 go_ret;exact⟨rfl,rfl⟩
theorem DK(R:Nat)(w:World) :
  Calls Tryz.prog 70 #[.pointer (some ⟨R,0,none⟩)] w fun e w'=>e=.returned (.func (.func 96) #[] #[.pointer (some ⟨w.heap.size,0,none⟩)])∧w'=w.alloc (.cells #[.pointer (some ⟨R,0,none⟩)] 128):=by
 go_enter Tryz.func70,Tryz.ntmps70
 go_wp2
 go_ret;exact⟨rfl,rfl⟩
structure TL (w:World) (B:Nat) (rec:Loop) (pre:List Tok) (W:World):Prop where
 low:Below B w W
 t2:W.heap[B]?=some (.cells #[slice none 0 0] 98 (0,0))
 t3:W.heap[B+1]?=some (.cells #[int i64 0,int i64 0] 32 (0,0))
 bx:W.heap[B+5]?=some (.cells #[.pointer (some ⟨B+3,0,none⟩)] 128 (0,0))
 o:∃v,W.heap[B+4]?=some (.cells #[v] 98 (0,0))∧W.ownsRow (B+6) 108 3 v pre.length (bO pre)
 lp:W.heap[B+7]?=some (.loop rec)
 df:W.heap[B+6]?=some (.deferred (some []))
 hB:1<B
 tab:aM W
section
variable {w W W':World} {B:Nat} {rec:Loop} {pre:List Tok}
theorem TL.size(h:TL w B rec pre W):B+7<W.heap.size:=(Ez.1 h.lp).1
theorem TL.q(h:TL w B rec pre W)(a:W.grownBy W' (some (B+2))):TL w B rec pre W':=by
 obtain⟨v,c,b⟩:=h.o;have d:=h.size
 exact { low:=h.low.grown a (by omega) (fun k e=>by cases e;omega),t2:=aP a h.t2 (by simp),t3:=aP a h.t3 (by simp),bx:=aP a h.bx (by simp),
         o:=⟨v,aP a c (by simp),b.kept a (.inr (fun e=>by have:=(b.lt _ e).1;omega))⟩,lp:=aP a h.lp (by simp),df:=aP a h.df (by simp),hB:=h.hB,tab:=h.tab.grown a (by have:=h.hB;omega) }
theorem TL.put(h:TL w B rec pre W)(a:Loop):TL w B a pre (W.putObj (B+7) (.loop a)):=by
 obtain⟨v,c,d⟩:=h.o;have f:=h.size;have b:=grownBy_putObj' W (B+7) (.loop a)
 exact { low:=h.low.grown b (by omega) (fun k e=>by cases e;omega),t2:=aP b h.t2 (by simp),t3:=aP b h.t3 (by simp),bx:=aP b h.bx (by simp),
         o:=⟨v,aP b c (by simp),ownsRow_putObj d _ h.lp rfl⟩,lp:=World.putObj_heap_same f,df:=aP b h.df (by simp),hB:=h.hB,tab:=h.tab.grown b (by have:=h.hB;omega) }
theorem TL.alloc(h:TL w B rec pre W)(o:Obj):TL w B rec pre (W.alloc o):=by
 obtain⟨v,b,c⟩:=h.o;have d:=h.size;have a:Ft W (W.alloc o):=(EB _ W).alloc (EA _) o
 exact { low:=h.low.alloc (by omega) o,t2:=aa a h.t2 (by omega),t3:=aa a h.t3 (by omega),bx:=aa a h.bx (by omega),
         o:=⟨v,aa a b (by omega),c.alloc o⟩,lp:=aa a h.lp (by omega),df:=aa a h.df (by omega),hB:=h.hB,tab:=h.tab.below a }
theorem TL.outKept(h:TL w B rec pre W){v:Value}(a:W.heap[B+4]?=some (.cells #[v] 98 (0,0)))(b:W.ownsRow (B+6) 108 3 v pre.length (bO pre))(c:W.grownBy W' v.ownBlock):W'.heap[B+4]?=some (.cells #[v] 98 (0,0)):=by
 have d:=h.size;exact aP c a (fun e=>by have:=(b.lt _ e.symm).1;omega)
theorem TL.dfKept(h:TL w B rec pre W){v:Value}(b:W.ownsRow (B+6) 108 3 v pre.length (bO pre))(c:W.grownBy W' v.ownBlock):W'.heap[B+6]?=some (.deferred (some [])):=by
 refine aP c h.df (fun e=>?_);rcases b.2 with ⟨rfl,_⟩|⟨g,cap,cur,rfl,_,a,_⟩
 ·simp[Value.ownBlock]at e
 ·simp only[Value.ownBlock,ox]at e;subst e;have:=h.df;rw[a]at this;cases this
theorem TL.push(h:TL w B rec pre W){v j:Value}{t:Tok}(q:W.heap[B+4]?=some (.cells #[v] 98 (0,0)))(l:W.ownsRow (B+6) 108 3 v pre.length (bO pre))(c:W.grownBy W' v.ownBlock)(m:W'.ownsRow (B+6) 108 3 j (pre.length+1) (bO pre++fl t)) :
  TL w B rec (pre++[t]) (W'.setCell ⟨B+4,0,none⟩ j):=by
 have u:=h.size;have a:∀i,i≤B+5→some i≠v.ownBlock:=fun i p e=>by have:=(l.lt i e.symm).1;omega
 have d:∀{i:Nat} {o:Obj},W.heap[i]?=some o→o.isCells=false→some i≠v.ownBlock:=fun {i o} p r e=>by
  rcases l.2 with ⟨rfl,_⟩|⟨g,cap,cur,rfl,_,b,_⟩
  ·simp[Value.ownBlock]at e
  ·simp only[Value.ownBlock,ox]at e;subst e;rw[p]at b;injection b with b;subst b;simp[Obj.isCells]at r
 have f:Below B w W':=h.low.grown c (by omega) (fun k e=>by have:=(l.lt k e).1;omega);have s:W'.heap[B+4]?=some (.cells #[v] 98 (0,0)):=aP c q (a _ (by omega));have n:(W'.setCell ⟨B+4,0,none⟩ j).ownsRow (B+6) 108 3 j (pre.length+1) (bO pre++fl t):=ownsRow_setCell_below m (by show B+4<B+6;omega) _
 exact { low:=f.setCell (by show B≤B+4;omega) _,t2:=aB (aP c h.t2 (a _ (by omega))) (by omega) _ _,t3:=aB (aP c h.t3 (a _ (by omega))) (by omega) _ _,bx:=aB (aP c h.bx (a _ (by omega))) (by omega) _ _,
         o:=⟨j,heap_set s 0 j,by simpa [bO]using n⟩,lp:=aB (aP c h.lp (d h.lp rfl)) (by omega) _ _,df:=aB (aP c h.df (d h.df rfl)) (by omega) _ _,hB:=h.hB,
         tab:=(h.tab.block (c.block _ h.tab.lt (a _ (by have:=h.hB;omega)))).block (ED _ _ _ _ (by show 1≠B+4;have:=h.hB;omega)) }
theorem TL.fault(h:TL w B rec pre W)(er pl:Int)(a:Loop) :
  ((((W.setCell ⟨B,0,none⟩ (slice none 0 0)).setCell ⟨B+1,0,none⟩ (int i64 er)).setCell ⟨B+1,1,none⟩ (int i64 pl)).drew).heap[B+7]?=some (.loop rec)∧
  ∀b,b=((((W.setCell ⟨B,0,none⟩ (slice none 0 0)).setCell ⟨B+1,0,none⟩ (int i64 er)).setCell ⟨B+1,1,none⟩ (int i64 pl)).drew).putObj (B+7) (.loop a)→
   (Below B w b∧b.heap[B]?=some (.cells #[slice none 0 0] 98 (0,0))∧b.heap[B+1]?=some (.cells #[int i64 er,int i64 pl] 32 (0,0))∧b.heap[B+7]?=some (.loop a)∧b.heap[B+6]?=some (.deferred (some []))):=by
 have g:=h.size;have c:=aB (aB (aB h.lp (T:=B) (by omega) 0 (slice none 0 0)) (T:=B+1) (by omega) 0 (int i64 er)) (T:=B+1) (by omega) 1 (int i64 pl);refine⟨c,?_⟩;rintro b rfl;have d1:=aB (aB (aB h.df (T:=B) (by omega) 0 (slice none 0 0)) (T:=B+1) (by omega) 0 (int i64 er)) (T:=B+1) (by omega) 1 (int i64 pl);have t2:=aB (aB (heap_set h.t2 0 (slice none 0 0)) (T:=B+1) (by omega) 0 (int i64 er)) (T:=B+1) (by omega) 1 (int i64 pl);have t3:=heap_set (heap_set (aB h.t3 (T:=B) (by omega) 0 (slice none 0 0)) 0 (int i64 er)) 1 (int i64 pl);have d:=(((h.low.setCell (p:=⟨B,0,none⟩) (EA _) (slice none 0 0)).setCell (p:=⟨B+1,0,none⟩) (by show B≤B+1;omega) (int i64 er)).setCell (p:=⟨B+1,1,none⟩) (by show B≤B+1;omega) (int i64 pl)).drew;have f:B+7<((((W.setCell ⟨B,0,none⟩ (slice none 0 0)).setCell ⟨B+1,0,none⟩ (int i64 er)).setCell ⟨B+1,1,none⟩ (int i64 pl)).drew).heap.size:=(Ez.1 c).1;exact⟨d.grown (grownBy_putObj' _ _ _) (by omega) (fun k e=>by cases e;omega),(World.putObj_heap_other (by omega)).trans t2,(World.putObj_heap_other (by omega)).trans t3,World.putObj_heap_same f,(World.putObj_heap_other (by omega)).trans d1⟩
end
theorem pS(w W:World)(s:ByteArray)(v:Value)(er pl:Int)(T2:W.heap[w.heap.size]?=some (.cells #[v] 98 (0,0)))(e:W.heap[w.heap.size+1]?=some (.cells #[int i64 er,int i64 pl] 32 (0,0)))
  (df:W.heap[w.heap.size+6]?=some (.deferred (some []))) (tmps:Array Value) (f:tmps.getD 2 undef=.pointer (some ⟨w.heap.size,0,none⟩)) (g:tmps.getD 3 undef=.pointer (some ⟨w.heap.size+1,0,none⟩))
  (h:lq w s (.returned (.tuple #[v,.agg #[int i64 er,int i64 pl]])) (W.putObj (w.heap.size+6) (.deferred none))) :
  bodyPostM Fence.wide 9 Tryz.prog Tryz.f46 (lq w s) .ret ⟨tmps,[{ target:=.collected (w.heap.size+6),args:=#[] }]⟩ W:=by
 refine⟨by simp,.inl ⟨_,_,rfl,run_takeDeferred df,?_⟩⟩;have i:(W.putObj (w.heap.size+6) (.deferred none)).heap[w.heap.size]?=some (.cells #[v] 98 (0,0)):=(World.putObj_heap_other (by omega)).trans T2;have d:(W.putObj (w.heap.size+6) (.deferred none)).heap[w.heap.size+1]?=some (.cells #[int i64 er,int i64 pl] 32 (0,0)):=(World.putObj_heap_other (by omega)).trans e;generalize W.putObj (w.heap.size+6) (.deferred none)=a at *;have c2:a.cell? ⟨w.heap.size,0,none⟩=some v:=Fq _ _ 0 _ _ _ i;have j:a.cell? ⟨w.heap.size+1,0,none⟩=some (int i64 er):=Fq _ _ 0 _ _ _ d;have c4:a.cell? ⟨w.heap.size+1,1,none⟩=some (int i64 pl):=Fq _ _ 1 _ _ _ d;have b:tmps[2]?.getD undef=.pointer (some ⟨w.heap.size,0,none⟩):=by simpa using f
 have c:tmps[3]?.getD undef=.pointer (some ⟨w.heap.size+1,0,none⟩):=by simpa using g
 refine⟨_,?_,h⟩;simp[results,Tryz.results46,go_sem,b,c,c2,j,c4]
theorem CU:(Tryz.prog.info? 108).map (fun i=>(i.zero,i.size,i.bytes))=some (some (.agg #[int .u8 0,.string ByteArray.empty,int i64 0]),3,32):=by kernel_rfl
theorem px(s:ByteArray)(w:World)(hs:s.size≤16384)(Z:aM w) :
  Calls Tryz.prog 46 #[.string s] w (lq w s):=by
 refine callsIn_wide (n:=9).1 ?_;refine callsIn_of_wp_marks Tryz.func46 rfl trivial ?_ rfl;simp only[Tryz.ntmps46,List.size_toArray,Fb,List.length_nil,Nat.reduceAdd,Nat.reduceSub,Array.replicate_succ,Array.replicate_zero,List.push_toArray,List.append_toArray,List.nil_append,List.cons_append]
 gi_wp2_with fail
 refine⟨trivial,callsIn_wide.2 ((sq s _).mono ?_)⟩;rintro e w1 ⟨rfl,rfl⟩
 gi_wp2_with fail
 refine⟨trivial,callsIn_wide.2 ((DK _ _).mono ?_)⟩;rintro e w1 ⟨rfl,rfl⟩
 gi_wp2_with fail
 refine yl 96 #[.pointer (some ⟨w.heap.size+5,0,none⟩)] (w.heap.size+6) #[.func (.yield (w.heap.size+7)) #[] #[],.pointer (some ⟨w.heap.size+5,0,none⟩)] rfl (enters_of Tryz.func96 (by kernel_rfl) rfl) (by simp) rfl ?_;intro fn c L g C;have z:TL w w.heap.size (c .ready none) [] L∧Rdr L (w.heap.size+3) (w.heap.size+2) s 0:=by
  have u:Ft w L:=by
   rw[C.o];exact ((((((((EB _ w).alloc (EA _) _).alloc (by simp) _).alloc (by simp;omega) _).alloc (by simp;omega) _).alloc (by simp;omega) _).alloc (by simp;omega) _).alloc (by simp;omega) _).alloc (by simp;omega) _
  refine⟨{ low:=u,t2:=?_,t3:=?_,bx:=?_,o:=⟨slice none 0 0,?_,World.ownsRow_nil L _ _ _⟩,lp:=?_,df:=?_,hB:=Z.lt,tab:=Z.below u },?_,(-1),?_⟩<;>(rw[C.o];simp only[gn,World.size_alloc];repeat (first|rw[n9 trivial] | rw[n8 (by omega)] | rw[n9 (by omega)]);try rfl)
 clear C;obtain⟨z,hR⟩:=z;dsimp only;obtain⟨i0,M,N,O,P⟩:=info_parts CU;have hQ:w.heap.size+2≠1:=by have:=Z.lt;omega
 refine (all1_in 8 (w.heap.size+7) (w.heap.size+5) (w.heap.size+3) (w.heap.size+2) s hs hQ (fun pre W=>TL w w.heap.size (c .ready none) pre W)
  (fun er pl W=>Ft w W∧W.heap[w.heap.size]?=some (.cells #[slice none 0 0] 98 (0,0))∧W.heap[w.heap.size+1]?=some (.cells #[int i64 er,int i64 pl] 32 (0,0))∧W.heap[w.heap.size+7]?=some (.loop (c .done (some .ret)))∧W.heap[w.heap.size+6]?=some (.deferred (some [])))
  (fun pre W W' h hg=>h.q hg) (fun pre W h=>⟨h.tab,Fq _ _ 0 _ _ _ h.bx⟩) ?hY L hR z).mono ?hend
 case hY =>
  intro pre k W hk a7 h;refine xY g h.lp rfl ?_
  gi_wp2_with fail
  generalize hT:al s k s[k]=t at *;obtain⟨kd,tx,er,en⟩:=t;dsimp only;have h2:=h.alloc (.cells #[int .u8 kd,.string tx,int i64 k] 108);have f:=h2.put (c .busy none);have a8:=h.size;have Q:∀j,Rdr W (w.heap.size+3) (w.heap.size+2) s j→Rdr ((W.alloc (.cells #[int .u8 kd,.string tx,int i64 k] 108)).putObj (w.heap.size+7) (.loop (c .busy none))) (w.heap.size+3) (w.heap.size+2) s j:=fun j hj=>by
   have ad:=hj.keep ((EB _ W).alloc (EA _) (.cells #[int .u8 kd,.string tx,int i64 k] 108));obtain⟨p1,p,p2⟩:=ad;exact⟨(World.putObj_heap_other (by omega)).trans p1,p,(World.putObj_heap_other (by omega)).trans p2⟩
  have h6:((W.alloc (.cells #[int .u8 kd,.string tx,int i64 k] 108)).putObj (w.heap.size+7) (.loop (c .busy none))).heap[W.heap.size]?=some (.cells #[int .u8 kd,.string tx,int i64 k] 108 (0,0)):=by rw[World.putObj_heap_other (by omega)];exact n7 W _
  refine⟨h2.lp,?_⟩;have a1:W.heap.size<((W.alloc (.cells #[int .u8 kd,.string tx,int i64 k] 108)).putObj (w.heap.size+7) (.loop (c .busy none))).heap.size:=(Ez.1 h6).1;generalize (W.alloc (.cells #[int .u8 kd,.string tx,int i64 k] 108)).putObj (w.heap.size+7) (.loop (c .busy none))=l at *;generalize W.heap.size=T6 at *;have H6:=Hd h6;have af:=Hd Q;have HT:=Hd hT;clear h2 h6 Q hT;obtain⟨c0,c1,c2,f0,f1,f2⟩:=cells3 H6.o
  by_cases he:er=0
  ·subst he;obtain⟨v,D,b⟩:=f.o;have kv:l.cell? ⟨w.heap.size+4,0,none⟩=some v:=Fq _ _ 0 _ _ _ D;have E:=Hd D;have R:=f.size;clear D
   gi_wp2_with (gi_at_builtin;go_must (refine wpListIn_append_own _ rfl (.tmp 28) (.tmp 30) 98 rfl (w.heap.size+6) 108 i0 _ 3 32 Tryz.underlying98 M N O P rfl (by decide) v pre.length (bO pre) rfl (b.alloc _) ⟨l.heap.size,0,none⟩ 1 1 [int .u8 kd,.string tx,int i64 k] rfl rfl (lT l [int .u8 kd,.string tx,int i64 k] 108) (by simp[Value.oneCell']) (by simp only[maxLen];omega) (by omega) (by simp;omega) ?_);intro v' x d r _;obtain⟨g',A,rfl⟩:=ownsRow_succ d;have m:l.grownBy x v.ownBlock:=World.grownBy.trans (World.grownBy_alloc l _ _) r;have S:=f.outKept E.o b m;have ba:x.cell? ⟨w.heap.size+4,0,none⟩=some v:=Fq _ _ 0 _ _ _ S;have bb:x.frozen? ⟨w.heap.size+4,0,none⟩=false:=ao S 0)
   have y:∀i,i<w.heap.size+6→some i≠v.ownBlock:=fun i hi e=>by have:=(b.lt i e.symm).1;omega
   have hp:=f.push E.o b m (t:=(kd,tx,k)) d;exact tN g hp.lp (.inl ⟨rfl,rfl,hp.put _,fun j hj=>(((af.o j hj).move m (y _ (by omega)) (y _ (by omega))).set_far (T:=w.heap.size+4) (i:=0) _ (by omega) (by omega)).move (grownBy_putObj' _ _ _) (by simp) (by simp)⟩)
  ·have bc:((er:Int) != 0)=true:=by rw[bne_iff_ne];omega
   have HE:=Hd he;clear he;have k2:l.cell? ⟨w.heap.size,0,none⟩=some (slice none 0 0):=Fq _ _ 0 _ _ _ f.t2;have k3:l.cell? ⟨w.heap.size+1,0,none⟩=some (int i64 0):=Fq _ _ 0 _ _ _ f.t3;have bd:l.cell? ⟨w.heap.size+1,1,none⟩=some (int i64 0):=Fq _ _ 1 _ _ _ f.t3;have bk:l.frozen? ⟨w.heap.size,0,none⟩=false:=by simp[World.frozen?,f.t2]
   have f3:l.frozen? ⟨w.heap.size+1,0,none⟩=false:=by simp[World.frozen?,f.t3]
   have bl:l.frozen? ⟨w.heap.size+1,1,none⟩=false:=by simp[World.frozen?,f.t3]
   have U:=f.fault er k (c .done (some .ret));have V:=Hd U;clear U
   gi_wp2_with fail
   gi_region
   all_goals gi_wp2
   all_goals exact sF g V.o.1 (.inr ⟨HE.o,rfl,V.o.2 _ rfl⟩)
 case hend =>
  clear z hR;rintro e W ⟨⟨vr,rfl⟩,(⟨y,h⟩|⟨er,pl,ak,u,k2,k3,hl,an⟩)⟩
  ·refine ui g h.lp ?_;have aq:=Hd y;have f:=h.put (c .exhausted none);clear y h;generalize W.putObj (w.heap.size+7) (.loop (c .exhausted none))=l at *;obtain⟨v,D,b⟩:=f.o;have kv:l.cell? ⟨w.heap.size+4,0,none⟩=some v:=Fq _ _ 0 _ _ _ D;have E:=Hd D;have R:=f.size;have hlen:(aE s 0).1.length+0≤s.size:=oS s (s.size+1) 0 (EM _);clear D
   gi_wp2_with (gi_at_builtin;go_must (refine wpListIn_append_own _ rfl (.tmp 32) (.tmp 36) 98 rfl (w.heap.size+6) 108 i0 _ 3 32 Tryz.underlying98 M N O P rfl (by decide) v (aE s 0).1.length (bO (aE s 0).1) rfl (b.alloc _) ⟨l.heap.size,0,none⟩ 1 1 [int .u8 7,string ⟨#[]⟩,int i64 s.size] rfl rfl (lT l [int .u8 7,string ⟨#[]⟩,int i64 s.size] 108) (by simp[Value.oneCell']) (by simp only[maxLen];omega) (by omega) (by simp;omega) ?_);intro v' x d r _;obtain⟨g',A,rfl⟩:=ownsRow_succ d;have m:l.grownBy x v.ownBlock:=World.grownBy.trans (World.grownBy_alloc l _ _) r;have T2:=aP m f.t2 (fun e=>by have:=(b.lt _ e.symm).1;omega);have X:=aP m f.t3 (fun e=>by have:=(b.lt _ e.symm).1;omega);have a2:x.cell? ⟨w.heap.size,0,none⟩=some (slice none 0 0):=Fq _ _ 0 _ _ _ T2;have b2:x.frozen? ⟨w.heap.size,0,none⟩=false:=ao T2 0;have a3:x.cell? ⟨w.heap.size+1,0,none⟩=some (int i64 0):=Fq _ _ 0 _ _ _ X;have bn:x.cell? ⟨w.heap.size+1,1,none⟩=some (int i64 0):=Fq _ _ 1 _ _ _ X;have b3:x.frozen? ⟨w.heap.size+1,0,none⟩=false:=ao X 0;have bq:x.frozen? ⟨w.heap.size+1,1,none⟩=false:=ao X 1)
   have F:=d;generalize slice (some ⟨g',0,none⟩) ((aE s 0).1.length+1) A=G at *;have e2:=aB (aB (heap_set T2 0 G) (T:=w.heap.size+1) (by omega) 0 (int i64 0)) (T:=w.heap.size+1) (by omega) 1 (int i64 0);have e3:=heap_set (heap_set (aB X (T:=w.heap.size) (by omega) 0 G) 0 (int i64 0)) 1 (int i64 0);have Y:x.heap[w.heap.size+6]?=some (.deferred (some [])):=f.dfKept b m;have H:=aB (aB (aB Y (T:=w.heap.size) (by omega) 0 G) (T:=w.heap.size+1) (by omega) 0 (int i64 0)) (T:=w.heap.size+1) (by omega) 1 (int i64 0);have I:Ft w x:=f.low.grown m (by omega) (fun k e=>by have:=(b.lt k e).1;omega);have J:=((I.setCell (p:=⟨w.heap.size,0,none⟩) (EA _) G).setCell (p:=⟨w.heap.size+1,0,none⟩) (by show w.heap.size≤w.heap.size+1;omega) (int i64 0)).setCell (p:=⟨w.heap.size+1,1,none⟩) (by show w.heap.size≤w.heap.size+1;omega) (int i64 0);have ar:=ownsRow_setCell_below (ownsRow_setCell_below (ownsRow_setCell_below F (a:=⟨w.heap.size,0,none⟩) (by show w.heap.size<w.heap.size+6;omega) G) (a:=⟨w.heap.size+1,0,none⟩) (by show w.heap.size+1<w.heap.size+6;omega) (int i64 0)) (a:=⟨w.heap.size+1,1,none⟩) (by show w.heap.size+1<w.heap.size+6;omega) (int i64 0);have av:=ownsRow_base (b':=w.heap.size) (ownsRow_putObj ar (.deferred none) H rfl) (by omega);have a6:=(Ez.1 H).1;have K:=J.grown (grownBy_putObj' _ (w.heap.size+6) (.deferred none)) (by omega) (fun k e=>by cases e;omega);refine pS w _ s G _ _ e2 e3 H _ rfl rfl ⟨K,.inl ⟨aq.o,G,rfl,?_⟩⟩
   simpa [bO,fl]using av
  ·refine si g hl ?_;have hz:w.heap.size+7<W.heap.size:=(Ez.1 hl).1
   gi_wp2_with fail
   refine pS w _ s _ _ _ ((World.putObj_heap_other (by omega)).trans k2) ((World.putObj_heap_other (by omega)).trans k3) ((World.putObj_heap_other (by omega)).trans an) _ rfl rfl ?_;exact⟨(u.grown (grownBy_putObj' _ _ _) (by omega) (fun k e=>by cases e;omega)).grown (grownBy_putObj' _ _ _) (by simp;omega) (fun k e=>by cases e;omega),.inr ⟨er,pl,ak,rfl⟩⟩
