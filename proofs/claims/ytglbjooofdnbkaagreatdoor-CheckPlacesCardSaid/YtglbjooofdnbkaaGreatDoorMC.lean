/- Several texts joined, each with its own sentence and conditions ahead of it: Range, ScanL. -/
import Derived.Test.YtglbjooofdnbkaaGreatDoorMA
import Derived.RangeFuncNested
import Derived.RangeFuncBound
import Derived.RangeFuncCalls
import Derived.RangeFuncLeaves
import Derived.Shelf.Abstract
import Derived.Shelf.RegionOpen
import Derived.OwnWalkIn
import Derived.TacticsInMore
import Derived.LoopNIn
import Derived.LoopIn
import Derived.Test.YtglbjooofdnbkaaGreatDoorMB
namespace Go.Proofs.YtglbjooofdnbkaaGreatDoor
set_option maxHeartbeats 1000000
set_option maxRecDepth 100000
open Go.RowKit
def recOf (fn:FuncId) (tmps:Array Value) (ps:Array Tmp) (assign body:Code) (D:Nat) (st:LoopState) (pe:Option Code):Loop:=
 { state:=st,pending:=pe,fn,tmps,params:=ps,assign,body,defers:=D }
theorem wpIn_range {n:Nat}{P:Program}{g:Operand}{ps:Array Tmp}{assign body:Code}{Q:Exit→Act→World→Prop}{a:Act}{w:World}(gf:Nat)(lb:Array Value)(D:Nat)(args:Array Value)
  (hg:a.eval g=.func (.func gf) #[] lb) (eg:∀args w,(callFunc gf args).run P w=.ok (.enter gf args) w) (hD:w.heap.size=D) (hargs:#[.func (.yield (D+1)) #[] #[]]++lb=args)
  (h:∀fn REC W1,Hid (REC=recOf fn a.tmps ps assign body D)→Hid (W1=(w.alloc (.deferred (some []))).alloc (.loop (REC .ready none))) →
   CallsIn Fence.wide (n-1) P gf args W1 (rangePost Fence.wide n P (D+1) Q { a with defers:={ target:=.collected D,args:=#[] }::a.defers })) :
  (Code.rangeFunc g ps assign body).wpIn Fence.wide n P Q a w:=by
 refine wpIn_rangeFunc ?_
 intro fn _
 obtain⟨W1,hW1⟩:∃W1,(w.alloc (.deferred (some []))).alloc (.loop (recOf fn a.tmps ps assign body w.heap.size .ready none))=W1:=⟨_,rfl⟩
 have hh:=h fn _ W1 (Hd rfl) (Hd (by rw[←hW1,hD]))
 subst hD hargs
 refine⟨w.heap.size+1,[{ target:=.collected w.heap.size,args:=#[] }],W1,{ target:=.fn (.func gf) lb,args:=#[.func (.yield (w.heap.size+1)) #[] #[]] },W1,gf,
  #[.func (.yield (w.heap.size+1)) #[] #[]]++lb,W1,?_,?_,?_,?_,(fun h=>by cases h),?_⟩
 ·rw[←hW1];exact run_enterLoop_outer _ _ _ _ _
 ·simp only[resolve,hg]
  simp[go_sem]
 ·intro f' _;trivial
 ·simp[invoke,go_sem,eg]
 ·exact hh
theorem yieldAt_of {n:Nat}{P:Program}{l:Nat}{fn:FuncId}{tmps:Array Value}{ps:Array Tmp}{assign body:Code}{D:Nat}{args:Array Value}{W:World}{R:Ending→World→Prop}
  {REC:LoopState→Option Code→Loop} (hR:Hid (REC=recOf fn tmps ps assign body D))
  (hl:W.heap[l]? = some (.loop (REC .ready none))) (hs:args.size=ps.size)
  (h:assign.wpIn (Fence.wide.inRound l) n P (Exit.then (fun a₁ w₁=>w₁.heap[l]? = some (.loop (REC .ready none)) ∧
    body.wpIn (Fence.wide.inRound l) n P (roundPost P l R) a₁ (w₁.putObj l (.loop (REC .busy none)))) (fun _ _ _=>False))
   { tmps:=(ps.zip args).foldl (fun t (p,v)=>t.setIfInBounds p v) tmps,defers:=[] } W) :
  YieldAt Fence.wide n P l args W R:=by
 obtain rfl:=hR.out
 have hy:=run_yield (P:=P) (args:=args) hl hs
 refine⟨fn,_,assign,body,hy,roundIn_of_wpIn trivial (wpIn_mono h ?_)⟩
 rintro e a₁ w₁ hp
 cases e with
 | normal=>exact⟨_,run_beginRound hp.1 rfl,hp.2⟩
 | exit id=>exact hp.elim
 | goto t=>exact hp.elim
 | ret=>exact hp.elim
 | panic c=>exact hp.elim
 | outgrown=>exact hp.elim
theorem roundPost_on {P:Program}{l:Nat}{fn:FuncId}{tmps:Array Value}{ps:Array Tmp}{assign body:Code}{D:Nat}{a:Act}{W:World}{R:Ending→World→Prop}
  {REC:LoopState→Option Code→Loop} (hR:Hid (REC=recOf fn tmps ps assign body D))
  (hl:W.heap[l]? = some (.loop (REC .busy none))) (h:R (.returned (.bool true)) (W.putObj l (.loop (REC .ready none)))) :
  roundPost P l R .normal a W:=by
 obtain rfl:=hR.out
 exact⟨_,_,run_endRound (P:=P) none hl,h⟩
theorem roundPost_ret {P:Program}{l:Nat}{fn:FuncId}{tmps:Array Value}{ps:Array Tmp}{assign body:Code}{D:Nat}{a:Act}{W:World}{R:Ending→World→Prop}
  {REC:LoopState→Option Code→Loop} (hR:Hid (REC=recOf fn tmps ps assign body D))
  (hl:W.heap[l]? = some (.loop (REC .busy none))) (h:R (.returned (.bool false)) (W.putObj l (.loop (REC .done (some .ret))))) :
  roundPost P l R .ret a W:=by
 obtain rfl:=hR.out
 exact⟨_,_,run_endRound (P:=P) (some .ret) hl,h⟩
theorem rangePost_on {n:Nat}{P:Program}{l:Nat}{fn:FuncId}{tmps:Array Value}{ps:Array Tmp}{assign body:Code}{D:Nat}{a:Act}{W:World}{Q:Exit→Act→World→Prop}{v:Value}
  {REC:LoopState→Option Code→Loop} (hR:Hid (REC=recOf fn tmps ps assign body D))
  (hl:W.heap[l]? = some (.loop (REC .ready none))) (h:Q .normal a (W.putObj l (.loop (REC .exhausted none)))) :
  rangePost Fence.wide n P l Q a (.returned v) W:=by
 obtain rfl:=hR.out
 exact⟨none,_,run_endLoop (P:=P) hl (by simp[recOf]),h⟩
theorem rangePost_ret {n:Nat}{P:Program}{l:Nat}{fn:FuncId}{tmps:Array Value}{ps:Array Tmp}{assign body:Code}{D:Nat}{a:Act}{W:World}{Q:Exit→Act→World→Prop}{v:Value}
  {REC:LoopState→Option Code→Loop} (hR:Hid (REC=recOf fn tmps ps assign body D))
  (hl:W.heap[l]? = some (.loop (REC .done (some .ret)))) (h:Code.ret.wpIn Fence.wide n P Q a (W.putObj l (.loop (REC .exhausted (some .ret))))) :
  rangePost Fence.wide n P l Q a (.returned v) W:=by
 obtain rfl:=hR.out
 exact⟨some .ret,_,run_endLoop (P:=P) hl (by simp[recOf]),h⟩
open Go.Shelf
attribute [local go_sem] Oper.semAt_some
def tokCells (t:Tok):List Value:=[.int .u8 t.1,.string t.2.1,.int .i64 t.2.2]
def lexCells (l:List Tok):List Value:=l.flatMap tokCells
def TokensPost (w:World) (s:ByteArray) (e:Ending) (W:World):Prop:=
 Below w.heap.size w W ∧
 (((toksFrom s 0).2=none∧∃v,e=.returned (.tuple #[v,.agg #[.int .i64 0,.int .i64 0]])∧W.ownsRow w.heap.size 119 3 v ((toksFrom s 0).1.length+1) (lexCells ((toksFrom s 0).1++[(7,⟨#[]⟩,s.size)]))) ∨
  ∃er pl,(toksFrom s 0).2=some (er,pl)∧e=.returned (.tuple #[.slice none 0 0,.agg #[.int .i64 er,.int .i64 pl]]))
theorem tokens_long (s:ByteArray)(w:World)(hs:16384<s.size) :
  Calls Tryz.prog 43 #[.string s] w fun e w'=>e=.returned (.tuple #[.slice none 0 0,.agg #[.int .i64 3,.int .i64 0]])∧Below w.heap.size w w':=by
 go_enter Tryz.func43,Tryz.ntmps43
 go_wp2
 go_returns
 exact⟨rfl,by go_grown⟩
theorem newreader_any (s:ByteArray)(w:World) :
  Calls Tryz.prog 72 #[.string s] w fun e w'=>e=.returned (.pointer (some ⟨w.heap.size,0,none⟩))∧w'=w.alloc (.cells #[.string s,.int .i64 (0:Nat),.int .i64 (-1)] 177):=by
 go_enter Tryz.func72,Tryz.ntmps72
 go_wp2
 go_ret
 exact⟨rfl,rfl⟩
theorem all_any (R:Nat)(w:World) :
  Calls Tryz.prog 73 #[.pointer (some ⟨R,0,none⟩)] w fun e w'=>e=.returned (.func (.func 96) #[] #[.pointer (some ⟨w.heap.size,0,none⟩)])∧w'=w.alloc (.cells #[.pointer (some ⟨R,0,none⟩)] 144):=by
 go_enter Tryz.func73,Tryz.ntmps73
 go_wp2
 go_ret
 exact⟨rfl,rfl⟩
structure TL (w:World) (B:Nat) (rec:Loop) (pre:List Tok) (W:World):Prop where
 low:Below B w W
 t2:W.heap[B]? = some (.cells #[.slice none 0 0] 109 (0,0))
 t3:W.heap[B+1]? = some (.cells #[.int .i64 0,.int .i64 0] 35 (0,0))
 bx:W.heap[B+5]? = some (.cells #[.pointer (some ⟨B+3,0,none⟩)] 144 (0,0))
 out:∃v,W.heap[B+4]? = some (.cells #[v] 109 (0,0))∧W.ownsRow (B+6) 119 3 v pre.length (lexCells pre)
 lp:W.heap[B+7]? = some (.loop rec)
 df:W.heap[B+6]? = some (.deferred (some []))
 hB:0<B
 tab:AsciiTab W
section
variable {w W W':World} {B:Nat} {rec:Loop} {pre:List Tok}
theorem TL.size (h:TL w B rec pre W):B+7<W.heap.size:=(Array.getElem?_eq_some_iff.1 h.lp).1
theorem TL.q (h:TL w B rec pre W)(hg:W.grownBy W' (some (B+2))):TL w B rec pre W':=by
 obtain⟨v,hv,hr⟩:=h.out
 have hs:=h.size
 exact { low:=h.low.grown hg (by omega) (fun k e=>by cases e;omega),t2:=heap_grown hg h.t2 (by simp),t3:=heap_grown hg h.t3 (by simp),bx:=heap_grown hg h.bx (by simp),
         out:=⟨v,heap_grown hg hv (by simp),hr.kept hg (.inr (fun e=>by have:=(hr.lt _ e).1;omega))⟩,lp:=heap_grown hg h.lp (by simp),df:=heap_grown hg h.df (by simp),hB:=h.hB,tab:=h.tab.grown hg (by have:=h.hB;omega) }
theorem TL.put (h:TL w B rec pre W)(rec':Loop):TL w B rec' pre (W.putObj (B+7) (.loop rec')):=by
 obtain⟨v,hv,hr⟩:=h.out
 have hs:=h.size
 have hg:=grownBy_putObj' W (B+7) (.loop rec')
 exact { low:=h.low.grown hg (by omega) (fun k e=>by cases e;omega),t2:=heap_grown hg h.t2 (by simp),t3:=heap_grown hg h.t3 (by simp),bx:=heap_grown hg h.bx (by simp),
         out:=⟨v,heap_grown hg hv (by simp),ownsRow_putObj hr _ h.lp rfl⟩,lp:=World.putObj_heap_same hs,df:=heap_grown hg h.df (by simp),hB:=h.hB,tab:=h.tab.grown hg (by have:=h.hB;omega) }
theorem TL.alloc (h:TL w B rec pre W)(o:Obj):TL w B rec pre (W.alloc o):=by
 obtain⟨v,hv,hr⟩:=h.out
 have hs:=h.size
 have hb:Below W.heap.size W (W.alloc o):=(Below.refl _ W).alloc (Nat.le_refl _) o
 exact { low:=h.low.alloc (by omega) o,t2:=heap_below hb h.t2 (by omega),t3:=heap_below hb h.t3 (by omega),bx:=heap_below hb h.bx (by omega),
         out:=⟨v,heap_below hb hv (by omega),hr.alloc o⟩,lp:=heap_below hb h.lp (by omega),df:=heap_below hb h.df (by omega),hB:=h.hB,tab:=h.tab.below hb }
theorem TL.outKept (h:TL w B rec pre W){v:Value}(hv:W.heap[B+4]? = some (.cells #[v] 109 (0,0)))(hr:W.ownsRow (B+6) 119 3 v pre.length (lexCells pre))(hg:W.grownBy W' v.ownBlock):W'.heap[B+4]? = some (.cells #[v] 109 (0,0)):=by
 have hs:=h.size
 exact heap_grown hg hv (fun e=>by have:=(hr.lt _ e.symm).1;omega)
theorem TL.dfKept (h:TL w B rec pre W){v:Value}(hr:W.ownsRow (B+6) 119 3 v pre.length (lexCells pre))(hg:W.grownBy W' v.ownBlock):W'.heap[B+6]? = some (.deferred (some [])):=by
 refine heap_grown hg h.df (fun e=>?_)
 rcases hr.2 with ⟨rfl,_⟩|⟨g,cap,cur,rfl,_,hgb,_⟩
 ·simp[Value.ownBlock] at e
 ·simp only[Value.ownBlock,Option.some.injEq] at e
  subst e
  have:=h.df
  rw[hgb] at this;cases this
theorem TL.push (h:TL w B rec pre W){v v':Value}{t:Tok}(hv:W.heap[B+4]? = some (.cells #[v] 109 (0,0)))(hr:W.ownsRow (B+6) 119 3 v pre.length (lexCells pre))(hg:W.grownBy W' v.ownBlock)(hr':W'.ownsRow (B+6) 119 3 v' (pre.length+1) (lexCells pre++tokCells t)) :
  TL w B rec (pre++[t]) (W'.setCell ⟨B+4,0,none⟩ v'):=by
 have hs:=h.size
 have hne:∀i,i≤B+5→some i≠v.ownBlock:=fun i hi e=>by have:=(hr.lt i e.symm).1;omega
 have hown:∀{i:Nat} {o:Obj},W.heap[i]? = some o→o.isCells=false→some i≠v.ownBlock:=fun {i o} hi ho e=>by
  rcases hr.2 with ⟨rfl,_⟩|⟨g,cap,cur,rfl,_,hgb,_⟩
  ·simp[Value.ownBlock] at e
  ·simp only[Value.ownBlock,Option.some.injEq] at e
   subst e
   rw[hi] at hgb;injection hgb with hgb;subst hgb;simp[Obj.isCells] at ho
 have hlow':Below B w W':=h.low.grown hg (by omega) (fun k e=>by have:=(hr.lt k e).1;omega)
 have h4:W'.heap[B+4]? = some (.cells #[v] 109 (0,0)):=heap_grown hg hv (hne _ (by omega))
 have hr2:(W'.setCell ⟨B+4,0,none⟩ v').ownsRow (B+6) 119 3 v' (pre.length+1) (lexCells pre++tokCells t):=ownsRow_setCell_below hr' (by show B+4<B+6;omega) _
 exact { low:=hlow'.setCell (by show B≤B+4;omega) _,t2:=heap_set_far (heap_grown hg h.t2 (hne _ (by omega))) (by omega) _ _,t3:=heap_set_far (heap_grown hg h.t3 (hne _ (by omega))) (by omega) _ _,bx:=heap_set_far (heap_grown hg h.bx (hne _ (by omega))) (by omega) _ _,
         out:=⟨v',heap_set h4 0 v',by simpa [lexCells] using hr2⟩,lp:=heap_set_far (heap_grown hg h.lp (hown h.lp rfl)) (by omega) _ _,df:=heap_set_far (heap_grown hg h.df (hown h.df rfl)) (by omega) _ _,hB:=h.hB,
         tab:=(h.tab.block (hg.block _ h.tab.lt (hne _ (by have:=h.hB;omega)))).block (Below.heap_setCell _ _ _ _ (by show 0≠B+4;have:=h.hB;omega)) }
theorem TL.fault (h:TL w B rec pre W)(er pl:Int)(rec':Loop) :
  ((((W.setCell ⟨B,0,none⟩ (.slice none 0 0)).setCell ⟨B+1,0,none⟩ (.int .i64 er)).setCell ⟨B+1,1,none⟩ (.int .i64 pl)).drew).heap[B+7]? = some (.loop rec) ∧
  ∀Wf,Wf=((((W.setCell ⟨B,0,none⟩ (.slice none 0 0)).setCell ⟨B+1,0,none⟩ (.int .i64 er)).setCell ⟨B+1,1,none⟩ (.int .i64 pl)).drew).putObj (B+7) (.loop rec') →
   (Below B w Wf∧Wf.heap[B]? = some (.cells #[.slice none 0 0] 109 (0,0))∧Wf.heap[B+1]? = some (.cells #[.int .i64 er,.int .i64 pl] 35 (0,0))∧Wf.heap[B+7]? = some (.loop rec')∧Wf.heap[B+6]? = some (.deferred (some []))):=by
 have hs:=h.size
 have l1:=heap_set_far (heap_set_far (heap_set_far h.lp (T:=B) (by omega) 0 (.slice none 0 0)) (T:=B+1) (by omega) 0 (.int .i64 er)) (T:=B+1) (by omega) 1 (.int .i64 pl)
 refine⟨l1,?_⟩
 rintro Wf rfl
 have d1:=heap_set_far (heap_set_far (heap_set_far h.df (T:=B) (by omega) 0 (.slice none 0 0)) (T:=B+1) (by omega) 0 (.int .i64 er)) (T:=B+1) (by omega) 1 (.int .i64 pl)
 have t2:=heap_set_far (heap_set_far (heap_set h.t2 0 (.slice none 0 0)) (T:=B+1) (by omega) 0 (.int .i64 er)) (T:=B+1) (by omega) 1 (.int .i64 pl)
 have t3:=heap_set (heap_set (heap_set_far h.t3 (T:=B) (by omega) 0 (.slice none 0 0)) 0 (.int .i64 er)) 1 (.int .i64 pl)
 have b1:=(((h.low.setCell (p:=⟨B,0,none⟩) (Nat.le_refl _) (.slice none 0 0)).setCell (p:=⟨B+1,0,none⟩) (by show B≤B+1;omega) (.int .i64 er)).setCell (p:=⟨B+1,1,none⟩) (by show B≤B+1;omega) (.int .i64 pl)).drew
 have hz:B+7<((((W.setCell ⟨B,0,none⟩ (.slice none 0 0)).setCell ⟨B+1,0,none⟩ (.int .i64 er)).setCell ⟨B+1,1,none⟩ (.int .i64 pl)).drew).heap.size:=(Array.getElem?_eq_some_iff.1 l1).1
 exact⟨b1.grown (grownBy_putObj' _ _ _) (by omega) (fun k e=>by cases e;omega),(World.putObj_heap_other (by omega)).trans t2,(World.putObj_heap_other (by omega)).trans t3,World.putObj_heap_same hz,(World.putObj_heap_other (by omega)).trans d1⟩
end
theorem tokens_end (w W:World)(s:ByteArray)(v:Value)(er pl:Int)(T2:W.heap[w.heap.size]? = some (.cells #[v] 109 (0,0)))(T3:W.heap[w.heap.size+1]? = some (.cells #[.int .i64 er,.int .i64 pl] 35 (0,0)))
  (df:W.heap[w.heap.size+6]? = some (.deferred (some []))) (tmps:Array Value) (h2:tmps.getD 2 undef=.pointer (some ⟨w.heap.size,0,none⟩)) (h3:tmps.getD 3 undef=.pointer (some ⟨w.heap.size+1,0,none⟩))
  (hp:TokensPost w s (.returned (.tuple #[v,.agg #[.int .i64 er,.int .i64 pl]])) (W.putObj (w.heap.size+6) (.deferred none))) :
  bodyPostM Fence.wide 9 Tryz.prog Tryz.f43 (TokensPost w s) .ret ⟨tmps,[{ target:=.collected (w.heap.size+6),args:=#[] }]⟩ W:=by
 refine⟨by simp,.inl ⟨_,_,rfl,run_takeDeferred df,?_⟩⟩
 have e2:(W.putObj (w.heap.size+6) (.deferred none)).heap[w.heap.size]? = some (.cells #[v] 109 (0,0)):=(World.putObj_heap_other (by omega)).trans T2
 have e3:(W.putObj (w.heap.size+6) (.deferred none)).heap[w.heap.size+1]? = some (.cells #[.int .i64 er,.int .i64 pl] 35 (0,0)):=(World.putObj_heap_other (by omega)).trans T3
 generalize W.putObj (w.heap.size+6) (.deferred none)=W9 at *
 have c2:W9.cell? ⟨w.heap.size,0,none⟩=some v:=cell_of_row _ _ 0 _ _ _ e2
 have c3:W9.cell? ⟨w.heap.size+1,0,none⟩=some (.int .i64 er):=cell_of_row _ _ 0 _ _ _ e3
 have c4:W9.cell? ⟨w.heap.size+1,1,none⟩=some (.int .i64 pl):=cell_of_row _ _ 1 _ _ _ e3
 have h2':tmps[2]?.getD undef=.pointer (some ⟨w.heap.size,0,none⟩):=by simpa using h2
 have h3':tmps[3]?.getD undef=.pointer (some ⟨w.heap.size+1,0,none⟩):=by simpa using h3
 refine⟨_,?_,hp⟩
 simp[results,Tryz.results43,go_sem,h2',h3',c2,c3,c4]
theorem infoLex:(Tryz.prog.info? 119).map (fun i=>(i.zero,i.size,i.bytes))=some (some (.agg #[.int .u8 0,.string ByteArray.empty,.int .i64 0]),3,32):=by kernel_rfl
theorem tokens_any (s:ByteArray)(w:World)(hs:s.size≤16384)(ht:AsciiTab w) :
  Calls Tryz.prog 43 #[.string s] w (TokensPost w s):=by
 refine callsIn_wide (n:=9).1 ?_
 refine callsIn_of_wp_marks Tryz.func43 rfl trivial ?_ rfl
 simp only[Tryz.ntmps43,List.size_toArray,List.length_cons,List.length_nil,Nat.reduceAdd,Nat.reduceSub,Array.replicate_succ,Array.replicate_zero,List.push_toArray,List.append_toArray,List.nil_append,List.cons_append]
 gi_wp2_with fail
 refine⟨trivial,callsIn_wide.2 ((newreader_any s _).mono ?_)⟩
 rintro e w1 ⟨rfl,rfl⟩
 gi_wp2_with fail
 refine⟨trivial,callsIn_wide.2 ((all_any _ _).mono ?_)⟩
 rintro e w1 ⟨rfl,rfl⟩
 gi_wp2_with fail
 refine wpIn_range 96 #[.pointer (some ⟨w.heap.size+5,0,none⟩)] (w.heap.size+6) #[.func (.yield (w.heap.size+7)) #[] #[],.pointer (some ⟨w.heap.size+5,0,none⟩)] rfl (enters_of Tryz.func96 (by kernel_rfl) rfl) (by simp) rfl ?_
 intro fn REC W1 HREC HW1
 have hTL:TL w w.heap.size (REC .ready none) [] W1∧Rdr W1 (w.heap.size+3) (w.heap.size+2) s 0:=by
  have hlow:Below w.heap.size w W1:=by
   rw[HW1.out]
   exact ((((((((Below.refl _ w).alloc (Nat.le_refl _) _).alloc (by simp) _).alloc (by simp;omega) _).alloc (by simp;omega) _).alloc (by simp;omega) _).alloc (by simp;omega) _).alloc (by simp;omega) _).alloc (by simp;omega) _
  refine⟨{ low:=hlow,t2:=?_,t3:=?_,bx:=?_,out:=⟨.slice none 0 0,?_,World.ownsRow_nil W1 _ _ _⟩,lp:=?_,df:=?_,hB:=ht.lt,tab:=ht.below hlow },?_,(-1),?_⟩<;>(rw[HW1.out];simp only[at_alloc,World.size_alloc];repeat (first|rw[if_pos trivial] | rw[if_neg (by omega)] | rw[if_pos (by omega)]);try rfl)
 clear HW1
 obtain⟨hTL,hR⟩:=hTL
 dsimp only
 obtain⟨i0,hi0,hz0,hz1,hz2⟩:=info_parts infoLex
 have hQ:w.heap.size+2≠0:=by have:=ht.lt;omega
 refine (all1_in 8 (w.heap.size+7) (w.heap.size+5) (w.heap.size+3) (w.heap.size+2) s hs hQ (fun pre W=>TL w w.heap.size (REC .ready none) pre W)
  (fun er pl W=>Below w.heap.size w W∧W.heap[w.heap.size]? = some (.cells #[.slice none 0 0] 109 (0,0))∧W.heap[w.heap.size+1]? = some (.cells #[.int .i64 er,.int .i64 pl] 35 (0,0))∧W.heap[w.heap.size+7]? = some (.loop (REC .done (some .ret)))∧W.heap[w.heap.size+6]? = some (.deferred (some [])))
  (fun pre W W' h hg=>h.q hg) (fun pre W h=>⟨h.tab,cell_of_row _ _ 0 _ _ _ h.bx⟩) ?hY W1 hR hTL).mono ?hend
 case hY =>
  intro pre k W hk hpl h
  refine yieldAt_of HREC h.lp rfl ?_
  gi_wp2_with fail
  generalize hT:tokenAt s k s[k]=t at *
  obtain⟨kd,tx,er,en⟩:=t
  dsimp only
  have h2:=h.alloc (.cells #[.int .u8 kd,.string tx,.int .i64 k] 119)
  have h3:=h2.put (REC .busy none)
  have hsz:=h.size
  have hbk:∀j,Rdr W (w.heap.size+3) (w.heap.size+2) s j→Rdr ((W.alloc (.cells #[.int .u8 kd,.string tx,.int .i64 k] 119)).putObj (w.heap.size+7) (.loop (REC .busy none))) (w.heap.size+3) (w.heap.size+2) s j:=fun j hj=>by
   have hj2:=hj.keep ((Below.refl _ W).alloc (Nat.le_refl _) (.cells #[.int .u8 kd,.string tx,.int .i64 k] 119))
   obtain⟨p1,p,p2⟩:=hj2
   exact⟨(World.putObj_heap_other (by omega)).trans p1,p,(World.putObj_heap_other (by omega)).trans p2⟩
  have h6:((W.alloc (.cells #[.int .u8 kd,.string tx,.int .i64 k] 119)).putObj (w.heap.size+7) (.loop (REC .busy none))).heap[W.heap.size]? = some (.cells #[.int .u8 kd,.string tx,.int .i64 k] 119 (0,0)):=by
   rw[World.putObj_heap_other (by omega)];exact heap_alloc_new W _
  refine⟨h2.lp,?_⟩
  have hlt6:W.heap.size<((W.alloc (.cells #[.int .u8 kd,.string tx,.int .i64 k] 119)).putObj (w.heap.size+7) (.loop (REC .busy none))).heap.size:=(Array.getElem?_eq_some_iff.1 h6).1
  generalize (W.alloc (.cells #[.int .u8 kd,.string tx,.int .i64 k] 119)).putObj (w.heap.size+7) (.loop (REC .busy none))=W5 at *
  generalize W.heap.size=T6 at *
  have H6:=Hd h6
  have HBK:=Hd hbk
  have HT:=Hd hT
  clear h2 h6 hbk hT
  obtain⟨c0,c1,c2,f0,f1,f2⟩:=cells3 H6.out
  by_cases he:er=0
  ·subst he
   obtain⟨v,hv,hrow⟩:=h3.out
   have kv:W5.cell? ⟨w.heap.size+4,0,none⟩=some v:=cell_of_row _ _ 0 _ _ _ hv
   have hv2:=Hd hv
   have hsz5:=h3.size
   clear hv
   gi_wp2_with (gi_at_builtin;go_must (refine wpListIn_append_own _ rfl (.tmp 28) (.tmp 30) 109 rfl (w.heap.size+6) 119 i0 _ 3 32 Tryz.underlying109 hi0 hz0 hz1 hz2 rfl (by decide) v pre.length (lexCells pre) rfl (hrow.alloc _) ⟨W5.heap.size,0,none⟩ 1 1 [.int .u8 kd,.string tx,.int .i64 k] rfl rfl (news_new W5 [.int .u8 kd,.string tx,.int .i64 k] 119) (by simp[Value.oneCell']) (by simp only[maxLen];omega) (by omega) (by simp;omega) ?_);intro v' w7 hown' hgrow _;obtain⟨g',cap',rfl⟩:=ownsRow_succ hown';have hg7:W5.grownBy w7 v.ownBlock:=World.grownBy.trans (World.grownBy_alloc W5 _ _) hgrow;have hv7:=h3.outKept hv2.out hrow hg7;have kv7:w7.cell? ⟨w.heap.size+4,0,none⟩=some v:=cell_of_row _ _ 0 _ _ _ hv7;have fv7:w7.frozen? ⟨w.heap.size+4,0,none⟩=false:=frozen_of hv7 0)
   have hno:∀i,i<w.heap.size+6→some i≠v.ownBlock:=fun i hi e=>by have:=(hrow.lt i e.symm).1;omega
   have hp:=h3.push hv2.out hrow hg7 (t:=(kd,tx,k)) hown'
   exact roundPost_on HREC hp.lp (.inl ⟨rfl,rfl,hp.put _,fun j hj=>(((HBK.out j hj).move hg7 (hno _ (by omega)) (hno _ (by omega))).set_far (T:=w.heap.size+4) (i:=0) _ (by omega) (by omega)).move (grownBy_putObj' _ _ _) (by simp) (by simp)⟩)
  ·have he1:((er:Int) != 0)=true:=by rw[bne_iff_ne];omega
   have HE:=Hd he
   clear he
   have k2:W5.cell? ⟨w.heap.size,0,none⟩=some (.slice none 0 0):=cell_of_row _ _ 0 _ _ _ h3.t2
   have k3:W5.cell? ⟨w.heap.size+1,0,none⟩=some (.int .i64 0):=cell_of_row _ _ 0 _ _ _ h3.t3
   have k3':W5.cell? ⟨w.heap.size+1,1,none⟩=some (.int .i64 0):=cell_of_row _ _ 1 _ _ _ h3.t3
   have f2':W5.frozen? ⟨w.heap.size,0,none⟩=false:=by simp[World.frozen?,h3.t2]
   have f3:W5.frozen? ⟨w.heap.size+1,0,none⟩=false:=by simp[World.frozen?,h3.t3]
   have f3':W5.frozen? ⟨w.heap.size+1,1,none⟩=false:=by simp[World.frozen?,h3.t3]
   have hfa:=h3.fault er k (REC .done (some .ret))
   have HFA:=Hd hfa
   clear hfa
   gi_wp2_with fail
   gi_region
   all_goals gi_wp2
   all_goals exact roundPost_ret HREC HFA.out.1 (.inr ⟨HE.out,rfl,HFA.out.2 _ rfl⟩)
 case hend =>
  clear hTL hR
  rintro e W ⟨⟨vr,rfl⟩,(⟨hno,h⟩|⟨er,pl,hfl,hlow,k2,k3,hl,hdf⟩)⟩
  ·refine rangePost_on HREC h.lp ?_
   have HNO:=Hd hno
   have h3:=h.put (REC .exhausted none)
   clear hno h
   generalize W.putObj (w.heap.size+7) (.loop (REC .exhausted none))=W5 at *
   obtain⟨v,hv,hrow⟩:=h3.out
   have kv:W5.cell? ⟨w.heap.size+4,0,none⟩=some v:=cell_of_row _ _ 0 _ _ _ hv
   have hv2:=Hd hv
   have hsz5:=h3.size
   have hlen:(toksFrom s 0).1.length+0≤s.size:=toks_len s (s.size+1) 0 (Nat.zero_le _)
   clear hv
   gi_wp2_with (gi_at_builtin;go_must (refine wpListIn_append_own _ rfl (.tmp 32) (.tmp 36) 109 rfl (w.heap.size+6) 119 i0 _ 3 32 Tryz.underlying109 hi0 hz0 hz1 hz2 rfl (by decide) v (toksFrom s 0).1.length (lexCells (toksFrom s 0).1) rfl (hrow.alloc _) ⟨W5.heap.size,0,none⟩ 1 1 [.int .u8 7,.string ⟨#[]⟩,.int .i64 s.size] rfl rfl (news_new W5 [.int .u8 7,.string ⟨#[]⟩,.int .i64 s.size] 119) (by simp[Value.oneCell']) (by simp only[maxLen];omega) (by omega) (by simp;omega) ?_);intro v' w7 hown' hgrow _;obtain⟨g',cap',rfl⟩:=ownsRow_succ hown';have hg7:W5.grownBy w7 v.ownBlock:=World.grownBy.trans (World.grownBy_alloc W5 _ _) hgrow;have T2:=heap_grown hg7 h3.t2 (fun e=>by have:=(hrow.lt _ e.symm).1;omega);have T3:=heap_grown hg7 h3.t3 (fun e=>by have:=(hrow.lt _ e.symm).1;omega);have a2:w7.cell? ⟨w.heap.size,0,none⟩=some (.slice none 0 0):=cell_of_row _ _ 0 _ _ _ T2;have b2:w7.frozen? ⟨w.heap.size,0,none⟩=false:=frozen_of T2 0;have a3:w7.cell? ⟨w.heap.size+1,0,none⟩=some (.int .i64 0):=cell_of_row _ _ 0 _ _ _ T3;have a3':w7.cell? ⟨w.heap.size+1,1,none⟩=some (.int .i64 0):=cell_of_row _ _ 1 _ _ _ T3;have b3:w7.frozen? ⟨w.heap.size+1,0,none⟩=false:=frozen_of T3 0;have b3':w7.frozen? ⟨w.heap.size+1,1,none⟩=false:=frozen_of T3 1)
   have hown2:=hown'
   generalize Value.slice (some ⟨g',0,none⟩) ((toksFrom s 0).1.length+1) cap'=vv at *
   have e2:=heap_set_far (heap_set_far (heap_set T2 0 vv) (T:=w.heap.size+1) (by omega) 0 (.int .i64 0)) (T:=w.heap.size+1) (by omega) 1 (.int .i64 0)
   have e3:=heap_set (heap_set (heap_set_far T3 (T:=w.heap.size) (by omega) 0 vv) 0 (.int .i64 0)) 1 (.int .i64 0)
   have hdf7:w7.heap[w.heap.size+6]? = some (.deferred (some [])):=h3.dfKept hrow hg7
   have edf:=heap_set_far (heap_set_far (heap_set_far hdf7 (T:=w.heap.size) (by omega) 0 vv) (T:=w.heap.size+1) (by omega) 0 (.int .i64 0)) (T:=w.heap.size+1) (by omega) 1 (.int .i64 0)
   have hlow7:Below w.heap.size w w7:=h3.low.grown hg7 (by omega) (fun k e=>by have:=(hrow.lt k e).1;omega)
   have hlow8:=((hlow7.setCell (p:=⟨w.heap.size,0,none⟩) (Nat.le_refl _) vv).setCell (p:=⟨w.heap.size+1,0,none⟩) (by show w.heap.size≤w.heap.size+1;omega) (.int .i64 0)).setCell (p:=⟨w.heap.size+1,1,none⟩) (by show w.heap.size≤w.heap.size+1;omega) (.int .i64 0)
   have hr8:=ownsRow_setCell_below (ownsRow_setCell_below (ownsRow_setCell_below hown2 (a:=⟨w.heap.size,0,none⟩) (by show w.heap.size<w.heap.size+6;omega) vv) (a:=⟨w.heap.size+1,0,none⟩) (by show w.heap.size+1<w.heap.size+6;omega) (.int .i64 0)) (a:=⟨w.heap.size+1,1,none⟩) (by show w.heap.size+1<w.heap.size+6;omega) (.int .i64 0)
   have hr9:=ownsRow_base (b':=w.heap.size) (ownsRow_putObj hr8 (.deferred none) edf rfl) (by omega)
   have hsz8:=(Array.getElem?_eq_some_iff.1 edf).1
   have hlow9:=hlow8.grown (grownBy_putObj' _ (w.heap.size+6) (.deferred none)) (by omega) (fun k e=>by cases e;omega)
   refine tokens_end w _ s vv _ _ e2 e3 edf _ rfl rfl ⟨hlow9,.inl ⟨HNO.out,vv,rfl,?_⟩⟩
   simpa [lexCells,tokCells] using hr9
  ·refine rangePost_ret HREC hl ?_
   have hz:w.heap.size+7<W.heap.size:=(Array.getElem?_eq_some_iff.1 hl).1
   gi_wp2_with fail
   refine tokens_end w _ s _ _ _ ((World.putObj_heap_other (by omega)).trans k2) ((World.putObj_heap_other (by omega)).trans k3) ((World.putObj_heap_other (by omega)).trans hdf) _ rfl rfl ?_
   exact⟨(hlow.grown (grownBy_putObj' _ _ _) (by omega) (fun k e=>by cases e;omega)).grown (grownBy_putObj' _ _ _) (by simp;omega) (fun k e=>by cases e;omega),.inr ⟨er,pl,hfl,rfl⟩⟩
end Go.Proofs.YtglbjooofdnbkaaGreatDoor
