/- Several texts joined, each with its own sentence and conditions ahead of it: TreeK, TreeL, TreeN, QuietB, TreeO. -/
import Derived.Test.YtglbjooofdnbkaaGreatDoorME
import Derived.Test.YtglbjooofdnbkaaGreatDoorMA
import Derived.Laws.OwnMore
import Derived.Deep.DeepAppendRoom
import Derived.Deep.QuietTactic
import Derived.BigQuiet
namespace Go.Proofs.YtglbjooofdnbkaaGreatDoor
open Go.RowKit
def nodeCells (T:Tree) (s:Value):List Value:=[.int .u8 T.kind,.string T.text,.int .i64 T.num,.int .i64 T.place,s]
theorem flat5:∀(rows:List (List Value)),(∀r∈rows,r.length=5)→∀(i m:Nat)(r:List Value)(u:Value),rows[i]? = some r→r[m]? = some u→rows.flatten[i*5+m]? = some u:=by
 intro rows
 induction rows with
 | nil=>intro _ i m r u h _;simp at h
 | cons x rows ih =>
  intro h5 i m r u hi hm
  have hx:x.length=5:=h5 x (List.mem_cons_self ..)
  rw[List.flatten_cons]
  cases i with
  | zero =>
   simp only[List.getElem?_cons_zero,Option.some.injEq] at hi
   subst hi
   have:m<x.length:=(List.getElem?_eq_some_iff.1 hm).1
   rw[Nat.zero_mul,Nat.zero_add,List.getElem?_append_left this]
   exact hm
  | succ i =>
   rw[List.getElem?_cons_succ] at hi
   have:=ih (fun r hr=>h5 r (List.mem_cons_of_mem _ hr)) i m r u hi hm
   rw[List.getElem?_append_right (by omega)]
   rw[←this]
   congr 1
   omega
theorem infoNode:(Tryz.prog.info? 25).map (fun i=>(i.zero,i.size,i.bytes))=some (some (.agg #[.int .u8 0,.string ByteArray.empty,.int .i64 0,.int .i64 0,.slice none 0 0]),5,64):=by kernel_rfl
def KidAt (w:World) (d b o:Nat) (B:Nat) (T:Tree):Prop:=
 Fits T∧∃s,w.cell? ⟨b,o,none⟩=some (.int .u8 T.kind)∧w.cell? ⟨b,o+1,none⟩=some (.string T.text)∧w.cell? ⟨b,o+2,none⟩=some (.int .i64 T.num)∧w.cell? ⟨b,o+3,none⟩=some (.int .i64 T.place)∧w.cell? ⟨b,o+4,none⟩=some s∧KidsAt w B d T.kids s
theorem KidsAt.rows {w:World}{B d:Nat}{ks:List Tree}{sl:Value}(h:KidsAt w B d ks sl) :
  ∃p c,sl=.slice p ks.length c∧ks.length≤maxLen∧∀i T,ks[i]? = some T→d=d-1+1∧∃b off,p=some ⟨b,off,none⟩∧b<B∧KidAt w (d-1) b (off+i*5) B T:=by
 rcases h.cases with ⟨rfl,sp,cap,rfl⟩|⟨d',b,off,cap,rfl,hne,hb,hc,hm,rfl,hrow⟩
 ·exact⟨sp,cap,rfl,Nat.zero_le _,fun i T hT=>by simp at hT⟩
 ·refine⟨_,cap,rfl,Nat.le_trans hc hm,fun i T hT=>⟨by omega,b,off,rfl,hb,hrow i T hT⟩⟩
theorem KidAt.node {w W:World}{B d b o:Nat}{t:Tree}(hB:Below B w W)(hbB:b<B)(h:KidAt w d b o B t) :
  ∃p n c,W.cell? ⟨b,o,none⟩=some (.int .u8 t.kind)∧W.cell? ⟨b,o+1,none⟩=some (.string t.text) ∧
       W.cell? ⟨b,o+2,none⟩=some (.int .i64 t.num)∧W.cell? ⟨b,o+3,none⟩=some (.int .i64 t.place)∧W.cell? ⟨b,o+4,none⟩=some (.slice p n c) ∧
       NodeAt W B d t (.agg #[.int .u8 t.kind,.string t.text,.int .i64 t.num,.int .i64 t.place,.slice p n c]):=by
 obtain⟨hf,s,c0,c1,c2,c3,c4,hk⟩:=h
 obtain⟨p,n,c,rfl⟩:=hk.shape
 have e:∀j,W.cell? ⟨b,j,none⟩=w.cell? ⟨b,j,none⟩:=fun j=>hB.cell (p:=⟨b,j,none⟩) hbB
 exact⟨p,n,c,(e _).trans c0,(e _).trans c1,(e _).trans c2,(e _).trans c3,(e _).trans c4,hf,_,rfl,hk.below hB⟩
def Wb (w:World):={W:World // Below w.heap.size w W}
instance (w:World):Nonempty (Wb w):=⟨⟨w,Below.refl _ w⟩⟩
theorem wp_region_below {P:Program}{id:Nat}{Q:Exit→Act→World→Prop}{a:Act}{w:World}{l:List Oper}(hm:P.follows .mixedOrders=true)(hB:Region.lexB .any l.toArray=true)
  (h:wpQuiet P l.toArray (fun w'=>∃x:Wb w,w'=x.1) (fun a'=>∀w',(∃x:Wb w,w'=x.1)→Q .normal a' w') l a):(Code.region id l.toArray true).wp P Q a w:=
 wp_region_quiet (C:=fun w'=>∃x:Wb w,w'=x.1) hm hB ⟨⟨w.drew,(Below.refl _ w).drew⟩,rfl⟩ (by simpa using h)
theorem Calls.below_of {P:Program}{f:FuncId}{args:Array Value}{w:World}{x:Wb w}{v:Value}
  (h:Calls P f args x.1 fun e w'=>e=.returned v∧Below x.1.heap.size x.1 w'):Calls P f args x.1 fun e w''=>e=.returned v∧∃y:Wb w,w''=y.1:=
 h.mono fun _ W ⟨he,hb⟩=>⟨he,⟨W,x.2.trans (hb.mono x.2.size)⟩,rfl⟩
theorem wb_below {w w':World}(h:∃x:Wb w,w'=x.1):Below w.heap.size w w':=by
 obtain⟨x,rfl⟩:=h
 exact x.2
theorem Wb.cell {w:World}(x:Wb w){a:Addr}{v:Value}(h:w.cell? a=some v):x.1.cell? a=some v:=
 (x.2.cell (World.block_lt_of_cell? w a h)).trans h
theorem cellsOf {w:World}{b o:Nat}{T:Tree}{s:Value}(h:∀m u,(nodeCells T s)[m]? = some u→w.cell? ⟨b,o+m,none⟩=some u) :
  w.cell? ⟨b,o,none⟩=some (.int .u8 T.kind)∧w.cell? ⟨b,o+1,none⟩=some (.string T.text)∧w.cell? ⟨b,o+2,none⟩=some (.int .i64 T.num)∧w.cell? ⟨b,o+3,none⟩=some (.int .i64 T.place)∧w.cell? ⟨b,o+4,none⟩=some s:=
 ⟨h 0 _ rfl,h 1 _ rfl,h 2 _ rfl,h 3 _ rfl,h 4 _ rfl⟩
end Go.Proofs.YtglbjooofdnbkaaGreatDoor
