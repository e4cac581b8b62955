/- Several texts joined, each with its own sentence and conditions ahead of it: RegInv, AwkA, AwkB, RegTy, RegTz, RegTx, RegBox. -/
import Derived.Test.YtfpohaipmnjflaaGreatDoorMF
import Derived.Test.YtfpohaipmnjflaaGreatDoorMJ
import Derived.Great.BuildSlice
import Derived.Laws.Rows
/- A region that draws its order, by an invariant over what has been carried out: whatever the order. No condition. -/
namespace Go.Proofs.YtfpohaipmnjflaaGreatDoor
open Go.RowKit

def unlisted (listed : Array Bool) : Nat := (listed.toList.filter (!·)).length
theorem unlisted_set : ∀ (l : List Bool) (i : Nat), l[i]? = some false → ((l.set i true).filter (!·)).length + 1 = (l.filter (!·)).length := by
  intro l
  induction l with
  | nil => intro i h; simp at h
  | cons x l ih =>
    intro i h
    cases i with
    | zero =>
      simp only [List.getElem?_cons_zero, Option.some.injEq] at h
      subst h
      simp
    | succ i =>
      rw [List.getElem?_cons_succ] at h
      have := ih i h
      rw [List.set_cons_succ]
      cases x <;> simp at this ⊢ <;> omega
theorem wpAny_inv {P : Program} {ops : Array Oper} {Q : Exit → Act → World → Prop} (I : Array Bool → Act → World → Prop)
    (hstep : ∀ (listed : Array Bool) (a : Act) (W : World) (i : Nat), I listed a W → listed.size = ops.size → i ∈ Region.ready .any ops listed → wpOp P ops Q i (fun a' W' => I (listed.setIfInBounds i true) a' W') a W)
    (hend : ∀ (listed : Array Bool) (a : Act) (W : World), I listed a W → listed.size = ops.size → Region.ready .any ops listed = [] → Q .normal a W) :
    ∀ (fuel : Nat) (listed : Array Bool) (a : Act) (W : World), unlisted listed = fuel → listed.size = ops.size → I listed a W → wpAny P .any ops Q fuel listed a W := by
  intro fuel
  induction fuel with
  | zero =>
    intro listed a W hu hsz hI
    have hr : Region.ready .any ops listed = [] := by
      rw [List.eq_nil_iff_forall_not_mem]
      intro i hi
      have h1 := (mem_ready.1 hi).1
      have hi' : i < listed.size := by
        rcases Nat.lt_or_ge i listed.size with h | h
        · exact h
        · simp [Array.getElem?_eq_none h] at h1
      have h2 : listed.toList[i]? = some false := by
        simp [hi'] at h1 ⊢; exact h1
      have := unlisted_set listed.toList i h2
      unfold unlisted at hu
      omega
    exact ⟨hr, hend listed a W hI hsz hr⟩
  | succ fuel ih =>
    intro listed a W hu hsz hI
    refine ⟨fun hr => hend listed a W hI hsz hr, fun i hi => ?_⟩
    have h1 := (mem_ready.1 hi).1
    have hi' : i < listed.size := by
      rcases Nat.lt_or_ge i listed.size with h | h
      · exact h
      · simp [Array.getElem?_eq_none h] at h1
    have h2 : listed.toList[i]? = some false := by
      simp [hi'] at h1 ⊢; exact h1
    refine wpOp_mono (fun a' W' h => ih _ a' W' ?_ (by simp [hsz]) h) (hstep listed a W i hI hsz hi)
    have := unlisted_set listed.toList i h2
    unfold unlisted at hu ⊢
    rw [Array.toList_setIfInBounds]
    omega
theorem wp_region_inv {P : Program} {id : Nat} {Q : Exit → Act → World → Prop} {a : Act} {w : World} {l : List Oper} (hm : P.follows .mixedOrders = true) (I : Array Bool → Act → World → Prop)
    (h0 : I (Array.replicate l.length false) a w.drew)
    (hstep : ∀ (listed : Array Bool) (a : Act) (W : World) (i : Nat), I listed a W → listed.size = l.toArray.size → i ∈ Region.ready .any l.toArray listed → wpOp P l.toArray Q i (fun a' W' => I (listed.setIfInBounds i true) a' W') a W)
    (hend : ∀ (listed : Array Bool) (a : Act) (W : World), I listed a W → listed.size = l.toArray.size → Region.ready .any l.toArray listed = [] → Q .normal a W) :
    (Code.region id l.toArray true).wp P Q a w := by
  refine wp_region_any hm (wpAny_inv I hstep hend _ _ _ _ ?_ (by simp) ?_)
  · unfold unlisted; simp
  · simpa using h0
end Go.Proofs.YtfpohaipmnjflaaGreatDoor
/- The statements' own nodes: of, num, program; kids written out; by contract. No condition. -/
namespace Go.Proofs.YtfpohaipmnjflaaGreatDoor
open Go.RowKit

theorem KidsAt.more {w : World} {B : Nat} : ∀ {d : Nat} {ks : List Tree} {sl : Value}, KidsAt w B d ks sl → KidsAt w B (d + 1) ks sl := by
  intro d
  induction d with
  | zero =>
    rintro ks sl ⟨h0, sp, cap, h1⟩
    exact Or.inl ⟨h0, sp, cap, h1⟩
  | succ d ih =>
    rintro ks sl (h | ⟨b, off, cap, h1, h2, h3, h4, h5, h6⟩)
    · exact Or.inl h
    · refine Or.inr ⟨b, off, cap, h1, h2, h3, h4, h5, fun i T hT => ?_⟩
      obtain ⟨hf, s, c0, c1, c2, c3, c4, hk⟩ := h6 i T hT
      exact ⟨hf, s, c0, c1, c2, c3, c4, ih hk⟩
theorem KidsAt.deeper {w : World} {B d d' : Nat} (hd : d ≤ d') {ks : List Tree} {sl : Value} (h : KidsAt w B d ks sl) : KidsAt w B d' ks sl := by
  induction hd with
  | refl => exact h
  | step _ ih => exact ih.more
theorem NodeAt.deeper {w : World} {B d d' : Nat} (hd : d ≤ d') {T : Tree} {v : Value} (h : NodeAt w B d T v) : NodeAt w B d' T v := by
  obtain ⟨hf, s, hv, hk⟩ := h
  exact ⟨hf, s, hv, hk.deeper hd⟩
theorem KidsAt.nil (w : World) (B d : Nat) : KidsAt w B d [] (.slice none 0 0) := by
  cases d with
  | zero => exact ⟨rfl, _, _, rfl⟩
  | succ d => exact Or.inl ⟨rfl, _, _, rfl⟩
/-- kids that have just been laid, one behind the other -/
theorem kids_lit (w : World) (d : Nat) (Ts : List Tree) (ss : List Value) (hl : ss.length = Ts.length) (h63 : Ts.length ≤ 100) (arr : Array Value) (ha : arr = ((Ts.zip ss).map fun x => nodeCells x.1 x.2).flatten.toArray) (n : Nat) (hn : Ts.length = n)
    (h : ∀ (i : Nat) (T : Tree) (s : Value), Ts[i]? = some T → ss[i]? = some s → Fits T ∧ KidsAt w w.heap.size d T.kids s) :
    KidsAt (w.alloc (.cells arr 25)) (w.heap.size + 1) (d + 1) Ts (.slice (some ⟨w.heap.size, 0, none⟩) n n) := by
  subst hn
  by_cases h0 : Ts = []
  · subst h0; exact Or.inl ⟨rfl, _, _, rfl⟩
  · refine Or.inr ⟨w.heap.size, 0, Ts.length, h0, Nat.lt_succ_self _, Nat.le_refl _, by unfold maxLen; omega, rfl, fun i T hT => ?_⟩
    have hi : i < Ts.length := (List.getElem?_eq_some_iff.1 hT).1
    obtain ⟨s, hs⟩ : ∃ s, ss[i]? = some s := ⟨ss[i]'(by omega), List.getElem?_eq_getElem (by omega)⟩
    obtain ⟨hf, hk⟩ := h i T s hT hs
    have hr : ((Ts.zip ss).map fun x => nodeCells x.1 x.2)[i]? = some (nodeCells T s) := by
      rw [List.getElem?_map, (List.getElem?_zip_eq_some (z := (T, s))).2 ⟨hT, hs⟩]; rfl
    have h5 : ∀ r ∈ ((Ts.zip ss).map fun x => nodeCells x.1 x.2), r.length = 5 := by
      intro r hr
      obtain ⟨x, _, rfl⟩ := List.mem_map.1 hr
      rfl
    have hat : ∀ m u, (nodeCells T s)[m]? = some u → (w.alloc (.cells arr 25)).cell? ⟨w.heap.size, 0 + i * 5 + m, none⟩ = some u := by
      intro m u hm
      rw [cell_of_row _ _ _ _ _ _ (heap_alloc_new w (.cells arr 25)), ha, Nat.zero_add]
      simpa using flat5 _ h5 i m _ u hr hm
    have hb : Below w.heap.size w (w.alloc (.cells arr 25)) := (Below.refl _ w).alloc (Nat.le_refl _) _
    exact ⟨hf, s, hat 0 _ rfl, hat 1 _ rfl, hat 2 _ rfl, hat 3 _ rfl, hat 4 _ rfl, (hk.below hb).up (Nat.le_succ _)⟩

theorem lawOf_fin (W : World) (Rp : Ending → World → Prop) (T : Nat) (a b c d e : Value) (hT : W.heap[T]? = some (.cells #[a, b, c, d, e] 25 (0, 0)))
    (tmps : Array Value) (h4 : tmps.getD 6 undef = .pointer (some ⟨T, 0, none⟩)) (hR : Rp (.returned (.agg #[a, b, c, d, e])) W) :
    bodyPost Tryz.prog Tryz.f13 Rp .ret ⟨tmps, []⟩ W := by
  obtain ⟨c0, c1, c2, c3, c4⟩ := cells5 hT
  have h4' : tmps[6]?.getD undef = .pointer (some ⟨T, 0, none⟩) := by simpa using h4
  refine bodyPost_ret (v := .agg #[a, b, c, d, e]) ?_ rfl hR
  simp [results, Tryz.results13, go_sem, h4', c0, c1, c2, c3, c4]
theorem lawOf_any (k : Nat) (t : ByteArray) (p : Option Addr) (n c : Nat) (w : World) :
    Calls Tryz.prog 13 #[.int .u8 k, .string t, .slice p n c] w fun e w' => e = .returned (.agg #[.int .u8 k, .string t, .int .i64 0, .int .i64 0, .slice p n c]) ∧ Below w.heap.size w w' := by
  go_enter Tryz.func13, Tryz.ntmps13
  go_wp2_with fail
  exact lawOf_fin _ _ w.heap.size _ _ _ _ _ (heap_alloc_new w _) _ rfl ⟨rfl, (Below.refl _ w).alloc (Nat.le_refl _) _⟩
theorem lawProg_fin (f : Func) (_hr : f.results = Tryz.f14.results) (W : World) (Rp : Ending → World → Prop) (T : Nat) (a b c d e : Value) (hT : W.heap[T]? = some (.cells #[a, b, c, d, e] 25 (0, 0)))
    (tmps : Array Value) (h4 : tmps.getD 2 undef = .pointer (some ⟨T, 0, none⟩)) (hR : Rp (.returned (.agg #[a, b, c, d, e])) W) :
    bodyPost Tryz.prog Tryz.f14 Rp .ret ⟨tmps, []⟩ W := by
  obtain ⟨c0, c1, c2, c3, c4⟩ := cells5 hT
  have h4' : tmps[2]?.getD undef = .pointer (some ⟨T, 0, none⟩) := by simpa using h4
  refine bodyPost_ret (v := .agg #[a, b, c, d, e]) ?_ rfl hR
  simp [results, Tryz.results14, go_sem, h4', c0, c1, c2, c3, c4]
theorem lawNum_fin (W : World) (Rp : Ending → World → Prop) (T : Nat) (a b c d e : Value) (hT : W.heap[T]? = some (.cells #[a, b, c, d, e] 25 (0, 0)))
    (tmps : Array Value) (h4 : tmps.getD 2 undef = .pointer (some ⟨T, 0, none⟩)) (hR : Rp (.returned (.agg #[a, b, c, d, e])) W) :
    bodyPost Tryz.prog Tryz.f12 Rp .ret ⟨tmps, []⟩ W := by
  obtain ⟨c0, c1, c2, c3, c4⟩ := cells5 hT
  have h4' : tmps[2]?.getD undef = .pointer (some ⟨T, 0, none⟩) := by simpa using h4
  refine bodyPost_ret (v := .agg #[a, b, c, d, e]) ?_ rfl hR
  simp [results, Tryz.results12, go_sem, h4', c0, c1, c2, c3, c4]
set_option maxHeartbeats 1000000 in
theorem lawProg_any (p : Option Addr) (n c : Nat) (w : World) :
    Calls Tryz.prog 14 #[.slice p n c] w fun e w' => e = .returned (.agg #[.int .u8 1, .string ⟨#[]⟩, .int .i64 0, .int .i64 0, .slice p n c]) ∧ Below w.heap.size w w' := by
  have hb0 : Below w.heap.size w (w.alloc (.cells #[.int .u8 0, .string ⟨#[]⟩, .int .i64 0, .int .i64 0, .slice none 0 0] 25)) := (Below.refl _ w).alloc (Nat.le_refl _) _
  have hx := heap_alloc_new w (.cells #[.int .u8 0, .string ⟨#[]⟩, .int .i64 0, .int .i64 0, .slice none 0 0] 25)
  have HB := Lib.hid hb0
  have HX := Lib.hid hx
  clear hb0 hx
  go_enter Tryz.func14, Tryz.ntmps14
  go_wp2_with fail
  refine Calls.mono (lawOf_any 1 ⟨#[]⟩ p n c _) ?_
  rintro e w1 ⟨rfl, hb1⟩
  have hx1 := heap_below hb1 HX.out (by simp)
  have HX1 := Lib.hid hx1
  have HB1 := Lib.hid (HB.out.trans (hb1.mono HB.out.size))
  obtain ⟨b0, b1, b2, b3, b4⟩ := cells5 hx1
  have g0 := frozen5 hx1 0
  have g1 := frozen5 hx1 1
  have g2 := frozen5 hx1 2
  have g3 := frozen5 hx1 3
  have g4 := frozen5 hx1 4
  clear hb1 hx1
  go_wp2_with fail
  refine lawProg_fin _ rfl _ _ w.heap.size _ _ _ _ _ (heap_set (heap_set (heap_set (heap_set (heap_set HX1.out 0 _) 1 _) 2 _) 3 _) 4 _) _ rfl ⟨rfl, ?_⟩
  exact ((((HB1.out.setCell (Nat.le_refl _) _).setCell (Nat.le_refl _) _).setCell (Nat.le_refl _) _).setCell (Nat.le_refl _) _).setCell (Nat.le_refl _) _
set_option maxHeartbeats 1000000 in
theorem lawNum_any (t : ByteArray) (w : World) :
    Calls Tryz.prog 12 #[.string t] w fun e w' => e = .returned (.agg #[.int .u8 14, .string t, .int .i64 0, .int .i64 0, .slice none 0 0]) ∧ Below w.heap.size w w' := by
  have hb0 : Below w.heap.size w (w.alloc (.cells #[.int .u8 0, .string ⟨#[]⟩, .int .i64 0, .int .i64 0, .slice none 0 0] 25)) := (Below.refl _ w).alloc (Nat.le_refl _) _
  have hx := heap_alloc_new w (.cells #[.int .u8 0, .string ⟨#[]⟩, .int .i64 0, .int .i64 0, .slice none 0 0] 25)
  have HB := Lib.hid hb0
  have HX := Lib.hid hx
  clear hb0 hx
  go_enter Tryz.func12, Tryz.ntmps12
  go_wp2_with fail
  refine Calls.mono (lawOf_any 14 t none 0 0 _) ?_
  rintro e w1 ⟨rfl, hb1⟩
  have hx1 := heap_below hb1 HX.out (by simp)
  have HX1 := Lib.hid hx1
  have HB1 := Lib.hid (HB.out.trans (hb1.mono HB.out.size))
  obtain ⟨b0, b1, b2, b3, b4⟩ := cells5 hx1
  have g0 := frozen5 hx1 0
  have g1 := frozen5 hx1 1
  have g2 := frozen5 hx1 2
  have g3 := frozen5 hx1 3
  have g4 := frozen5 hx1 4
  clear hb1 hx1
  go_wp2_with fail
  refine lawNum_fin _ _ w.heap.size _ _ _ _ _ (heap_set (heap_set (heap_set (heap_set (heap_set HX1.out 0 _) 1 _) 2 _) 3 _) 4 _) _ rfl ⟨rfl, ?_⟩
  exact ((((HB1.out.setCell (Nat.le_refl _) _).setCell (Nat.le_refl _) _).setCell (Nat.le_refl _) _).setCell (Nat.le_refl _) _).setCell (Nat.le_refl _) _
end Go.Proofs.YtfpohaipmnjflaaGreatDoor
/- One operation of a region, its frame a letter: a call, a load, a slice of nodes. No condition. -/
namespace Go.Proofs.YtfpohaipmnjflaaGreatDoor
open Go.RowKit

theorem step_call {P : Program} {o : Oper} {a : Act} {W : World} {K : Act → World → Prop} {Q : Exit → Act → World → Prop} (f : FuncId) (args : Array Operand) (tys : Array TypeId) (ho : o.op = .call { callee := .value (.func f), args := args, argTypes := tys })
    (vs : Array Value) (hv : args.map a.eval = vs) (hent : ∀ (xs : Array Value) (w : World), (callFunc f xs).run P w = .ok (.enter f xs) w)
    (hc : Calls P f vs W (fun e W' => ∃ v, e = .returned v ∧ K (a.put o.dst v) W')) : o.wp P a W K Q := by
  have hrun : (execOp a.eval o).run P W = .ok (.enter f vs) W := by
    unfold execOp
    simp only [ho, resolve, hv, Act.eval, Deferred.ofValue, Sem.run_bind, Sem.run_pure, Result.andThen_ok, invoke, Array.append_empty, Array.empty_append, hent]
  unfold Oper.wp
  rw [hrun, Oper.upon_enter]
  refine hc.mono fun e W' hh => ?_
  obtain ⟨v, rfl, hK⟩ := hh
  exact hK
theorem fill_1 (T0 : Tree) (s0 : Value) : Instr.fill (fun i => some (i * 5, 5)) ((Array.range (1 * 5)).map ((Value.agg #[.int .u8 0, .string ByteArray.empty, .int .i64 0, .int .i64 0, .slice none 0 0]).cells[· % (Value.agg #[.int .u8 0, .string ByteArray.empty, .int .i64 0, .int .i64 0, .slice none 0 0]).cells.size]!)) [(0, .agg (nodeCells T0 s0).toArray)] = some (nodeCells T0 s0).toArray := by
  kernel_rfl
theorem fill_2 (T0 T1 : Tree) (s0 s1 : Value) : Instr.fill (fun i => some (i * 5, 5)) ((Array.range (2 * 5)).map ((Value.agg #[.int .u8 0, .string ByteArray.empty, .int .i64 0, .int .i64 0, .slice none 0 0]).cells[· % (Value.agg #[.int .u8 0, .string ByteArray.empty, .int .i64 0, .int .i64 0, .slice none 0 0]).cells.size]!)) [(0, .agg (nodeCells T0 s0).toArray), (1, .agg (nodeCells T1 s1).toArray)] = some (nodeCells T0 s0 ++ nodeCells T1 s1).toArray := by
  kernel_rfl
theorem fill_3 (T0 T1 T2 : Tree) (s0 s1 s2 : Value) : Instr.fill (fun i => some (i * 5, 5)) ((Array.range (3 * 5)).map ((Value.agg #[.int .u8 0, .string ByteArray.empty, .int .i64 0, .int .i64 0, .slice none 0 0]).cells[· % (Value.agg #[.int .u8 0, .string ByteArray.empty, .int .i64 0, .int .i64 0, .slice none 0 0]).cells.size]!)) [(0, .agg (nodeCells T0 s0).toArray), (1, .agg (nodeCells T1 s1).toArray), (2, .agg (nodeCells T2 s2).toArray)] = some (nodeCells T0 s0 ++ nodeCells T1 s1 ++ nodeCells T2 s2).toArray := by
  kernel_rfl
theorem fill_4 (T0 T1 T2 T3 : Tree) (s0 s1 s2 s3 : Value) : Instr.fill (fun i => some (i * 5, 5)) ((Array.range (4 * 5)).map ((Value.agg #[.int .u8 0, .string ByteArray.empty, .int .i64 0, .int .i64 0, .slice none 0 0]).cells[· % (Value.agg #[.int .u8 0, .string ByteArray.empty, .int .i64 0, .int .i64 0, .slice none 0 0]).cells.size]!)) [(0, .agg (nodeCells T0 s0).toArray), (1, .agg (nodeCells T1 s1).toArray), (2, .agg (nodeCells T2 s2).toArray), (3, .agg (nodeCells T3 s3).toArray)] = some (nodeCells T0 s0 ++ nodeCells T1 s1 ++ nodeCells T2 s2 ++ nodeCells T3 s3).toArray := by
  kernel_rfl
theorem fill_7 (T0 T1 T2 T3 T4 T5 T6 : Tree) (s0 s1 s2 s3 s4 s5 s6 : Value) : Instr.fill (fun i => some (i * 5, 5)) ((Array.range (7 * 5)).map ((Value.agg #[.int .u8 0, .string ByteArray.empty, .int .i64 0, .int .i64 0, .slice none 0 0]).cells[· % (Value.agg #[.int .u8 0, .string ByteArray.empty, .int .i64 0, .int .i64 0, .slice none 0 0]).cells.size]!)) [(0, .agg (nodeCells T0 s0).toArray), (1, .agg (nodeCells T1 s1).toArray), (2, .agg (nodeCells T2 s2).toArray), (3, .agg (nodeCells T3 s3).toArray), (4, .agg (nodeCells T4 s4).toArray), (5, .agg (nodeCells T5 s5).toArray), (6, .agg (nodeCells T6 s6).toArray)] = some (nodeCells T0 s0 ++ nodeCells T1 s1 ++ nodeCells T2 s2 ++ nodeCells T3 s3 ++ nodeCells T4 s4 ++ nodeCells T5 s5 ++ nodeCells T6 s6).toArray := by
  kernel_rfl
end Go.Proofs.YtfpohaipmnjflaaGreatDoor
/- A region that draws its order, each operation with what its value is, whatever the order; its last operation a store. No condition. -/
namespace Go.Proofs.YtfpohaipmnjflaaGreatDoor
open Go.RowKit

/-- the zero node's cells -/
def zeroNode : Array Value := #[.int .u8 0, .string ⟨#[]⟩, .int .i64 0, .int .i64 0, .slice none 0 0]
/-- what an operation's value is -/
inductive RTy where
  | node (d : Nat) (T : Tree)
  | kids (d : Nat) (Ts : List Tree)
  | box
  | val (v : Value)
  | raw
def HasTy (L : Nat) (W : World) : RTy → Value → Prop
  | .node d T, v => NodeAt W W.heap.size d T v
  | .kids d Ts, v => KidsAt W W.heap.size d Ts v
  | .box, v => ∃ g, v = .pointer (some ⟨g, 0, none⟩) ∧ L ≤ g ∧ W.heap[g]? = some (.cells zeroNode 25 (0, 0))
  | .val u, v => v = u
  | .raw, _ => True
theorem HasTy.below {L : Nat} {W W' : World} {ty : RTy} {v : Value} (h : HasTy L W ty v) (hb : Below W.heap.size W W') : HasTy L W' ty v := by
  cases ty with
  | node d T => exact (NodeAt.below h hb).up hb.size
  | kids d Ts => exact (KidsAt.below hb h).up hb.size
  | box =>
    obtain ⟨g, h1, h2, h3⟩ := h
    exact ⟨g, h1, h2, heap_below hb h3 (Array.getElem?_eq_some_iff.1 h3).1⟩
  | val u => exact h
  | raw => trivial

/-- what holds while the last operation has not been carried out -/
structure TInv (l : List Oper) (a0 : Act) (w0 : World) (ty : Nat → RTy) (listed : Array Bool) (a : Act) (W : World) : Prop where
  low : Below w0.heap.size w0 W
  defers : a.defers = a0.defers
  size : a.tmps.size = a0.tmps.size
  old : ∀ t, (∀ (i : Nat) (o : Oper), l[i]? = some o → o.dst ≠ some t) → a.tmps.getD t undef = a0.tmps.getD t undef
  vals : ∀ (i : Nat) (o : Oper) (t : Tmp), l[i]? = some o → listed.getD i false = true → o.dst = some t → HasTy w0.heap.size W (ty i) (a.tmps.getD t undef)

/-- the list is in order, no guards, no slot written twice; every operation but the last writes a slot that is there -/
def tidy (l : List Oper) (slots : Nat) : Bool :=
  (List.range l.length).all fun i => match l[i]? with
    | none => true
    | some o => o.after.all (fun e => decide (e.on < i)) &&
        (decide (i + 1 = l.length) || match o.dst with
          | some t => decide (t < slots) && (List.range l.length).all (fun j => decide (j = i) || (match l[j]? with | some o' => decide (o'.dst ≠ some t) | none => true))
          | none => false)
def isTrue (y : RTy) : Bool := match y with | .val (.bool b) => b | _ => false
theorem isTrue_val {y : RTy} (h : isTrue y = true) : y = .val (.bool true) := by
  unfold isTrue at h
  split at h
  · rw [h]
  · cases h
/-- every guard waits for a value that is true -/
def guardsOk (l : List Oper) (ty : Nat → RTy) : Bool :=
  (List.range l.length).all fun i => match l[i]? with
    | none => true
    | some o => match o.guard with
      | none => true
      | some (j, want) => want && (o.after.any fun e => Region.binds .any e && decide (e.on = j)) && isTrue (ty j) && (match l[j]? with | some oj => oj.dst.isSome | none => false)
/-- the last operation waits for all others -/
def lastWaits (l : List Oper) : Bool :=
  match l[l.length - 1]? with
  | some o => (List.range (l.length - 1)).all fun i => o.after.any fun e => Region.binds .any e && decide (e.on = i)
  | none => false
theorem tidy_at {l : List Oper} {slots i : Nat} {o : Oper} (h : tidy l slots = true) (ho : l[i]? = some o) :
    (∀ e ∈ o.after, e.on < i) ∧ (i + 1 < l.length → ∃ t, o.dst = some t ∧ t < slots ∧ ∀ (j : Nat) (o' : Oper), j ≠ i → l[j]? = some o' → o'.dst ≠ some t) := by
  have hi : i < l.length := (List.getElem?_eq_some_iff.1 ho).1
  have h1 := List.all_eq_true.1 h i (List.mem_range.2 hi)
  simp only [ho, Bool.and_eq_true, Bool.or_eq_true, decide_eq_true_eq] at h1
  obtain ⟨ha, hd⟩ := h1
  refine ⟨fun e he => ?_, fun hlt => ?_⟩
  · have := Array.all_eq_true_iff_forall_mem.1 ha e he
    simpa using this
  · rcases hd with hd | hd
    · omega
    · cases hdst : o.dst with
      | none => rw [hdst] at hd; cases hd
      | some t =>
        rw [hdst] at hd
        simp only [Bool.and_eq_true, decide_eq_true_eq, List.all_eq_true, List.mem_range, Bool.or_eq_true] at hd
        refine ⟨t, rfl, hd.1, fun j o' hj ho' => ?_⟩
        have hjl : j < l.length := (List.getElem?_eq_some_iff.1 ho').1
        rcases hd.2 j hjl with h2 | h2
        · exact absurd h2 hj
        · rw [ho'] at h2; simpa using h2
theorem all_listed {l : List Oper} {slots : Nat} (h : tidy l slots = true) {listed : Array Bool} (hsz : listed.size = l.toArray.size) (hr : Region.ready .any l.toArray listed = []) : ∀ i, i < l.length → listed.getD i false = true := by
  intro i
  induction i using Nat.strongRecOn with
  | _ i ih =>
    intro hi
    cases hc : listed.getD i false with
    | true => rfl
    | false =>
      exfalso
      obtain ⟨o, ho⟩ : ∃ o, l[i]? = some o := ⟨l[i], List.getElem?_eq_getElem hi⟩
      obtain ⟨ha, _⟩ := tidy_at h ho
      have hsz' : listed.size = l.length := by simpa using hsz
      have : i ∈ Region.ready .any l.toArray listed := by
        refine mem_ready.2 ⟨?_, o, by simpa using ho, fun e he _ => ?_⟩
        · have hi2 : i < listed.size := by omega
          simp [hi2] at hc ⊢; exact hc
        · have h1 := ha e he
          exact ih e.on h1 (by omega)
      rw [hr] at this
      cases this
/-- an operation's value, whatever the frame, where those that it waits for have theirs -/
def OpTy (l : List Oper) (a0 : Act) (w0 : World) (ty : Nat → RTy) (i : Nat) (o : Oper) : Prop :=
  ∀ (a : Act) (W : World) (Q' : Exit → Act → World → Prop), Below w0.heap.size w0 W → (∀ t, (∀ (j : Nat) (o' : Oper), l[j]? = some o' → o'.dst ≠ some t) → a.tmps.getD t undef = a0.tmps.getD t undef) →
    (∀ (j : Nat) (oj : Oper) (t : Tmp), (∃ e ∈ o.after, Region.binds .any e = true ∧ e.on = j) → l[j]? = some oj → oj.dst = some t → HasTy w0.heap.size W (ty j) (a.tmps.getD t undef)) →
    o.wp Tryz.prog a W (fun a' W' => ∃ v, a' = a.put o.dst v ∧ Below W.heap.size W W' ∧ HasTy w0.heap.size W' (ty i) v) Q'
theorem getD_set_eq {tmps : Array Value} {t : Nat} {v : Value} (h : t < tmps.size) : (tmps.setIfInBounds t v).getD t undef = v := by
  simp [h]
theorem getD_set_other {tmps : Array Value} {t t' : Nat} {v : Value} (h : t ≠ t') : (tmps.setIfInBounds t v).getD t' undef = tmps.getD t' undef := by
  simp [h]
theorem getD_listed {listed : Array Bool} {i : Nat} (h : i < listed.size) : (listed.setIfInBounds i true).getD i false = true := by
  simp [h]
theorem getD_listed_other {listed : Array Bool} {i j : Nat} (h : i ≠ j) : (listed.setIfInBounds i true).getD j false = listed.getD j false := by
  simp [h]

theorem wp_region_typed {id : Nat} {Q : Exit → Act → World → Prop} {a0 : Act} {w0 : World} {l : List Oper} (hm : Tryz.prog.follows .mixedOrders = true) (ty : Nat → RTy) (slots : Nat) (hsl : a0.tmps.size = slots)
    (ht : tidy l slots = true) (hgd : guardsOk l ty = true) (hl : lastWaits l = true) (hpos : 0 < l.length)
    (hop : ∀ (i : Nat) (o : Oper), i + 1 < l.length → l[i]? = some o → OpTy l a0 w0 ty i o)
    (hlast : ∀ (o : Oper) (a : Act) (W : World), l[l.length - 1]? = some o → Below w0.heap.size w0 W → a.defers = a0.defers → a.tmps.size = a0.tmps.size →
      (∀ t, (∀ (j : Nat) (o' : Oper), l[j]? = some o' → o'.dst ≠ some t) → a.tmps.getD t undef = a0.tmps.getD t undef) →
      (∀ (i : Nat) (oi : Oper) (t : Tmp), i + 1 < l.length → l[i]? = some oi → oi.dst = some t → HasTy w0.heap.size W (ty i) (a.tmps.getD t undef)) →
      wpList Tryz.prog l.toArray Q [o] a W) :
    (Code.region id l.toArray true).wp Tryz.prog Q a0 w0 := by
  refine wp_region_inv hm (fun listed a W => if listed.getD (l.length - 1) false = true then (∀ i, i < l.length → listed.getD i false = true) ∧ Q .normal a W else TInv l a0 w0 ty listed a W) ?_ ?_ ?_
  · rw [if_neg (by rw [getD_replicate_false]; decide)]
    exact { low := (Below.refl _ w0).drew, defers := rfl, size := rfl, old := fun _ _ => rfl, vals := fun i o t _ h _ => by rw [getD_replicate_false] at h; cases h }
  · intro listed a W i hI hsz hi
    have hsz' : listed.size = l.length := by simpa using hsz
    obtain ⟨hun, o, ho, haft⟩ := mem_ready.1 hi
    have ho' : l[i]? = some o := by simpa using ho
    have hil : i < l.length := (List.getElem?_eq_some_iff.1 ho').1
    have hunf : listed.getD i false = false := by
      have : i < listed.size := by omega
      simp [this] at hun ⊢; exact hun
    obtain ⟨hlt, hdst⟩ := tidy_at ht ho'
    have hw : wpOp Tryz.prog l.toArray Q i = fun K a W => if Region.wanted o (yielded l.toArray a.tmps) = true then o.wp Tryz.prog a W K Q ∨ (o.asks Tryz.prog a W ∧ LetsOut Q) else K (a.put o.dst undef) W := by
      funext K a W; unfold wpOp; simp only [ho]
    rw [hw]
    by_cases hll : listed.getD (l.length - 1) false = true
    · rw [if_pos hll] at hI
      have := hI.1 i hil
      rw [hunf] at this; cases this
    · rw [if_neg hll] at hI
      have hwant : Region.wanted o (yielded l.toArray a.tmps) = true := by
        unfold Region.wanted
        have h1 := List.all_eq_true.1 hgd i (List.mem_range.2 hil)
        rw [ho'] at h1
        dsimp only at h1
        cases hg : o.guard with
        | none => rfl
        | some jw =>
          obtain ⟨j, want⟩ := jw
          rw [hg] at h1
          dsimp only at h1
          simp only [Bool.and_eq_true] at h1
          obtain ⟨⟨⟨hw1, hw2⟩, hw3⟩, hw4⟩ := h1
          obtain ⟨e, he, h2⟩ := Array.any_eq_true'.1 hw2
          simp only [Bool.and_eq_true, decide_eq_true_eq] at h2
          cases hj : l[j]? with
          | none => rw [hj] at hw4; cases hw4
          | some oj =>
            rw [hj] at hw4
            dsimp only at hw4
            obtain ⟨t, htd⟩ := Option.isSome_iff_exists.1 hw4
            have hlj : listed.getD j false = true := by rw [← h2.2]; exact haft e he h2.1
            have hv := hI.vals j oj t hj hlj htd
            rw [isTrue_val hw3] at hv
            have hv' : a.tmps.getD t undef = .bool true := hv
            have hy : yielded l.toArray a.tmps j = some true := by
              unfold yielded
              have hts : t < a.tmps.size := by
                rcases Nat.lt_or_ge t a.tmps.size with h | h
                · exact h
                · simp [Array.getElem?_eq_none h] at hv'
                  cases hv'
              have h3 : a.tmps[t]? = some (.bool true) := by
                simp [hts] at hv' ⊢; exact hv'
              simp [hj, htd, h3]
            rw [hw1]
            show (yielded l.toArray a.tmps j == some true) = true
            rw [hy]; rfl
      show (if Region.wanted o (yielded l.toArray a.tmps) = true then _ else _)
      rw [if_pos hwant]
      by_cases hlst : i = l.length - 1
      · subst hlst
        have hall : ∀ j, j < l.length - 1 → listed.getD j false = true := by
          intro j hj
          unfold lastWaits at hl
          rw [ho'] at hl
          simp only [List.all_eq_true, List.mem_range] at hl
          have h1 := hl j hj
          obtain ⟨e, he, h2⟩ := Array.any_eq_true'.1 h1
          simp only [Bool.and_eq_true, decide_eq_true_eq] at h2
          rw [← h2.2]
          exact haft e he h2.1
        have hL := hlast o a W ho' hI.low hI.defers hI.size hI.old (fun j oj t hj hoj hd => hI.vals j oj t hoj (hall j (by omega)) hd)
        unfold wpList at hL
        rw [if_pos hwant] at hL
        refine hL.imp (Oper.wp_mono (fun a' W' hq => ?_)) (fun h => h)
        rw [if_pos (getD_listed (by omega))]
        refine ⟨fun j hj => ?_, hq⟩
        by_cases hjl : j = l.length - 1
        · subst hjl; exact getD_listed (by omega)
        · rw [getD_listed_other (fun e => hjl e.symm)]
          exact hall j (by omega)
      · left
        have hi1 : i + 1 < l.length := by omega
        obtain ⟨t, hdt, htl, hdis⟩ := hdst hi1
        refine Oper.wp_mono (fun a' W' hq => ?_) (hop i o hi1 ho' a W Q hI.low hI.old (fun j oj t' hj hoj hd => hI.vals j oj t' hoj (by
          obtain ⟨e, he, h1, h2⟩ := hj
          rw [← h2]
          exact haft e he h1) hd))
        obtain ⟨v, rfl, hb, hty⟩ := hq
        rw [if_neg (by rw [getD_listed_other hlst]; exact hll)]
        have hput : (a.put o.dst v).tmps = a.tmps.setIfInBounds t v := by rw [hdt]; rfl
        have hts : t < a.tmps.size := by rw [hI.size, hsl]; exact htl
        refine { low := hI.low.trans (hb.mono hI.low.size), defers := ?_, size := ?_, old := fun t' h => ?_, vals := fun j oj t' hoj hlj hd => ?_ }
        · rw [hdt]; exact hI.defers
        · rw [hput, Array.size_setIfInBounds]; exact hI.size
        · have hne : t ≠ t' := fun e => h i o ho' (by rw [hdt, e])
          rw [hput, getD_set_other hne]
          exact hI.old t' h
        · by_cases hji : j = i
          · subst hji
            rw [ho'] at hoj
            injection hoj with hoj
            subst hoj
            rw [hdt] at hd
            injection hd with hd
            subst hd
            rw [hput, getD_set_eq hts]
            exact hty
          · rw [getD_listed_other (fun e => hji e.symm)] at hlj
            have hne : t ≠ t' := fun e => hdis j oj hji hoj (by rw [hd, e])
            rw [hput, getD_set_other hne]
            exact (hI.vals j oj t' hoj hlj hd).below hb
  · intro listed a W hI hsz hr
    have hall := all_listed ht hsz hr
    rw [if_pos (hall _ (by omega))] at hI
    exact hI.2
end Go.Proofs.YtfpohaipmnjflaaGreatDoor
/- What the statements' own nodes' operations are: of, num, program, a slice of nodes, a load, a new box. No condition. -/
namespace Go.Proofs.YtfpohaipmnjflaaGreatDoor
open Go.RowKit

section
variable {l : List Oper} {a0 : Act} {w0 : World} {ty : Nat → RTy} {i : Nat} {o : Oper}
/-- an operand that an operation waits for, and what it is -/
def Waits (l : List Oper) (o : Oper) (ty : Nat → RTy) (x : Operand) (y : RTy) : Prop :=
  ∃ (j : Nat) (oj : Oper) (t : Tmp), x = .tmp t ∧ (o.after.any fun e => Region.binds .any e && e.on == j) = true ∧ l[j]? = some oj ∧ oj.dst = some t ∧ ty j = y
def KidsOp (l : List Oper) (o : Oper) (ty : Nat → RTy) (x : Operand) (d : Nat) (Ts : List Tree) : Prop := (x = .const (.slice none 0 0) ∧ Ts = []) ∨ Waits l o ty x (.kids d Ts)
theorem Waits.has {x : Operand} {y : RTy} {L : Nat} {a : Act} {W : World} (h : Waits l o ty x y)
    (hv : ∀ (j : Nat) (oj : Oper) (t : Tmp), (∃ e ∈ o.after, Region.binds .any e = true ∧ e.on = j) → l[j]? = some oj → oj.dst = some t → HasTy L W (ty j) (a.tmps.getD t undef)) : HasTy L W y (a.eval x) := by
  obtain ⟨j, oj, t, rfl, hw, hj, hd, rfl⟩ := h
  obtain ⟨e, he, h1⟩ := Array.any_eq_true'.1 hw
  simp only [Bool.and_eq_true, beq_iff_eq] at h1
  exact hv j oj t ⟨e, he, h1⟩ hj hd
theorem KidsOp.has {x : Operand} {d : Nat} {Ts : List Tree} {L : Nat} {a : Act} {W : World} (h : KidsOp l o ty x d Ts)
    (hv : ∀ (j : Nat) (oj : Oper) (t : Tmp), (∃ e ∈ o.after, Region.binds .any e = true ∧ e.on = j) → l[j]? = some oj → oj.dst = some t → HasTy L W (ty j) (a.tmps.getD t undef)) : KidsAt W W.heap.size d Ts (a.eval x) := by
  rcases h with ⟨rfl, rfl⟩ | h
  · exact KidsAt.nil _ _ _
  · exact h.has hv
theorem fits_lit (k : Nat) (t : ByteArray) (Ts : List Tree) (h : (decide (k < 256) && decide (t.size ≤ 1000)) = true) : Fits (.mk k t 0 0 Ts) := by
  simp only [Bool.and_eq_true, decide_eq_true_eq] at h
  exact ⟨h.1, by have := h.2; show t.size ≤ maxLen; unfold maxLen; omega, by show -9223372036854775808 ≤ (0 : Int); omega, by show (0 : Int) < _; omega, by show -9223372036854775808 ≤ (0 : Int); omega, by show (0 : Int) < _; omega⟩
theorem opTy_of (k : Nat) (t : ByteArray) (x : Operand) (tys : Array TypeId) (d : Nat) (Ts : List Tree) (ho : o.op = .call { callee := .value (.func 13), args := #[.const (.int .u8 k), .const (.string t), x], argTypes := tys })
    (hx : KidsOp l o ty x d Ts) (hf : (decide (k < 256) && decide (t.size ≤ 1000)) = true) (hty : ty i = .node d (.mk k t 0 0 Ts)) : OpTy l a0 w0 ty i o := by
  intro a W Q' _ _ hv
  have hk := hx.has hv
  obtain ⟨p, n, c, hs⟩ := hk.shape
  rw [hs] at hk
  refine step_call 13 _ tys ho #[.int .u8 k, .string t, .slice p n c] (by rw [← hs]; simp [Act.eval]) (enters_of Tryz.func13 (by kernel_rfl) rfl) ?_
  refine (lawOf_any k t p n c W).mono ?_
  rintro e W' ⟨rfl, hb⟩
  refine ⟨_, rfl, _, rfl, hb, ?_⟩
  rw [hty]
  exact ⟨fits_lit k t Ts hf, _, rfl, (hk.below hb).up hb.size⟩
theorem opTy_num (t : ByteArray) (tys : Array TypeId) (d : Nat) (ho : o.op = .call { callee := .value (.func 12), args := #[.const (.string t)], argTypes := tys })
    (hf : (decide ((14 : Nat) < 256) && decide (t.size ≤ 1000)) = true) (hty : ty i = .node d (.mk 14 t 0 0 [])) : OpTy l a0 w0 ty i o := by
  intro a W Q' _ _ hv
  refine step_call 12 _ tys ho #[.string t] (by simp [Act.eval]) (enters_of Tryz.func12 (by kernel_rfl) rfl) ?_
  refine (lawNum_any t W).mono ?_
  rintro e W' ⟨rfl, hb⟩
  refine ⟨_, rfl, _, rfl, hb, ?_⟩
  rw [hty]
  exact ⟨fits_lit 14 t [] hf, _, rfl, KidsAt.nil _ _ _⟩
theorem opTy_prog (x : Operand) (tys : Array TypeId) (d : Nat) (Ts : List Tree) (ho : o.op = .call { callee := .value (.func 14), args := #[x], argTypes := tys })
    (hx : KidsOp l o ty x d Ts) (hty : ty i = .node d (.mk 1 ⟨#[]⟩ 0 0 Ts)) : OpTy l a0 w0 ty i o := by
  intro a W Q' _ _ hv
  have hk := hx.has hv
  obtain ⟨p, n, c, hs⟩ := hk.shape
  rw [hs] at hk
  refine step_call 14 _ tys ho #[.slice p n c] (by rw [← hs]; simp [Act.eval]) (enters_of Tryz.func14 (by kernel_rfl) rfl) ?_
  refine (lawProg_any p n c W).mono ?_
  rintro e W' ⟨rfl, hb⟩
  refine ⟨_, rfl, _, rfl, hb, ?_⟩
  rw [hty]
  exact ⟨fits_lit 1 ⟨#[]⟩ Ts rfl, _, rfl, (hk.below hb).up hb.size⟩
/-- nodes' operands, one behind the other -/
def NodeOps (l : List Oper) (o : Oper) (ty : Nat → RTy) (d : Nat) : List Operand → List Tree → Prop
  | [], [] => True
  | x :: xs, T :: Ts => (∃ d', d' ≤ d ∧ Waits l o ty x (.node d' T)) ∧ NodeOps l o ty d xs Ts
  | _, _ => False
theorem NodeOps.has {d L : Nat} {a : Act} {W : World} (hv : ∀ (j : Nat) (oj : Oper) (t : Tmp), (∃ e ∈ o.after, Region.binds .any e = true ∧ e.on = j) → l[j]? = some oj → oj.dst = some t → HasTy L W (ty j) (a.tmps.getD t undef)) :
    ∀ (xs : List Operand) (Ts : List Tree), NodeOps l o ty d xs Ts → ∃ ss : List Value, ss.length = Ts.length ∧ xs.map a.eval = (Ts.zip ss).map (fun x => Value.agg (nodeCells x.1 x.2).toArray) ∧
      ∀ (i : Nat) (T : Tree) (s : Value), Ts[i]? = some T → ss[i]? = some s → Fits T ∧ KidsAt W W.heap.size d T.kids s := by
  intro xs
  induction xs with
  | nil =>
    intro Ts h
    cases Ts with
    | nil => exact ⟨[], rfl, rfl, fun i T s h => by simp at h⟩
    | cons T Ts => exact h.elim
  | cons x xs ih =>
    intro Ts h
    cases Ts with
    | nil => exact h.elim
    | cons T Ts =>
      obtain ⟨⟨d', hd, hw⟩, hr⟩ := h
      obtain ⟨ss, h1, h2, h3⟩ := ih Ts hr
      obtain ⟨hf, s, hs, hk⟩ := hw.has hv
      refine ⟨s :: ss, by simp [h1], ?_, fun i T' s' hT hs' => ?_⟩
      · rw [List.map_cons, List.zip_cons_cons, List.map_cons, h2, hs]
        rfl
      · cases i with
        | zero =>
          simp only [List.getElem?_cons_zero, Option.some.injEq] at hT hs'
          subst hT; subst hs'
          exact ⟨hf, hk.deeper hd⟩
        | succ i =>
          rw [List.getElem?_cons_succ] at hT hs'
          exact h3 i T' s' hT hs'
end
end Go.Proofs.YtfpohaipmnjflaaGreatDoor
/- What the statements' own nodes' operations are: a slice of nodes, a load, a new box. No condition. -/
namespace Go.Proofs.YtfpohaipmnjflaaGreatDoor
open Go.RowKit

section
variable {l : List Oper} {a0 : Act} {w0 : World} {ty : Nat → RTy} {i : Nat} {o : Oper}
theorem opTy_build1 (x0 : Operand) (T0 : Tree) (d : Nat) (ho : o.op = .buildSlice 23 1 #[(0, x0)])
    (h : NodeOps l o ty d [x0] [T0]) (hty : ty i = .kids (d + 1) [T0]) : OpTy l a0 w0 ty i o := by
  intro a W Q' _ _ hv
  obtain ⟨ss, h1, h2, h3⟩ := NodeOps.has hv _ _ h
  match ss, h1 with
  | [s0], _ =>
    obtain ⟨i0, hi0, hz0, hz1, hz2⟩ := info_parts infoNode
    have hp : (#[(0, x0)].map fun (x : Nat × Operand) => (x.1, a.eval x.2)).toList = [(0, .agg (nodeCells T0 s0).toArray)] := by
      simp only [List.map_cons, List.map_nil, List.zip_cons_cons, List.zip_nil_left, List.cons.injEq] at h2
      obtain ⟨e0, _⟩ := h2
      simp [e0]
    refine wp_buildSlice 23 25 1 _ ho (nodeCells T0 s0).toArray i0 _ Tryz.underlying23 hi0 hz0 (by rw [hz1]; decide) (by rw [hz1]; decide) ?_ ⟨_, rfl, (Below.refl _ W).alloc (Nat.le_refl _) _, ?_⟩
    · rw [hz1]
      exact (congrArg _ hp).trans (fill_1 T0 s0)
    · rw [hty]
      have := kids_lit W d [T0] [s0] rfl (by simp) (nodeCells T0 s0).toArray (by simp) 1 rfl h3
      show KidsAt _ _ _ _ _
      rw [World.size_alloc]
      exact this
theorem opTy_build2 (x0 x1 : Operand) (T0 T1 : Tree) (d : Nat) (ho : o.op = .buildSlice 23 2 #[(0, x0), (1, x1)])
    (h : NodeOps l o ty d [x0, x1] [T0, T1]) (hty : ty i = .kids (d + 1) [T0, T1]) : OpTy l a0 w0 ty i o := by
  intro a W Q' _ _ hv
  obtain ⟨ss, h1, h2, h3⟩ := NodeOps.has hv _ _ h
  match ss, h1 with
  | [s0, s1], _ =>
    obtain ⟨i0, hi0, hz0, hz1, hz2⟩ := info_parts infoNode
    have hp : (#[(0, x0), (1, x1)].map fun (x : Nat × Operand) => (x.1, a.eval x.2)).toList = [(0, .agg (nodeCells T0 s0).toArray), (1, .agg (nodeCells T1 s1).toArray)] := by
      simp only [List.map_cons, List.map_nil, List.zip_cons_cons, List.zip_nil_left, List.cons.injEq] at h2
      obtain ⟨e0, e1, _⟩ := h2
      simp [e0, e1]
    refine wp_buildSlice 23 25 2 _ ho (nodeCells T0 s0 ++ nodeCells T1 s1).toArray i0 _ Tryz.underlying23 hi0 hz0 (by rw [hz1]; decide) (by rw [hz1]; decide) ?_ ⟨_, rfl, (Below.refl _ W).alloc (Nat.le_refl _) _, ?_⟩
    · rw [hz1]
      exact (congrArg _ hp).trans (fill_2 T0 T1 s0 s1)
    · rw [hty]
      have := kids_lit W d [T0, T1] [s0, s1] rfl (by simp) (nodeCells T0 s0 ++ nodeCells T1 s1).toArray (by simp) 2 rfl h3
      show KidsAt _ _ _ _ _
      rw [World.size_alloc]
      exact this
theorem opTy_build3 (x0 x1 x2 : Operand) (T0 T1 T2 : Tree) (d : Nat) (ho : o.op = .buildSlice 23 3 #[(0, x0), (1, x1), (2, x2)])
    (h : NodeOps l o ty d [x0, x1, x2] [T0, T1, T2]) (hty : ty i = .kids (d + 1) [T0, T1, T2]) : OpTy l a0 w0 ty i o := by
  intro a W Q' _ _ hv
  obtain ⟨ss, h1, h2, h3⟩ := NodeOps.has hv _ _ h
  match ss, h1 with
  | [s0, s1, s2], _ =>
    obtain ⟨i0, hi0, hz0, hz1, hz2⟩ := info_parts infoNode
    have hp : (#[(0, x0), (1, x1), (2, x2)].map fun (x : Nat × Operand) => (x.1, a.eval x.2)).toList = [(0, .agg (nodeCells T0 s0).toArray), (1, .agg (nodeCells T1 s1).toArray), (2, .agg (nodeCells T2 s2).toArray)] := by
      simp only [List.map_cons, List.map_nil, List.zip_cons_cons, List.zip_nil_left, List.cons.injEq] at h2
      obtain ⟨e0, e1, e2, _⟩ := h2
      simp [e0, e1, e2]
    refine wp_buildSlice 23 25 3 _ ho (nodeCells T0 s0 ++ nodeCells T1 s1 ++ nodeCells T2 s2).toArray i0 _ Tryz.underlying23 hi0 hz0 (by rw [hz1]; decide) (by rw [hz1]; decide) ?_ ⟨_, rfl, (Below.refl _ W).alloc (Nat.le_refl _) _, ?_⟩
    · rw [hz1]
      exact (congrArg _ hp).trans (fill_3 T0 T1 T2 s0 s1 s2)
    · rw [hty]
      have := kids_lit W d [T0, T1, T2] [s0, s1, s2] rfl (by simp) (nodeCells T0 s0 ++ nodeCells T1 s1 ++ nodeCells T2 s2).toArray (by simp) 3 rfl h3
      show KidsAt _ _ _ _ _
      rw [World.size_alloc]
      exact this
theorem opTy_build4 (x0 x1 x2 x3 : Operand) (T0 T1 T2 T3 : Tree) (d : Nat) (ho : o.op = .buildSlice 23 4 #[(0, x0), (1, x1), (2, x2), (3, x3)])
    (h : NodeOps l o ty d [x0, x1, x2, x3] [T0, T1, T2, T3]) (hty : ty i = .kids (d + 1) [T0, T1, T2, T3]) : OpTy l a0 w0 ty i o := by
  intro a W Q' _ _ hv
  obtain ⟨ss, h1, h2, h3⟩ := NodeOps.has hv _ _ h
  match ss, h1 with
  | [s0, s1, s2, s3], _ =>
    obtain ⟨i0, hi0, hz0, hz1, hz2⟩ := info_parts infoNode
    have hp : (#[(0, x0), (1, x1), (2, x2), (3, x3)].map fun (x : Nat × Operand) => (x.1, a.eval x.2)).toList = [(0, .agg (nodeCells T0 s0).toArray), (1, .agg (nodeCells T1 s1).toArray), (2, .agg (nodeCells T2 s2).toArray), (3, .agg (nodeCells T3 s3).toArray)] := by
      simp only [List.map_cons, List.map_nil, List.zip_cons_cons, List.zip_nil_left, List.cons.injEq] at h2
      obtain ⟨e0, e1, e2, e3, _⟩ := h2
      simp [e0, e1, e2, e3]
    refine wp_buildSlice 23 25 4 _ ho (nodeCells T0 s0 ++ nodeCells T1 s1 ++ nodeCells T2 s2 ++ nodeCells T3 s3).toArray i0 _ Tryz.underlying23 hi0 hz0 (by rw [hz1]; decide) (by rw [hz1]; decide) ?_ ⟨_, rfl, (Below.refl _ W).alloc (Nat.le_refl _) _, ?_⟩
    · rw [hz1]
      exact (congrArg _ hp).trans (fill_4 T0 T1 T2 T3 s0 s1 s2 s3)
    · rw [hty]
      have := kids_lit W d [T0, T1, T2, T3] [s0, s1, s2, s3] rfl (by simp) (nodeCells T0 s0 ++ nodeCells T1 s1 ++ nodeCells T2 s2 ++ nodeCells T3 s3).toArray (by simp) 4 rfl h3
      show KidsAt _ _ _ _ _
      rw [World.size_alloc]
      exact this
theorem opTy_build7 (x0 x1 x2 x3 x4 x5 x6 : Operand) (T0 T1 T2 T3 T4 T5 T6 : Tree) (d : Nat) (ho : o.op = .buildSlice 23 7 #[(0, x0), (1, x1), (2, x2), (3, x3), (4, x4), (5, x5), (6, x6)])
    (h : NodeOps l o ty d [x0, x1, x2, x3, x4, x5, x6] [T0, T1, T2, T3, T4, T5, T6]) (hty : ty i = .kids (d + 1) [T0, T1, T2, T3, T4, T5, T6]) : OpTy l a0 w0 ty i o := by
  intro a W Q' _ _ hv
  obtain ⟨ss, h1, h2, h3⟩ := NodeOps.has hv _ _ h
  match ss, h1 with
  | [s0, s1, s2, s3, s4, s5, s6], _ =>
    obtain ⟨i0, hi0, hz0, hz1, hz2⟩ := info_parts infoNode
    have hp : (#[(0, x0), (1, x1), (2, x2), (3, x3), (4, x4), (5, x5), (6, x6)].map fun (x : Nat × Operand) => (x.1, a.eval x.2)).toList = [(0, .agg (nodeCells T0 s0).toArray), (1, .agg (nodeCells T1 s1).toArray), (2, .agg (nodeCells T2 s2).toArray), (3, .agg (nodeCells T3 s3).toArray), (4, .agg (nodeCells T4 s4).toArray), (5, .agg (nodeCells T5 s5).toArray), (6, .agg (nodeCells T6 s6).toArray)] := by
      simp only [List.map_cons, List.map_nil, List.zip_cons_cons, List.zip_nil_left, List.cons.injEq] at h2
      obtain ⟨e0, e1, e2, e3, e4, e5, e6, _⟩ := h2
      simp [e0, e1, e2, e3, e4, e5, e6]
    refine wp_buildSlice 23 25 7 _ ho (nodeCells T0 s0 ++ nodeCells T1 s1 ++ nodeCells T2 s2 ++ nodeCells T3 s3 ++ nodeCells T4 s4 ++ nodeCells T5 s5 ++ nodeCells T6 s6).toArray i0 _ Tryz.underlying23 hi0 hz0 (by rw [hz1]; decide) (by rw [hz1]; decide) ?_ ⟨_, rfl, (Below.refl _ W).alloc (Nat.le_refl _) _, ?_⟩
    · rw [hz1]
      exact (congrArg _ hp).trans (fill_7 T0 T1 T2 T3 T4 T5 T6 s0 s1 s2 s3 s4 s5 s6)
    · rw [hty]
      have := kids_lit W d [T0, T1, T2, T3, T4, T5, T6] [s0, s1, s2, s3, s4, s5, s6] rfl (by simp) (nodeCells T0 s0 ++ nodeCells T1 s1 ++ nodeCells T2 s2 ++ nodeCells T3 s3 ++ nodeCells T4 s4 ++ nodeCells T5 s5 ++ nodeCells T6 s6).toArray (by simp) 7 rfl h3
      show KidsAt _ _ _ _ _
      rw [World.size_alloc]
      exact this
/-- a load of a box that was there -/
theorem opTy_load (t g d : Nat) (T : Tree) (s : Value) (ho : o.op = .load 25 (.tmp t)) (hold : (l.all fun o' => decide (o'.dst ≠ some t)) = true) (hp : a0.tmps.getD t undef = .pointer (some ⟨g, 0, none⟩))
    (hg : w0.heap[g]? = some (.cells (nodeCells T s).toArray 25 (0, 0))) (hn : NodeAt w0 w0.heap.size d T (.agg (nodeCells T s).toArray)) (hty : ty i = .node d T) : OpTy l a0 w0 ty i o := by
  intro a W Q' hb hold' _
  have hx : a.eval (.tmp t) = .pointer (some ⟨g, 0, none⟩) := by
    show a.tmps.getD t undef = _
    rw [hold' t (fun j o' hj => by
      have := List.all_eq_true.1 hold o' (List.mem_of_getElem? hj)
      simpa using this), hp]
  refine wp_load_row 25 _ ho g hx 25 (nodeCells T s).toArray (0, 0) _ (heap_below hb hg (Array.getElem?_eq_some_iff.1 hg).1) Tryz.underlying25 rfl (by kernel_rfl) ⟨_, rfl, Below.refl _ _, ?_⟩
  rw [hty]
  exact (hn.below hb).up hb.size
theorem run_newNode (W : World) : (Instr.alloc 25 true (.tuple #[])).run Tryz.prog W = .ok (.pointer (some ⟨W.heap.size, 0, none⟩)) (W.alloc (.cells zeroNode 25)) := by kernel_rfl
theorem opTy_alloc (ho : o.op = .alloc 25) (hty : ty i = .box) : OpTy l a0 w0 ty i o := by
  intro a W Q' hb _ _
  unfold Oper.wp execOp
  simp only [ho, Sem.run_bind, run_newNode, Result.andThen_ok, Sem.run_pure, Oper.upon_value]
  refine ⟨_, rfl, (Below.refl _ W).alloc (Nat.le_refl _) _, ?_⟩
  rw [hty]
  exact ⟨_, rfl, hb.size, heap_alloc_new W _⟩
/-- every operation but the last -/
def allOps (l : List Oper) (a0 : Act) (w0 : World) (ty : Nat → RTy) : Nat → List Oper → Prop
  | _, [] => True
  | _, [_] => True
  | i, o :: o' :: r => OpTy l a0 w0 ty i o ∧ allOps l a0 w0 ty (i + 1) (o' :: r)
theorem allOps_cons {o o' : Oper} {r : List Oper} (h1 : OpTy l a0 w0 ty i o) (h2 : allOps l a0 w0 ty (i + 1) (o' :: r)) : allOps l a0 w0 ty i (o :: o' :: r) := ⟨h1, h2⟩
theorem allOps_one {o : Oper} : allOps l a0 w0 ty i [o] := trivial
theorem allOps_at : ∀ (r : List Oper) (k : Nat), allOps l a0 w0 ty k r → ∀ (i : Nat) (o : Oper), i + 1 < r.length → r[i]? = some o → OpTy l a0 w0 ty (k + i) o := by
  intro r
  induction r with
  | nil => intro k _ i o h _; simp at h
  | cons x r ih =>
    intro k h i o hi ho
    cases r with
    | nil => simp at hi
    | cons y r =>
      obtain ⟨h1, h2⟩ := h
      cases i with
      | zero =>
        simp only [List.getElem?_cons_zero, Option.some.injEq] at ho
        subst ho
        exact h1
      | succ i =>
        rw [List.getElem?_cons_succ] at ho
        have := ih (k + 1) h2 i o (by simp at hi ⊢; omega) ho
        rw [show k + (i + 1) = k + 1 + i by omega]
        exact this
theorem hop_list (h : allOps l a0 w0 ty 0 l) : ∀ (i : Nat) (o : Oper), i + 1 < l.length → l[i]? = some o → OpTy l a0 w0 ty i o := fun i o hi ho => by
  have := allOps_at l 0 h i o hi ho
  rwa [Nat.zero_add] at this
end
end Go.Proofs.YtfpohaipmnjflaaGreatDoor
/- A box that held the zero node, stored into: trees read as they read. Condition: no kind is 0. -/
namespace Go.Proofs.YtfpohaipmnjflaaGreatDoor
open Go.RowKit

def kindsB : Nat → List Tree → Bool
  | 0, _ => true
  | d + 1, ks => ks.all fun t => t.kind != 0 && kindsB d t.kids
theorem zero_cell {W : World} {g o k : Nat} (hz : W.heap[g]? = some (.cells zeroNode 25 (0, 0))) (hc : W.cell? ⟨g, o, none⟩ = some (.int .u8 (k : Int))) : k = 0 := by
  rw [cell_of_row _ _ _ _ _ _ hz] at hc
  match o with
  | 0 =>
    have : (Value.int .u8 0) = .int .u8 (k : Int) := by simpa [zeroNode] using hc
    injection this with _ h
    omega
  | 1 => simp [zeroNode] at hc
  | 2 => simp [zeroNode] at hc
  | 3 => simp [zeroNode] at hc
  | 4 => simp [zeroNode] at hc
  | o + 5 => simp [zeroNode] at hc
theorem KidsAt.stored {W W' : World} {g B : Nat} (hz : W.heap[g]? = some (.cells zeroNode 25 (0, 0))) (hk : ∀ b, b ≠ g → W'.heap[b]? = W.heap[b]?) : ∀ {d : Nat} {ks : List Tree} {s : Value}, kindsB d ks = true → KidsAt W B d ks s → KidsAt W' B d ks s := by
  intro d
  induction d with
  | zero => intro ks s _ h; exact h
  | succ d ih =>
    intro ks s hkb h
    rcases h with h | ⟨b, off, cap, h1, h2, h3, h4, h5, h6⟩
    · exact Or.inl h
    · have hbg : b ≠ g := by
        intro e
        subst e
        cases ks with
        | nil => exact h1 rfl
        | cons T ks =>
          obtain ⟨_, _, c0, _⟩ := h6 0 T rfl
          have := zero_cell hz c0
          unfold kindsB at hkb
          simp [this] at hkb
      have e : ∀ j, W'.cell? ⟨b, j, none⟩ = W.cell? ⟨b, j, none⟩ := fun j => World.cell?_of_block (hk b hbg)
      refine Or.inr ⟨b, off, cap, h1, h2, h3, h4, h5, fun i T hT => ?_⟩
      obtain ⟨hf, s', c0, c1, c2, c3, c4, hkk⟩ := h6 i T hT
      have hkT : kindsB d T.kids = true := by
        unfold kindsB at hkb
        have := List.all_eq_true.1 hkb T (List.mem_of_getElem? hT)
        rw [Bool.and_eq_true] at this
        exact this.2
      exact ⟨hf, s', (e _).trans c0, (e _).trans c1, (e _).trans c2, (e _).trans c3, (e _).trans c4, ih hkT hkk⟩
/-- the five stores -/
def storeNode (W : World) (g : Nat) (a b c d e : Value) : World := ((((W.setCell ⟨g, 0, none⟩ a).setCell ⟨g, 1, none⟩ b).setCell ⟨g, 2, none⟩ c).setCell ⟨g, 3, none⟩ d).setCell ⟨g, 4, none⟩ e
theorem storeNode_at {W : World} {g : Nat} (hz : W.heap[g]? = some (.cells zeroNode 25 (0, 0))) (a b c d e : Value) : (storeNode W g a b c d e).heap[g]? = some (.cells #[a, b, c, d, e] 25 (0, 0)) := by
  have := heap_set (heap_set (heap_set (heap_set (heap_set hz 0 a) 1 b) 2 c) 3 d) 4 e
  exact this
theorem storeNode_other {W : World} {g : Nat} (a b c d e : Value) (k : Nat) (h : k ≠ g) : (storeNode W g a b c d e).heap[k]? = W.heap[k]? := by
  have hh : ∀ (V : World) (i : Nat) (u : Value), (V.setCell ⟨g, i, none⟩ u).heap[k]? = V.heap[k]? := fun V i u => Below.heap_setCell V ⟨g, i, none⟩ u k h
  unfold storeNode
  rw [hh, hh, hh, hh, hh]
theorem storeNode_size {W : World} {g : Nat} (a b c d e : Value) : (storeNode W g a b c d e).heap.size = W.heap.size := by
  simp [storeNode, World.setCell]
theorem storeNode_below {B : Nat} {w W : World} {g : Nat} (hb : Below B w W) (hg : B ≤ g) (a b c d e : Value) : Below B w (storeNode W g a b c d e) :=
  ((((hb.setCell hg a).setCell hg b).setCell hg c).setCell hg d).setCell hg e
end Go.Proofs.YtfpohaipmnjflaaGreatDoor
