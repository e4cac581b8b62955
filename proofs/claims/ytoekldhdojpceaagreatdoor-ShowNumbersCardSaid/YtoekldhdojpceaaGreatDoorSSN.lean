/- Several texts joined, each with its own sentence and conditions ahead of it: ShNumA, LawShNum. -/
import Derived.Test.YtoekldhdojpceaaGreatDoorSSL
import Derived.Test.YtoekldhdojpceaaGreatDoorST
import Derived.Test.YtoekldhdojpceaaGreatDoorSP
import Derived.Test.YtoekldhdojpceaaGreatDoorSF
/- ShowNumbers: the nodes that it builds, told as some tree; by contract. Condition: the library's tables lie as laid. -/
namespace Go.Proofs.YtoekldhdojpceaaGreatDoor
open Go.RowKit

/-- no node without a kind, however deep -/
def KOk (ks : List Tree) : Prop := ∀ e, kindsB e ks = true
theorem KOk.nil : KOk [] := fun e => by cases e <;> rfl
theorem KOk.cons {k : Nat} {t : ByteArray} {a b : Int} {ks l : List Tree} (hk : (k != 0) = true) (h : KOk ks) (hl : KOk l) : KOk (.mk k t a b ks :: l) := fun e => by
  cases e with
  | zero => rfl
  | succ e =>
    have h1 := hl (e + 1)
    unfold kindsB at h1 ⊢
    rw [List.all_cons, h1, Bool.and_true]
    show (k != 0 && kindsB e ks) = true
    rw [hk, h e]; rfl
theorem KOk.two {T U : Tree} (h : KOk [T]) (k : KOk [U]) : KOk [T, U] := fun e => by
  cases e with
  | zero => rfl
  | succ e =>
    have h1 := h (e + 1)
    have h2 := k (e + 1)
    unfold kindsB at h1 h2 ⊢
    simp only [List.all_cons, List.all_nil, Bool.and_true] at h1 h2 ⊢
    rw [h1, h2]; rfl
theorem KOk.of_all {ks : List Tree} (h : ∀ T ∈ ks, KOk [T]) : KOk ks := fun e => by
  cases e with
  | zero => rfl
  | succ e =>
    unfold kindsB
    refine List.all_eq_true.2 fun T hT => ?_
    have := h T hT (e + 1)
    unfold kindsB at this
    simpa using this
/-- some tree's node -/
def SomeN (W : World) (v : Value) : Prop := ∃ d T, NodeAt W W.heap.size d T v ∧ KOk [T]
/-- some trees' row -/
def SomeK (W : World) (v : Value) : Prop := ∃ d Ts, KidsAt W W.heap.size d Ts v ∧ KOk Ts
theorem SomeN.below {W W' : World} {v : Value} (h : SomeN W v) (hb : Below W.heap.size W W') : SomeN W' v := by
  obtain ⟨d, T, h1, h2⟩ := h
  exact ⟨d, T, (NodeAt.below h1 hb).up hb.size, h2⟩
theorem SomeK.below {W W' : World} {v : Value} (h : SomeK W v) (hb : Below W.heap.size W W') : SomeK W' v := by
  obtain ⟨d, T, h1, h2⟩ := h
  exact ⟨d, T, (KidsAt.below hb h1).up hb.size, h2⟩
theorem SomeK.nil (W : World) : SomeK W (.slice none 0 0) := ⟨0, [], KidsAt.nil _ _ _, KOk.nil⟩
/-- a row of nodes, just made -/
theorem some_list {W : World} : ∀ cs : List (List Value), (∀ c ∈ cs, SomeN W (.agg c.toArray)) → ∃ (d : Nat) (Ts : List Tree) (ss : List Value), ss.length = Ts.length ∧ Ts.length = cs.length ∧ cs = ((Ts.zip ss).map fun x => nodeCells x.1 x.2) ∧
    (∀ (i : Nat) (T : Tree) (s : Value), Ts[i]? = some T → ss[i]? = some s → Fits T ∧ KidsAt W W.heap.size d T.kids s) ∧ ∀ T ∈ Ts, KOk [T]
  | [], _ => ⟨0, [], [], rfl, rfl, rfl, fun i T s h => by simp at h, fun T h => by cases h⟩
  | c :: cs, h => by
    obtain ⟨d, Ts, ss, h1, h2, h3, h4, h5⟩ := some_list cs (fun c hc => h c (List.mem_cons_of_mem _ hc))
    obtain ⟨d0, T, ⟨hf, s, hv, hk⟩, hok⟩ := h c List.mem_cons_self
    have e : c = nodeCells T s := by
      injection hv with hv
      have := congrArg Array.toList hv
      simpa [nodeCells] using this
    refine ⟨max d d0, T :: Ts, s :: ss, by simp [h1], by simp [h2], ?_, fun i T' s' hT hs => ?_, fun T' hT => ?_⟩
    · rw [List.zip_cons_cons, List.map_cons, ← h3, e]
    · cases i with
      | zero =>
        simp only [List.getElem?_cons_zero, Option.some.injEq] at hT hs
        subst hT; subst hs
        exact ⟨hf, hk.deeper (Nat.le_max_right _ _)⟩
      | succ i =>
        rw [List.getElem?_cons_succ] at hT hs
        obtain ⟨a, b⟩ := h4 i T' s' hT hs
        exact ⟨a, b.deeper (Nat.le_max_left _ _)⟩
    · rcases List.mem_cons.1 hT with rfl | hT
      · exact hok
      · exact h5 T' hT
theorem some_row {W : World} (cs : List (List Value)) (h : ∀ c ∈ cs, SomeN W (.agg c.toArray)) (h1 : cs.length ≤ 100) : SomeK (W.alloc (.cells cs.flatten.toArray 25)) (.slice (some ⟨W.heap.size, 0, none⟩) cs.length cs.length) := by
  obtain ⟨d, Ts, ss, e1, e2, e3, e4, e5⟩ := some_list cs h
  have hk := kids_lit W d Ts ss e1 (by omega) cs.flatten.toArray (by rw [← e3]) cs.length e2 e4
  refine ⟨d + 1, Ts, ?_, KOk.of_all e5⟩
  rw [World.size_alloc]
  exact hk
def MadeS (w : World) (e : Ending) (w' : World) : Prop := ∃ v, e = .returned v ∧ Below w.heap.size w w' ∧ SomeN w' v
theorem of_some (k : Nat) (t : ByteArray) (s : Value) (w : World) (hk : (k != 0) = true) (hf : (decide (k < 256) && decide (t.size ≤ 1000)) = true) (hs : SomeK w s) : Calls Tryz.prog 24 #[.int .u8 k, .string t, s] w (MadeS w) := by
  obtain ⟨d, Ts, h, hok⟩ := hs
  obtain ⟨p, n, c, rfl⟩ := h.shape
  refine (law7of_any k t p n c w).mono ?_
  rintro e w' ⟨rfl, hb⟩
  exact ⟨_, rfl, hb, d, .mk k t 0 0 Ts, ⟨fits_lit k t Ts hf, _, rfl, (KidsAt.below hb h).up hb.size⟩, KOk.cons hk hok KOk.nil⟩
theorem two_some (t : ByteArray) (u v : Value) (w : World) (ht : t.size ≤ 1000) (hu : SomeN w u) (hv : SomeN w v) : Calls Tryz.prog 25 #[.string t, u, v] w (MadeS w) := by
  obtain ⟨d1, T, h1, k1⟩ := hu
  obtain ⟨d2, U, h2, k2⟩ := hv
  refine (law7two_any (max d1 d2) t T U u v w (h1.deeper (Nat.le_max_left _ _)) (h2.deeper (Nat.le_max_right _ _)) (k1.two k2 _) ht).mono ?_
  rintro e w' ⟨x, rfl, hb, hx⟩
  exact ⟨x, rfl, hb, _, _, hx, KOk.cons rfl (k1.two k2) KOk.nil⟩
theorem says_some (u : Value) (w : World) (hu : SomeN w u) : Calls Tryz.prog 27 #[u] w (MadeS w) := by
  obtain ⟨d, T, h, k⟩ := hu
  have hk : KOk (saysT T).kids := KOk.cons rfl (KOk.cons rfl k KOk.nil) KOk.nil
  refine (law7says_any d T u w h (hk _)).mono ?_
  rintro e w' ⟨x, rfl, hb, hx⟩
  exact ⟨x, rfl, hb, _, _, hx, KOk.cons rfl hk KOk.nil⟩
theorem show_some (v : Value) (w : World) (hv : SomeN w v) (ht : AsciiTab w) (hp : Lib.TabIs Tryz.prog w "internal/strconv.uint64pow10" .u64 Lib.pow10Tab) : Calls Tryz.prog 26 #[v] w (BoolPost true w) := by
  obtain ⟨d, T, h, _⟩ := hv
  exact law_showTells d T v w.heap.size w h (Nat.le_refl _) ht hp
section
variable {o : Oper} {a : Act} {W : World} {G : Value → World → Prop}
theorem upon_of (k : Nat) (t : ByteArray) (s x : Operand) (tys : Array TypeId) (ho : o.op = .call { callee := .value (.func 24), args := #[.const (.int .u8 k), s, x], argTypes := tys }) (hk : (k != 0) = true) (hs : a.eval s = .string t)
    (hf : (decide (k < 256) && decide (t.size ≤ 1000)) = true) (hx : SomeK W (a.eval x)) (hG : ∀ v W', Below W.heap.size W W' → SomeN W' v → G v W') : RE.Upon Tryz.prog o a W G := by
  refine RE.upon_call 24 _ tys ho (enters_of Tryz.func24 (by kernel_rfl) rfl) #[.int .u8 k, .string t, a.eval x] ?_ ((of_some k t _ W hk hf hx).mono ?_)
  · simp [hs]; simp [Act.eval]
  · rintro e W' ⟨v, rfl, hb, hn⟩
    exact ⟨v, rfl, hG v W' hb hn⟩
theorem upon_two (t : ByteArray) (s x y : Operand) (tys : Array TypeId) (ho : o.op = .call { callee := .value (.func 25), args := #[s, x, y], argTypes := tys }) (hs : a.eval s = .string t) (ht : t.size ≤ 1000)
    (hx : SomeN W (a.eval x)) (hy : SomeN W (a.eval y)) (hG : ∀ v W', Below W.heap.size W W' → SomeN W' v → G v W') : RE.Upon Tryz.prog o a W G := by
  refine RE.upon_call 25 _ tys ho (enters_of Tryz.func25 (by kernel_rfl) rfl) #[.string t, a.eval x, a.eval y] (by simp [hs]) ((two_some t _ _ W ht hx hy).mono ?_)
  rintro e W' ⟨v, rfl, hb, hn⟩
  exact ⟨v, rfl, hG v W' hb hn⟩
theorem upon_says (x : Operand) (tys : Array TypeId) (ho : o.op = .call { callee := .value (.func 27), args := #[x], argTypes := tys })
    (hx : SomeN W (a.eval x)) (hG : ∀ v W', Below W.heap.size W W' → SomeN W' v → G v W') : RE.Upon Tryz.prog o a W G := by
  refine RE.upon_call 27 _ tys ho (enters_of Tryz.func27 (by kernel_rfl) rfl) #[a.eval x] (by simp) ((says_some _ W hx).mono ?_)
  rintro e W' ⟨v, rfl, hb, hn⟩
  exact ⟨v, rfl, hG v W' hb hn⟩
theorem upon_show (x : Operand) (tys : Array TypeId) (ho : o.op = .call { callee := .value (.func 26), args := #[x], argTypes := tys }) (ht : AsciiTab W) (hp : Lib.TabIs Tryz.prog W "internal/strconv.uint64pow10" .u64 Lib.pow10Tab)
    (hx : SomeN W (a.eval x)) (hG : ∀ W', Below W.heap.size W W' → G (.bool true) W') : RE.Upon Tryz.prog o a W G := by
  refine RE.upon_call 26 _ tys ho (enters_of Tryz.func26 (by kernel_rfl) rfl) #[a.eval x] (by simp) ((show_some _ W hx ht hp).mono ?_)
  rintro e W' ⟨rfl, hb⟩
  exact ⟨_, rfl, hG W' hb⟩
theorem upon_build1 (x : Operand) (ho : o.op = .buildSlice 23 1 #[(0, x)]) (hx : SomeN W (a.eval x))
    (hG : ∀ v W', Below W.heap.size W W' → SomeK W' v → G v W') : RE.Upon Tryz.prog o a W G := by
  obtain ⟨d, T, ⟨hf, s, hv, hk⟩, hok⟩ := hx
  obtain ⟨i0, hi0, hz0, hz1, hz2⟩ := info_parts infoNode
  have hp : (#[(0, x)].map fun (x : Nat × Operand) => (x.1, a.eval x.2)).toList = [(0, .agg (nodeCells T s).toArray)] := by
    simp [hv, nodeCells]
  have hrun : (execOp a.eval o).run Tryz.prog W = .ok (.value (.slice (some ⟨W.heap.size, 0, none⟩) 1 1)) (W.alloc (.cells (nodeCells T s).toArray 25)) := by
    unfold execOp
    simp only [ho, Sem.run_bind]
    rw [run_buildSlice W 23 25 1 _ (nodeCells T s).toArray i0 _ Tryz.underlying23 hi0 hz0 (by rw [hz1]; decide) (by rw [hz1]; decide) (by rw [hz1]; exact (congrArg _ hp).trans (fill_1 T s))]
    rfl
  refine RE.upon_run hrun (hG _ _ ((Below.refl _ W).alloc (Nat.le_refl _) _) ⟨d + 1, [T], ?_, hok⟩)
  have := kids_lit W d [T] [s] rfl (by simp) (nodeCells T s).toArray (by simp) 1 rfl (fun i T' s' hT hs => by
    match i with
    | 0 =>
      simp only [List.getElem?_cons_zero, Option.some.injEq] at hT hs
      subst hT; subst hs
      exact ⟨hf, hk⟩
    | i + 1 => simp at hT)
  rw [World.size_alloc]
  exact this
theorem upon_new (ho : o.op = .alloc 25) {L : Nat} (hL : L ≤ W.heap.size) (hG : ∀ v W', Below W.heap.size W W' → boxTy L W' v → G v W') : RE.Upon Tryz.prog o a W G := by
  have hrun : (execOp a.eval o).run Tryz.prog W = .ok (.value (.pointer (some ⟨W.heap.size, 0, none⟩))) (W.alloc (.cells zeroNode 25)) := by
    unfold execOp
    simp only [ho, Sem.run_bind, run_newNode, Result.andThen_ok, Sem.run_pure]
  exact RE.upon_run hrun (hG _ _ ((Below.refl _ W).alloc (Nat.le_refl _) _) ⟨_, rfl, hL, by simp, heap_alloc_new W _⟩)
end
/-- what is known of the values of a region's operations: nodes, rows of nodes -/
def phS (ns ks : List Nat) (k : Nat) (W : World) (xs : List Value) : Prop := if ns.contains k = true then SomeN W (xs.getD 0 undef) else if ks.contains k = true then SomeK W (xs.getD 0 undef) else True
theorem phS.keep {ns ks : List Nat} {k : Nat} {W W' : World} {xs : List Value} (h : phS ns ks k W xs) (hb : Below W.heap.size W W') : phS ns ks k W' xs := by
  unfold phS at *
  split
  · rename_i h1; rw [if_pos h1] at h; exact h.below hb
  · rename_i h1
    rw [if_neg h1] at h
    split
    · rename_i h2; rw [if_pos h2] at h; exact h.below hb
    · trivial
end Go.Proofs.YtoekldhdojpceaaGreatDoor
/- ShowNumbers, the law's walk: it answers true. Condition: the library's tables lie as laid. -/
namespace Go.Proofs.YtoekldhdojpceaaGreatDoor
open Go.RowKit

def opsX : List ByteArray := [⟨#[111, 114]⟩, ⟨#[97, 110, 100]⟩, ⟨#[61]⟩, ⟨#[33, 61]⟩, ⟨#[60]⟩, ⟨#[60, 61]⟩, ⟨#[62]⟩, ⟨#[62, 61]⟩, ⟨#[43]⟩, ⟨#[45]⟩, ⟨#[42]⟩]
def signX : List ByteArray := [⟨#[45]⟩, ⟨#[110, 111, 116]⟩]
set_option maxRecDepth 100000 in
theorem ops_all : (opsX.all fun x => decide (x.size ≤ 20)) = true := by kernel_rfl
theorem ops_size (k : Nat) (x : ByteArray) (h : opsX[k]? = some x) : x.size ≤ 1000 := by
  have := List.all_eq_true.1 ops_all x (List.mem_of_getElem? h)
  simp at this; omega
theorem ops_length : opsX.length = 11 := rfl
theorem sign_all : (signX.all fun x => decide (x.size ≤ 20)) = true := by kernel_rfl
theorem sign_size (k : Nat) (x : ByteArray) (h : signX[k]? = some x) : x.size ≤ 1000 := by
  have := List.all_eq_true.1 sign_all x (List.mem_of_getElem? h)
  simp at this; omega
theorem sign_length : signX.length = 2 := rfl
def at5 (xs : List Value) (i : Nat) : Value := xs.getD i undef
theorem some_leaf (k : Nat) (t : ByteArray) (W : World) (hk : (k != 0) = true) (hf : (decide (k < 256) && decide (t.size ≤ 1000)) = true) : SomeN W (.agg #[.int .u8 k, .string t, .int .i64 0, .int .i64 0, .slice none 0 0]) :=
  ⟨0, .mk k t 0 0 [], ⟨fits_lit k t [] hf, _, rfl, KidsAt.nil _ _ _⟩, KOk.cons hk KOk.nil KOk.nil⟩
/-- so far in the loops over the operators -/
def OperRel (w : World) (bx bo n : Nat) (i : Value) (W : World) : Prop := ∃ k : Nat, k ≤ n ∧ i = .int .i64 (k : Int) ∧ Below w.heap.size w W ∧ W.heap[bx]? = some (.cells #[.int .u8 13, .string ⟨#[120]⟩, .int .i64 0, .int .i64 0, .slice none 0 0] 25 (0, 0)) ∧ W.heap[bx + 1]? = some (.cells #[.int .u8 14, .string ⟨#[50]⟩, .int .i64 0, .int .i64 0, .slice none 0 0] 25 (0, 0)) ∧ RowS W bo opsX
/-- so far in the loop over numbers -/
def SnRel (w : World) (bn n : Nat) (i : Value) (W : World) : Prop := ∃ k : Nat, k ≤ n ∧ i = .int .i64 (k : Int) ∧ Below w.heap.size w W ∧ W.heap[bn]? = some (.cells #[.int .i64 (-2147483647), .int .i64 (-1), .int .i64 1, .int .i64 2147483647, .int .i64 2147483648] 3 (0, 0))
theorem nums_at (k : Nat) (h : k < 5) : ∃ z : Int, (#[.int .i64 (-2147483647), .int .i64 (-1), .int .i64 1, .int .i64 2147483647, .int .i64 2147483648] : Array Value)[k]? = some (.int .i64 z) ∧ -9223372036854775808 ≤ z ∧ z < 9223372036854775808 := by
  match k, h with
  | 0, _ => exact ⟨_, rfl, by decide, by decide⟩
  | 1, _ => exact ⟨_, rfl, by decide, by decide⟩
  | 2, _ => exact ⟨_, rfl, by decide, by decide⟩
  | 3, _ => exact ⟨_, rfl, by decide, by decide⟩
  | 4, _ => exact ⟨_, rfl, by decide, by decide⟩
theorem some_of (k : Nat) (t : ByteArray) (W : World) (hk : (k != 0) = true) (hf : (decide (k < 256) && decide (t.size ≤ 1000)) = true) {s : Value} (hs : SomeK W s) : SomeN W (.agg #[.int .u8 k, .string t, .int .i64 0, .int .i64 0, s]) := by
  obtain ⟨d, Ts, h, hok⟩ := hs
  exact ⟨d, .mk k t 0 0 Ts, ⟨fits_lit k t Ts hf, _, rfl, h⟩, KOk.cons hk hok KOk.nil⟩
theorem num_node {W : World} {g : Nat} {z : Int} (h : W.heap[g]? = some (.cells #[.int .u8 4, .string ⟨#[114]⟩, .int .i64 z, .int .i64 0, .slice none 0 0] 25 (0, 0))) (h1 : -9223372036854775808 ≤ z) (h2 : z < 9223372036854775808) :
    NodeAt W W.heap.size 1 (.mk 1 ⟨#[]⟩ 0 0 [.mk 4 ⟨#[114]⟩ z 0 []]) (.agg #[.int .u8 1, .string ⟨#[]⟩, .int .i64 0, .int .i64 0, .slice (some ⟨g, 0, none⟩) 1 1]) := by
  obtain ⟨c0, c1, c2, c3, c4⟩ := cells5 h
  refine ⟨fits_lit 1 ⟨#[]⟩ _ rfl, _, rfl, Or.inr ⟨g, 0, 1, List.cons_ne_nil _ _, (Array.getElem?_eq_some_iff.1 h).1, Nat.le_refl _, by unfold maxLen; omega, rfl, fun i T hT => ?_⟩⟩
  match i, hT with
  | 0, hT =>
    injection hT with hT
    subst hT
    exact ⟨⟨by show 4 < 256; omega, by show (1 : Nat) ≤ maxLen; unfold maxLen; omega, h1, h2, by show -9223372036854775808 ≤ (0 : Int); omega, by show (0 : Int) < _; omega⟩, .slice none 0 0, c0, c1, c2, c3, c4, rfl, none, 0, rfl⟩
  | i + 1, hT => cases hT
theorem kids_ok {T : Tree} (h : KOk [T]) : ∀ e, kindsB e T.kids = true := fun e => by
  have := h (e + 1)
  unfold kindsB at this
  simp only [List.all_cons, List.all_nil, Bool.and_true, Bool.and_eq_true] at this
  exact this.2
theorem wb_step {W5 W W' : World} (h : ∃ x : Wb W5, W = x.1) (hb : Below W.heap.size W W') : ∃ x : Wb W5, W' = x.1 := by
  obtain ⟨x, rfl⟩ := h
  exact ⟨⟨W', x.2.trans (hb.mono x.2.size)⟩, rfl⟩
theorem wb_drew (W5 : World) : ∃ x : Wb W5, W5.drew = x.1 := ⟨⟨W5.drew, (Below.refl _ _).drew⟩, rfl⟩

set_option maxRecDepth 100000 in
set_option maxHeartbeats 8000000 in
theorem law_showNumbers (w : World) (ht : AsciiTab w) (hp : Lib.TabIs Tryz.prog w "internal/strconv.uint64pow10" .u64 Lib.pow10Tab) : Calls Tryz.prog 5 #[] w (BoolPost true w) := by
  have HTab : Hid (∀ W, Below w.heap.size w W → AsciiTab W ∧ Lib.TabIs Tryz.prog W "internal/strconv.uint64pow10" .u64 Lib.pow10Tab) := fun W hW => ⟨ht.below hW, pow_here hp W hW⟩
  clear ht hp
  go_enter Tryz.func5, Tryz.ntmps5
  go_upto_region 2 with fail
  change Code.wp _ _ _ _ (w.alloc (.cells (opsX.map Value.string).toArray 9))
  obtain ⟨wA, hwA⟩ : ∃ wA, wA = w.alloc (.cells (opsX.map Value.string).toArray 9) := ⟨_, rfl⟩
  have HBA : Hid (Below w.heap.size w wA) := by show Below _ _ _; rw [hwA]; exact (Below.refl _ w).alloc (Nat.le_refl _) _
  have HRA : Hid (RowS wA w.heap.size opsX) := by show RowS _ _ _; rw [hwA]; exact heap_alloc_new w _
  rw [← hwA]
  clear hwA
  go_wp2_with fail
  refine Calls.mono (law7of_any 13 ⟨#[120]⟩ none 0 0 _) ?_
  rintro e w1 ⟨rfl, hb1⟩
  have HB1 := Lib.hid (HBA.out.trans (hb1.mono HBA.out.size))
  have HR1 := Lib.hid (HRA.out.below hb1)
  clear hb1
  go_wp2_with fail
  refine Calls.mono (law7of_any 14 ⟨#[50]⟩ none 0 0 _) ?_
  rintro e w2 ⟨rfl, hb2⟩
  have HB2 := Lib.hid (HB1.out.trans (hb2.mono HB1.out.size))
  have HR2 := Lib.hid (HR1.out.below hb2)
  clear hb2
  obtain ⟨w3, hw3⟩ : ∃ w3, w3 = (w2.alloc (.cells #[.int .u8 13, .string ⟨#[120]⟩, .int .i64 0, .int .i64 0, .slice none 0 0] 25)).alloc (.cells #[.int .u8 14, .string ⟨#[50]⟩, .int .i64 0, .int .i64 0, .slice none 0 0] 25) := ⟨_, rfl⟩
  obtain ⟨X0, X1, _⟩ := two_new' w2 (.cells #[.int .u8 13, .string ⟨#[120]⟩, .int .i64 0, .int .i64 0, .slice none 0 0] 25) (.cells #[.int .u8 14, .string ⟨#[50]⟩, .int .i64 0, .int .i64 0, .slice none 0 0] 25)
  have hb3 := below_two w2 (.cells #[.int .u8 13, .string ⟨#[120]⟩, .int .i64 0, .int .i64 0, .slice none 0 0] 25) (.cells #[.int .u8 14, .string ⟨#[50]⟩, .int .i64 0, .int .i64 0, .slice none 0 0] 25)
  rw [← hw3] at X0 X1 hb3
  have HB3 := Lib.hid (HB2.out.trans (hb3.mono HB2.out.size))
  have HR3 := Lib.hid (HR2.out.below hb3)
  have HX3 := Lib.hid X0
  have HY3 := Lib.hid X1
  clear hb3 X0 X1
  go_upto_region 3 with fail
  change Code.wp _ _ _ _ ((w2.alloc (.cells #[.int .u8 13, .string ⟨#[120]⟩, .int .i64 0, .int .i64 0, .slice none 0 0] 25)).alloc (.cells #[.int .u8 14, .string ⟨#[50]⟩, .int .i64 0, .int .i64 0, .slice none 0 0] 25))
  rw [← hw3]
  clear hw3
  go_wp2_with fail
  go_loopw [4] (OperRel w w2.heap.size w.heap.size 11) (fun i _ => 11 - (intOf i).toNat)
  case atStart => exact ⟨0, Nat.zero_le _, rfl, HB3.out, HX3.out, HY3.out, HR3.out⟩
  case round =>
    obtain ⟨k, hk, rfl, hb, hx, hy, hr⟩ := hrel
    have hk0 : (0 : Int) ≤ k := by omega
    have HB := Lib.hid hb
    have HX := Lib.hid hx
    have HY := Lib.hid hy
    have HR := Lib.hid hr
    clear hb hx hy hr
    by_cases hlt : k < 11
    · have hlt1 : (k : Int) < 11 := by omega
      obtain ⟨u, hu⟩ : ∃ u, opsX[k]? = some u := ⟨_, List.getElem?_eq_getElem (by rw [ops_length]; exact hlt)⟩
      have HUs := Lib.hid (ops_size k u hu)
      have HU := Lib.hid hu
      clear hu
      go_wp2_with fail
      go_loopw [5] (OperRel w w2.heap.size w.heap.size 11) (fun i _ => 11 - (intOf i).toNat)
      case atStart => exact ⟨0, Nat.zero_le _, rfl, HB.out, HX.out, HY.out, HR.out⟩
      case round =>
        obtain ⟨j, hj, rfl, hb, hx, hy, hr⟩ := hrel
        have hj0 : (0 : Int) ≤ j := by omega
        have HBj := Lib.hid hb
        have HXj := Lib.hid hx
        have HYj := Lib.hid hy
        have HRj := Lib.hid hr
        clear hb hx hy hr
        by_cases hjl : j < 11
        · have hj1 : (j : Int) < 11 := by omega
          obtain ⟨t, htt⟩ : ∃ u, opsX[j]? = some u := ⟨_, List.getElem?_eq_getElem (by rw [ops_length]; exact hjl)⟩
          have HTs := Lib.hid (ops_size j t htt)
          have C := fun x : Wb wr => x.cell (HRj.out.cell j t htt)
          obtain ⟨a0, a1, a2, a3, a4⟩ := cells5 HXj.out
          obtain ⟨b0, b1, b2, b3, b4⟩ := cells5 HYj.out
          have A0 := fun x : Wb wr => x.cell a0
          have A1 := fun x : Wb wr => x.cell a1
          have A2 := fun x : Wb wr => x.cell a2
          have A3 := fun x : Wb wr => x.cell a3
          have A4 := fun x : Wb wr => x.cell a4
          have B0 := fun x : Wb wr => x.cell b0
          have B1 := fun x : Wb wr => x.cell b1
          have B2 := fun x : Wb wr => x.cell b2
          have B3 := fun x : Wb wr => x.cell b3
          have B4 := fun x : Wb wr => x.cell b4
          clear a0 a1 a2 a3 a4 b0 b1 b2 b3 b4
          clear htt
          go_wp2_with fail
          refine RE.wp_region_eff (by kernel_rfl) 8 [6, 7] [] (fun _ W => ∃ x : Wb wr, W = x.1) (fun W W' => Below W.heap.size W W') (fun i xs => if i = 6 then .agg #[at5 xs 0, at5 xs 1, at5 xs 2, at5 xs 3, at5 xs 4] else at5 xs 0) (fun k W xs => if k = 6 then SomeN W (.agg #[at5 xs 0, at5 xs 1, at5 xs 2, at5 xs 3, at5 xs 4]) else if k = 7 then boxTy wr.heap.size W (at5 xs 0) else True) (by kernel_rfl) (fun _ _ _ _ _ _ h hb => wb_step h hb) (fun k W W' xs h _ hb => by split; (rename_i h6; rw [if_pos h6] at h; exact h.below hb); rename_i h6; rw [if_neg h6] at h; split; (rename_i h7; rw [if_pos h7] at h; exact h.mono hb); trivial) (wb_drew wr) ?_
          simp only [List.take_succ_cons, List.take_zero, List.drop_succ_cons, List.drop_zero]
          repeat (refine RE.wpE_read (fun W => ∃ x : Wb wr, W = x.1) (fun _ _ _ h => h) rfl rfl rfl (wb_drew wr) ?_; go_big_quiet_step (fail); refine wpQuiet_nil ?_)
          refine RE.wpE_turn rfl rfl ?_ (fun xs6 => ?_)
          · intro W hC _ hE
            obtain ⟨s, _, x, rfl⟩ := hC
            refine upon_two t _ _ _ _ rfl rfl HTs.out (some_leaf 14 ⟨#[50]⟩ _ rfl rfl) (some_leaf 13 ⟨#[120]⟩ _ rfl rfl) (fun v W' hb hn => ?_)
            obtain ⟨d, T, ⟨hf, sv, rfl, hkk⟩, hok⟩ := hn
            exact ⟨[_, _, _, _, _], rfl, hb, hb, d, T, ⟨hf, sv, rfl, hkk⟩, hok⟩
          simp only [Act.put, List.setIfInBounds_toArray, List.set_cons_zero, List.set_cons_succ]
          refine RE.wpE_turn rfl rfl ?_ (fun xs7 => ?_)
          · intro W hC _ hE
            obtain ⟨s, _, x, rfl⟩ := hC
            exact upon_new rfl x.2.size (fun v W' hb hbox => ⟨[v], rfl, hb, hb, hbox⟩)
          simp only [Act.put, List.setIfInBounds_toArray, List.set_cons_zero, List.set_cons_succ, Nat.reduceEqDiff, reduceIte]
          refine RE.wpE_nil ?_
          intro W hS hE
          have hin : SomeN W (.agg #[at5 xs6 0, at5 xs6 1, at5 xs6 2, at5 xs6 3, at5 xs6 4]) := hE 6 xs6 rfl
          obtain ⟨g, hg, hgL, hgW, hgz⟩ : boxTy wr.heap.size W (at5 xs7 0) := hE 7 xs7 rfl
          rw [hg]
          generalize at5 xs6 0 = v0 at *
          generalize at5 xs6 1 = v1 at *
          generalize at5 xs6 2 = v2 at *
          generalize at5 xs6 3 = v3 at *
          generalize at5 xs6 4 = v4 at *
          obtain ⟨dT, T, ⟨hfT, sv, hvT, hkT⟩, hokT⟩ := hin
          obtain ⟨p5, n5, c5, rfl⟩ := hkT.shape
          injection hvT with hvT
          have hvL := congrArg Array.toList hvT
          simp only [List.cons.injEq, and_true] at hvL
          obtain ⟨rfl, rfl, rfl, rfl, rfl⟩ := hvL
          have hbW := wb_below hS
          obtain ⟨W5, hW5⟩ : ∃ W5, W5 = storeNode W g (.int .u8 T.kind) (.string T.text) (.int .i64 T.num) (.int .i64 T.place) (.slice p5 n5 c5) := ⟨_, rfl⟩
          have hbW5 : Below wr.heap.size wr W5 := by rw [hW5]; exact storeNode_below hbW hgL _ _ _ _ _
          have HI5 : Hid (W5.heap[g]? = some (.cells #[.int .u8 T.kind, .string T.text, .int .i64 T.num, .int .i64 T.place, .slice p5 n5 c5] 25 (0, 0))) := by show _ = _; rw [hW5]; exact storeNode_at hgz _ _ _ _ _
          have HB5 := Lib.hid (HBj.out.trans (hbW5.mono HBj.out.size))
          have HX5 := Lib.hid (heap_below hbW5 HXj.out (Array.getElem?_eq_some_iff.1 HXj.out).1)
          have HY5 := Lib.hid (heap_below hbW5 HYj.out (Array.getElem?_eq_some_iff.1 HYj.out).1)
          have HR5 := Lib.hid (HRj.out.below hbW5)
          have hin5 : SomeN W5 (.agg #[.int .u8 T.kind, .string T.text, .int .i64 T.num, .int .i64 T.place, .slice p5 n5 c5]) := by
            rw [hW5]
            refine ⟨dT, T, ⟨hfT, _, rfl, ?_⟩, hokT⟩
            rw [storeNode_size]
            exact KidsAt.stored hgz (fun b hb => storeNode_other _ _ _ _ _ b hb) (kids_ok hokT dT) hkT
          have HIn := Lib.hid (fun x : Wb W5 => hin5.below x.2)
          have HTb := Lib.hid (fun x : Wb W5 => HTab.out x.1 (HB5.out.trans (x.2.mono HB5.out.size)))
          obtain ⟨z0, z1, z2, z3, z4⟩ := cells5 hgz
          have f0 := frozen5 hgz 0
          have f1 := frozen5 hgz 1
          have f2 := frozen5 hgz 2
          have f3 := frozen5 hgz 3
          have f4 := frozen5 hgz 4
          clear hin5 hfT hkT hokT hvT hS hE hbW hbW5 hgL hgz hg C A0 A1 A2 A3 A4 B0 B1 B2 B3 B4 HBj HXj HYj HRj
          go_upto_region 10 with fail
          change Code.wp _ _ _ _ (storeNode W g (.int .u8 T.kind) (.string T.text) (.int .i64 T.num) (.int .i64 T.place) (.slice p5 n5 c5))
          rw [← hW5]
          clear hW5 z0 z1 z2 z3 z4 f0 f1 f2 f3 f4
          have C := fun x : Wb W5 => x.cell (HR5.out.cell k u HU.out)
          obtain ⟨c0, c1, c2, c3, c4⟩ := cells5 HI5.out
          have C0 := fun x : Wb W5 => x.cell c0
          have C1 := fun x : Wb W5 => x.cell c1
          have C2 := fun x : Wb W5 => x.cell c2
          have C3 := fun x : Wb W5 => x.cell c3
          have C4 := fun x : Wb W5 => x.cell c4
          clear c0 c1 c2 c3 c4
          obtain ⟨a0, a1, a2, a3, a4⟩ := cells5 HX5.out
          obtain ⟨b0, b1, b2, b3, b4⟩ := cells5 HY5.out
          have A0 := fun x : Wb W5 => x.cell a0
          have A1 := fun x : Wb W5 => x.cell a1
          have A2 := fun x : Wb W5 => x.cell a2
          have A3 := fun x : Wb W5 => x.cell a3
          have A4 := fun x : Wb W5 => x.cell a4
          have B0 := fun x : Wb W5 => x.cell b0
          have B1 := fun x : Wb W5 => x.cell b1
          have B2 := fun x : Wb W5 => x.cell b2
          have B3 := fun x : Wb W5 => x.cell b3
          have B4 := fun x : Wb W5 => x.cell b4
          clear a0 a1 a2 a3 a4 b0 b1 b2 b3 b4
          refine RE.wp_region_eff (by kernel_rfl) 34 [6, 7, 8, 17, 18, 19, 29, 30, 31] [] (fun _ W => ∃ x : Wb W5, W = x.1) (fun W W' => Below W.heap.size W W') (fun i xs => if i = 8 then .bool true else if i = 19 then .bool true else if i = 31 then .bool true else xs.getD 0 undef) (phS [6, 7, 17, 18, 29, 30] []) (by kernel_rfl) (fun _ _ _ _ _ _ h hb => wb_step h hb) (fun _ _ _ _ h _ hb => h.keep hb) (wb_drew W5) ?_
          simp only [List.take_succ_cons, List.take_zero, List.drop_succ_cons, List.drop_zero]
          repeat (refine RE.wpE_read (fun W => ∃ x : Wb W5, W = x.1) (fun _ _ _ h => h) rfl rfl rfl (wb_drew W5) ?_; go_big_quiet_step (fail); refine wpQuiet_nil ?_)
          refine RE.wpE_turn rfl rfl ?_ (fun xs6 => ?_)
          · intro W hC _ hE
            obtain ⟨s, _, x, rfl⟩ := hC
            exact upon_two u _ _ _ _ rfl rfl HUs.out (HIn.out x) (some_leaf 13 ⟨#[120]⟩ _ rfl rfl) (fun v W' hb hn => ⟨[v], rfl, hb, hb, hn⟩)
          simp only [Act.put, List.setIfInBounds_toArray, List.set_cons_zero, List.set_cons_succ]
          repeat (refine RE.wpE_read (fun W => ∃ x : Wb W5, W = x.1) (fun _ _ _ h => h) rfl rfl rfl (wb_drew W5) ?_; go_big_quiet_step (fail); refine wpQuiet_nil ?_)
          refine RE.wpE_turn rfl rfl ?_ (fun xs7 => ?_)
          · intro W hC _ hE
            obtain ⟨s, _, x, rfl⟩ := hC
            exact upon_says _ _ rfl (hE 6 _ (by kernel_rfl) rfl) (fun v W' hb hn => ⟨[v], rfl, hb, hb, hn⟩)
          simp only [Act.put, List.setIfInBounds_toArray, List.set_cons_zero, List.set_cons_succ]
          repeat (refine RE.wpE_read (fun W => ∃ x : Wb W5, W = x.1) (fun _ _ _ h => h) rfl rfl rfl (wb_drew W5) ?_; go_big_quiet_step (fail); refine wpQuiet_nil ?_)
          refine RE.wpE_turn rfl rfl ?_ (fun xs8 => ?_)
          · intro W hC _ hE
            obtain ⟨s, _, x, rfl⟩ := hC
            exact upon_show _ _ rfl (HTb.out x).1 (HTb.out x).2 (hE 7 _ (by kernel_rfl) rfl) (fun W' hb => ⟨[], rfl, hb, hb, trivial⟩)
          simp only [Act.put, List.setIfInBounds_toArray, List.set_cons_zero, List.set_cons_succ]
          repeat (refine RE.wpE_read (fun W => ∃ x : Wb W5, W = x.1) (fun _ _ _ h => h) rfl rfl rfl (wb_drew W5) ?_; go_big_quiet_step (fail); refine wpQuiet_nil ?_)
          refine RE.wpE_turn rfl rfl ?_ (fun xs17 => ?_)
          · intro W hC _ hE
            obtain ⟨s, _, x, rfl⟩ := hC
            exact upon_two u _ _ _ _ rfl rfl HUs.out (some_leaf 13 ⟨#[120]⟩ _ rfl rfl) (HIn.out x) (fun v W' hb hn => ⟨[v], rfl, hb, hb, hn⟩)
          simp only [Act.put, List.setIfInBounds_toArray, List.set_cons_zero, List.set_cons_succ]
          repeat (refine RE.wpE_read (fun W => ∃ x : Wb W5, W = x.1) (fun _ _ _ h => h) rfl rfl rfl (wb_drew W5) ?_; go_big_quiet_step (fail); refine wpQuiet_nil ?_)
          refine RE.wpE_turn rfl rfl ?_ (fun xs18 => ?_)
          · intro W hC _ hE
            obtain ⟨s, _, x, rfl⟩ := hC
            exact upon_says _ _ rfl (hE 17 _ (by kernel_rfl) rfl) (fun v W' hb hn => ⟨[v], rfl, hb, hb, hn⟩)
          simp only [Act.put, List.setIfInBounds_toArray, List.set_cons_zero, List.set_cons_succ]
          repeat (refine RE.wpE_read (fun W => ∃ x : Wb W5, W = x.1) (fun _ _ _ h => h) rfl rfl rfl (wb_drew W5) ?_; go_big_quiet_step (fail); refine wpQuiet_nil ?_)
          refine RE.wpE_turn rfl rfl ?_ (fun xs19 => ?_)
          · intro W hC _ hE
            obtain ⟨s, _, x, rfl⟩ := hC
            exact upon_show _ _ rfl (HTb.out x).1 (HTb.out x).2 (hE 18 _ (by kernel_rfl) rfl) (fun W' hb => ⟨[], rfl, hb, hb, trivial⟩)
          simp only [Act.put, List.setIfInBounds_toArray, List.set_cons_zero, List.set_cons_succ]
          repeat (refine RE.wpE_read (fun W => ∃ x : Wb W5, W = x.1) (fun _ _ _ h => h) rfl rfl rfl (wb_drew W5) ?_; go_big_quiet_step (fail); refine wpQuiet_nil ?_)
          refine RE.wpE_turn rfl rfl ?_ (fun xs29 => ?_)
          · intro W hC _ hE
            obtain ⟨s, _, x, rfl⟩ := hC
            exact upon_two u _ _ _ _ rfl rfl HUs.out (HIn.out x) (HIn.out x) (fun v W' hb hn => ⟨[v], rfl, hb, hb, hn⟩)
          simp only [Act.put, List.setIfInBounds_toArray, List.set_cons_zero, List.set_cons_succ]
          repeat (refine RE.wpE_read (fun W => ∃ x : Wb W5, W = x.1) (fun _ _ _ h => h) rfl rfl rfl (wb_drew W5) ?_; go_big_quiet_step (fail); refine wpQuiet_nil ?_)
          refine RE.wpE_turn rfl rfl ?_ (fun xs30 => ?_)
          · intro W hC _ hE
            obtain ⟨s, _, x, rfl⟩ := hC
            exact upon_says _ _ rfl (hE 29 _ (by kernel_rfl) rfl) (fun v W' hb hn => ⟨[v], rfl, hb, hb, hn⟩)
          simp only [Act.put, List.setIfInBounds_toArray, List.set_cons_zero, List.set_cons_succ]
          repeat (refine RE.wpE_read (fun W => ∃ x : Wb W5, W = x.1) (fun _ _ _ h => h) rfl rfl rfl (wb_drew W5) ?_; go_big_quiet_step (fail); refine wpQuiet_nil ?_)
          refine RE.wpE_turn rfl rfl ?_ (fun xs31 => ?_)
          · intro W hC _ hE
            obtain ⟨s, _, x, rfl⟩ := hC
            exact upon_show _ _ rfl (HTb.out x).1 (HTb.out x).2 (hE 30 _ (by kernel_rfl) rfl) (fun W' hb => ⟨[], rfl, hb, hb, trivial⟩)
          simp only [Act.put, List.setIfInBounds_toArray, List.set_cons_zero, List.set_cons_succ]
          repeat (refine RE.wpE_read (fun W => ∃ x : Wb W5, W = x.1) (fun _ _ _ h => h) rfl rfl rfl (wb_drew W5) ?_; go_big_quiet_step (fail); refine wpQuiet_nil ?_)
          refine RE.wpE_nil ?_
          intro W9 hS hE
          have hb9 := wb_below hS
          have HB9 := Lib.hid (HB5.out.trans (hb9.mono HB5.out.size))
          have HX9 := Lib.hid (heap_below hb9 HX5.out (Array.getElem?_eq_some_iff.1 HX5.out).1)
          have HY9 := Lib.hid (heap_below hb9 HY5.out (Array.getElem?_eq_some_iff.1 HY5.out).1)
          have HR9 := Lib.hid (HR5.out.below hb9)
          clear hS hE hb9 C C0 C1 C2 C3 C4 A0 A1 A2 A3 A4 B0 B1 B2 B3 B4
          go_wp2_with fail
          exact ⟨⟨j + 1, by omega, by go_num, HB9.out, HX9.out, HY9.out, HR9.out⟩, by simp [intOf]; omega⟩
        · obtain rfl : j = 11 := by omega
          go_wp2_with fail
          go_loopw [7] (OperRel w w2.heap.size w.heap.size 2) (fun i _ => 2 - (intOf i).toNat)
          case atStart => exact ⟨0, Nat.zero_le _, rfl, HBj.out, HXj.out, HYj.out, HRj.out⟩
          case round =>
            clear HBj HXj HYj HRj
            obtain ⟨j, hj, rfl, hb, hx, hy, hr⟩ := hrel
            have hj0 : (0 : Int) ≤ j := by omega
            have HBj := Lib.hid hb
            have HXj := Lib.hid hx
            have HYj := Lib.hid hy
            have HRj := Lib.hid hr
            clear hb hx hy hr
            by_cases hjl : j < 2
            · have hj1 : (j : Int) < 2 := by omega
              obtain ⟨t, htt⟩ : ∃ u, signX[j]? = some u := ⟨_, List.getElem?_eq_getElem (by rw [sign_length]; exact hjl)⟩
              have HTs : Hid ((decide (16 < 256) && decide (t.size ≤ 1000)) = true) := by show _ = _; have := sign_size j t htt; simp [this]
              obtain ⟨W5, hW5⟩ : ∃ W5, W5 = wr.alloc (.cells (signX.map Value.string).toArray 9) := ⟨_, rfl⟩
              have hb5 : Below wr.heap.size wr W5 := by rw [hW5]; exact (Below.refl _ wr).alloc (Nat.le_refl _) _
              have hrs : RowS (wr.alloc (.cells (signX.map Value.string).toArray 9)) wr.heap.size signX := heap_alloc_new wr _
              have hcell : (wr.alloc (.cells #[.string ⟨#[45]⟩, .string ⟨#[110, 111, 116]⟩] 9)).cell? ⟨wr.heap.size, j, none⟩ = some (.string t) := hrs.cell j t htt
              have HB5 := Lib.hid (HBj.out.trans (hb5.mono HBj.out.size))
              have HX5 := Lib.hid (heap_below hb5 HXj.out (Array.getElem?_eq_some_iff.1 HXj.out).1)
              have HY5 := Lib.hid (heap_below hb5 HYj.out (Array.getElem?_eq_some_iff.1 HYj.out).1)
              have HR5 := Lib.hid (HRj.out.below hb5)
              have HTb := Lib.hid (fun x : Wb W5 => HTab.out x.1 (HB5.out.trans (x.2.mono HB5.out.size)))
              clear htt hb5 hrs
              go_upto_region 16 with fail
              change Code.wp _ _ _ _ (wr.alloc (.cells (signX.map Value.string).toArray 9))
              rw [← hW5]
              clear hW5 hcell
              have C := fun x : Wb W5 => x.cell (HR5.out.cell k u HU.out)
              obtain ⟨a0, a1, a2, a3, a4⟩ := cells5 HX5.out
              obtain ⟨b0, b1, b2, b3, b4⟩ := cells5 HY5.out
              have A0 := fun x : Wb W5 => x.cell a0
              have A1 := fun x : Wb W5 => x.cell a1
              have A2 := fun x : Wb W5 => x.cell a2
              have A3 := fun x : Wb W5 => x.cell a3
              have A4 := fun x : Wb W5 => x.cell a4
              have B0 := fun x : Wb W5 => x.cell b0
              have B1 := fun x : Wb W5 => x.cell b1
              have B2 := fun x : Wb W5 => x.cell b2
              have B3 := fun x : Wb W5 => x.cell b3
              have B4 := fun x : Wb W5 => x.cell b4
              clear a0 a1 a2 a3 a4 b0 b1 b2 b3 b4
              refine RE.wp_region_eff (by kernel_rfl) 33 [7, 8, 9, 10, 11, 20, 21, 24, 25, 26, 27, 28, 29, 30] [] (fun _ W => ∃ x : Wb W5, W = x.1) (fun W W' => Below W.heap.size W W') (fun i xs => if i = 11 then .bool true else if i = 30 then .bool true else xs.getD 0 undef) (phS [7, 9, 10, 21, 25, 27, 28, 29] [8, 20, 24, 26]) (by kernel_rfl) (fun _ _ _ _ _ _ h hb => wb_step h hb) (fun _ _ _ _ h _ hb => h.keep hb) (wb_drew W5) ?_
              simp only [List.take_succ_cons, List.take_zero, List.drop_succ_cons, List.drop_zero]
              repeat (refine RE.wpE_read (fun W => ∃ x : Wb W5, W = x.1) (fun _ _ _ h => h) rfl rfl rfl (wb_drew W5) ?_; go_big_quiet_step (fail); refine wpQuiet_nil ?_)
              refine RE.wpE_turn rfl rfl ?_ (fun xs7 => ?_)
              · intro W hC _ hE
                obtain ⟨s, _, x, rfl⟩ := hC
                exact upon_two u _ _ _ _ rfl rfl HUs.out (some_leaf 13 ⟨#[120]⟩ _ rfl rfl) (some_leaf 14 ⟨#[50]⟩ _ rfl rfl) (fun v W' hb hn => ⟨[v], rfl, hb, hb, hn⟩)
              simp only [Act.put, List.setIfInBounds_toArray, List.set_cons_zero, List.set_cons_succ]
              repeat (refine RE.wpE_read (fun W => ∃ x : Wb W5, W = x.1) (fun _ _ _ h => h) rfl rfl rfl (wb_drew W5) ?_; go_big_quiet_step (fail); refine wpQuiet_nil ?_)
              refine RE.wpE_turn rfl rfl ?_ (fun xs8 => ?_)
              · intro W hC _ hE
                obtain ⟨s, _, x, rfl⟩ := hC
                exact upon_build1 _ rfl (hE 7 _ (by kernel_rfl) rfl) (fun v W' hb hn => ⟨[v], rfl, hb, hb, hn⟩)
              simp only [Act.put, List.setIfInBounds_toArray, List.set_cons_zero, List.set_cons_succ]
              repeat (refine RE.wpE_read (fun W => ∃ x : Wb W5, W = x.1) (fun _ _ _ h => h) rfl rfl rfl (wb_drew W5) ?_; go_big_quiet_step (fail); refine wpQuiet_nil ?_)
              refine RE.wpE_turn rfl rfl ?_ (fun xs9 => ?_)
              · intro W hC _ hE
                obtain ⟨s, _, x, rfl⟩ := hC
                exact upon_of 16 t _ _ _ rfl rfl rfl HTs.out (hE 8 _ (by kernel_rfl) rfl) (fun v W' hb hn => ⟨[v], rfl, hb, hb, hn⟩)
              simp only [Act.put, List.setIfInBounds_toArray, List.set_cons_zero, List.set_cons_succ]
              repeat (refine RE.wpE_read (fun W => ∃ x : Wb W5, W = x.1) (fun _ _ _ h => h) rfl rfl rfl (wb_drew W5) ?_; go_big_quiet_step (fail); refine wpQuiet_nil ?_)
              refine RE.wpE_turn rfl rfl ?_ (fun xs10 => ?_)
              · intro W hC _ hE
                obtain ⟨s, _, x, rfl⟩ := hC
                exact upon_says _ _ rfl (hE 9 _ (by kernel_rfl) rfl) (fun v W' hb hn => ⟨[v], rfl, hb, hb, hn⟩)
              simp only [Act.put, List.setIfInBounds_toArray, List.set_cons_zero, List.set_cons_succ]
              repeat (refine RE.wpE_read (fun W => ∃ x : Wb W5, W = x.1) (fun _ _ _ h => h) rfl rfl rfl (wb_drew W5) ?_; go_big_quiet_step (fail); refine wpQuiet_nil ?_)
              refine RE.wpE_turn rfl rfl ?_ (fun xs11 => ?_)
              · intro W hC _ hE
                obtain ⟨s, _, x, rfl⟩ := hC
                exact upon_show _ _ rfl (HTb.out x).1 (HTb.out x).2 (hE 10 _ (by kernel_rfl) rfl) (fun W' hb => ⟨[], rfl, hb, hb, trivial⟩)
              simp only [Act.put, List.setIfInBounds_toArray, List.set_cons_zero, List.set_cons_succ]
              repeat (refine RE.wpE_read (fun W => ∃ x : Wb W5, W = x.1) (fun _ _ _ h => h) rfl rfl rfl (wb_drew W5) ?_; go_big_quiet_step (fail); refine wpQuiet_nil ?_)
              refine RE.wpE_turn rfl rfl ?_ (fun xs20 => ?_)
              · intro W hC _ hE
                obtain ⟨s, _, x, rfl⟩ := hC
                exact upon_build1 _ rfl (some_leaf 13 ⟨#[120]⟩ _ rfl rfl) (fun v W' hb hn => ⟨[v], rfl, hb, hb, hn⟩)
              simp only [Act.put, List.setIfInBounds_toArray, List.set_cons_zero, List.set_cons_succ]
              repeat (refine RE.wpE_read (fun W => ∃ x : Wb W5, W = x.1) (fun _ _ _ h => h) rfl rfl rfl (wb_drew W5) ?_; go_big_quiet_step (fail); refine wpQuiet_nil ?_)
              refine RE.wpE_turn rfl rfl ?_ (fun xs21 => ?_)
              · intro W hC _ hE
                obtain ⟨s, _, x, rfl⟩ := hC
                exact upon_of 16 t _ _ _ rfl rfl rfl HTs.out (hE 20 _ (by kernel_rfl) rfl) (fun v W' hb hn => ⟨[v], rfl, hb, hb, hn⟩)
              simp only [Act.put, List.setIfInBounds_toArray, List.set_cons_zero, List.set_cons_succ]
              repeat (refine RE.wpE_read (fun W => ∃ x : Wb W5, W = x.1) (fun _ _ _ h => h) rfl rfl rfl (wb_drew W5) ?_; go_big_quiet_step (fail); refine wpQuiet_nil ?_)
              refine RE.wpE_turn rfl rfl ?_ (fun xs24 => ?_)
              · intro W hC _ hE
                obtain ⟨s, _, x, rfl⟩ := hC
                exact upon_build1 _ rfl (some_leaf 14 ⟨#[50]⟩ _ rfl rfl) (fun v W' hb hn => ⟨[v], rfl, hb, hb, hn⟩)
              simp only [Act.put, List.setIfInBounds_toArray, List.set_cons_zero, List.set_cons_succ]
              repeat (refine RE.wpE_read (fun W => ∃ x : Wb W5, W = x.1) (fun _ _ _ h => h) rfl rfl rfl (wb_drew W5) ?_; go_big_quiet_step (fail); refine wpQuiet_nil ?_)
              refine RE.wpE_turn rfl rfl ?_ (fun xs25 => ?_)
              · intro W hC _ hE
                obtain ⟨s, _, x, rfl⟩ := hC
                exact upon_of 16 ⟨#[45]⟩ _ _ _ rfl rfl rfl rfl (hE 24 _ (by kernel_rfl) rfl) (fun v W' hb hn => ⟨[v], rfl, hb, hb, hn⟩)
              simp only [Act.put, List.setIfInBounds_toArray, List.set_cons_zero, List.set_cons_succ]
              repeat (refine RE.wpE_read (fun W => ∃ x : Wb W5, W = x.1) (fun _ _ _ h => h) rfl rfl rfl (wb_drew W5) ?_; go_big_quiet_step (fail); refine wpQuiet_nil ?_)
              refine RE.wpE_turn rfl rfl ?_ (fun xs26 => ?_)
              · intro W hC _ hE
                obtain ⟨s, _, x, rfl⟩ := hC
                exact upon_build1 _ rfl (hE 25 _ (by kernel_rfl) rfl) (fun v W' hb hn => ⟨[v], rfl, hb, hb, hn⟩)
              simp only [Act.put, List.setIfInBounds_toArray, List.set_cons_zero, List.set_cons_succ]
              repeat (refine RE.wpE_read (fun W => ∃ x : Wb W5, W = x.1) (fun _ _ _ h => h) rfl rfl rfl (wb_drew W5) ?_; go_big_quiet_step (fail); refine wpQuiet_nil ?_)
              refine RE.wpE_turn rfl rfl ?_ (fun xs27 => ?_)
              · intro W hC _ hE
                obtain ⟨s, _, x, rfl⟩ := hC
                exact upon_of 16 t _ _ _ rfl rfl rfl HTs.out (hE 26 _ (by kernel_rfl) rfl) (fun v W' hb hn => ⟨[v], rfl, hb, hb, hn⟩)
              simp only [Act.put, List.setIfInBounds_toArray, List.set_cons_zero, List.set_cons_succ]
              repeat (refine RE.wpE_read (fun W => ∃ x : Wb W5, W = x.1) (fun _ _ _ h => h) rfl rfl rfl (wb_drew W5) ?_; go_big_quiet_step (fail); refine wpQuiet_nil ?_)
              refine RE.wpE_turn rfl rfl ?_ (fun xs28 => ?_)
              · intro W hC _ hE
                obtain ⟨s, _, x, rfl⟩ := hC
                exact upon_two u _ _ _ _ rfl rfl HUs.out (hE 21 _ (by kernel_rfl) rfl) (hE 27 _ (by kernel_rfl) rfl) (fun v W' hb hn => ⟨[v], rfl, hb, hb, hn⟩)
              simp only [Act.put, List.setIfInBounds_toArray, List.set_cons_zero, List.set_cons_succ]
              repeat (refine RE.wpE_read (fun W => ∃ x : Wb W5, W = x.1) (fun _ _ _ h => h) rfl rfl rfl (wb_drew W5) ?_; go_big_quiet_step (fail); refine wpQuiet_nil ?_)
              refine RE.wpE_turn rfl rfl ?_ (fun xs29 => ?_)
              · intro W hC _ hE
                obtain ⟨s, _, x, rfl⟩ := hC
                exact upon_says _ _ rfl (hE 28 _ (by kernel_rfl) rfl) (fun v W' hb hn => ⟨[v], rfl, hb, hb, hn⟩)
              simp only [Act.put, List.setIfInBounds_toArray, List.set_cons_zero, List.set_cons_succ]
              repeat (refine RE.wpE_read (fun W => ∃ x : Wb W5, W = x.1) (fun _ _ _ h => h) rfl rfl rfl (wb_drew W5) ?_; go_big_quiet_step (fail); refine wpQuiet_nil ?_)
              refine RE.wpE_turn rfl rfl ?_ (fun xs30 => ?_)
              · intro W hC _ hE
                obtain ⟨s, _, x, rfl⟩ := hC
                exact upon_show _ _ rfl (HTb.out x).1 (HTb.out x).2 (hE 29 _ (by kernel_rfl) rfl) (fun W' hb => ⟨[], rfl, hb, hb, trivial⟩)
              simp only [Act.put, List.setIfInBounds_toArray, List.set_cons_zero, List.set_cons_succ]
              repeat (refine RE.wpE_read (fun W => ∃ x : Wb W5, W = x.1) (fun _ _ _ h => h) rfl rfl rfl (wb_drew W5) ?_; go_big_quiet_step (fail); refine wpQuiet_nil ?_)
              refine RE.wpE_nil ?_
              intro W9 hS hE
              have hb9 := wb_below hS
              have HB9 := Lib.hid (HB5.out.trans (hb9.mono HB5.out.size))
              have HX9 := Lib.hid (heap_below hb9 HX5.out (Array.getElem?_eq_some_iff.1 HX5.out).1)
              have HY9 := Lib.hid (heap_below hb9 HY5.out (Array.getElem?_eq_some_iff.1 HY5.out).1)
              have HR9 := Lib.hid (HR5.out.below hb9)
              clear hS hE hb9 C A0 A1 A2 A3 A4 B0 B1 B2 B3 B4
              go_wp2_with fail
              exact ⟨⟨j + 1, by omega, by go_num, HB9.out, HX9.out, HY9.out, HR9.out⟩, by simp [intOf]; omega⟩
            · obtain rfl : j = 2 := by omega
              go_wp2_with fail
              exact ⟨⟨k + 1, by omega, by go_num, HBj.out, HXj.out, HYj.out, HRj.out⟩, by simp [intOf]; omega⟩
    · have hlt2 : ¬ ((k : Int) < 11) := by omega
      clear HX HY HR
      go_wp2_with fail
      generalize hwr0 : wr.heap.size = wr0
      have HW0 := Lib.hid hwr0
      clear hwr0
      go_loopw [10] (SnRel w wr0 5) (fun i _ => 5 - (intOf i).toNat)
      case atStart => exact ⟨0, Nat.zero_le _, rfl, HB.out.alloc HB.out.size _, by rw [← HW0.out]; exact heap_alloc_new wr _⟩
      case round =>
        obtain ⟨k, hk, rfl, hb, hn⟩ := hrel
        have hk0 : (0 : Int) ≤ k := by omega
        have HBk := Lib.hid hb
        have HNk := Lib.hid hn
        clear hb hn
        by_cases hkl : k < 5
        · have hkl1 : (k : Int) < 5 := by omega
          obtain ⟨z, hz, hzl, hzu⟩ := nums_at k hkl
          go_wp2_with fail
          refine Calls.mono (law7of_any 4 ⟨#[114]⟩ none 0 0 _) ?_
          rintro e w1 ⟨rfl, hb1⟩
          obtain ⟨wr1, hwr1⟩ : ∃ x, x = w1.alloc (.cells #[.int .u8 4, .string ⟨#[114]⟩, .int .i64 0, .int .i64 0, .slice none 0 0] 25) := ⟨_, rfl⟩
          have hbr1 : Below w1.heap.size w1 wr1 := by rw [hwr1]; exact (Below.refl _ w1).alloc (Nat.le_refl _) _
          have hr1 : wr1.heap[w1.heap.size]? = some (.cells #[.int .u8 4, .string ⟨#[114]⟩, .int .i64 0, .int .i64 0, .slice none 0 0] 25 (0, 0)) := by rw [hwr1]; exact heap_alloc_new w1 _
          have HB1 := Lib.hid ((HBk.out.trans (hb1.mono HBk.out.size)).trans (hbr1.mono (Nat.le_trans HBk.out.size hb1.size)))
          have HN1 := Lib.hid (heap_below hbr1 (heap_below hb1 HNk.out (Array.getElem?_eq_some_iff.1 HNk.out).1) (Nat.lt_of_lt_of_le (Array.getElem?_eq_some_iff.1 HNk.out).1 hb1.size))
          have HR1 := Lib.hid hr1
          have HL1 : Hid (w.heap.size ≤ w1.heap.size) := Nat.le_trans HBk.out.size hb1.size
          have HL2 : Hid (wr0 < w1.heap.size) := Nat.lt_of_lt_of_le (Array.getElem?_eq_some_iff.1 HNk.out).1 hb1.size
          clear hb1 hbr1 hr1
          go_wp2_with fail
          change Calls _ _ _ (w1.alloc (.cells #[.int .u8 4, .string ⟨#[114]⟩, .int .i64 0, .int .i64 0, .slice none 0 0] 25)) _
          rw [← hwr1]
          clear hwr1
          refine Calls.mono (law7of_any 1 ⟨#[]⟩ (some ⟨w1.heap.size, 0, none⟩) 1 1 wr1) ?_
          rintro e w2' ⟨rfl, hb2⟩
          obtain ⟨w4, hw4⟩ : ∃ x, x = w2'.alloc (.cells #[.int .u8 1, .string ⟨#[]⟩, .int .i64 0, .int .i64 0, .slice (some ⟨w1.heap.size, 0, none⟩) 1 1] 25) := ⟨_, rfl⟩
          have hb4 : Below w2'.heap.size w2' w4 := by rw [hw4]; exact (Below.refl _ w2').alloc (Nat.le_refl _) _
          have hr4 : w4.heap[w2'.heap.size]? = some (.cells #[.int .u8 1, .string ⟨#[]⟩, .int .i64 0, .int .i64 0, .slice (some ⟨w1.heap.size, 0, none⟩) 1 1] 25 (0, 0)) := by rw [hw4]; exact heap_alloc_new w2' _
          have hb24 := hb2.trans (hb4.mono hb2.size)
          have HB4 := Lib.hid (HB1.out.trans (hb24.mono HB1.out.size))
          have HN4 := Lib.hid (heap_below hb24 HN1.out (Array.getElem?_eq_some_iff.1 HN1.out).1)
          have HR4 := Lib.hid (heap_below hb24 HR1.out (Array.getElem?_eq_some_iff.1 HR1.out).1)
          have HM4 := Lib.hid hr4
          have HL4 : Hid (w1.heap.size < w2'.heap.size) := Nat.lt_of_lt_of_le (Array.getElem?_eq_some_iff.1 HR1.out).1 hb2.size
          clear hb2 hb4 hr4 hb24
          go_upto_region 23 with fail
          change Code.wp _ _ _ _ (w2'.alloc (.cells #[.int .u8 1, .string ⟨#[]⟩, .int .i64 0, .int .i64 0, .slice (some ⟨w1.heap.size, 0, none⟩) 1 1] 25))
          rw [← hw4]
          clear hw4
          obtain ⟨a0, a1, a2, a3, a4⟩ := cells5 HM4.out
          have hzc : w4.cell? ⟨wr0, k, none⟩ = some (.int .i64 z) := by rw [cell_of_row _ _ _ _ _ _ HN4.out]; exact hz
          have C := fun x : Wb w4 => x.cell hzc
          have A4 := fun x : Wb w4 => x.cell a4
          clear a0 a1 a2 a3 a4 hzc
          refine RE.wp_region_eff (by kernel_rfl) 8 [] [] (fun _ W => ∃ x : Wb w4, W = x.1) (fun W W' => Below W.heap.size W W') (fun _ _ => undef) (fun _ _ _ => True) (by kernel_rfl) (fun _ _ _ _ _ _ h hb => wb_step h hb) (fun _ _ _ _ _ _ _ => trivial) (wb_drew w4) ?_
          simp only [List.take_succ_cons, List.take_zero, List.drop_succ_cons, List.drop_zero]
          repeat (refine RE.wpE_read (fun W => ∃ x : Wb w4, W = x.1) (fun _ _ _ h => h) rfl rfl rfl (wb_drew w4) ?_; go_big_quiet_step (fail); refine wpQuiet_nil ?_)
          refine RE.wpE_nil ?_
          intro W hS hE
          have hbW := wb_below hS
          have HBW := Lib.hid (HB4.out.trans (hbW.mono HB4.out.size))
          have HNW := Lib.hid (heap_below hbW HN4.out (Array.getElem?_eq_some_iff.1 HN4.out).1)
          have hRW := heap_below hbW HR4.out (Array.getElem?_eq_some_iff.1 HR4.out).1
          have HMW := Lib.hid (heap_below hbW HM4.out (Array.getElem?_eq_some_iff.1 HM4.out).1)
          clear hS hE hbW C A4
          obtain ⟨b0, b1, b2, b3, b4⟩ := cells5 hRW
          have f2 := frozen5 hRW 2
          obtain ⟨w5, hw5⟩ : ∃ x, x = W.setCell ⟨w1.heap.size, 2, none⟩ (.int .i64 z) := ⟨_, rfl⟩
          have hne : w2'.heap.size ≠ w1.heap.size := by have := HL4.out; omega
          have hne2 : wr0 ≠ w1.heap.size := by have := HL2.out; omega
          have HB5 : Hid (Below w.heap.size w w5) := by show Below _ _ _; rw [hw5]; exact HBW.out.setCell (p := ⟨w1.heap.size, 2, none⟩) HL1.out _
          have HR5 : Hid (w5.heap[w1.heap.size]? = some (.cells #[.int .u8 4, .string ⟨#[114]⟩, .int .i64 z, .int .i64 0, .slice none 0 0] 25 (0, 0))) := by show _ = _; rw [hw5, heap_set hRW 2 _]; rfl
          have HM5 : Hid (w5.heap[w2'.heap.size]? = some (.cells #[.int .u8 1, .string ⟨#[]⟩, .int .i64 0, .int .i64 0, .slice (some ⟨w1.heap.size, 0, none⟩) 1 1] 25 (0, 0))) := by show _ = _; rw [hw5]; exact (Below.heap_setCell _ _ _ _ hne).trans HMW.out
          have HN5 : Hid (w5.heap[wr0]? = some (.cells #[.int .i64 (-2147483647), .int .i64 (-1), .int .i64 1, .int .i64 2147483647, .int .i64 2147483648] 3 (0, 0))) := by show _ = _; rw [hw5]; exact (Below.heap_setCell _ _ _ _ hne2).trans HNW.out
          have HV : Hid (NodeAt w5 w5.heap.size 1 (.mk 1 ⟨#[]⟩ 0 0 [.mk 4 ⟨#[114]⟩ z 0 []]) (.agg #[.int .u8 1, .string ⟨#[]⟩, .int .i64 0, .int .i64 0, .slice (some ⟨w1.heap.size, 0, none⟩) 1 1])) := num_node HR5.out hzl hzu
          have HT5 := Lib.hid (HTab.out w5 HB5.out)
          clear hRW hne hne2
          go_upto_region 24 with fail
          change Code.wp _ _ _ _ (W.setCell ⟨w1.heap.size, 2, none⟩ (.int .i64 z))
          rw [← hw5]
          clear hw5 b0 b1 b2 b3 b4 f2
          obtain ⟨a0, a1, a2, a3, a4⟩ := cells5 HM5.out
          go_wp2_with fail
          refine Calls.mono (law_showTells 1 _ _ _ w5 HV.out (Nat.le_refl _) HT5.out.1 HT5.out.2) ?_
          rintro e w6 ⟨rfl, hb6⟩
          have HB6 := Lib.hid (HB5.out.trans (hb6.mono HB5.out.size))
          have HN6 := Lib.hid (heap_below hb6 HN5.out (Array.getElem?_eq_some_iff.1 HN5.out).1)
          clear hb6 a0 a1 a2 a3 a4
          go_wp2_with fail
          exact ⟨⟨k + 1, by omega, by go_num, HB6.out, HN6.out⟩, by simp [intOf]; omega⟩
        · obtain rfl : k = 5 := by omega
          have HBq := Lib.hid HBk.out
          clear HNk
          go_wp2_with fail
          refine Calls.mono (law7of_any 1 ⟨#[]⟩ none 0 0 _) ?_
          rintro e y1 ⟨rfl, hby1⟩
          have HBy1 := Lib.hid (HBq.out.trans (hby1.mono HBq.out.size))
          clear hby1
          go_wp2_with fail
          refine Calls.mono (show_some _ y1 (some_leaf 1 ⟨#[]⟩ _ rfl rfl) (HTab.out _ HBy1.out).1 (HTab.out _ HBy1.out).2) ?_
          rintro e y2 ⟨rfl, hby2⟩
          have HBy2 := Lib.hid (HBy1.out.trans (hby2.mono HBy1.out.size))
          clear hby2
          go_wp2_with fail
          refine Calls.mono (law7of_any 2 ⟨#[97]⟩ none 0 0 _) ?_
          rintro e y3 ⟨rfl, hby3⟩
          have HBy3 := Lib.hid (HBy2.out.trans (hby3.mono HBy2.out.size))
          clear hby3
          go_wp2_with fail
          refine Calls.mono (law7of_any 3 ⟨#[98]⟩ none 0 0 _) ?_
          rintro e y4 ⟨rfl, hby4⟩
          have HBy4 := Lib.hid (HBy3.out.trans (hby4.mono HBy3.out.size))
          clear hby4
          go_wp2_with fail
          refine Calls.mono (law7of_any 3 ⟨#[99]⟩ none 0 0 _) ?_
          rintro e y5 ⟨rfl, hby5⟩
          have HBy5 := Lib.hid (HBy4.out.trans (hby5.mono HBy4.out.size))
          clear hby5
          obtain ⟨y6, hy6⟩ : ∃ x, x = y5.alloc (.cells #[.int .u8 3, .string ⟨#[98]⟩, .int .i64 0, .int .i64 0, .slice none 0 0, .int .u8 3, .string ⟨#[99]⟩, .int .i64 0, .int .i64 0, .slice none 0 0] 25) := ⟨_, rfl⟩
          have hby6 : Below y5.heap.size y5 y6 := by rw [hy6]; exact (Below.refl _ _).alloc (Nat.le_refl _) _
          have HK2 : Hid (SomeK y6 (.slice (some ⟨y5.heap.size, 0, none⟩) 2 2)) := by
            show SomeK _ _
            rw [hy6]
            exact some_row (W := y5) [[.int .u8 3, .string ⟨#[98]⟩, .int .i64 0, .int .i64 0, .slice none 0 0], [.int .u8 3, .string ⟨#[99]⟩, .int .i64 0, .int .i64 0, .slice none 0 0]] (by simp only [List.forall_mem_cons, List.not_mem_nil, false_implies, implies_true, and_true]; exact ⟨some_leaf 3 ⟨#[98]⟩ _ rfl rfl, some_leaf 3 ⟨#[99]⟩ _ rfl rfl⟩) (by simp)
          have HBy6 := Lib.hid (HBy5.out.trans (hby6.mono HBy5.out.size))
          clear hby6
          go_wp2_with fail
          change Calls _ _ _ (y5.alloc (.cells #[.int .u8 3, .string ⟨#[98]⟩, .int .i64 0, .int .i64 0, .slice none 0 0, .int .u8 3, .string ⟨#[99]⟩, .int .i64 0, .int .i64 0, .slice none 0 0] 25)) _
          rw [← hy6]
          clear hy6
          refine Calls.mono (law7of_any 2 ⟨#[97]⟩ (some ⟨y5.heap.size, 0, none⟩) 2 2 y6) ?_
          rintro e y7 ⟨rfl, hby7⟩
          have HBy7 := Lib.hid (HBy6.out.trans (hby7.mono HBy6.out.size))
          have HK2 := Lib.hid (HK2.out.below hby7)
          clear hby7
          go_wp2_with fail
          refine Calls.mono (law7of_any 12 ⟨#[]⟩ none 0 0 _) ?_
          rintro e y8 ⟨rfl, hby8⟩
          have HBy8 := Lib.hid (HBy7.out.trans (hby8.mono HBy7.out.size))
          have HK2 := Lib.hid (HK2.out.below hby8)
          clear hby8
          obtain ⟨y9, hy9⟩ : ∃ x, x = y8.alloc (.cells #[.int .u8 12, .string ⟨#[]⟩, .int .i64 0, .int .i64 0, .slice none 0 0] 25) := ⟨_, rfl⟩
          have hby9 : Below y8.heap.size y8 y9 := by rw [hy9]; exact (Below.refl _ _).alloc (Nat.le_refl _) _
          have HK1 : Hid (SomeK y9 (.slice (some ⟨y8.heap.size, 0, none⟩) 1 1)) := by
            show SomeK _ _
            rw [hy9]
            exact some_row (W := y8) [[.int .u8 12, .string ⟨#[]⟩, .int .i64 0, .int .i64 0, .slice none 0 0]] (by simp only [List.forall_mem_cons, List.not_mem_nil, false_implies, implies_true, and_true]; exact some_leaf 12 ⟨#[]⟩ _ rfl rfl) (by simp)
          have HBy9 := Lib.hid (HBy8.out.trans (hby9.mono HBy8.out.size))
          have HK2 := Lib.hid (HK2.out.below hby9)
          clear hby9
          go_wp2_with fail
          change Calls _ _ _ (y8.alloc (.cells #[.int .u8 12, .string ⟨#[]⟩, .int .i64 0, .int .i64 0, .slice none 0 0] 25)) _
          rw [← hy9]
          clear hy9
          refine Calls.mono (law7of_any 6 ⟨#[97]⟩ (some ⟨y8.heap.size, 0, none⟩) 1 1 y9) ?_
          rintro e y10 ⟨rfl, hby10⟩
          have HBy10 := Lib.hid (HBy9.out.trans (hby10.mono HBy9.out.size))
          have HK2 := Lib.hid (HK2.out.below hby10)
          have HK1 := Lib.hid (HK1.out.below hby10)
          clear hby10
          go_wp2_with fail
          refine Calls.mono (law7of_any 8 ⟨#[97]⟩ none 0 0 _) ?_
          rintro e y11 ⟨rfl, hby11⟩
          have HBy11 := Lib.hid (HBy10.out.trans (hby11.mono HBy10.out.size))
          have HK2 := Lib.hid (HK2.out.below hby11)
          have HK1 := Lib.hid (HK1.out.below hby11)
          clear hby11
          go_wp2_with fail
          refine Calls.mono (law7of_any 9 ⟨#[]⟩ none 0 0 _) ?_
          rintro e y12 ⟨rfl, hby12⟩
          have HBy12 := Lib.hid (HBy11.out.trans (hby12.mono HBy11.out.size))
          have HK2 := Lib.hid (HK2.out.below hby12)
          have HK1 := Lib.hid (HK1.out.below hby12)
          clear hby12
          go_wp2_with fail
          refine Calls.mono (law7of_any 11 ⟨#[]⟩ none 0 0 _) ?_
          rintro e y13 ⟨rfl, hby13⟩
          have HBy13 := Lib.hid (HBy12.out.trans (hby13.mono HBy12.out.size))
          have HK2 := Lib.hid (HK2.out.below hby13)
          have HK1 := Lib.hid (HK1.out.below hby13)
          clear hby13
          have HN6 : Hid (SomeN y13 (.agg #[.int .u8 6, .string ⟨#[97]⟩, .int .i64 0, .int .i64 0, .slice (some ⟨y8.heap.size, 0, none⟩) 1 1])) := some_of 6 ⟨#[97]⟩ y13 rfl rfl HK1.out
          obtain ⟨y14, hy14⟩ : ∃ x, x = y13.alloc (.cells #[.int .u8 6, .string ⟨#[97]⟩, .int .i64 0, .int .i64 0, .slice (some ⟨y8.heap.size, 0, none⟩) 1 1, .int .u8 8, .string ⟨#[97]⟩, .int .i64 0, .int .i64 0, .slice none 0 0, .int .u8 9, .string ⟨#[]⟩, .int .i64 0, .int .i64 0, .slice none 0 0, .int .u8 11, .string ⟨#[]⟩, .int .i64 0, .int .i64 0, .slice none 0 0] 25) := ⟨_, rfl⟩
          have hby14 : Below y13.heap.size y13 y14 := by rw [hy14]; exact (Below.refl _ _).alloc (Nat.le_refl _) _
          have HK4 : Hid (SomeK y14 (.slice (some ⟨y13.heap.size, 0, none⟩) 4 4)) := by
            show SomeK _ _
            rw [hy14]
            exact some_row (W := y13) [[.int .u8 6, .string ⟨#[97]⟩, .int .i64 0, .int .i64 0, .slice (some ⟨y8.heap.size, 0, none⟩) 1 1], [.int .u8 8, .string ⟨#[97]⟩, .int .i64 0, .int .i64 0, .slice none 0 0], [.int .u8 9, .string ⟨#[]⟩, .int .i64 0, .int .i64 0, .slice none 0 0], [.int .u8 11, .string ⟨#[]⟩, .int .i64 0, .int .i64 0, .slice none 0 0]] (by simp only [List.forall_mem_cons, List.not_mem_nil, false_implies, implies_true, and_true]; exact ⟨HN6.out, some_leaf 8 ⟨#[97]⟩ _ rfl rfl, some_leaf 9 ⟨#[]⟩ _ rfl rfl, some_leaf 11 ⟨#[]⟩ _ rfl rfl⟩) (by simp)
          have HBy14 := Lib.hid (HBy13.out.trans (hby14.mono HBy13.out.size))
          have HK2 := Lib.hid (HK2.out.below hby14)
          clear hby14
          go_wp2_with fail
          change Calls _ _ _ (y13.alloc (.cells #[.int .u8 6, .string ⟨#[97]⟩, .int .i64 0, .int .i64 0, .slice (some ⟨y8.heap.size, 0, none⟩) 1 1, .int .u8 8, .string ⟨#[97]⟩, .int .i64 0, .int .i64 0, .slice none 0 0, .int .u8 9, .string ⟨#[]⟩, .int .i64 0, .int .i64 0, .slice none 0 0, .int .u8 11, .string ⟨#[]⟩, .int .i64 0, .int .i64 0, .slice none 0 0] 25)) _
          rw [← hy14]
          clear hy14
          refine Calls.mono (law7of_any 4 ⟨#[114]⟩ (some ⟨y13.heap.size, 0, none⟩) 4 4 y14) ?_
          rintro e y15 ⟨rfl, hby15⟩
          have HBy15 := Lib.hid (HBy14.out.trans (hby15.mono HBy14.out.size))
          have HK2 := Lib.hid (HK2.out.below hby15)
          have HK4 := Lib.hid (HK4.out.below hby15)
          clear hby15
          have HN2 : Hid (SomeN y15 (.agg #[.int .u8 2, .string ⟨#[97]⟩, .int .i64 0, .int .i64 0, .slice (some ⟨y5.heap.size, 0, none⟩) 2 2])) := some_of 2 ⟨#[97]⟩ y15 rfl rfl HK2.out
          have HN4 : Hid (SomeN y15 (.agg #[.int .u8 4, .string ⟨#[114]⟩, .int .i64 0, .int .i64 0, .slice (some ⟨y13.heap.size, 0, none⟩) 4 4])) := some_of 4 ⟨#[114]⟩ y15 rfl rfl HK4.out
          obtain ⟨y16, hy16⟩ : ∃ x, x = y15.alloc (.cells #[.int .u8 2, .string ⟨#[97]⟩, .int .i64 0, .int .i64 0, .slice none 0 0, .int .u8 2, .string ⟨#[97]⟩, .int .i64 0, .int .i64 0, .slice (some ⟨y5.heap.size, 0, none⟩) 2 2, .int .u8 4, .string ⟨#[114]⟩, .int .i64 0, .int .i64 0, .slice (some ⟨y13.heap.size, 0, none⟩) 4 4] 25) := ⟨_, rfl⟩
          have hby16 : Below y15.heap.size y15 y16 := by rw [hy16]; exact (Below.refl _ _).alloc (Nat.le_refl _) _
          have HK3 : Hid (SomeK y16 (.slice (some ⟨y15.heap.size, 0, none⟩) 3 3)) := by
            show SomeK _ _
            rw [hy16]
            exact some_row (W := y15) [[.int .u8 2, .string ⟨#[97]⟩, .int .i64 0, .int .i64 0, .slice none 0 0], [.int .u8 2, .string ⟨#[97]⟩, .int .i64 0, .int .i64 0, .slice (some ⟨y5.heap.size, 0, none⟩) 2 2], [.int .u8 4, .string ⟨#[114]⟩, .int .i64 0, .int .i64 0, .slice (some ⟨y13.heap.size, 0, none⟩) 4 4]] (by simp only [List.forall_mem_cons, List.not_mem_nil, false_implies, implies_true, and_true]; exact ⟨some_leaf 2 ⟨#[97]⟩ _ rfl rfl, HN2.out, HN4.out⟩) (by simp)
          have HBy16 := Lib.hid (HBy15.out.trans (hby16.mono HBy15.out.size))
          clear hby16
          go_wp2_with fail
          change Calls _ _ _ (y15.alloc (.cells #[.int .u8 2, .string ⟨#[97]⟩, .int .i64 0, .int .i64 0, .slice none 0 0, .int .u8 2, .string ⟨#[97]⟩, .int .i64 0, .int .i64 0, .slice (some ⟨y5.heap.size, 0, none⟩) 2 2, .int .u8 4, .string ⟨#[114]⟩, .int .i64 0, .int .i64 0, .slice (some ⟨y13.heap.size, 0, none⟩) 4 4] 25)) _
          rw [← hy16]
          clear hy16
          refine Calls.mono (law7of_any 1 ⟨#[]⟩ (some ⟨y15.heap.size, 0, none⟩) 3 3 y16) ?_
          rintro e y17 ⟨rfl, hby17⟩
          have HBy17 := Lib.hid (HBy16.out.trans (hby17.mono HBy16.out.size))
          have HK3 := Lib.hid (HK3.out.below hby17)
          clear hby17
          have HN1 : Hid (SomeN y17 (.agg #[.int .u8 1, .string ⟨#[]⟩, .int .i64 0, .int .i64 0, .slice (some ⟨y15.heap.size, 0, none⟩) 3 3])) := some_of 1 ⟨#[]⟩ y17 rfl rfl HK3.out
          go_wp2_with fail
          refine Calls.mono (show_some _ y17 HN1.out (HTab.out _ HBy17.out).1 (HTab.out _ HBy17.out).2) ?_
          rintro e y18 ⟨rfl, hby18⟩
          have HBy18 := Lib.hid (HBy17.out.trans (hby18.mono HBy17.out.size))
          clear hby18
          go_wp2_with fail
          refine Calls.mono (awake7_any y18 (HTab.out _ HBy18.out).1 (HTab.out _ HBy18.out).2) ?_
          rintro e yz ⟨rfl, hbz⟩
          have HBz := Lib.hid (HBy18.out.trans (hbz.mono HBy18.out.size))
          clear hbz
          go_wp2_with fail
          go_ret
          exact ⟨rfl, HBz.out⟩
end Go.Proofs.YtoekldhdojpceaaGreatDoor
