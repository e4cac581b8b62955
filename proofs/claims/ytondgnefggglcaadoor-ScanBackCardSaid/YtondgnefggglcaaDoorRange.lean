/- A range over a function whose iterator keeps state of its own in cells: the statement, a round, its ends: each over the loop's record. No condition. -/
import Derived.Test.YtondgnefggglcaaDoorKit
import Derived.RangeFuncNested
import Derived.RangeFuncBound
import Derived.RangeFuncCalls
import Derived.RangeFuncLeaves
import Derived.Shelf.Abstract
import Derived.Shelf.RegionOpen
import Derived.OwnWalkIn
import Derived.TacticsInMore
import Derived.LoopNIn
import Derived.LoopIn
namespace Go.Proofs.YtondgnefggglcaaDoor
open Go.RowKit

/-- the loop's record in a state -/
def recOf (fn : FuncId) (tmps : Array Value) (ps : Array Tmp) (assign body : Code) (D : Nat) (st : LoopState) (pe : Option Code) : Loop :=
  { state := st, pending := pe, fn, tmps, params := ps, assign, body, defers := D }

theorem wpIn_range {n : Nat} {P : Program} {g : Operand} {ps : Array Tmp} {assign body : Code} {Q : Exit → Act → World → Prop} {a : Act} {w : World} (gf : Nat) (lb : Array Value) (D : Nat) (args : Array Value)
    (hg : a.eval g = .func (.func gf) #[] lb) (eg : ∀ args w, (callFunc gf args).run P w = .ok (.enter gf args) w) (hD : w.heap.size = D) (hargs : #[.func (.yield (D + 1)) #[] #[]] ++ lb = args)
    (h : ∀ fn REC W1, Hid (REC = recOf fn a.tmps ps assign body D) → Hid (W1 = (w.alloc (.deferred (some []))).alloc (.loop (REC .ready none))) →
      CallsIn Fence.wide (n - 1) P gf args W1 (rangePost Fence.wide n P (D + 1) Q { a with defers := { target := .collected D, args := #[] } :: a.defers })) :
    (Code.rangeFunc g ps assign body).wpIn Fence.wide n P Q a w := by
  refine wpIn_rangeFunc ?_
  intro fn _
  obtain ⟨W1, hW1⟩ : ∃ W1, (w.alloc (.deferred (some []))).alloc (.loop (recOf fn a.tmps ps assign body w.heap.size .ready none)) = W1 := ⟨_, rfl⟩
  have hh := h fn _ W1 (Lib.hid rfl) (Lib.hid (by rw [← hW1, hD]))
  subst hD hargs
  refine ⟨w.heap.size + 1, [{ target := .collected w.heap.size, args := #[] }], W1, { target := .fn (.func gf) lb, args := #[.func (.yield (w.heap.size + 1)) #[] #[]] }, W1, gf,
    #[.func (.yield (w.heap.size + 1)) #[] #[]] ++ lb, W1, ?_, ?_, ?_, ?_, (fun h => by cases h), ?_⟩
  · rw [← hW1]; exact run_enterLoop_outer _ _ _ _ _
  · simp only [resolve, hg]
    simp [go_sem]
  · intro f' _; trivial
  · simp [invoke, go_sem, eg]
  · exact hh

theorem yieldAt_of {n : Nat} {P : Program} {l : Nat} {fn : FuncId} {tmps : Array Value} {ps : Array Tmp} {assign body : Code} {D : Nat} {args : Array Value} {W : World} {R : Ending → World → Prop}
    {REC : LoopState → Option Code → Loop} (hR : Hid (REC = recOf fn tmps ps assign body D))
    (hl : W.heap[l]? = some (.loop (REC .ready none))) (hs : args.size = ps.size)
    (h : assign.wpIn (Fence.wide.inRound l) n P (Exit.then (fun a₁ w₁ => w₁.heap[l]? = some (.loop (REC .ready none)) ∧
        body.wpIn (Fence.wide.inRound l) n P (roundPost P l R) a₁ (w₁.putObj l (.loop (REC .busy none)))) (fun _ _ _ => False))
      { tmps := (ps.zip args).foldl (fun t (p, v) => t.setIfInBounds p v) tmps, defers := [] } W) :
    YieldAt Fence.wide n P l args W R := by
  obtain rfl := hR.out
  have hy := run_yield (P := P) (args := args) hl hs
  refine ⟨fn, _, assign, body, hy, roundIn_of_wpIn trivial (wpIn_mono h ?_)⟩
  rintro e a₁ w₁ hp
  cases e with
  | normal => exact ⟨_, run_beginRound hp.1 rfl, hp.2⟩
  | exit id => exact hp.elim
  | goto t => exact hp.elim
  | ret => exact hp.elim
  | panic c => exact hp.elim
  | outgrown => exact hp.elim

theorem roundPost_on {P : Program} {l : Nat} {fn : FuncId} {tmps : Array Value} {ps : Array Tmp} {assign body : Code} {D : Nat} {a : Act} {W : World} {R : Ending → World → Prop}
    {REC : LoopState → Option Code → Loop} (hR : Hid (REC = recOf fn tmps ps assign body D))
    (hl : W.heap[l]? = some (.loop (REC .busy none))) (h : R (.returned (.bool true)) (W.putObj l (.loop (REC .ready none)))) :
    roundPost P l R .normal a W := by
  obtain rfl := hR.out
  exact ⟨_, _, run_endRound (P := P) none hl, h⟩
theorem roundPost_ret {P : Program} {l : Nat} {fn : FuncId} {tmps : Array Value} {ps : Array Tmp} {assign body : Code} {D : Nat} {a : Act} {W : World} {R : Ending → World → Prop}
    {REC : LoopState → Option Code → Loop} (hR : Hid (REC = recOf fn tmps ps assign body D))
    (hl : W.heap[l]? = some (.loop (REC .busy none))) (h : R (.returned (.bool false)) (W.putObj l (.loop (REC .done (some .ret))))) :
    roundPost P l R .ret a W := by
  obtain rfl := hR.out
  exact ⟨_, _, run_endRound (P := P) (some .ret) hl, h⟩
theorem rangePost_on {n : Nat} {P : Program} {l : Nat} {fn : FuncId} {tmps : Array Value} {ps : Array Tmp} {assign body : Code} {D : Nat} {a : Act} {W : World} {Q : Exit → Act → World → Prop} {v : Value}
    {REC : LoopState → Option Code → Loop} (hR : Hid (REC = recOf fn tmps ps assign body D))
    (hl : W.heap[l]? = some (.loop (REC .ready none))) (h : Q .normal a (W.putObj l (.loop (REC .exhausted none)))) :
    rangePost Fence.wide n P l Q a (.returned v) W := by
  obtain rfl := hR.out
  exact ⟨none, _, run_endLoop (P := P) hl (by simp [recOf]), h⟩
theorem rangePost_ret {n : Nat} {P : Program} {l : Nat} {fn : FuncId} {tmps : Array Value} {ps : Array Tmp} {assign body : Code} {D : Nat} {a : Act} {W : World} {Q : Exit → Act → World → Prop} {v : Value}
    {REC : LoopState → Option Code → Loop} (hR : Hid (REC = recOf fn tmps ps assign body D))
    (hl : W.heap[l]? = some (.loop (REC .done (some .ret)))) (h : Code.ret.wpIn Fence.wide n P Q a (W.putObj l (.loop (REC .exhausted (some .ret))))) :
    rangePost Fence.wide n P l Q a (.returned v) W := by
  obtain rfl := hR.out
  exact ⟨some .ret, _, run_endLoop (P := P) hl (by simp [recOf]), h⟩
end Go.Proofs.YtondgnefggglcaaDoor
