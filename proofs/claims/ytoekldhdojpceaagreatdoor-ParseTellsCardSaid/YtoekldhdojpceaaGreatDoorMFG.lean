/- Several texts joined, each with its own sentence and conditions ahead of it: FlatG, FlatH. -/
import Derived.Test.YtoekldhdojpceaaGreatDoorMFA
import Derived.Test.YtoekldhdojpceaaGreatDoorMFD
import Derived.Test.YtoekldhdojpceaaGreatDoorMFE
/- The bag's lists lie apart; those of two trees, each in blocks of its own, lie apart. Condition: at most 60000 lists, each of at most 20000 nodes. (Printed by tools/genApart.py.) -/
namespace Go.Proofs.YtoekldhdojpceaaGreatDoor
open Go.RowKit

theorem cell_bag {W : World} {Bg : Nat} {v : Value} (h : W.heap[Bg]? = some (.cells (bagC v) 106 (0, 0))) (i : Nat) (hi : (bagC v)[i]? = some (.slice none 0 0)) : W.cell? ⟨Bg, i, none⟩ = some (.slice none 0 0) := by
  rw [cell_of_row _ _ _ _ _ _ h]; exact hi
theorem cell_bag9 {W : World} {Bg : Nat} {v : Value} (h : W.heap[Bg]? = some (.cells (bagC v) 106 (0, 0))) : W.cell? ⟨Bg, 9, none⟩ = some v := by
  rw [cell_of_row _ _ _ _ _ _ h]; rfl
theorem dg_not {B b0 : Nat} {c0 : Array Value} {D : List (Value × Nat)} {q : Nat → Nat → List Value → Prop} {W : World} (h : Fm B b0 c0 D q W) {b : Nat} {cs : Array Value} {t : TypeId} (ht : t ≠ 25) (hb : W.heap[b]? = some (.cells cs t (0, 0))) : ¬ Dg D b := by
  rintro ⟨k, v, n, hd, hv⟩
  obtain ⟨xs, ho, _⟩ := h.2 k v n hd
  obtain ⟨ds, hg⟩ := owns_type ho hv
  rw [hb] at hg
  simp only [Option.some.injEq, Obj.cells.injEq, and_true] at hg
  exact ht hg.2
theorem fm_below {B b0 : Nat} {c0 : Array Value} {D : List (Value × Nat)} {w W : World} (hF : Fm B b0 c0 D (fun _ _ _ => True) w) (hb : Below w.heap.size w W) : Fm B b0 c0 D (fun _ _ _ => True) W :=
  ⟨(hb.block b0 (Array.getElem?_eq_some_iff.1 hF.1).1).trans hF.1, fun k v n hd => (hF.2 k v n hd).imp fun _ h => ⟨owns_below h.1 hb, trivial⟩⟩
theorem bag_chg {B b0 Bg : Nat} {c0 : Array Value} {D : List (Value × Nat)} {v : Value} {w W : World} (hF : Fm B b0 c0 D (fun _ _ _ => True) w) (hx : w.heap[Bg]? = some (.cells (bagC v) 106 (0, 0))) (hc : Chg (Dg D) w W) : W.heap[Bg]? = some (.cells (bagC v) 106 (0, 0)) :=
  (hc.block Bg (Array.getElem?_eq_some_iff.1 hx).1 (dg_not hF (by decide) hx)).trans hx
theorem got_in {B b0 : Nat} {w : World} {F : Nat → Prop} {D : List (Value × Nat)} {c0 : Array Value} (hg : Got B w F D) (hN : D.length ≤ 60000) (hb0 : w.heap[b0]? = some (.cells c0 23 (0, 0))) (hc : c0.toList.take (D.length * 1) = D.map (·.1)) :
    FIn B b0 c0 D ∧ Fm B b0 c0 D (fun _ _ _ => True) w := by
  have hmem : ∀ (k : Nat) (v : Value) (n : Nat), D[k]? = some (v, n) → (v, n) ∈ D := fun k v n h => List.mem_of_getElem? h
  refine ⟨⟨by omega, fun k v n h => (hg.rows _ (hmem k v n h)).2.1, fun k v n h => ?_, fun i j v u n m g hi hj hij hv hu => ?_⟩, hb0, fun k v n h => (hg.rows _ (hmem k v n h)).1.imp fun _ hx => ⟨hx, trivial⟩⟩
  · have hk : k < D.length := (List.getElem?_eq_some_iff.1 h).1
    have h1 : (c0.toList.take (D.length * 1))[k]? = some v := by rw [hc, List.getElem?_map, h]; rfl
    rw [List.getElem?_take, if_pos (by omega)] at h1
    simpa using h1
  · obtain ⟨hi', hi⟩ := List.getElem?_eq_some_iff.1 hi
    obtain ⟨hj', hj⟩ := List.getElem?_eq_some_iff.1 hj
    have hp := List.pairwise_iff_getElem.1 hg.apart
    rcases Nat.lt_or_gt_of_ne hij with h | h
    · have := hp i j hi' hj' h g (by rw [hi]; exact hv)
      rw [hj] at this
      exact this hu
    · have := hp j i hj' hi' h g (by rw [hj]; exact hu)
      rw [hi] at this
      exact this hv
set_option maxRecDepth 100000 in
set_option maxHeartbeats 4000000 in
theorem apart_any {w : World} {Bg B Bt : Nat} {F : Nat → Prop} {D : List (Value × Nat)} (hb : BagAt w Bg B D) (hg : Got Bt w F D) (hF : ∀ b, F b → Bt ≤ b) (hN : D.length ≤ 60000) (hN0 : 0 < D.length) (hB : Bt ≤ w.heap.size) :
    Calls Tryz.prog 50 #[.pointer (some ⟨Bg, 0, none⟩)] w fun e w' => e = .returned (.bool true) ∧ Below Bt w w' := by
  obtain ⟨v, h1, h2, h3⟩ := hb
  obtain ⟨b0, cap0, c0, rfl, hb0, hc0, _, _, _, htk⟩ := h2.2.resolve_left (by rintro ⟨_, h⟩; omega)
  obtain ⟨hI, hFm⟩ := got_in hg hN hc0 htk
  have hDg : ∀ b, Dg D b → Bt ≤ b := by
    rintro b ⟨k, v, n, hd, hv⟩
    exact hF b ((hg.rows _ (List.mem_of_getElem? hd)).2.2 b hv)
  have HI := Lib.hid hI
  have HF := Lib.hid hFm
  have HDg := Lib.hid hDg
  have X0 := Lib.hid h1
  have C0 := Lib.hid (Chg.refl (Dg D) w)
  have B0 := Lib.hid (Below.refl w.heap.size w)
  have c0 := cell_bag h1 0 rfl
  clear hI hFm hDg hg hF h1 h2 h3 hb0 hc0 htk
  go_enter Tryz.func50, Tryz.ntmps50
  go_wp2_with (first
    | (go_at_call 81; refine Calls.mono (flatLimbs_nil _) ?_; rintro e w1 ⟨rfl, hb1⟩; have X1 := Lib.hid ((hb1.block Bg (Array.getElem?_eq_some_iff.1 X0.out).1).trans X0.out); have C1 := Lib.hid (C0.out.trans (Chg.of_below hb1)); have B1 := Lib.hid (B0.out.trans (hb1.mono B0.out.size)); clear c0; have c1 := cell_bag X1.out 1 rfl)
    | (go_at_call 82; refine Calls.mono (flatWords_nil _) ?_; rintro e w2 ⟨rfl, hb2⟩; have X2 := Lib.hid ((hb2.block Bg (Array.getElem?_eq_some_iff.1 X1.out).1).trans X1.out); have C2 := Lib.hid (C1.out.trans (Chg.of_below hb2)); have B2 := Lib.hid (B1.out.trans (hb2.mono B1.out.size)); clear c1; have c2 := cell_bag X2.out 2 rfl)
    | (go_at_call 83; refine Calls.mono (flatInts_nil _) ?_; rintro e w3 ⟨rfl, hb3⟩; have X3 := Lib.hid ((hb3.block Bg (Array.getElem?_eq_some_iff.1 X2.out).1).trans X2.out); have C3 := Lib.hid (C2.out.trans (Chg.of_below hb3)); have B3 := Lib.hid (B2.out.trans (hb3.mono B2.out.size)); clear c2; have c3 := cell_bag X3.out 3 rfl)
    | (go_at_call 84; refine Calls.mono (flatLongs_nil _) ?_; rintro e w4 ⟨rfl, hb4⟩; have X4 := Lib.hid ((hb4.block Bg (Array.getElem?_eq_some_iff.1 X3.out).1).trans X3.out); have C4 := Lib.hid (C3.out.trans (Chg.of_below hb4)); have B4 := Lib.hid (B3.out.trans (hb4.mono B3.out.size)); clear c3; have c4 := cell_bag X4.out 4 rfl)
    | (go_at_call 85; refine Calls.mono (flatTexts_nil _) ?_; rintro e w5 ⟨rfl, hb5⟩; have X5 := Lib.hid ((hb5.block Bg (Array.getElem?_eq_some_iff.1 X4.out).1).trans X4.out); have C5 := Lib.hid (C4.out.trans (Chg.of_below hb5)); have B5 := Lib.hid (B4.out.trans (hb5.mono B4.out.size)); clear c4; have c5 := cell_bag X5.out 5 rfl)
    | (go_at_call 86; refine Calls.mono (flatBytes_nil _) ?_; rintro e w6 ⟨rfl, hb6⟩; have X6 := Lib.hid ((hb6.block Bg (Array.getElem?_eq_some_iff.1 X5.out).1).trans X5.out); have C6 := Lib.hid (C5.out.trans (Chg.of_below hb6)); have B6 := Lib.hid (B5.out.trans (hb6.mono B5.out.size)); clear c5; have c6 := cell_bag X6.out 6 rfl)
    | (go_at_call 87; refine Calls.mono (flatValues_nil _) ?_; rintro e w7 ⟨rfl, hb7⟩; have X7 := Lib.hid ((hb7.block Bg (Array.getElem?_eq_some_iff.1 X6.out).1).trans X6.out); have C7 := Lib.hid (C6.out.trans (Chg.of_below hb7)); have B7 := Lib.hid (B6.out.trans (hb7.mono B6.out.size)); clear c6; have c7 := cell_bag X7.out 7 rfl)
    | (go_at_call 88; refine Calls.mono (flatFacts_nil _) ?_; rintro e w8 ⟨rfl, hb8⟩; have X8 := Lib.hid ((hb8.block Bg (Array.getElem?_eq_some_iff.1 X7.out).1).trans X7.out); have C8 := Lib.hid (C7.out.trans (Chg.of_below hb8)); have B8 := Lib.hid (B7.out.trans (hb8.mono B7.out.size)); clear c7; have c8 := cell_bag X8.out 8 rfl)
    | (go_at_call 89; refine Calls.mono (flatLexes_nil _) ?_; rintro e w9 ⟨rfl, hb9⟩; have X9 := Lib.hid ((hb9.block Bg (Array.getElem?_eq_some_iff.1 X8.out).1).trans X8.out); have C9 := Lib.hid (C8.out.trans (Chg.of_below hb9)); have B9 := Lib.hid (B8.out.trans (hb9.mono B8.out.size)); clear c8; have c9 := cell_bag9 X9.out)
    | (go_at_call 90; refine Calls.mono (flatNodes_any HI.out (fm_below HF.out B9.out) (Nat.le_trans hB C9.out.size)) ?_; rintro e w10 ⟨rfl, hb10⟩; have C10 := Lib.hid (C9.out.trans hb10); have X10 := Lib.hid (bag_chg HF.out X0.out C10.out); clear c9; have c10 := cell_bag X10.out 10 rfl)
    | (go_at_call 91; refine Calls.mono (flatExprs_nil _) ?_; rintro e w11 ⟨rfl, hb11⟩; have X11 := Lib.hid ((hb11.block Bg (Array.getElem?_eq_some_iff.1 X10.out).1).trans X10.out); have C11 := Lib.hid (C10.out.trans (Chg.of_below hb11)); clear c10; have c11 := cell_bag X11.out 11 rfl)
    | (go_at_call 92; refine Calls.mono (flatArgs_nil _) ?_; rintro e w12 ⟨rfl, hb12⟩; have X12 := Lib.hid ((hb12.block Bg (Array.getElem?_eq_some_iff.1 X11.out).1).trans X11.out); have C12 := Lib.hid (C11.out.trans (Chg.of_below hb12)); clear c11; have c12 := cell_bag X12.out 12 rfl)
    | (go_at_call 93; refine Calls.mono (flatConds_nil _) ?_; rintro e w13 ⟨rfl, hb13⟩; have X13 := Lib.hid ((hb13.block Bg (Array.getElem?_eq_some_iff.1 X12.out).1).trans X12.out); have C13 := Lib.hid (C12.out.trans (Chg.of_below hb13)); clear c12; have c13 := cell_bag X13.out 13 rfl)
    | (go_at_call 94; refine Calls.mono (flatActs_nil _) ?_; rintro e w14 ⟨rfl, hb14⟩; have X14 := Lib.hid ((hb14.block Bg (Array.getElem?_eq_some_iff.1 X13.out).1).trans X13.out); have C14 := Lib.hid (C13.out.trans (Chg.of_below hb14)); clear c13; have c14 := cell_bag X14.out 14 rfl)
    | (go_at_call 95; refine Calls.mono (flatTypes_nil _) ?_; rintro e w15 ⟨rfl, hb15⟩; have X15 := Lib.hid ((hb15.block Bg (Array.getElem?_eq_some_iff.1 X14.out).1).trans X14.out); have C15 := Lib.hid (C14.out.trans (Chg.of_below hb15)); clear c14; have c15 := cell_bag X15.out 15 rfl)
    | (go_at_call 96; refine Calls.mono (flatRuleRow_nil _) ?_; rintro e w16 ⟨rfl, hb16⟩; have X16 := Lib.hid ((hb16.block Bg (Array.getElem?_eq_some_iff.1 X15.out).1).trans X15.out); have C16 := Lib.hid (C15.out.trans (Chg.of_below hb16)); clear c15; have c16 := cell_bag X16.out 16 rfl)
    | (go_at_call 97; refine Calls.mono (flatRulesRow_nil _) ?_; rintro e w17 ⟨rfl, hb17⟩; have X17 := Lib.hid ((hb17.block Bg (Array.getElem?_eq_some_iff.1 X16.out).1).trans X16.out); have C17 := Lib.hid (C16.out.trans (Chg.of_below hb17)); clear c16; have c17 := cell_bag X17.out 17 rfl)
    | (go_at_call 98; refine Calls.mono (flatTokens_nil _) ?_; rintro e w18 ⟨rfl, hb18⟩; have X18 := Lib.hid ((hb18.block Bg (Array.getElem?_eq_some_iff.1 X17.out).1).trans X17.out); have C18 := Lib.hid (C17.out.trans (Chg.of_below hb18)); clear c17; have c18 := cell_bag X18.out 18 rfl)
    | (go_at_call 99; refine Calls.mono (flatCommands_nil _) ?_; rintro e w19 ⟨rfl, hb19⟩; have X19 := Lib.hid ((hb19.block Bg (Array.getElem?_eq_some_iff.1 X18.out).1).trans X18.out); have C19 := Lib.hid (C18.out.trans (Chg.of_below hb19)); clear c18; have c19 := cell_bag X19.out 19 rfl)
    | (go_at_call 100; refine Calls.mono (flatReplies_nil _) ?_; rintro e w20 ⟨rfl, hb20⟩; have X20 := Lib.hid ((hb20.block Bg (Array.getElem?_eq_some_iff.1 X19.out).1).trans X19.out); have C20 := Lib.hid (C19.out.trans (Chg.of_below hb20)); clear c19; have c20 := cell_bag X20.out 20 rfl)
    | (go_at_call 101; refine Calls.mono (flatEntries_nil _) ?_; rintro e w21 ⟨rfl, hb21⟩; have X21 := Lib.hid ((hb21.block Bg (Array.getElem?_eq_some_iff.1 X20.out).1).trans X20.out); have C21 := Lib.hid (C20.out.trans (Chg.of_below hb21)); clear c20; have c21 := cell_bag X21.out 21 rfl)
    | (go_at_call 102; refine Calls.mono (flatLetters_nil _) ?_; rintro e w22 ⟨rfl, hb22⟩; have X22 := Lib.hid ((hb22.block Bg (Array.getElem?_eq_some_iff.1 X21.out).1).trans X21.out); have C22 := Lib.hid (C21.out.trans (Chg.of_below hb22)); clear c21; have c22 := cell_bag X22.out 22 rfl)
    | (go_at_call 103; refine Calls.mono (flatSnaps_nil _) ?_; rintro e w23 ⟨rfl, hb23⟩; have X23 := Lib.hid ((hb23.block Bg (Array.getElem?_eq_some_iff.1 X22.out).1).trans X22.out); have C23 := Lib.hid (C22.out.trans (Chg.of_below hb23)); clear c22; have c23 := cell_bag X23.out 23 rfl)
    | (go_at_call 104; refine Calls.mono (flatSteps_nil _) ?_; rintro e w24 ⟨rfl, hb24⟩; have X24 := Lib.hid ((hb24.block Bg (Array.getElem?_eq_some_iff.1 X23.out).1).trans X23.out); have C24 := Lib.hid (C23.out.trans (Chg.of_below hb24)); clear c23; have c24 := cell_bag X24.out 24 rfl)
    | (go_at_call 105; refine Calls.mono (flatTales_nil _) ?_; rintro e w25 ⟨rfl, hb25⟩; have X25 := Lib.hid ((hb25.block Bg (Array.getElem?_eq_some_iff.1 X24.out).1).trans X24.out); have C25 := Lib.hid (C24.out.trans (Chg.of_below hb25)); clear c24; have c25 := cell_bag X25.out 25 rfl)
    | (go_at_call 106; refine Calls.mono (flatStates_nil _) ?_; rintro e w26 ⟨rfl, hb26⟩; have X26 := Lib.hid ((hb26.block Bg (Array.getElem?_eq_some_iff.1 X25.out).1).trans X25.out); have C26 := Lib.hid (C25.out.trans (Chg.of_below hb26)); clear c25; have c26 := cell_bag X26.out 26 rfl)
    | (go_at_call 107; refine Calls.mono (flatSessions_nil _) ?_; rintro e w27 ⟨rfl, hb27⟩; have X27 := Lib.hid ((hb27.block Bg (Array.getElem?_eq_some_iff.1 X26.out).1).trans X26.out); have C27 := Lib.hid (C26.out.trans (Chg.of_below hb27)); clear c26; have c27 := cell_bag X27.out 27 rfl)
    | (go_at_call 108; refine Calls.mono (flatMachines_nil _) ?_; rintro e w28 ⟨rfl, hb28⟩; have X28 := Lib.hid ((hb28.block Bg (Array.getElem?_eq_some_iff.1 X27.out).1).trans X27.out); have C28 := Lib.hid (C27.out.trans (Chg.of_below hb28)); clear c27; have c28 := cell_bag X28.out 28 rfl)
    | (go_at_call 109; refine Calls.mono (flatFrames_nil _) ?_; rintro e w29 ⟨rfl, hb29⟩; have X29 := Lib.hid ((hb29.block Bg (Array.getElem?_eq_some_iff.1 X28.out).1).trans X28.out); have C29 := Lib.hid (C28.out.trans (Chg.of_below hb29)); clear c28))
  go_ret
  exact ⟨rfl, Chg.below (Below.refl _ _) C29.out HDg.out hB⟩
end Go.Proofs.YtoekldhdojpceaaGreatDoor
/- Two trees, each in blocks of its own, lie apart; by contract. Condition: at most 19000 nodes each. -/
namespace Go.Proofs.YtoekldhdojpceaaGreatDoor
open Go.RowKit

def rootT (t : Tree) : Tree := .mk 0 ⟨#[]⟩ 0 0 [t]
theorem root_many (d : Nat) (t : Tree) : manyF (d + 1) (rootT t) = 1 + manyF d t := by
  rw [manyF_sum]
  simp [rootT, Tree.kids]
def ApRel (w : World) (Bt d : Nat) (ta tb : Tree) (Fa Fb : Nat → Prop) (i : Value) (W : World) : Prop :=
  ∃ (W1 : World) (k : Nat) (E : List (Value × Nat)), W1 = W ∧ k ≤ 2 ∧ i = .int .i64 k ∧ Below w.heap.size w W1 ∧ BagAt W1 w.heap.size w.heap.size E ∧
    E.length = (if 0 < k then 1 + manyF d ta else 0) + (if 1 < k then 1 + manyF d tb else 0) ∧ Got Bt W1 (fun b => (0 < k ∧ Fa b) ∨ (1 < k ∧ Fb b)) E
set_option maxRecDepth 100000 in
set_option maxHeartbeats 4000000 in
theorem apartNodes_any {w : World} {Bt o c d : Nat} {ta tb : Tree} {la lb : Value} {Fa Fb : Nat → Prop} (ha : OwnAt w (d + 1) [ta] la Fa) (hb : OwnAt w (d + 1) [tb] lb Fb) (hda : ∀ b, Fa b → Bt ≤ b) (hdb : ∀ b, Fb b → Bt ≤ b) (hdis : ∀ b, Fa b → ¬ Fb b)
    (ma : manyF d ta ≤ 19000) (mb : manyF d tb ≤ 19000) (h0 : w.cell? ⟨o, 0, none⟩ = some la) (h1 : w.cell? ⟨o, 1, none⟩ = some lb) (hB : Bt ≤ w.heap.size) :
    Calls Tryz.prog 23 #[.slice (some ⟨o, 0, none⟩) 2 c] w fun e w' => e = .returned (.bool true) ∧ Below Bt w w' := by
  obtain ⟨pa, ca, rfl⟩ := ha.shape
  obtain ⟨pb, cb, rfl⟩ := hb.shape
  have ra := root_many d ta
  have rb := root_many d tb
  obtain ⟨W0, hW0⟩ : ∃ W0, W0 = w.alloc (.cells (bagC (.slice none 0 0)) 106) := ⟨_, rfl⟩
  have hb0 : Below w.heap.size w W0 := by rw [hW0]; exact (Below.refl _ w).alloc (Nat.le_refl _) _
  have hbag : BagAt W0 w.heap.size w.heap.size [] := ⟨.slice none 0 0, by rw [hW0]; exact heap_alloc_new w _, World.ownsRow_nil _ _ _ _, Nat.le_refl _⟩
  have hW0' : w.alloc (.cells #[.slice none 0 0, .slice none 0 0, .slice none 0 0, .slice none 0 0, .slice none 0 0, .slice none 0 0, .slice none 0 0, .slice none 0 0, .slice none 0 0, .slice none 0 0, .slice none 0 0, .slice none 0 0, .slice none 0 0, .slice none 0 0, .slice none 0 0, .slice none 0 0, .slice none 0 0, .slice none 0 0, .slice none 0 0, .slice none 0 0, .slice none 0 0, .slice none 0 0, .slice none 0 0, .slice none 0 0, .slice none 0 0, .slice none 0 0, .slice none 0 0, .slice none 0 0, .slice none 0 0] 106) = W0 := hW0.symm
  have HA := Lib.hid ha
  have HB := Lib.hid hb
  have H0 := Lib.hid h0
  have H1 := Lib.hid h1
  have HB0 := Lib.hid hb0
  have HBag := Lib.hid hbag
  have HW0 := Lib.hid hW0'
  have HDa := Lib.hid hda
  have HDb := Lib.hid hdb
  have HDis := Lib.hid hdis
  clear ha hb h0 h1 hb0 hbag hW0 hW0' hda hdb hdis
  go_enter Tryz.func23, Tryz.ntmps23
  go_upto_region 2 with fail
  change Code.wp _ _ _ _ (w.alloc (.cells #[.slice none 0 0, .slice none 0 0, .slice none 0 0, .slice none 0 0, .slice none 0 0, .slice none 0 0, .slice none 0 0, .slice none 0 0, .slice none 0 0, .slice none 0 0, .slice none 0 0, .slice none 0 0, .slice none 0 0, .slice none 0 0, .slice none 0 0, .slice none 0 0, .slice none 0 0, .slice none 0 0, .slice none 0 0, .slice none 0 0, .slice none 0 0, .slice none 0 0, .slice none 0 0, .slice none 0 0, .slice none 0 0, .slice none 0 0, .slice none 0 0, .slice none 0 0, .slice none 0 0] 106))
  rw [HW0.out]
  go_wp2_with fail
  go_loopw [4] (ApRel w Bt d ta tb Fa Fb) (fun i _ => 2 - (intOf i).toNat)
  case atStart => exact ⟨_, 0, [], rfl, by omega, rfl, HB0.out, HBag.out, rfl, fun p hp => (by cases hp), List.Pairwise.nil⟩
  case round =>
    obtain ⟨W1, k, E, rfl, hk, rfl, hb1, hbag1, hE, hg1⟩ := hrel
    have HB1 := Lib.hid hb1
    have HBag1 := Lib.hid hbag1
    have HE := Lib.hid hE
    have HG1 := Lib.hid hg1
    have hs1 := hb1.size
    have c0 := (hb1.cell (p := ⟨o, 0, none⟩) (World.block_lt_of_cell? _ _ H0.out)).trans H0.out
    have c1 := (hb1.cell (p := ⟨o, 1, none⟩) (World.block_lt_of_cell? _ _ H1.out)).trans H1.out
    clear hb1 hbag1 hg1
    by_cases hk0 : k = 0
    · subst hk0
      have hE0 : E.length = 0 := by rw [hE]; rfl
      have HC := Lib.hid (put_any (d + 1) (rootT ta) (.slice pa 1 ca) Fa w.heap.size w.heap.size Bt E W1 (HA.out.node (NodeKeep.of_below HB1.out)) HDa.out HBag1.out (by omega) (by omega) hs1)
      clear hE
      go_wp2_with fail
      refine HC.out.mono ?_
      rintro e W2 ⟨rfl, hb2, hk2, hz2, D', l2, bag2, got2⟩
      have hn : ApRel w Bt d ta tb Fa Fb (.int .i64 ((0 + 1 : Nat) : Int)) W2 := by
        refine ⟨W2, 1, E ++ D', rfl, by omega, rfl, HB1.out.trans hb2, bag2, ?_, ?_⟩
        · rw [List.length_append, hE0, l2, root_many]; simp
        · rw [List.eq_nil_of_length_eq_zero hE0, List.nil_append]
          exact got2.sub fun b hb => Or.inl ⟨by omega, hb⟩
      have HNx := Lib.hid hn
      clear hb2 hk2 hz2 l2 bag2 got2 hn
      go_wp2_with fail
      exact ⟨HNx.out, by simp [intOf]⟩
    · by_cases hk1 : k = 1
      · subst hk1
        have hE1 : E.length = 1 + manyF d ta := by rw [hE]; simp
        have HC := Lib.hid (put_any (d + 1) (rootT tb) (.slice pb 1 cb) Fb w.heap.size w.heap.size Bt E W1 (HB.out.node (NodeKeep.of_below HB1.out)) HDb.out HBag1.out (by omega) (by omega) hs1)
        clear hE
        go_wp2_with fail
        refine HC.out.mono ?_
        rintro e W2 ⟨rfl, hb2, hk2, hz2, D', l2, bag2, got2⟩
        have hn : ApRel w Bt d ta tb Fa Fb (.int .i64 ((1 + 1 : Nat) : Int)) W2 := by
          refine ⟨W2, 2, E ++ D', rfl, by omega, rfl, HB1.out.trans hb2, bag2, ?_, ?_⟩
          · rw [List.length_append, hE1, l2, root_many]; simp
          · refine ((HG1.out.keep hk2).append got2 ?_).sub ?_
            · rintro b (⟨_, h⟩ | ⟨h, _⟩) hf
              · exact HDis.out b h hf
              · omega
            · rintro b ((⟨_, h⟩ | ⟨h, _⟩) | h)
              · exact Or.inl ⟨by omega, h⟩
              · omega
              · exact Or.inr ⟨by omega, h⟩
        have HNx := Lib.hid hn
        clear hb2 hk2 hz2 l2 bag2 got2 hn
        go_wp2_with fail
        exact ⟨HNx.out, by simp [intOf]⟩
      · obtain rfl : k = 2 := by omega
        have hE2 : E.length = (1 + manyF d ta) + (1 + manyF d tb) := by rw [hE]; simp
        have hap := apart_any HBag1.out HG1.out (fun b hb => by
          rcases hb with ⟨_, h⟩ | ⟨_, h⟩
          · exact HDa.out b h
          · exact HDb.out b h) (by omega) (by omega) (Nat.le_trans hB hs1)
        have HAp := Lib.hid hap
        clear hap hE hE2
        go_wp2_with fail
        refine HAp.out.mono ?_
        rintro e W2 ⟨rfl, hb2⟩
        have HF := Lib.hid ((HB1.out.mono hB).trans hb2)
        clear hb2
        go_wp2_with fail
        go_ret
        exact ⟨rfl, HF.out⟩
end Go.Proofs.YtoekldhdojpceaaGreatDoor
