/- Several texts joined, each with its own sentence and conditions ahead of it: RdK, RdL, SameP. -/
import Derived.Test.YtfpohaipmnjflaaGreatDoorMRJ
import Derived.Test.YtfpohaipmnjflaaGreatDoorMX
import Derived.Test.YtfpohaipmnjflaaGreatDoorMRB
import Derived.Test.YtfpohaipmnjflaaGreatDoorMRG
import Derived.Test.YtfpohaipmnjflaaGreatDoorMZK
import Derived.Test.YtfpohaipmnjflaaGreatDoorME
/- The document's reader: how many nodes there are; the first node too deep; by contract. Condition: at most 20000 nodes, places within a source. -/
namespace Go.Proofs.YtfpohaipmnjflaaGreatDoor
open Go.RowKit

theorem sumN_le_take (d : Nat) (ks : List Tree) (k : Nat) (t : Tree) (ht : ks[k]? = some t) : sumN d (ks.take k) + manyF d t ≤ sumN d ks ∧ sumN d (ks.take (k + 1)) = sumN d (ks.take k) + manyF d t := by
  have h1 : ks.take (k + 1) = ks.take k ++ [t] := by rw [List.take_add_one, ht]; rfl
  have h2 : sumN d (ks.take (k + 1)) = sumN d (ks.take k) + manyF d t := by rw [h1, sumN_app, sumN_one]
  refine ⟨?_, h2⟩
  rw [← h2]
  conv => rhs; rw [← List.take_append_drop (k + 1) ks, sumN_app]
  omega
def CtRel (w0 : World) (d m : Nat) (ks : List Tree) (o i : Value) (W : World) : Prop := ∃ (k : Nat), k ≤ m ∧ i = .int .i64 k ∧ Below w0.heap.size w0 W ∧ o = .int .i64 ((1 + sumN d (ks.take k) : Nat) : Int)
set_option maxRecDepth 100000 in
set_option maxHeartbeats 2000000 in
theorem rcount6_any : ∀ (d : Nat) (T : Tree) (u : Value) (B : Nat) (w : World), NodeAt w B d T u → B ≤ w.heap.size → manyF d T ≤ 20000 → Calls Tryz.prog 68 #[u] w fun e w' => e = .returned (.int .i64 (manyF d T)) ∧ Below w.heap.size w w' := by
  intro d
  induction d with
  | zero =>
    intro T u B w hu hB hn
    obtain ⟨_, s, rfl, hk⟩ := hu
    obtain ⟨h1, sp, c, rfl⟩ := hk
    have HB := Lib.hid ((Below.refl _ w).alloc (Nat.le_refl _) (.cells #[.int .u8 T.kind, .string T.text, .int .i64 T.num, .int .i64 T.place, .slice sp 0 c] 25))
    obtain ⟨x0, x1, x2, x3, x4⟩ := cells5 (heap_alloc_new w (.cells #[.int .u8 T.kind, .string T.text, .int .i64 T.num, .int .i64 T.place, .slice sp 0 c] 25))
    clear h1
    go_enter Tryz.func68, Tryz.ntmps68
    go_wp2_with fail
    go_loopw [3, 4] (fun o i wr => o = .int .i64 1 ∧ i = .int .i64 0 ∧ wr = w.alloc (.cells #[.int .u8 T.kind, .string T.text, .int .i64 T.num, .int .i64 T.place, .slice sp 0 c] 25)) (fun _ _ _ => 0)
    case atStart => exact ⟨rfl, rfl, rfl⟩
    case round =>
      obtain ⟨rfl, rfl, rfl⟩ := hrel
      go_wp2_with fail
      go_ret
      exact ⟨rfl, HB.out⟩
  | succ d ih =>
    intro T u B w hu hB hn
    obtain ⟨_, s, rfl, hk⟩ := hu
    obtain ⟨p, c, rfl, _, hrow⟩ := hk.rows
    obtain ⟨m, hm⟩ : ∃ m, T.kids.length = m := ⟨_, rfl⟩
    have hN := hn
    rw [manyF_succ] at hn
    rw [manyF_succ]
    have HN := Lib.hid hm
    have HMany := Lib.hid hn
    have HRow := Lib.hid hrow
    have HIH := Lib.hid ih
    have hm9 : m ≤ 20000 := by
      have : ∀ l : List Tree, l.length ≤ sumN d l := by
        intro l
        induction l with
        | nil => exact Nat.zero_le _
        | cons x l ih2 => rw [sumN_cons, List.length_cons]; have := manyF_pos d x; omega
      have := this T.kids
      omega
    obtain ⟨W0, hW0⟩ : ∃ W0, W0 = w.alloc (.cells #[.int .u8 T.kind, .string T.text, .int .i64 T.num, .int .i64 T.place, .slice p T.kids.length c] 25) := ⟨_, rfl⟩
    have HX : Hid (W0.heap[w.heap.size]? = some (.cells #[.int .u8 T.kind, .string T.text, .int .i64 T.num, .int .i64 T.place, .slice p T.kids.length c] 25 (0, 0))) := by show _ = _; rw [hW0]; exact heap_alloc_new w _
    have HB0 : Hid (Below w.heap.size w W0) := by rw [hW0]; exact (Below.refl _ w).alloc (Nat.le_refl _) _
    have hl0 : w.heap.size < W0.heap.size := (Array.getElem?_eq_some_iff.1 HX.out).1
    have HW := Lib.hid hW0
    clear hk hrow ih hm hn hN hW0
    obtain ⟨ks, hks⟩ : ∃ ks, T.kids = ks := ⟨_, rfl⟩
    obtain ⟨tot, htot⟩ : ∃ x, 1 + sumN d T.kids = x := ⟨_, rfl⟩
    rw [htot]
    have HTot := Lib.hid htot
    clear htot
    rw [hks] at HN HRow HMany HTot
    have HKs := Lib.hid hks
    clear hks
    go_enter Tryz.func68, Tryz.ntmps68
    go_upto_region 1 with fail
    change Code.wp _ _ _ _ (w.alloc (.cells #[.int .u8 T.kind, .string T.text, .int .i64 T.num, .int .i64 T.place, .slice p T.kids.length c] 25))
    rw [← HW.out]
    clear HW
    go_wp2_with fail
    go_loopw [3, 4] (fun o i wr => CtRel W0 d m ks o i wr) (fun _ i _ => m - (intOf i).toNat)
    case atStart => exact ⟨0, Nat.zero_le _, rfl, Below.refl _ _, rfl⟩
    case round =>
      obtain ⟨k, hk, rfl, hb, rfl⟩ := hrel
      have hk0 : (0 : Int) ≤ k := by omega
      have hbw := HB0.out.trans (hb.mono HB0.out.size)
      have HBw := Lib.hid hbw
      have HB1 := Lib.hid hb
      have y := heap_below hb HX.out hl0
      have HY := Lib.hid y
      obtain ⟨y0, y1, y2, y3, y4⟩ := cells5 y
      rw [show T.kids.length = m by rw [HKs.out]; exact HN.out] at y4
      clear y hb
      by_cases hlt : k < m
      · obtain ⟨t, ht⟩ : ∃ t, ks[k]? = some t := ⟨ks[k]'(by rw [HN.out]; exact hlt), List.getElem?_eq_getElem (by rw [HN.out]; exact hlt)⟩
        obtain ⟨hd, b, off, rfl, hbB, hkid⟩ := HRow.out k t ht
        obtain ⟨p', l', c', d0, d1, d2, d3, d4, hnode⟩ := hkid.node (hbw.mono hB) hbB
        have hk1 : (k : Int) < m := by omega
        obtain ⟨s1, s2⟩ := sumN_le_take d ks k t ht
        have hsum : sumN d (ks.take k) + manyF d t ≤ 20000 := by have := HMany.out; omega
        have HCall := Lib.hid (HIH.out t _ B wr hnode (Nat.le_trans hB hbw.size) (by omega))
        have HS2 := Lib.hid s2
        generalize manyF d t = mt at *
        generalize sumN d (ks.take k) = st at *
        clear hnode hkid ht hd hbw s1 s2
        go_wp2_with fail
        refine HCall.out.mono ?_
        rintro e W2 ⟨rfl, hb2⟩
        have HB2 := Lib.hid (HB1.out.trans (hb2.mono HB1.out.size))
        clear hb2 d0 d1 d2 d3 d4 y0 y1 y2 y3 y4
        go_wp2_with fail
        exact ⟨⟨k + 1, by omega, by go_num, HB2.out, by rw [HS2.out]; congr 1; omega⟩, by simp [intOf]; omega⟩
      · obtain rfl : k = m := by omega
        have e : ks.take k = ks := by rw [← HN.out]; exact List.take_length
        have HE := Lib.hid e
        clear hk hlt e hbw
        go_wp2_with fail
        go_ret
        exact ⟨by rw [HE.out, HTot.out]; rfl, HBw.out⟩
/-- the first node too deep has a place -/
theorem dp_place : ∀ (n : Nat) (T : Tree) (q : Int), (∀ d, Trim d T) → dpM n T = some q → 0 ≤ q ∧ q ≤ 16384 := by
  intro n
  induction n with
  | zero => intro T q ht h; injection h with h; rw [← h]; exact (ht 0).place
  | succ n ih =>
    intro T q ht h
    have h' : T.kids.findSome? (dpM n) = some q := h
    obtain ⟨k, hk, hq⟩ := List.exists_of_findSome?_eq_some h'
    exact ih k q (fun d => (ht (d + 1)).2.2.2 k hk) hq
theorem or_place {x : Option Int} (h : ∀ q, x = some q → 0 ≤ q ∧ q ≤ 16384) : -1 ≤ x.getD (-1) ∧ x.getD (-1) ≤ 16384 ∧ (0 ≤ x.getD (-1) ↔ x.isSome = true) := by
  cases x with
  | none => exact ⟨by decide, by decide, by decide⟩
  | some q => have := h q rfl; refine ⟨by show -1 ≤ q; omega, this.2, ?_⟩; simp [this.1]
set_option maxRecDepth 100000 in
set_option maxHeartbeats 2000000 in
theorem rdeep6_any : ∀ (n : Nat) (a d : Nat) (T : Tree) (u : Value) (B : Nat) (w : World), a + n = 30 → NodeAt w B d T u → B ≤ w.heap.size → (∀ d, Trim d T) →
    Calls Tryz.prog 67 #[u, .int .i64 a] w fun e w' => e = .returned (.int .i64 ((dpM n T).getD (-1))) ∧ Below w.heap.size w w' := by
  intro n
  induction n with
  | zero =>
    intro a d T u B w ha hu hB hs
    obtain ⟨_, s, rfl, hk⟩ := hu
    obtain ⟨p, l, c, rfl⟩ := hk.shape
    obtain rfl : a = 30 := by omega
    have HB := Lib.hid ((Below.refl _ w).alloc (Nat.le_refl _) (.cells #[.int .u8 T.kind, .string T.text, .int .i64 T.num, .int .i64 T.place, .slice p l c] 25))
    obtain ⟨x0, x1, x2, x3, x4⟩ := cells5 (heap_alloc_new w (.cells #[.int .u8 T.kind, .string T.text, .int .i64 T.num, .int .i64 T.place, .slice p l c] 25))
    clear hs
    go_enter Tryz.func67, Tryz.ntmps67
    go_wp2_with fail
    go_ret
    exact ⟨rfl, HB.out⟩
  | succ n ih =>
    intro a d T u B w ha hu hB hs
    obtain ⟨_, s, rfl, hk⟩ := hu
    have hn9 : T.kids.length ≤ 16390 := (hs 1).2.2.1
    have hkt : ∀ t ∈ T.kids, ∀ d, Trim d t := fun t ht d => (hs (d + 1)).2.2.2 t ht
    obtain ⟨p, c, rfl, _, hrow⟩ := hk.rows
    have HDp : Hid (dpM (n + 1) T = T.kids.findSome? (dpM n)) := rfl
    obtain ⟨x, hx⟩ : ∃ x, dpM (n + 1) T = x := ⟨_, rfl⟩
    rw [hx] at HDp ⊢
    obtain ⟨m, hm⟩ : ∃ m, T.kids.length = m := ⟨_, rfl⟩
    rw [hm] at hn9
    have HN := Lib.hid hm
    have HRow := Lib.hid hrow
    have HKt := Lib.hid hkt
    have HIH := Lib.hid ih
    have ha2 : decide ((30 : Int) ≤ a) = false := by simp; omega
    have ha30 : a < 30 := by omega
    have HA : Hid ((a + 1) + n = 30) := by show _ = _; omega
    obtain ⟨W0, hW0⟩ : ∃ W0, W0 = w.alloc (.cells #[.int .u8 T.kind, .string T.text, .int .i64 T.num, .int .i64 T.place, .slice p T.kids.length c] 25) := ⟨_, rfl⟩
    have HX : Hid (W0.heap[w.heap.size]? = some (.cells #[.int .u8 T.kind, .string T.text, .int .i64 T.num, .int .i64 T.place, .slice p T.kids.length c] 25 (0, 0))) := by show _ = _; rw [hW0]; exact heap_alloc_new w _
    have HB0 : Hid (Below w.heap.size w W0) := by rw [hW0]; exact (Below.refl _ w).alloc (Nat.le_refl _) _
    have hl0 : w.heap.size < W0.heap.size := (Array.getElem?_eq_some_iff.1 HX.out).1
    have HW := Lib.hid hW0
    clear hk hs hrow ih hm hx ha hkt hW0
    obtain ⟨ks, hks⟩ : ∃ ks, T.kids = ks := ⟨_, rfl⟩
    rw [hks] at HDp HN HRow HKt
    have HKs := Lib.hid hks
    clear hks
    go_enter Tryz.func67, Tryz.ntmps67
    go_upto_region 1 with fail
    change Code.wp _ _ _ _ (w.alloc (.cells #[.int .u8 T.kind, .string T.text, .int .i64 T.num, .int .i64 T.place, .slice p T.kids.length c] 25))
    rw [← HW.out]
    clear HW
    go_wp2_with fail
    go_loopw [5] (fun i wr => ∃ k : Nat, k ≤ m ∧ i = .int .i64 k ∧ Below W0.heap.size W0 wr ∧ (ks.take k).findSome? (dpM n) = none) (fun i _ => m - (intOf i).toNat)
    case atStart => exact ⟨0, Nat.zero_le _, rfl, Below.refl _ _, rfl⟩
    case round =>
      obtain ⟨k, hk, rfl, hb, hno⟩ := hrel
      have hk0 : (0 : Int) ≤ k := by omega
      have hbw := HB0.out.trans (hb.mono HB0.out.size)
      have HBw := Lib.hid hbw
      have HNo := Lib.hid hno
      have HB1 := Lib.hid hb
      have y := heap_below hb HX.out hl0
      obtain ⟨y0, y1, y2, y3, y4⟩ := cells5 y
      rw [show T.kids.length = m by rw [HKs.out]; exact HN.out] at y4
      clear y hb hno
      by_cases hlt : k < m
      · obtain ⟨t, ht⟩ : ∃ t, ks[k]? = some t := ⟨ks[k]'(by rw [HN.out]; exact hlt), List.getElem?_eq_getElem (by rw [HN.out]; exact hlt)⟩
        have hmem : t ∈ ks := List.mem_of_getElem? ht
        obtain ⟨hd, b, off, rfl, hbB, hkid⟩ := HRow.out k t ht
        obtain ⟨p', l', c', d0, d1, d2, d3, d4, hnode⟩ := hkid.node (hbw.mono hB) hbB
        have hk1 : (k : Int) < m := by omega
        have HCall := Lib.hid (HIH.out (a + 1) _ t _ B wr HA.out hnode (Nat.le_trans hB hbw.size) (HKt.out t hmem))
        rw [Int.natCast_succ] at HCall
        have hpl := or_place (fun q hq => dp_place n t q (HKt.out t hmem) hq)
        have HNext := Lib.hid (show (ks.take (k + 1)).findSome? (dpM n) = (dpM n t) by
          rw [List.take_add_one, ht, List.findSome?_append, HNo.out]
          simp)
        have HTake : Hid (ks.findSome? (dpM n) = ((ks.take (k + 1)).findSome? (dpM n)).or ((ks.drop (k + 1)).findSome? (dpM n))) := by
          show _ = _
          conv => lhs; rw [← List.take_append_drop (k + 1) ks]
          rw [List.findSome?_append]
        generalize hy : dpM n t = yy at *
        clear hnode hkid hmem ht hd hbw hy
        obtain ⟨q, hq⟩ : ∃ q, yy.getD (-1) = q := ⟨_, rfl⟩
        rw [hq] at HCall hpl
        obtain ⟨q1, q2, q3⟩ := hpl
        have HQ3 := Lib.hid q3
        have HQ := Lib.hid hq
        clear q3 hq
        go_wp2_with fail
        refine HCall.out.mono ?_
        rintro e W2 ⟨rfl, hb2⟩
        have HB2 := Lib.hid (HB1.out.trans (hb2.mono HB1.out.size))
        clear hb2 d0 d1 d2 d3 d4 y0 y1 y2 y3 y4
        by_cases hq0 : 0 ≤ q
        · have hs := HQ3.out.1 hq0
          have hxq : x = yy := by
            rw [HDp.out, HTake.out, HNext.out]
            cases yy with
            | none => cases hs
            | some v => rfl
          have HXq := Lib.hid hxq
          clear hxq hs
          go_wp2_with fail
          go_ret
          rw [HXq.out]
          exact ⟨by rw [HQ.out]; rfl, HB0.out.trans (HB2.out.mono HB0.out.size)⟩
        · have hn0 : yy = none := by
            cases yy with
            | none => rfl
            | some v => exact absurd (HQ3.out.2 rfl) hq0
          have HNn := Lib.hid (HNext.out.trans hn0)
          have hq1 : decide ((0 : Int) ≤ q) = false := by simp; omega
          clear hn0
          go_wp2_with fail
          exact ⟨⟨k + 1, by omega, by go_num, HB2.out, HNn.out⟩, by simp [intOf]; omega⟩
      · obtain rfl : k = m := by omega
        have hxn : x = none := by rw [HDp.out, ← HNo.out, ← HN.out, List.take_length]
        have HXn := Lib.hid hxn
        clear hk hlt hxn hbw
        go_wp2_with fail
        go_ret
        rw [HXn.out]
        exact ⟨rfl, HBw.out⟩
end Go.Proofs.YtfpohaipmnjflaaGreatDoor
/- The document's reader: a source's program, or its fault; by contract. No condition. (Printed by tools/genRd.py.) -/
namespace Go.Proofs.YtfpohaipmnjflaaGreatDoor
open Go.RowKit

/-- what the document's Program hands back -/
def RProg (w : World) (r : Tree × Int × Int) (e : Ending) (w' : World) : Prop :=
  ∃ (v : Value), e = .returned (.tuple #[v, .agg #[.int .i64 r.2.1, .int .i64 r.2.2]]) ∧ Below w.heap.size w w' ∧ NodeAt w' w'.heap.size 30 r.1 v
theorem rprog_fail {w W : World} {s : ByteArray} {er pl : Int} (hm : progM s = (zeroT, er, pl)) (hb : Below w.heap.size w W) :
    RProg w (progM s) (.returned (.tuple #[.agg #[.int .u8 0, .string ⟨#[]⟩, .int .i64 0, .int .i64 0, .slice none 0 0], .agg #[.int .i64 er, .int .i64 pl]])) W := by
  rw [hm]
  exact ⟨_, rfl, hb, fits_zero, _, rfl, KidsAt.nil _ _ _⟩
theorem rbelow_of_turns {w W0 W : World} {P L cap k : Nat} {bad : Bool} {ts : List Tok} (hb : Below w.heap.size w W0) (hT : RTurns W0 P L cap ts k bad W) (hP : w.heap.size ≤ P) : Below w.heap.size w W :=
  ⟨hT.1.os.trans hb.os, hT.1.tape.trans hb.tape, hT.1.output.trans hb.output, Nat.le_trans hb.size hT.1.size, fun i hi => (hT.1.block i (Nat.lt_of_lt_of_le hi hb.size) (fun e => by injection e with e; omega)).trans (hb.block i hi)⟩
theorem prog_ret6 {w W : World} {a : Act} {v0 v1 v2 v3 v4 e1 e2 : Value} {R : Ending → World → Prop} (h2 : a.tmps.getD 2 undef = .pointer (some ⟨w.heap.size, 0, none⟩)) (h3 : a.tmps.getD 3 undef = .pointer (some ⟨w.heap.size + 1, 0, none⟩)) (hd : a.defers = [])
    (hb0 : W.heap[w.heap.size]? = some (.cells #[v0, v1, v2, v3, v4] 25 (0, 0))) (hb1 : W.heap[w.heap.size + 1]? = some (.cells #[e1, e2] 42 (0, 0))) (hR : R (.returned (.tuple #[.agg #[v0, v1, v2, v3, v4], .agg #[e1, e2]])) W) : bodyPost Tryz.prog Tryz.f41 R .ret a W := by
  obtain ⟨c0, c1, c2, c3, c4⟩ := cells5 hb0
  have d0 : W.cell? ⟨w.heap.size + 1, 0, none⟩ = some e1 := by simp [World.cell?, hb1]
  have d1 : W.cell? ⟨w.heap.size + 1, 1, none⟩ = some e2 := by simp [World.cell?, hb1]
  have h2' : a.tmps[2]?.getD undef = .pointer (some ⟨w.heap.size, 0, none⟩) := by simpa using h2
  have h3' : a.tmps[3]?.getD undef = .pointer (some ⟨w.heap.size + 1, 0, none⟩) := by simpa using h3
  refine bodyPost_ret (v := .tuple #[.agg #[v0, v1, v2, v3, v4], .agg #[e1, e2]]) ?_ hd hR
  simp [results, Tryz.results41, go_sem, h2', h3', c0, c1, c2, c3, c4, d0, d1]
/-- what the document's scanner hands its parser -/
theorem rtokens_two (s : ByteArray) (wA : World) : Calls Tryz.prog 64 #[.string s] wA fun e w' => Below wA.heap.size wA w' ∧
    ((∃ er pl : Nat, progM s = (zeroT, (er : Int), (pl : Int)) ∧ er ≠ 0 ∧ e = .returned (.tuple #[.slice none 0 0, .agg #[.int .i64 er, .int .i64 pl]])) ∨
     (s.size ≤ 16384 ∧ (toksFrom s 0).2 = none ∧ ∃ v, e = .returned (.tuple #[v, .agg #[.int .i64 0, .int .i64 0]]) ∧ w'.ownsRow wA.heap.size 67 3 v (allTk s).length (lexCells (allTk s)))) := by
  by_cases hs : 16384 < s.size
  · refine (rtokens_long s wA hs).mono ?_
    rintro e w' ⟨rfl, hb⟩
    exact ⟨hb, Or.inl ⟨3, 0, by unfold progM; rw [if_pos hs]; rfl, by decide, rfl⟩⟩
  · refine (rtokens_any s wA (by omega)).mono ?_
    rintro e w' ⟨hb, ⟨h0, v, rfl, ho⟩ | ⟨er, pl, h0, rfl⟩⟩
    · refine ⟨hb, Or.inr ⟨by omega, h0, v, rfl, ?_⟩⟩
      rw [allTk_len]
      exact ho
    · refine ⟨hb, Or.inl ⟨er, pl, by unfold progM; rw [if_neg hs, h0], (toks_err s _ 0 er pl h0).1, rfl⟩⟩
/-- ahead of a round of a program's parts -/
def RPrRel (wP : World) (P L cap : Nat) (ts : List Tok) (R : List Tree × PS) (bB : Nat) (W : World) : Prop :=
  ∃ (g : Nat) (KS ks : List Tree) (σ : PS) (d : Nat) (rows : List (List Value)) (Fs : Nat → Nat → Prop) (o : Value), progL ts g KS σ = R ∧ (σ.2 = false → ks = KS) ∧ (σ.2 = true ∨ ts.length - σ.1 + 1 ≤ g) ∧ ks.length ≤ σ.1 + (if σ.2 = true then 1 else 0) ∧
    RTurns wP P L cap ts σ.1 σ.2 W ∧ W.heap[bB]? = some (.cells #[.int .u8 1, .string ⟨#[]⟩, .int .i64 0, .int .i64 0, o] 25 (0, 0)) ∧ W.ownsRow (bB + 1) 25 5 o ks.length rows.flatten ∧ RowsOwn W (bB + 1) d ks ks.length o.ownBlock rows Fs
set_option maxRecDepth 100000 in
set_option maxHeartbeats 8000000 in
theorem rprogram6_any (s : ByteArray) (w : World) : Calls Tryz.prog 41 #[.string s] w (RProg w (progM s)) := by
  obtain ⟨wA, hwA⟩ : ∃ wA, wA = (w.alloc (.cells zeroN 25)).alloc (.cells #[.int .i64 0, .int .i64 0] 42) := ⟨_, rfl⟩
  have hbA : Below w.heap.size w wA := by rw [hwA]; exact below_two w _ _
  obtain ⟨X0, X1, _⟩ := two_new' w (.cells zeroN 25) (.cells #[.int .i64 0, .int .i64 0] 42)
  rw [← hwA] at X0 X1
  have HT := Lib.hid (rtokens_two s wA)
  obtain ⟨i0, hi0, hz0, hz1, hz2⟩ := info_parts infoNode
  have HszA : Hid (wA.heap.size = w.heap.size + 2) := by show _ = _; rw [hwA]; simp
  have HX0 := Lib.hid X0
  have HX1 := Lib.hid X1
  have HBA := Lib.hid hbA
  clear X0 X1 hbA
  go_enter Tryz.func41, Tryz.ntmps41
  go_upto_region 1 with fail
  change Code.wp _ _ _ _ ((w.alloc (.cells zeroN 25)).alloc (.cells #[.int .i64 0, .int .i64 0] 42))
  rw [← hwA]
  clear hwA
  go_wp2_with fail
  refine Calls.mono HT.out ?_
  rintro e w1 ⟨hb1, ⟨er, pl, hm, her, rfl⟩ | ⟨hs, h0, v, rfl, hown⟩⟩
  · have HM := Lib.hid hm
    have her2 : ((er : Int) != 0) = true := by simp; omega
    obtain ⟨wF, hwF⟩ : ∃ wF, wF = w1.alloc (.cells #[.int .i64 er, .int .i64 pl] 42) := ⟨_, rfl⟩
    have hbF : Below wA.heap.size wA wF := by rw [hwF]; exact hb1.alloc hb1.size _
    have hFc : wF.heap[w1.heap.size]? = some (.cells #[.int .i64 er, .int .i64 pl] 42 (0, 0)) := by rw [hwF]; exact heap_alloc_new w1 _
    have HB := Lib.hid (HBA.out.trans (hbF.mono HBA.out.size))
    have hsz1 : w.heap.size + 2 ≤ w1.heap.size := by have := HszA.out; have := hb1.size; omega
    have HY0 := Lib.hid (heap_below hbF HX0.out (by have := HszA.out; omega))
    have HY1 := Lib.hid (heap_below hbF HX1.out (by have := HszA.out; omega))
    clear hb1 hbF hm her
    go_upto_region 2 with fail
    change Code.wp _ _ _ _ (w1.alloc (.cells #[.int .i64 er, .int .i64 pl] 42))
    rw [← hwF]
    clear hwF
    obtain ⟨f0, f1, _, _⟩ := cells2p hFc
    clear hFc
    go_wp2_with fail
    have z0 := frozen5 HY0.out 0
    have z1 := frozen5 HY0.out 1
    have z2 := frozen5 HY0.out 2
    have z3 := frozen5 HY0.out 3
    have z4 := frozen5 HY0.out 4
    obtain ⟨a0, a1, a2, a3, a4⟩ := cells5 HY0.out
    obtain ⟨b0, b1, y0, y1⟩ := cells2p HY1.out
    have hd0 : (w.heap.size = w1.heap.size) = False := by simp; omega
    have hd1 : (w1.heap.size = w.heap.size) = False := by simp; omega
    go_region
    go_wp2_with fail
    obtain ⟨k1, k2, k3, _, _⟩ := prog_stored (v0 := .int .u8 0) (v1 := .string ⟨#[]⟩) (v2 := .int .i64 0) (v3 := .int .i64 0) (v4 := .slice none 0 0) (a0 := .int .i64 er) (a1 := .int .i64 pl) HB.out HY0.out HY1.out
    change bodyPost _ _ _ _ _ (((set5 wF w.heap.size (.int .u8 0) (.string ⟨#[]⟩) (.int .i64 0) (.int .i64 0) (.slice none 0 0)).setCell ⟨w.heap.size + 1, 0, none⟩ (.int .i64 er)).setCell ⟨w.heap.size + 1, 1, none⟩ (.int .i64 pl)).drew
    generalize (((set5 wF w.heap.size (.int .u8 0) (.string ⟨#[]⟩) (.int .i64 0) (.int .i64 0) (.slice none 0 0)).setCell ⟨w.heap.size + 1, 0, none⟩ (.int .i64 er)).setCell ⟨w.heap.size + 1, 1, none⟩ (.int .i64 pl)) = WZ at *
    have k2' : WZ.drew.heap[w.heap.size]? = _ := k2
    have k3' : WZ.drew.heap[w.heap.size + 1]? = _ := k3
    exact prog_ret6 rfl rfl rfl k2' k3' (rprog_fail HM.out k1.drew)
  · obtain ⟨_, hcase⟩ := hown
    have hlen := allTk_len s
    have hts := allTk_ok s hs
    have hn5 : (allTk s).length ≤ 16385 := by
      have h1 := toks_len s (s.size + 1) 0 (Nat.zero_le _)
      have h2 : (toksFrom s 0).1.length + 0 ≤ s.size := h1
      omega
    rcases hcase with ⟨_, h⟩ | ⟨L, cap, cur, rfl, hLg, hLc, hle, hcm, hcs, htake⟩
    · omega
    have HM : Hid (progM s = if (progD (allTk s)).2.2 = true then (zeroT, (202 : Int), atM (allTk s) (progD (allTk s)).2)
        else match dpM 30 (progT s) with
          | some p => (zeroT, 203, p)
          | none => if manyF 30 (progT s) ≤ 4096 then (progT s, 0, 0) else (zeroT, 204, 0)) := by
      have hp : progM s = progR (allTk s) (progD (allTk s)) (progT s) := by
        unfold progM
        rw [if_neg (by omega), h0]
      exact hp.trans (progR_size hs)
    have HPT : Hid (progT s = .mk 1 ⟨#[]⟩ 0 0 (progD (allTk s)).1) := rfl
    have HSl : Hid (SlimL (progD (allTk s)).1) := progD_slim hts hn5 (by omega)
    have HMny : Hid ((progD (allTk s)).2.2 = false → manyF 30 (progT s) ≤ 16386) := fun hb => prog_many hs hb 30
    obtain ⟨R, hR⟩ : ∃ R, progD (allTk s) = R := ⟨_, rfl⟩
    rw [hR] at HM HPT HSl HMny
    unfold progD at hR
    generalize progT s = T0 at *
    obtain ⟨ts, hts0⟩ : ∃ ts, allTk s = ts := ⟨_, rfl⟩
    rw [hts0] at hlen hts hn5 hle htake HM hR ⊢
    have HR := Lib.hid hR
    have HTS := Lib.hid hts
    have hpos : 0 < ts.length := by omega
    have HLen := Lib.hid hn5
    have hl1 : wA.heap.size ≤ w1.heap.size := hb1.size
    have hLl : L < w1.heap.size := (Array.getElem?_eq_some_iff.1 hLc).1
    obtain ⟨wF, hwF⟩ : ∃ wF, wF = w1.alloc (.cells #[.int .i64 0, .int .i64 0] 42) := ⟨_, rfl⟩
    obtain ⟨wP, hwP⟩ : ∃ wP, wP = wF.alloc (.cells #[.slice (some ⟨L, 0, none⟩) ts.length cap, .int .i64 0, .bool false] 115) := ⟨_, rfl⟩
    obtain ⟨wn, hwn⟩ : ∃ wn, wn = wP.alloc (.cells #[.int .u8 1, .string ⟨#[]⟩, .int .i64 0, .int .i64 0, .slice none 0 0] 25) := ⟨_, rfl⟩
    have hbF : Below w1.heap.size w1 wF := by rw [hwF]; exact (Below.refl _ w1).alloc (Nat.le_refl _) _
    have hbP : Below wF.heap.size wF wP := by rw [hwP]; exact (Below.refl _ wF).alloc (Nat.le_refl _) _
    have hbn : Below wP.heap.size wP wn := by rw [hwn]; exact (Below.refl _ wP).alloc (Nat.le_refl _) _
    have hFc : wF.heap[w1.heap.size]? = some (.cells #[.int .i64 0, .int .i64 0] 42 (0, 0)) := by rw [hwF]; exact heap_alloc_new w1 _
    have hPc : wP.heap[wF.heap.size]? = some (.cells #[.slice (some ⟨L, 0, none⟩) ts.length cap, .int .i64 ((0 : Nat) : Int), .bool false] 115 (0, 0)) := by rw [hwP]; exact heap_alloc_new wF _
    have hnc : wn.heap[wP.heap.size]? = some (.cells #[.int .u8 1, .string ⟨#[]⟩, .int .i64 0, .int .i64 0, .slice none 0 0] 25 (0, 0)) := by rw [hwn]; exact heap_alloc_new wP _
    have hsF : wF.heap.size = w1.heap.size + 1 := by rw [hwF]; simp
    have hsP : wP.heap.size = wF.heap.size + 1 := by rw [hwP]; simp
    have hsn : wn.heap.size = wP.heap.size + 1 := by rw [hwn]; simp
    have hAP : Below wA.heap.size wA wP := hb1.trans ((hbF.trans (hbP.mono (by omega))).mono hl1)
    have hPt : RAt wP wF.heap.size L cap ts 0 false := by
      refine ⟨hPc, ⟨cur, ?_, fun j u hu => ?_⟩, hpos, hn5, hle, hcm⟩
      · exact heap_below (hbF.trans (hbP.mono (by omega))) hLc hLl
      · rw [← htake, List.getElem?_take] at hu
        split at hu
        · simpa using hu
        · cases hu
    have hT0 := hPt.turns hbn
    have hszA := HszA.out
    obtain ⟨P, hP⟩ : ∃ P, wF.heap.size = P := ⟨_, rfl⟩
    obtain ⟨bB, hbB⟩ : ∃ b, wP.heap.size = b := ⟨_, rfl⟩
    rw [hP] at hPt hT0 hPc
    rw [hbB] at hnc
    have hwPP : w.heap.size + 2 < P := by omega
    have hPb : P < bB := by omega
    have hnb : wP.heap.size < bB + 1 := by omega
    have HL : Hid (L < wP.heap.size) := by show _ < _; omega
    have hPl : P < wP.heap.size := by omega
    have HBP : Hid (Below w.heap.size w wP) := HBA.out.trans (hAP.mono HBA.out.size)
    have HNc := Lib.hid hnc
    have HT0 := Lib.hid hT0
    have HRel : Hid (RPrRel wP P L cap ts R bB wn) :=
      ⟨ts.length + 1, [], [], (0, false), 0, [], fun _ _ => False, .slice none 0 0, HR.out, fun _ => rfl, Or.inr (by omega), Nat.zero_le _, HT0.out, HNc.out, ⟨rfl, Or.inl ⟨rfl, rfl⟩⟩, rows_none wn (bB + 1) 0 []⟩
    have HP := Lib.hid hP
    have HbB := Lib.hid hbB
    have HYP0 := Lib.hid (heap_below hAP HX0.out (by omega))
    have HYP1 := Lib.hid (heap_below hAP HX1.out (by omega))
    have HwF := Lib.hid hwF
    have HwP := Lib.hid hwP
    have Hwn := Lib.hid hwn
    obtain ⟨f0, f1, _, _⟩ := cells2p hFc
    have hwB : wP.heap.size ≤ bB := by omega
    clear hlen hszA hsF hsP hsn hwF hwP hwn hFc hPc hnc hT0 hPt hbF hbP hbn hb1 hts hts0 hLc htake hcs hcm hR hAP hP hbB hle hs h0
    go_upto_region 2 with fail
    change Code.wp _ _ _ _ (w1.alloc (.cells #[.int .i64 0, .int .i64 0] 42))
    rw [← HwF.out]
    go_upto_region 5 with fail
    change Code.wp _ _ _ _ (wF.alloc (.cells #[.slice (some ⟨L, 0, none⟩) ts.length cap, .int .i64 0, .bool false] 115))
    rw [← HwP.out, HP.out]
    go_upto_region 6 with fail
    change Code.wp _ _ _ _ (wP.alloc (.cells #[.int .u8 1, .string ⟨#[]⟩, .int .i64 0, .int .i64 0, .slice none 0 0] 25))
    rw [← Hwn.out, HbB.out]
    go_loopw [] (fun wr => RPrRel wP P L cap ts R bB wr) (fun wr => stepsR ts.length P wr)
    case atStart => exact HRel.out
    case round =>
      clear HRel HT0 HNc
      obtain ⟨g, KS, ks, σc, dd, rows, Fs, o, hup, hK, hg, hlen, hT, hn, hown, hrows⟩ := hrel
      have HTr := Lib.hid hT
      have HUp := Lib.hid hup
      have HK := Lib.hid hK
      have HG := Lib.hid hg
      have HLn := Lib.hid hlen
      have HNr := Lib.hid hn
      have HOwn := Lib.hid hown
      have HRows := Lib.hid hrows
      have HSt := Lib.hid hT.2.steps
      have HGe1 : Hid (σc.1 ≤ (declM ts (ruleM ts) σc).2.1) := declM_ge (ts := ts) (ruleM_ge ts) σc
      have hbW : bB < wr.heap.size := (Array.getElem?_eq_some_iff.1 hn).1
      obtain ⟨_, _, c2, _, _, _⟩ := hT.2.cells
      have HNow := Lib.hid (rnow6_res hT.2)
      have hkk : kdM ts σc < 256 := (tokM_ok HTS.out σc.1).1
      obtain ⟨kd, hkd⟩ : ∃ k, kdM ts σc = k := ⟨_, rfl⟩
      rw [hkd] at HNow hkk
      have HKd := Lib.hid hkd
      generalize txM ts σc = tx at HNow
      obtain ⟨pl, hplE⟩ : ∃ k, atM ts σc = k := ⟨_, rfl⟩
      rw [hplE] at HNow
      clear hup hK hg hlen hT hn hown hrows hkd hplE
      go_upto_region 6 with fail
      go_cut [33] from 23 to 33 (fun v wx => v = .bool (!σc.2 && kd != 7) ∧ Below wr.heap.size wr wx)
      case first =>
        obtain ⟨kc, bc⟩ := σc
        dsimp only at c2 HNow ⊢
        cases bc with
        | true =>
          go_wp2_with fail
          go_meet
          case rel => exact ⟨rfl, Below.refl _ _⟩
        | false =>
          by_cases hk : kd = 7
          · have hk' : ((kd : Int) != 7) = false := by simp; omega
            have HKk := Lib.hid hk
            clear hk
            go_wp2_with fail
            refine Calls.mono HNow.out ?_
            rintro e wx ⟨rfl, hbx⟩
            have HBx := Lib.hid hbx
            have hFK := rlex_kind kd tx pl wx
            clear hbx
            go_wp2_with fail
            go_meet
            case rel => exact ⟨by rw [HKk.out]; rfl, HBx.out⟩
          · have hk' : ((kd : Int) != 7) = true := by simp; omega
            have hk2 : (kd != 7) = true := by simpa using hk
            have HKk := Lib.hid hk2
            clear hk hk2
            go_wp2_with fail
            refine Calls.mono HNow.out ?_
            rintro e wx ⟨rfl, hbx⟩
            have HBx := Lib.hid hbx
            have hFK := rlex_kind kd tx pl wx
            clear hbx
            go_wp2_with fail
            go_meet
            case rel => exact ⟨by rw [HKk.out]; rfl, HBx.out⟩
      case rest =>
        obtain ⟨rfl, hbx⟩ := hcut
        have HTx := Lib.hid (HTr.out.of_below hbx)
        have HNx := Lib.hid (heap_below hbx HNr.out hbW)
        have HOwnx := Lib.hid (ownsRow_turn HOwn.out (grown_of_below hbx (some P)) (by omega))
        have HRowsx := Lib.hid (HRows.out.turn (grown_of_below hbx (some P)) (by omega))
        have hlx : bB < wc.heap.size := (Array.getElem?_eq_some_iff.1 HNx.out).1
        clear hbx HTr HNr HOwn HRows hbW c2 HNow
        obtain ⟨b, hb⟩ : ∃ b, (!σc.2 && kd != 7) = b := ⟨_, rfl⟩
        rw [hb]
        have HB := Lib.hid hb
        clear hb
        cases b with
        | true =>
          have hnb2 : σc.2 = false := by have := HB.out; cases h : σc.2 <;> simp [h] at this ⊢
          have hns : ¬ kdM ts σc = 7 := by have := HB.out; rw [hnb2] at this; rw [HKd.out]; simpa using this
          have hks := HK.out hnb2
          subst hks
          have hkc := HTx.out.2.k
          have hkn := HTx.out.2.n
          have hll := HLn.out
          rw [hnb2] at hll
          simp only [Bool.false_eq_true, if_false, Nat.add_zero] at hll
          obtain ⟨g', hg', hR2⟩ : ∃ g', ((declM ts (ruleM ts) σc).2.2 = true ∨ ts.length - (declM ts (ruleM ts) σc).2.1 + 1 ≤ g') ∧ progL ts g' (ks ++ [(declM ts (ruleM ts) σc).1]) (declM ts (ruleM ts) σc).2 = R := by
            have h1 := HUp.out
            have h2 := HG.out
            rw [hnb2] at h2
            have h2' : ts.length - σc.1 + 1 ≤ g := by rcases h2 with h | h; cases h; exact h
            cases g with
            | zero => omega
            | succ g =>
              rw [progL_succ, if_neg (by rw [hnb2]; decide), if_neg hns] at h1
              refine ⟨g, ?_, h1⟩
              rcases declM_on HTS.out hkc with h | h
              · exact Or.inl h
              · exact Or.inr (by omega)
          have hon := declM_on HTS.out hkc
          have HCall := Lib.hid (rdecl6_any HTS.out HTx.out.2.drew)
          have HG' := Lib.hid hg'
          have HR2 := Lib.hid hR2
          have HOn := Lib.hid hon
          have HNb := Lib.hid hnb2
          clear hg' hR2 hon hns hnb2
          generalize declM ts (ruleM ts) σc = r at *
          obtain ⟨d0, d1', d2', d3, d4⟩ := cells5 HNx.out
          have hbP : bB ≠ P := by omega
          have C4 := fun x : RE.Gr wc P => x.cell d4 hbP
          have hPx : P < wc.heap.size := HTx.out.2.lt.1
          clear d0 d1' d2' d3 d4
          go_wp2_with fail
          refine RE.wp_region_eff (by kernel_rfl) 5 [3, 4] [3, 4] (fun s W => if s = 0 then W = wc.drew else RTurns wc P L cap ts r.2.1 r.2.2 W) (fun W W' => W.grownBy W' (some P))
            (fun i xs => if i = 3 then .agg #[xs.getD 0 undef, xs.getD 1 undef, xs.getD 2 undef, xs.getD 3 undef, xs.getD 4 undef] else .slice (some ⟨RE.natOf xs, 0, none⟩) 1 1)
            (fun i W xs => if i = 3 then GotR wc.heap.size (fun V => r.2.2 = false → V = r.1) W xs else GotRL wc.heap.size (fun V => r.2.2 = false → V = r.1) W xs) (by kernel_rfl) (fun i h1 h2 => by rw [h1] at h2; cases h2) ?_ rfl ?_
          · intro k W W' xs h _ hg
            split at h
            · rw [if_pos (by assumption)]; exact h.grown hPx hg
            · rw [if_neg (by assumption)]; exact h.grown hPx hg
          simp only [List.take_succ_cons, List.take_zero, List.drop_succ_cons, List.drop_zero, List.length_cons, List.length_nil, Nat.reduceAdd]
          have hcl : ∀ (n s : Nat) (W : World), s ≤ n → (if s = 0 then W = wc.drew else RTurns wc P L cap ts r.2.1 r.2.2 W) → ∃ x : RE.Gr wc P, W = x.1 := fun n s W _ h => by
            split at h
            · exact ⟨⟨W, by rw [h]; exact grown_drewN (World.grownBy.refl wc _) 1⟩, rfl⟩
            · exact ⟨⟨W, h.1⟩, rfl⟩
          have HCl := Lib.hid hcl
          clear hcl
          repeat (refine RE.wpE_read (fun W => ∃ x : RE.Gr wc P, W = x.1) (HCl.out _) rfl rfl rfl rfl ?_; go_big_quiet_step (fail); refine wpQuiet_nil ?_)
          refine RE.wpE_turn rfl rfl ?_ (fun xs3 => ?_)
          · intro W _ hS _
            obtain rfl : W = wc.drew := hS rfl
            refine RE.upon_call 66 _ _ rfl (enters_of Tryz.func66 (by kernel_rfl) rfl) #[.pointer (some ⟨P, 0, none⟩)] (by simp [Act.eval]) (HCall.out.mono ?_)
            rintro e W' ⟨V, d, s, rfl, hq, hT, ho, hf⟩
            exact ⟨_, rfl, [.int .u8 V.kind, .string V.text, .int .i64 V.num, .int .i64 V.place, s], rfl, hT.of_drew, hT.1, ⟨V, d, s, rfl, hq, ho, hf⟩⟩
          simp only [Act.put, List.setIfInBounds_toArray, List.set_cons_zero, List.set_cons_succ]
          refine RE.wpE_turn rfl rfl ?_ (fun xs4 => ?_)
          · intro W _ hS hφ
            have hT : RTurns wc P L cap ts r.2.1 r.2.2 W := hS rfl
            obtain ⟨V, d, s, rfl, hq, ho, hf⟩ : GotR wc.heap.size (fun V => r.2.2 = false → V = r.1) W xs3 := hφ 3 xs3 (by kernel_rfl) rfl
            obtain ⟨p, c, rfl⟩ := ho.shape
            refine RE.Upon.told (v := .slice (some ⟨W.heap.size, 0, none⟩) 1 1) (w' := W.alloc (.cells (nodeCells V (.slice p V.kids.length c)).toArray 25)) ?_ ⟨[.int .i64 W.heap.size], rfl, hT.alloc _, ?_, ?_⟩
            · unfold RE.Upon
              go_simp
              rfl
            · exact grown_of_below ((Below.refl _ W).alloc (Nat.le_refl _) _) _
            · refine ⟨V, d, W.heap.size, W.heap.size, _, rfl, hq, heap_alloc_new W _, ?_, hf, hT.1.size, Nat.le_refl _⟩
              exact ho.below (fun b hb => hb.2) ((Below.refl _ W).alloc (Nat.le_refl _) _)
          simp only [Act.put, List.setIfInBounds_toArray, List.set_cons_zero, List.set_cons_succ]
          refine RE.wpE_nil ?_
          intro W3 hS hE
          have hT3 : RTurns wc P L cap ts r.2.1 r.2.2 W3 := hS
          obtain ⟨V, d2, gg, N, s2, rfl, hq2, hgg, ho2, hf2, hN1, hN2⟩ := (show GotRL wc.heap.size (fun V => r.2.2 = false → V = r.1) W3 xs4 from hE 4 xs4 rfl)
          have hl3 : wc.heap.size ≤ W3.heap.size := hT3.1.size
          have hown3 := ownsRow_turn HOwnx.out hT3.1 (by omega)
          refine wpList_append_lies W3 rfl (.tmp 35) (.tmp 38) 23 rfl (bB + 1) 25 i0 _ 5 64 Tryz.underlying23 hi0 hz0 hz1 hz2 rfl (by decide) o ks.length rows.flatten rfl hown3 ⟨gg, 0, none⟩ 1 1 (nodeCells V s2) rfl rfl
            (fun j u hu => by rw [Addr.add_mid, cell_of_row _ _ _ _ _ _ hgg, Nat.zero_add]; simpa using hu) (by have := ho2.shape; obtain ⟨p, c, rfl⟩ := this; simp [Value.oneCell', nodeCells]) (by decide) (by unfold maxLen; omega) (by omega) (by omega) _ rfl ?_
          intro g7 cap7 w7 happ hgrow hlies _
          obtain ⟨d', rows', Fs', u1, u2, u3, u4, u5, u6⟩ := rup_next (w := wP) hPl HL.out hwB (show bB < bB + 1 by omega) (by omega) HTx.out HNx.out HOwnx.out HRowsx.out hT3 hgg ho2 hf2 hN1 hN2 happ hgrow hlies
          have x4 := frozen5 u6 4
          obtain ⟨d0, d1', d2', d3, d4⟩ := cells5 u6
          obtain ⟨Wn, hWn⟩ : ∃ Wn, Wn = w7.setCell ⟨bB, 4, none⟩ (.slice (some ⟨g7, 0, none⟩) (ks.length + 1) cap7) := ⟨_, rfl⟩
          rw [← hWn] at u1 u2 u3 u4 u5
          have hlen' : (ks ++ [V]).length ≤ r.2.1 + (if r.2.2 = true then 1 else 0) := by
            have h1 := u1.2.k
            rw [List.length_append, List.length_singleton]
            rcases HOn.out with h | h
            · rw [if_pos h]
              have := HGe1.out
              omega
            · split <;> omega
          have HRel2 : Hid (RPrRel wP P L cap ts R bB Wn) :=
            ⟨g', _, ks ++ [V], r.2, d', rows', Fs', _, HR2.out, fun hb => by rw [hq2 hb], HG'.out, hlen', u1, u3, u4, u5⟩
          have HMeas : Hid (stepsR ts.length P Wn < stepsR ts.length P wr) := by
            show _ < _
            rw [u1.2.steps, HSt.out, if_neg (show ¬ σc.2 = true by rw [HNb.out]; decide)]
            have h1 := u1.2.k
            have h3 := HGe1.out
            rcases HOn.out with h | h
            · rw [if_pos h]; omega
            · split <;> omega
          have HWn := Lib.hid hWn
          clear u1 u2 u3 u4 u5 hlen' hlies hgrow happ hE hS hT3 hown3 hgg ho2 C4 hq2
          go_wp2_with fail
          rw [← HWn.out]
          exact ⟨HRel2.out, HMeas.out⟩
        | false =>
          have hRR : (KS, σc) = R := by
            rw [← HUp.out]
            have h2 := HB.out
            cases g with
            | zero => rfl
            | succ g =>
              rw [progL_succ]
              by_cases hbb : σc.2 = true
              · rw [if_pos hbb]
              · rw [if_neg hbb, if_pos (by rw [HKd.out]; simpa [hbb] using h2)]
          subst hRR
          dsimp only at HPT HSl HMny
          have HYx0 := Lib.hid ((HTx.out.1.block w.heap.size (by omega) (fun e => by injection e with e; omega)).trans HYP0.out)
          have HYx1 := Lib.hid ((HTx.out.1.block (w.heap.size + 1) (by omega) (fun e => by injection e with e; omega)).trans HYP1.out)
          have HBx := Lib.hid (rbelow_of_turns HBP.out HTx.out (by omega))
          obtain ⟨_, _, c2, _, _, _⟩ := HTx.out.2.cells
          clear HUp HG HLn HB HGe1 HSt HKd hkk
          cases hb : σc.2 with
          | true =>
            rw [hb] at c2
            have HMb : Hid (progM s = (zeroT, 202, atM ts σc)) := by show _ = _; rw [HM.out]; dsimp only; rw [if_pos hb]
            have HNow := Lib.hid (rnow6_res HTx.out.2)
            clear hb
            generalize kdM ts σc = kd2 at HNow
            generalize txM ts σc = tx2 at HNow
            generalize atM ts σc = pl2 at HNow HMb
            go_wp2_with fail
            refine Calls.mono HNow.out ?_
            rintro e wy ⟨rfl, hby⟩
            have hFA := run_lexAt kd2 tx2 pl2 wy
            have HBy := Lib.hid (HBx.out.trans (hby.mono HBx.out.size))
            have HYy0 := Lib.hid (heap_below hby HYx0.out (by omega))
            have HYy1 := Lib.hid (heap_below hby HYx1.out (by omega))
            clear hby c2
            obtain ⟨k1, k2, k3, k4, k5⟩ := prog_stored (v0 := .int .u8 0) (v1 := .string ⟨#[]⟩) (v2 := .int .i64 0) (v3 := .int .i64 0) (v4 := .slice none 0 0) (a0 := .int .i64 202) (a1 := .int .i64 pl2) HBy.out HYy0.out HYy1.out
            have K1 := Lib.hid k1
            have K2 := Lib.hid k2
            have K3 := Lib.hid k3
            have K4 := Lib.hid k4
            have K5 := Lib.hid k5
            clear k1 k2 k3 k4 k5
            have z0 := frozen5 HYy0.out 0
            have z1 := frozen5 HYy0.out 1
            have z2 := frozen5 HYy0.out 2
            have z3 := frozen5 HYy0.out 3
            have z4 := frozen5 HYy0.out 4
            obtain ⟨a0, a1, a2, a3, a4⟩ := cells5 HYy0.out
            obtain ⟨b0, b1, y0, y1⟩ := cells2p HYy1.out
            go_wp2_with fail
            change bodyPost _ _ _ _ _ (((set5 wy w.heap.size (.int .u8 0) (.string ⟨#[]⟩) (.int .i64 0) (.int .i64 0) (.slice none 0 0)).setCell ⟨w.heap.size + 1, 0, none⟩ (.int .i64 202)).setCell ⟨w.heap.size + 1, 1, none⟩ (.int .i64 pl2))
            generalize ((set5 wy w.heap.size (.int .u8 0) (.string ⟨#[]⟩) (.int .i64 0) (.int .i64 0) (.slice none 0 0)).setCell ⟨w.heap.size + 1, 0, none⟩ (.int .i64 202)).setCell ⟨w.heap.size + 1, 1, none⟩ (.int .i64 pl2) = WZ at *
            exact prog_ret6 rfl rfl rfl K2.out K3.out (rprog_fail HMb.out K1.out)
          | false =>
            rw [hb] at c2
            have hks := HK.out hb
            subst hks
            have HMo : Hid (progM s = match dpM 30 T0 with
                | some p => (zeroT, 203, p)
                | none => if manyF 30 T0 ≤ 4096 then (T0, 0, 0) else (zeroT, 204, 0)) := by
              show _ = _
              rw [HM.out]; dsimp only; rw [if_neg (by rw [hb]; decide)]
            have HMy := Lib.hid (HMny.out hb)
            clear hb
            have hO := own_fin (d := dd + 1) rfl HOwnx.out HRowsx.out (fun h => by omega)
            obtain ⟨p, c, rfl⟩ := hO.shape
            have hNode : NodeAt wc wc.heap.size (dd + 1) T0 (.agg #[.int .u8 1, .string ⟨#[]⟩, .int .i64 0, .int .i64 0, .slice p ks.length c]) := by
              rw [HPT.out]
              exact ⟨fits_prog ks, _, rfl, hO.kids fun b hb => hb.2⟩
            have HSlT : Hid (∀ d, Trim d T0) := by
              show ∀ d, Trim d T0
              rw [HPT.out]
              exact slim_mk (show (0 : Nat) ≤ 16390 by omega) (by omega) HSl.out.1 HSl.out.2
            have HDp := Lib.hid (rdeep6_any 30 0 (dd + 1) T0 _ wc.heap.size wc rfl hNode (Nat.le_refl _) HSlT.out)
            have HOx := Lib.hid hO
            have hpl := or_place (fun q hq => dp_place 30 T0 q HSlT.out hq)
            obtain ⟨n0, n1, n2, n3, n4⟩ := cells5 HNx.out
            clear hO hNode HOwnx HRowsx
            obtain ⟨x, hx⟩ : ∃ x, dpM 30 T0 = x := ⟨_, rfl⟩
            rw [hx] at HDp HMo hpl
            have HX := Lib.hid hx
            clear hx
            rw [show ((0 : Nat) : Int) = 0 from rfl] at HDp
            obtain ⟨q, hq⟩ : ∃ q, x.getD (-1) = q := ⟨_, rfl⟩
            rw [hq] at HDp hpl
            obtain ⟨q1, q2, q3⟩ := hpl
            have HQ := Lib.hid hq
            have HQ3 := Lib.hid q3
            clear hq q3
            go_wp2_with fail
            refine Calls.mono HDp.out ?_
            rintro e wd ⟨rfl, hbd⟩
            have HBd := Lib.hid (HBx.out.trans (hbd.mono HBx.out.size))
            have HYd0 := Lib.hid (heap_below hbd HYx0.out (by omega))
            have HYd1 := Lib.hid (heap_below hbd HYx1.out (by omega))
            have HNd := Lib.hid (heap_below hbd HNx.out hlx)
            have HOd := Lib.hid (HOx.out.below (fun b hb => hb.2) hbd)
            have hld : bB < wd.heap.size := (Array.getElem?_eq_some_iff.1 HNd.out).1
            have hlcd : wc.heap.size ≤ wd.heap.size := hbd.size
            clear hbd n0 n1 n2 n3 n4 c2
            cases x with
            | some qv =>
              have hq0 : 0 ≤ q := HQ3.out.2 rfl
              obtain rfl : qv = q := HQ.out
              obtain ⟨k1, k2, k3, k4, k5⟩ := prog_stored (v0 := .int .u8 0) (v1 := .string ⟨#[]⟩) (v2 := .int .i64 0) (v3 := .int .i64 0) (v4 := .slice none 0 0) (a0 := .int .i64 203) (a1 := .int .i64 qv) HBd.out HYd0.out HYd1.out
              have K1 := Lib.hid k1
              have K2 := Lib.hid k2
              have K3 := Lib.hid k3
              have K4 := Lib.hid k4
              have K5 := Lib.hid k5
              clear k1 k2 k3 k4 k5
              have z0 := frozen5 HYd0.out 0
              have z1 := frozen5 HYd0.out 1
              have z2 := frozen5 HYd0.out 2
              have z3 := frozen5 HYd0.out 3
              have z4 := frozen5 HYd0.out 4
              obtain ⟨a0, a1, a2, a3, a4⟩ := cells5 HYd0.out
              obtain ⟨b0, b1, y0, y1⟩ := cells2p HYd1.out
              go_wp2_with fail
              change bodyPost _ _ _ _ _ (((set5 wd w.heap.size (.int .u8 0) (.string ⟨#[]⟩) (.int .i64 0) (.int .i64 0) (.slice none 0 0)).setCell ⟨w.heap.size + 1, 0, none⟩ (.int .i64 203)).setCell ⟨w.heap.size + 1, 1, none⟩ (.int .i64 qv))
              generalize ((set5 wd w.heap.size (.int .u8 0) (.string ⟨#[]⟩) (.int .i64 0) (.int .i64 0) (.slice none 0 0)).setCell ⟨w.heap.size + 1, 0, none⟩ (.int .i64 203)).setCell ⟨w.heap.size + 1, 1, none⟩ (.int .i64 qv) = WZ at *
              exact prog_ret6 rfl rfl rfl K2.out K3.out (rprog_fail HMo.out K1.out)
            | none =>
              have hq0 : decide ((0 : Int) ≤ q) = false := by
                have : ¬ 0 ≤ q := fun h => by have := HQ3.out.1 h; cases this
                simp; omega
              have hks : ∀ t ∈ ks, dpM 29 t = none := by
                have h := HX.out
                rw [HPT.out] at h
                have h2 : ks.findSome? (dpM 29) = none := h
                rw [List.findSome?_eq_none_iff] at h2
                exact h2
              have hO29 := (own_depth HOd.out hks).more
              have hNode : NodeAt wd wd.heap.size 30 T0 (.agg #[.int .u8 1, .string ⟨#[]⟩, .int .i64 0, .int .i64 0, .slice p ks.length c]) := by
                rw [HPT.out]
                exact ⟨fits_prog ks, _, rfl, hO29.kids fun b hb => Nat.lt_of_lt_of_le hb.2 hlcd⟩
              have HCt := Lib.hid (rcount6_any 30 T0 _ wd.heap.size wd hNode (Nat.le_refl _) (by have := HMy.out; omega))
              have HO29 := Lib.hid hO29
              obtain ⟨n0, n1, n2, n3, n4⟩ := cells5 HNd.out
              clear hks hO29 hNode
              obtain ⟨mn, hmn⟩ : ∃ x, manyF 30 T0 = x := ⟨_, rfl⟩
              rw [hmn] at HCt HMo HMy
              have HMo2 : Hid (progM s = if mn ≤ 4096 then (T0, 0, 0) else (zeroT, 204, 0)) := HMo.out
              clear hmn HMo
              go_wp2_with fail
              refine Calls.mono HCt.out ?_
              rintro e we ⟨rfl, hbe⟩
              have HBe := Lib.hid (HBd.out.trans (hbe.mono HBd.out.size))
              have HYe0 := Lib.hid (heap_below hbe HYd0.out (by omega))
              have HYe1 := Lib.hid (heap_below hbe HYd1.out (by omega))
              have HNe := Lib.hid (heap_below hbe HNd.out hld)
              have hlde : wd.heap.size ≤ we.heap.size := hbe.size
              have HOe := Lib.hid (HO29.out.below (fun b hb => Nat.lt_of_lt_of_le hb.2 hlcd) hbe)
              clear hbe n0 n1 n2 n3 n4
              by_cases h4 : 4096 < mn
              · have h4' : (4096 : Int) < mn := by omega
                have HMz : Hid (progM s = (zeroT, 204, 0)) := by show _ = _; rw [HMo2.out, if_neg (by omega)]
                obtain ⟨k1, k2, k3, k4, k5⟩ := prog_stored (v0 := .int .u8 0) (v1 := .string ⟨#[]⟩) (v2 := .int .i64 0) (v3 := .int .i64 0) (v4 := .slice none 0 0) (a0 := .int .i64 204) (a1 := .int .i64 0) HBe.out HYe0.out HYe1.out
                have K1 := Lib.hid k1
                have K2 := Lib.hid k2
                have K3 := Lib.hid k3
                have K4 := Lib.hid k4
                have K5 := Lib.hid k5
                clear k1 k2 k3 k4 k5
                have z0 := frozen5 HYe0.out 0
                have z1 := frozen5 HYe0.out 1
                have z2 := frozen5 HYe0.out 2
                have z3 := frozen5 HYe0.out 3
                have z4 := frozen5 HYe0.out 4
                obtain ⟨a0, a1, a2, a3, a4⟩ := cells5 HYe0.out
                obtain ⟨b0, b1, y0, y1⟩ := cells2p HYe1.out
                go_wp2_with fail
                change bodyPost _ _ _ _ _ (((set5 we w.heap.size (.int .u8 0) (.string ⟨#[]⟩) (.int .i64 0) (.int .i64 0) (.slice none 0 0)).setCell ⟨w.heap.size + 1, 0, none⟩ (.int .i64 204)).setCell ⟨w.heap.size + 1, 1, none⟩ (.int .i64 0))
                generalize ((set5 we w.heap.size (.int .u8 0) (.string ⟨#[]⟩) (.int .i64 0) (.int .i64 0) (.slice none 0 0)).setCell ⟨w.heap.size + 1, 0, none⟩ (.int .i64 204)).setCell ⟨w.heap.size + 1, 1, none⟩ (.int .i64 0) = WZ at *
                exact prog_ret6 rfl rfl rfl K2.out K3.out (rprog_fail HMz.out K1.out)
              · have h4' : decide ((4096 : Int) < mn) = false := by simp; omega
                have HMz : Hid (progM s = (T0, 0, 0)) := by show _ = _; rw [HMo2.out, if_pos (by omega)]
                obtain ⟨n0, n1, n2, n3, n4⟩ := cells5 HNe.out
                obtain ⟨k1, k2, k3, k4, k5⟩ := prog_stored (v0 := .int .u8 1) (v1 := .string ⟨#[]⟩) (v2 := .int .i64 0) (v3 := .int .i64 0) (v4 := .slice p ks.length c) (a0 := .int .i64 0) (a1 := .int .i64 0) HBe.out HYe0.out HYe1.out
                have K1 := Lib.hid k1
                have K2 := Lib.hid k2
                have K3 := Lib.hid k3
                have K4 := Lib.hid k4
                have K5 := Lib.hid k5
                clear k1 k2 k3 k4 k5
                have z0 := frozen5 HYe0.out 0
                have z1 := frozen5 HYe0.out 1
                have z2 := frozen5 HYe0.out 2
                have z3 := frozen5 HYe0.out 3
                have z4 := frozen5 HYe0.out 4
                obtain ⟨a0, a1, a2, a3, a4⟩ := cells5 HYe0.out
                obtain ⟨b0, b1, y0, y1⟩ := cells2p HYe1.out
                go_wp2_with fail
                change bodyPost _ _ _ _ _ (((set5 we w.heap.size (.int .u8 1) (.string ⟨#[]⟩) (.int .i64 0) (.int .i64 0) (.slice p ks.length c)).setCell ⟨w.heap.size + 1, 0, none⟩ (.int .i64 0)).setCell ⟨w.heap.size + 1, 1, none⟩ (.int .i64 0))
                generalize ((set5 we w.heap.size (.int .u8 1) (.string ⟨#[]⟩) (.int .i64 0) (.int .i64 0) (.slice p ks.length c)).setCell ⟨w.heap.size + 1, 0, none⟩ (.int .i64 0)).setCell ⟨w.heap.size + 1, 1, none⟩ (.int .i64 0) = WZ at *
                exact prog_ret6 rfl rfl rfl K2.out K3.out (by rw [HMz.out]; exact ⟨_, rfl, K1.out, by show NodeAt WZ WZ.heap.size 30 T0 _; rw [HPT.out]; exact ⟨fits_prog ks, _, rfl, (HOe.out.keep fun b o hb ho => (K4.out b (by have := hb.1; omega)).trans ho).kids fun b hb => by rw [K5.out]; have := hb.2; omega⟩⟩)
end Go.Proofs.YtfpohaipmnjflaaGreatDoor
/- ParseTells, a part: the program's answer for a source is the document's; by contract. Condition: the library's table of blanks lies as laid. -/
namespace Go.Proofs.YtfpohaipmnjflaaGreatDoor
open Go.RowKit

/-- two boxes behind a call that hands back a node and a fault -/
theorem boxes6 {w w1 : World} (T : Tree) (sl : Value) (er pl : Int) (hb : Below w.heap.size w w1) : ∃ W, W = ((w1.alloc (.cells #[.int .u8 T.kind, .string T.text, .int .i64 T.num, .int .i64 T.place, sl] 25)).alloc (.cells #[.int .i64 er, .int .i64 pl] 42)) ∧ Below w1.heap.size w1 W ∧ Below w.heap.size w W ∧
    W.heap[w1.heap.size]? = some (.cells #[.int .u8 T.kind, .string T.text, .int .i64 T.num, .int .i64 T.place, sl] 25 (0, 0)) ∧ W.heap[w1.heap.size + 1]? = some (.cells #[.int .i64 er, .int .i64 pl] 42 (0, 0)) ∧ w1.heap.size + 1 < W.heap.size := by
  obtain ⟨X0, X1, _⟩ := two_new' w1 (.cells #[.int .u8 T.kind, .string T.text, .int .i64 T.num, .int .i64 T.place, sl] 25) (.cells #[.int .i64 er, .int .i64 pl] 42)
  have h := below_two w1 (.cells #[.int .u8 T.kind, .string T.text, .int .i64 T.num, .int .i64 T.place, sl] 25) (.cells #[.int .i64 er, .int .i64 pl] 42)
  exact ⟨_, rfl, h, hb.trans (h.mono hb.size), X0, X1, (Array.getElem?_eq_some_iff.1 X1).1⟩
set_option maxRecDepth 100000 in
set_option maxHeartbeats 4000000 in
theorem same6_any (s : ByteArray) (w : World) (ht : AsciiTab w) : Calls Tryz.prog 21 #[.string s] w (BoolPost true w) := by
  have HP := Lib.hid (program_any s w ht)
  have HR := Lib.hid (fun W => rprogram6_any s W)
  obtain ⟨T, hT⟩ : ∃ x, (progM s).1 = x := ⟨_, rfl⟩
  obtain ⟨er, her⟩ : ∃ x, (progM s).2.1 = x := ⟨_, rfl⟩
  obtain ⟨pl, hpl⟩ : ∃ x, (progM s).2.2 = x := ⟨_, rfl⟩
  have HT := Lib.hid hT
  have HEr := Lib.hid her
  have HPl := Lib.hid hpl
  clear ht hT her hpl
  go_enter Tryz.func21, Tryz.ntmps21
  go_wp2_with fail
  refine Calls.mono HP.out ?_
  rintro e w2 ⟨sl, rfl, hb2, ho, hf, hsl, _⟩
  rw [HT.out] at ho hf hsl ⊢
  rw [HEr.out, HPl.out]
  obtain ⟨p, c, rfl⟩ := ho.shape
  obtain ⟨w3, hw3, hb23, hb3, X0, X1, hl3⟩ := boxes6 T (.slice p T.kids.length c) er pl hb2
  have hM : NodeAt w2 w2.heap.size 30 T (.agg #[.int .u8 T.kind, .string T.text, .int .i64 T.num, .int .i64 T.place, .slice p T.kids.length c]) := ⟨hf, _, rfl, ho.kids fun _ hb => hb.2⟩
  have HM3 := Lib.hid ((hM.below hb23).up hb23.size)
  have HB3 := Lib.hid hb3
  have HX0 := Lib.hid X0
  have HX1 := Lib.hid X1
  have HL3 := Lib.hid hl3
  have HW3 := Lib.hid hw3
  clear hb2 ho hf hsl hb23 hb3 X0 X1 hM hw3
  go_upto_region 2 with fail
  change Code.wp _ _ _ _ ((w2.alloc (.cells #[.int .u8 T.kind, .string T.text, .int .i64 T.num, .int .i64 T.place, .slice p T.kids.length c] 25)).alloc (.cells #[.int .i64 er, .int .i64 pl] 42))
  rw [← HW3.out]
  clear HW3
  go_wp2_with fail
  refine Calls.mono (HR.out w3) ?_
  rintro e w4 ⟨v, rfl, hb4, hN⟩
  rw [HT.out] at hN
  rw [HEr.out, HPl.out]
  have hN' := hN
  obtain ⟨hf2, s2, rfl, hk2⟩ := hN'
  obtain ⟨p2, n2, c2, rfl⟩ := hk2.shape
  obtain ⟨w5, hw5, hb45, hb5, Y0, Y1, hl5⟩ := boxes6 T (.slice p2 n2 c2) er pl (HB3.out.trans (hb4.mono HB3.out.size))
  have hb35 := hb4.trans (hb45.mono hb4.size)
  have HB5 := Lib.hid hb5
  have HX50 := Lib.hid (heap_below hb35 HX0.out (by omega))
  have HX51 := Lib.hid (heap_below hb35 HX1.out hl3)
  have HSame := Lib.hid (sameNode_of 30 (sameNodes_holds 30) T _ _ w3.heap.size w4.heap.size w5 (HM3.out.below hb35) (hN.below hb45) hb35.size hb45.size)
  have HW5 := Lib.hid hw5
  obtain ⟨a0, a1, a2, a3, a4⟩ := cells5 HX50.out
  obtain ⟨b0, b1, _, _⟩ := cells2p HX51.out
  obtain ⟨d0, d1, d2, d3, d4⟩ := cells5 Y0
  obtain ⟨e0, e1, _, _⟩ := cells2p Y1
  clear hb4 hN hf2 hk2 hb45 hb5 Y0 Y1 hb35 hw5
  go_upto_region 3 with fail
  change Code.wp _ _ _ _ ((w4.alloc (.cells #[.int .u8 T.kind, .string T.text, .int .i64 T.num, .int .i64 T.place, .slice p2 n2 c2] 25)).alloc (.cells #[.int .i64 er, .int .i64 pl] 42))
  rw [← HW5.out]
  clear HW5
  go_wp2_with fail
  refine Calls.mono HSame.out ?_
  rintro e w6 ⟨rfl, hb6⟩
  have HB6 := Lib.hid (HB5.out.trans (hb6.mono HB5.out.size))
  clear hb6 a0 a1 a2 a3 a4 b0 b1 d0 d1 d2 d3 d4 e0 e1
  go_wp2_with fail
  go_ret
  exact ⟨rfl, HB6.out⟩
end Go.Proofs.YtfpohaipmnjflaaGreatDoor
