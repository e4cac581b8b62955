/- The reference's token; by contract. Conditions: the source has at most 16384 bytes. -/
import Derived.Test.YtondgnefggglcaaDoorRefC
import Derived.Handy
namespace Go.Proofs.YtondgnefggglcaaDoor
open Go.RowKit

theorem nameFrom_on (l : List UInt8) (k : Nat) (hk : k ≠ 0) (h : l.all isOn = true) : nameFrom k l = true := by
  induction l generalizing k with
  | nil => rfl
  | cons c r ih =>
    simp only [List.all_cons, Bool.and_eq_true] at h
    simp only [nameFrom, ih (k + 1) (by omega) h.2, Bool.and_true]
    have hc := h.1
    unfold isOn at hc
    unfold nameAt
    cases hl : isLow c
    · rw [hl] at hc; simp only [Bool.false_or] at hc ⊢; rw [hc]; simp [hk]
    · rfl
theorem namedF_on (l : List UInt8) (h : l.all isOn = true) : namedF l = namedB l := by
  cases l with
  | nil => rfl
  | cons c r =>
    simp only [List.all_cons, Bool.and_eq_true] at h
    unfold namedF namedB
    simp only [nameFrom, nameFrom_on r 1 (by omega) h.2, Bool.and_true]
    have : nameAt 0 c = isLow c := by simp [nameAt]
    rw [this]
    have h1 : decide (1 ≤ (c :: r).length) = true := by simp
    rw [h1, Bool.and_true, Bool.and_comm]
theorem scanTo_all (p : UInt8 → Bool) (s : ByteArray) (k : Nat) : (s.extract k (scanTo p s k)).data.toList.all p = true := by
  have e : (s.extract k (scanTo p s k)).data.toList = (s.data.toList.drop k).takeWhile p := by
    rw [ByteArray.data_extract, Array.toList_extract]
    show (s.data.toList.drop k).take (scanTo p s k - k) = _
    unfold scanTo
    rw [Nat.add_sub_cancel_left]
    exact (List.prefix_iff_eq_take.1 (List.takeWhile_prefix p)).symm
  rw [e, List.all_takeWhile]

/-- what the reference's token answers -/
def RTokPost (w : World) (s : ByteArray) (k : Nat) (c : UInt8) (e : Ending) (W : World) : Prop :=
  Below w.heap.size w W ∧
  (((tokenAt s k c).2.2.1 = 0 ∧ e = .returned (.tuple #[.agg #[.int .u8 (tokenAt s k c).1, .string (tokenAt s k c).2.1, .int .i64 k], .int .i64 (tokenAt s k c).2.2.2, .int .i64 0])) ∨
   ((tokenAt s k c).2.2.1 ≠ 0 ∧ e = .returned (.tuple #[.agg #[.int .u8 0, .string ⟨#[]⟩, .int .i64 0], .int .i64 0, .int .i64 (tokenAt s k c).2.2.1])))
theorem rtok_ok {w W : World} {s : ByteArray} {k : Nat} {c : UInt8} {kd en : Nat} {tx : ByteArray} (hb : Below w.heap.size w W) (h : tokenAt s k c = (kd, tx, 0, en)) :
    RTokPost w s k c (.returned (.tuple #[.agg #[.int .u8 kd, .string tx, .int .i64 k], .int .i64 en, .int .i64 0])) W := by
  unfold RTokPost; rw [h]; exact ⟨hb, .inl ⟨rfl, rfl⟩⟩
theorem rtok_bad {w W : World} {s : ByteArray} {k : Nat} {c : UInt8} {kd en er : Nat} {tx : ByteArray} (hb : Below w.heap.size w W) (h : tokenAt s k c = (kd, tx, er, en)) (he : er ≠ 0) :
    RTokPost w s k c (.returned (.tuple #[.agg #[.int .u8 0, .string ⟨#[]⟩, .int .i64 0], .int .i64 0, .int .i64 er])) W := by
  unfold RTokPost; rw [h]; exact ⟨hb, .inr ⟨he, rfl⟩⟩

theorem rtoken_end (w W : World) (Rp : Ending → World → Prop) (a0 b0 c0 x y z : Value) (hT : W.heap[w.heap.size]? = some (.cells #[a0, b0, c0] 41 (0, 0))) (hb : Below w.heap.size w W) (enI erI : Int)
    (tmps : Array Value) (h4 : tmps.getD 4 undef = .pointer (some ⟨w.heap.size, 0, none⟩)) (h5 : tmps.getD 5 undef = .int .i64 enI) (h6 : tmps.getD 6 undef = .int .i64 erI)
    (hR : ∀ W', Below w.heap.size w W' → Rp (.returned (.tuple #[.agg #[x, y, z], .int .i64 enI, .int .i64 erI])) W') :
    bodyPost Tryd.prog Tryd.f20 Rp .ret ⟨tmps, []⟩ (((W.setCell ⟨w.heap.size, 0, none⟩ x).setCell ⟨w.heap.size, 1, none⟩ y).setCell ⟨w.heap.size, 2, none⟩ z) := by
  have hT' := heap_set (heap_set (heap_set hT 0 x) 1 y) 2 z
  have hb' := ((hb.setCell (p := ⟨w.heap.size, 0, none⟩) (Nat.le_refl _) x).setCell (p := ⟨w.heap.size, 1, none⟩) (Nat.le_refl _) y).setCell (p := ⟨w.heap.size, 2, none⟩) (Nat.le_refl _) z
  generalize ((W.setCell ⟨w.heap.size, 0, none⟩ x).setCell ⟨w.heap.size, 1, none⟩ y).setCell ⟨w.heap.size, 2, none⟩ z = W9 at *
  have hT2 : W9.heap[w.heap.size]? = some (.cells #[x, y, z] 41 (0, 0)) := hT'
  obtain ⟨c0, c1, c2, _⟩ := cells3 hT2
  have h4' : tmps[4]?.getD undef = .pointer (some ⟨w.heap.size, 0, none⟩) := by simpa using h4
  have h5' : tmps[5]?.getD undef = .int .i64 enI := by simpa using h5
  have h6' : tmps[6]?.getD undef = .int .i64 erI := by simpa using h6
  refine bodyPost_ret (v := .tuple #[.agg #[x, y, z], .int .i64 enI, .int .i64 erI]) ?_ rfl (hR W9 hb')
  simp [results, Tryd.results20, go_sem, h4', h5', h6', c0, c1, c2]

theorem rtoken_fin (w W : World) (Rp : Ending → World → Prop) (x y z : Value) (hT : W.heap[w.heap.size]? = some (.cells #[x, y, z] 41 (0, 0))) (enI erI : Int)
    (tmps : Array Value) (h4 : tmps.getD 4 undef = .pointer (some ⟨w.heap.size, 0, none⟩)) (h5 : tmps.getD 5 undef = .int .i64 enI) (h6 : tmps.getD 6 undef = .int .i64 erI)
    (hR : Rp (.returned (.tuple #[.agg #[x, y, z], .int .i64 enI, .int .i64 erI])) W) :
    bodyPost Tryd.prog Tryd.f20 Rp .ret ⟨tmps, []⟩ W := by
  obtain ⟨c0, c1, c2, _⟩ := cells3 hT
  have h4' : tmps[4]?.getD undef = .pointer (some ⟨w.heap.size, 0, none⟩) := by simpa using h4
  have h5' : tmps[5]?.getD undef = .int .i64 enI := by simpa using h5
  have h6' : tmps[6]?.getD undef = .int .i64 erI := by simpa using h6
  refine bodyPost_ret (v := .tuple #[.agg #[x, y, z], .int .i64 enI, .int .i64 erI]) ?_ rfl hR
  simp [results, Tryd.results20, go_sem, h4', h5', h6', c0, c1, c2]

set_option maxRecDepth 100000 in
set_option maxHeartbeats 1000000 in
theorem rtoken_name (s : ByteArray) (k : Nat) (w : World) (hk : k < s.size) (hs : s.size ≤ 16384) (hc : isLow s[k] = true) :
    Calls Tryd.prog 20 #[.string s, .int .i64 k] w (RTokPost w s k s[k]) := by
  have hle1 := scanTo_le isOn s k (by omega)
  have hge1 := scanTo_ge isOn s k
  have HTA : Hid (tokenAt s k s[k] = (if wordB (s.extract k (scanTo isOn s k)).data.toList then 1 else 2, s.extract k (scanTo isOn s k), if scanTo isOn s k - k ≤ 24 then 0 else 201, scanTo isOn s k)) := by
    show tokenAt s k s[k] = _
    unfold tokenAt; rw [if_pos hc]
  have HR := Lib.hid (fun W => rrun_any s k W (by omega) hs)
  have HL := Lib.hid (fun W => rlow_any s[k] W)
  rw [hc] at HL
  generalize scanTo isOn s k = en at *
  go_enter Tryd.func20, Tryd.ntmps20
  have h0 : ∀ (a b : Obj), ((w.alloc a).alloc b).heap[w.heap.size]? = some a ∧ ((w.alloc a).alloc b).heap[w.heap.size + 1]? = some b ∧ Below w.heap.size w ((w.alloc a).alloc b) := fun a b =>
    ⟨by rw [at_alloc, World.size_alloc, if_neg (by omega), at_alloc, if_pos rfl], by rw [at_alloc, World.size_alloc, if_pos rfl], ((Below.refl _ w).alloc (Nat.le_refl _) _).alloc (by simp) _⟩
  obtain ⟨A1, A2, A3⟩ := h0 (.cells #[.int .u8 0, .string ⟨#[]⟩, .int .i64 0] 41) (.cells #[.int .u8 2, .string (s.extract k en), .int .i64 k] 41)
  clear h0
  have HA1 := Lib.hid A1
  have HA2 := Lib.hid A2
  clear A1 A2
  by_cases h24 : en - k ≤ 24
  · have hx : (en : Int) - k ≤ 24 := by omega
    have HW := Lib.hid (fun W (x : Bool) (hx : wordB (s.extract k en).data.toList = x) => (rword_any (s.extract k en) W).mono (R' := fun e w' => e = .returned (.bool x) ∧ Below W.heap.size W w') (fun e w' hh => ⟨by rw [hh.1, hx], hh.2⟩))
    cases hw : wordB (s.extract k en).data.toList
    · have HF : Hid (tokenAt s k s[k] = (2, s.extract k en, 0, en)) := by
        show tokenAt s k s[k] = _
        rw [HTA.out, hw, if_neg (by simp), if_pos h24]
      have HWW := Lib.hid hw
      clear HTA hw
      go_wp2_with (first
        | (go_at_call 27; refine (HL.out _).mono ?_; rintro e w' ⟨rfl, rfl⟩)
        | (go_at_call 28; refine (HR.out _).mono ?_; rintro e w' ⟨rfl, rfl⟩)
        | (go_at_call 29; refine (HW.out _ _ HWW.out).mono ?_; rintro e w' ⟨rfl, hb⟩; have B1 := heap_below hb HA1.out (by simp only [World.size_alloc]; omega); have B2 := heap_below hb HA2.out (by simp only [World.size_alloc]; omega); obtain ⟨c0, c1, c2, f0, f1, f2⟩ := cells3 B1; obtain ⟨d0, d1, d2, e0, e1, e2⟩ := cells3 B2; have HB1 := Lib.hid B1; have HBL := A3.trans (hb.mono A3.size); clear B1 B2))
      exact rtoken_end w _ _ _ _ _ _ _ _ HB1.out HBL _ _ _ rfl rfl rfl (fun W' hb' => rtok_ok hb' HF.out)
    · have HF : Hid (tokenAt s k s[k] = (1, s.extract k en, 0, en)) := by
        show tokenAt s k s[k] = _
        rw [HTA.out, hw, if_pos rfl, if_pos h24]
      have HWW := Lib.hid hw
      clear HTA hw
      go_wp2_with (first
        | (go_at_call 27; refine (HL.out _).mono ?_; rintro e w' ⟨rfl, rfl⟩)
        | (go_at_call 28; refine (HR.out _).mono ?_; rintro e w' ⟨rfl, rfl⟩)
        | (go_at_call 29; refine (HW.out _ _ HWW.out).mono ?_; rintro e w' ⟨rfl, hb⟩; have B1 := heap_below hb HA1.out (by simp only [World.size_alloc]; omega); have B2 := heap_below hb HA2.out (by simp only [World.size_alloc]; omega); obtain ⟨c0, c1, c2, f0, f1, f2⟩ := cells3 B1; have B3 := heap_set B2 0 (.int .u8 1); obtain ⟨e0, e1, e2, f3, f4, f5⟩ := cells3 B2; obtain ⟨d0, d1, d2, g3, g4, g5⟩ := cells3 B3; have HB1 := Lib.hid (heap_set_far B1 (T := w.heap.size + 1) (by omega) 0 (.int .u8 1)); have HBL := (A3.trans (hb.mono A3.size)).setCell (p := ⟨w.heap.size + 1, 0, none⟩) (by show w.heap.size ≤ w.heap.size + 1; omega) (.int .u8 1); clear B1 B2 B3))
      exact rtoken_end w _ _ _ _ _ _ _ _ HB1.out HBL _ _ _ rfl rfl rfl (fun W' hb' => rtok_ok hb' HF.out)
  · have hx : 24 < (en : Int) - k := by omega
    have HF : Hid (∃ kd, tokenAt s k s[k] = (kd, s.extract k en, 201, en)) := by
      show ∃ kd, tokenAt s k s[k] = _
      rw [HTA.out, if_neg h24]; exact ⟨_, rfl⟩
    clear HTA
    go_wp2_with (first
      | (go_at_call 27; refine (HL.out _).mono ?_; rintro e w' ⟨rfl, rfl⟩)
      | (go_at_call 28; refine (HR.out _).mono ?_; rintro e w' ⟨rfl, rfl⟩))
    obtain ⟨kd, hF⟩ := HF.out
    exact rtoken_fin w _ _ _ _ _ HA1.out _ _ _ rfl rfl rfl (rtok_bad A3 hF (by decide))
end Go.Proofs.YtondgnefggglcaaDoor
