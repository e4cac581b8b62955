/- Several texts joined, each with its own sentence and conditions ahead of it: RefD, RefE, RefF, PlainA. -/
import Derived.Test.YtfpohaipmnjflaaGreatDoorMD
import Derived.Handy
/- The reference's token; by contract. Conditions: the source has at most 16384 bytes. -/
namespace Go.Proofs.YtfpohaipmnjflaaGreatDoor
open Go.RowKit

theorem nameFrom_on (l : List UInt8) (k : Nat) (hk : k ≠ 0) (h : l.all isOn = true) : nameFrom k l = true := by
  induction l generalizing k with
  | nil => rfl
  | cons c r ih =>
    simp only [List.all_cons, Bool.and_eq_true] at h
    simp only [nameFrom, ih (k + 1) (by omega) h.2, Bool.and_true]
    have hc := h.1
    unfold isOn at hc
    unfold nameAt
    cases hl : isLow c
    · rw [hl] at hc; simp only [Bool.false_or] at hc ⊢; rw [hc]; simp [hk]
    · rfl
theorem namedF_on (l : List UInt8) (h : l.all isOn = true) : namedF l = namedB l := by
  cases l with
  | nil => rfl
  | cons c r =>
    simp only [List.all_cons, Bool.and_eq_true] at h
    unfold namedF namedB
    simp only [nameFrom, nameFrom_on r 1 (by omega) h.2, Bool.and_true]
    have : nameAt 0 c = isLow c := by simp [nameAt]
    rw [this]
    have h1 : decide (1 ≤ (c :: r).length) = true := by simp
    rw [h1, Bool.and_true, Bool.and_comm]
theorem scanTo_all (p : UInt8 → Bool) (s : ByteArray) (k : Nat) : (s.extract k (scanTo p s k)).data.toList.all p = true := by
  have e : (s.extract k (scanTo p s k)).data.toList = (s.data.toList.drop k).takeWhile p := by
    rw [ByteArray.data_extract, Array.toList_extract]
    show (s.data.toList.drop k).take (scanTo p s k - k) = _
    unfold scanTo
    rw [Nat.add_sub_cancel_left]
    exact (List.prefix_iff_eq_take.1 (List.takeWhile_prefix p)).symm
  rw [e, List.all_takeWhile]

/-- what the reference's token answers -/
def RTokPost (w : World) (s : ByteArray) (k : Nat) (c : UInt8) (e : Ending) (W : World) : Prop :=
  Below w.heap.size w W ∧
  (((tokenAt s k c).2.2.1 = 0 ∧ e = .returned (.tuple #[.agg #[.int .u8 (tokenAt s k c).1, .string (tokenAt s k c).2.1, .int .i64 k], .int .i64 (tokenAt s k c).2.2.2, .int .i64 0])) ∨
   ((tokenAt s k c).2.2.1 ≠ 0 ∧ e = .returned (.tuple #[.agg #[.int .u8 0, .string ⟨#[]⟩, .int .i64 0], .int .i64 0, .int .i64 (tokenAt s k c).2.2.1])))
theorem rtok_ok {w W : World} {s : ByteArray} {k : Nat} {c : UInt8} {kd en : Nat} {tx : ByteArray} (hb : Below w.heap.size w W) (h : tokenAt s k c = (kd, tx, 0, en)) :
    RTokPost w s k c (.returned (.tuple #[.agg #[.int .u8 kd, .string tx, .int .i64 k], .int .i64 en, .int .i64 0])) W := by
  unfold RTokPost; rw [h]; exact ⟨hb, .inl ⟨rfl, rfl⟩⟩
theorem rtok_bad {w W : World} {s : ByteArray} {k : Nat} {c : UInt8} {kd en er : Nat} {tx : ByteArray} (hb : Below w.heap.size w W) (h : tokenAt s k c = (kd, tx, er, en)) (he : er ≠ 0) :
    RTokPost w s k c (.returned (.tuple #[.agg #[.int .u8 0, .string ⟨#[]⟩, .int .i64 0], .int .i64 0, .int .i64 er])) W := by
  unfold RTokPost; rw [h]; exact ⟨hb, .inr ⟨he, rfl⟩⟩

theorem rtoken_end (w W : World) (Rp : Ending → World → Prop) (a0 b0 c0 x y z : Value) (hT : W.heap[w.heap.size]? = some (.cells #[a0, b0, c0] 67 (0, 0))) (hb : Below w.heap.size w W) (enI erI : Int)
    (tmps : Array Value) (h4 : tmps.getD 4 undef = .pointer (some ⟨w.heap.size, 0, none⟩)) (h5 : tmps.getD 5 undef = .int .i64 enI) (h6 : tmps.getD 6 undef = .int .i64 erI)
    (hR : ∀ W', Below w.heap.size w W' → Rp (.returned (.tuple #[.agg #[x, y, z], .int .i64 enI, .int .i64 erI])) W') :
    bodyPost Tryz.prog Tryz.f105 Rp .ret ⟨tmps, []⟩ (((W.setCell ⟨w.heap.size, 0, none⟩ x).setCell ⟨w.heap.size, 1, none⟩ y).setCell ⟨w.heap.size, 2, none⟩ z) := by
  have hT' := heap_set (heap_set (heap_set hT 0 x) 1 y) 2 z
  have hb' := ((hb.setCell (p := ⟨w.heap.size, 0, none⟩) (Nat.le_refl _) x).setCell (p := ⟨w.heap.size, 1, none⟩) (Nat.le_refl _) y).setCell (p := ⟨w.heap.size, 2, none⟩) (Nat.le_refl _) z
  generalize ((W.setCell ⟨w.heap.size, 0, none⟩ x).setCell ⟨w.heap.size, 1, none⟩ y).setCell ⟨w.heap.size, 2, none⟩ z = W9 at *
  have hT2 : W9.heap[w.heap.size]? = some (.cells #[x, y, z] 67 (0, 0)) := hT'
  obtain ⟨c0, c1, c2, _⟩ := cells3 hT2
  have h4' : tmps[4]?.getD undef = .pointer (some ⟨w.heap.size, 0, none⟩) := by simpa using h4
  have h5' : tmps[5]?.getD undef = .int .i64 enI := by simpa using h5
  have h6' : tmps[6]?.getD undef = .int .i64 erI := by simpa using h6
  refine bodyPost_ret (v := .tuple #[.agg #[x, y, z], .int .i64 enI, .int .i64 erI]) ?_ rfl (hR W9 hb')
  simp [results, Tryz.results105, go_sem, h4', h5', h6', c0, c1, c2]

theorem rtoken_fin (w W : World) (Rp : Ending → World → Prop) (x y z : Value) (hT : W.heap[w.heap.size]? = some (.cells #[x, y, z] 67 (0, 0))) (enI erI : Int)
    (tmps : Array Value) (h4 : tmps.getD 4 undef = .pointer (some ⟨w.heap.size, 0, none⟩)) (h5 : tmps.getD 5 undef = .int .i64 enI) (h6 : tmps.getD 6 undef = .int .i64 erI)
    (hR : Rp (.returned (.tuple #[.agg #[x, y, z], .int .i64 enI, .int .i64 erI])) W) :
    bodyPost Tryz.prog Tryz.f105 Rp .ret ⟨tmps, []⟩ W := by
  obtain ⟨c0, c1, c2, _⟩ := cells3 hT
  have h4' : tmps[4]?.getD undef = .pointer (some ⟨w.heap.size, 0, none⟩) := by simpa using h4
  have h5' : tmps[5]?.getD undef = .int .i64 enI := by simpa using h5
  have h6' : tmps[6]?.getD undef = .int .i64 erI := by simpa using h6
  refine bodyPost_ret (v := .tuple #[.agg #[x, y, z], .int .i64 enI, .int .i64 erI]) ?_ rfl hR
  simp [results, Tryz.results105, go_sem, h4', h5', h6', c0, c1, c2]

set_option maxRecDepth 100000 in
set_option maxHeartbeats 1000000 in
theorem rtoken_name (s : ByteArray) (k : Nat) (w : World) (hk : k < s.size) (hs : s.size ≤ 16384) (hc : isLow s[k] = true) :
    Calls Tryz.prog 105 #[.string s, .int .i64 k] w (RTokPost w s k s[k]) := by
  have hle1 := scanTo_le isOn s k (by omega)
  have hge1 := scanTo_ge isOn s k
  have HTA : Hid (tokenAt s k s[k] = (if wordB (s.extract k (scanTo isOn s k)).data.toList then 1 else 2, s.extract k (scanTo isOn s k), if scanTo isOn s k - k ≤ 24 then 0 else 201, scanTo isOn s k)) := by
    show tokenAt s k s[k] = _
    unfold tokenAt; rw [if_pos hc]
  have HR := Lib.hid (fun W => rrun_any s k W (by omega) hs)
  have HL := Lib.hid (fun W => rlow_any s[k] W)
  rw [hc] at HL
  generalize scanTo isOn s k = en at *
  go_enter Tryz.func105, Tryz.ntmps105
  have h0 : ∀ (a b : Obj), ((w.alloc a).alloc b).heap[w.heap.size]? = some a ∧ ((w.alloc a).alloc b).heap[w.heap.size + 1]? = some b ∧ Below w.heap.size w ((w.alloc a).alloc b) := fun a b =>
    ⟨by rw [at_alloc, World.size_alloc, if_neg (by omega), at_alloc, if_pos rfl], by rw [at_alloc, World.size_alloc, if_pos rfl], ((Below.refl _ w).alloc (Nat.le_refl _) _).alloc (by simp) _⟩
  obtain ⟨A1, A2, A3⟩ := h0 (.cells #[.int .u8 0, .string ⟨#[]⟩, .int .i64 0] 67) (.cells #[.int .u8 2, .string (s.extract k en), .int .i64 k] 67)
  clear h0
  have HA1 := Lib.hid A1
  have HA2 := Lib.hid A2
  clear A1 A2
  by_cases h24 : en - k ≤ 24
  · have hx : (en : Int) - k ≤ 24 := by omega
    have HW := Lib.hid (fun W (x : Bool) (hx : wordB (s.extract k en).data.toList = x) => (rword_any (s.extract k en) W).mono (R' := fun e w' => e = .returned (.bool x) ∧ Below W.heap.size W w') (fun e w' hh => ⟨by rw [hh.1, hx], hh.2⟩))
    cases hw : wordB (s.extract k en).data.toList
    · have HF : Hid (tokenAt s k s[k] = (2, s.extract k en, 0, en)) := by
        show tokenAt s k s[k] = _
        rw [HTA.out, hw, if_neg (by simp), if_pos h24]
      have HWW := Lib.hid hw
      clear HTA hw
      go_wp2_with (first
        | (go_at_call 138; refine (HL.out _).mono ?_; rintro e w' ⟨rfl, rfl⟩)
        | (go_at_call 139; refine (HR.out _).mono ?_; rintro e w' ⟨rfl, rfl⟩)
        | (go_at_call 140; refine (HW.out _ _ HWW.out).mono ?_; rintro e w' ⟨rfl, hb⟩; have B1 := heap_below hb HA1.out (by simp only [World.size_alloc]; omega); have B2 := heap_below hb HA2.out (by simp only [World.size_alloc]; omega); obtain ⟨c0, c1, c2, f0, f1, f2⟩ := cells3 B1; obtain ⟨d0, d1, d2, e0, e1, e2⟩ := cells3 B2; have HB1 := Lib.hid B1; have HBL := A3.trans (hb.mono A3.size); clear B1 B2))
      exact rtoken_end w _ _ _ _ _ _ _ _ HB1.out HBL _ _ _ rfl rfl rfl (fun W' hb' => rtok_ok hb' HF.out)
    · have HF : Hid (tokenAt s k s[k] = (1, s.extract k en, 0, en)) := by
        show tokenAt s k s[k] = _
        rw [HTA.out, hw, if_pos rfl, if_pos h24]
      have HWW := Lib.hid hw
      clear HTA hw
      go_wp2_with (first
        | (go_at_call 138; refine (HL.out _).mono ?_; rintro e w' ⟨rfl, rfl⟩)
        | (go_at_call 139; refine (HR.out _).mono ?_; rintro e w' ⟨rfl, rfl⟩)
        | (go_at_call 140; refine (HW.out _ _ HWW.out).mono ?_; rintro e w' ⟨rfl, hb⟩; have B1 := heap_below hb HA1.out (by simp only [World.size_alloc]; omega); have B2 := heap_below hb HA2.out (by simp only [World.size_alloc]; omega); obtain ⟨c0, c1, c2, f0, f1, f2⟩ := cells3 B1; have B3 := heap_set B2 0 (.int .u8 1); obtain ⟨e0, e1, e2, f3, f4, f5⟩ := cells3 B2; obtain ⟨d0, d1, d2, g3, g4, g5⟩ := cells3 B3; have HB1 := Lib.hid (heap_set_far B1 (T := w.heap.size + 1) (by omega) 0 (.int .u8 1)); have HBL := (A3.trans (hb.mono A3.size)).setCell (p := ⟨w.heap.size + 1, 0, none⟩) (by show w.heap.size ≤ w.heap.size + 1; omega) (.int .u8 1); clear B1 B2 B3))
      exact rtoken_end w _ _ _ _ _ _ _ _ HB1.out HBL _ _ _ rfl rfl rfl (fun W' hb' => rtok_ok hb' HF.out)
  · have hx : 24 < (en : Int) - k := by omega
    have HF : Hid (∃ kd, tokenAt s k s[k] = (kd, s.extract k en, 201, en)) := by
      show ∃ kd, tokenAt s k s[k] = _
      rw [HTA.out, if_neg h24]; exact ⟨_, rfl⟩
    clear HTA
    go_wp2_with (first
      | (go_at_call 138; refine (HL.out _).mono ?_; rintro e w' ⟨rfl, rfl⟩)
      | (go_at_call 139; refine (HR.out _).mono ?_; rintro e w' ⟨rfl, rfl⟩))
    obtain ⟨kd, hF⟩ := HF.out
    exact rtoken_fin w _ _ _ _ _ HA1.out _ _ _ rfl rfl rfl (rtok_bad A3 hF (by decide))
end Go.Proofs.YtfpohaipmnjflaaGreatDoor
/- The reference's token: marks and numbers; by contract. Conditions: the source has at most 16384 bytes. -/
namespace Go.Proofs.YtfpohaipmnjflaaGreatDoor
open Go.RowKit

theorem two_new (w : World) (a b : Obj) : ((w.alloc a).alloc b).heap[w.heap.size]? = some a ∧ ((w.alloc a).alloc b).heap[w.heap.size + 1]? = some b ∧ Below w.heap.size w ((w.alloc a).alloc b) :=
  ⟨by rw [at_alloc, World.size_alloc, if_neg (by omega), at_alloc, if_pos rfl], by rw [at_alloc, World.size_alloc, if_pos rfl], ((Below.refl _ w).alloc (Nat.le_refl _) _).alloc (by simp) _⟩
theorem byte_eq (c : UInt8) (n : Nat) (hn : n < 256) : (c == UInt8.ofNat n) = ((c.toNat : Int) == (n : Int)) := by
  rw [Bool.eq_iff_iff]
  simp only [beq_iff_eq]
  constructor
  · intro h; subst h; simp; omega
  · intro h
    have h1 : c.toNat = n := by omega
    rw [← h1]; simp

set_option maxRecDepth 100000 in
set_option maxHeartbeats 1000000 in
theorem rtoken_mark (s : ByteArray) (k : Nat) (w : World) (hk : k < s.size) (hs : s.size ≤ 16384) (hc : isLow s[k] = false) (hq : (s[k] == 63 || s[k] == 39) = true) :
    Calls Tryz.prog 105 #[.string s, .int .i64 k] w (RTokPost w s k s[k]) := by
  have hle1 := scanTo_le isOn s (k + 1) (by omega)
  have hge1 := scanTo_ge isOn s (k + 1)
  have htx : (s.extract (k + 1) (scanTo isOn s (k + 1))).size ≤ 16384 := by rw [ext_size s _ _ hle1]; omega
  have hall := namedF_on _ (scanTo_all isOn s (k + 1))
  have e63 : (s[k] == 63) = ((s[k].toNat : Int) == 63) := byte_eq s[k] 63 (by omega)
  have e39 : (s[k] == 39) = ((s[k].toNat : Int) == 39) := byte_eq s[k] 39 (by omega)
  have HTA : Hid (tokenAt s k s[k] = (if s[k] == 39 then 5 else 3, s.extract (k + 1) (scanTo isOn s (k + 1)), if namedB (s.extract (k + 1) (scanTo isOn s (k + 1))).data.toList then 0 else 201, scanTo isOn s (k + 1))) := by
    show tokenAt s k s[k] = _
    unfold tokenAt; rw [if_neg (by rw [hc]; simp), if_pos hq]
  have HR : Hid (∀ W, Calls Tryz.prog 139 #[.string s, .int .i64 ((k : Int) + 1)] W fun e w' => e = .returned (.int .i64 (scanTo isOn s (k + 1))) ∧ W = w') := by
    intro W
    have h := rrun_any s (k + 1) W (by omega) hs
    have e : (((k + 1 : Nat)) : Int) = (k : Int) + 1 := by omega
    rw [e] at h; exact h
  have HL := Lib.hid (fun W => rlow_any s[k] W)
  rw [hc] at HL
  generalize scanTo isOn s (k + 1) = en at *
  have HN := Lib.hid (fun W (x : Bool) (hx : namedB (s.extract (k + 1) en).data.toList = x) => (rnamed_any (s.extract (k + 1) en) W htx).mono (R' := fun e w' => e = .returned (.bool x) ∧ W = w') (fun e w' hh => ⟨by rw [hh.1, hall, hx], hh.2⟩))
  obtain ⟨A1, A2, A3⟩ := two_new w (.cells #[.int .u8 0, .string ⟨#[]⟩, .int .i64 0] 67) (.cells #[.int .u8 3, .string (s.extract (k + 1) en), .int .i64 k] 67)
  obtain ⟨P1, P2, P3⟩ := two_new w (.cells #[.int .u8 0, .string ⟨#[]⟩, .int .i64 0] 67) (.cells #[.int .u8 5, .string (s.extract (k + 1) en), .int .i64 k] 67)
  have HA1 := Lib.hid A1
  have HP1 := Lib.hid P1
  clear A1 A2 P1 P2 hall
  have hi1 : (k : Int) + 1 ≤ en := by omega
  rw [Bool.or_eq_true] at hq
  go_enter Tryz.func105, Tryz.ntmps105
  cases hn : namedB (s.extract (k + 1) en).data.toList
  · have HNN := Lib.hid hn
    have HF : Hid (∃ kd, tokenAt s k s[k] = (kd, s.extract (k + 1) en, 201, en)) := by
      show ∃ kd, tokenAt s k s[k] = _
      rw [HTA.out, hn]; exact ⟨_, rfl⟩
    clear HTA hn
    obtain ⟨kd, hF⟩ := HF.out
    have HF2 := Lib.hid hF
    clear hF
    cases h39 : s[k] == 39
    · have b63 : ((s[k].toNat : Int) == 63) = true := by rw [← e63]; rcases hq with h | h; exact h; rw [h39] at h; cases h
      have b39 : ((s[k].toNat : Int) == 39) = false := by rw [← e39]; exact h39
      clear e63 e39 h39 hq
      go_wp2_with (first
        | (go_at_call 138; refine (HL.out _).mono ?_; rintro e w' ⟨rfl, rfl⟩)
        | (go_at_call 139; refine (HR.out _).mono ?_; rintro e w' ⟨rfl, rfl⟩)
        | (go_at_call 85; refine (HN.out _ _ HNN.out).mono ?_; rintro e w' ⟨rfl, rfl⟩))
      exact rtoken_fin w _ _ _ _ _ HA1.out _ _ _ rfl rfl rfl (rtok_bad A3 HF2.out (by decide))
    · have b63 : ((s[k].toNat : Int) == 63) = false := by
        have h := h39; rw [e39] at h; simp at h ⊢; omega
      have b39 : ((s[k].toNat : Int) == 39) = true := by rw [← e39]; exact h39
      clear e63 e39 h39 hq
      go_wp2_with (first
        | (go_at_call 138; refine (HL.out _).mono ?_; rintro e w' ⟨rfl, rfl⟩)
        | (go_at_call 139; refine (HR.out _).mono ?_; rintro e w' ⟨rfl, rfl⟩)
        | (go_at_call 85; refine (HN.out _ _ HNN.out).mono ?_; rintro e w' ⟨rfl, rfl⟩))
      exact rtoken_fin w _ _ _ _ _ HP1.out _ _ _ rfl rfl rfl (rtok_bad P3 HF2.out (by decide))
  · have HNN := Lib.hid hn
    cases h39 : s[k] == 39
    · have HF : Hid (tokenAt s k s[k] = (3, s.extract (k + 1) en, 0, en)) := by
        show tokenAt s k s[k] = _
        rw [HTA.out, hn, h39]; rfl
      have b63 : ((s[k].toNat : Int) == 63) = true := by rw [← e63]; rcases hq with h | h; exact h; rw [h39] at h; cases h
      have b39 : ((s[k].toNat : Int) == 39) = false := by rw [← e39]; exact h39
      clear HTA hn e63 e39 h39 hq
      go_wp2_with (first
        | (go_at_call 138; refine (HL.out _).mono ?_; rintro e w' ⟨rfl, rfl⟩)
        | (go_at_call 139; refine (HR.out _).mono ?_; rintro e w' ⟨rfl, rfl⟩)
        | (go_at_call 85; refine (HN.out _ _ HNN.out).mono ?_; rintro e w' ⟨rfl, rfl⟩))
      exact rtoken_fin w _ _ _ _ _ (two_new w _ _).1 _ _ _ rfl rfl rfl (rtok_ok (two_new w _ _).2.2 HF.out)
    · have HF : Hid (tokenAt s k s[k] = (5, s.extract (k + 1) en, 0, en)) := by
        show tokenAt s k s[k] = _
        rw [HTA.out, hn, h39]; rfl
      have b63 : ((s[k].toNat : Int) == 63) = false := by
        have h := h39; rw [e39] at h; simp at h ⊢; omega
      have b39 : ((s[k].toNat : Int) == 39) = true := by rw [← e39]; exact h39
      clear HTA hn e63 e39 h39 hq
      go_wp2_with (first
        | (go_at_call 138; refine (HL.out _).mono ?_; rintro e w' ⟨rfl, rfl⟩)
        | (go_at_call 139; refine (HR.out _).mono ?_; rintro e w' ⟨rfl, rfl⟩)
        | (go_at_call 85; refine (HN.out _ _ HNN.out).mono ?_; rintro e w' ⟨rfl, rfl⟩))
      exact rtoken_fin w _ _ _ _ _ (two_new w _ _).1 _ _ _ rfl rfl rfl (rtok_ok (two_new w _ _).2.2 HF.out)

set_option maxRecDepth 100000 in
set_option maxHeartbeats 1000000 in
theorem rtoken_num (s : ByteArray) (k : Nat) (w : World) (hk : k < s.size) (hs : s.size ≤ 16384) (hc : isLow s[k] = false) (hq : (s[k] == 63 || s[k] == 39) = false) (hd : isDig s[k] = true) :
    Calls Tryz.prog 105 #[.string s, .int .i64 k] w (RTokPost w s k s[k]) := by
  have hle1 := scanTo_le isDig s k (by omega)
  have hge1 := scanTo_ge isDig s k
  have e63 : (s[k] == 63) = ((s[k].toNat : Int) == 63) := byte_eq s[k] 63 (by omega)
  have e39 : (s[k] == 39) = ((s[k].toNat : Int) == 39) := byte_eq s[k] 39 (by omega)
  rw [Bool.or_eq_false_iff] at hq
  have b63 : ((s[k].toNat : Int) == 63) = false := by rw [← e63]; exact hq.1
  have b39 : ((s[k].toNat : Int) == 39) = false := by rw [← e39]; exact hq.2
  have HTA : Hid (tokenAt s k s[k] = (4, s.extract k (scanTo isDig s k), if (number (s.extract k (scanTo isDig s k)).data.toList).isSome && !((s.data.toList.drop (scanTo isDig s k)).head?.any isOn) then 0 else 201, scanTo isDig s k)) := by
    show tokenAt s k s[k] = _
    unfold tokenAt; rw [if_neg (by rw [hc]; simp), if_neg (by rw [hq.1, hq.2]; simp), if_pos hd]
  have HL := Lib.hid (fun W => rlow_any s[k] W)
  have HDG := Lib.hid (fun W => rdigit_any s[k] W)
  rw [hc] at HL
  rw [hd] at HDG
  have hA := heap_alloc_new w (.cells #[.int .u8 0, .string ⟨#[]⟩, .int .i64 0] 67)
  have HA := Lib.hid hA
  have hB : Below w.heap.size w (w.alloc (.cells #[.int .u8 0, .string ⟨#[]⟩, .int .i64 0] 67)) := (Below.refl _ w).alloc (Nat.le_refl _) _
  clear e63 e39 hq hA
  go_enter Tryz.func105, Tryz.ntmps105
  go_wp2_with (first
    | (go_at_call 138; refine (HL.out _).mono ?_; rintro e w' ⟨rfl, rfl⟩)
    | (go_at_call 141; refine (HDG.out _).mono ?_; rintro e w' ⟨rfl, rfl⟩))
  go_loop [12] (fun i => ∃ j : Nat, k ≤ j ∧ j ≤ s.size ∧ i = .int .i64 j ∧ scanTo isDig s j = scanTo isDig s k) (fun i => s.size - (intOf i).toNat)
  case atStart => exact ⟨k, Nat.le_refl _, by omega, rfl, rfl⟩
  case round =>
    obtain ⟨j, hkj, hj, rfl, hsc⟩ := hrel
    have HS := Lib.hid hsc
    clear hsc
    have htx : (s.extract k j).size ≤ 16384 := by rw [ext_size s _ _ hj]; omega
    have HNU := Lib.hid (fun W (o : Option Nat) (ho : number (s.extract k j).data.toList = o) => (rnumber_any (s.extract k j) W htx).mono (R' := fun e w' => e = .returned (.tuple #[.int .i64 ((o.getD 0 : Nat) : Int), .bool o.isSome]) ∧ W = w') (fun e w' hh => ⟨by rw [hh.1, ho], hh.2⟩))
    by_cases hlt : j < s.size
    · have HDJ := Lib.hid (fun W => rdigit_any s[j] W)
      have HOJ := Lib.hid (fun W => ron_any s[j] W)
      have HY := Lib.hid (scanTo_yes isDig s j hlt)
      have HNO := Lib.hid (scanTo_no isDig s j hlt)
      have HON : Hid ((s.data.toList.drop j).head?.any isOn = isOn s[j]) := by
        show (s.data.toList.drop j).head?.any isOn = isOn s[j]
        rw [drop_cons s j hlt]; rfl
      cases hdj : isDig s[j]
      · rw [hdj] at HDJ HNO
        have hE : scanTo isDig s k = j := by rw [← HS.out]; exact HNO.out rfl
        have HE := Lib.hid hE
        cases hnu : number (s.extract k j).data.toList with
        | none =>
          have HNN := Lib.hid hnu
          have HF : Hid (tokenAt s k s[k] = (4, s.extract k j, 201, j)) := by
            show tokenAt s k s[k] = _
            rw [HTA.out, HE.out, hnu]; rfl
          clear HTA hE hnu hdj
          go_wp2_with (first
            | (go_at_call 141; refine (HDJ.out _).mono ?_; rintro e w' ⟨rfl, rfl⟩)
            | (go_at_call 122; refine (HNU.out _ _ HNN.out).mono ?_; rintro e w' ⟨rfl, rfl⟩))
          exact rtoken_fin w _ _ _ _ _ HA.out _ _ _ rfl rfl rfl (rtok_bad hB HF.out (by decide))
        | some v =>
          have HNN := Lib.hid hnu
          cases hon : isOn s[j]
          · rw [hon] at HOJ
            have HF : Hid (tokenAt s k s[k] = (4, s.extract k j, 0, j)) := by
              show tokenAt s k s[k] = _
              rw [HTA.out, HE.out, hnu, HON.out, hon]; rfl
            clear HTA hE hnu hdj hon
            go_wp2_with (first
              | (go_at_call 141; refine (HDJ.out _).mono ?_; rintro e w' ⟨rfl, rfl⟩)
              | (go_at_call 142; refine (HOJ.out _).mono ?_; rintro e w' ⟨rfl, rfl⟩)
              | (go_at_call 122; refine (HNU.out _ _ HNN.out).mono ?_; rintro e w' ⟨rfl, rfl⟩))
            exact rtoken_fin w _ _ _ _ _ (heap_alloc_new w _) _ _ _ rfl rfl rfl (rtok_ok ((Below.refl _ w).alloc (Nat.le_refl _) _) HF.out)
          · rw [hon] at HOJ
            have HF : Hid (tokenAt s k s[k] = (4, s.extract k j, 201, j)) := by
              show tokenAt s k s[k] = _
              rw [HTA.out, HE.out, hnu, HON.out, hon]; rfl
            clear HTA hE hnu hdj hon
            go_wp2_with (first
              | (go_at_call 141; refine (HDJ.out _).mono ?_; rintro e w' ⟨rfl, rfl⟩)
              | (go_at_call 142; refine (HOJ.out _).mono ?_; rintro e w' ⟨rfl, rfl⟩)
              | (go_at_call 122; refine (HNU.out _ _ HNN.out).mono ?_; rintro e w' ⟨rfl, rfl⟩))
            exact rtoken_fin w _ _ _ _ _ HA.out _ _ _ rfl rfl rfl (rtok_bad hB HF.out (by decide))
      · rw [hdj] at HDJ HY
        clear hdj
        go_wp2_with (first
          | (go_at_call 141; refine (HDJ.out _).mono ?_; rintro e w' ⟨rfl, rfl⟩))
        exact ⟨⟨j + 1, by omega, by omega, by go_num, by rw [HY.out (by trivial)]; exact HS.out⟩, by simp [intOf]; omega⟩
    · have hE : scanTo isDig s k = j := by rw [← HS.out]; exact scanTo_end isDig s j (by omega)
      have HE := Lib.hid hE
      have HON : Hid ((s.data.toList.drop j).head?.any isOn = false) := by
        show (s.data.toList.drop j).head?.any isOn = false
        rw [drop_end s j (by omega)]; rfl
      cases hnu : number (s.extract k j).data.toList with
      | none =>
        have HNN := Lib.hid hnu
        have HF : Hid (tokenAt s k s[k] = (4, s.extract k j, 201, j)) := by
          show tokenAt s k s[k] = _
          rw [HTA.out, HE.out, hnu]; rfl
        clear HTA hE hnu
        go_wp2_with (first
          | (go_at_call 122; refine (HNU.out _ _ HNN.out).mono ?_; rintro e w' ⟨rfl, rfl⟩))
        exact rtoken_fin w _ _ _ _ _ HA.out _ _ _ rfl rfl rfl (rtok_bad hB HF.out (by decide))
      | some v =>
        have HNN := Lib.hid hnu
        have HF : Hid (tokenAt s k s[k] = (4, s.extract k j, 0, j)) := by
          show tokenAt s k s[k] = _
          rw [HTA.out, HE.out, hnu, HON.out]; rfl
        clear HTA hE hnu
        go_wp2_with (first
          | (go_at_call 122; refine (HNU.out _ _ HNN.out).mono ?_; rintro e w' ⟨rfl, rfl⟩))
        exact rtoken_fin w _ _ _ _ _ (heap_alloc_new w _) _ _ _ rfl rfl rfl (rtok_ok ((Below.refl _ w).alloc (Nat.le_refl _) _) HF.out)
end Go.Proofs.YtfpohaipmnjflaaGreatDoor
/- The reference's token: signs; the token whole; by contract. Conditions: the source has at most 16384 bytes. -/
namespace Go.Proofs.YtfpohaipmnjflaaGreatDoor
open Go.RowKit

theorem ext_data (s : ByteArray) (a b : Nat) : (s.extract a b).data.toList = (s.data.toList.drop a).take (b - a) := by
  rw [ByteArray.data_extract, Array.toList_extract]
theorem signAt_ext (s : ByteArray) (k : Nat) (g : ByteArray) (h : k + g.size ≤ s.size) : ((s.extract k (k + g.size)).toList == g.toList) = signAt s k g := by
  unfold signAt
  rw [← Lib.hasPrefix_of_take, ByteArray.toList_eq, ByteArray.toList_eq, ext_data, Nat.add_sub_cancel_left]
  have e : g.data.toList.length = g.size := by simp
  rw [e]
  have h1 : decide (g.size ≤ (s.data.toList.drop k).length) = true := by simp; omega
  rw [h1, Bool.true_and]
theorem signAt_far (s : ByteArray) (k : Nat) (g : ByteArray) (hk : k ≤ s.size) (h : s.size < k + g.size) : signAt s k g = false := by
  cases hs : signAt s k g
  · rfl
  · have := signAt_le s k g hk hs; omega
theorem signs_size (m : Nat) (g : ByteArray) (h : signsL[m]? = some g) : g.size ≤ 2 := by
  have : signsL.all (fun g => decide (g.size ≤ 2)) = true := by kernel_rfl
  simpa using List.all_eq_true.1 this g (List.mem_of_getElem? h)

set_option maxRecDepth 100000 in
set_option maxHeartbeats 1000000 in
theorem rtoken_sign (s : ByteArray) (k : Nat) (w : World) (hk : k < s.size) (hs : s.size ≤ 16384) (hc : isLow s[k] = false) (hq : (s[k] == 63 || s[k] == 39) = false) (hd : isDig s[k] = false) :
    Calls Tryz.prog 105 #[.string s, .int .i64 k] w (RTokPost w s k s[k]) := by
  have e63 : (s[k] == 63) = ((s[k].toNat : Int) == 63) := byte_eq s[k] 63 (by omega)
  have e39 : (s[k] == 39) = ((s[k].toNat : Int) == 39) := byte_eq s[k] 39 (by omega)
  rw [Bool.or_eq_false_iff] at hq
  have b63 : ((s[k].toNat : Int) == 63) = false := by rw [← e63]; exact hq.1
  have b39 : ((s[k].toNat : Int) == 39) = false := by rw [← e39]; exact hq.2
  have HTA : Hid (tokenAt s k s[k] = match signsL.find? (signAt s k) with | some g => (6, g, 0, k + g.size) | none => (0, ⟨#[]⟩, 200, k)) := by
    show tokenAt s k s[k] = _
    unfold tokenAt; rw [if_neg (by rw [hc]; simp), if_neg (by rw [hq.1, hq.2]; simp), if_neg (by rw [hd]; simp)]; rfl
  have HL := Lib.hid (fun W => rlow_any s[k] W)
  have HDG := Lib.hid (fun W => rdigit_any s[k] W)
  rw [hc] at HL
  rw [hd] at HDG
  clear e63 e39 hq
  obtain ⟨A1, A2, A3⟩ := two_new w (.cells #[.int .u8 0, .string ⟨#[]⟩, .int .i64 0] 67) (.cells (signsL.map Value.string).toArray 9)
  go_enter Tryz.func105, Tryz.ntmps105
  go_wp2_with (first
    | (go_at_call 138; refine (HL.out _).mono ?_; rintro e w' ⟨rfl, rfl⟩)
    | (go_at_call 141; refine (HDG.out _).mono ?_; rintro e w' ⟨rfl, rfl⟩)
    | (go_at_call 143; refine (rsigns_any _).mono ?_; rintro e w' ⟨rfl, rfl⟩))
  generalize (w.alloc (.cells #[.int .u8 0, .string ⟨#[]⟩, .int .i64 0] 67)).alloc (.cells (signsL.map Value.string).toArray 9) = W0 at *
  have HA1 := Lib.hid A1
  have HA2 := Lib.hid A2
  clear A1 A2
  go_loopw [16, 17] (fun i _ wr => ∃ m : Nat, m ≤ 17 ∧ i = .int .i64 m ∧ (∃ n, wr = W0.drewN n) ∧ (signsL.drop m).find? (signAt s k) = signsL.find? (signAt s k)) (fun i _ _ => 17 - (intOf i).toNat)
  case atStart => exact ⟨0, by omega, rfl, ⟨0, rfl⟩, rfl⟩
  case round =>
    obtain ⟨m, hm, rfl, ⟨nn, rfl⟩, hfind⟩ := hrel
    have HFI := Lib.hid hfind
    clear hfind
    by_cases hlt : m < 17
    · obtain ⟨g, hg⟩ : ∃ g, signsL[m]? = some g := ⟨signsL[m]'hlt, List.getElem?_eq_getElem hlt⟩
      have hck : W0.cell? ⟨w.heap.size + 1, m, none⟩ = some (.string g) := by
        rw [cell_of_row _ _ _ _ _ _ HA2.out]; simp [hg]
      have hg2 := signs_size m g hg
      have HGM := Lib.hid hg
      clear hg
      have HST := Lib.hid (find_step (signAt s k) signsL m g HGM.out)
      have hm0 : (0 : Int) ≤ m := by omega
      have hm1 : (m : Int) < 17 := by omega
      by_cases hle : k + g.size ≤ s.size
      · have hi1 : (k : Int) + g.size ≤ s.size := by omega
        have hi2 : decide ((k : Int) + g.size ≤ s.size) = true := by simp; omega
        have hi0 : (0 : Int) ≤ k := by omega
        have hi3 : (k : Int) ≤ k + g.size := by omega
        have hsg := signAt_ext s k g hle
        obtain ⟨c0, c1, c2, f0, f1, f2⟩ := cells3 HA1.out
        cases hx : signAt s k g
        · rw [hx] at hsg
          have HSG := Lib.hid hx
          clear hx
          go_wp2
          go_quiet (fail)
          go_wp2
          refine ⟨⟨m + 1, by omega, by go_num, ⟨_, rfl⟩, ?_⟩, by simp [intOf]; omega⟩
          rw [← HFI.out, HST.out, HSG.out]; rfl
        · rw [hx] at hsg
          have HF : Hid (tokenAt s k s[k] = (6, g, 0, k + g.size)) := by
            show tokenAt s k s[k] = _
            rw [HTA.out, ← HFI.out, HST.out, hx]; rfl
          clear hx HTA
          go_wp2
          go_quiet (fail)
          go_wp2
          exact rtoken_end w (W0.drewN _) _ _ _ _ _ _ _ HA1.out (below_drewN A3 _) _ _ _ rfl rfl rfl (fun W' hb' => rtok_ok hb' HF.out)
      · have hsf := signAt_far s k g (by omega) (by omega)
        have HSG := Lib.hid hsf
        have hi1 : (s.size : Int) < k + g.size := by omega
        have hi2 : decide ((k : Int) + g.size ≤ s.size) = false := by simp; omega
        clear hsf
        go_wp2
        go_quiet (fail)
        go_wp2
        refine ⟨⟨m + 1, by omega, by go_num, ⟨_, rfl⟩, ?_⟩, by simp [intOf]; omega⟩
        rw [← HFI.out, HST.out, HSG.out]; rfl
    · obtain rfl : m = 17 := by omega
      have HF : Hid (tokenAt s k s[k] = (0, ⟨#[]⟩, 200, k)) := by
        show tokenAt s k s[k] = _
        rw [HTA.out, ← HFI.out]; rfl
      clear HTA
      obtain ⟨c0, c1, c2, f0, f1, f2⟩ := cells3 HA1.out
      go_wp2
      exact rtoken_end w (W0.drewN _) _ _ _ _ _ _ _ HA1.out (below_drewN A3 _) _ _ _ rfl rfl rfl (fun W' hb' => rtok_bad hb' HF.out (by decide))

theorem rtoken_any (s : ByteArray) (k : Nat) (w : World) (hk : k < s.size) (hs : s.size ≤ 16384) :
    Calls Tryz.prog 105 #[.string s, .int .i64 k] w (RTokPost w s k s[k]) := by
  cases hc : isLow s[k]
  · cases hq : s[k] == 63 || s[k] == 39
    · cases hd : isDig s[k]
      · exact rtoken_sign s k w hk hs hc hq hd
      · exact rtoken_num s k w hk hs hc hq hd
    · exact rtoken_mark s k w hk hs hc hq
  · exact rtoken_name s k w hk hs hc
end Go.Proofs.YtfpohaipmnjflaaGreatDoor
/- Where the tokens stand: the plain law of ScanPlaces, with no program in sight. No condition. -/
namespace Go.Proofs.YtfpohaipmnjflaaGreatDoor
open Go.RowKit

/-- the mark ahead of a token's text -/
def offOf (kd : Nat) : Nat := if kd == 3 || kd == 5 then 1 else 0
theorem bytes_ext (x y : ByteArray) (h : x.data.toList = y.data.toList) : x = y := by
  obtain ⟨⟨x⟩⟩ := x
  obtain ⟨⟨y⟩⟩ := y
  simpa using h
theorem tokenAt_span (s : ByteArray) (k : Nat) (hk : k < s.size) (h0 : (tokenAt s k s[k]).2.2.1 = 0) :
    (tokenAt s k s[k]).2.2.2 = k + offOf (tokenAt s k s[k]).1 + (tokenAt s k s[k]).2.1.size ∧
    s.extract (k + offOf (tokenAt s k s[k]).1) (tokenAt s k s[k]).2.2.2 = (tokenAt s k s[k]).2.1 ∧ (tokenAt s k s[k]).1 < 7 := by
  unfold tokenAt at h0 ⊢
  by_cases hc : isLow s[k] = true
  · rw [if_pos hc]
    have h1 := scanTo_ge isOn s k
    have h2 := scanTo_le isOn s k (by omega)
    have e : ∀ x : Bool, offOf (if x = true then 1 else 2) = 0 ∧ (if x = true then 1 else 2) < 7 := by intro x; cases x <;> decide
    dsimp only
    rw [(e _).1, ext_size s _ _ h2]
    exact ⟨by omega, rfl, (e _).2⟩
  · rw [if_neg hc] at h0 ⊢
    by_cases hq : (s[k] == 63 || s[k] == 39) = true
    · rw [if_pos hq]
      have h1 := scanTo_ge isOn s (k + 1)
      have h2 := scanTo_le isOn s (k + 1) (by omega)
      have e : ∀ x : Bool, offOf (if x = true then 5 else 3) = 1 ∧ (if x = true then 5 else 3) < 7 := by intro x; cases x <;> decide
      dsimp only
      rw [(e _).1, ext_size s _ _ h2]
      exact ⟨by omega, rfl, (e _).2⟩
    · rw [if_neg hq] at h0 ⊢
      by_cases hd : isDig s[k] = true
      · rw [if_pos hd]
        have h1 := scanTo_ge isDig s k
        have h2 := scanTo_le isDig s k (by omega)
        have e : offOf 4 = 0 := rfl
        dsimp only
        rw [e, ext_size s _ _ h2]
        exact ⟨by omega, rfl, by omega⟩
      · rw [if_neg hd] at h0 ⊢
        cases hf : signsL.find? (fun g => Lib.hasPrefix (s.data.toList.drop k) g.data.toList) with
        | none => rw [hf] at h0; simp at h0
        | some g =>
          have hp : signAt s k g = true := List.find?_some hf
          have h2 := signAt_le s k g (by omega) hp
          have h3 := signAt_ext s k g h2
          rw [hp] at h3
          refine ⟨rfl, bytes_ext _ _ ?_, (by show 6 < 7; omega)⟩
          have h4 : (s.extract k (k + g.size)).toList = g.toList := by simpa using h3
          rw [ByteArray.toList_eq, ByteArray.toList_eq] at h4
          exact h4

/-- a fault is one, and stands in the source -/
theorem toks_err (s : ByteArray) : ∀ (f k er pl : Nat), (toks f s k).2 = some (er, pl) → er ≠ 0 ∧ pl < s.size := by
  intro f
  induction f with
  | zero => intro k er pl h; cases h
  | succ f ih =>
    intro k er pl h
    unfold toks at h
    split at h
    · rename_i h1
      split at h
      · exact ih _ _ _ h
      · rename_i h2
        simp only [Option.some.injEq, Prod.mk.injEq] at h
        obtain ⟨rfl, rfl⟩ := h
        exact ⟨h2, h1⟩
    · cases h
end Go.Proofs.YtfpohaipmnjflaaGreatDoor
