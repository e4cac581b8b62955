/- The scanner's walk over blanks and comments; by contract. Conditions: the source has at most 16384 bytes. -/
import Derived.Test.YtondgnefggglcaaDoorScanB
namespace Go.Proofs.YtondgnefggglcaaDoor
open Go.RowKit

/-- 'one' at a row of texts that has just been laid -/
theorem one_lit (R Q k : Nat) (s : ByteArray) (w : World) (h : Rdr w R Q s k) (hk : k < s.size) (hs : s.size ≤ 16384) (sets : List ByteArray) (arr : Array Value) (harr : arr = (sets.map Value.string).toArray) (n cap : Nat) (hn : sets.length = n) (hn2 : n ≤ 100)
    (x : Bool) (hx : sets.any (hasB · s[k]) = x) :
    Calls Tryd.prog 35 #[.pointer (some ⟨R, 0, none⟩), .slice (some ⟨w.heap.size, 0, none⟩) n cap] (w.alloc (.cells arr 9)) fun e w' => e = .returned (.bool x) ∧ Below w.heap.size w w' := by
  subst harr
  have hb : Below w.heap.size w (w.alloc (.cells (sets.map Value.string).toArray 9)) := (Below.refl _ w).alloc (Nat.le_refl _) _
  refine (one_yes R Q k s _ (h.keep hb) hk hs w.heap.size n cap sets (heap_alloc_new w _) hn hn2).mono ?_
  rintro e w' ⟨rfl, hb'⟩
  exact ⟨by rw [hx], hb.trans (hb'.mono hb.size)⟩
theorem one_lit_no (R Q k : Nat) (s : ByteArray) (w : World) (h : Rdr w R Q s k) (hk : k = s.size) (hs : s.size ≤ 16384) (arr : Array Value) (sl : Value) :
    Calls Tryd.prog 35 #[.pointer (some ⟨R, 0, none⟩), sl] (w.alloc (.cells arr 9)) fun e w' => e = .returned (.bool false) ∧ Below w.heap.size w w' := by
  have hb : Below w.heap.size w (w.alloc (.cells arr 9)) := (Below.refl _ w).alloc (Nat.le_refl _) _
  refine (one_no R Q k s _ (h.keep hb) hk hs sl).mono ?_
  rintro e w' ⟨rfl, hb'⟩
  exact ⟨rfl, hb.trans (hb'.mono hb.size)⟩
theorem take_lit (R Q k : Nat) (s : ByteArray) (w : World) (h : Rdr w R Q s k) (hk : k ≤ s.size) (hs : s.size ≤ 16384) (sets : List ByteArray) (arr : Array Value) (harr : arr = (sets.map Value.string).toArray) (n cap : Nat) (hn : sets.length = n) (hn2 : n ≤ 100)
    (p : UInt8 → Bool) (hp : (fun c => sets.any (hasB · c)) = p) :
    Calls Tryd.prog 39 #[.pointer (some ⟨R, 0, none⟩), .slice (some ⟨w.heap.size, 0, none⟩) n cap] (w.alloc (.cells arr 9)) fun e w' => e = .returned (.string (s.extract k (scanTo p s k))) ∧ w.grownBy w' (some Q) ∧ Rdr w' R Q s (scanTo p s k) := by
  subst harr
  subst hp
  have hb : Below w.heap.size w (w.alloc (.cells (sets.map Value.string).toArray 9)) := (Below.refl _ w).alloc (Nat.le_refl _) _
  refine (take_any R Q k s _ (h.keep hb) hk hs w.heap.size n cap sets (heap_alloc_new w _) hn hn2).mono ?_
  rintro e w' ⟨rfl, hg, hr⟩
  exact ⟨rfl, (World.grownBy_alloc w _ _).trans hg, hr⟩

theorem one_at (R Q k : Nat) (s : ByteArray) (w : World) (h : Rdr w R Q s k) (hk : k < s.size) (hs : s.size ≤ 16384) (sets : List ByteArray) (x : Bool) (hx : sets.any (hasB · s[k]) = x) (arr : Array Value) (harr : arr = (sets.map Value.string).toArray) (n cap : Nat) (hn : sets.length = n) (hn2 : n ≤ 100)
    (B : Nat) (hB : w.heap.size = B) :
    Calls Tryd.prog 35 #[.pointer (some ⟨R, 0, none⟩), .slice (some ⟨B, 0, none⟩) n cap] (w.alloc (.cells arr 9)) fun e w' => e = .returned (.bool x) ∧ Below w.heap.size w w' := by
  subst hB
  exact one_lit R Q k s w h hk hs sets arr harr n cap hn hn2 x hx
theorem take_at (R Q k : Nat) (s : ByteArray) (w : World) (h : Rdr w R Q s k) (hk : k ≤ s.size) (hs : s.size ≤ 16384) (sets : List ByteArray) (p : UInt8 → Bool) (hp : (fun c => sets.any (hasB · c)) = p) (arr : Array Value) (harr : arr = (sets.map Value.string).toArray) (n cap : Nat) (hn : sets.length = n) (hn2 : n ≤ 100)
    (B : Nat) (hB : w.heap.size = B) :
    Calls Tryd.prog 39 #[.pointer (some ⟨R, 0, none⟩), .slice (some ⟨B, 0, none⟩) n cap] (w.alloc (.cells arr 9)) fun e w' => e = .returned (.string (s.extract k (scanTo p s k))) ∧ w.grownBy w' (some Q) ∧ Rdr w' R Q s (scanTo p s k) := by
  subst hB
  exact take_lit R Q k s w h hk hs sets arr harr n cap hn hn2 p hp

theorem any_blank : (fun c => [(⟨#[9, 10, 13, 32]⟩ : ByteArray)].any (hasB · c)) = blankB := by
  funext c
  show ((([9, 10, 13, 32] : List UInt8).contains c) || false) = _
  simp only [List.contains_cons, List.contains_nil, Bool.or_false, blankB, Bool.or_assoc]
theorem any_hash (c : UInt8) : [(⟨#[35]⟩ : ByteArray)].any (hasB · c) = (c == 35) := by
  show ((([35] : List UInt8).contains c) || false) = _
  simp only [List.contains_cons, List.contains_nil, Bool.or_false]
theorem any_blankhash (c : UInt8) : [(⟨#[9, 10, 13, 32]⟩ : ByteArray), ⟨#[35]⟩].any (hasB · c) = (blankB c || c == 35) := by
  rw [← any_hash, ← any_blank]
  simp


theorem rest_lit (R Q k : Nat) (s : ByteArray) (w : World) (h : Rdr w R Q s k) (hk : k ≤ s.size) (hs : s.size ≤ 16384) :
    Calls Tryd.prog 36 #[.pointer (some ⟨R, 0, none⟩)] w fun e w' => (∃ t, e = .returned (.string t) ∧ t.data.toList = s.data.toList.drop k ∧ t.size = s.size - k) ∧ Below w.heap.size w w' := by
  refine (rest_b R Q k s w h hk hs).mono ?_
  rintro e w' ⟨rfl, hb⟩
  exact ⟨⟨_, rfl, by rw [ByteArray.data_extract, Array.toList_extract]; simp [List.extract, List.take_of_length_le], by simp⟩, hb⟩

set_option maxHeartbeats 1000000 in
theorem blank_any (R Q k : Nat) (s : ByteArray) (w : World) (h : Rdr w R Q s k) (hk : k ≤ s.size) (hs : s.size ≤ 16384) :
    Calls Tryd.prog 24 #[.pointer (some ⟨R, 0, none⟩)] w fun e w' => e = .returned (.tuple #[]) ∧ w.grownBy w' (some Q) ∧ Rdr w' R Q s (skip s k) := by
  go_enter Tryd.func24, Tryd.ntmps24
  go_wp2_with fail
  go_loopw [33] (fun _ wr => ∃ j, k ≤ j ∧ j ≤ s.size ∧ skip s j = skip s k ∧ Rdr wr R Q s j ∧ w.grownBy wr (some Q)) (fun _ wr => s.size - posOf wr Q)
  case atStart => exact ⟨k, Nat.le_refl _, hk, rfl, h, World.grownBy.refl w _⟩
  case round =>
    obtain ⟨j, hkj, hjs, hsk, hr, hg⟩ := hrel
    have HS := Lib.hid hsk
    clear hsk
    by_cases hj : j < s.size
    · cases hb : blankB s[j]
      · cases hc : s[j] == 35
        · have HC := Lib.hid (one_lit R Q j s wr hr hj hs [⟨#[9, 10, 13, 32]⟩, ⟨#[35]⟩] _ rfl 2 2 rfl (by omega) false (by rw [any_blankhash, hb, hc]; rfl))
          have HE := Lib.hid (skip_stop s j hj hb hc)
          clear hb hc
          go_wp2_with (first
            | (go_at_call 35; refine Calls.mono HC.out ?_; rintro e w2 ⟨rfl, hb2⟩))
          go_end0
          rw [← HS.out, HE.out]
          exact ⟨rfl, grown_below hg hb2, hr.keep hb2⟩
        · have HC := Lib.hid (one_lit R Q j s wr hr hj hs [⟨#[9, 10, 13, 32]⟩, ⟨#[35]⟩] _ rfl 2 2 rfl (by omega) true (by rw [any_blankhash, hb, hc]; rfl))
          have HH := Lib.hid hc
          clear hb hc
          go_wp2_with fail
          refine Calls.mono HC.out ?_; rintro e w2 ⟨rfl, hb2⟩
          have hr2 := hr.keep hb2
          have HC2 := Lib.hid (one_lit R Q j s w2 hr2 hj hs [⟨#[35]⟩] _ rfl 1 1 rfl (by omega) true (by rw [any_hash]; exact HH.out))
          go_wp2_with fail
          refine Calls.mono HC2.out ?_; rintro e w3 ⟨rfl, hb3⟩
          have hr3 := hr2.keep hb3
          go_wp2_with fail
          refine (rest_lit R Q j s w3 hr3 hjs hs).mono ?_; rintro e w4 ⟨⟨t, rfl, htl, hts⟩, hb4⟩
          have hr4 := hr3.keep hb4
          have HT := Lib.hid htl
          have HTs := Lib.hid hts
          have htle : t.size ≤ 16384 := by omega
          clear htl hts
          go_wp2_with fail
          refine (cut_any t w4 htle).mono ?_; rintro e w5 ⟨⟨nn, b, c, rfl, hnn⟩, hb5⟩
          have hr5 := hr4.keep hb5
          have HN := Lib.hid hnn
          have hn1 : j + nn.size = scanTo (· != 10) s j := by unfold scanTo; rw [hnn, HT.out]
          have hn2 : scanTo (· != 10) s j ≤ s.size := scanTo_le _ _ _ hjs
          have hn3 : j + nn.size ≤ s.size := by omega
          have HN1 := Lib.hid hn1
          have hg5 : w.grownBy w5 (some Q) := grown_below (grown_below (grown_below (grown_below hg hb2) hb3) hb4) hb5
          have hn4 : j < j + nn.size := by rw [hn1]; exact scan_hash s j hj (by simpa using HH.out)
          clear hn1 hn2 hnn
          go_wp2_with fail
          go_loopw [22] (fun i wi => ∃ m : Nat, m ≤ nn.size ∧ i = .int .i64 m ∧ Rdr wi R Q s (j + m) ∧ w.grownBy wi (some Q)) (fun i _ => nn.size - (intOf i).toNat)
          case atStart => exact ⟨0, Nat.zero_le _, rfl, hr5, hg5⟩
          case round =>
            obtain ⟨m, hm, rfl, hrm, hgm⟩ := hrel
            by_cases hlt : m < nn.size
            · obtain ⟨r0, r1, q0, q1, ⟨p, q2⟩, f1, f2, hRl, hQl⟩ := hrm.cells
              obtain ⟨p', hQ2⟩ := hrm.q
              have HQ2 := Lib.hid hQ2
              clear hQ2
              go_wp2_with (first
                | (go_at_call 38; refine (readb_any Q (j + m) _ s _ HQ2.out (by omega) hs).mono ?_; rintro e w6 ⟨rfl, hg6, hQ6⟩; have HQ6 := Lib.hid hQ6; clear hQ6))
              go_roundw
              case rel => exact ⟨m + 1, by omega, by go_num, hrm.grown hg6 HQ6.out, World.grownBy.trans hgm hg6⟩
              case measure => simp [intOf]; omega
            · obtain rfl : m = nn.size := by omega
              go_wp2_with fail
              refine (take_lit R Q (j + nn.size) s _ hrm hn3 hs [⟨#[9, 10, 13, 32]⟩] _ rfl 1 1 rfl (by omega) blankB any_blank).mono ?_
              rintro e w7 ⟨rfl, hg7, hr7⟩
              have HP := Lib.hid (skip_take s _ (j + nn.size) (Nat.le_refl _))
              have hge := scanTo_ge blankB s (j + nn.size)
              have hle := scanTo_le blankB s (j + nn.size) hn3
              generalize scanTo blankB s (j + nn.size) = j2 at *
              go_wp2_with fail
              refine ⟨⟨j2, by omega, hle, ?_, hr7, World.grownBy.trans hgm hg7⟩, ?_⟩
              · rw [HP.out, HN1.out, ← skip_hash s j hj (by simpa using HH.out)]; exact HS.out
              · rw [hr7.pos, hr.pos]; omega
      · have HC := Lib.hid (one_lit R Q j s wr hr hj hs [⟨#[9, 10, 13, 32]⟩, ⟨#[35]⟩] _ rfl 2 2 rfl (by omega) true (by rw [any_blankhash, hb]; rfl))
        have hnh : (s[j] == 35) = false := by
          cases hh : s[j] == 35
          · rfl
          · exfalso
            have e : s[j] = 35 := by simpa using hh
            rw [e] at hb; cases hb
        have HH := Lib.hid hnh
        have hj1 : j < scanTo blankB s j := by
          have := scanTo_ge blankB s (j + 1)
          rw [scanTo_yes blankB s j hj hb] at this; omega
        clear hb hnh
        go_wp2_with fail
        refine Calls.mono HC.out ?_; rintro e w2 ⟨rfl, hb2⟩
        have hr2 := hr.keep hb2
        have HC2 := Lib.hid (one_lit R Q j s w2 hr2 hj hs [⟨#[35]⟩] _ rfl 1 1 rfl (by omega) false (by rw [any_hash]; exact HH.out))
        go_wp2_with fail
        refine Calls.mono HC2.out ?_; rintro e w3 ⟨rfl, hb3⟩
        have hr3 := hr2.keep hb3
        have HT := Lib.hid (take_lit R Q j s w3 hr3 hjs hs [⟨#[9, 10, 13, 32]⟩] _ rfl 1 1 rfl (by omega) blankB any_blank)
        have HP := Lib.hid (skip_take s _ j (Nat.le_refl _))
        have hle := scanTo_le blankB s j hjs
        generalize scanTo blankB s j = j2 at *
        go_wp2_with fail
        refine Calls.mono HT.out ?_; rintro e w7 ⟨rfl, hg7, hr7⟩
        go_wp2_with fail
        refine ⟨⟨j2, by omega, hle, ?_, hr7, World.grownBy.trans (grown_below (grown_below hg hb2) hb3) hg7⟩, ?_⟩
        · rw [HP.out]; exact HS.out
        · rw [hr7.pos, hr.pos]; omega
    · have hjj : j = s.size := by omega
      have HE := Lib.hid (skip_end s j (by omega))
      have HC := Lib.hid (one_lit_no R Q j s wr hr hjj hs #[.string ⟨#[9, 10, 13, 32]⟩, .string ⟨#[35]⟩] (.slice (some ⟨wr.heap.size, 0, none⟩) 2 2))
      clear hjj
      go_wp2_with (first
        | (go_at_call 35; refine Calls.mono HC.out ?_; rintro e w2 ⟨rfl, hb2⟩))
      go_end0
      rw [← HS.out, HE.out]
      exact ⟨rfl, grown_below hg hb2, hr.keep hb2⟩
end Go.Proofs.YtondgnefggglcaaDoor
