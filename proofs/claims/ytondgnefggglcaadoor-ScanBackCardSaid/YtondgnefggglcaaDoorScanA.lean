/- The scanner's reader: each of its calls, by contract. Conditions: the source has at most 16384 bytes. -/
import Derived.Test.YtondgnefggglcaaDoorProg
import Derived.Test.YtondgnefggglcaaDoorKit
import Derived.Test.YtondgnefggglcaaDoorShelf
import Derived.Deep.QuietTactic
import Derived.BigQuiet
import Derived.LoopTactic
namespace Go.Proofs.YtondgnefggglcaaDoor
open Go.RowKit

theorem rlen_any (Q k : Nat) (s : ByteArray) (w : World) (h0 : w.cell? ⟨Q, 0, none⟩ = some (.string s)) (h1 : w.cell? ⟨Q, 1, none⟩ = some (.int .i64 k)) (hk : k ≤ s.size) (hs : s.size ≤ 16384) :
    Calls Tryd.prog 25 #[.pointer (some ⟨Q, 0, none⟩)] w fun e w' => e = .returned (.int .i64 ((s.size : Int) - k)) ∧ ∃ n, w' = w.drewN n := by
  go_enter Tryd.func25, Tryd.ntmps25
  go_wp2
  go_quiet (fail)
  go_wp2
  · go_ret
    refine ⟨?_, _, rfl⟩
    have : s.size ≤ k := by assumption
    have e : (s.size : Int) - k = 0 := by omega
    rw [e]; rfl
  · go_quiet (fail)
    go_wp2
    go_ret
    exact ⟨rfl, _, World.drewN_drewN ..⟩

theorem at_any (R Q k : Nat) (s : ByteArray) (w : World) (r0 : w.cell? ⟨R, 0, none⟩ = some (.pointer (some ⟨Q, 0, none⟩))) (r1 : w.cell? ⟨R, 1, none⟩ = some (.string s)) (h0 : w.cell? ⟨Q, 0, none⟩ = some (.string s)) (h1 : w.cell? ⟨Q, 1, none⟩ = some (.int .i64 k)) (hk : k ≤ s.size) (hs : s.size ≤ 16384) :
    Calls Tryd.prog 40 #[.pointer (some ⟨R, 0, none⟩)] w fun e w' => e = .returned (.int .i64 k) ∧ ∃ n, w' = w.drewN n := by
  go_enter Tryd.func40, Tryd.ntmps40
  go_wp2
  go_quiet ((go_at_call 25; refine Calls.quiet_of (rlen_any Q k s _ h0 h1 hk hs)))
  go_wp2
  go_ret
  refine ⟨?_, _, rfl⟩
  have e : (s.size : Int) - (↑s.size - ↑k) = k := by omega
  simp
  omega

theorem rest_any (R Q k : Nat) (s : ByteArray) (w : World) (r0 : w.cell? ⟨R, 0, none⟩ = some (.pointer (some ⟨Q, 0, none⟩))) (r1 : w.cell? ⟨R, 1, none⟩ = some (.string s)) (h0 : w.cell? ⟨Q, 0, none⟩ = some (.string s)) (h1 : w.cell? ⟨Q, 1, none⟩ = some (.int .i64 k)) (hk : k ≤ s.size) (hs : s.size ≤ 16384) :
    Calls Tryd.prog 36 #[.pointer (some ⟨R, 0, none⟩)] w fun e w' => e = .returned (.string (s.extract k s.size)) ∧ ∃ n, w' = w.drewN n := by
  go_enter Tryd.func36, Tryd.ntmps36
  go_wp2
  go_quiet ((go_at_call 40; refine Calls.quiet_of (at_any R Q k s _ r0 r1 h0 h1 hk hs)))
  go_wp2
  go_ret
  refine ⟨rfl, _, rfl⟩

theorem indexbyte_dec (l : List UInt8) (c : UInt8) : decide (0 ≤ Lib.indexByte l c) = l.contains c := by
  induction l with
  | nil => rfl
  | cons a l ih =>
    have hg := Lib.indexByte_ge l c
    simp only [Lib.indexByte, List.contains_cons, ← ih]
    by_cases h : a = c
    · subst h; simp
    · have h1 : (a == c) = false := by simpa using h
      have h2 : (c == a) = false := by simpa using fun e => h e.symm
      simp only [h1, h2, Bool.false_eq_true, if_false, Bool.false_or]
      by_cases h3 : Lib.indexByte l c = -1
      · simp [h3]
      · have h4 : (Lib.indexByte l c == -1) = false := by simpa using h3
        simp only [h4, Bool.false_eq_true, if_false]
        apply decide_eq_decide.2
        omega

theorem indexbyte_has (st : ByteArray) (c : UInt8) : decide (0 ≤ Lib.indexByte st.data.toList c) = hasB st c := indexbyte_dec _ _

theorem strings_IndexByte' (st : ByteArray) (c : UInt8) (w : World) :
    Calls Tryd.prog 47 #[.string st, .int .u8 (c.toNat : Int)] w fun e w' => (e = .returned (.int .i64 (Lib.indexByte st.data.toList c))) ∧ w = w' :=
  (Tryd.strings_IndexByte st (c.toNat : Int) w).mono fun e w' ⟨h1, h2⟩ => ⟨by simpa using h1, h2.symm⟩

theorem one1_any (T : Nat) (st t : ByteArray) (w : World) (ht : w.cell? ⟨T, 0, none⟩ = some (.string t)) (h0 : 0 < t.size) :
    Calls Tryd.prog 46 #[.string st, .pointer (some ⟨T, 0, none⟩)] w fun e w' => e = .returned (.bool (hasB st t[0])) ∧ w = w' := by
  have HD := Lib.hid (indexbyte_has st t[0])
  go_enter Tryd.func46, Tryd.ntmps46
  go_wp2_with (go_at_call 47; refine (strings_IndexByte' _ _ _).mono ?_; rintro e w' ⟨rfl, rfl⟩)
  go_ret
  exact ⟨by rw [← HD.out]; rfl, rfl⟩

theorem idxf_any (B T n cap : Nat) (sets : List ByteArray) (t : ByteArray) (w : World) (hB : w.heap[B]? = some (.cells (sets.map Value.string).toArray 9 (0, 0))) (hn : sets.length = n) (hn2 : n ≤ 100)
    (ht : w.cell? ⟨T, 0, none⟩ = some (.string t)) (h0 : 0 < t.size) :
    Calls Tryd.prog 53 #[.slice (some ⟨B, 0, none⟩) n cap, .func (.func 46) #[] #[.pointer (some ⟨T, 0, none⟩)]] w fun e w' => (∃ i : Int, e = .returned (.int .i64 i) ∧ decide (0 ≤ i) = sets.any (hasB · t[0])) ∧ w = w' := by
  have hcell : ∀ i, i < n → ∃ st, sets[i]? = some st ∧ w.cell? ⟨B, i, none⟩ = some (.string st) := by
    intro i hi
    refine ⟨sets[i]'(by omega), List.getElem?_eq_getElem (by omega), ?_⟩
    simp [World.cell?, hB, List.getElem?_eq_getElem (show i < sets.length by omega)]
  have HC := Lib.hid hcell
  have HN := Lib.hid hn
  clear hcell hB hn
  go_enter Tryd.func53, Tryd.ntmps53
  go_wp2
  go_loop [8, 5] (fun i _ => ∃ k : Nat, k ≤ n ∧ i = .int .i64 k ∧ (sets.take k).any (hasB · t[0]) = false) (fun i _ => n - (intOf i).toNat)
  case atStart => exact ⟨0, Nat.zero_le _, rfl, rfl⟩
  case round =>
    obtain ⟨k, hk, rfl, hno⟩ := hrel
    have HO := Lib.hid hno
    clear hno
    by_cases hlt : k < n
    · obtain ⟨st, hst, hck⟩ := HC.out k hlt
      have HS := Lib.hid hst
      clear hst
      cases hb : hasB st t[0]
      · have HR := Lib.hid hb
        go_wp2_with (go_at_call 46; refine (one1_any T _ t _ ht h0).mono ?_; rintro e w' ⟨rfl, rfl⟩)
        go_round
        case rel => exact ⟨k + 1, by omega, by go_num, by rw [take_succ_any _ _ _ _ HS.out HO.out]; exact HR.out⟩
        case measure => simp [intOf]; omega
      · have HR := Lib.hid hb
        go_wp2_with (go_at_call 46; refine (one1_any T _ t _ ht h0).mono ?_; rintro e w' ⟨rfl, rfl⟩)
        go_ret
        refine ⟨⟨k, rfl, ?_⟩, rfl⟩
        rw [any_of_mem (hasB · t[0]) _ _ _ HS.out HR.out]; simp
    · go_wp2
      go_ret
      refine ⟨⟨-1, rfl, ?_⟩, rfl⟩
      have e : sets.take k = sets := List.take_of_length_le (by rw [HN.out]; omega)
      have := HO.out
      rw [e] at this
      rw [this]; rfl

theorem containsf_any (B T n cap : Nat) (sets : List ByteArray) (t : ByteArray) (w : World) (hB : w.heap[B]? = some (.cells (sets.map Value.string).toArray 9 (0, 0))) (hn : sets.length = n) (hn2 : n ≤ 100)
    (ht : w.cell? ⟨T, 0, none⟩ = some (.string t)) (h0 : 0 < t.size) :
    Calls Tryd.prog 45 #[.slice (some ⟨B, 0, none⟩) n cap, .func (.func 46) #[] #[.pointer (some ⟨T, 0, none⟩)]] w fun e w' => e = .returned (.bool (sets.any (hasB · t[0]))) ∧ w = w' := by
  have HC := Lib.hid (idxf_any B T n cap sets t w hB hn hn2 ht h0)
  clear hn hB
  go_enter Tryd.func45, Tryd.ntmps45
  go_wp2_with (go_at_call 53; refine Calls.mono HC.out ?_; rintro e w' ⟨⟨i, rfl, hi⟩, rfl⟩; have HI := Lib.hid hi; clear hi)
  go_ret
  exact ⟨by rw [← HI.out]; rfl, rfl⟩

/-- the reader: block R holds it, block Q the library's; s is the source, k where it is -/
def Rdr (w : World) (R Q : Nat) (s : ByteArray) (k : Nat) : Prop :=
  w.heap[R]? = some (.cells #[.pointer (some ⟨Q, 0, none⟩), .string s] 49 (0, 0)) ∧ ∃ p : Int, w.heap[Q]? = some (.cells #[.string s, .int .i64 k, .int .i64 p] 57 (0, 0))

theorem Rdr.ne {w : World} {R Q : Nat} {s : ByteArray} {k : Nat} (h : Rdr w R Q s k) : R ≠ Q := by
  obtain ⟨h1, p, h2⟩ := h
  rintro rfl
  rw [h1] at h2
  simp at h2

theorem Rdr.cells {w : World} {R Q : Nat} {s : ByteArray} {k : Nat} (h : Rdr w R Q s k) :
    w.cell? ⟨R, 0, none⟩ = some (.pointer (some ⟨Q, 0, none⟩)) ∧ w.cell? ⟨R, 1, none⟩ = some (.string s) ∧ w.cell? ⟨Q, 0, none⟩ = some (.string s) ∧ w.cell? ⟨Q, 1, none⟩ = some (.int .i64 k) ∧
    (∃ p : Int, w.cell? ⟨Q, 2, none⟩ = some (.int .i64 p)) ∧ w.frozen? ⟨Q, 1, none⟩ = false ∧ w.frozen? ⟨Q, 2, none⟩ = false ∧ R < w.heap.size ∧ Q < w.heap.size := by
  obtain ⟨h1, p, h2⟩ := h
  have a := (Array.getElem?_eq_some_iff.1 h1).1
  have b := (Array.getElem?_eq_some_iff.1 h2).1
  exact ⟨by simp [World.cell?, h1], by simp [World.cell?, h1], by simp [World.cell?, h2], by simp [World.cell?, h2], ⟨p, by simp [World.cell?, h2]⟩, by simp [World.frozen?, h2], by simp [World.frozen?, h2], a, b⟩

theorem Rdr.keep {w w' : World} {R Q : Nat} {s : ByteArray} {k : Nat} (h : Rdr w R Q s k) (hb : Below w.heap.size w w') : Rdr w' R Q s k := by
  obtain ⟨_, _, _, _, _, _, _, a, b⟩ := h.cells
  obtain ⟨h1, p, h2⟩ := h
  exact ⟨by rw [hb.block R a]; exact h1, p, by rw [hb.block Q b]; exact h2⟩

theorem rest_b (R Q k : Nat) (s : ByteArray) (w : World) (h : Rdr w R Q s k) (hk : k ≤ s.size) (hs : s.size ≤ 16384) :
    Calls Tryd.prog 36 #[.pointer (some ⟨R, 0, none⟩)] w fun e w' => e = .returned (.string (s.extract k s.size)) ∧ Below w.heap.size w w' := by
  obtain ⟨r0, r1, q0, q1, ⟨p, q2⟩, f1, f2, hR, hQ⟩ := h.cells
  refine (rest_any R Q k s w r0 r1 q0 q1 hk hs).mono ?_
  rintro e w' ⟨rfl, n, rfl⟩
  exact ⟨rfl, below_drewN (Below.refl _ _) n⟩

theorem one_no (R Q k : Nat) (s : ByteArray) (w : World) (h : Rdr w R Q s k) (hk : k = s.size) (hs : s.size ≤ 16384) (sl : Value) :
    Calls Tryd.prog 35 #[.pointer (some ⟨R, 0, none⟩), sl] w fun e w' => e = .returned (.bool false) ∧ Below w.heap.size w w' := by
  have hx : (s.extract k s.size).toList = [] := by subst hk; simp
  have hx2 : (s.extract k s.size).toList.isEmpty = true := by simp [hx]
  have HC := Lib.hid (rest_b R Q k s w h (by omega) hs)
  clear h hx
  generalize s.extract k s.size = t at *
  go_enter Tryd.func35, Tryd.ntmps35
  go_wp2_with (first | (go_at_call 36; refine Calls.mono HC.out ?_; rintro e w' ⟨rfl, hb⟩))
  go_ret
  exact ⟨rfl, hb.alloc hb.size _⟩

theorem one_yes (R Q k : Nat) (s : ByteArray) (w : World) (h : Rdr w R Q s k) (hk : k < s.size) (hs : s.size ≤ 16384) (B n cap : Nat) (sets : List ByteArray) (hB : w.heap[B]? = some (.cells (sets.map Value.string).toArray 9 (0, 0))) (hn : sets.length = n) (hn2 : n ≤ 100) :
    Calls Tryd.prog 35 #[.pointer (some ⟨R, 0, none⟩), .slice (some ⟨B, 0, none⟩) n cap] w fun e w' => e = .returned (.bool (sets.any (hasB · s[k]))) ∧ Below w.heap.size w w' := by
  have hBl : B < w.heap.size := (Array.getElem?_eq_some_iff.1 hB).1
  have HB := Lib.hid hB
  have HN := Lib.hid hn
  have hx0 : (s.extract k s.size).size = s.size - k := by simp
  have hx : 0 < (s.extract k s.size).size := by omega
  have hx1 : (s.extract k s.size)[0] = s[k] := bx_get s k s.size 0 hx (by omega)
  have hx2 : (s.extract k s.size).toList.isEmpty = false := bne_of_size _ hx
  have HC := Lib.hid (rest_b R Q k s w h (by omega) hs)
  clear hB hn
  rw [← hx1]
  generalize s.extract k s.size = t at *
  clear hx0 hx1
  go_enter Tryd.func35, Tryd.ntmps35
  go_wp2_with (first
    | (go_at_call 36; refine Calls.mono HC.out ?_; rintro e w' ⟨rfl, hb⟩)
    | (go_at_call 45; refine (containsf_any B _ n cap sets t _ ((Below.heap_alloc _ _ _ (by have := hb.size; omega)).trans (heap_below hb HB.out hBl)) HN.out hn2 (cell_new1 _ _ _) hx).mono ?_; rintro e w'' ⟨rfl, rfl⟩))
  go_ret
  exact ⟨rfl, hb.alloc hb.size _⟩

/-- ReadByte, at a byte: the place goes on -/
theorem readb_any (Q k : Nat) (p : Int) (s : ByteArray) (w : World) (h : w.heap[Q]? = some (.cells #[.string s, .int .i64 k, .int .i64 p] 57 (0, 0))) (hk : k < s.size) (hs : s.size ≤ 16384) :
    Calls Tryd.prog 38 #[.pointer (some ⟨Q, 0, none⟩)] w fun e w' => e = .returned (.tuple #[.int .u8 (s[k].toNat : Int), .nilIface]) ∧ w.grownBy w' (some Q) ∧ w'.heap[Q]? = some (.cells #[.string s, .int .i64 (k + 1 : Nat), .int .i64 (-1)] 57 (0, 0)) := by
  have q0 : w.cell? ⟨Q, 0, none⟩ = some (.string s) := by simp [World.cell?, h]
  have q1 : w.cell? ⟨Q, 1, none⟩ = some (.int .i64 k) := by simp [World.cell?, h]
  have q2 : w.cell? ⟨Q, 2, none⟩ = some (.int .i64 p) := by simp [World.cell?, h]
  have f1 : w.frozen? ⟨Q, 1, none⟩ = false := by simp [World.frozen?, h]
  have f2 : w.frozen? ⟨Q, 2, none⟩ = false := by simp [World.frozen?, h]
  have H := Lib.hid h
  clear h
  have hlt : decide ((s.size : Int) ≤ k) = false := by simp; omega
  go_enter Tryd.func38, Tryd.ntmps38
  go_wp2
  go_quiet (fail)
  go_wp2
  go_quiet (fail)
  go_wp2
  go_ret2
  refine ⟨rfl, grown_set (grown_drewN (grown_set (World.grownBy.refl w _) _ _) _) _ _, ?_⟩
  rw [heap_set (w := World.drewN _ _) (heap_set H.out 2 (.int .i64 (-1)))]
  rfl

/-- where the library's reader is -/
def posOf (w : World) (Q : Nat) : Nat := match w.cell? ⟨Q, 1, none⟩ with | some (.int _ n) => n.toNat | _ => 0

theorem Rdr.pos {w : World} {R Q : Nat} {s : ByteArray} {k : Nat} (h : Rdr w R Q s k) : posOf w Q = k := by
  obtain ⟨_, _, _, q1, _⟩ := h.cells
  simp [posOf, q1]

theorem Rdr.grown {w w' : World} {R Q : Nat} {s : ByteArray} {k k' : Nat} {p : Int} (h : Rdr w R Q s k) (hg : w.grownBy w' (some Q)) (hq : w'.heap[Q]? = some (.cells #[.string s, .int .i64 k', .int .i64 p] 57 (0, 0))) : Rdr w' R Q s k' := by
  obtain ⟨_, _, _, _, _, _, _, a, b⟩ := h.cells
  have hne := h.ne
  obtain ⟨h1, p, h2⟩ := h
  exact ⟨(hg.block R a (by intro e; injection e with e; exact hne e)).trans h1, _, hq⟩

theorem at_b (R Q k : Nat) (s : ByteArray) (w : World) (h : Rdr w R Q s k) (hk : k ≤ s.size) (hs : s.size ≤ 16384) :
    Calls Tryd.prog 40 #[.pointer (some ⟨R, 0, none⟩)] w fun e w' => e = .returned (.int .i64 k) ∧ Below w.heap.size w w' := by
  obtain ⟨r0, r1, q0, q1, ⟨p, q2⟩, f1, f2, hR, hQ⟩ := h.cells
  refine (at_any R Q k s w r0 r1 q0 q1 hk hs).mono ?_
  rintro e w' ⟨rfl, n, rfl⟩
  exact ⟨rfl, below_drewN (Below.refl _ _) n⟩

theorem Rdr.q {w : World} {R Q : Nat} {s : ByteArray} {k : Nat} (h : Rdr w R Q s k) : ∃ p : Int, w.heap[Q]? = some (.cells #[.string s, .int .i64 k, .int .i64 p] 57 (0, 0)) := h.2

theorem take_any (R Q k : Nat) (s : ByteArray) (w : World) (h : Rdr w R Q s k) (hk : k ≤ s.size) (hs : s.size ≤ 16384) (B n cap : Nat) (sets : List ByteArray) (hB : w.heap[B]? = some (.cells (sets.map Value.string).toArray 9 (0, 0))) (hn : sets.length = n) (hn2 : n ≤ 100) :
    Calls Tryd.prog 39 #[.pointer (some ⟨R, 0, none⟩), .slice (some ⟨B, 0, none⟩) n cap] w fun e w' => e = .returned (.string (s.extract k (scanTo (fun c => sets.any (hasB · c)) s k))) ∧ w.grownBy w' (some Q) ∧ Rdr w' R Q s (scanTo (fun c => sets.any (hasB · c)) s k) := by
  have hBQ : some B ≠ some Q := by
    obtain ⟨p, hq⟩ := h.q
    intro e; injection e with e
    exact ne_of_type hB hq (by decide) e
  have HB := Lib.hid hB
  have HN := Lib.hid hn
  clear hB hn
  go_enter Tryd.func39, Tryd.ntmps39
  go_wp2_with (first
    | (go_at_call 40; refine (at_b R Q k s _ h hk hs).mono ?_; rintro e w1 ⟨rfl, hb1⟩))
  have hR1 := h.keep hb1
  go_loopw [16] (fun _ wr => ∃ j, k ≤ j ∧ j ≤ s.size ∧ scanTo (fun c => sets.any (hasB · c)) s j = scanTo (fun c => sets.any (hasB · c)) s k ∧ Rdr wr R Q s j ∧ w.grownBy wr (some Q)) (fun _ wr => s.size - posOf wr Q)
  case atStart => exact ⟨k, Nat.le_refl _, hk, rfl, hR1, grown_of_below hb1 _⟩
  case round =>
    obtain ⟨j, hkj, hjs, hsc, hr, hg⟩ := hrel
    have HS := Lib.hid hsc
    have HBr := Lib.hid (heap_grown hg HB.out hBQ)
    clear hsc hb1 hR1
    by_cases hj : j < s.size
    · have HO := Lib.hid (fun (x : Bool) (hx : (sets.any (hasB · s[j])) = x) => (one_yes R Q j s wr hr hj hs B n cap sets HBr.out HN.out hn2).mono (R' := fun e w' => e = .returned (.bool x) ∧ Below wr.heap.size wr w') (fun e w' hh => by rw [← hx]; exact hh))
      cases hp : sets.any (hasB · s[j])
      · have HP := Lib.hid hp
        have HC := Lib.hid (HO.out _ hp)
        clear HO hp
        go_wp2_with (first
          | (go_at_call 35; refine Calls.mono HC.out ?_; rintro e w2 ⟨rfl, hb2⟩))
        obtain ⟨r0, r1, q0, q1, ⟨p, q2⟩, f1, f2, hRl, hQl⟩ := (hr.keep hb2).cells
        go_quiet ((go_at_call 40; refine Calls.quiet_of (at_any R Q j s _ r0 r1 q0 q1 hjs hs)))
        go_wp2
        go_ret
        have e : scanTo (fun c => sets.any (hasB · c)) s k = j := by rw [← HS.out]; exact scanTo_no _ s j hj HP.out
        rw [e]
        exact ⟨rfl, grown_drewN (grown_below hg hb2) _, hr.keep (below_drewN hb2 _)⟩
      · have HP := Lib.hid hp
        have HC := Lib.hid (HO.out _ hp)
        clear HO hp
        go_wp2_with (first
          | (go_at_call 35; refine Calls.mono HC.out ?_; rintro e w2 ⟨rfl, hb2⟩; have hr2 := hr.keep hb2; obtain ⟨r0, r1, q0, q1, ⟨p, q2⟩, f1, f2, hRl, hQl⟩ := hr2.cells; obtain ⟨p', hQ2⟩ := hr2.q; have HQ2 := Lib.hid hQ2; clear hQ2)
          | (go_at_call 38; refine (readb_any Q j _ s _ HQ2.out hj hs).mono ?_; rintro e w3 ⟨rfl, hg3, hQ3⟩; have HQ3 := Lib.hid hQ3; clear hQ3))
        refine ⟨⟨j + 1, by omega, by omega, ?_, hr2.grown hg3 HQ3.out, World.grownBy.trans (grown_below hg hb2) hg3⟩, ?_⟩
        · rw [← HS.out]; exact scanTo_yes _ s j hj HP.out
        · rw [(hr2.grown hg3 HQ3.out).pos, hr.pos]; omega
    · have hjj : j = s.size := by omega
      have HJ := Lib.hid hjj
      have HC := Lib.hid (one_no R Q j s wr hr hjj hs (.slice (some ⟨B, 0, none⟩) n cap))
      clear hjj
      go_wp2_with (first
        | (go_at_call 35; refine Calls.mono HC.out ?_; rintro e w2 ⟨rfl, hb2⟩))
      obtain ⟨r0, r1, q0, q1, ⟨p, q2⟩, f1, f2, hRl, hQl⟩ := (hr.keep hb2).cells
      go_quiet ((go_at_call 40; refine Calls.quiet_of (at_any R Q j s _ r0 r1 q0 q1 hjs hs)))
      go_wp2
      go_ret
      have e : scanTo (fun c => sets.any (hasB · c)) s k = j := by rw [← HS.out]; exact scanTo_end _ s j (by omega)
      rw [e]
      exact ⟨rfl, grown_drewN (grown_below hg hb2) _, hr.keep (below_drewN hb2 _)⟩

theorem Rdr.set_far {w : World} {R Q : Nat} {s : ByteArray} {k : Nat} (h : Rdr w R Q s k) {T i : Nat} (u : Value) (hR : T ≠ R) (hQ : T ≠ Q) : Rdr (w.setCell ⟨T, i, none⟩ u) R Q s k := by
  obtain ⟨h1, p, h2⟩ := h
  exact ⟨heap_set_far h1 hR _ _, p, heap_set_far h2 hQ _ _⟩

theorem Rdr.move {w w' : World} {R Q : Nat} {s : ByteArray} {k : Nat} {row : Option Nat} (h : Rdr w R Q s k) (hg : w.grownBy w' row) (hR : some R ≠ row) (hQ : some Q ≠ row) : Rdr w' R Q s k := by
  obtain ⟨h1, p, h2⟩ := h
  exact ⟨heap_grown hg h1 hR, p, heap_grown hg h2 hQ⟩
end Go.Proofs.YtondgnefggglcaaDoor
