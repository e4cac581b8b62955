/- Several texts joined, each with its own sentence and conditions ahead of it: ShowF, ShowG, ShowH, ShowI. -/
import Derived.Test.YtoekldhdojpceaaGreatDoorSSA
import Derived.Lib.AppendIntMem
import Derived.Test.YtoekldhdojpceaaGreatDoorSG
import Derived.Test.YtoekldhdojpceaaGreatDoorSJ
/- The writer: rows, lists, fields; by contract. Condition: at most 2^47 bytes. -/
namespace Go.Proofs.YtoekldhdojpceaaGreatDoor
open Go.RowKit

/-- a function that writes a node -/
def WritesN (B b : Nat) (gf : FuncId) (f : Tree → List UInt8) (d : Nat) (ok : Tree → Prop) : Prop := ∀ (T : Tree) (u : Value) (l : List UInt8) (w : World), ok T → NodeAt w B d T u → IsW B b l w → B ≤ w.heap.size → (l ++ f T).length ≤ maxW →
  Calls Tryz.prog gf #[.pointer (some ⟨b, 0, none⟩), u] w (WPost B b w (l ++ f T))
def RowRelW (B b : Nat) (w : World) (l : List UInt8) (f : Tree → List UInt8) (ks : List Tree) (n : Nat) (i : Value) (W : World) : Prop :=
  ∃ (W1 : World) (k : Nat), W1 = W ∧ k ≤ n ∧ i = .int .i64 k ∧ WS B b w (l ++ rowS f (ks.take k)) W1
theorem rowS_take_le (f : Tree → List UInt8) (ks : List Tree) (k : Nat) : (rowS f (ks.take k)).length ≤ (rowS f ks).length := by
  unfold rowS
  conv => rhs; rw [← List.take_append_drop k ks]
  rw [List.map_append, List.flatten_append, List.length_drop, List.length_drop, List.length_append]
  omega
set_option maxRecDepth 100000 in
set_option maxHeartbeats 2000000 in
theorem wrow_any {B b : Nat} {gf : FuncId} {f : Tree → List UInt8} {d : Nat} {ok : Tree → Prop} (hent : ∀ (xs : Array Value) (w : World), (callFunc gf xs).run Tryz.prog w = .ok (.enter gf xs) w) (hone : WritesN B b gf f d ok)
    (ks : List Tree) (v : Value) (l : List UInt8) (w : World) (hk : KidsAt w B (d + 1) ks v) (hn9 : ks.length ≤ 20000) (hok : ∀ t ∈ ks, ok t) (h : IsW B b l w) (hB : B ≤ w.heap.size) (hlen : (l ++ rowS f ks).length ≤ maxW) :
    Calls Tryz.prog 202 #[.pointer (some ⟨b, 0, none⟩), .func (.func gf) #[.pointer (some ⟨b, 0, none⟩)] #[], v] w (WPost B b w (l ++ rowS f ks)) := by
  obtain ⟨p, c, rfl, _, hrow⟩ := hk.rows
  obtain ⟨n, hn⟩ : ∃ n, ks.length = n := ⟨_, rfl⟩
  rw [hn] at hn9 ⊢
  have HN := Lib.hid hn
  have HRow := Lib.hid hrow
  have HOk := Lib.hid hok
  have HOne := Lib.hid hone
  have HW0 := Lib.hid h
  have HLen := Lib.hid (fun (k : Nat) => (show (l ++ rowS f (ks.take k)).length ≤ maxW by
    have := rowS_take_le f ks k
    rw [List.length_append] at hlen ⊢
    omega))
  have HFull : Hid (rowS f (ks.take n) = rowS f ks) := by show _ = _; rw [← hn, List.take_length]
  clear hk hrow hok hone h hn hlen
  go_enter Tryz.func202, Tryz.ntmps202
  go_wp2_with fail
  go_loopw [10] (RowRelW B b w l f ks n) (fun i _ => n - (intOf i).toNat)
  case atStart => exact ⟨_, 0, rfl, Nat.zero_le _, rfl, by simpa [rowS] using WS.refl HW0.out⟩
  case round =>
    obtain ⟨W1, k, rfl, hk, rfl, hW⟩ := hrel
    have HW := Lib.hid hW
    clear hW
    have hk0 : (0 : Int) ≤ k := by omega
    by_cases hlt : k < n
    · obtain ⟨t, ht⟩ : ∃ t, ks[k]? = some t := ⟨ks[k]'(by rw [HN.out]; exact hlt), List.getElem?_eq_getElem (by rw [HN.out]; exact hlt)⟩
      have hmem : t ∈ ks := List.mem_of_getElem? ht
      obtain ⟨_, bk, off, rfl, hbB, hkid⟩ := HRow.out k t ht
      obtain ⟨p', l', c', d0, d1, d2, d3, d4, hnode⟩ := hkid.node HW.out.bl hbB
      have hk1 : (k : Int) < n := by omega
      obtain ⟨W2, hW2⟩ : ∃ W2, W2 = W1.alloc (.cells #[.int .u8 t.kind, .string t.text, .int .i64 t.num, .int .i64 t.place, .slice p' l' c'] 25) := ⟨_, rfl⟩
      have HS2 : Hid (WS B b w (l ++ rowS f (ks.take k)) W2) := by show WS B b w _ W2; rw [hW2]; exact HW.out.alloc hB _
      have HX2 : Hid (W2.heap[W1.heap.size]? = some (.cells #[.int .u8 t.kind, .string t.text, .int .i64 t.num, .int .i64 t.place, .slice p' l' c'] 25 (0, 0))) := by show _ = _; rw [hW2]; exact heap_alloc_new W1 _
      have HNd := Lib.hid (fun W (hW : Below B W1 W) => NodeAt.below hnode hW)
      have hb12 : Below B W1 W2 := by rw [hW2]; exact (Below.refl B W1).alloc (HW.out.sz hB) _
      have hNx : rowS f (ks.take (k + 1)) = rowS f (ks.take k) ++ ((if ks.take k = [] then [] else [44, 32]) ++ f t) := by rw [List.take_add_one, ht]; exact rowS_snoc f _ t
      have hl1 := HLen.out (k + 1)
      have HT := Lib.hid hmem
      have HB12 := Lib.hid hb12
      obtain ⟨L1, hL1⟩ : ∃ L1, l ++ rowS f (ks.take (k + 1)) = L1 := ⟨_, rfl⟩
      rw [hL1] at hl1
      have hL2 := hL1
      rw [hNx] at hL1
      have HL1 := Lib.hid hL1
      have HL2 := Lib.hid hL2
      have Hl1 := Lib.hid hl1
      have Hent := Lib.hid hent
      clear hkid hnode ht hmem hb12 hNx hl1 hL1 hL2
      have fin : ∀ W, WS B b w L1 W → ((RowRelW B b w l f ks n (.int .i64 ((k : Int) + 1)) W) ∧ n - (intOf (.int .i64 ((k : Int) + 1))).toNat < n - (intOf (.int .i64 (k : Int))).toNat) := fun W hW =>
        ⟨⟨W, k + 1, rfl, by omega, by go_num, by rw [HL2.out]; exact hW⟩, by simp [intOf]; omega⟩
      have HFin := Lib.hid fin
      clear fin
      by_cases hz : k = 0
      · have hkz : decide ((0 : Int) < k) = false := by simp; omega
        have hkz2 : decide (0 < k) = false := by simp; omega
        have hL : l ++ rowS f (ks.take k) ++ f t = L1 := by
          have := HL1.out
          rw [hz] at this ⊢
          simpa using this
        have hS2 := HS2.out
        have HC := Lib.hid (HOne.out t (.agg #[.int .u8 t.kind, .string t.text, .int .i64 t.num, .int .i64 t.place, .slice p' l' c']) _ W2 (HOk.out t HT.out) (HNd.out W2 HB12.out) hS2.is (hS2.sz hB) (by rw [hL]; exact Hl1.out))
        rw [hL] at HC
        clear hz hL hS2
        go_upto_region 3 with fail
        change Code.wp _ _ _ _ (W1.alloc (.cells #[.int .u8 t.kind, .string t.text, .int .i64 t.num, .int .i64 t.place, .slice p' l' c'] 25))
        rw [← hW2]
        clear d0 d1 d2 d3 d4 hW2
        obtain ⟨x0, x1, x2, x3, x4⟩ := cells5 HX2.out
        go_wp2_with fail
        refine Calls.mono HC.out ?_
        rintro e W3 ⟨rfl, h3⟩
        have H3 := Lib.hid (HFin.out W3 (HS2.out.trans h3))
        clear h3
        go_wp2_with fail
        exact H3.out
      · have hkz : (0 : Int) < k := by omega
        have hkz2 : 0 < k := by omega
        have hne : ks.take k ≠ [] := by
          intro e
          have := congrArg List.length e
          rw [List.length_take, HN.out] at this
          simp at this
          omega
        have hL : l ++ rowS f (ks.take k) ++ [44, 32] ++ f t = L1 := by
          have := HL1.out
          rw [if_neg hne] at this
          rw [← this]
          simp
        have hl1 := Hl1.out
        rw [← hL] at hl1
        have HP := Lib.hid (wput_new B b (l ++ rowS f (ks.take k)) (l ++ rowS f (ks.take k) ++ [44, 32]) 1 [⟨#[44, 32]⟩] W2 HS2.out.is (HS2.out.sz hB) rfl (by omega) rfl (by unfold maxW at hl1; rw [List.length_append] at hl1; omega))
        have HL := Lib.hid hL
        clear hz hL hne hl1
        go_upto_region 3 with fail
        change Code.wp _ _ _ _ (W1.alloc (.cells #[.int .u8 t.kind, .string t.text, .int .i64 t.num, .int .i64 t.place, .slice p' l' c'] 25))
        rw [← hW2]
        clear d0 d1 d2 d3 d4 hW2
        go_wp2_with fail
        refine Calls.mono HP.out ?_
        rintro e W3 ⟨rfl, h3⟩
        have HX3 := Lib.hid (h3.box HS2.out.is HX2.out (by decide) (by decide))
        have H3 := Lib.hid (HS2.out.trans h3)
        have HC := Lib.hid (HOne.out t (.agg #[.int .u8 t.kind, .string t.text, .int .i64 t.num, .int .i64 t.place, .slice p' l' c']) _ W3 (HOk.out t HT.out) (HNd.out W3 (HB12.out.trans h3.bl)) H3.out.is (H3.out.sz hB) (by rw [HL.out]; exact Hl1.out))
        rw [HL.out] at HC
        clear h3
        obtain ⟨x0, x1, x2, x3, x4⟩ := cells5 HX3.out
        go_wp2_with fail
        refine Calls.mono HC.out ?_
        rintro e W4 ⟨rfl, h4⟩
        have H4 := Lib.hid (HFin.out W4 (H3.out.trans h4))
        clear h4
        go_wp2_with fail
        exact H4.out
    · obtain rfl : k = n := by omega
      go_wp2_with fail
      go_returns
      refine ⟨rfl, ?_⟩
      have := HW.out
      rw [HFull.out] at this
      exact this
set_option maxRecDepth 100000 in
set_option maxHeartbeats 2000000 in
theorem wlist_any {B b : Nat} {gf : FuncId} {f : Tree → List UInt8} {d : Nat} {ok : Tree → Prop} (hent : ∀ (xs : Array Value) (w : World), (callFunc gf xs).run Tryz.prog w = .ok (.enter gf xs) w) (hone : WritesN B b gf f d ok)
    (T : Tree) (u : Value) (l : List UInt8) (w : World) (hu : NodeAt w B (d + 1) T u) (hn9 : T.kids.length ≤ 20000) (hok : ∀ t ∈ T.kids, ok t) (h : IsW B b l w) (hB : B ≤ w.heap.size) (hlen : (l ++ listS f T).length ≤ maxW) :
    Calls Tryz.prog 112 #[.pointer (some ⟨b, 0, none⟩), .func (.func gf) #[.pointer (some ⟨b, 0, none⟩)] #[], u] w (WPost B b w (l ++ listS f T)) := by
  obtain ⟨_, s, rfl, hk⟩ := hu
  have HK := Lib.hid hk
  obtain ⟨p, n, c, rfl⟩ := hk.shape
  obtain ⟨w0, hw0⟩ : ∃ w0, w0 = w.alloc (.cells #[.int .u8 T.kind, .string T.text, .int .i64 T.num, .int .i64 T.place, .slice p n c] 25) := ⟨_, rfl⟩
  have HS0 : Hid (WS B b w l w0) := by show WS B b w l w0; rw [hw0]; exact (WS.refl h).alloc hB _
  have HX0 : Hid (w0.heap[w.heap.size]? = some (.cells #[.int .u8 T.kind, .string T.text, .int .i64 T.num, .int .i64 T.place, .slice p n c] 25 (0, 0))) := by show _ = _; rw [hw0]; exact heap_alloc_new w _
  have hE : listS f T = T.text.data.toList ++ ([40] ++ (rowS f T.kids ++ [41])) := rfl
  obtain ⟨E, hEE⟩ : ∃ E, listS f T = E := ⟨_, rfl⟩
  rw [hE] at hlen
  rw [hEE] at hE ⊢
  have HE := Lib.hid hE
  simp only [List.length_append, List.length_cons, List.length_nil] at hlen
  unfold maxW at hlen
  have HLen := Lib.hid hlen
  have HRow := Lib.hid (fun W l' (hW : WS B b w l' W) (hl' : (l' ++ rowS f T.kids).length ≤ maxW) => wrow_any hent hone T.kids (.slice p n c) l' W (HK.out.below hW.bl) hn9 hok hW.is (hW.sz hB) hl')
  unfold maxW at HRow
  clear hk HK hE hEE hlen hn9 hok hone hent h
  generalize rowS f T.kids = z at *
  generalize T.kind = kd at *
  generalize T.text = tx at *
  generalize T.num = nu at *
  generalize T.place = pl at *
  have HP := Lib.hid (wput_new B b l (l ++ (tx.data.toList ++ [40])) 2 [tx, tx1 40] w0 HS0.out.is (HS0.out.sz hB) rfl (by omega) (by simp [flatL, tx1]) (by have := HLen.out; simp only [List.length_append, List.length_cons, List.length_nil]; omega))
  go_enter Tryz.func112, Tryz.ntmps112
  go_upto_region 1 with fail
  change Code.wp _ _ _ _ (w.alloc _)
  rw [← hw0]
  clear hw0
  obtain ⟨x0, x1, x2, x3, x4⟩ := cells5 HX0.out
  go_wp2_with fail
  refine Calls.mono HP.out ?_
  rintro e w1 ⟨rfl, h1⟩
  have H1 := Lib.hid (HS0.out.trans h1)
  have HX1 := Lib.hid (h1.box HS0.out.is HX0.out (by decide) (by decide))
  clear h1 x0 x1 x2 x3 x4
  obtain ⟨x0, x1, x2, x3, x4⟩ := cells5 HX1.out
  have HC := Lib.hid (HRow.out w1 _ H1.out (by have := HLen.out; simp only [List.length_append, List.length_cons, List.length_nil]; omega))
  go_wp2_with fail
  refine Calls.mono HC.out ?_
  rintro e w2 ⟨rfl, h2⟩
  have H2 := Lib.hid (H1.out.trans h2)
  clear h2 x0 x1 x2 x3 x4
  have HP2 := Lib.hid (wput_new B b (l ++ (tx.data.toList ++ [40]) ++ z) (l ++ E) 1 [tx1 41] w2 H2.out.is (H2.out.sz hB) rfl (by omega) (by rw [HE.out]; simp [flatL, tx1]) (by rw [HE.out]; have := HLen.out; simp only [List.length_append, List.length_cons, List.length_nil]; omega))
  go_wp2_with fail
  refine Calls.mono HP2.out ?_
  rintro e w3 ⟨rfl, h3⟩
  have H3 := Lib.hid (H2.out.trans h3)
  clear h3
  go_wp2_with fail
  go_returns
  exact ⟨rfl, H3.out⟩
set_option maxRecDepth 100000 in
set_option maxHeartbeats 1000000 in
theorem wfield_any (B b d : Nat) : WritesN B b 113 txL d (fun _ => True) := by
  intro T u l w _ hu h hB hlen
  obtain ⟨_, s, rfl, hk⟩ := hu
  obtain ⟨p, n, c, rfl⟩ := hk.shape
  obtain ⟨w0, hw0⟩ : ∃ w0, w0 = w.alloc (.cells #[.int .u8 T.kind, .string T.text, .int .i64 T.num, .int .i64 T.place, .slice p n c] 25) := ⟨_, rfl⟩
  have HS0 : Hid (WS B b w l w0) := by show WS B b w l w0; rw [hw0]; exact (WS.refl h).alloc hB _
  have HX0 : Hid (w0.heap[w.heap.size]? = some (.cells #[.int .u8 T.kind, .string T.text, .int .i64 T.num, .int .i64 T.place, .slice p n c] 25 (0, 0))) := by show _ = _; rw [hw0]; exact heap_alloc_new w _
  have HP := Lib.hid (wput_new B b l (l ++ txL T) 1 [T.text] w0 HS0.out.is (HS0.out.sz hB) rfl (by omega) (by simp [flatL, txL]) hlen)
  clear hk h hlen
  go_enter Tryz.func113, Tryz.ntmps113
  go_upto_region 1 with fail
  change Code.wp _ _ _ _ (w.alloc _)
  rw [← hw0]
  clear hw0
  obtain ⟨x0, x1, x2, x3, x4⟩ := cells5 HX0.out
  go_wp2_with fail
  refine Calls.mono HP.out ?_
  rintro e w1 ⟨rfl, h1⟩
  have H1 := Lib.hid (HS0.out.trans h1)
  clear h1
  go_wp2_with fail
  go_returns
  exact ⟨rfl, H1.out⟩
end Go.Proofs.YtoekldhdojpceaaGreatDoor
/- The writer: a condition, an action; by contract. Condition: at most 2^47 bytes; the library's table of powers of ten lies as laid. (Printed by tools/genW.py.) -/
namespace Go.Proofs.YtoekldhdojpceaaGreatDoor
open Go.RowKit

/-- bytes as a text -/
def mkS (l : List UInt8) : ByteArray := ⟨l.toArray⟩
theorem mkS_list (l : List UInt8) : (mkS l).data.toList = l := rfl
abbrev PowTab (B : Nat) (w : World) : Prop := Lib.TabBelow Tryz.prog B w "internal/strconv.uint64pow10" .u64 Lib.pow10Tab
theorem itoa_any (n : Int) (h0 : -9223372036854775808 ≤ n) (h1 : n < 9223372036854775808) (w : World) (ht : Lib.TabIs Tryz.prog w "internal/strconv.uint64pow10" .u64 Lib.pow10Tab) :
    Calls Tryz.prog 200 #[.int .i64 n] w fun e w' => e = .returned (.string (mkS (Lib.itoa n))) ∧ Below w.heap.size w w' := by
  refine (Tryz.strconv_Itoa n h0 (by omega) w ht).mono ?_
  rintro e w' ⟨rfl, k, os, rfl⟩
  exact ⟨rfl, Lib.below_grow _ w (Nat.le_refl _) k os⟩
set_option maxRecDepth 100000 in
set_option maxHeartbeats 4000000 in
theorem wpart_any (d : Nat) (T : Tree) (u : Value) (B b : Nat) (l : List UInt8) (w : World) (hp : PartOk d T) (hs : Slim (d + 1) T) (hu : NodeAt w B (d + 1) T u) (h : IsW B b l w) (hB : B ≤ w.heap.size) (ht : PowTab B w) (hlen : (l ++ partS d T).length ≤ maxW) :
    Calls Tryz.prog 201 #[.pointer (some ⟨b, 0, none⟩), u] w (WPost B b w (l ++ partS d T)) := by
  have hent : ∀ (xs : Array Value) (w : World), (callFunc 250 xs).run Tryz.prog w = .ok (.enter 250 xs) w := enters_of Tryz.func250 (by kernel_rfl) rfl
  have hone : WritesN B b 250 (exprS d) d (fun T => ExpOk d T ∧ Slim d T) := fun T u l w hok hu h hB hl => shE_all d T u B b l w hok.1 hok.2 hu h hB hl
  have hok : ∀ t ∈ T.kids, ExpOk d t ∧ Slim d t := fun t ht => ⟨hp.2 t ht, hs.2.2 t ht⟩
  have hn9 := hs.2.1
  have HU := Lib.hid hu
  obtain ⟨hf, s, rfl, hk⟩ := hu
  have hnum : -9223372036854775808 ≤ T.num ∧ T.num < 9223372036854775808 := ⟨hf.2.2.1, hf.2.2.2.1⟩
  have HK := Lib.hid hk
  obtain ⟨p, n, c, rfl⟩ := hk.shape
  obtain ⟨w0, hw0⟩ : ∃ w0, w0 = w.alloc (.cells #[.int .u8 T.kind, .string T.text, .int .i64 T.num, .int .i64 T.place, .slice p n c] 25) := ⟨_, rfl⟩
  have H0 : Hid (WS B b w l w0) := by show WS B b w l w0; rw [hw0]; exact (WS.refl h).alloc hB _
  have HX0 : Hid (w0.heap[w.heap.size]? = some (.cells #[.int .u8 T.kind, .string T.text, .int .i64 T.num, .int .i64 T.place, .slice p n c] 25 (0, 0))) := by show _ = _; rw [hw0]; exact heap_alloc_new w _
  have HRow := Lib.hid (fun W l' (hW : WS B b w l' W) (hl' : (l' ++ rowS (exprS d) T.kids).length ≤ 140737488355328) => wrow_any hent hone T.kids (.slice p n c) l' W (HK.out.below hW.bl) hn9 hok hW.is (hW.sz hB) hl')
  have HList := Lib.hid (fun W l' (hW : WS B b w l' W) (hl' : (l' ++ listS (exprS d) T).length ≤ 140737488355328) => wlist_any hent hone T (.agg #[.int .u8 T.kind, .string T.text, .int .i64 T.num, .int .i64 T.place, .slice p n c]) l' W (HU.out.below hW.bl) hn9 hok hW.is (hW.sz hB) hl')
  have HTab := Lib.hid ht
  have hE : partS d T = (if T.kind = 5 then listS (exprS d) T
   else if T.kind = 6 then [110, 111, 116, 32] ++ listS (exprS d) T
   else if T.kind = 7 then [116, 101, 115, 116, 32] ++ rowS (exprS d) T.kids
   else if T.kind = 8 then [97, 115, 115, 101, 114, 116, 32] ++ listS (exprS d) T
   else if T.kind = 9 then [114, 101, 116, 114, 97, 99, 116, 32] ++ Lib.itoa T.num
   else if T.kind = 10 then [115, 97, 121, 32] ++ rowS (exprS d) T.kids
   else if T.kind = 11 then [104, 97, 108, 116] else []) ++ [59, 32] := rfl
  obtain ⟨E, hEE⟩ : ∃ E, partS d T = E := ⟨_, rfl⟩
  rw [hEE] at hlen hE ⊢
  have hk511 := hp.1
  unfold maxW at hlen
  generalize rowS (exprS d) T.kids = zr at *
  generalize listS (exprS d) T = zl at *
  have HHent := Lib.hid hent
  clear hk HK HU hEE hp hs hone hok hn9 hf ht h hent
  obtain h5 | h5 | h5 | h5 | h5 | h5 | h5 : T.kind = 5 ∨ T.kind = 6 ∨ T.kind = 7 ∨ T.kind = 8 ∨ T.kind = 9 ∨ T.kind = 10 ∨ T.kind = 11 := by omega
  · have e5 : ((T.kind : Int) == 5) = true := by simp; omega
    have e6 : ((T.kind : Int) == 6) = false := by simp; omega
    have e7 : ((T.kind : Int) == 7) = false := by simp; omega
    have e8 : ((T.kind : Int) == 8) = false := by simp; omega
    have e9 : ((T.kind : Int) == 9) = false := by simp; omega
    have e10 : ((T.kind : Int) == 10) = false := by simp; omega
    have e11 : ((T.kind : Int) == 11) = false := by simp; omega
    rw [if_pos h5] at hE
    have HE := Lib.hid hE
    rw [hE] at hlen
    simp only [List.length_append, List.length_cons, List.length_nil] at hlen
    have HLen := Lib.hid hlen
    clear hE hlen h5 hk511
    go_enter Tryz.func201, Tryz.ntmps201
    go_upto_region 1 with fail
    change Code.wp _ _ _ _ (w.alloc _)
    rw [← hw0]
    clear hw0
    obtain ⟨x0, x1, x2, x3, x4⟩ := cells5 HX0.out
    have HC1 := Lib.hid (HList.out w0 _ H0.out (by have := HLen.out; simp only [List.length_append]; omega))
    go_wp2_with fail
    refine Calls.mono HC1.out ?_
    rintro e w1 ⟨rfl, h1⟩
    have HX1 := Lib.hid (h1.box H0.out.is HX0.out (by decide) (by decide))
    have H1 := Lib.hid (H0.out.trans h1)
    clear h1 x0 x1 x2 x3 x4
    obtain ⟨x0, x1, x2, x3, x4⟩ := cells5 HX1.out
    have HP2 := Lib.hid (wput_new B b (l ++ zl) (l ++ zl ++ [59, 32]) 1 [⟨#[59, 32]⟩] w1 H1.out.is (H1.out.sz hB) rfl (by omega) (by simp [flatL]) (by have := HLen.out; simp only [List.length_append, List.length_cons, List.length_nil]; omega))
    go_wp2_with fail
    refine Calls.mono HP2.out ?_
    rintro e w2 ⟨rfl, h2⟩
    have HX2 := Lib.hid (h2.box H1.out.is HX1.out (by decide) (by decide))
    have H2 := Lib.hid (H1.out.trans h2)
    clear h2 x0 x1 x2 x3 x4
    obtain ⟨x0, x1, x2, x3, x4⟩ := cells5 HX2.out
    go_wp2_with fail
    go_returns
    refine ⟨rfl, ?_⟩
    have h9 := H2.out
    rw [HE.out]
    simpa using h9
  · have e5 : ((T.kind : Int) == 5) = false := by simp; omega
    have e6 : ((T.kind : Int) == 6) = true := by simp; omega
    have e7 : ((T.kind : Int) == 7) = false := by simp; omega
    have e8 : ((T.kind : Int) == 8) = false := by simp; omega
    have e9 : ((T.kind : Int) == 9) = false := by simp; omega
    have e10 : ((T.kind : Int) == 10) = false := by simp; omega
    have e11 : ((T.kind : Int) == 11) = false := by simp; omega
    rw [if_neg (by omega), if_pos h5] at hE
    have HE := Lib.hid hE
    rw [hE] at hlen
    simp only [List.length_append, List.length_cons, List.length_nil] at hlen
    have HLen := Lib.hid hlen
    clear hE hlen h5 hk511
    go_enter Tryz.func201, Tryz.ntmps201
    go_upto_region 1 with fail
    change Code.wp _ _ _ _ (w.alloc _)
    rw [← hw0]
    clear hw0
    obtain ⟨x0, x1, x2, x3, x4⟩ := cells5 HX0.out
    have HP1 := Lib.hid (wput_new B b (l) (l ++ [110, 111, 116, 32]) 1 [⟨#[110, 111, 116, 32]⟩] w0 H0.out.is (H0.out.sz hB) rfl (by omega) (by simp [flatL]) (by have := HLen.out; simp only [List.length_append, List.length_cons, List.length_nil]; omega))
    go_wp2_with fail
    refine Calls.mono HP1.out ?_
    rintro e w1 ⟨rfl, h1⟩
    have HX1 := Lib.hid (h1.box H0.out.is HX0.out (by decide) (by decide))
    have H1 := Lib.hid (H0.out.trans h1)
    clear h1 x0 x1 x2 x3 x4
    obtain ⟨x0, x1, x2, x3, x4⟩ := cells5 HX1.out
    have HC2 := Lib.hid (HList.out w1 _ H1.out (by have := HLen.out; simp only [List.length_append, List.length_cons, List.length_nil]; omega))
    go_wp2_with fail
    refine Calls.mono HC2.out ?_
    rintro e w2 ⟨rfl, h2⟩
    have HX2 := Lib.hid (h2.box H1.out.is HX1.out (by decide) (by decide))
    have H2 := Lib.hid (H1.out.trans h2)
    clear h2 x0 x1 x2 x3 x4
    obtain ⟨x0, x1, x2, x3, x4⟩ := cells5 HX2.out
    have HP3 := Lib.hid (wput_new B b (l ++ [110, 111, 116, 32] ++ zl) (l ++ [110, 111, 116, 32] ++ zl ++ [59, 32]) 1 [⟨#[59, 32]⟩] w2 H2.out.is (H2.out.sz hB) rfl (by omega) (by simp [flatL]) (by have := HLen.out; simp only [List.length_append, List.length_cons, List.length_nil]; omega))
    go_wp2_with fail
    refine Calls.mono HP3.out ?_
    rintro e w3 ⟨rfl, h3⟩
    have HX3 := Lib.hid (h3.box H2.out.is HX2.out (by decide) (by decide))
    have H3 := Lib.hid (H2.out.trans h3)
    clear h3 x0 x1 x2 x3 x4
    obtain ⟨x0, x1, x2, x3, x4⟩ := cells5 HX3.out
    go_wp2_with fail
    go_returns
    refine ⟨rfl, ?_⟩
    have h9 := H3.out
    rw [HE.out]
    simpa using h9
  · have e5 : ((T.kind : Int) == 5) = false := by simp; omega
    have e6 : ((T.kind : Int) == 6) = false := by simp; omega
    have e7 : ((T.kind : Int) == 7) = true := by simp; omega
    have e8 : ((T.kind : Int) == 8) = false := by simp; omega
    have e9 : ((T.kind : Int) == 9) = false := by simp; omega
    have e10 : ((T.kind : Int) == 10) = false := by simp; omega
    have e11 : ((T.kind : Int) == 11) = false := by simp; omega
    rw [if_neg (by omega), if_neg (by omega), if_pos h5] at hE
    have HE := Lib.hid hE
    rw [hE] at hlen
    simp only [List.length_append, List.length_cons, List.length_nil] at hlen
    have HLen := Lib.hid hlen
    clear hE hlen h5 hk511
    go_enter Tryz.func201, Tryz.ntmps201
    go_upto_region 1 with fail
    change Code.wp _ _ _ _ (w.alloc _)
    rw [← hw0]
    clear hw0
    obtain ⟨x0, x1, x2, x3, x4⟩ := cells5 HX0.out
    have HP1 := Lib.hid (wput_new B b (l) (l ++ [116, 101, 115, 116, 32]) 1 [⟨#[116, 101, 115, 116, 32]⟩] w0 H0.out.is (H0.out.sz hB) rfl (by omega) (by simp [flatL]) (by have := HLen.out; simp only [List.length_append, List.length_cons, List.length_nil]; omega))
    go_wp2_with fail
    refine Calls.mono HP1.out ?_
    rintro e w1 ⟨rfl, h1⟩
    have HX1 := Lib.hid (h1.box H0.out.is HX0.out (by decide) (by decide))
    have H1 := Lib.hid (H0.out.trans h1)
    clear h1 x0 x1 x2 x3 x4
    obtain ⟨x0, x1, x2, x3, x4⟩ := cells5 HX1.out
    have HC2 := Lib.hid (HRow.out w1 _ H1.out (by have := HLen.out; simp only [List.length_append, List.length_cons, List.length_nil]; omega))
    go_wp2_with fail
    refine Calls.mono HC2.out ?_
    rintro e w2 ⟨rfl, h2⟩
    have HX2 := Lib.hid (h2.box H1.out.is HX1.out (by decide) (by decide))
    have H2 := Lib.hid (H1.out.trans h2)
    clear h2 x0 x1 x2 x3 x4
    obtain ⟨x0, x1, x2, x3, x4⟩ := cells5 HX2.out
    have HP3 := Lib.hid (wput_new B b (l ++ [116, 101, 115, 116, 32] ++ zr) (l ++ [116, 101, 115, 116, 32] ++ zr ++ [59, 32]) 1 [⟨#[59, 32]⟩] w2 H2.out.is (H2.out.sz hB) rfl (by omega) (by simp [flatL]) (by have := HLen.out; simp only [List.length_append, List.length_cons, List.length_nil]; omega))
    go_wp2_with fail
    refine Calls.mono HP3.out ?_
    rintro e w3 ⟨rfl, h3⟩
    have HX3 := Lib.hid (h3.box H2.out.is HX2.out (by decide) (by decide))
    have H3 := Lib.hid (H2.out.trans h3)
    clear h3 x0 x1 x2 x3 x4
    obtain ⟨x0, x1, x2, x3, x4⟩ := cells5 HX3.out
    go_wp2_with fail
    go_returns
    refine ⟨rfl, ?_⟩
    have h9 := H3.out
    rw [HE.out]
    simpa using h9
  · have e5 : ((T.kind : Int) == 5) = false := by simp; omega
    have e6 : ((T.kind : Int) == 6) = false := by simp; omega
    have e7 : ((T.kind : Int) == 7) = false := by simp; omega
    have e8 : ((T.kind : Int) == 8) = true := by simp; omega
    have e9 : ((T.kind : Int) == 9) = false := by simp; omega
    have e10 : ((T.kind : Int) == 10) = false := by simp; omega
    have e11 : ((T.kind : Int) == 11) = false := by simp; omega
    rw [if_neg (by omega), if_neg (by omega), if_neg (by omega), if_pos h5] at hE
    have HE := Lib.hid hE
    rw [hE] at hlen
    simp only [List.length_append, List.length_cons, List.length_nil] at hlen
    have HLen := Lib.hid hlen
    clear hE hlen h5 hk511
    go_enter Tryz.func201, Tryz.ntmps201
    go_upto_region 1 with fail
    change Code.wp _ _ _ _ (w.alloc _)
    rw [← hw0]
    clear hw0
    obtain ⟨x0, x1, x2, x3, x4⟩ := cells5 HX0.out
    have HP1 := Lib.hid (wput_new B b (l) (l ++ [97, 115, 115, 101, 114, 116, 32]) 1 [⟨#[97, 115, 115, 101, 114, 116, 32]⟩] w0 H0.out.is (H0.out.sz hB) rfl (by omega) (by simp [flatL]) (by have := HLen.out; simp only [List.length_append, List.length_cons, List.length_nil]; omega))
    go_wp2_with fail
    refine Calls.mono HP1.out ?_
    rintro e w1 ⟨rfl, h1⟩
    have HX1 := Lib.hid (h1.box H0.out.is HX0.out (by decide) (by decide))
    have H1 := Lib.hid (H0.out.trans h1)
    clear h1 x0 x1 x2 x3 x4
    obtain ⟨x0, x1, x2, x3, x4⟩ := cells5 HX1.out
    have HC2 := Lib.hid (HList.out w1 _ H1.out (by have := HLen.out; simp only [List.length_append, List.length_cons, List.length_nil]; omega))
    go_wp2_with fail
    refine Calls.mono HC2.out ?_
    rintro e w2 ⟨rfl, h2⟩
    have HX2 := Lib.hid (h2.box H1.out.is HX1.out (by decide) (by decide))
    have H2 := Lib.hid (H1.out.trans h2)
    clear h2 x0 x1 x2 x3 x4
    obtain ⟨x0, x1, x2, x3, x4⟩ := cells5 HX2.out
    have HP3 := Lib.hid (wput_new B b (l ++ [97, 115, 115, 101, 114, 116, 32] ++ zl) (l ++ [97, 115, 115, 101, 114, 116, 32] ++ zl ++ [59, 32]) 1 [⟨#[59, 32]⟩] w2 H2.out.is (H2.out.sz hB) rfl (by omega) (by simp [flatL]) (by have := HLen.out; simp only [List.length_append, List.length_cons, List.length_nil]; omega))
    go_wp2_with fail
    refine Calls.mono HP3.out ?_
    rintro e w3 ⟨rfl, h3⟩
    have HX3 := Lib.hid (h3.box H2.out.is HX2.out (by decide) (by decide))
    have H3 := Lib.hid (H2.out.trans h3)
    clear h3 x0 x1 x2 x3 x4
    obtain ⟨x0, x1, x2, x3, x4⟩ := cells5 HX3.out
    go_wp2_with fail
    go_returns
    refine ⟨rfl, ?_⟩
    have h9 := H3.out
    rw [HE.out]
    simpa using h9
  · have e5 : ((T.kind : Int) == 5) = false := by simp; omega
    have e6 : ((T.kind : Int) == 6) = false := by simp; omega
    have e7 : ((T.kind : Int) == 7) = false := by simp; omega
    have e8 : ((T.kind : Int) == 8) = false := by simp; omega
    have e9 : ((T.kind : Int) == 9) = true := by simp; omega
    have e10 : ((T.kind : Int) == 10) = false := by simp; omega
    have e11 : ((T.kind : Int) == 11) = false := by simp; omega
    rw [if_neg (by omega), if_neg (by omega), if_neg (by omega), if_neg (by omega), if_pos h5] at hE
    have HE := Lib.hid hE
    rw [hE] at hlen
    simp only [List.length_append, List.length_cons, List.length_nil] at hlen
    have HLen := Lib.hid hlen
    clear hE hlen h5 hk511
    go_enter Tryz.func201, Tryz.ntmps201
    go_upto_region 1 with fail
    change Code.wp _ _ _ _ (w.alloc _)
    rw [← hw0]
    clear hw0
    obtain ⟨x0, x1, x2, x3, x4⟩ := cells5 HX0.out
    have HI1 := Lib.hid (itoa_any T.num hnum.1 hnum.2 w0 (HTab.out w0 H0.out.bl))
    go_wp2_with fail
    refine Calls.mono HI1.out ?_
    rintro e w1 ⟨rfl, hb1⟩
    have HX1 := Lib.hid (heap_below hb1 HX0.out (Array.getElem?_eq_some_iff.1 HX0.out).1)
    have H1 := Lib.hid (H0.out.below hb1 (H0.out.sz hB))
    clear hb1 x0 x1 x2 x3 x4
    obtain ⟨x0, x1, x2, x3, x4⟩ := cells5 HX1.out
    have HP2 := Lib.hid (wput_new B b (l) (l ++ ([114, 101, 116, 114, 97, 99, 116, 32] ++ Lib.itoa T.num)) 2 [⟨#[114, 101, 116, 114, 97, 99, 116, 32]⟩, mkS (Lib.itoa T.num)] w1 H1.out.is (H1.out.sz hB) rfl (by omega) (by simp [flatL, mkS_list]) (by have := HLen.out; simp only [List.length_append, List.length_cons, List.length_nil]; omega))
    go_wp2_with fail
    refine Calls.mono HP2.out ?_
    rintro e w2 ⟨rfl, h2⟩
    have HX2 := Lib.hid (h2.box H1.out.is HX1.out (by decide) (by decide))
    have H2 := Lib.hid (H1.out.trans h2)
    clear h2 x0 x1 x2 x3 x4
    obtain ⟨x0, x1, x2, x3, x4⟩ := cells5 HX2.out
    have HP3 := Lib.hid (wput_new B b (l ++ ([114, 101, 116, 114, 97, 99, 116, 32] ++ Lib.itoa T.num)) (l ++ ([114, 101, 116, 114, 97, 99, 116, 32] ++ Lib.itoa T.num) ++ [59, 32]) 1 [⟨#[59, 32]⟩] w2 H2.out.is (H2.out.sz hB) rfl (by omega) (by simp [flatL]) (by have := HLen.out; simp only [List.length_append, List.length_cons, List.length_nil]; omega))
    go_wp2_with fail
    refine Calls.mono HP3.out ?_
    rintro e w3 ⟨rfl, h3⟩
    have HX3 := Lib.hid (h3.box H2.out.is HX2.out (by decide) (by decide))
    have H3 := Lib.hid (H2.out.trans h3)
    clear h3 x0 x1 x2 x3 x4
    obtain ⟨x0, x1, x2, x3, x4⟩ := cells5 HX3.out
    go_wp2_with fail
    go_returns
    refine ⟨rfl, ?_⟩
    have h9 := H3.out
    rw [HE.out]
    simpa using h9
  · have e5 : ((T.kind : Int) == 5) = false := by simp; omega
    have e6 : ((T.kind : Int) == 6) = false := by simp; omega
    have e7 : ((T.kind : Int) == 7) = false := by simp; omega
    have e8 : ((T.kind : Int) == 8) = false := by simp; omega
    have e9 : ((T.kind : Int) == 9) = false := by simp; omega
    have e10 : ((T.kind : Int) == 10) = true := by simp; omega
    have e11 : ((T.kind : Int) == 11) = false := by simp; omega
    rw [if_neg (by omega), if_neg (by omega), if_neg (by omega), if_neg (by omega), if_neg (by omega), if_pos h5] at hE
    have HE := Lib.hid hE
    rw [hE] at hlen
    simp only [List.length_append, List.length_cons, List.length_nil] at hlen
    have HLen := Lib.hid hlen
    clear hE hlen h5 hk511
    go_enter Tryz.func201, Tryz.ntmps201
    go_upto_region 1 with fail
    change Code.wp _ _ _ _ (w.alloc _)
    rw [← hw0]
    clear hw0
    obtain ⟨x0, x1, x2, x3, x4⟩ := cells5 HX0.out
    have HP1 := Lib.hid (wput_new B b (l) (l ++ [115, 97, 121, 32]) 1 [⟨#[115, 97, 121, 32]⟩] w0 H0.out.is (H0.out.sz hB) rfl (by omega) (by simp [flatL]) (by have := HLen.out; simp only [List.length_append, List.length_cons, List.length_nil]; omega))
    go_wp2_with fail
    refine Calls.mono HP1.out ?_
    rintro e w1 ⟨rfl, h1⟩
    have HX1 := Lib.hid (h1.box H0.out.is HX0.out (by decide) (by decide))
    have H1 := Lib.hid (H0.out.trans h1)
    clear h1 x0 x1 x2 x3 x4
    obtain ⟨x0, x1, x2, x3, x4⟩ := cells5 HX1.out
    have HC2 := Lib.hid (HRow.out w1 _ H1.out (by have := HLen.out; simp only [List.length_append, List.length_cons, List.length_nil]; omega))
    go_wp2_with fail
    refine Calls.mono HC2.out ?_
    rintro e w2 ⟨rfl, h2⟩
    have HX2 := Lib.hid (h2.box H1.out.is HX1.out (by decide) (by decide))
    have H2 := Lib.hid (H1.out.trans h2)
    clear h2 x0 x1 x2 x3 x4
    obtain ⟨x0, x1, x2, x3, x4⟩ := cells5 HX2.out
    have HP3 := Lib.hid (wput_new B b (l ++ [115, 97, 121, 32] ++ zr) (l ++ [115, 97, 121, 32] ++ zr ++ [59, 32]) 1 [⟨#[59, 32]⟩] w2 H2.out.is (H2.out.sz hB) rfl (by omega) (by simp [flatL]) (by have := HLen.out; simp only [List.length_append, List.length_cons, List.length_nil]; omega))
    go_wp2_with fail
    refine Calls.mono HP3.out ?_
    rintro e w3 ⟨rfl, h3⟩
    have HX3 := Lib.hid (h3.box H2.out.is HX2.out (by decide) (by decide))
    have H3 := Lib.hid (H2.out.trans h3)
    clear h3 x0 x1 x2 x3 x4
    obtain ⟨x0, x1, x2, x3, x4⟩ := cells5 HX3.out
    go_wp2_with fail
    go_returns
    refine ⟨rfl, ?_⟩
    have h9 := H3.out
    rw [HE.out]
    simpa using h9
  · have e5 : ((T.kind : Int) == 5) = false := by simp; omega
    have e6 : ((T.kind : Int) == 6) = false := by simp; omega
    have e7 : ((T.kind : Int) == 7) = false := by simp; omega
    have e8 : ((T.kind : Int) == 8) = false := by simp; omega
    have e9 : ((T.kind : Int) == 9) = false := by simp; omega
    have e10 : ((T.kind : Int) == 10) = false := by simp; omega
    have e11 : ((T.kind : Int) == 11) = true := by simp; omega
    rw [if_neg (by omega), if_neg (by omega), if_neg (by omega), if_neg (by omega), if_neg (by omega), if_neg (by omega), if_pos h5] at hE
    have HE := Lib.hid hE
    rw [hE] at hlen
    simp only [List.length_append, List.length_cons, List.length_nil] at hlen
    have HLen := Lib.hid hlen
    clear hE hlen h5 hk511
    go_enter Tryz.func201, Tryz.ntmps201
    go_upto_region 1 with fail
    change Code.wp _ _ _ _ (w.alloc _)
    rw [← hw0]
    clear hw0
    obtain ⟨x0, x1, x2, x3, x4⟩ := cells5 HX0.out
    have HP1 := Lib.hid (wput_new B b (l) (l ++ [104, 97, 108, 116]) 1 [⟨#[104, 97, 108, 116]⟩] w0 H0.out.is (H0.out.sz hB) rfl (by omega) (by simp [flatL]) (by have := HLen.out; simp only [List.length_append, List.length_cons, List.length_nil]; omega))
    go_wp2_with fail
    refine Calls.mono HP1.out ?_
    rintro e w1 ⟨rfl, h1⟩
    have HX1 := Lib.hid (h1.box H0.out.is HX0.out (by decide) (by decide))
    have H1 := Lib.hid (H0.out.trans h1)
    clear h1 x0 x1 x2 x3 x4
    obtain ⟨x0, x1, x2, x3, x4⟩ := cells5 HX1.out
    have HP2 := Lib.hid (wput_new B b (l ++ [104, 97, 108, 116]) (l ++ [104, 97, 108, 116] ++ [59, 32]) 1 [⟨#[59, 32]⟩] w1 H1.out.is (H1.out.sz hB) rfl (by omega) (by simp [flatL]) (by have := HLen.out; simp only [List.length_append, List.length_cons, List.length_nil]; omega))
    go_wp2_with fail
    refine Calls.mono HP2.out ?_
    rintro e w2 ⟨rfl, h2⟩
    have HX2 := Lib.hid (h2.box H1.out.is HX1.out (by decide) (by decide))
    have H2 := Lib.hid (H1.out.trans h2)
    clear h2 x0 x1 x2 x3 x4
    obtain ⟨x0, x1, x2, x3, x4⟩ := cells5 HX2.out
    go_wp2_with fail
    go_returns
    refine ⟨rfl, ?_⟩
    have h9 := H2.out
    rw [HE.out]
    simpa using h9
end Go.Proofs.YtoekldhdojpceaaGreatDoor
/- The writer: a rule; by contract. Condition: at most 2^47 bytes; the library's table of powers of ten lies as laid. -/
namespace Go.Proofs.YtoekldhdojpceaaGreatDoor
open Go.RowKit

theorem PowTab.on {B : Nat} {w w' : World} (h : PowTab B w) (hb : Below B w w') : PowTab B w' := fun w2 h2 => h w2 (hb.trans h2)
theorem partsS_app (d : Nat) (a b : List Tree) : partsS d (a ++ b) = partsS d a ++ partsS d b := by unfold partsS; simp
theorem partsS_take_le (d : Nat) (ks : List Tree) (k : Nat) : (partsS d (ks.take k)).length ≤ (partsS d ks).length := by
  conv => rhs; rw [← List.take_append_drop k ks]
  rw [partsS_app, List.length_append]
  omega
theorem partsS_next (d : Nat) {ks : List Tree} {k : Nat} {t : Tree} (ht : ks[k]? = some t) : partsS d (ks.take (k + 1)) = partsS d (ks.take k) ++ partS d t := by
  rw [List.take_add_one, ht]; exact partsS_snoc d _ t
/-- where a rule's actions begin -/
theorem acts_at {d : Nat} {T : Tree} (h : RuleOk' d T) : ∃ nc, nc ≤ T.kids.length ∧ T.kids.take nc = T.kids.takeWhile condB ∧ T.kids.drop nc = T.kids.dropWhile condB ∧ ∀ k t, T.kids[k]? = some t → (k < nc → t.kind ≤ 7) ∧ (k = nc → 8 ≤ t.kind) := by
  have e := List.takeWhile_append_dropWhile (p := condB) (l := T.kids)
  have hl : (T.kids.takeWhile condB).length + (T.kids.dropWhile condB).length = T.kids.length := by
    rw [← List.length_append, e]
  have ht : T.kids.take (T.kids.takeWhile condB).length = T.kids.takeWhile condB := by
    have h1 : (T.kids.takeWhile condB ++ T.kids.dropWhile condB).take (T.kids.takeWhile condB).length = T.kids.takeWhile condB := List.take_left
    rw [e] at h1
    exact h1
  have hd : T.kids.drop (T.kids.takeWhile condB).length = T.kids.dropWhile condB := by
    have h1 : (T.kids.takeWhile condB ++ T.kids.dropWhile condB).drop (T.kids.takeWhile condB).length = T.kids.dropWhile condB := List.drop_left
    rw [e] at h1
    exact h1
  refine ⟨(T.kids.takeWhile condB).length, by omega, ht, hd, fun k t hk => ⟨fun hlt => ?_, fun he => ?_⟩⟩
  · refine h.2.1 t (List.mem_of_getElem? (i := k) ?_)
    rw [← ht, List.getElem?_take, if_pos hlt]
    exact hk
  · refine h.2.2 t (List.mem_of_getElem? (i := 0) ?_)
    rw [← hd, List.getElem?_drop, Nat.add_zero, ← he]
    exact hk
def RuleRel1 (B b : Nat) (w : World) (l : List UInt8) (d : Nat) (ks : List Tree) (nc : Nat) (i : Value) (W : World) : Prop :=
  ∃ (W1 : World) (k : Nat), W1 = W ∧ k ≤ nc ∧ i = .int .i64 k ∧ WS B b w (l ++ partsS d (ks.take k)) W1
set_option maxRecDepth 100000 in
set_option maxHeartbeats 4000000 in
theorem wrule_any (d : Nat) (T : Tree) (u : Value) (B b : Nat) (l : List UInt8) (w : World) (hp : RuleOk' d T) (hs : Slim (d + 2) T) (hu : NodeAt w B (d + 2) T u) (h : IsW B b l w) (hB : B ≤ w.heap.size) (ht : PowTab B w) (hlen : (l ++ ruleS d T).length ≤ maxW) :
    Calls Tryz.prog 110 #[.pointer (some ⟨b, 0, none⟩), u] w (WPost B b w (l ++ ruleS d T)) := by
  obtain ⟨nc, hnc, htk, hdr, hkind⟩ := acts_at hp
  have hn9 := hs.2.1
  obtain ⟨hf, s, rfl, hk⟩ := hu
  have hnum : -9223372036854775808 ≤ T.num ∧ T.num < 9223372036854775808 := ⟨hf.2.2.1, hf.2.2.2.1⟩
  have HK := Lib.hid hk
  obtain ⟨p, c, rfl, _, hrow⟩ := hk.rows
  obtain ⟨q, hq1, hq2⟩ := hk.tail nc hnc
  obtain ⟨qp, qc, hqe, _, hrow2⟩ := hq2.rows
  obtain ⟨n, hn⟩ : ∃ n, T.kids.length = n := ⟨_, rfl⟩
  have hlen2 : (T.kids.drop nc).length = n - nc := by rw [List.length_drop, hn]
  rw [hlen2] at hqe
  have hqq : qp = q ∧ qc = c - nc := by injection hqe with h1 h2 h3; exact ⟨h1.symm, h3.symm⟩
  obtain ⟨rfl, rfl⟩ := hqq
  rw [hn] at hq1 hn9 hnc hk ⊢
  obtain ⟨m, hm⟩ : ∃ m, n - nc = m := ⟨_, rfl⟩
  rw [hm] at hq1 hlen2
  obtain ⟨c2, hc2⟩ : ∃ c2, c - nc = c2 := ⟨_, rfl⟩
  rw [hc2] at hq1
  have hm20 : m ≤ 20000 := by omega
  have HML := Lib.hid hlen2
  have HN := Lib.hid hn
  have HQ := Lib.hid hq1
  have HRow := Lib.hid hrow
  have HRow2 := Lib.hid hrow2
  have HKd := Lib.hid hkind
  have HPart := Lib.hid (fun (t : Tree) (v : Value) (l' : List UInt8) (W : World) (hm : t ∈ T.kids) (hv : NodeAt W B (d + 1) t v) (hW : WS B b w l' W) (hl' : (l' ++ partS d t).length ≤ 140737488355328) => wpart_any d t v B b l' W (hp.1 t hm) (hs.2.2 t hm) hv hW.is (hW.sz hB) (ht.on hW.bl) hl')
  have HTab := Lib.hid ht
  obtain ⟨w0, hw0⟩ : ∃ w0, w0 = w.alloc (.cells #[.int .u8 T.kind, .string T.text, .int .i64 T.num, .int .i64 T.place, .slice p n c] 25) := ⟨_, rfl⟩
  have H0 : Hid (WS B b w l w0) := by show WS B b w l w0; rw [hw0]; exact (WS.refl h).alloc hB _
  have HX0 : Hid (w0.heap[w.heap.size]? = some (.cells #[.int .u8 T.kind, .string T.text, .int .i64 T.num, .int .i64 T.place, .slice p n c] 25 (0, 0))) := by show _ = _; rw [hw0]; exact heap_alloc_new w _
  have hE : ruleS d T = ([114, 117, 108, 101, 32] ++ T.text.data.toList) ++ (salS T.num ++ ([32, 123, 32] ++ (partsS d (T.kids.take nc) ++ ([61, 62, 32] ++ (partsS d (T.kids.drop nc) ++ [125, 10]))))) := by
    rw [htk, hdr]; rfl
  obtain ⟨E, hEE⟩ : ∃ E, ruleS d T = E := ⟨_, rfl⟩
  rw [hE] at hlen
  rw [hEE] at hE ⊢
  have HE := Lib.hid hE
  unfold maxW at hlen
  simp only [List.length_append, List.length_cons, List.length_nil] at hlen
  have HLen := Lib.hid hlen
  have HLe1 := Lib.hid (fun k => (show (partsS d ((T.kids.take nc).take k)).length ≤ (partsS d (T.kids.take nc)).length from partsS_take_le d _ k))
  have HLe2 := Lib.hid (fun k => (show (partsS d ((T.kids.drop nc).take k)).length ≤ (partsS d (T.kids.drop nc)).length from partsS_take_le d _ k))
  clear hk hq1 hq2 hqe hm hc2 hrow hrow2 hE hEE hlen hp hs ht hn htk hdr hkind hlen2 hf HK
  obtain ⟨ks, hks⟩ : ∃ ks, T.kids = ks := ⟨_, rfl⟩
  rw [hks] at HN HRow HRow2 HKd HPart HE HLen HLe1 HLe2 HML
  clear hks
  generalize T.kind = kd at *
  generalize T.text = tx at *
  generalize T.num = nu at *
  generalize T.place = pl at *
  have HIs := Lib.hid h
  clear h
  go_enter Tryz.func110, Tryz.ntmps110
  go_upto_region 1 with fail
  change Code.wp _ _ _ _ (w.alloc _)
  rw [← hw0]
  clear hw0
  obtain ⟨x0, x1, x2, x3, x4⟩ := cells5 HX0.out
  have HP1 := Lib.hid (wput_new B b l (l ++ ([114, 117, 108, 101, 32] ++ tx.data.toList)) 2 [⟨#[114, 117, 108, 101, 32]⟩, tx] w0 H0.out.is (H0.out.sz hB) rfl (by omega) (by simp [flatL]) (by have := HLen.out; simp only [List.length_append, List.length_cons, List.length_nil]; omega))
  go_wp2_with fail
  refine Calls.mono HP1.out ?_
  rintro e w1 ⟨rfl, h1⟩
  have HX1 := Lib.hid (h1.box H0.out.is HX0.out (by decide) (by decide))
  have H1 := Lib.hid (H0.out.trans h1)
  clear h1 x0 x1 x2 x3 x4
  obtain ⟨x0, x1, x2, x3, x4⟩ := cells5 HX1.out
  obtain ⟨L1, hL1⟩ : ∃ L1, l ++ ([114, 117, 108, 101, 32] ++ tx.data.toList) = L1 := ⟨_, rfl⟩
  have HL1 := Lib.hid hL1
  have hL1n : L1.length = l.length + (5 + tx.data.toList.length) := by rw [← hL1]; simp only [List.length_append, List.length_cons, List.length_nil]
  rw [hL1] at H1
  clear hL1
  obtain ⟨bb, hbb⟩ : ∃ bb, (nu != 0) = bb := ⟨_, rfl⟩
  go_upto_if 14 with fail
  have HBB := Lib.hid hbb
  clear hbb
  go_cut [] from 15 to 20 (fun wx => WS B b w1 (L1 ++ salS nu) wx)
  case first =>
    cases bb with
    | false =>
      have hz : nu = 0 := by have := HBB.out; simpa using this
      have hS : L1 ++ salS nu = L1 := by rw [hz]; simp [salS]
      have HS := Lib.hid hS
      clear hS hz
      go_wp2_with fail
      go_meet
      case rel => rw [HS.out]; exact WS.refl H1.out.is
    | true =>
      have hz : nu ≠ 0 := by have := HBB.out; simpa using this
      have hS : salS nu = [32, 115, 97, 108, 105, 101, 110, 99, 101, 32] ++ Lib.itoa nu := by unfold salS; rw [if_neg hz]
      have HI := Lib.hid (itoa_any nu hnum.1 hnum.2 w1 (HTab.out w1 H1.out.bl))
      have HS := Lib.hid hS
      clear hS hz
      go_wp2_with fail
      refine Calls.mono HI.out ?_
      rintro e w2 ⟨rfl, hb2⟩
      have HX2 := Lib.hid (heap_below hb2 HX1.out (Array.getElem?_eq_some_iff.1 HX1.out).1)
      have H2 := Lib.hid ((WS.refl H1.out.is).below hb2 (H1.out.sz hB))
      clear hb2 x0 x1 x2 x3 x4
      have HP := Lib.hid (wput_new B b L1 (L1 ++ salS nu) 2 [⟨#[32, 115, 97, 108, 105, 101, 110, 99, 101, 32]⟩, mkS (Lib.itoa nu)] w2 H2.out.is (H2.out.sz (H1.out.sz hB)) rfl (by omega) (by rw [HS.out]; simp [flatL, mkS_list]) (by have := HLen.out; simp only [List.length_append]; omega))
      go_wp2_with fail
      refine Calls.mono HP.out ?_
      rintro e w3 ⟨rfl, h3⟩
      have H3 := Lib.hid (H2.out.trans h3)
      clear h3
      go_wp2_with fail
      go_meet
      case rel => exact H3.out
  case rest =>
    have H3 := Lib.hid (H1.out.trans hcut)
    have HX3 := Lib.hid (hcut.box H1.out.is HX1.out (by decide) (by decide))
    clear hcut x0 x1 x2 x3 x4
    obtain ⟨x0, x1, x2, x3, x4⟩ := cells5 HX3.out
    obtain ⟨L3, hL3⟩ : ∃ L3, L1 ++ salS nu ++ [32, 123, 32] = L3 := ⟨_, rfl⟩
    have hL3n : L3.length = L1.length + (salS nu).length + 3 := by rw [← hL3]; simp only [List.length_append, List.length_cons, List.length_nil]
    have HP4 := Lib.hid (wput_new B b (L1 ++ salS nu) L3 1 [⟨#[32, 123, 32]⟩] wc H3.out.is (H3.out.sz hB) rfl (by omega) (by rw [← hL3]; simp [flatL]) (by have := HLen.out; omega))
    have HL3 := Lib.hid hL3
    clear hL3
    go_wp2_with fail
    refine Calls.mono HP4.out ?_
    rintro e w4 ⟨rfl, h4⟩
    have HX4 := Lib.hid (h4.box H3.out.is HX3.out (by decide) (by decide))
    have H4 := Lib.hid (H3.out.trans h4)
    clear h4 x0 x1 x2 x3 x4
    have hB4 := H4.out.sz hB
    go_wp2_with fail
    go_loopw [4] (RuleRel1 B b w4 L3 d (ks.take nc) nc) (fun i _ => nc - (intOf i).toNat)
    case atStart => exact ⟨_, 0, rfl, Nat.zero_le _, rfl, by simpa [partsS] using WS.refl H4.out.is⟩
    case round =>
      obtain ⟨W1, k, rfl, hk, rfl, hW⟩ := hrel
      have HW := Lib.hid hW
      have HXW := Lib.hid (hW.box H4.out.is HX4.out (by decide) (by decide))
      clear hW
      have hk0 : (0 : Int) ≤ k := by omega
      obtain ⟨x0, x1, x2, x3, x4⟩ := cells5 HXW.out
      obtain ⟨bl, hbl⟩ : ∃ bl, decide (k < nc) = bl := ⟨_, rfl⟩
      have HBl := Lib.hid hbl
      clear hbl
      go_upto_region 6 with fail
      go_cut [37] from 24 to 37 (fun v wx => v = .bool bl ∧ wx = W1)
      case first =>
        by_cases hkn : k < n
        · obtain ⟨t, ht⟩ : ∃ t, ks[k]? = some t := ⟨ks[k]'(by rw [HN.out]; exact hkn), List.getElem?_eq_getElem (by rw [HN.out]; exact hkn)⟩
          obtain ⟨_, bk, off, rfl, hbB, hkid⟩ := HRow.out k t ht
          obtain ⟨p', l', c', d0, d1, d2, d3, d4, hnode⟩ := hkid.node (H4.out.bl.trans HW.out.bl) hbB
          have hk1 : (k : Int) < n := by omega
          have hkk := HKd.out k t ht
          clear hkid hnode ht
          cases bl with
          | true =>
            have hlt : k < nc := of_decide_eq_true HBl.out
            have hk7 : (t.kind : Int) ≤ 7 := by have := hkk.1 hlt; omega
            clear hkk hlt
            go_wp2_with fail
            go_meet
            case rel => exact ⟨rfl, rfl⟩
          | false =>
            have hlt : ¬ k < nc := of_decide_eq_false HBl.out
            have hk7 : ¬ ((t.kind : Int) ≤ 7) := by have := hkk.2 (by omega); omega
            clear hkk hlt
            go_wp2_with fail
            go_meet
            case rel => exact ⟨rfl, rfl⟩
        · have hk1 : decide ((k : Int) < n) = false := by simp; omega
          have hk2 : decide (k < n) = false := by simp; omega
          cases bl with
          | true =>
            have hlt : k < nc := of_decide_eq_true HBl.out
            omega
          | false =>
            clear hkn
            go_wp2_with fail
            go_meet
            case rel => exact ⟨rfl, rfl⟩
      case rest =>
        obtain ⟨rfl, hwx⟩ := hcut
        have hwx := hwx.symm
        subst hwx
        cases bl with
        | true =>
          have hlt : k < nc := of_decide_eq_true HBl.out
          obtain ⟨t, ht⟩ : ∃ t, ks[k]? = some t := ⟨ks[k]'(by rw [HN.out]; omega), List.getElem?_eq_getElem (by rw [HN.out]; omega)⟩
          obtain ⟨_, bk, off, rfl, hbB, hkid⟩ := HRow.out k t ht
          obtain ⟨p', l', c', d0, d1, d2, d3, d4, hnode⟩ := hkid.node (H4.out.bl.trans HW.out.bl) hbB
          have hk1 : (k : Int) < n := by omega
          have hNx : partsS d ((ks.take nc).take (k + 1)) = partsS d ((ks.take nc).take k) ++ partS d t := partsS_next d (by rw [List.getElem?_take, if_pos hlt]; exact ht)
          have HNx := Lib.hid hNx
          have hll := HLe1.out (k + 1)
          rw [hNx, List.length_append] at hll
          have HC := Lib.hid (HPart.out t _ _ W1 (List.mem_of_getElem? ht) hnode (H4.out.trans HW.out) (by have := HLen.out; simp only [List.length_append]; omega))
          clear hkid hnode ht hNx hll
          go_wp2_with fail
          refine Calls.mono HC.out ?_
          rintro e W2 ⟨rfl, h2⟩
          have H2 := Lib.hid (HW.out.trans h2)
          clear h2
          go_wp2_with fail
          refine ⟨⟨W2, k + 1, rfl, by omega, by go_num, ?_⟩, by simp [intOf]; omega⟩
          rw [HNx.out, ← List.append_assoc]
          exact H2.out
        | false =>
          have hlt : ¬ k < nc := of_decide_eq_false HBl.out
          obtain rfl : k = nc := by omega
          have HFull : Hid (partsS d ((ks.take k).take k) = partsS d (ks.take k)) := by show _ = _; rw [List.take_take, Nat.min_self]
          have hW5 := H4.out.trans HW.out
          rw [HFull.out] at hW5
          obtain ⟨L6, hL6⟩ : ∃ L6, L3 ++ partsS d (ks.take k) ++ [61, 62, 32] = L6 := ⟨_, rfl⟩
          have hL6n : L6.length = L3.length + (partsS d (ks.take k)).length + 3 := by rw [← hL6]; simp only [List.length_append, List.length_cons, List.length_nil]
          have HP6 := Lib.hid (wput_new B b (L3 ++ partsS d (ks.take k)) L6 1 [⟨#[61, 62, 32]⟩] W1 hW5.is (hW5.sz hB) rfl (by omega) (by rw [← hL6]; simp [flatL]) (by have := HLen.out; omega))
          have HL6 := Lib.hid hL6
          have HW5 := Lib.hid hW5
          clear hL6 hW5 hlt
          go_wp2_with fail
          refine Calls.mono HP6.out ?_
          rintro e w6 ⟨rfl, h6⟩
          have HX6 := Lib.hid (h6.box HW5.out.is HXW.out (by decide) (by decide))
          have H6 := Lib.hid (HW5.out.trans h6)
          clear h6 x0 x1 x2 x3 x4
          have hsl := HQ.out
          obtain ⟨x0, x1, x2, x3, x4⟩ := cells5 HX6.out
          go_wp2_with fail
          clear hsl x0 x1 x2 x3 x4
          go_loopw [55] (RuleRel1 B b w6 L6 d (ks.drop k) m) (fun i _ => m - (intOf i).toNat)
          case atStart => exact ⟨_, 0, rfl, Nat.zero_le _, rfl, by simpa [partsS] using WS.refl H6.out.is⟩
          case round =>
            obtain ⟨W7, j, rfl, hj, rfl, hW7⟩ := hrel
            have HW7 := Lib.hid hW7
            clear hW7
            have hj0 : (0 : Int) ≤ j := by omega
            by_cases hjm : j < m
            · obtain ⟨t, ht⟩ : ∃ t, (ks.drop k)[j]? = some t := ⟨(ks.drop k)[j]'(by rw [HML.out]; exact hjm), List.getElem?_eq_getElem (by rw [HML.out]; exact hjm)⟩
              obtain ⟨_, bk, off, rfl, hbB, hkid⟩ := HRow2.out j t ht
              obtain ⟨p', l', c', d0, d1, d2, d3, d4, hnode⟩ := hkid.node (H6.out.bl.trans HW7.out.bl) hbB
              have hj1 : (j : Int) < m := by omega
              have HNx := Lib.hid (partsS_next d ht)
              have hll := HLe2.out (j + 1)
              rw [HNx.out, List.length_append] at hll
              obtain ⟨W8, hW8⟩ : ∃ W8, W8 = W7.alloc (.cells #[.int .u8 t.kind, .string t.text, .int .i64 t.num, .int .i64 t.place, .slice p' l' c'] 25) := ⟨_, rfl⟩
              have HS8 : Hid (WS B b w6 (L6 ++ partsS d ((ks.drop k).take j)) W8) := by show WS B b w6 _ W8; rw [hW8]; exact HW7.out.alloc (H6.out.sz hB) _
              have HX8 : Hid (W8.heap[W7.heap.size]? = some (.cells #[.int .u8 t.kind, .string t.text, .int .i64 t.num, .int .i64 t.place, .slice p' l' c'] 25 (0, 0))) := by show _ = _; rw [hW8]; exact heap_alloc_new W7 _
              have hb78 : Below B W7 W8 := by rw [hW8]; exact (Below.refl B W7).alloc (HW7.out.sz (H6.out.sz hB)) _
              have HC := Lib.hid (HPart.out t (.agg #[.int .u8 t.kind, .string t.text, .int .i64 t.num, .int .i64 t.place, .slice p' l' c']) _ W8 (List.mem_of_mem_drop (List.mem_of_getElem? ht)) (hnode.below hb78) (H6.out.trans HS8.out) (by have := HLen.out; simp only [List.length_append]; omega))
              clear hkid hnode ht hll hb78
              go_upto_region 13 with fail
              change Code.wp _ _ _ _ (W7.alloc (.cells #[.int .u8 t.kind, .string t.text, .int .i64 t.num, .int .i64 t.place, .slice p' l' c'] 25))
              rw [← hW8]
              clear d0 d1 d2 d3 d4 hW8
              obtain ⟨x0, x1, x2, x3, x4⟩ := cells5 HX8.out
              go_wp2_with fail
              refine Calls.mono HC.out ?_
              rintro e W9 ⟨rfl, h9⟩
              have H9 := Lib.hid (HS8.out.trans h9)
              clear h9
              go_wp2_with fail
              refine ⟨⟨W9, j + 1, rfl, by omega, by go_num, ?_⟩, by simp [intOf]; omega⟩
              rw [HNx.out, ← List.append_assoc]
              exact H9.out
            · obtain rfl : j = m := by omega
              have hfull : partsS d ((ks.drop k).take j) = partsS d (ks.drop k) := by rw [← HML.out, List.take_length]
              have hW9 := H6.out.trans HW7.out
              rw [hfull] at hW9
              have HW9 := Lib.hid hW9
              have HPZ := Lib.hid (wput_new B b (L6 ++ partsS d (ks.drop k)) (l ++ E) 1 [⟨#[125, 10]⟩] W7 hW9.is (hW9.sz hB) rfl (by omega) (by rw [HE.out, ← HL6.out, ← HL3.out, ← HL1.out]; simp [flatL]) (by rw [HE.out]; have := HLen.out; simp only [List.length_append, List.length_cons, List.length_nil]; omega))
              clear hfull hW9
              go_wp2_with fail
              refine Calls.mono HPZ.out ?_
              rintro e W10 ⟨rfl, h10⟩
              have H10 := Lib.hid (HW9.out.trans h10)
              clear h10
              go_wp2_with fail
              go_returns
              exact ⟨rfl, H10.out⟩
end Go.Proofs.YtoekldhdojpceaaGreatDoor
/- The writer: a program; by contract. Condition: every list has at most 20000 nodes, every text 72007 bytes; the library's tables lie as laid. -/
namespace Go.Proofs.YtoekldhdojpceaaGreatDoor
open Go.RowKit

theorem dep_of {w : World} {B : Nat} : ∀ (d : Nat) (T : Tree) (s : Value), KidsAt w B d T.kids s → Dep d T := by
  intro d
  induction d with
  | zero => intro T s h; exact h.1
  | succ d ih =>
    intro T s h k hk
    obtain ⟨i, hi⟩ := List.mem_iff_getElem?.1 hk
    rcases h with ⟨h, _⟩ | ⟨b, off, cap, _, _, _, _, _, h6⟩
    · rw [h] at hk; cases hk
    · obtain ⟨_, s', _, _, _, _, _, hr⟩ := h6 i k hi
      exact ih k s' hr
theorem kid_fits {w : World} {B d : Nat} {ks : List Tree} {s : Value} (h : KidsAt w B d ks s) : ∀ t ∈ ks, Fits t ∧ ∃ s', KidsAt w B (d - 1) t.kids s' := by
  intro t ht
  obtain ⟨i, hi⟩ := List.mem_iff_getElem?.1 ht
  cases d with
  | zero => rw [h.1] at ht; cases ht
  | succ d =>
    rcases h with ⟨h, _⟩ | ⟨b, off, cap, _, _, _, _, _, h6⟩
    · rw [h] at ht; cases ht
    · obtain ⟨hf, s', _, _, _, _, _, hr⟩ := h6 i t hi
      exact ⟨hf, s', hr⟩
theorem fits_itoa {T : Tree} (h : Fits T) : (Lib.itoa T.num).length ≤ 21 := itoa_len h.2.2.1 h.2.2.2.1
theorem nums_ok {w : World} {B d : Nat} {T : Tree} {s : Value} (h : KidsAt w B d T.kids s) : ∀ t ∈ T.kids, (Lib.itoa t.num).length ≤ 21 ∧ ∀ k ∈ t.kids, (Lib.itoa k.num).length ≤ 21 := fun t ht => by
  obtain ⟨h1, s', h2⟩ := kid_fits h t ht
  exact ⟨fits_itoa h1, fun k hk => fits_itoa (kid_fits h2 k hk).1⟩
theorem rightF_many {d : Nat} {T : Tree} (h : rightF d T = true) : manyF d T ≤ 4096 := by
  unfold rightF at h
  simp only [Bool.and_eq_true, decide_eq_true_eq] at h
  exact h.2
theorem declsS_take_le (d : Nat) (ks : List Tree) (k : Nat) : (declsS d (ks.take k)).length ≤ (declsS d ks).length := by
  conv => rhs; rw [← List.take_append_drop k ks]
  unfold declsS
  rw [List.map_append, List.flatten_append, List.length_append]
  omega
theorem declsS_next (d : Nat) {ks : List Tree} {k : Nat} {t : Tree} (ht : ks[k]? = some t) : declsS d (ks.take (k + 1)) = declsS d (ks.take k) ++ declS d t := by
  rw [List.take_add_one, ht]; exact declsS_snoc d _ t
theorem declS_ne (d : Nat) (T : Tree) : declS d T ≠ [] := by
  unfold declS
  split
  · unfold ruleS; simp
  · simp
theorem pow_here {w : World} (h : Lib.TabIs Tryz.prog w "internal/strconv.uint64pow10" .u64 Lib.pow10Tab) : PowTab w.heap.size w := by
  intro w' hb
  have hg : Tryz.prog.globalNamed "internal/strconv.uint64pow10" = some 6 := by kernel_rfl
  unfold Lib.TabIs World.var? at h ⊢
  rw [hg] at h ⊢
  have hlt : (6 : Nat) < w.heap.size := by
    rcases Nat.lt_or_ge 6 w.heap.size with h1 | h1
    · exact h1
    · simp only [Option.bind_some] at h
      rw [Array.getElem?_eq_none h1] at h
      cases h
  simp only [Option.bind_some] at h ⊢
  rw [hb.block _ hlt]
  exact h
/-- what show.Program tells of a tree -/
def showM (d : Nat) (T : Tree) : ByteArray × Int := if rightF (d + 3) T = true then (mkS (progS d T), 0) else (mkS [], 4)
def DeclRel (B b : Nat) (w : World) (d : Nat) (ks : List Tree) (n : Nat) (i : Value) (W : World) : Prop :=
  ∃ (W1 : World) (k : Nat), W1 = W ∧ k ≤ n ∧ i = .int .i64 k ∧ WS B b w (declsS d (ks.take k)) W1 ∧ (k = 0 → W1 = w)
set_option maxRecDepth 100000 in
set_option maxHeartbeats 2000000 in
theorem sprog_any (d : Nat) (T : Tree) (u : Value) (B : Nat) (w : World) (hu0 : NodeAt w B (d + 3) T u) (hB0 : B ≤ w.heap.size) (hs : Slim (d + 3) T) (ha : AsciiTab w) (htab : Lib.TabIs Tryz.prog w "internal/strconv.uint64pow10" .u64 Lib.pow10Tab) :
    Calls Tryz.prog 51 #[u] w fun e w' => e = .returned (.tuple #[.string (showM d T).1, .int .i64 (showM d T).2]) ∧ Below w.heap.size w w' := by
  have hu := hu0.up hB0
  have ht := pow_here htab
  clear htab hu0 hB0
  have HU := Lib.hid hu
  obtain ⟨_, s, rfl, hk⟩ := hu
  have hdep := dep_of _ _ _ hk
  have hnums := nums_ok hk
  have hn9 := hs.2.1
  obtain ⟨p, c, rfl, _, hrow⟩ := hk.rows
  obtain ⟨w0, hw0⟩ : ∃ w0, w0 = w.alloc (.cells #[.int .u8 T.kind, .string T.text, .int .i64 T.num, .int .i64 T.place, .slice p T.kids.length c] 25) := ⟨_, rfl⟩
  have hb0 : Below w.heap.size w w0 := by rw [hw0]; exact (Below.refl _ w).alloc (Nat.le_refl _) _
  have HX0 : Hid (w0.heap[w.heap.size]? = some (.cells #[.int .u8 T.kind, .string T.text, .int .i64 T.num, .int .i64 T.place, .slice p T.kids.length c] 25 (0, 0))) := by show _ = _; rw [hw0]; exact heap_alloc_new w _
  have HR := Lib.hid (nodeRight_any (d + 3) T _ w.heap.size w0 (HU.out.below hb0) hb0.size hs (ha.below hb0))
  have HB0 := Lib.hid hb0
  obtain ⟨rs, hrs⟩ : ∃ rs, (showM d T).1 = rs := ⟨_, rfl⟩
  obtain ⟨re, hre⟩ : ∃ re, (showM d T).2 = re := ⟨_, rfl⟩
  rw [hrs, hre]
  have HRes := Lib.hid hrs
  have HRes2 := Lib.hid hre
  obtain ⟨r, hr⟩ : ∃ r, rightF (d + 3) T = r := ⟨_, rfl⟩
  rw [hr] at HR
  have Hr := Lib.hid hr
  have HOk := Lib.hid (fun (h : rightF (d + 3) T = true) => progOk_of d T h hdep)
  have HLen := Lib.hid (fun (h : rightF (d + 3) T = true) => (show (declsS d T.kids).length ≤ 295321600 by
    have h1 := progS_len d T hs hnums
    have h2 := rightF_many h
    have h3 : 72100 * manyF (d + 3) T ≤ 72100 * 4096 := Nat.mul_le_mul_left _ h2
    exact Nat.le_trans h1 h3))
  have HSl := Lib.hid (fun (t : Tree) (hm : t ∈ T.kids) => hs.2.2 t hm)
  have HRow := Lib.hid hrow
  obtain ⟨n, hn⟩ : ∃ n, T.kids.length = n := ⟨_, rfl⟩
  rw [hn] at HX0 HR hn9 HU hw0 ⊢
  have HN := Lib.hid hn
  have HT := Lib.hid ht
  clear hk hdep hnums hs hrow hn hb0 hrs hre hr ha ht
  go_enter Tryz.func51, Tryz.ntmps51
  go_upto_region 1 with fail
  change Code.wp _ _ _ _ (w.alloc _)
  rw [← hw0]
  clear hw0
  obtain ⟨x0, x1, x2, x3, x4⟩ := cells5 HX0.out
  go_wp2_with fail
  refine Calls.mono HR.out ?_
  rintro e w1 ⟨rfl, hb1⟩
  have HX1 := Lib.hid (heap_below hb1 HX0.out (Array.getElem?_eq_some_iff.1 HX0.out).1)
  have HB1 := Lib.hid (HB0.out.trans (hb1.mono HB0.out.size))
  clear hb1 x0 x1 x2 x3 x4
  obtain ⟨x0, x1, x2, x3, x4⟩ := cells5 HX1.out
  cases r with
  | false =>
    have h1 : rs = ⟨#[]⟩ := by rw [← HRes.out]; unfold showM; rw [if_neg (by rw [Hr.out]; decide)]; rfl
    have h2 : re = 4 := by rw [← HRes2.out]; unfold showM; rw [if_neg (by rw [Hr.out]; decide)]
    have HH1 := Lib.hid h1
    have HH2 := Lib.hid h2
    clear h1 h2
    go_wp2_with fail
    go_ret2
    exact ⟨by rw [HH1.out, HH2.out]; rfl, HB1.out⟩
  | true =>
    have h1 : rs = mkS (declsS d T.kids) := by rw [← HRes.out]; unfold showM; rw [if_pos Hr.out]; rfl
    have h2 : re = 0 := by rw [← HRes2.out]; unfold showM; rw [if_pos Hr.out]
    have HH1 := Lib.hid h1
    have HH2 := Lib.hid h2
    have hlen := HLen.out Hr.out
    have HLn := Lib.hid (fun k => Nat.le_trans (declsS_take_le d T.kids k) hlen)
    have HDecl := Lib.hid (HOk.out Hr.out)
    clear h1 h2 hlen
    obtain ⟨w2, hw2⟩ : ∃ w2, w2 = w1.alloc (.cells #[.pointer none, .slice none 0 0] 182) := ⟨_, rfl⟩
    have hw1s := HB1.out.size
    have HW2 : Hid (IsW w.heap.size w1.heap.size [] w2) := by
      show IsW _ _ _ _
      rw [hw2]
      exact Lib.IsBuilderF.of (.inl ⟨hw1s, .slice none 0 0, heap_alloc_new w1 _, World.ownsRow_nil _ _ _ _, by simp [Value.ownBlock]⟩)
    have HB2 : Hid (Below w.heap.size w w2) := by show Below _ _ _; rw [hw2]; exact HB1.out.alloc hw1s _
    have HN2 : Hid (w2.heap[w1.heap.size]? = some (.cells #[.pointer none, .slice none 0 0] 182 (0, 0))) := by show _ = _; rw [hw2]; exact heap_alloc_new w1 _
    have HX2 : Hid (w2.heap[w.heap.size]? = some (.cells #[.int .u8 T.kind, .string T.text, .int .i64 T.num, .int .i64 T.place, .slice p n c] 25 (0, 0))) := by show _ = _; rw [hw2]; exact (Below.heap_alloc w1 _ _ (Array.getElem?_eq_some_iff.1 HX1.out).1).trans HX1.out
    clear x0 x1 x2 x3 x4
    go_upto_region 4 with fail
    change Code.wp _ _ _ _ (w1.alloc _)
    rw [← hw2]
    clear hw2
    obtain ⟨x0, x1, x2, x3, x4⟩ := cells5 HX2.out
    go_wp2_with fail
    clear x0 x1 x2 x3 x4
    obtain ⟨b, hb⟩ : ∃ b, w1.heap.size = b := ⟨_, rfl⟩
    rw [hb] at HW2 HN2 ⊢
    clear hb hw1s
    go_loopw [13] (DeclRel w.heap.size b w2 d T.kids n) (fun i _ => n - (intOf i).toNat)
    case atStart => exact ⟨_, 0, rfl, Nat.zero_le _, rfl, by simpa [declsS] using WS.refl HW2.out, fun _ => rfl⟩
    case round =>
      obtain ⟨W1, k, rfl, hk, rfl, hW, h0⟩ := hrel
      have HW := Lib.hid hW
      have H0 := Lib.hid h0
      clear hW h0
      have hk0 : (0 : Int) ≤ k := by omega
      by_cases hlt : k < n
      · obtain ⟨t, ht⟩ : ∃ t, T.kids[k]? = some t := ⟨T.kids[k]'(by rw [HN.out]; exact hlt), List.getElem?_eq_getElem (by rw [HN.out]; exact hlt)⟩
        have hmem : t ∈ T.kids := List.mem_of_getElem? ht
        obtain ⟨_, bk, off, rfl, hbB, hkid⟩ := HRow.out k t ht
        obtain ⟨p', l', c', d0, d1, d2, d3, d4, hnode⟩ := hkid.node (HB2.out.trans HW.out.bl) hbB
        have hk1 : (k : Int) < n := by omega
        obtain ⟨W2, hW2⟩ : ∃ W2, W2 = W1.alloc (.cells #[.int .u8 t.kind, .string t.text, .int .i64 t.num, .int .i64 t.place, .slice p' l' c'] 25) := ⟨_, rfl⟩
        have HS2 : Hid (WS w.heap.size b w2 (declsS d (T.kids.take k)) W2) := by show WS _ _ _ _ W2; rw [hW2]; exact HW.out.alloc HB2.out.size _
        have HX : Hid (W2.heap[W1.heap.size]? = some (.cells #[.int .u8 t.kind, .string t.text, .int .i64 t.num, .int .i64 t.place, .slice p' l' c'] 25 (0, 0))) := by show _ = _; rw [hW2]; exact heap_alloc_new W1 _
        have hb12 : Below w.heap.size W1 W2 := by rw [hW2]; exact (Below.refl _ W1).alloc (HW.out.sz HB2.out.size) _
        have HNd := Lib.hid (fun W (hW : Below w.heap.size W1 W) => NodeAt.below hnode hW)
        have HB12 := Lib.hid hb12
        have HNx := Lib.hid (declsS_next d ht)
        have hll := HLn.out (k + 1)
        rw [HNx.out, List.length_append] at hll
        have Hll := Lib.hid hll
        have HSlt := Lib.hid (HSl.out t hmem)
        have HDt := Lib.hid (HDecl.out t hmem)
        have HSz := Lib.hid (HS2.out.sz HB2.out.size)
        have fin : ∀ W, WS w.heap.size b w2 (declsS d (T.kids.take k) ++ declS d t) W → ((DeclRel w.heap.size b w2 d T.kids n (.int .i64 ((k : Int) + 1)) W) ∧ n - (intOf (.int .i64 ((k : Int) + 1))).toNat < n - (intOf (.int .i64 (k : Int))).toNat) := fun W hW =>
          ⟨⟨W, k + 1, rfl, by omega, by go_num, by rw [HNx.out]; exact hW, fun h => by omega⟩, by simp [intOf]; omega⟩
        have HFin := Lib.hid fin
        clear fin hkid hnode ht hmem hb12 hll
        rcases HDt.out with ⟨h4, hrule⟩ | h2
        · have h4' : ((t.kind : Int) == 4) = true := by simp; omega
          have hD : declS d t = ruleS d t := by unfold declS; rw [if_pos h4]
          have HC := Lib.hid (wrule_any d t (.agg #[.int .u8 t.kind, .string t.text, .int .i64 t.num, .int .i64 t.place, .slice p' l' c']) w.heap.size b _ W2 hrule HSlt.out (HNd.out W2 HB12.out) HS2.out.is HSz.out (HT.out.on (HB2.out.trans HS2.out.bl)) (by have := Hll.out; rw [hD] at this; rw [List.length_append]; unfold maxW; omega))
          rw [← hD] at HC
          clear h4 hrule hD
          go_upto_region 7 with fail
          change Code.wp _ _ _ _ (W1.alloc (.cells #[.int .u8 t.kind, .string t.text, .int .i64 t.num, .int .i64 t.place, .slice p' l' c'] 25))
          rw [← hW2]
          clear d0 d1 d2 d3 d4 hW2
          obtain ⟨x0, x1, x2, x3, x4⟩ := cells5 HX.out
          go_wp2_with fail
          refine Calls.mono HC.out ?_
          rintro e W3 ⟨rfl, h3⟩
          have H3 := Lib.hid (HFin.out W3 (HS2.out.trans h3))
          clear h3
          go_wp2_with fail
          exact H3.out
        · have h4' : ((t.kind : Int) == 4) = false := by simp; omega
          have hD : declS d t = [102, 97, 99, 116, 32] ++ (listS txL t ++ [59, 10]) := by unfold declS; rw [if_neg (by omega)]
          have hll := Hll.out
          rw [hD] at hll
          simp only [List.length_append, List.length_cons, List.length_nil] at hll
          have HL2 := Lib.hid hll
          have HD := Lib.hid hD
          have hent : ∀ (xs : Array Value) (w : World), (callFunc 113 xs).run Tryz.prog w = .ok (.enter 113 xs) w := enters_of Tryz.func113 (by kernel_rfl) rfl
          have hnt := HSlt.out.2.1
          have HP := Lib.hid (wput_new w.heap.size b (declsS d (T.kids.take k)) (declsS d (T.kids.take k) ++ [102, 97, 99, 116, 32]) 1 [⟨#[102, 97, 99, 116, 32]⟩] W2 HS2.out.is HSz.out rfl (by omega) rfl (by have := HL2.out; simp only [List.length_append, List.length_cons, List.length_nil]; omega))
          have HList := Lib.hid (fun W lz (hW : IsW w.heap.size b lz W) (hb : Below w.heap.size W1 W) (hs : w.heap.size ≤ W.heap.size) (hl' : (lz ++ listS txL t).length ≤ 140737488355328) => wlist_any hent (wfield_any w.heap.size b (d + 1)) t (.agg #[.int .u8 t.kind, .string t.text, .int .i64 t.num, .int .i64 t.place, .slice p' l' c']) lz W (HNd.out W hb) hnt (fun _ _ => trivial) hW hs hl')
          have Hent := Lib.hid hent
          clear h2 hD hll hent hnt
          go_upto_region 7 with fail
          change Code.wp _ _ _ _ (W1.alloc (.cells #[.int .u8 t.kind, .string t.text, .int .i64 t.num, .int .i64 t.place, .slice p' l' c'] 25))
          rw [← hW2]
          clear d0 d1 d2 d3 d4 hW2
          obtain ⟨x0, x1, x2, x3, x4⟩ := cells5 HX.out
          go_wp2_with fail
          refine Calls.mono HP.out ?_
          rintro e W3 ⟨rfl, h3⟩
          have HX3 := Lib.hid (h3.box HS2.out.is HX.out (by decide) (by decide))
          have HC := Lib.hid (HList.out W3 _ h3.is (HB12.out.trans h3.bl) (h3.sz HSz.out) (by have := HL2.out; simp only [List.length_append, List.length_cons, List.length_nil]; omega))
          have H3 := Lib.hid (HS2.out.trans h3)
          clear h3 x0 x1 x2 x3 x4
          obtain ⟨x0, x1, x2, x3, x4⟩ := cells5 HX3.out
          go_wp2_with fail
          refine Calls.mono HC.out ?_
          rintro e W4 ⟨rfl, h4⟩
          have H4 := Lib.hid (H3.out.trans h4)
          clear h4 x0 x1 x2 x3 x4
          have HPZ := Lib.hid (wput_new w.heap.size b (declsS d (T.kids.take k) ++ [102, 97, 99, 116, 32] ++ listS txL t) (declsS d (T.kids.take k) ++ declS d t) 1 [⟨#[59, 10]⟩] W4 H4.out.is (H4.out.sz HB2.out.size) rfl (by omega) (by rw [HD.out]; simp [flatL]) (by rw [HD.out]; have := HL2.out; simp only [List.length_append, List.length_cons, List.length_nil]; omega))
          go_wp2_with fail
          refine Calls.mono HPZ.out ?_
          rintro e W5 ⟨rfl, h5⟩
          have H5 := Lib.hid (HFin.out W5 (H4.out.trans h5))
          clear h5
          go_wp2_with fail
          exact H5.out
      · obtain rfl : k = n := by omega
        have hfull : declsS d (T.kids.take k) = declsS d T.kids := by rw [← HN.out, List.take_length]
        have hW := HW.out
        rw [hfull] at hW
        have HBW := Lib.hid (HB2.out.trans hW.bl)
        have HStr : Hid (Calls Tryz.prog 57 #[.pointer (some ⟨b, 0, none⟩)] W1 fun e w' => e = .returned (.string rs) ∧ Below w.heap.size W1 w') := by
          show Calls _ _ _ _ _
          rw [HH1.out]
          by_cases hz : T.kids = []
          · have hW1 := H0.out (by rw [← HN.out, hz]; rfl)
            have he : declsS d T.kids = [] := by rw [hz]; rfl
            rw [he]
            refine (sstring_none b (.pointer none) W1 (by rw [hW1]; exact HN2.out)).mono ?_
            rintro e w' ⟨rfl, h⟩
            exact ⟨rfl, h.mono (HB2.out.trans hW.bl).size⟩
          · refine sstring_some w.heap.size b _ W1 hW.is ?_
            obtain ⟨x, r, hx⟩ := List.exists_cons_of_ne_nil hz
            rw [hx]
            show ((x :: r).map (declS d)).flatten ≠ []
            have := declS_ne d x
            simp [this]
        clear hfull hW hlt
        go_wp2_with fail
        refine Calls.mono HStr.out ?_
        rintro e W2 ⟨rfl, h2⟩
        have H2 := Lib.hid (HBW.out.trans h2)
        clear h2
        go_wp2_with fail
        go_ret2
        exact ⟨by rw [HH2.out]; rfl, H2.out⟩
end Go.Proofs.YtoekldhdojpceaaGreatDoor
