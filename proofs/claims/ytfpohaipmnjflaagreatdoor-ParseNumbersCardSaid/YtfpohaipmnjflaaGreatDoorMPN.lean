/- Several texts joined, each with its own sentence and conditions ahead of it: WordsP, LawPaNum, LawPaNumB, RowN. -/
import Derived.Test.YtfpohaipmnjflaaGreatDoorMZK
import Derived.Lib.SplitLaws
import Derived.Lib.Join
import Derived.Lib.Repeat
import Derived.Test.YtfpohaipmnjflaaGreatDoorMRK
import Derived.Test.YtfpohaipmnjflaaGreatDoorMLA
import Derived.Test.YtfpohaipmnjflaaGreatDoorMF
import Derived.Test.YtfpohaipmnjflaaGreatDoorMO
import Derived.Shelf.Vars
import Derived.Lay
/- ParseNumbers, plain: the words of its source, and what they are joined to. No condition. -/
namespace Go.Proofs.YtfpohaipmnjflaaGreatDoor
open Go.RowKit

def srcW : ByteArray := ⟨#[102, 97, 99, 116, 32, 104, 105, 118, 101, 32, 40, 32, 97, 32, 44, 32, 98, 32, 41, 32, 59, 32, 102, 97, 99, 116, 32, 110, 111, 110, 101, 32, 40, 32, 41, 32, 59, 32, 114, 117, 108, 101, 32, 114, 32, 115, 97, 108, 105, 101, 110, 99, 101, 32, 45, 32, 55, 32, 123, 32, 104, 105, 118, 101, 32, 40, 32, 63, 120, 32, 44, 32, 95, 32, 41, 32, 59, 32, 110, 111, 116, 32, 104, 105, 118, 101, 32, 40, 32, 45, 32, 53, 32, 44, 32, 39, 114, 101, 100, 32, 41, 32, 59, 32, 110, 111, 116, 32, 110, 111, 110, 101, 32, 40, 32, 41, 32, 59, 32, 116, 101, 115, 116, 32, 63, 120, 32, 60, 32, 51, 32, 97, 110, 100, 32, 110, 111, 116, 32, 40, 32, 49, 32, 61, 32, 63, 120, 32, 41, 32, 111, 114, 32, 45, 32, 63, 120, 32, 42, 32, 50, 32, 43, 32, 49, 32, 33, 61, 32, 52, 32, 45, 32, 39, 97, 32, 59, 32, 61, 62, 32, 97, 115, 115, 101, 114, 116, 32, 104, 105, 118, 101, 32, 40, 32, 63, 120, 32, 43, 32, 49, 32, 44, 32, 39, 98, 32, 41, 32, 59, 32, 97, 115, 115, 101, 114, 116, 32, 110, 111, 110, 101, 32, 40, 32, 41, 32, 59, 32, 114, 101, 116, 114, 97, 99, 116, 32, 48, 32, 59, 32, 115, 97, 121, 32, 49, 32, 44, 32, 39, 98, 32, 44, 32, 63, 120, 32, 62, 61, 32, 50, 32, 59, 32, 104, 97, 108, 116, 32, 59, 32, 125, 32, 114, 117, 108, 101, 32, 113, 32, 123, 32, 61, 62, 32, 125]⟩
def wordsX : List ByteArray := [⟨#[102, 97, 99, 116]⟩, ⟨#[104, 105, 118, 101]⟩, ⟨#[40]⟩, ⟨#[97]⟩, ⟨#[44]⟩, ⟨#[98]⟩, ⟨#[41]⟩, ⟨#[59]⟩, ⟨#[102, 97, 99, 116]⟩, ⟨#[110, 111, 110, 101]⟩, ⟨#[40]⟩, ⟨#[41]⟩, ⟨#[59]⟩, ⟨#[114, 117, 108, 101]⟩, ⟨#[114]⟩, ⟨#[115, 97, 108, 105, 101, 110, 99, 101]⟩, ⟨#[45]⟩, ⟨#[55]⟩, ⟨#[123]⟩, ⟨#[104, 105, 118, 101]⟩, ⟨#[40]⟩, ⟨#[63, 120]⟩, ⟨#[44]⟩, ⟨#[95]⟩, ⟨#[41]⟩, ⟨#[59]⟩, ⟨#[110, 111, 116]⟩, ⟨#[104, 105, 118, 101]⟩, ⟨#[40]⟩, ⟨#[45]⟩, ⟨#[53]⟩, ⟨#[44]⟩, ⟨#[39, 114, 101, 100]⟩, ⟨#[41]⟩, ⟨#[59]⟩, ⟨#[110, 111, 116]⟩, ⟨#[110, 111, 110, 101]⟩, ⟨#[40]⟩, ⟨#[41]⟩, ⟨#[59]⟩, ⟨#[116, 101, 115, 116]⟩, ⟨#[63, 120]⟩, ⟨#[60]⟩, ⟨#[51]⟩, ⟨#[97, 110, 100]⟩, ⟨#[110, 111, 116]⟩, ⟨#[40]⟩, ⟨#[49]⟩, ⟨#[61]⟩, ⟨#[63, 120]⟩, ⟨#[41]⟩, ⟨#[111, 114]⟩, ⟨#[45]⟩, ⟨#[63, 120]⟩, ⟨#[42]⟩, ⟨#[50]⟩, ⟨#[43]⟩, ⟨#[49]⟩, ⟨#[33, 61]⟩, ⟨#[52]⟩, ⟨#[45]⟩, ⟨#[39, 97]⟩, ⟨#[59]⟩, ⟨#[61, 62]⟩, ⟨#[97, 115, 115, 101, 114, 116]⟩, ⟨#[104, 105, 118, 101]⟩, ⟨#[40]⟩, ⟨#[63, 120]⟩, ⟨#[43]⟩, ⟨#[49]⟩, ⟨#[44]⟩, ⟨#[39, 98]⟩, ⟨#[41]⟩, ⟨#[59]⟩, ⟨#[97, 115, 115, 101, 114, 116]⟩, ⟨#[110, 111, 110, 101]⟩, ⟨#[40]⟩, ⟨#[41]⟩, ⟨#[59]⟩, ⟨#[114, 101, 116, 114, 97, 99, 116]⟩, ⟨#[48]⟩, ⟨#[59]⟩, ⟨#[115, 97, 121]⟩, ⟨#[49]⟩, ⟨#[44]⟩, ⟨#[39, 98]⟩, ⟨#[44]⟩, ⟨#[63, 120]⟩, ⟨#[62, 61]⟩, ⟨#[50]⟩, ⟨#[59]⟩, ⟨#[104, 97, 108, 116]⟩, ⟨#[59]⟩, ⟨#[125]⟩, ⟨#[114, 117, 108, 101]⟩, ⟨#[113]⟩, ⟨#[123]⟩, ⟨#[61, 62]⟩, ⟨#[125]⟩]
def oddX : List ByteArray := [⟨#[59]⟩, ⟨#[102, 97, 99, 116]⟩, ⟨#[97]⟩, ⟨#[63, 120]⟩, ⟨#[39, 97]⟩, ⟨#[49]⟩, ⟨#[50, 49, 52, 55, 52, 56, 51, 54, 52, 55]⟩, ⟨#[50, 49, 52, 55, 52, 56, 51, 54, 52, 56]⟩, ⟨#[45]⟩, ⟨#[40]⟩, ⟨#[41]⟩, ⟨#[44]⟩, ⟨#[110, 111, 116]⟩, ⟨#[61, 62]⟩, ⟨#[125]⟩, ⟨#[95]⟩, ⟨#[61]⟩, ⟨#[111, 114]⟩, ⟨#[115, 97, 108, 105, 101, 110, 99, 101]⟩, ⟨#[104, 97, 108, 116]⟩, ⟨#[64]⟩]
set_option maxRecDepth 100000 in
theorem words_count : Lib.countB srcW ⟨#[32]⟩ = 98 := by kernel_rfl
theorem bytes_inj : ∀ l k : List ByteArray, l.map (·.data.toList) = k.map (·.data.toList) → l = k
  | [], [], _ => rfl
  | [], y :: k, h => by simp at h
  | x :: l, [], h => by simp at h
  | x :: l, y :: k, h => by
    simp only [List.map_cons, List.cons.injEq] at h
    rw [bytes_inj l k h.2]
    congr 1
    exact ByteArray.ext (Array.toList_inj.1 h.1)
set_option maxRecDepth 100000 in
theorem words_splitK : Lib.splitK [32] 0 98 srcW.data.toList = wordsX.map (·.data.toList) := by kernel_rfl
theorem words_split : Lib.splitB ⟨#[32]⟩ 0 98 srcW = wordsX := bytes_inj _ _ ((Lib.splitB_data ⟨#[32]⟩ 0 98 srcW).trans words_splitK)
theorem words_length : wordsX.length = 99 := by kernel_rfl
theorem odd_length : oddX.length = 21 := by kernel_rfl
/-- words, joined by blanks -/
def jn (xs : List ByteArray) : ByteArray := ⟨(Lib.join (xs.map (·.data.toList)) [32]).toArray⟩
theorem jn_size (xs : List ByteArray) : (jn xs).size = (Lib.join (xs.map (·.data.toList)) [32]).length := by
  show (Lib.join (xs.map (·.data.toList)) [32]).toArray.size = _
  rw [List.size_toArray]
set_option maxRecDepth 100000 in
theorem jn_all : ((List.range 100).all fun i => decide ((Lib.join ((wordsX.take i).map (·.data.toList)) [32]).length ≤ 300) && decide ((Lib.join ((wordsX.drop i).map (·.data.toList)) [32]).length ≤ 300)) = true := by kernel_rfl
theorem jn_take (i : Nat) (h : i ≤ 99) : (jn (wordsX.take i)).size ≤ 300 := by
  have := List.all_eq_true.1 jn_all i (List.mem_range.2 (by omega))
  simp only [Bool.and_eq_true, decide_eq_true_eq] at this
  rw [jn_size]; exact this.1
theorem jn_drop (i : Nat) (h : i ≤ 99) : (jn (wordsX.drop i)).size ≤ 300 := by
  have := List.all_eq_true.1 jn_all i (List.mem_range.2 (by omega))
  simp only [Bool.and_eq_true, decide_eq_true_eq] at this
  rw [jn_size]; exact this.2
set_option maxRecDepth 100000 in
theorem odd_all : (oddX.all fun x => decide (x.size ≤ 20)) = true := by kernel_rfl
theorem odd_size (k : Nat) (x : ByteArray) (h : oddX[k]? = some x) : x.size ≤ 20 := by
  simpa using List.all_eq_true.1 odd_all x (List.mem_of_getElem? h)
set_option maxRecDepth 100000 in
theorem words_prog : (progM (jn wordsX)).2.1 = 0 := by kernel_rfl
def rep (s : ByteArray) (c : Nat) : ByteArray := ⟨(Lib.repeatL s.data.toList c).toArray⟩
theorem rep_size (s : ByteArray) (c : Nat) : (rep s c).size = c * s.size := by
  show (Lib.repeatL s.data.toList c).toArray.size = _
  rw [List.size_toArray, Lib.repeatL_length]
  simp
end Go.Proofs.YtfpohaipmnjflaaGreatDoor
/- ParseNumbers, the law's walk: it answers true. Condition: the library's tables lie as laid, internal/bytealg.MaxLen holds an int. -/
namespace Go.Proofs.YtfpohaipmnjflaaGreatDoor
open Go.RowKit

theorem size_str (W : World) : (sizeOf (Tryz.prog.elem 38)).run Tryz.prog W = .ok 1 W := by kernel_rfl
theorem sl_to (g n k : Nat) (h : k ≤ n) (W : World) : (Instr.slice 38 (.slice (some ⟨g, 0, none⟩) n n) none (some (.int .i64 (k : Int))) none).run Tryz.prog W = .ok (.slice (some ⟨g, 0, none⟩) k n) W := by
  rw [run_slice_h W 38 (some ⟨g, 0, none⟩) n n (by kernel_rfl) .i64 k (by omega) (by omega), size_str]
  show Result.ok (sliced _ _ _ _ _) W = _
  unfold sliced
  rw [Int.toNat_natCast]
  by_cases h0 : n = 0
  · subst h0; rfl
  · rw [if_neg h0]
    simp [Addr.add]
theorem sl_from (g n k : Nat) (h : k ≤ n) : ∃ o : Nat, (k < n → o = k) ∧ ∀ W, (Instr.slice 38 (.slice (some ⟨g, 0, none⟩) n n) (some (.int .i64 (k : Int))) none none).run Tryz.prog W = .ok (.slice (some ⟨g, o, none⟩) (n - k) (n - k)) W := by
  refine ⟨if n = k then 0 else k, fun h => by rw [if_neg (by omega)], fun W => ?_⟩
  rw [run_slice_l W 38 (some ⟨g, 0, none⟩) n n (by kernel_rfl) .i64 k (by omega) (by omega), size_str]
  show Result.ok (sliced _ _ _ _ _) W = _
  unfold sliced
  rw [Int.toNat_natCast]
  by_cases hc : n = k
  · rw [if_pos hc, if_pos hc]
  · rw [if_neg hc, if_neg hc]
    simp only [Option.map_some, Addr.add]
    by_cases h0 : k * 1 = 0
    · have : k = 0 := by omega
      subst this; rfl
    · rw [if_neg h0, Nat.mul_one, Nat.zero_add]
/-- a part of a row, joined -/
theorem join_at {W : World} {g o n c : Nat} {xs ys : List ByteArray} (h : RowS W g xs) (hn : ys.length = n) (hc : n ≤ c) (hy : ∀ j x, ys[j]? = some x → xs[o + j]? = some x) (h99 : n ≤ 99) (hz : (jn ys).size ≤ 300) :
    Calls Tryz.prog 20 #[.slice (some ⟨g, o, none⟩) n c, .string ⟨#[32]⟩] W fun e w' => e = .returned (.string (jn ys)) ∧ Below W.heap.size W w' := by
  subst hn
  rw [jn_size] at hz
  exact Tryz.strings_Join g o c ys ⟨#[32]⟩ W (fun j x hx => h.cell _ _ (hy j x hx)) h.lt (by omega) hc (Nat.le_trans hz (by decide))
theorem rep_any (s : ByteArray) (c : Nat) (hs : s.size ≤ 12) (hc : c ≤ 20000) (W : World) : Calls Tryz.prog 22 #[.string s, .int .i64 (c : Int)] W fun e w' => e = .returned (.string (rep s c)) ∧ Below W.heap.size W w' := by
  refine Tryz.strings_Repeat s c W (by omega) ?_
  have := Nat.mul_le_mul hs hc
  omega
set_option maxRecDepth 100000 in
theorem words6_any (m : Int) (w : World) (hm : w.cell? ⟨0, 0, none⟩ = some (.int .i64 m)) :
    Calls Tryz.prog 18 #[] w fun e w' => ∃ g, e = .returned (.slice (some ⟨g, 0, none⟩) 99 99) ∧ Below w.heap.size w w' ∧ RowS w' g wordsX := by
  have hS := Tryz.strings_Split srcW ⟨#[32]⟩ m w (of_decide_eq_true (by kernel_rfl)) hm (by decide)
  rw [words_count, words_split] at hS
  have HS := Lib.hid hS
  clear hS
  go_enter Tryz.func18, Tryz.ntmps18
  go_wp2_with fail
  refine Calls.mono HS.out ?_
  rintro e w1 ⟨rfl, rfl⟩
  have HB : Hid (Below w.heap.size w (w.alloc (.cells (wordsX.map Value.string).toArray 9))) := (Below.refl _ w).alloc (Nat.le_refl _) _
  have HR : Hid (RowS (w.alloc (.cells (wordsX.map Value.string).toArray 9)) w.heap.size wordsX) := heap_alloc_new w _
  generalize w.alloc (.cells (wordsX.map Value.string).toArray 9) = w1 at *
  go_wp2_with fail
  go_ret
  exact ⟨_, rfl, HB.out, HR.out⟩
/-- so far in the loops over the words -/
def PnRel (w : World) (g o n : Nat) (i : Value) (W : World) : Prop := ∃ k : Nat, k ≤ n ∧ i = .int .i64 (k : Int) ∧ Below w.heap.size w W ∧ RowS W g wordsX ∧ RowS W o oddX
/-- so far in a loop over numbers -/
def NnRel (w : World) (a n : Nat) (i : Value) (W : World) : Prop := ∃ k : Nat, a ≤ k ∧ k ≤ n ∧ i = .int .i64 (k : Int) ∧ Below w.heap.size w W
end Go.Proofs.YtfpohaipmnjflaaGreatDoor
/- ParseNumbers, the law's walk: it answers true. Condition: the library's tables lie as laid, internal/bytealg.MaxLen holds an int. -/
namespace Go.Proofs.YtfpohaipmnjflaaGreatDoor
open Go.RowKit

set_option maxRecDepth 100000 in
set_option maxHeartbeats 40000000 in
theorem law_parseNumbers (m : Int) (w : World) (ht : AsciiTab w) (hm : w.cell? ⟨0, 0, none⟩ = some (.int .i64 m)) : Calls Tryz.prog 4 #[] w (BoolPost true w) := by
  have HSm := Lib.hid (fun (s : ByteArray) W (hW : Below w.heap.size w W) => same6_any s W (ht.below hW))
  have HA := Lib.hid (fun W (hW : Below w.heap.size w W) => awake6_any W (ht.below hW))
  have HPr := Lib.hid (fun W (hW : Below w.heap.size w W) => program_any (jn wordsX) W (ht.below hW))
  have HWd := Lib.hid (words6_any m w hm)
  obtain ⟨T, hT⟩ : ∃ x, (progM (jn wordsX)).1 = x := ⟨_, rfl⟩
  obtain ⟨pl, hpl⟩ : ∃ x, (progM (jn wordsX)).2.2 = x := ⟨_, rfl⟩
  have HT1 := Lib.hid hT
  have HPl := Lib.hid hpl
  have HEr := Lib.hid words_prog
  clear ht hm hT hpl
  go_enter Tryz.func4, Tryz.ntmps4
  go_wp2_with fail
  refine Calls.mono HWd.out ?_
  rintro e w1 ⟨g, rfl, hb1, hr1⟩
  have HJ := Lib.hid (join_at (o := 0) (c := 99) (ys := wordsX) hr1 words_length (Nat.le_refl _) (fun j x hx => by rw [Nat.zero_add]; exact hx) (by omega) (by have := jn_drop 0 (by omega); rwa [List.drop_zero] at this))
  have HB1 := Lib.hid hb1
  have HR1 := Lib.hid hr1
  clear hb1 hr1
  go_wp2_with fail
  refine Calls.mono HJ.out ?_
  rintro e w2 ⟨rfl, hb2⟩
  have HB2 := Lib.hid (HB1.out.trans (hb2.mono HB1.out.size))
  have HR2 := Lib.hid (HR1.out.below hb2)
  clear hb2 HJ
  go_wp2_with fail
  refine Calls.mono (HPr.out w2 HB2.out) ?_
  rintro e w3 ⟨sl, rfl, hb3, hoo, hf, _, _⟩
  rw [HT1.out] at hoo hf ⊢
  rw [HEr.out, HPl.out]
  obtain ⟨p, c, rfl⟩ := hoo.shape
  obtain ⟨w4, hw4, hb34, hb4, X0, X1, hl4⟩ := boxes6 T (.slice p T.kids.length c) 0 pl (HB2.out.trans (hb3.mono HB2.out.size))
  have HB4 := Lib.hid hb4
  have HR4 := Lib.hid ((HR2.out.below hb3).below hb34)
  have HX1 := Lib.hid X1
  clear hb3 hoo hf hb34 hb4 X0 X1 hl4
  go_upto_region 3 with fail
  change Code.wp _ _ _ _ ((w3.alloc (.cells #[.int .u8 T.kind, .string T.text, .int .i64 T.num, .int .i64 T.place, .slice p T.kids.length c] 25)).alloc (.cells #[.int .i64 0, .int .i64 pl] 42))
  rw [← hw4]
  clear hw4
  obtain ⟨c0, c1, _⟩ := cells2p HX1.out
  go_wp2_with fail
  clear c0 c1
  go_loopw [5] (PnRel w g w4.heap.size 99) (fun i _ => 99 - (intOf i).toNat)
  case atStart => exact ⟨0, Nat.zero_le _, rfl, HB4.out.alloc HB4.out.size _, HR4.out.below ((Below.refl _ w4).alloc (Nat.le_refl _) _), heap_alloc_new w4 _⟩
  case round =>
    obtain ⟨k, hk, rfl, hb, hr, ho⟩ := hrel
    have hk0 : (0 : Int) ≤ k := by omega
    have HB := Lib.hid hb
    have HR := Lib.hid hr
    have HO := Lib.hid ho
    clear hb hr ho
    by_cases hlt : k < 99
    · have hlt1 : (k : Int) < 99 := by omega
      obtain ⟨oA, hoA, hsA⟩ := sl_from g 99 (k + 1) (by omega)
      obtain ⟨oD, hoD, hsD⟩ := sl_from g 99 k (by omega)
      obtain rfl : oD = k := hoD (by omega)
      have hs0 := sl_to g 99 oD (by omega)
      have hs1 : ∀ W, (Instr.slice 38 (.slice (some ⟨g, 0, none⟩) 99 99) (some (.int .i64 ((oD : Int) + 1))) none none).run Tryz.prog W = .ok (.slice (some ⟨g, oA, none⟩) (99 - (oD + 1)) (99 - (oD + 1))) W := hsA
      obtain ⟨n1, hn1⟩ : ∃ n, 99 - (oD + 1) = n := ⟨_, rfl⟩
      obtain ⟨n0, hn0⟩ : ∃ n, 99 - oD = n := ⟨_, rfl⟩
      rw [hn1] at hs1
      rw [hn0] at hsD
      clear hsA hoD
      have HJ1 := Lib.hid (fun W (hW : RowS W g wordsX) => join_at (o := 0) (c := 99) (n := oD) (ys := wordsX.take oD) hW (by rw [List.length_take, words_length]; omega) (by omega) (fun j x hx => by
        rw [Nat.zero_add]
        rw [List.getElem?_take] at hx
        split at hx
        · exact hx
        · cases hx) (by omega) (jn_take oD (by omega)))
      have HJ2 := Lib.hid (fun W (hW : RowS W g wordsX) => join_at (o := oA) (c := n1) (n := n1) (ys := wordsX.drop (oD + 1)) hW (by rw [List.length_drop, words_length]; omega) (Nat.le_refl _) (fun j x hx => by
        have hlt := (List.getElem?_eq_some_iff.1 hx).1
        rw [List.length_drop, words_length] at hlt
        rw [hoA (by omega)]
        rw [List.getElem?_drop] at hx
        exact hx) (by omega) (jn_drop _ (by omega)))
      have HJ3 := Lib.hid (fun W (hW : RowS W g wordsX) => join_at (o := oD) (c := n0) (n := n0) (ys := wordsX.drop oD) hW (by rw [List.length_drop, words_length]; omega) (Nat.le_refl _) (fun j x hx => by
        rw [List.getElem?_drop] at hx
        exact hx) (by omega) (jn_drop _ (by omega)))
      have hA := jn_take oD (by omega)
      have hD1 := jn_drop (oD + 1) (by omega)
      have hD0 := jn_drop oD (by omega)
      obtain ⟨A, hAe⟩ : ∃ A, jn (wordsX.take oD) = A := ⟨_, rfl⟩
      obtain ⟨D1, hD1e⟩ : ∃ A, jn (wordsX.drop (oD + 1)) = A := ⟨_, rfl⟩
      obtain ⟨D0, hD0e⟩ : ∃ A, jn (wordsX.drop oD) = A := ⟨_, rfl⟩
      rw [hAe] at hA HJ1
      rw [hD1e] at hD1 HJ2
      rw [hD0e] at hD0 HJ3
      have hA1 : (A ++ ⟨#[32]⟩ : ByteArray).size ≤ 301 := by rw [ByteArray.size_append]; show A.size + 1 ≤ _; omega
      clear hn1 hn0 hoA hAe hD1e hD0e
      have HC1 := Lib.hid (fun x : Wb wr => HJ1.out x.1 (HR.out.below x.2))
      have HC2 := Lib.hid (fun x : Wb wr => HJ2.out x.1 (HR.out.below x.2))
      have HCs := Lib.hid (fun (s : ByteArray) (x : Wb wr) => HSm.out s x.1 (HB.out.trans (x.2.mono HB.out.size)))
      clear HJ2
      go_wp2_with fail
      refine wp_region_below (by kernel_rfl) (by kernel_rfl) ?_
      repeat (go_big_quiet_step (fail))
      go_big_quiet_step ((go_at_call 20; exact Calls.below_of (HC1.out _)))
      repeat (go_big_quiet_step (fail))
      go_big_quiet_step ((go_at_call 21; exact Calls.below_of (HCs.out _ _)))
      repeat (go_big_quiet_step (fail))
      go_big_quiet_step ((go_at_call 20; exact Calls.below_of (HC1.out _)))
      repeat (go_big_quiet_step (fail))
      go_big_quiet_step ((go_at_call 20; exact Calls.below_of (HC2.out _)))
      repeat (go_big_quiet_step (fail))
      go_big_quiet_step ((go_at_call 21; exact Calls.below_of (HCs.out _ _)))
      repeat (go_big_quiet_step (fail))
      refine wpQuiet_nil ?_
      intro W2 hw'
      have hb2 := wb_below hw'
      have HB2' := Lib.hid (HB.out.trans (hb2.mono HB.out.size))
      have HR2' := Lib.hid (HR.out.below hb2)
      have HO2' := Lib.hid (HO.out.below hb2)
      clear hw' hb2 HC1 HC2 HCs
      go_wp2_with fail
      go_loopw [6] (PnRel w g w4.heap.size 21) (fun i _ => 21 - (intOf i).toNat)
      case atStart => exact ⟨0, Nat.zero_le _, rfl, HB2'.out, HR2'.out, HO2'.out⟩
      case round =>
        obtain ⟨j, hj, rfl, hb, hr, ho⟩ := hrel
        have hj0 : (0 : Int) ≤ j := by omega
        have HBj := Lib.hid hb
        have HRj := Lib.hid hr
        have HOj := Lib.hid ho
        clear hb hr ho
        by_cases hjl : j < 21
        · have hj1 : (j : Int) < 21 := by omega
          obtain ⟨u, hu⟩ : ∃ u, oddX[j]? = some u := ⟨_, List.getElem?_eq_getElem (by rw [odd_length]; exact hjl)⟩
          have hus := odd_size j u hu
          have hA2 : (A ++ ⟨#[32]⟩ ++ u : ByteArray).size ≤ 321 := by rw [ByteArray.size_append]; omega
          have hA3 : (A ++ ⟨#[32]⟩ ++ u ++ ⟨#[32]⟩ : ByteArray).size ≤ 322 := by rw [ByteArray.size_append]; show (A ++ ⟨#[32]⟩ ++ u : ByteArray).size + 1 ≤ _; omega
          have C := fun x : Wb wr => x.cell (HOj.out.cell j u hu)
          have HC1 := Lib.hid (fun x : Wb wr => HJ1.out x.1 (HRj.out.below x.2))
          have HC3 := Lib.hid (fun x : Wb wr => HJ3.out x.1 (HRj.out.below x.2))
          have HCs := Lib.hid (fun (s : ByteArray) (x : Wb wr) => HSm.out s x.1 (HBj.out.trans (x.2.mono HBj.out.size)))
          clear hu
          go_wp2_with fail
          refine wp_region_below (by kernel_rfl) (by kernel_rfl) ?_
          repeat (go_big_quiet_step (fail))
          go_big_quiet_step ((go_at_call 20; exact Calls.below_of (HC1.out _)))
          repeat (go_big_quiet_step (fail))
          go_big_quiet_step ((go_at_call 20; exact Calls.below_of (HC3.out _)))
          repeat (go_big_quiet_step (fail))
          go_big_quiet_step ((go_at_call 21; exact Calls.below_of (HCs.out _ _)))
          repeat (go_big_quiet_step (fail))
          refine wpQuiet_nil ?_
          intro W3 hw'
          have hb3 := wb_below hw'
          have HB3' := Lib.hid (HBj.out.trans (hb3.mono HBj.out.size))
          have HR3' := Lib.hid (HRj.out.below hb3)
          have HO3' := Lib.hid (HOj.out.below hb3)
          clear hw' hb3 HC1 HC3 HCs C
          go_wp2_with fail
          exact ⟨⟨j + 1, by omega, by go_num, HB3'.out, HR3'.out, HO3'.out⟩, by simp [intOf]; omega⟩
        · obtain rfl : j = 21 := by omega
          go_wp2_with fail
          exact ⟨⟨oD + 1, by omega, by go_num, HBj.out, HRj.out, HOj.out⟩, by simp [intOf]; omega⟩
    · have hk9 : ¬ ((k : Int) < 99) := by omega
      have HB9 := Lib.hid HB.out
      clear HR HO
      go_wp2_with fail
      go_loopw [7] (NnRel w 24 34) (fun i _ => 34 - (intOf i).toNat)
      case atStart => exact ⟨24, Nat.le_refl _, by omega, rfl, HB9.out⟩
      case round =>
        obtain ⟨k, hk1, hk2, rfl, hb⟩ := hrel
        have hk0 : (0 : Int) ≤ k := by omega
        have HBk := Lib.hid hb
        clear hb
        by_cases hkl : k < 34
        · have hkl1 : (k : Int) < 34 := by omega
          have hnot := Lib.hid (fun W => rep_any ⟨#[110, 111, 116, 32]⟩ k (by decide) (by omega) W)
          have hone := Lib.hid (fun W => rep_any ⟨#[49, 32, 43, 32]⟩ k (by decide) (by omega) W)
          have hop : Hid (∀ W, Calls Tryz.prog 22 #[.string ⟨#[40]⟩, .int .i64 (90 * (k : Int))] W fun e w' => e = .returned (.string (rep ⟨#[40]⟩ (90 * k))) ∧ Below W.heap.size W w') := fun W => rep_any ⟨#[40]⟩ (90 * k) (by decide) (by omega) W
          have hcl : Hid (∀ W, Calls Tryz.prog 22 #[.string ⟨#[41]⟩, .int .i64 (90 * (k : Int))] W fun e w' => e = .returned (.string (rep ⟨#[41]⟩ (90 * k))) ∧ Below W.heap.size W w') := fun W => rep_any ⟨#[41]⟩ (90 * k) (by decide) (by omega) W
          have z1 : (rep ⟨#[110, 111, 116, 32]⟩ k).size ≤ 136 := by rw [rep_size]; show k * 4 ≤ _; omega
          have z2 : (rep ⟨#[49, 32, 43, 32]⟩ k).size ≤ 136 := by rw [rep_size]; show k * 4 ≤ _; omega
          have z3 : (rep ⟨#[40]⟩ (90 * k)).size ≤ 3060 := by rw [rep_size]; show 90 * k * 1 ≤ _; omega
          have z4 : (rep ⟨#[41]⟩ (90 * k)).size ≤ 3060 := by rw [rep_size]; show 90 * k * 1 ≤ _; omega
          generalize rep ⟨#[110, 111, 116, 32]⟩ k = r1 at *
          generalize rep ⟨#[49, 32, 43, 32]⟩ k = r2 at *
          generalize rep ⟨#[40]⟩ (90 * k) = r3 at *
          generalize rep ⟨#[41]⟩ (90 * k) = r4 at *
          have y1 : ((⟨#[114, 117, 108, 101, 32, 114, 32, 123, 32, 116, 101, 115, 116, 32]⟩ : ByteArray) ++ r1).size ≤ 200 := by rw [ByteArray.size_append]; show 14 + r1.size ≤ _; omega
          have y2 : ((⟨#[114, 117, 108, 101, 32, 114, 32, 123, 32, 116, 101, 115, 116, 32]⟩ : ByteArray) ++ r3).size ≤ 3100 := by rw [ByteArray.size_append]; show 14 + r3.size ≤ _; omega
          have y3 : ((⟨#[114, 117, 108, 101, 32, 114, 32, 123, 32, 116, 101, 115, 116, 32]⟩ : ByteArray) ++ r3 ++ ⟨#[49]⟩).size ≤ 3101 := by rw [ByteArray.size_append]; show _ + 1 ≤ _; omega
          have y4 : ((⟨#[114, 117, 108, 101, 32, 114, 32, 123, 32, 116, 101, 115, 116, 32]⟩ : ByteArray) ++ r3 ++ ⟨#[49]⟩ ++ r4).size ≤ 6200 := by rw [ByteArray.size_append]; omega
          have y5 : ((⟨#[114, 117, 108, 101, 32, 114, 32, 123, 32, 116, 101, 115, 116, 32, 49, 59, 32, 61, 62, 32, 115, 97, 121, 32, 50, 44, 32]⟩ : ByteArray) ++ r2).size ≤ 200 := by rw [ByteArray.size_append]; show 27 + r2.size ≤ _; omega
          go_wp2_with fail
          refine Calls.mono (hnot.out wr) ?_
          rintro e x1 ⟨rfl, hbx1⟩
          have HBx1 := Lib.hid (HBk.out.trans (hbx1.mono HBk.out.size))
          clear hbx1
          go_wp2_with fail
          refine Calls.mono (HSm.out _ x1 HBx1.out) ?_
          rintro e x2 ⟨rfl, hbx2⟩
          have HBx2 := Lib.hid (HBx1.out.trans (hbx2.mono HBx1.out.size))
          clear hbx2
          go_wp2_with fail
          refine Calls.mono (hop.out x2) ?_
          rintro e x3 ⟨rfl, hbx3⟩
          have HBx3 := Lib.hid (HBx2.out.trans (hbx3.mono HBx2.out.size))
          clear hbx3
          go_wp2_with fail
          refine Calls.mono (hcl.out x3) ?_
          rintro e x4 ⟨rfl, hbx4⟩
          have HBx4 := Lib.hid (HBx3.out.trans (hbx4.mono HBx3.out.size))
          clear hbx4
          go_wp2_with fail
          refine Calls.mono (HSm.out _ x4 HBx4.out) ?_
          rintro e x5 ⟨rfl, hbx5⟩
          have HBx5 := Lib.hid (HBx4.out.trans (hbx5.mono HBx4.out.size))
          clear hbx5
          go_wp2_with fail
          refine Calls.mono (hone.out x5) ?_
          rintro e x6 ⟨rfl, hbx6⟩
          have HBx6 := Lib.hid (HBx5.out.trans (hbx6.mono HBx5.out.size))
          clear hbx6
          go_wp2_with fail
          refine Calls.mono (HSm.out _ x6 HBx6.out) ?_
          rintro e x7 ⟨rfl, hbx7⟩
          have HBx7 := Lib.hid (HBx6.out.trans (hbx7.mono HBx6.out.size))
          clear hbx7
          have HB3' := HBx7
          go_wp2_with fail
          exact ⟨⟨k + 1, by omega, by omega, by go_num, HB3'.out⟩, by simp [intOf]; omega⟩
        · have hk9' : ¬ ((k : Int) < 34) := by omega
          go_wp2_with fail
          go_loopw [8] (NnRel w 1363 1367) (fun i _ => 1367 - (intOf i).toNat)
          case atStart => exact ⟨1363, Nat.le_refl _, by omega, rfl, HBk.out⟩
          case round =>
            obtain ⟨k, hk1, hk2, rfl, hb⟩ := hrel
            have hk0 : (0 : Int) ≤ k := by omega
            have HBk := Lib.hid hb
            clear hb
            by_cases hkl : k < 1367
            · have hkl1 : (k : Int) < 1367 := by omega
              have hfa := Lib.hid (fun W => rep_any ⟨#[102, 97, 99, 116, 32, 97, 40, 98, 44, 99, 41, 59]⟩ k (by decide) (by omega) W)
              have z1 : (rep ⟨#[102, 97, 99, 116, 32, 97, 40, 98, 44, 99, 41, 59]⟩ k).size ≤ 17000 := by rw [rep_size]; show k * 12 ≤ _; omega
              generalize rep ⟨#[102, 97, 99, 116, 32, 97, 40, 98, 44, 99, 41, 59]⟩ k = r1 at *
              go_wp2_with fail
              refine Calls.mono (hfa.out wr) ?_
              rintro e x1 ⟨rfl, hbx1⟩
              have HBx1 := Lib.hid (HBk.out.trans (hbx1.mono HBk.out.size))
              clear hbx1
              go_wp2_with fail
              refine Calls.mono (HSm.out _ x1 HBx1.out) ?_
              rintro e x2 ⟨rfl, hbx2⟩
              have HBx2 := Lib.hid (HBx1.out.trans (hbx2.mono HBx1.out.size))
              clear hbx2
              go_wp2_with fail
              refine Calls.mono (hfa.out x2) ?_
              rintro e x3 ⟨rfl, hbx3⟩
              have HBx3 := Lib.hid (HBx2.out.trans (hbx3.mono HBx2.out.size))
              clear hbx3
              go_wp2_with fail
              refine Calls.mono (HSm.out _ x3 HBx3.out) ?_
              rintro e x4 ⟨rfl, hbx4⟩
              have HBx4 := Lib.hid (HBx3.out.trans (hbx4.mono HBx3.out.size))
              clear hbx4
              go_wp2_with fail
              refine Calls.mono (hfa.out x4) ?_
              rintro e x5 ⟨rfl, hbx5⟩
              have HBx5 := Lib.hid (HBx4.out.trans (hbx5.mono HBx4.out.size))
              clear hbx5
              go_wp2_with fail
              refine Calls.mono (HSm.out _ x5 HBx5.out) ?_
              rintro e x6 ⟨rfl, hbx6⟩
              have HBx6 := Lib.hid (HBx5.out.trans (hbx6.mono HBx5.out.size))
              clear hbx6
              have HB3' := HBx6
              go_wp2_with fail
              exact ⟨⟨k + 1, by omega, by omega, by go_num, HB3'.out⟩, by simp [intOf]; omega⟩
            · obtain rfl : k = 1367 := by omega
              have h14 := Lib.hid (fun W => rep_any ⟨#[32]⟩ 16384 (by decide) (by omega) W)
              have h15 := Lib.hid (fun W => rep_any ⟨#[32]⟩ 16385 (by decide) (by omega) W)
              generalize rep ⟨#[32]⟩ 16384 = r1 at *
              generalize rep ⟨#[32]⟩ 16385 = r2 at *
              go_wp2_with fail
              refine Calls.mono (HSm.out _ wr HBk.out) ?_
              rintro e x1 ⟨rfl, hbx1⟩
              have HBx1 := Lib.hid (HBk.out.trans (hbx1.mono HBk.out.size))
              clear hbx1
              go_wp2_with fail
              refine Calls.mono (h14.out x1) ?_
              rintro e x2 ⟨rfl, hbx2⟩
              have HBx2 := Lib.hid (HBx1.out.trans (hbx2.mono HBx1.out.size))
              clear hbx2
              go_wp2_with fail
              refine Calls.mono (HSm.out _ x2 HBx2.out) ?_
              rintro e x3 ⟨rfl, hbx3⟩
              have HBx3 := Lib.hid (HBx2.out.trans (hbx3.mono HBx2.out.size))
              clear hbx3
              go_wp2_with fail
              refine Calls.mono (h15.out x3) ?_
              rintro e x4 ⟨rfl, hbx4⟩
              have HBx4 := Lib.hid (HBx3.out.trans (hbx4.mono HBx3.out.size))
              clear hbx4
              go_wp2_with fail
              refine Calls.mono (HSm.out _ x4 HBx4.out) ?_
              rintro e x5 ⟨rfl, hbx5⟩
              have HBx5 := Lib.hid (HBx4.out.trans (hbx5.mono HBx4.out.size))
              clear hbx5
              go_wp2_with fail
              refine Calls.mono (HA.out x5 HBx5.out) ?_
              rintro e x6 ⟨rfl, hbx6⟩
              have HBx6 := Lib.hid (HBx5.out.trans (hbx6.mono HBx5.out.size))
              clear hbx6
              have HB3' := HBx6
              go_wp2_with fail
              go_ret
              exact ⟨rfl, HB3'.out⟩
end Go.Proofs.YtfpohaipmnjflaaGreatDoor
/- The rows' frame where unicode/utf8's tables are listed, too, and the world's shape is asked. No condition. -/
namespace Go.Proofs.YtfpohaipmnjflaaGreatDoor
open Go.ChangeShapes Go.WideShapes Go.ChangeAt Go.RowKit

/-- what ParseNumbers' row lists -/
noncomputable def laidLN : List (String × DataW Unit) := [("unicode/utf8.acceptRanges", Rows.laid_unicode_utf8_acceptRanges), ("io.EOF", Rows.laid_io_EOF), ("unicode.White_Space", Rows.laid_unicode_White_Space), ("strings.asciiSpace", Rows.laid_strings_asciiSpace), ("unicode/utf8.first", Rows.laid_unicode_utf8_first)]
theorem ascii_of_laidN {w : World} (h : laidMetH Tryz.prog laidLN w) : AsciiTab w := by
  have h1 : laidMetH Tryz.prog [("strings.asciiSpace", Lib.tabData .u8 Lib.asciiSpaceTab)] w := by
    have h2 := h.filter (fun x => x.1 == "strings.asciiSpace")
    have e : laidLN.filter (fun x => x.1 == "strings.asciiSpace") = [("strings.asciiSpace", Lib.tabData .u8 Lib.asciiSpaceTab)] := by kernel_rfl
    rw [e] at h2
    exact h2
  rw [MakeChecks.laidMetH_plain _ _ _ (by kernel_rfl)] at h1
  have ht : Lib.TabIs Tryz.prog w "strings.asciiSpace" .u8 Lib.asciiSpaceTab := Lib.tabIs_of_head gAscii (t := 166) (by kernel_rfl) Tryz.underlying166 Tryz.underlying5 (by kernel_rfl) (by kernel_rfl) h1
  intro c hc
  have := ht.cell gAscii c (by rw [Lib.asciiSpaceTab_length]; exact hc)
  rw [Lib.asciiSpaceTab_at c hc] at this
  exact this
/-- A world in which the listed variables are laid meets the condition. -/
theorem laid_metN (os : Os) (args : Array Value) : laidMetH Tryz.prog laidLN ((World.laidAll Tryz.prog os laidLN).forCall (fun _ _ => 0) ⟨#[], args, []⟩).memory := by
  rw [MakeChecks.laidMetH_plain _ _ _ (by kernel_rfl)]
  exact laidMet_laidAll _ (by kernel_rfl) (by kernel_rfl)
theorem laid_shapeN (os : Os) (args : Array Value) : ((World.laidAll Tryz.prog os laidLN).forCall (fun _ _ => 0) ⟨#[], args, []⟩).Shaped Tryz.prog := World.shaped_of_ZipB (by kernel_rfl) (by kernel_rfl)
section
variable {H : Type} {enc : TypeId × Value → H}
/-- the wrap with a condition of its own and the world's shape -/
theorem change_and_shaped {a : Assume} {C : Checked} {os : Os} {f : FuncId} {fn : Func} {s : ChangeSpec} {conds : List PathCond} {apart fresh handsOn again : Bool} {X : World → Array Value → Prop}
    (hX : ∀ (w w' : World) (args : Array Value), w.heap = w'.heap → X w args → X w' args)
    (own : ownKnob C.prog.godebug = none) (started : os.Started) (noInit : C.prog.inits.idxOf? f = none) (hfn : C.prog.funcs[f]? = some fn)
    (witness : ∃ (w : World) (tape : Tape) (i : Input), w.os = os ∧ (w.forCall tape i).Shaped C.prog ∧ i.vars = [] ∧ Input.okWide C.prog (w.forCall tape i) .any w.heap.size f i ∧
      ((s.pre enc C.prog fn conds apart (w.forCall tape i).memory i.args ∧ X (w.forCall tape i).memory i.args) ∧ sizedMet enc C.prog fn (OpenSpec.ofChange s) apart (w.forCall tape i).memory i.args) ∧ a.holds C.prog (lone (Frame.enter C.prog f i.args .normal) [] (w.forCall tape i)))
    (contract : ∀ (W : World) (base : Nat) (args : Array Value) (ds gs : List (DataW H)) (before : List MemPlace),
      (∀ (j : Nat) t v, fn.params[j]? = some t → args[j]? = some v → Value.okWide C.prog W .any base t v) →
      DataW.Whole enc C.prog fn.params.toList s.vars apart W args.toList ds gs before →
      conds.all (PathCond.test C.prog ⟨fn.params.toList, ds, s.plain.varTypes C.prog, gs⟩) = true →
      (DataW.weightsEach C.prog (fn.params.toList ++ s.plain.varTypes C.prog) (ds ++ gs)).all (· ≤ reachBytes) = true → X W args → W.ShapedOpen C.prog →
      a.holds C.prog (lone (Frame.enter C.prog f args .normal) [] W) →
      Calls C.prog f args W fun e W' => ∃ v, e = .returned v ∧ s.post enc C.prog fn apart fresh handsOn again W args v W') :
    ReturnsInHanded a C os f .any (fun w args => (s.pre enc C.prog fn conds apart w args ∧ X w args) ∧ sizedMet enc C.prog fn (OpenSpec.ofChange s) apart w args) (s.post enc C.prog fn apart fresh handsOn again) := by
  refine returnsInHanded_of_calls own started noInit witness ?_
  intro w tape i _ hsh _ hok hpre hholds
  obtain ⟨_, _, _, fn', hfn', _, _, _, _, hval⟩ := hok
  have e : fn' = fn := Option.some.inj (hfn'.symm.trans hfn)
  subst e
  obtain ⟨⟨⟨ds, gs, before, hw, hc⟩, hx⟩, hz⟩ := hpre
  have hw' := DataW.Whole.of_heap (w' := w.forCall tape i) (by rfl) hw
  refine (contract (w.forCall tape i) w.heap.size i.args ds gs before hval hw' hc (hz.weights hw) (hX _ _ _ (by rfl) hx) hsh hholds).mono fun e W' ⟨v, he, hp⟩ => ?_
  subst he
  exact ChangeSpec.post_blind hp
end
end Go.Proofs.YtfpohaipmnjflaaGreatDoor
