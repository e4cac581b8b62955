/- The document's reader: an action; by contract. Condition: at most 16385 tokens, each of at most 16384 bytes. (Printed by tools/genRd.py.) -/
import Derived.Test.YtfpohaipmnjflaaGreatDoorMRD
import Derived.Test.YtfpohaipmnjflaaGreatDoorMZL
namespace Go.Proofs.YtfpohaipmnjflaaGreatDoor
open Go.RowKit

/-- a part read and appended to the box's list: what is known then -/
theorem rup_next {w X W3 w7 : World} {P L cap k k3 : Nat} {bad bad3 : Bool} {ts : List Tok} {bB Bs d g7 cap7 : Nat} {ks : List Tree} {rows : List (List Value)} {Fs : Nat → Nat → Prop} {o c0 c1 c2 c3 : Value} {t : Tree} {gg N d2 : Nat} {s2 : Value}
    (hP : P < w.heap.size) (hL : L < w.heap.size) (hwB : w.heap.size ≤ bB) (hBs : bB < Bs) (hX : Bs ≤ X.heap.size) (hT : RTurns w P L cap ts k bad X)
    (hbB : X.heap[bB]? = some (.cells #[c0, c1, c2, c3, o] 25 (0, 0))) (hown : X.ownsRow Bs 25 5 o ks.length rows.flatten) (hrows : RowsOwn X Bs d ks ks.length o.ownBlock rows Fs)
    (hT3 : RTurns X P L cap ts k3 bad3 W3) (hgg : W3.heap[gg]? = some (.cells (nodeCells t s2).toArray 25 (0, 0))) (ho : OwnAt W3 d2 t.kids s2 (Between X.heap.size N)) (hf : Fits t) (hN1 : X.heap.size ≤ N) (hN2 : N ≤ gg)
    (happ : w7.ownsRow Bs 25 5 (.slice (some ⟨g7, 0, none⟩) (ks.length + 1) cap7) (ks.length + 1) (rows.flatten ++ nodeCells t s2)) (hgrow : W3.grownBy w7 o.ownBlock) (hlies : o.ownBlock = some g7 ∨ g7 = W3.heap.size) :
    ∃ d' rows' Fs', RTurns w P L cap ts k3 bad3 (w7.setCell ⟨bB, 4, none⟩ (.slice (some ⟨g7, 0, none⟩) (ks.length + 1) cap7)) ∧
      (∀ b, b < Bs → b ≠ P → b ≠ bB → (w7.setCell ⟨bB, 4, none⟩ (.slice (some ⟨g7, 0, none⟩) (ks.length + 1) cap7)).heap[b]? = X.heap[b]?) ∧
      (w7.setCell ⟨bB, 4, none⟩ (.slice (some ⟨g7, 0, none⟩) (ks.length + 1) cap7)).heap[bB]? = some (.cells #[c0, c1, c2, c3, .slice (some ⟨g7, 0, none⟩) (ks.length + 1) cap7] 25 (0, 0)) ∧
      (w7.setCell ⟨bB, 4, none⟩ (.slice (some ⟨g7, 0, none⟩) (ks.length + 1) cap7)).ownsRow Bs 25 5 (.slice (some ⟨g7, 0, none⟩) (ks.length + 1) cap7) (ks ++ [t]).length rows'.flatten ∧
      RowsOwn (w7.setCell ⟨bB, 4, none⟩ (.slice (some ⟨g7, 0, none⟩) (ks.length + 1) cap7)) Bs d' (ks ++ [t]) (ks ++ [t]).length (some g7) rows' Fs' ∧ w7.heap[bB]? = some (.cells #[c0, c1, c2, c3, o] 25 (0, 0)) := by
  have hob := own_block hown
  have hl0 := hT.1.size
  have hl3 := hT3.1.size
  have hgl : gg < W3.heap.size := (Array.getElem?_eq_some_iff.1 hgg).1
  have hl7 := hgrow.size
  have hrow : ∀ g, o.ownBlock = some g → w.heap.size ≤ g := fun g hg => by have := (hob g hg).1; omega
  have HT7 := (hT.trans hT3).grownO hP hL hgrow hrow
  have hk3 : ∀ b, b < W3.heap.size → o.ownBlock ≠ some b → w7.heap[b]? = W3.heap[b]? := fun b h1 h2 => hgrow.block b h1 (fun e => h2 e.symm)
  have hne : ∀ b, b < Bs → o.ownBlock ≠ some b := fun b hb e => by have := (hob b e).1; omega
  have e2 := ho.mores d
  rw [Nat.add_comm d2 d] at e2
  have hgR : ∀ b, b < Bs → b ≠ P → w7.heap[b]? = X.heap[b]? := fun b h1 h2 => (hk3 b (by omega) (hne b h1)).trans (hT3.1.block b (by omega) (fun e => by injection e with e; exact h2 e))
  obtain ⟨Fs', hnext⟩ := RowsOwn.nextT (W' := w7) (N := N) (own' := some g7) (t := t) ((hrows.deeper d2).longer rfl [t]) (by simp) hf
    (e2.keep fun x o' hx ho' => (hk3 x (by have := hx.2; omega) (fun e => by have := (hob x e).2; have := hx.1; omega)).trans ho') hN1 (by omega) (by omega) (by omega)
    (fun x h1 h2 hne' => (hk3 x (by omega) hne').trans (hT3.1.block x h2 (fun e => by injection e with e; omega))) (fun x hx => by
      injection hx with hx
      subst hx
      rcases hlies with h | h
      · exact Or.inl ⟨h, by have := (hob _ h).2; omega⟩
      · right; omega)
  obtain ⟨sl, hsl⟩ : ∃ sl, sl = Value.slice (some ⟨g7, 0, none⟩) (ks.length + 1) cap7 := ⟨_, rfl⟩
  rw [← hsl] at happ ⊢
  have hset : w7.grownBy (w7.setCell ⟨bB, 4, none⟩ sl) (some bB) := grown_set (World.grownBy.refl w7 _) _ _
  have hb7 : w7.heap[bB]? = some (.cells #[c0, c1, c2, c3, o] 25 (0, 0)) := (hgR bB hBs (by omega)).trans hbB
  refine ⟨d + d2, rows ++ [nodeCells t s2], Fs', HT7.setCell hP hL hwB 4 sl, ?_, ?_, ?_, ?_, hb7⟩
  · exact fun b h1 h2 h3 => (Below.heap_setCell _ _ _ b h3).trans (hgR b h1 h2)
  · rw [heap_set hb7 4 sl]; rfl
  · have := ownsRow_turn happ hset hBs
    rw [List.length_append, List.length_singleton, List.flatten_append]
    simpa using this
  · rw [List.length_append, List.length_singleton]
    exact hnext.turn hset hBs
/-- of a list of one node, in a block of its own -/
def GotRL (L0 : Nat) (q : Tree → Prop) (W : World) (xs : List Value) : Prop := ∃ (T : Tree) (d g N : Nat) (s : Value), xs = [.int .i64 g] ∧ q T ∧ W.heap[g]? = some (.cells (nodeCells T s).toArray 25 (0, 0)) ∧ OwnAt W d T.kids s (Between L0 N) ∧ Fits T ∧ L0 ≤ N ∧ N ≤ g
theorem GotRL.grown {L0 Q : Nat} {q : Tree → Prop} {W W' : World} {xs : List Value} (h : GotRL L0 q W xs) (hQ : Q < L0) (hg : W.grownBy W' (some Q)) : GotRL L0 q W' xs := by
  obtain ⟨T, d, g, N, s, h1, hq, h2, h3, h4, h5, h6⟩ := h
  exact ⟨T, d, g, N, s, h1, hq, grownBy_keep hg h2 (by omega), h3.keep fun b o hb ho => grownBy_keep hg ho (by have := hb.1; omega), h4, h5, h6⟩
/-- ahead of a round of what is said -/
def RSayRel (w : World) (P L cap : Nat) (ts : List Tok) (σ0 : PS) (R : List Tree × PS) (at_ : Int) (nb : Nat) (m : Value) (W : World) : Prop :=
  ∃ (KS ks : List Tree) (σ : PS) (d : Nat) (rows : List (List Value)) (Fs : Nat → Nat → Prop) (o : Value) (b : Bool), m = .bool b ∧
    ((ks = [] ∧ σ = σ0 ∧ b = true) ∨ (ks ≠ [] ∧ b = isM ts σ [tComma] ∧ ∃ g, rowLoop ts (exprM ts) g KS σ = R ∧ ts.length - σ.1 ≤ g)) ∧ (σ.2 = false → ks = KS) ∧ ks.length ≤ σ.1 ∧
    RTurns w P L cap ts σ.1 σ.2 W ∧ W.heap[w.heap.size]? = some (.cells zeroN 25 (0, 0)) ∧ W.heap[nb]? = some (.cells #[.int .u8 10, .string ⟨#[]⟩, .int .i64 0, .int .i64 at_, o] 25 (0, 0)) ∧
    W.ownsRow (nb + 1) 25 5 o ks.length rows.flatten ∧ RowsOwn W (nb + 1) d ks ks.length o.ownBlock rows Fs
set_option maxRecDepth 100000 in
set_option maxHeartbeats 8000000 in
theorem ract6_any {ts : List Tok} (hts : TsOk ts) {w : World} {P L cap : Nat} {σ : PS} (h : RAt w P L cap ts σ.1 σ.2) :
    Calls Tryz.prog 113 #[.pointer (some ⟨P, 0, none⟩)] w (RRes w P L cap ts (actM ts σ)) := by
  have hb0 : Below w.heap.size w (w.alloc (.cells zeroN 25)) := (Below.refl _ w).alloc (Nat.le_refl _) _
  have HC := Lib.hid (rnow6_res (h.below hb0))
  have H0 := Lib.hid (h.turns hb0)
  have hP := h.lt.1
  have HL := Lib.hid h.lt.2
  have HX := Lib.hid (heap_alloc_new w (.cells zeroN 25))
  have HTS := Lib.hid hts
  obtain ⟨R, hRR⟩ : ∃ R, actM ts σ = R := ⟨_, rfl⟩
  rw [hRR]
  have HR := Lib.hid hRR
  have hat : 0 ≤ atM ts σ ∧ atM ts σ ≤ 16384 := by
    obtain ⟨_, _, g3⟩ := tokM_ok hts σ.1
    unfold atM
    omega
  obtain ⟨kd, hkd⟩ : ∃ kd, kdM ts σ = kd := ⟨_, rfl⟩
  obtain ⟨tx, htx⟩ : ∃ kd, txM ts σ = kd := ⟨_, rfl⟩
  obtain ⟨at_, hatE⟩ : ∃ kd, atM ts σ = kd := ⟨_, rfl⟩
  rw [hatE] at hat
  rw [hkd, hatE, htx] at HC
  have HAt := Lib.hid hat
  have HAtE := Lib.hid hatE
  clear h hb0 hts hRR hkd hatE hat htx
  go_enter Tryz.func113, Tryz.ntmps113
  go_wp2_with fail
  refine Calls.mono HC.out ?_
  rintro e w1 ⟨rfl, hb1⟩
  have hx1 := heap_below hb1 HX.out (by simp)
  have HT1 := Lib.hid (H0.out.of_below hb1)
  have HX1 := Lib.hid hx1
  have hl1 : w.heap.size < w1.heap.size := (Array.getElem?_eq_some_iff.1 hx1).1
  have hF := run_lexAt kd tx at_ w1
  clear hb1 hx1
  obtain ⟨i0, hi0, hz0, hz1, hz2⟩ := info_parts infoNode
  obtain ⟨m1, hm1⟩ : ∃ x, isM ts σ [tAssert] = x := ⟨_, rfl⟩
  obtain ⟨m2, hm2⟩ : ∃ x, isM ts σ [tRetract] = x := ⟨_, rfl⟩
  obtain ⟨m3, hm3⟩ : ∃ x, isM ts σ [tSay] = x := ⟨_, rfl⟩
  have hR := HR.out
  unfold actM at hR
  rw [hm1, hm2, hm3, HAtE.out] at hR
  have HRR := Lib.hid hR
  have HM1 := Lib.hid hm1
  have HM2 := Lib.hid hm2
  have HM3 := Lib.hid hm3
  clear hR HR hm1 hm2 hm3
  obtain ⟨w2, hw2⟩ : ∃ x, x = w1.alloc (.cells #[.int .u8 0, .string ⟨#[]⟩, .int .i64 0, .int .i64 at_, .slice none 0 0] 25) := ⟨_, rfl⟩
  have hT := HT1.out.2.turns ((Below.refl _ w1).alloc (Nat.le_refl _) (.cells #[.int .u8 0, .string ⟨#[]⟩, .int .i64 0, .int .i64 at_, .slice none 0 0] 25))
  rw [← hw2] at hT
  have hnw : w2.heap[w1.heap.size]? = some (.cells #[.int .u8 0, .string ⟨#[]⟩, .int .i64 0, .int .i64 at_, .slice none 0 0] 25 (0, 0)) := by rw [hw2]; exact heap_alloc_new w1 _
  have HN2 := Lib.hid hnw
  have hnb : w.heap.size < w1.heap.size := hl1
  have HT2 := Lib.hid (HT1.out.trans hT)
  have HX2 := Lib.hid (hT.box HX1.out hP (Nat.le_refl _))
  have hl2 : w.heap.size < w2.heap.size := (Array.getElem?_eq_some_iff.1 HX2.out).1
  have hn2 : w1.heap.size < w2.heap.size := (Array.getElem?_eq_some_iff.1 hnw).1
  have HW2 := Lib.hid hw2
  clear hT hnw hw2 
  go_upto_region 4 with fail
  change Code.wp _ _ _ _ (w1.alloc (.cells #[.int .u8 0, .string ⟨#[]⟩, .int .i64 0, .int .i64 at_, .slice none 0 0] 25))
  rw [← HW2.out]
  clear HW2
  have HI1 := Lib.hid (ris6_any HT2.out.2 tAssert (by rw [ByteArray.toList_eq]; decide))
  rw [HM1.out] at HI1
  go_wp2_with fail
  refine Calls.mono (HI1.out) ?_
  rintro e w3 ⟨rfl, hb⟩
  have hT := HT2.out.2.turns hb
  have HT3 := Lib.hid (HT2.out.trans hT)
  have HX3 := Lib.hid (hT.box HX2.out hP (Nat.le_refl _))
  have hl3 : w.heap.size < w3.heap.size := (Array.getElem?_eq_some_iff.1 HX3.out).1
  have HN3 := Lib.hid (hT.box HN2.out hP (Nat.le_of_lt hnb))
  have hn3 : w1.heap.size < w3.heap.size := (Array.getElem?_eq_some_iff.1 HN3.out).1
  clear hT hb
  cases m1 with
  | true =>
    have HRe : Hid ((.mk 8 (ofM ts (nextM ts σ) 2 8).1.text 0 at_ (listM ts (exprM ts) (ofM ts (nextM ts σ) 2 8).2).1, wantM ts (listM ts (exprM ts) (ofM ts (nextM ts σ) 2 8).2).2 tSemi) = R) := HRR.out
    clear HRR HI1
    obtain ⟨e0, e1, e2, e3, e4⟩ := cells5 HN3.out
    have f0 := frozen5 HN3.out 0
    obtain ⟨w4, hw4⟩ : ∃ x, x = w3.setCell ⟨w1.heap.size, 0, none⟩ (.int .u8 8) := ⟨_, rfl⟩
    have hTs := HT3.out.setCell hP HL.out (Nat.le_of_lt hnb) 0 (.int .u8 8)
    rw [← hw4] at hTs
    have HT4 := Lib.hid hTs
    clear hTs
    have hoth : ∀ b, b ≠ w1.heap.size → w4.heap[b]? = w3.heap[b]? := fun b hb => by rw [hw4]; exact Below.heap_setCell w3 ⟨w1.heap.size, 0, none⟩ _ b hb
    have hsz : w4.heap.size = w3.heap.size := by rw [hw4]; simp [World.setCell]
    have HX4 := Lib.hid ((hoth w.heap.size (by omega)).trans HX3.out)
    have HN4 : Hid (w4.heap[w1.heap.size]? = some (.cells #[.int .u8 8, .string ⟨#[]⟩, .int .i64 0, .int .i64 at_, .slice none 0 0] 25 (0, 0))) := by show _ = _; rw [hw4]; exact heap_set HN3.out 0 _
    have hl4 : w.heap.size < w4.heap.size := by omega
    have hn4 : w1.heap.size < w4.heap.size := by omega
    have HW4 := Lib.hid hw4
    clear hw4 hoth hsz
    go_upto_region 6 with fail
    change Code.wp _ _ _ _ (w3.setCell ⟨w1.heap.size, 0, none⟩ (.int .u8 8))
    rw [← HW4.out]
    clear HW4 e0 e1 e2 e3 e4 f0 
    go_wp2_with fail
    refine Calls.mono (rnext6_res HT4.out.2) ?_
    rintro e w5 ⟨rfl, hT⟩
    have HT5 := Lib.hid (HT4.out.trans hT)
    have HX5 := Lib.hid (hT.box HX4.out hP (Nat.le_refl _))
    have hl5 : w.heap.size < w5.heap.size := (Array.getElem?_eq_some_iff.1 HX5.out).1
    have HN5 := Lib.hid (hT.box HN4.out hP (Nat.le_of_lt hnb))
    have hn5 : w1.heap.size < w5.heap.size := (Array.getElem?_eq_some_iff.1 HN5.out).1
    clear hT
    obtain ⟨k2, x2, p2, ht2⟩ : ∃ a b c, tokM ts (nextM ts σ).1 = (a, b, c) := ⟨_, _, _, rfl⟩
    have hxs : x2.size ≤ 16384 := by have := (tokM_ok HTS.out (nextM ts σ).1).2.1; rw [ht2] at this; exact this
    have hC := rof6_raw HT5.out.2 (tokM_at HT5.out.2.k) 2 8
    rw [ht2] at hC
    have HCo := Lib.hid hC
    have hof : (ofM ts (nextM ts σ) 2 8).2 = (nextK ts.length (nextM ts σ).1 ((nextM ts σ).2 || k2 != 2), ((nextM ts σ).2 || k2 != 2)) := by
      show (nextK ts.length (nextM ts σ).1 ((nextM ts σ).2 || (tokM ts (nextM ts σ).1).1 != 2), ((nextM ts σ).2 || (tokM ts (nextM ts σ).1).1 != 2)) = _
      rw [ht2]
    have htx2 : (ofM ts (nextM ts σ) 2 8).1.text = x2 := by show (tokM ts (nextM ts σ).1).2.1 = x2; rw [ht2]
    have HRe2 := HRe.out
    rw [htx2] at HRe2
    obtain ⟨σ3, hσ3⟩ : ∃ x, (ofM ts (nextM ts σ) 2 8).2 = x := ⟨_, rfl⟩
    rw [hσ3] at HRe2 hof
    have HRf := Lib.hid HRe2
    have HOf := Lib.hid hof
    have HXs := Lib.hid hxs
    clear hC hof htx2 HRe2 HRe hσ3 hxs ht2
    go_wp2_with fail
    refine Calls.mono (HCo.out) ?_
    rintro e w6 ⟨rfl, hT⟩
    have HT6 := Lib.hid (HT5.out.trans hT)
    have HX6 := Lib.hid (hT.box HX5.out hP (Nat.le_refl _))
    have hl6 : w.heap.size < w6.heap.size := (Array.getElem?_eq_some_iff.1 HX6.out).1
    have HN6 := Lib.hid (hT.box HN5.out hP (Nat.le_of_lt hnb))
    have hn6 : w1.heap.size < w6.heap.size := (Array.getElem?_eq_some_iff.1 HN6.out).1
    rw [show nextK ts.length (nextM ts σ).1 ((nextM ts σ).2 || k2 != 2) = σ3.1 by rw [HOf.out], show ((nextM ts σ).2 || k2 != 2) = σ3.2 by rw [HOf.out]] at HT6
    have hTa := run_nodeText ((8 : Nat) : Int) x2 0 p2 0 none 0 w6
    have hTb := run_nodeText 8 x2 0 p2 0 none 0 w6
    clear hT
    obtain ⟨e0, e1, e2, e3, e4⟩ := cells5 HN6.out
    have f1 := frozen5 HN6.out 1
    obtain ⟨w7, hw7⟩ : ∃ x, x = w6.setCell ⟨w1.heap.size, 1, none⟩ (.string x2) := ⟨_, rfl⟩
    have hTs := HT6.out.setCell hP HL.out (Nat.le_of_lt hnb) 1 (.string x2)
    rw [← hw7] at hTs
    have HT7 := Lib.hid hTs
    clear hTs
    have hoth : ∀ b, b ≠ w1.heap.size → w7.heap[b]? = w6.heap[b]? := fun b hb => by rw [hw7]; exact Below.heap_setCell w6 ⟨w1.heap.size, 1, none⟩ _ b hb
    have hsz : w7.heap.size = w6.heap.size := by rw [hw7]; simp [World.setCell]
    have HX7 := Lib.hid ((hoth w.heap.size (by omega)).trans HX6.out)
    have HN7 : Hid (w7.heap[w1.heap.size]? = some (.cells #[.int .u8 8, .string x2, .int .i64 0, .int .i64 at_, .slice none 0 0] 25 (0, 0))) := by show _ = _; rw [hw7]; exact heap_set HN6.out 1 _
    have hl7 : w.heap.size < w7.heap.size := by omega
    have hn7 : w1.heap.size < w7.heap.size := by omega
    have HW7 := Lib.hid hw7
    clear hw7 hoth hsz
    go_upto_region 8 with fail
    change Code.wp _ _ _ _ (w6.setCell ⟨w1.heap.size, 1, none⟩ (.string x2))
    rw [← HW7.out]
    clear HW7 e0 e1 e2 e3 e4 f1 hTa hTb
    have HLs := Lib.hid (rrow6_any HTS.out 2 (by omega) σ3 w7 P L cap HT7.out.2)
    rw [rOne2] at HLs
    generalize listM ts (exprM ts) σ3 = r at *
    go_wp2_with fail
    refine Calls.mono (HLs.out) ?_
    rintro e w8 ⟨ks, d, s, rfl, hq, hT, ho⟩
    obtain ⟨p, c, rfl⟩ := ho.shape
    have HQ := Lib.hid hq
    have HO8 := Lib.hid ho
    have HT8 := Lib.hid (HT7.out.trans hT)
    have HX8 := Lib.hid (hT.box HX7.out hP (Nat.le_refl _))
    have hl8 : w.heap.size < w8.heap.size := (Array.getElem?_eq_some_iff.1 HX8.out).1
    have HN8 := Lib.hid (hT.box HN7.out hP (Nat.le_of_lt hnb))
    have hn8 : w1.heap.size < w8.heap.size := (Array.getElem?_eq_some_iff.1 HN8.out).1
    clear hT hq ho HLs
    obtain ⟨e0, e1, e2, e3, e4⟩ := cells5 HN8.out
    have f4 := frozen5 HN8.out 4
    obtain ⟨w9, hw9⟩ : ∃ x, x = w8.setCell ⟨w1.heap.size, 4, none⟩ (.slice p ks.length c) := ⟨_, rfl⟩
    have hTs := HT8.out.setCell hP HL.out (Nat.le_of_lt hnb) 4 (.slice p ks.length c)
    rw [← hw9] at hTs
    have HT9 := Lib.hid hTs
    clear hTs
    have hoth : ∀ b, b ≠ w1.heap.size → w9.heap[b]? = w8.heap[b]? := fun b hb => by rw [hw9]; exact Below.heap_setCell w8 ⟨w1.heap.size, 4, none⟩ _ b hb
    have hsz : w9.heap.size = w8.heap.size := by rw [hw9]; simp [World.setCell]
    have HX9 := Lib.hid ((hoth w.heap.size (by omega)).trans HX8.out)
    have HN9 : Hid (w9.heap[w1.heap.size]? = some (.cells #[.int .u8 8, .string x2, .int .i64 0, .int .i64 at_, .slice p ks.length c] 25 (0, 0))) := by show _ = _; rw [hw9]; exact heap_set HN8.out 4 _
    have hl9 : w.heap.size < w9.heap.size := by omega
    have hn9 : w1.heap.size < w9.heap.size := by omega
    have HO9 := Lib.hid (show OwnAt w9 d ks (.slice p ks.length c) (Between w7.heap.size w9.heap.size) from (HO8.out.keep fun b o hb ho => (hoth b (by have := hb.1; omega)).trans ho).sub fun b hb => ⟨hb.1, by rw [hsz]; exact hb.2⟩)
    have HW9 := Lib.hid hw9
    clear hw9 hoth hsz
    go_upto_region 20 with fail
    change Code.wp _ _ _ _ (w8.setCell ⟨w1.heap.size, 4, none⟩ (.slice p ks.length c))
    rw [← HW9.out]
    clear HW9 e0 e1 e2 e3 e4 f4 
    go_wp2_with fail
    refine Calls.mono (rwant6_any HT9.out.2 tSemi (by rw [ByteArray.toList_eq]; decide)) ?_
    rintro e w10 ⟨rfl, hT⟩
    have HT10 := Lib.hid (HT9.out.trans hT)
    have HX10 := Lib.hid (hT.box HX9.out hP (Nat.le_refl _))
    have hl10 : w.heap.size < w10.heap.size := (Array.getElem?_eq_some_iff.1 HX10.out).1
    have HN10 := Lib.hid (hT.box HN9.out hP (Nat.le_of_lt hnb))
    have HO10 := Lib.hid (show OwnAt w10 d ks (.slice p ks.length c) (Between w7.heap.size w10.heap.size) from (HO9.out.keep fun b o hb ho => grownBy_keep hT.1 ho (by have := hb.1; omega)).sub fun b hb => ⟨hb.1, Nat.lt_of_lt_of_le hb.2 hT.1.size⟩)
    have hn10 : w1.heap.size < w10.heap.size := (Array.getElem?_eq_some_iff.1 HN10.out).1
    clear hT
    obtain ⟨a0, a1, a2, a3, a4⟩ := cells5 HX10.out
    have z0 := frozen5 HX10.out 0
    have z1 := frozen5 HX10.out 1
    have z2 := frozen5 HX10.out 2
    have z3 := frozen5 HX10.out 3
    have z4 := frozen5 HX10.out 4
    obtain ⟨e0, e1, e2, e3, e4⟩ := cells5 HN10.out
    go_wp2_with fail
    refine ret_node Tryz.results113 rfl (heap_set5 HX10.out _ _ _ _ _) rfl ?_
    rw [← HRf.out]
    exact RRes.stored (r := (.mk 8 x2 0 at_ r.1, wantM ts r.2 tSemi)) (T := .mk 8 x2 0 at_ ks) hP HL.out HT10.out (fun hb => by rw [HQ.out (want_ok hb)]) HO10.out (fits_mk (by omega) HXs.out HAt.out.1 HAt.out.2) (Nat.le_refl _) (by omega) _ _ _ _ _
  | false =>
  have HI2 := Lib.hid (ris6_any HT3.out.2 tRetract (by rw [ByteArray.toList_eq]; decide))
  rw [HM2.out] at HI2
  go_wp2_with fail
  refine Calls.mono (HI2.out) ?_
  rintro e w4 ⟨rfl, hb⟩
  have hT := HT3.out.2.turns hb
  have HT4 := Lib.hid (HT3.out.trans hT)
  have HX4 := Lib.hid (hT.box HX3.out hP (Nat.le_refl _))
  have hl4 : w.heap.size < w4.heap.size := (Array.getElem?_eq_some_iff.1 HX4.out).1
  have HN4 := Lib.hid (hT.box HN3.out hP (Nat.le_of_lt hnb))
  have hn4 : w1.heap.size < w4.heap.size := (Array.getElem?_eq_some_iff.1 HN4.out).1
  clear hT hb
  cases m2 with
  | true =>
    have HRe : Hid ((.mk 9 ⟨#[]⟩ (numM ts (nextM ts σ)).1 at_ [], wantM ts (numM ts (nextM ts σ)).2 tSemi) = R) := HRR.out
    clear HRR HI1 HI2
    obtain ⟨e0, e1, e2, e3, e4⟩ := cells5 HN4.out
    have f0 := frozen5 HN4.out 0
    obtain ⟨w5, hw5⟩ : ∃ x, x = w4.setCell ⟨w1.heap.size, 0, none⟩ (.int .u8 9) := ⟨_, rfl⟩
    have hTs := HT4.out.setCell hP HL.out (Nat.le_of_lt hnb) 0 (.int .u8 9)
    rw [← hw5] at hTs
    have HT5 := Lib.hid hTs
    clear hTs
    have hoth : ∀ b, b ≠ w1.heap.size → w5.heap[b]? = w4.heap[b]? := fun b hb => by rw [hw5]; exact Below.heap_setCell w4 ⟨w1.heap.size, 0, none⟩ _ b hb
    have hsz : w5.heap.size = w4.heap.size := by rw [hw5]; simp [World.setCell]
    have HX5 := Lib.hid ((hoth w.heap.size (by omega)).trans HX4.out)
    have HN5 : Hid (w5.heap[w1.heap.size]? = some (.cells #[.int .u8 9, .string ⟨#[]⟩, .int .i64 0, .int .i64 at_, .slice none 0 0] 25 (0, 0))) := by show _ = _; rw [hw5]; exact heap_set HN4.out 0 _
    have hl5 : w.heap.size < w5.heap.size := by omega
    have hn5 : w1.heap.size < w5.heap.size := by omega
    have HW5 := Lib.hid hw5
    clear hw5 hoth hsz
    go_upto_region 11 with fail
    change Code.wp _ _ _ _ (w4.setCell ⟨w1.heap.size, 0, none⟩ (.int .u8 9))
    rw [← HW5.out]
    clear HW5 e0 e1 e2 e3 e4 f0 
    go_wp2_with fail
    refine Calls.mono (rnext6_res HT5.out.2) ?_
    rintro e w6 ⟨rfl, hT⟩
    have HT6 := Lib.hid (HT5.out.trans hT)
    have HX6 := Lib.hid (hT.box HX5.out hP (Nat.le_refl _))
    have hl6 : w.heap.size < w6.heap.size := (Array.getElem?_eq_some_iff.1 HX6.out).1
    have HN6 := Lib.hid (hT.box HN5.out hP (Nat.le_of_lt hnb))
    have hn6 : w1.heap.size < w6.heap.size := (Array.getElem?_eq_some_iff.1 HN6.out).1
    clear hT
    have HNum := Lib.hid (rsmall6_any HTS.out HT6.out.2)
    have hns := numM_small ts (nextM ts σ)
    generalize numM ts (nextM ts σ) = r at *
    go_wp2_with fail
    refine Calls.mono (HNum.out) ?_
    rintro e w7 ⟨rfl, hT⟩
    have HT7 := Lib.hid (HT6.out.trans hT)
    have HX7 := Lib.hid (hT.box HX6.out hP (Nat.le_refl _))
    have hl7 : w.heap.size < w7.heap.size := (Array.getElem?_eq_some_iff.1 HX7.out).1
    have HN7 := Lib.hid (hT.box HN6.out hP (Nat.le_of_lt hnb))
    have hn7 : w1.heap.size < w7.heap.size := (Array.getElem?_eq_some_iff.1 HN7.out).1
    clear hT
    obtain ⟨e0, e1, e2, e3, e4⟩ := cells5 HN7.out
    have f2 := frozen5 HN7.out 2
    obtain ⟨w8, hw8⟩ : ∃ x, x = w7.setCell ⟨w1.heap.size, 2, none⟩ (.int .i64 r.1) := ⟨_, rfl⟩
    have hTs := HT7.out.setCell hP HL.out (Nat.le_of_lt hnb) 2 (.int .i64 r.1)
    rw [← hw8] at hTs
    have HT8 := Lib.hid hTs
    clear hTs
    have hoth : ∀ b, b ≠ w1.heap.size → w8.heap[b]? = w7.heap[b]? := fun b hb => by rw [hw8]; exact Below.heap_setCell w7 ⟨w1.heap.size, 2, none⟩ _ b hb
    have hsz : w8.heap.size = w7.heap.size := by rw [hw8]; simp [World.setCell]
    have HX8 := Lib.hid ((hoth w.heap.size (by omega)).trans HX7.out)
    have HN8 : Hid (w8.heap[w1.heap.size]? = some (.cells #[.int .u8 9, .string ⟨#[]⟩, .int .i64 r.1, .int .i64 at_, .slice none 0 0] 25 (0, 0))) := by show _ = _; rw [hw8]; exact heap_set HN7.out 2 _
    have hl8 : w.heap.size < w8.heap.size := by omega
    have hn8 : w1.heap.size < w8.heap.size := by omega
    have HW8 := Lib.hid hw8
    clear hw8 hoth hsz
    go_upto_region 20 with fail
    change Code.wp _ _ _ _ (w7.setCell ⟨w1.heap.size, 2, none⟩ (.int .i64 r.1))
    rw [← HW8.out]
    clear HW8 e0 e1 e2 e3 e4 f2 
    go_wp2_with fail
    refine Calls.mono (rwant6_any HT8.out.2 tSemi (by rw [ByteArray.toList_eq]; decide)) ?_
    rintro e w9 ⟨rfl, hT⟩
    have HT9 := Lib.hid (HT8.out.trans hT)
    have HX9 := Lib.hid (hT.box HX8.out hP (Nat.le_refl _))
    have hl9 : w.heap.size < w9.heap.size := (Array.getElem?_eq_some_iff.1 HX9.out).1
    have HN9 := Lib.hid (hT.box HN8.out hP (Nat.le_of_lt hnb))
    have hn9 : w1.heap.size < w9.heap.size := (Array.getElem?_eq_some_iff.1 HN9.out).1
    clear hT
    obtain ⟨a0, a1, a2, a3, a4⟩ := cells5 HX9.out
    have z0 := frozen5 HX9.out 0
    have z1 := frozen5 HX9.out 1
    have z2 := frozen5 HX9.out 2
    have z3 := frozen5 HX9.out 3
    have z4 := frozen5 HX9.out 4
    obtain ⟨e0, e1, e2, e3, e4⟩ := cells5 HN9.out
    go_wp2_with fail
    refine ret_node Tryz.results113 rfl (heap_set5 HX9.out _ _ _ _ _) rfl ?_
    rw [← HRe.out]
    exact RRes.stored (B := w.heap.size + 1) (r := (.mk 9 ⟨#[]⟩ r.1 at_ [], wantM ts r.2 tSemi)) (T := .mk 9 ⟨#[]⟩ r.1 at_ []) hP HL.out HT9.out (fun _ => rfl) (own_nil _ _) (fits_num (by omega) hns HAt.out.1 HAt.out.2) (Nat.le_refl _) (by omega) _ _ _ _ _
  | false =>
  have HI3 := Lib.hid (ris6_any HT4.out.2 tSay (by rw [ByteArray.toList_eq]; decide))
  rw [HM3.out] at HI3
  go_wp2_with fail
  refine Calls.mono (HI3.out) ?_
  rintro e w5 ⟨rfl, hb⟩
  have hT := HT4.out.2.turns hb
  have HT5 := Lib.hid (HT4.out.trans hT)
  have HX5 := Lib.hid (hT.box HX4.out hP (Nat.le_refl _))
  have hl5 : w.heap.size < w5.heap.size := (Array.getElem?_eq_some_iff.1 HX5.out).1
  have HN5 := Lib.hid (hT.box HN4.out hP (Nat.le_of_lt hnb))
  have hn5 : w1.heap.size < w5.heap.size := (Array.getElem?_eq_some_iff.1 HN5.out).1
  clear hT hb
  cases m3 with
  | false =>
    have HRe : Hid ((.mk 11 ⟨#[]⟩ 0 at_ [], wantM ts (wantM ts σ tHalt) tSemi) = R) := HRR.out
    clear HRR HI1 HI2 HI3
    obtain ⟨e0, e1, e2, e3, e4⟩ := cells5 HN5.out
    have f0 := frozen5 HN5.out 0
    obtain ⟨w6, hw6⟩ : ∃ x, x = w5.setCell ⟨w1.heap.size, 0, none⟩ (.int .u8 11) := ⟨_, rfl⟩
    have hTs := HT5.out.setCell hP HL.out (Nat.le_of_lt hnb) 0 (.int .u8 11)
    rw [← hw6] at hTs
    have HT6 := Lib.hid hTs
    clear hTs
    have hoth : ∀ b, b ≠ w1.heap.size → w6.heap[b]? = w5.heap[b]? := fun b hb => by rw [hw6]; exact Below.heap_setCell w5 ⟨w1.heap.size, 0, none⟩ _ b hb
    have hsz : w6.heap.size = w5.heap.size := by rw [hw6]; simp [World.setCell]
    have HX6 := Lib.hid ((hoth w.heap.size (by omega)).trans HX5.out)
    have HN6 : Hid (w6.heap[w1.heap.size]? = some (.cells #[.int .u8 11, .string ⟨#[]⟩, .int .i64 0, .int .i64 at_, .slice none 0 0] 25 (0, 0))) := by show _ = _; rw [hw6]; exact heap_set HN5.out 0 _
    have hl6 : w.heap.size < w6.heap.size := by omega
    have hn6 : w1.heap.size < w6.heap.size := by omega
    have HW6 := Lib.hid hw6
    clear hw6 hoth hsz
    go_upto_region 3 with fail
    change Code.wp _ _ _ _ (w5.setCell ⟨w1.heap.size, 0, none⟩ (.int .u8 11))
    rw [← HW6.out]
    clear HW6 e0 e1 e2 e3 e4 f0 
    go_wp2_with fail
    refine Calls.mono (rwant6_any HT6.out.2 tHalt (by rw [ByteArray.toList_eq]; decide)) ?_
    rintro e w7 ⟨rfl, hT⟩
    have HT7 := Lib.hid (HT6.out.trans hT)
    have HX7 := Lib.hid (hT.box HX6.out hP (Nat.le_refl _))
    have hl7 : w.heap.size < w7.heap.size := (Array.getElem?_eq_some_iff.1 HX7.out).1
    have HN7 := Lib.hid (hT.box HN6.out hP (Nat.le_of_lt hnb))
    have hn7 : w1.heap.size < w7.heap.size := (Array.getElem?_eq_some_iff.1 HN7.out).1
    clear hT
    go_wp2_with fail
    refine Calls.mono (rwant6_any HT7.out.2 tSemi (by rw [ByteArray.toList_eq]; decide)) ?_
    rintro e w8 ⟨rfl, hT⟩
    have HT8 := Lib.hid (HT7.out.trans hT)
    have HX8 := Lib.hid (hT.box HX7.out hP (Nat.le_refl _))
    have hl8 : w.heap.size < w8.heap.size := (Array.getElem?_eq_some_iff.1 HX8.out).1
    have HN8 := Lib.hid (hT.box HN7.out hP (Nat.le_of_lt hnb))
    have hn8 : w1.heap.size < w8.heap.size := (Array.getElem?_eq_some_iff.1 HN8.out).1
    clear hT
    obtain ⟨a0, a1, a2, a3, a4⟩ := cells5 HX8.out
    have z0 := frozen5 HX8.out 0
    have z1 := frozen5 HX8.out 1
    have z2 := frozen5 HX8.out 2
    have z3 := frozen5 HX8.out 3
    have z4 := frozen5 HX8.out 4
    obtain ⟨e0, e1, e2, e3, e4⟩ := cells5 HN8.out
    go_wp2_with fail
    refine ret_node Tryz.results113 rfl (heap_set5 HX8.out _ _ _ _ _) rfl ?_
    rw [← HRe.out]
    exact RRes.stored (B := w.heap.size + 1) (r := (.mk 11 ⟨#[]⟩ 0 at_ [], wantM ts (wantM ts σ tHalt) tSemi)) (T := .mk 11 ⟨#[]⟩ 0 at_ []) hP HL.out HT8.out (fun _ => rfl) (own_nil _ _) (fits_mk (by omega) (by show (0 : Nat) ≤ 16384; omega) HAt.out.1 HAt.out.2) (Nat.le_refl _) (by omega) _ _ _ _ _
  | true =>
    obtain ⟨q1, q2, q3⟩ := next_on HTS.out HT5.out.2.k HM3.out
    obtain ⟨Rw, hRw⟩ : ∃ x, rowM ts (exprM ts) (nextM ts σ) = x := ⟨_, rfl⟩
    have HRe : Hid ((.mk 10 ⟨#[]⟩ 0 at_ Rw.1, wantM ts Rw.2 tSemi) = R) := by
      show _ = _
      rw [← hRw]
      exact HRR.out
    have HRw := Lib.hid hRw
    have HQ1 := Lib.hid q1
    have HQ3 := Lib.hid q2
    clear HRR HI1 HI2 HI3 hRw q1 q2 q3
    obtain ⟨e0, e1, e2, e3, e4⟩ := cells5 HN5.out
    have f0 := frozen5 HN5.out 0
    obtain ⟨w6, hw6⟩ : ∃ x, x = w5.setCell ⟨w1.heap.size, 0, none⟩ (.int .u8 10) := ⟨_, rfl⟩
    have hTs := HT5.out.setCell hP HL.out (Nat.le_of_lt hnb) 0 (.int .u8 10)
    rw [← hw6] at hTs
    have HT6 := Lib.hid hTs
    clear hTs
    have hoth : ∀ b, b ≠ w1.heap.size → w6.heap[b]? = w5.heap[b]? := fun b hb => by rw [hw6]; exact Below.heap_setCell w5 ⟨w1.heap.size, 0, none⟩ _ b hb
    have hsz : w6.heap.size = w5.heap.size := by rw [hw6]; simp [World.setCell]
    have HX6 := Lib.hid ((hoth w.heap.size (by omega)).trans HX5.out)
    have HN6 : Hid (w6.heap[w1.heap.size]? = some (.cells #[.int .u8 10, .string ⟨#[]⟩, .int .i64 0, .int .i64 at_, .slice none 0 0] 25 (0, 0))) := by show _ = _; rw [hw6]; exact heap_set HN5.out 0 _
    have hl6 : w.heap.size < w6.heap.size := by omega
    have hn6 : w1.heap.size < w6.heap.size := by omega
    have HW6 := Lib.hid hw6
    clear hw6 hoth hsz
    go_upto_region 15 with fail
    change Code.wp _ _ _ _ (w5.setCell ⟨w1.heap.size, 0, none⟩ (.int .u8 10))
    rw [← HW6.out]
    clear HW6 e0 e1 e2 e3 e4 f0 
    have HRel : Hid (RSayRel w P L cap ts σ Rw at_ w1.heap.size (.bool true) w6) :=
      ⟨[], [], σ, 0, [], fun _ _ => False, .slice none 0 0, true, rfl, Or.inl ⟨rfl, rfl, rfl⟩, fun _ => rfl, Nat.zero_le _, HT6.out, HX6.out, HN6.out, ⟨rfl, Or.inl ⟨rfl, rfl⟩⟩, rows_none w6 (w1.heap.size + 1) 0 []⟩
    have HLb := Lib.hid (show ∀ σ : PS, σ.1 ≤ (exprM ts σ).2.1 from exprM_ge ts)
    go_wp2_with fail
    go_loopw [4] (fun m wr => RSayRel w P L cap ts σ Rw at_ w1.heap.size m wr) (fun _ wr => leftR ts.length P wr)
    case atStart => exact HRel.out
    case round =>
      obtain ⟨KS, ks, σ1, dd, rows, Fs, o, b, rfl, hph, hK, hlen, hT, hx, hn, hown, hrows⟩ := hrel
      have HPh := Lib.hid hph
      have HK := Lib.hid hK
      have HLen := Lib.hid hlen
      have HTr := Lib.hid hT
      have HXr := Lib.hid hx
      have HNr := Lib.hid hn
      have HOwnr := Lib.hid hown
      have HRowsr := Lib.hid hrows
      have hlr : w1.heap.size < wr.heap.size := (Array.getElem?_eq_some_iff.1 hn).1
      obtain ⟨_, _, c2, _, _, _⟩ := hT.2.cells
      clear hph hK hlen hT hx hn hown hrows
      have hend : (b = false ∨ σ1.2 = true) → Rw = (KS, σ1) := by
        intro hbb
        rcases HPh.out with ⟨k1, k2, k3⟩ | ⟨k1, k2, g, k4, k5⟩
        · exfalso
          rcases hbb with h | h
          · rw [k3] at h; cases h
          · rw [k2, HQ3.out] at h; cases h
        · have hi : isM ts σ1 [tComma] = false := by
            rcases hbb with h | h
            · rw [← k2]; exact h
            · exact isM_bad h _
          rw [← k4]
          cases g with
          | zero => rfl
          | succ g => rw [rowLoop_succ, if_neg (by rw [hi]; decide)]
      have HEnd := Lib.hid hend
      have HWs := Lib.hid (rwant6_any HTr.out.2 tSemi (by rw [ByteArray.toList_eq]; decide))
      clear hend
      cases b with
      | false =>
        go_wp2_with fail
        refine Calls.mono HWs.out ?_
        rintro e wf ⟨rfl, hT⟩
        have hE := HEnd.out (Or.inl (by trivial))
        have HTf := Lib.hid (HTr.out.trans hT)
        have y0 := hT.box HXr.out hP (Nat.le_refl _)
        have yn := hT.box HNr.out hP (Nat.le_of_lt hnb)
        have hO7 : OwnAt wf (dd + 1) ks o (Between (w1.heap.size + 1) wf.heap.size) := own_fin (d := dd + 1) rfl (ownsRow_turn HOwnr.out hT.1 (by omega)) (HRowsr.out.turn hT.1 (by omega)) (fun h => by omega)
        obtain ⟨pf, cf, ho⟩ := hO7.shape
        subst ho
        have HO7 := Lib.hid hO7
        have HY0 := Lib.hid y0
        have HE := Lib.hid hE
        obtain ⟨a0, a1, a2, a3, a4⟩ := cells5 y0
        have z0 := frozen5 y0 0
        have z1 := frozen5 y0 1
        have z2 := frozen5 y0 2
        have z3 := frozen5 y0 3
        have z4 := frozen5 y0 4
        obtain ⟨e0, e1, e2, e3, e4⟩ := cells5 yn
        clear hT y0 yn hO7 hE
        go_wp2_with fail
        refine ret_node Tryz.results113 rfl (heap_set5 HY0.out _ _ _ _ _) rfl ?_
        rw [← HRe.out, HE.out]
        exact RRes.stored (r := (.mk 10 ⟨#[]⟩ 0 at_ KS, wantM ts σ1 tSemi)) (T := .mk 10 ⟨#[]⟩ 0 at_ ks) hP HL.out HTf.out (fun hb => by rw [HK.out (want_ok hb)]) HO7.out (fits_mk (by omega) (by show (0 : Nat) ≤ 16384; omega) HAt.out.1 HAt.out.2) (Nat.le_refl _) (by omega) _ _ _ _ _
      | true =>
      cases hb1 : σ1.2 with
      | true =>
        rw [hb1] at c2
        have HB1 := Lib.hid hb1
        clear hb1
        go_wp2_with fail
        refine Calls.mono HWs.out ?_
        rintro e wf ⟨rfl, hT⟩
        have hE := HEnd.out (Or.inr HB1.out)
        have HTf := Lib.hid (HTr.out.trans hT)
        have y0 := hT.box HXr.out hP (Nat.le_refl _)
        have yn := hT.box HNr.out hP (Nat.le_of_lt hnb)
        have hO7 : OwnAt wf (dd + 1) ks o (Between (w1.heap.size + 1) wf.heap.size) := own_fin (d := dd + 1) rfl (ownsRow_turn HOwnr.out hT.1 (by omega)) (HRowsr.out.turn hT.1 (by omega)) (fun h => by omega)
        obtain ⟨pf, cf, ho⟩ := hO7.shape
        subst ho
        have HO7 := Lib.hid hO7
        have HY0 := Lib.hid y0
        have HE := Lib.hid hE
        obtain ⟨a0, a1, a2, a3, a4⟩ := cells5 y0
        have z0 := frozen5 y0 0
        have z1 := frozen5 y0 1
        have z2 := frozen5 y0 2
        have z3 := frozen5 y0 3
        have z4 := frozen5 y0 4
        obtain ⟨e0, e1, e2, e3, e4⟩ := cells5 yn
        clear hT y0 yn hO7 hE
        go_wp2_with fail
        refine ret_node Tryz.results113 rfl (heap_set5 HY0.out _ _ _ _ _) rfl ?_
        rw [← HRe.out, HE.out]
        exact RRes.stored (r := (.mk 10 ⟨#[]⟩ 0 at_ KS, wantM ts σ1 tSemi)) (T := .mk 10 ⟨#[]⟩ 0 at_ ks) hP HL.out HTf.out (fun hb => by rw [HK.out (want_ok hb)]) HO7.out (fits_mk (by omega) (by show (0 : Nat) ≤ 16384; omega) HAt.out.1 HAt.out.2) (Nat.le_refl _) (by omega) _ _ _ _ _
      | false =>
      rw [hb1] at c2
      have HB1 := Lib.hid hb1
      have hks := HK.out hb1
      subst hks
      have hon : ∃ tx, isM ts σ1 [tx] = true := by
        rcases HPh.out with ⟨k1, k2, k3⟩ | ⟨k1, k2, g, k4, k5⟩
        · rw [k2]; exact ⟨_, HM3.out⟩
        · exact ⟨_, k2.symm⟩
      obtain ⟨txx, hon⟩ := hon
      obtain ⟨q1, q2, q3⟩ := next_on HTS.out HTr.out.2.k hon
      have hstep : ∃ g, rowLoop ts (exprM ts) g (ks ++ [(exprM ts (nextM ts σ1)).1]) (exprM ts (nextM ts σ1)).2 = Rw ∧ ts.length - (exprM ts (nextM ts σ1)).2.1 ≤ g := by
        have hge := HLb.out (nextM ts σ1)
        rcases HPh.out with ⟨k1, k2, k3⟩ | ⟨k1, k2, g, k4, k5⟩
        · refine ⟨ts.length, ?_, Nat.sub_le _ _⟩
          rw [k1, k2, ← HRw.out]; rfl
        · cases g with
          | zero => omega
          | succ g =>
            refine ⟨g, ?_, by omega⟩
            rw [rowLoop_succ, if_pos k2.symm] at k4
            exact k4
      have HStep := Lib.hid hstep
      have HGe1 := Lib.hid (HLb.out (nextM ts σ1))
      have HQ := Lib.hid q1
      clear hb1 hon hstep q1 q2 q3 HPh HEnd HWs
      go_wp2_with fail
      refine Calls.mono (rnext6_res HTr.out.2) ?_
      rintro e wc ⟨rfl, hT⟩
      have HTx := Lib.hid (HTr.out.trans hT)
      have HXx := Lib.hid (hT.box HXr.out hP (Nat.le_refl _))
      have HNx := Lib.hid (hT.box HNr.out hP (Nat.le_of_lt hnb))
      have HOwnx := Lib.hid (ownsRow_turn HOwnr.out hT.1 (by omega))
      have HRowsx := Lib.hid (HRowsr.out.turn hT.1 (by omega))
      have hlx : w1.heap.size < wc.heap.size := (Array.getElem?_eq_some_iff.1 HNx.out).1
      have HCall := Lib.hid (rexpr_all HTS.out HTx.out.2.drew)
      have hll := HLen.out
      have hkn := HTx.out.2.n
      have hkc := HTr.out.2.k
      generalize exprM ts (nextM ts σ1) = r at *
      clear hT c2
      obtain ⟨d0, d1', d2', d3, d4⟩ := cells5 HNx.out
      have hbP : w1.heap.size ≠ P := by omega
      have C4 := fun x : RE.Gr wc P => x.cell d4 hbP
      have hPx : P < wc.heap.size := HTx.out.2.lt.1
      clear d0 d1' d2' d3 d4
      go_wp2_with fail
      refine RE.wp_region_eff (by kernel_rfl) 5 [3, 4] [3, 4] (fun s W => if s = 0 then W = wc.drew else RTurns wc P L cap ts r.2.1 r.2.2 W) (fun W W' => W.grownBy W' (some P))
        (fun i xs => if i = 3 then .agg #[xs.getD 0 undef, xs.getD 1 undef, xs.getD 2 undef, xs.getD 3 undef, xs.getD 4 undef] else .slice (some ⟨RE.natOf xs, 0, none⟩) 1 1)
        (fun i W xs => if i = 3 then GotR wc.heap.size (fun V => r.2.2 = false → V = r.1) W xs else GotRL wc.heap.size (fun V => r.2.2 = false → V = r.1) W xs) (by kernel_rfl) (fun i h1 h2 => by rw [h1] at h2; cases h2) ?_ rfl ?_
      · intro k W W' xs h _ hg
        split at h
        · rw [if_pos (by assumption)]; exact h.grown hPx hg
        · rw [if_neg (by assumption)]; exact h.grown hPx hg
      simp only [List.take_succ_cons, List.take_zero, List.drop_succ_cons, List.drop_zero, List.length_cons, List.length_nil, Nat.reduceAdd]
      have hcl : ∀ (n s : Nat) (W : World), s ≤ n → (if s = 0 then W = wc.drew else RTurns wc P L cap ts r.2.1 r.2.2 W) → ∃ x : RE.Gr wc P, W = x.1 := fun n s W _ h => by
        split at h
        · exact ⟨⟨W, by rw [h]; exact grown_drewN (World.grownBy.refl wc _) 1⟩, rfl⟩
        · exact ⟨⟨W, h.1⟩, rfl⟩
      have HCl := Lib.hid hcl
      clear hcl
      repeat (refine RE.wpE_read (fun W => ∃ x : RE.Gr wc P, W = x.1) (HCl.out _) rfl rfl rfl rfl ?_; go_big_quiet_step (fail); refine wpQuiet_nil ?_)
      refine RE.wpE_turn rfl rfl ?_ (fun xs3 => ?_)
      · intro W _ hS _
        obtain rfl : W = wc.drew := hS rfl
        refine RE.upon_call 145 _ _ rfl (enters_of Tryz.func145 (by kernel_rfl) rfl) #[.pointer (some ⟨P, 0, none⟩), .int .i64 0] (by simp [Act.eval]) (HCall.out.mono ?_)
        rintro e W' ⟨V, d, s, rfl, hq, hT, ho, hf⟩
        exact ⟨_, rfl, [.int .u8 V.kind, .string V.text, .int .i64 V.num, .int .i64 V.place, s], rfl, hT.of_drew, hT.1, ⟨V, d, s, rfl, hq, ho, hf⟩⟩
      simp only [Act.put, List.setIfInBounds_toArray, List.set_cons_zero, List.set_cons_succ]
      refine RE.wpE_turn rfl rfl ?_ (fun xs4 => ?_)
      · intro W _ hS hφ
        have hT : RTurns wc P L cap ts r.2.1 r.2.2 W := hS rfl
        obtain ⟨V, d, s, rfl, hq, ho, hf⟩ : GotR wc.heap.size (fun V => r.2.2 = false → V = r.1) W xs3 := hφ 3 xs3 (by kernel_rfl) rfl
        obtain ⟨p, c, rfl⟩ := ho.shape
        refine RE.Upon.told (v := .slice (some ⟨W.heap.size, 0, none⟩) 1 1) (w' := W.alloc (.cells (nodeCells V (.slice p V.kids.length c)).toArray 25)) ?_ ⟨[.int .i64 W.heap.size], rfl, hT.alloc _, ?_, ?_⟩
        · unfold RE.Upon
          go_simp
          rfl
        · exact grown_of_below ((Below.refl _ W).alloc (Nat.le_refl _) _) _
        · refine ⟨V, d, W.heap.size, W.heap.size, _, rfl, hq, heap_alloc_new W _, ?_, hf, hT.1.size, Nat.le_refl _⟩
          exact ho.below (fun b hb => hb.2) ((Below.refl _ W).alloc (Nat.le_refl _) _)
      simp only [Act.put, List.setIfInBounds_toArray, List.set_cons_zero, List.set_cons_succ]
      refine RE.wpE_nil ?_
      intro W3 hS hE
      have hT3 : RTurns wc P L cap ts r.2.1 r.2.2 W3 := hS
      obtain ⟨V, d2, gg, N, s2, rfl, hq2, hgg, ho2, hf2, hN1, hN2⟩ := (show GotRL wc.heap.size (fun V => r.2.2 = false → V = r.1) W3 xs4 from hE 4 xs4 rfl)
      have hl3 : wc.heap.size ≤ W3.heap.size := hT3.1.size
      have hown3 := ownsRow_turn HOwnx.out hT3.1 (by omega)
      refine wpList_append_lies W3 rfl (.tmp 51) (.tmp 54) 23 rfl (w1.heap.size + 1) 25 i0 _ 5 64 Tryz.underlying23 hi0 hz0 hz1 hz2 rfl (by decide) o ks.length rows.flatten rfl hown3 ⟨gg, 0, none⟩ 1 1 (nodeCells V s2) rfl rfl
        (fun j u hu => by rw [Addr.add_mid, cell_of_row _ _ _ _ _ _ hgg, Nat.zero_add]; simpa using hu) (by have := ho2.shape; obtain ⟨p, c, rfl⟩ := this; simp [Value.oneCell', nodeCells]) (by decide) (by unfold maxLen; omega) (by omega) (by omega) _ rfl ?_
      intro g7 cap7 w7 happ hgrow hlies _
      obtain ⟨d', rows', Fs', u1, u2, u3, u4, u5, u6⟩ := rup_next (w := w) hP HL.out (Nat.le_of_lt hnb) (show w1.heap.size < w1.heap.size + 1 by omega) (by omega) HTx.out HNx.out HOwnx.out HRowsx.out hT3 hgg ho2 hf2 hN1 hN2 happ hgrow hlies
      have x4 := frozen5 u6 4
      obtain ⟨d0, d1', d2', d3, d4⟩ := cells5 u6
      obtain ⟨Wn, hWn⟩ : ∃ Wn, Wn = w7.setCell ⟨w1.heap.size, 4, none⟩ (.slice (some ⟨g7, 0, none⟩) (ks.length + 1) cap7) := ⟨_, rfl⟩
      rw [← hWn] at u1 u2 u3 u4 u5
      have HU1 := Lib.hid u1
      have HIs := Lib.hid (ris6_any u1.2 tComma (by rw [ByteArray.toList_eq]; decide))
      have HXn := Lib.hid ((u2 w.heap.size (by omega) (by omega) (by omega)).trans HXx.out)
      have HU3 := Lib.hid u3
      have HU4 := Lib.hid u4
      have HU5 := Lib.hid u5
      have HQ2 := Lib.hid hq2
      have HWn := Lib.hid hWn
      clear u1 u2 u3 u4 u5 u6 hlies hgrow happ hE hS hT3 hown3 hgg ho2 C4 hq2 hWn
      go_upto_region 17 with fail
      change Code.wp _ _ _ _ (w7.setCell ⟨w1.heap.size, 4, none⟩ (.slice (some ⟨g7, 0, none⟩) (ks.length + 1) cap7))
      rw [← HWn.out]
      clear HWn x4 d0 d1' d2' d3 d4
      go_wp2_with fail
      refine Calls.mono HIs.out ?_
      rintro e w8 ⟨rfl, hb8⟩
      have hg8 := grown_of_below hb8 (some P)
      have hl9 : w1.heap.size < Wn.heap.size := (Array.getElem?_eq_some_iff.1 HU3.out).1
      have HRel2 : Hid (RSayRel w P L cap ts σ Rw at_ w1.heap.size (.bool (isM ts r.2 [tComma])) w8) := by
        obtain ⟨gs, hs1, hs2⟩ := HStep.out
        refine ⟨ks ++ [r.1], ks ++ [V], r.2, d', rows', Fs', _, _, rfl, Or.inr ⟨by simp, rfl, gs, hs1, hs2⟩, fun hb => by rw [HQ2.out hb], ?_, HU1.out.of_below hb8, heap_below hb8 HXn.out (by omega), heap_below hb8 HU3.out hl9, ownsRow_turn HU4.out hg8 (by omega), HU5.out.turn hg8 (by omega)⟩
        rw [List.length_append, List.length_singleton]
        have := HGe1.out
        have := HQ.out
        omega
      have HMeas : Hid (leftR ts.length P w8 < leftR ts.length P wr) := by
        show _ < _
        rw [(HU1.out.of_below hb8).2.left, HTr.out.2.left]
        have := HGe1.out
        have := HQ.out
        have := HU1.out.2.k
        omega
      clear hb8 hg8
      go_wp2_with fail
      exact ⟨HRel2.out, HMeas.out⟩
end Go.Proofs.YtfpohaipmnjflaaGreatDoor
