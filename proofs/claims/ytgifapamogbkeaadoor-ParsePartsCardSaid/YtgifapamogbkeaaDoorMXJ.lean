/- Several texts joined, each with its own sentence and conditions ahead of it: MovA, AppA, JoinS. -/
import Derived.Test.YtgifapamogbkeaaDoorMXP
import Derived.Deep.AppendSrc
import Derived.Test.YtgifapamogbkeaaDoorMY
/- A tree whose places are moved, made anew; by contract. Condition: texts, lists and places as the parser makes them. -/
namespace Go.Proofs.YtgifapamogbkeaaDoor
open Go.RowKit

def ShPost (d m : Nat) (T : Tree) (w : World) (e : Ending) (w' : World) : Prop :=
  ∃ s, e = .returned (.agg #[.int .u8 T.kind, .string T.text, .int .i64 T.num, .int .i64 (T.place + m), s]) ∧ Below w.heap.size w w' ∧ OwnAt w' d (T.kids.map (shT m)) s (Between w.heap.size w'.heap.size) ∧ ListOwn w' w.heap.size (d - 1) (T.kids.map (shT m)) s
def ShN (d m : Nat) : Prop := ∀ (T : Tree) (u : Value) (B : Nat) (w : World), NodeAt w B d T u → B ≤ w.heap.size → Trim d T → Calls Tryd.prog 6 #[u, .int .i64 m] w (ShPost d m T w)
def ShRel (w : World) (d m : Nat) (ks : List Tree) (n : Nat) (box : Array Value) (o i : Value) (W : World) : Prop :=
  ∃ (k : Nat) (rows : List (List Value)) (Fs : Nat → Nat → Prop), k ≤ n ∧ i = .int .i64 k ∧ W.ownsRow (w.heap.size + 2) 26 5 o k rows.flatten ∧ Below w.heap.size w W ∧ w.heap.size + 2 ≤ W.heap.size ∧ RowsOwn W (w.heap.size + 2) (d - 1) (ks.map (shT m)) k o.ownBlock rows Fs ∧
    W.heap[w.heap.size]? = some (.cells box 26 (0, 0)) ∧ W.heap[w.heap.size + 1]? = some (.cells zeroN 26 (0, 0))
theorem fits_sh {d m : Nat} {T : Tree} (h : Fits T) (ht : Trim d T) (hm : m ≤ 100000) : Fits (shT m T) := by
  obtain ⟨e1, e2, e3, e4, _⟩ := shT_parts m T
  obtain ⟨h1, h2, h3, h4, _, _⟩ := h
  have hp := ht.place
  unfold Fits
  rw [e1, e2, e3, e4]
  exact ⟨h1, h2, h3, h4, by omega, by omega⟩
theorem cells_sh (m : Nat) (T : Tree) (s : Value) : nodeCells (shT m T) s = [.int .u8 T.kind, .string T.text, .int .i64 T.num, .int .i64 (T.place + m), s] := by
  obtain ⟨e1, e2, e3, e4, _⟩ := shT_parts m T
  unfold nodeCells
  rw [e1, e2, e3, e4]
set_option maxRecDepth 100000 in
set_option maxHeartbeats 4000000 in
theorem shN_of (d m : Nat) (hm : m ≤ 100000) (hN : ∀ d', d = d' + 1 → ShN d' m) : ShN d m := by
  intro T u B w hu hB hs
  obtain ⟨hf, s, rfl, hk⟩ := hu
  have hn9 : T.kids.length ≤ 16390 := by
    cases d with
    | zero => rw [hk.1]; exact Nat.zero_le _
    | succ d => exact hs.2.2.1
  have hslim : ∀ t ∈ T.kids, Trim (d - 1) t := by
    cases d with
    | zero => intro t hT; rw [hk.1] at hT; cases hT
    | succ d => exact hs.2.2.2
  have hpl := hs.place
  obtain ⟨p, c, rfl, _, hrow⟩ := hk.rows
  obtain ⟨n, hn⟩ : ∃ n, T.kids.length = n := ⟨_, rfl⟩
  rw [hn] at hn9 ⊢
  obtain ⟨wA, hwA⟩ : ∃ wA, wA = (w.alloc (.cells #[.int .u8 T.kind, .string T.text, .int .i64 T.num, .int .i64 T.place, .slice p n c] 26)).alloc (.cells zeroN 26) := ⟨_, rfl⟩
  have hbA : Below w.heap.size w wA := by rw [hwA]; exact below_two w _ _
  obtain ⟨X0, X1, _⟩ := two_new' w (.cells #[.int .u8 T.kind, .string T.text, .int .i64 T.num, .int .i64 T.place, .slice p n c] 26) (.cells zeroN 26)
  rw [← hwA] at X0 X1
  obtain ⟨wB, hwB⟩ : ∃ wB, wB = wA.setCell ⟨w.heap.size, 3, none⟩ (.int .i64 (T.place + m)) := ⟨_, rfl⟩
  have hszA : w.heap.size + 1 < wA.heap.size := (Array.getElem?_eq_some_iff.1 X1).1
  have hszB : w.heap.size + 2 ≤ wB.heap.size := by rw [hwB]; simp only [World.setCell]; simp; omega
  have hbB : Below w.heap.size w wB := by rw [hwB]; exact hbA.setCell (p := ⟨w.heap.size, 3, none⟩) (Nat.le_refl _) _
  have Y0 : wB.heap[w.heap.size]? = some (.cells #[.int .u8 T.kind, .string T.text, .int .i64 T.num, .int .i64 (T.place + m), .slice p n c] 26 (0, 0)) := by rw [hwB, heap_set X0 3 _]; rfl
  have Y1 : wB.heap[w.heap.size + 1]? = some (.cells zeroN 26 (0, 0)) := by rw [hwB]; exact (Below.heap_setCell _ _ _ _ (show w.heap.size + 1 ≠ w.heap.size by omega)).trans X1
  have HRel : Hid (ShRel w d m T.kids n #[.int .u8 T.kind, .string T.text, .int .i64 T.num, .int .i64 (T.place + m), .slice p n c] (.slice none 0 0) (.int .i64 (0 : Nat)) wB) :=
    ⟨0, [], fun _ _ => False, Nat.zero_le _, rfl, World.ownsRow_nil _ _ _ _, hbB, hszB, rows_none _ _ _ _, Y0, Y1⟩
  have HN := Lib.hid hn
  have HRow := Lib.hid hrow
  have HSl := Lib.hid hslim
  have HLN := Lib.hid hN
  have HBw : Hid (B ≤ w.heap.size) := hB
  obtain ⟨i0, hi0, hz0, hz1, hz2⟩ := info_parts infoNode
  obtain ⟨hp0, hp1⟩ := hpl
  obtain ⟨a0, a1, a2, a3, a4⟩ := cells5 X0
  have f3 := frozen5 X0 3
  have HwB := Lib.hid hwB
  clear hk hs hslim hrow hN hn X0 X1 Y0 Y1 hbA hbB hszA hszB hB hf hwB
  go_enter Tryd.func6, Tryd.ntmps6
  go_upto_region 1 with fail
  change Code.wp _ _ _ _ ((w.alloc (.cells #[.int .u8 T.kind, .string T.text, .int .i64 T.num, .int .i64 T.place, .slice p n c] 26)).alloc (.cells zeroN 26))
  rw [← hwA]
  clear hwA
  go_upto_region 2 with fail
  change Code.wp _ _ _ _ (wA.setCell ⟨w.heap.size, 3, none⟩ (.int .i64 (T.place + m)))
  rw [← HwB.out]
  clear a0 a1 a2 a3 a4 f3
  go_wp2_with fail
  go_loopw [5, 6] (fun o i wr => ShRel w d m T.kids n #[.int .u8 T.kind, .string T.text, .int .i64 T.num, .int .i64 (T.place + m), .slice p n c] o i wr) (fun _ i _ => n - (intOf i).toNat)
  case atStart => exact HRel.out
  case round =>
    clear HRel
    obtain ⟨k, rows, Fs, hk, rfl, hown, hb, hsz, hrl, x0, x1⟩ := hrel
    have hk0 : (0 : Int) ≤ k := by omega
    have HOwn1 := Lib.hid hown
    have HB1 := Lib.hid hb
    have HRL := Lib.hid hrl
    have HX0 := Lib.hid x0
    have HX1 := Lib.hid x1
    obtain ⟨a0, a1, a2, a3, a4⟩ := cells5 x0
    clear hown hrl x0 x1
    by_cases hlt : k < n
    · obtain ⟨t, ht⟩ : ∃ t, T.kids[k]? = some t := ⟨T.kids[k]'(by rw [HN.out]; exact hlt), List.getElem?_eq_getElem (by rw [HN.out]; exact hlt)⟩
      have hmem : t ∈ T.kids := List.mem_of_getElem? ht
      obtain ⟨hd, b, off, rfl, hbB, hkid⟩ := HRow.out k t ht
      obtain ⟨p', l', c', d0, d1, d2, d3, d4, hnode⟩ := hkid.node (hb.mono HBw.out) hbB
      have HF : Hid (Fits (shT m t)) := fits_sh hnode.1 (HSl.out t hmem) hm
      have HT : Hid ((T.kids.map (shT m))[k]? = some (shT m t)) := by show _ = _; rw [List.getElem?_map, ht]; rfl
      have hk1 : (k : Int) < n := by omega
      have HCall := Lib.hid (HLN.out _ hd t _ B wr hnode (Nat.le_trans HBw.out hb.size) (HSl.out t hmem))
      clear hnode hkid ht hmem hd hb
      go_wp2_with fail
      refine HCall.out.mono ?_
      rintro e W2 ⟨s, rfl, hb2, hl, _⟩
      obtain ⟨p2, c2, rfl⟩ := hl.shape
      simp only [List.length_map]
      have HB2 := Lib.hid hb2
      have HL := Lib.hid hl
      have hown2 := ownsRow_below HOwn1.out hb2
      have hsz2 := hb2.size
      have HX20 := Lib.hid (heap_below hb2 HX0.out (by omega))
      have HX21 := Lib.hid (heap_below hb2 HX1.out (by omega))
      clear hb2 hl a0 a1 a2 a3 a4
      go_wp2_with (at_builtin; go_must (refine wpList_append_lies _ rfl (.tmp 19) (.tmp 27) 24 rfl (w.heap.size + 2) 26 i0 _ 5 64 Tryd.underlying24 hi0 hz0 hz1 hz2 rfl (by decide) u5 k rows.flatten rfl (ownsRow_below hown2 ((Below.refl _ W2).alloc (Nat.le_refl _) _)) ⟨W2.heap.size, 0, none⟩ 1 1 [.int .u8 t.kind, .string t.text, .int .i64 t.num, .int .i64 (t.place + m), .slice p2 t.kids.length c2] rfl rfl (by exact news_one W2 _ 26) (by simp [Value.oneCell']) (by decide) (by unfold maxLen; omega) (by omega) (by simp; omega) (W2.heap.size + 1) (by simp) ?_); intro g7 cap7 w7 hown' hgrow hlies hlt7)
      obtain ⟨W3, hW3⟩ : ∃ W3, W3 = W2.alloc (.cells #[.int .u8 t.kind, .string t.text, .int .i64 t.num, .int .i64 (t.place + m), .slice p2 t.kids.length c2] 26) := ⟨_, rfl⟩
      have hgrow3 : W3.grownBy w7 u5.ownBlock := by rw [hW3]; exact hgrow
      have hal : Below W2.heap.size W2 W3 := by rw [hW3]; exact (Below.refl _ W2).alloc (Nat.le_refl _) _
      have hsz3 : W3.heap.size = W2.heap.size + 1 := by rw [hW3]; simp
      have hob := own_block HOwn1.out
      have hsg := hgrow3.size
      have hb3 : Below w.heap.size w w7 := below_grownO ((HB1.out.trans (HB2.out.mono HB1.out.size)).trans (hal.mono (Nat.le_trans HB1.out.size hsz2))) (by omega) hgrow3 (fun g hg => by have := (hob g hg).1; omega)
      have hkeep2 : ∀ x, x < W2.heap.size → u5.ownBlock ≠ some x → w7.heap[x]? = W2.heap[x]? := fun x hx hne => (hgrow3.block x (by omega) (fun e => hne e.symm)).trans (hal.block x hx)
      obtain ⟨Fs', hnext⟩ := RowsOwn.next (W' := w7) (N := W2.heap.size) (own' := some g7) HRL.out HT.out HF.out (by rw [(shT_parts m t).2.2.2.2]; exact HL.out.keep fun x o hx ho => (hkeep2 x hx.2 (fun e => by have := (hob x e).2; have := hx.1; omega)).trans ho) hsz2 (by omega) hsz (by omega)
        (fun x hx hne => (hkeep2 x (by omega) hne).trans (HB2.out.block x hx)) (fun x hx => by
          injection hx with hx
          subst hx
          rcases hlies with h | h
          · exact Or.inl ⟨h, (hob _ h).2⟩
          · right; omega)
      rw [cells_sh] at hnext
      refine ⟨⟨k + 1, _, Fs', by omega, by go_num, ?_, hb3, by omega, hnext, ?_, ?_⟩, by simp [intOf]; omega⟩
      · rw [List.flatten_append]
        simpa using hown'
      · exact (hkeep2 _ (by omega) (fun e => by have := (hob _ e).1; omega)).trans HX20.out
      · exact (hkeep2 _ (by omega) (fun e => by have := (hob _ e).1; omega)).trans HX21.out
    · obtain rfl : k = n := by omega
      have hown := HOwn1.out
      have hrl := HRL.out
      have hlen : (T.kids.map (shT m)).length = k := by rw [List.length_map]; exact HN.out
      have hfin := own_fin (d := d) hlen hown hrl (fun h0 => by
        have hr := HRow.out
        cases hks : T.kids with
        | nil => rfl
        | cons x l =>
          have := (hr 0 x (by rw [hks]; rfl)).1
          omega)
      have hlist : ListOwn wr (w.heap.size + 2) (d - 1) (T.kids.map (shT m)) u5 := ⟨rows, Fs, by rw [hlen]; exact hown, by rw [hlen]; exact hrl⟩
      obtain ⟨pz, cz, rfl⟩ := hfin.shape
      rw [hlen] at hfin hlist ⊢
      have HFin := Lib.hid hfin
      have HList := Lib.hid hlist
      have f4 := frozen5 HX0.out 4
      obtain ⟨b0, b1, b2, b3, b4⟩ := cells5 HX1.out
      have g0 := frozen5 HX1.out 0
      have g1 := frozen5 HX1.out 1
      have g2 := frozen5 HX1.out 2
      have g3 := frozen5 HX1.out 3
      have g4 := frozen5 HX1.out 4
      obtain ⟨Wy, hWy⟩ : ∃ Wy, Wy = wr.setCell ⟨w.heap.size, 4, none⟩ (.slice pz k cz) := ⟨_, rfl⟩
      obtain ⟨Wz, hWz⟩ : ∃ Wz, Wz = set5 Wy (w.heap.size + 1) (.int .u8 T.kind) (.string T.text) (.int .i64 T.num) (.int .i64 (T.place + m)) (.slice pz k cz) := ⟨_, rfl⟩
      have hother : ∀ b, w.heap.size + 2 ≤ b → Wz.heap[b]? = wr.heap[b]? := fun b hb2 => by
        rw [hWz, hWy]
        exact (set5_other (show b ≠ w.heap.size + 1 by omega) _ _ _ _ _).trans (Below.heap_setCell _ _ _ _ (show b ≠ w.heap.size by omega))
      have hszz : Wz.heap.size = wr.heap.size := by rw [hWz, set5_size, hWy]; simp [World.setCell]
      have hbz : Below w.heap.size w Wz := by
        rw [hWz, hWy]; unfold set5
        exact (((((HB1.out.setCell (p := ⟨w.heap.size, 4, none⟩) (Nat.le_refl _) _).setCell (p := ⟨w.heap.size + 1, 0, none⟩) (Nat.le_succ _) _).setCell (p := ⟨w.heap.size + 1, 1, none⟩) (Nat.le_succ _) _).setCell (p := ⟨w.heap.size + 1, 2, none⟩) (Nat.le_succ _) _).setCell (p := ⟨w.heap.size + 1, 3, none⟩) (Nat.le_succ _) _).setCell (p := ⟨w.heap.size + 1, 4, none⟩) (Nat.le_succ _) _
      have hres : Wz.heap[w.heap.size + 1]? = some (.cells #[.int .u8 T.kind, .string T.text, .int .i64 T.num, .int .i64 (T.place + m), .slice pz k cz] 26 (0, 0)) := by
        rw [hWz, hWy]
        exact heap_set5 ((Below.heap_setCell _ _ _ _ (show w.heap.size + 1 ≠ w.heap.size by omega)).trans HX1.out) _ _ _ _ _
      have HRes := Lib.hid hres
      have HBz := Lib.hid hbz
      have HOth := Lib.hid hother
      have HSzz := Lib.hid hszz
      have HWz := Lib.hid hWz
      rw [hWy] at HWz
      clear hk hlt hk0 hb hown hrl hlen hfin hlist hWy hWz hother hszz hbz hres
      go_wp2_with fail
      change bodyPost _ _ _ _ _ (set5 (wr.setCell ⟨w.heap.size, 4, none⟩ (.slice pz k cz)) (w.heap.size + 1) (.int .u8 T.kind) (.string T.text) (.int .i64 T.num) (.int .i64 (T.place + m)) (.slice pz k cz))
      rw [← HWz.out]
      refine ret_node Tryd.results6 rfl HRes.out rfl ⟨_, rfl, HBz.out, ?_, ?_⟩
      · refine (HFin.out.keep fun b o hb ho => (HOth.out b (by have := hb.1; omega)).trans ho).sub fun b hb => ?_
        have h1 := hb.1
        have h2 := hb.2
        exact ⟨by omega, by rw [HSzz.out]; exact h2⟩
      · exact (HList.out.keep (by rw [HSzz.out]; exact Nat.le_refl _) (fun b hb _ => HOth.out b hb)).low (by omega)
theorem shN_any (m : Nat) (hm : m ≤ 100000) : ∀ d, ShN d m := by
  intro d
  induction d with
  | zero => exact shN_of 0 m hm (fun d' h => by omega)
  | succ d ih =>
    refine shN_of (d + 1) m hm (fun d' h => ?_)
    have e : d' = d := by omega
    subst e
    exact ih
end Go.Proofs.YtgifapamogbkeaaDoor
/- A list of nodes appended to a list of the call's own, whatever its length; as an operation of a region. Condition: at most 40000 nodes in all. -/
namespace Go.Proofs.YtgifapamogbkeaaDoor
open Go.RowKit

theorem run_append_rows {W : World} {L n m c : Nat} {v x : Value} {xs news : List Value} (ty : TypeId) (hown : W.ownsRow L 26 5 v n xs)
    (hx : (∃ ad, x = .slice (some ad) m c ∧ ∀ j u, news[j]? = some u → W.cell? (ad.add j) = some u) ∨ (x = .slice none 0 c ∧ m = 0)) (hl : news.length = m * 5) (h1 : ∀ u ∈ news, u.oneCell' = true) (hsz : n + m ≤ 40000) (hL : L ≤ W.heap.size) :
    ∃ v' w', (Builtin.append_ #[24, 24] ty #[v, x]).run Tryd.prog W = .ok v' w' ∧ w'.ownsRow L 26 5 v' (n + m) (xs ++ news) ∧ W.grownBy w' v.ownBlock := by
  obtain ⟨i0, hi0, hz0, hz1, hz2⟩ := info_parts infoNode
  rcases hx with ⟨ad, rfl, hc⟩ | ⟨rfl, rfl⟩
  · obtain ⟨v', w', h2, h3, h4, _⟩ := run_append_own_at (P := Tryd.prog) W L 24 ty 26 i0 _ 5 64 Tryd.underlying24 hi0 hz0 hz1 hz2 rfl (by decide) v n xs hown ad m c news hl hc h1 (by unfold maxLen; omega) (by omega) hL
    exact ⟨v', w', h2, h3, h4⟩
  · have hn : news = [] := List.eq_nil_of_length_eq_zero (by omega)
    subst hn
    rcases hown.2 with ⟨rfl, rfl⟩ | ⟨g, cap, cur, rfl, hg, hrest⟩
    · refine ⟨.slice none 0 0, W, ?_, ?_, World.grownBy.refl W _⟩
      · simp [Builtin.append_, run_underlying Tryd.underlying24, sizeOf, typeInfo, hi0, Builtin.lenOf, Builtin.firstCells]
      · have hx0 : xs = [] := List.eq_nil_of_length_eq_zero (by have := hown.1; omega)
        subst hx0
        exact hown
    · refine ⟨.slice (some ⟨g, 0, none⟩) n cap, W, ?_, by rw [List.append_nil]; exact hown, World.grownBy.refl W _⟩
      have := run_append_room_src (P := Tryd.prog) W 24 24 ty 26 i0 Tryd.underlying24 hi0 g 0 n cap (.slice none 0 c) 0 [] (Src.ofNil W Tryd.underlying24 c) (by have := hrest.2.1; omega) (fun j hj => absurd hj (Nat.not_lt_zero _)) (fun j hj => absurd hj (Nat.not_lt_zero _))
      exact this
/-- as an operation of a region -/
theorem upon_append_run {o : Oper} {a : Act} {W w' : World} {v x v' : Value} {G : Value → World → Prop} (s y : Operand) (hop : o.op = .call { callee := .builtin .append, args := #[s, y], argTypes := #[24, 24] }) (hs : a.eval s = v) (hy : a.eval y = x)
    (h : (Builtin.append_ #[24, 24] o.type #[v, x]).run Tryd.prog W = .ok v' w') (hG : G v' w') : RE.Upon Tryd.prog o a W G := by
  refine RE.upon_run (v := v') (w' := w') ?_ hG
  simp [execOp, hop, resolve, invoke, builtin, hs, hy, h, Result.andThen]
/-- a row's cells, read as a list of nodes -/
theorem kids_of_row {W : World} {L B d : Nat} {ks : List Tree} {v : Value} {rows : List (List Value)} (hown : W.ownsRow L 26 5 v ks.length rows.flatten) (h5 : ∀ r ∈ rows, r.length = 5) (hB : W.heap.size ≤ B)
    (hr : ∀ (i : Nat) (T : Tree), ks[i]? = some T → Fits T ∧ ∃ s, rows[i]? = some (nodeCells T s) ∧ KidsAt W B d T.kids s) : KidsAt W B (d + 1) ks v := by
  by_cases hk : ks = []
  · subst hk
    rcases hown.2 with ⟨rfl, _⟩ | ⟨g, cap, cur, rfl, _⟩
    · exact Or.inl ⟨rfl, none, 0, rfl⟩
    · exact Or.inl ⟨rfl, _, _, rfl⟩
  · rcases hown.2 with ⟨rfl, h0⟩ | ⟨g, cap, cur, rfl, hg, hc, c1, c2, c3, c4⟩
    · exact absurd (List.eq_nil_of_length_eq_zero h0) hk
    · refine Or.inr ⟨g, 0, cap, hk, Nat.lt_of_lt_of_le (Array.getElem?_eq_some_iff.1 hc).1 hB, c1, c2, rfl, fun i T hT => ?_⟩
      obtain ⟨hf, s, a2, a3⟩ := hr i T hT
      have e : ∀ m u, (nodeCells T s)[m]? = some u → W.cell? ⟨g, 0 + i * 5 + m, none⟩ = some u := fun m u hu => by
        rw [cell_of_row _ _ _ _ _ _ hc, Nat.zero_add]
        have hx := flat5 rows h5 i m _ u a2 hu
        rw [← c4, List.getElem?_take] at hx
        split at hx
        · simpa using hx
        · cases hx
      exact ⟨hf, s, e 0 _ rfl, e 1 _ rfl, e 2 _ rfl, e 3 _ rfl, e 4 _ rfl, a3⟩
/-- two lists of one's own, the one appended to the other -/
theorem append_lists {W : World} {La Lb d : Nat} {ka kb : List Tree} {va vb : Value} (ha : ListOwn W La d ka va) (hb : ListOwn W Lb d kb vb) (hab : ∀ b, va.ownBlock = some b → b < Lb) (hLb : La ≤ Lb) (hLw : Lb ≤ W.heap.size) (hsz : ka.length + kb.length ≤ 40000) (ty : TypeId) :
    ∃ v' w', (Builtin.append_ #[24, 24] ty #[va, vb]).run Tryd.prog W = .ok v' w' ∧ KidsAt w' w'.heap.size (d + 1) (ka ++ kb) v' ∧ W.grownBy w' va.ownBlock := by
  obtain ⟨ra, Fa, oa, a1, a2, a3, a4, a5, a6⟩ := ha
  obtain ⟨rb, Fb, ob, b1, b2, b3, b4, b5, b6⟩ := hb
  have hone : ∀ u ∈ rb.flatten, u.oneCell' = true := fun u hu => by
    obtain ⟨r, hr, hur⟩ := List.mem_flatten.1 hu
    obtain ⟨i, hi⟩ := List.getElem?_of_mem hr
    have hil : i < kb.length := by have := (List.getElem?_eq_some_iff.1 hi).1; omega
    obtain ⟨_, s, h2, h3⟩ := b3 i _ hil (List.getElem?_eq_getElem hil)
    rw [hi] at h2
    injection h2 with h2
    subst h2
    obtain ⟨p, c, rfl⟩ := h3.shape
    simp [nodeCells] at hur
    rcases hur with rfl | rfl | rfl | rfl | rfl <;> rfl
  have hsrc : (∃ ad c, vb = .slice (some ad) kb.length c ∧ ∀ j u, rb.flatten[j]? = some u → W.cell? (ad.add j) = some u) ∨ (∃ c, vb = .slice none 0 c ∧ kb.length = 0) := by
    rcases ob.2 with ⟨rfl, h0⟩ | ⟨g, cap, cur, rfl, hg, hc, c1, c2, c3, c4⟩
    · exact Or.inr ⟨0, rfl, h0⟩
    · refine Or.inl ⟨⟨g, 0, none⟩, cap, rfl, fun j u hu => ?_⟩
      rw [Addr.add_mid, cell_of_row _ _ _ _ _ _ hc, Nat.zero_add]
      rw [← c4, List.getElem?_take] at hu
      split at hu
      · simpa using hu
      · cases hu
  obtain ⟨v', w', h1, h2, h3⟩ : ∃ v' w', (Builtin.append_ #[24, 24] ty #[va, vb]).run Tryd.prog W = .ok v' w' ∧ w'.ownsRow La 26 5 v' (ka.length + kb.length) (ra.flatten ++ rb.flatten) ∧ W.grownBy w' va.ownBlock := by
    rcases hsrc with ⟨ad, c, hv, hcell⟩ | ⟨c, hv, h0⟩
    · exact run_append_rows ty oa (Or.inl ⟨ad, hv, hcell⟩) ob.1 hone hsz (by omega)
    · exact run_append_rows ty oa (Or.inr ⟨hv, h0⟩) ob.1 hone hsz (by omega)
  refine ⟨v', w', h1, ?_, h3⟩
  have hown : w'.ownsRow La 26 5 v' (ka ++ kb).length (ra ++ rb).flatten := by rw [List.length_append, List.flatten_append]; exact h2
  refine kids_of_row hown (fun r hr => ?_) (Nat.le_refl _) (fun i T hT => ?_)
  · rcases List.mem_append.1 hr with hr | hr
    · exact a2 r hr
    · exact b2 r hr
  · rcases Nat.lt_or_ge i ka.length with hi | hi
    · rw [List.getElem?_append_left hi] at hT
      obtain ⟨hf, s, e1, e2⟩ := a3 i T hi hT
      refine ⟨hf, s, by rw [List.getElem?_append_left (by omega)]; exact e1, (e2.keep fun b o hb ho => (h3.block b (a4 i b hb).2.1 (fun e => (a4 i b hb).2.2 e.symm)).trans ho).kids fun b hb => Nat.lt_of_lt_of_le (a4 i b hb).2.1 h3.size⟩
    · rw [List.getElem?_append_right hi] at hT
      have hil : i - ka.length < kb.length := (List.getElem?_eq_some_iff.1 hT).1
      obtain ⟨hf, s, e1, e2⟩ := b3 _ T hil hT
      refine ⟨hf, s, by rw [List.getElem?_append_right (by omega), a1]; exact e1, (e2.keep fun b o hb ho => (h3.block b (b4 _ b hb).2.1 (fun e => by have := hab b e.symm; have := (b4 _ b hb).1; omega)).trans ho).kids fun b hb => Nat.lt_of_lt_of_le (b4 _ b hb).2.1 h3.size⟩
end Go.Proofs.YtgifapamogbkeaaDoor
/- ParseParts, the plain law: what two sources, one behind the other, and an expression in brackets are told. Condition: at most 16384 bytes. -/
namespace Go.Proofs.YtgifapamogbkeaaDoor
open Go.RowKit

/-! places farther on make no difference to what is right, how deep it is -/
section
variable (m : Nat)
theorem shT_kt (t : Tree) : (shT m t).kind = t.kind ∧ (shT m t).text = t.text := ⟨(shT_parts m t).1, (shT_parts m t).2.1⟩
theorem among_sh (S : List Nat) (l : List Tree) : among S (l.map (shT m)) = among S l := by
  unfold among
  rw [List.all_map]
  congr 1
  funext t
  show S.contains (shT m t).kind = _
  rw [(shT_kt m t).1]
theorem exprsB_sh (l : List Tree) : exprsB (l.map (shT m)) = exprsB l := by
  unfold exprsB
  rw [among_sh, List.all_map]
  congr 2
  funext t
  show (!((shT m t).kind == 14 && negB (shT m t).text.data.toList)) = _
  rw [(shT_kt m t).1, (shT_kt m t).2]
theorem rowB_sh (l : List Tree) : rowB (l.map (shT m)) = rowB l := by
  unfold rowB
  have e : (l.map (shT m)).dropWhile condB = (l.dropWhile condB).map (shT m) := by
    induction l with
    | nil => rfl
    | cons x l ih =>
      rw [List.map_cons, List.dropWhile_cons, List.dropWhile_cons]
      have : condB (shT m x) = condB x := by unfold condB; rw [(shT_kt m x).1]
      rw [this]
      split
      · exact ih
      · rfl
  rw [e, among_sh]
theorem kidsOk_sh (kind : Nat) (l : List Tree) : kidsOk kind (l.map (shT m)) = kidsOk kind l := by
  unfold kidsOk
  simp only [among_sh, exprsB_sh, rowB_sh, List.length_map]
  congr 7
  cases l <;> rfl
theorem levelOk_sh (T : Tree) (h : levelOk T = true) : levelOk (shT m T) = true := by
  obtain ⟨e1, e2, e3, e4, e5⟩ := shT_parts m T
  unfold levelOk at h ⊢
  rw [e1, e2, e3, e4, e5, kidsOk_sh, List.length_map]
  have e6 : decide (0 ≤ T.place) = true := by
    cases hd : decide (0 ≤ T.place)
    · rw [hd] at h; simp at h
    · rfl
  have e7 : decide (0 ≤ T.place + m) = true := by simp at e6 ⊢; omega
  rw [e6] at h
  rw [e7]; exact h
theorem okF_sh : ∀ (d : Nat) (T : Tree), okF d T = true → okF d (shT m T) = true := by
  intro d
  induction d with
  | zero => intro T h; exact levelOk_sh m T h
  | succ d ih =>
    intro T h
    unfold okF at h ⊢
    rw [Bool.and_eq_true] at h ⊢
    refine ⟨levelOk_sh m T h.1, ?_⟩
    rw [(shT_parts m T).2.2.2.2, List.all_map]
    exact List.all_eq_true.2 fun t ht => ih t (List.all_eq_true.1 h.2 t ht)
theorem deepF_sh : ∀ (d : Nat) (T : Tree), deepF d (shT m T) = deepF d T ∧ manyF d (shT m T) = manyF d T := by
  intro d
  induction d with
  | zero => intro T; exact ⟨rfl, rfl⟩
  | succ d ih =>
    intro T
    unfold deepF manyF
    rw [(shT_parts m T).2.2.2.2, List.map_map, List.map_map]
    have h1 : (deepF d ∘ shT m) = deepF d := by funext t; exact (ih t).1
    have h2 : (manyF d ∘ shT m) = manyF d := by funext t; exact (ih t).2
    rw [h1, h2]
    exact ⟨rfl, rfl⟩
theorem dpM_sh : ∀ (n : Nat) (T : Tree), dpM n T = none → dpM n (shT m T) = none := by
  intro n
  induction n with
  | zero => intro T h; cases h
  | succ n ih =>
    intro T h
    unfold dpM at h ⊢
    rw [(shT_parts m T).2.2.2.2]
    rw [List.findSome?_eq_none_iff] at h ⊢
    intro t ht
    obtain ⟨u, hu, rfl⟩ := List.mem_map.1 ht
    exact ih u (h u hu)
end
/-- what a source that is told a program has -/
theorem progM_ok {s : ByteArray} {T : Tree} {at_ : Int} (h : progM s = (T, 0, at_)) : s.size ≤ 16384 ∧ (toksFrom s 0).2 = none ∧ T = progT s ∧ (∃ n, progD (allTk s) = (T.kids, (n, false))) ∧ dpM 30 T = none ∧ rightF 30 T = true ∧ at_ = 0 := by
  unfold progM at h
  by_cases hs : 16384 < s.size
  · rw [if_pos hs] at h
    have := congrArg (fun x => x.2.1) h
    cases this
  · rw [if_neg hs] at h
    cases h0 : (toksFrom s 0).2 with
    | some q =>
      obtain ⟨er, pl⟩ := q
      rw [h0] at h
      have h1 : ((er : Int)) = 0 := congrArg (fun x => x.2.1) h
      have := (toks_err s _ 0 er pl h0).1
      omega
    | none =>
      rw [h0] at h
      have h' : progR (allTk s) (progD (allTk s)) (progT s) = (T, 0, at_) := h
      have hk : (progT s).kids = (progD (allTk s)).1 := rfl
      refine ⟨by omega, rfl, ?_⟩
      unfold progR at h'
      generalize progD (allTk s) = R at *
      generalize progT s = T0 at *
      by_cases hb : R.2.2 = true
      · rw [if_pos hb] at h'
        have := congrArg (fun x => x.2.1) h'
        cases this
      · rw [if_neg hb] at h'
        cases hd : dpM 30 T0 with
        | some p =>
          rw [hd] at h'
          have := congrArg (fun x => x.2.1) h'
          cases this
        | none =>
          rw [hd] at h'
          dsimp only at h'
          by_cases hr : rightF 30 T0 = true
          · rw [if_pos hr] at h'
            have e1 : T0 = T := congrArg (fun x => x.1) h'
            have e2 : (0 : Int) = at_ := congrArg (fun x => x.2.2) h'
            subst e1
            refine ⟨rfl, ⟨R.2.1, ?_⟩, hd, hr, e2.symm⟩
            rw [hk]
            refine Prod.ext rfl (Prod.ext rfl ?_)
            simpa using hb
          · rw [if_neg hr] at h'
            have := congrArg (fun x => x.2.1) h'
            cases this
theorem progM_of {s : ByteArray} (hs : s.size ≤ 16384) (h0 : (toksFrom s 0).2 = none) {n : Nat} {ks : List Tree} (hp : progD (allTk s) = (ks, (n, false))) (hd : dpM 30 (.mk 1 ⟨#[]⟩ 0 0 ks) = none) :
    progM s = if rightF 30 (.mk 1 ⟨#[]⟩ 0 0 ks) = true then (.mk 1 ⟨#[]⟩ 0 0 ks, 0, 0) else (zeroT, 204, 0) := by
  have hT : progT s = .mk 1 ⟨#[]⟩ 0 0 ks := by unfold progT; rw [hp]
  unfold progM
  rw [if_neg (by omega), h0]
  show progR _ _ _ = _
  unfold progR
  rw [hp, hT, if_neg (show ¬ false = true by decide), hd]
theorem tree_of (T : Tree) {s : ByteArray} (h : T = progT s) : T = .mk 1 ⟨#[]⟩ 0 0 T.kids := by rw [h]; rfl
/-- TWO PROGRAMS, one behind the other -/
theorem join_told {a b S : ByteArray} {Ta Tb : Tree} {xa xb : Int} (hS : S.data.toList = a.data.toList ++ 10 :: b.data.toList) (hsz : S.size ≤ 16384) (ha : progM a = (Ta, 0, xa)) (hb : progM b = (Tb, 0, xb)) :
    progM S = (.mk 1 ⟨#[]⟩ 0 0 (Ta.kids ++ Tb.kids.map (shT (a.size + 1))), 0, 0) ∨ progM S = (zeroT, 204, 0) := by
  obtain ⟨a1, a2, a3, ⟨na, a4⟩, a5, _⟩ := progM_ok ha
  obtain ⟨b1, b2, b3, ⟨nb, b4⟩, b5, _⟩ := progM_ok hb
  have hna : kdM (allTk a) (na, false) = 7 := progL_end (allTk_ok a a1) ((allTk a).length + 1) [] (0, false) na (by rw [allTk_len]; exact Nat.succ_pos _) (Or.inr (by omega)) (congrArg Prod.snd a4)
  obtain ⟨h0, n, hn⟩ := prog_join a b S Ta.kids Tb.kids na nb hS hsz a2 b2 a4 b4 hna
  have hd : dpM 30 (.mk 1 ⟨#[]⟩ 0 0 (Ta.kids ++ Tb.kids.map (shT (a.size + 1)))) = none := by
    have h1 : Ta.kids.findSome? (dpM 29) = none := a5
    have h2 : Tb.kids.findSome? (dpM 29) = none := b5
    show (Ta.kids ++ Tb.kids.map (shT (a.size + 1))).findSome? (dpM 29) = none
    rw [List.findSome?_append, h1, Option.none_or]
    rw [List.findSome?_eq_none_iff] at h2 ⊢
    intro t ht
    obtain ⟨u, hu, rfl⟩ := List.mem_map.1 ht
    exact dpM_sh _ 29 u (h2 u hu)
  have := progM_of hsz h0 hn hd
  by_cases hr : rightF 30 (.mk 1 ⟨#[]⟩ 0 0 (Ta.kids ++ Tb.kids.map (shT (a.size + 1)))) = true
  · rw [if_pos hr] at this; exact Or.inl this
  · rw [if_neg hr] at this; exact Or.inr this
theorem dpM_one (n k : Nat) (t : ByteArray) (nu p : Int) (q : Tree) : dpM (n + 1) (.mk k t nu p [q]) = dpM n q := by
  show [q].findSome? (dpM n) = _
  rw [List.findSome?_cons]
  cases dpM n q <;> rfl
/-- AN EXPRESSION IN BRACKETS -/
theorem brack_told {a S1 S2 : ByteArray} {T1 p1 : Tree} {x1 : Int} (hs2 : S2.size ≤ 16384) (hS1 : S1.data.toList = preL ++ (a.data.toList ++ [10, 59, 32, 125])) (hS2 : S2.data.toList = preL ++ ([40, 32, 35, 32, 99, 10] ++ (a.data.toList ++ [10, 41, 32, 59, 32, 125])))
    (h1 : progM S1 = (T1, 0, x1)) (ho : onlyM 3 T1 = some p1) : ∃ T2, progM S2 = (T2, 0, 0) ∧ onlyM 3 T2 = some (shT 6 p1) := by
  obtain ⟨a1, a2, a3, ⟨n, a4⟩, a5, a6, _⟩ := progM_ok h1
  obtain ⟨r1, hr1⟩ : ∃ r, T1.kids = [r] := by
    unfold onlyM at ho
    split at ho
    · exact ⟨_, by assumption⟩
    · cases ho
  have ho2 : onlyM 2 r1 = some p1 := by unfold onlyM at ho; rw [hr1] at ho; exact ho
  obtain ⟨c1, hc1⟩ : ∃ r, r1.kids = [r] := by
    unfold onlyM at ho2
    split at ho2
    · exact ⟨_, by assumption⟩
    · cases ho2
  have ho3 : onlyM 1 c1 = some p1 := by unfold onlyM at ho2; rw [hc1] at ho2; exact ho2
  have hd1 : c1.kids = [p1] := by
    unfold onlyM at ho3
    split at ho3
    · rename_i k hk
      have : some k = some p1 := ho3
      injection this with this
      rw [← this]; exact hk
    · cases ho3
  rw [hr1] at a4
  obtain ⟨e1, e2, n', e3⟩ := brack a S1 S2 a1 hS1 hS2 a2 r1 c1 p1 n a4 hc1 hd1
  have hT1 : T1 = .mk 1 ⟨#[]⟩ 0 0 [.mk 4 tNameR 0 0 [.mk 10 ⟨#[]⟩ 0 12 [p1]]] := by rw [tree_of T1 a3, hr1, e1]
  rw [hT1] at a5 a6
  have d1 : dpM 27 p1 = none := by rw [dpM_one, dpM_one, dpM_one] at a5; exact a5
  have hd : dpM 30 (.mk 1 ⟨#[]⟩ 0 0 [.mk 4 tNameR 0 0 [.mk 10 ⟨#[]⟩ 0 12 [shT 6 p1]]]) = none := by rw [dpM_one, dpM_one, dpM_one]; exact dpM_sh 6 27 p1 d1
  have hright : rightF 30 (.mk 1 ⟨#[]⟩ 0 0 [.mk 4 tNameR 0 0 [.mk 10 ⟨#[]⟩ 0 12 [shT 6 p1]]]) = true := by
    unfold rightF at a6 ⊢
    have hdeep : ∀ q : Tree, deepF 30 (.mk 1 ⟨#[]⟩ 0 0 [.mk 4 tNameR 0 0 [.mk 10 ⟨#[]⟩ 0 12 [q]]]) = Nat.max 0 (Nat.max 0 (Nat.max 0 (deepF 27 q) + 1) + 1) + 1 := fun q => rfl
    have hmany : ∀ q : Tree, manyF 30 (.mk 1 ⟨#[]⟩ 0 0 [.mk 4 tNameR 0 0 [.mk 10 ⟨#[]⟩ 0 12 [q]]]) = 1 + (1 + (1 + manyF 27 q)) := fun q => rfl
    have hok : ∀ q : Tree, okF 30 (.mk 1 ⟨#[]⟩ 0 0 [.mk 4 tNameR 0 0 [.mk 10 ⟨#[]⟩ 0 12 [q]]]) = (levelOk (.mk 1 ⟨#[]⟩ 0 0 [.mk 4 tNameR 0 0 [.mk 10 ⟨#[]⟩ 0 12 [q]]]) && (((levelOk (.mk 4 tNameR 0 0 [.mk 10 ⟨#[]⟩ 0 12 [q]]) && (((levelOk (.mk 10 ⟨#[]⟩ 0 12 [q]) && ((okF 27 q && true))) && true))) && true))) := fun q => rfl
    have hlv : levelOk (.mk 10 ⟨#[]⟩ 0 12 [shT 6 p1]) = levelOk (.mk 10 ⟨#[]⟩ 0 12 [p1]) := by
      unfold levelOk
      simp only [Tree.kind, Tree.text, Tree.num, Tree.place, Tree.kids]
      have := kidsOk_sh 6 10 [p1]
      rw [List.map_singleton] at this
      rw [this]
      rfl
    have hl4 : levelOk (.mk 4 tNameR 0 0 [.mk 10 ⟨#[]⟩ 0 12 [shT 6 p1]]) = levelOk (.mk 4 tNameR 0 0 [.mk 10 ⟨#[]⟩ 0 12 [p1]]) := rfl
    have hl1 : levelOk (.mk 1 ⟨#[]⟩ 0 0 [.mk 4 tNameR 0 0 [.mk 10 ⟨#[]⟩ 0 12 [shT 6 p1]]]) = levelOk (.mk 1 ⟨#[]⟩ 0 0 [.mk 4 tNameR 0 0 [.mk 10 ⟨#[]⟩ 0 12 [p1]]]) := rfl
    rw [hdeep, hmany, hok] at a6 ⊢
    rw [(deepF_sh 6 27 p1).1, (deepF_sh 6 27 p1).2, hlv, hl4, hl1]
    simp only [Bool.and_eq_true, Bool.and_true] at a6 ⊢
    exact ⟨⟨⟨a6.1.1.1, a6.1.1.2.1, a6.1.1.2.2.1, a6.1.1.2.2.2.1, okF_sh 6 27 p1 a6.1.1.2.2.2.2⟩, a6.1.2⟩, a6.2⟩
  have h9 := progM_of hs2 e2 e3 hd
  rw [if_pos hright] at h9
  exact ⟨_, h9, rfl⟩
end Go.Proofs.YtgifapamogbkeaaDoor
