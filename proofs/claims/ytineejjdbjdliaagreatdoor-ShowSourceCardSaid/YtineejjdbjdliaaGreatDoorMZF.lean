/- Several texts joined, each with its own sentence and conditions ahead of it: BackF, LawShSrc. -/
import Derived.Test.YtineejjdbjdliaaGreatDoorMZB
import Derived.Test.YtineejjdbjdliaaGreatDoorMSB
import Derived.Test.YtineejjdbjdliaaGreatDoorMZS
/- Trees that are the same, but for places, have one text; a source with blanks and a comment ahead of it is read alike; with no program in sight. Condition: at most 16384 bytes. -/
namespace Go.Proofs.YtineejjdbjdliaaGreatDoor
open Go.RowKit

/-! one text -/
theorem binds_like {a b : Tree} (h : Like a b) : bindsM b = bindsM a := by
  obtain ⟨h1, h2, _, h4⟩ := h.parts
  unfold bindsM
  rw [h1, h2, h4.1]
theorem inB_like {a b : Tree} (h : Like a b) (n : Nat) (l : List UInt8) : inB b n l = inB a n l := by
  unfold inB
  rw [binds_like h]
theorem leafS_like {a b : Tree} (h : Like a b) : leafS b = leafS a := by
  obtain ⟨h1, h2, _, _⟩ := h.parts
  unfold leafS
  rw [h1, h2]
theorem exprS_like : ∀ (d : Nat) {a b : Tree}, Like a b → exprS d b = exprS d a := by
  intro d
  induction d with
  | zero => intro a b h; exact leafS_like h
  | succ d ih =>
    intro a b h
    have hb := binds_like h
    have hl := leafS_like h
    obtain ⟨h1, h2, _, h4⟩ := h.parts
    unfold exprS
    rw [hb, hl, ← h1, ← h2]
    by_cases hk : a.kind = 16
    · rw [if_pos hk, if_pos hk]
      generalize a.kids = l at *
      generalize b.kids = m at *
      match l, m, h4 with
      | [], [], _ => rfl
      | [], _ :: _, h4 => have := h4.1; simp at this
      | _ :: _, [], h4 => have := h4.1; simp at this
      | [x], [y], h4 =>
        obtain ⟨k1, _⟩ := likeL_inv h4
        dsimp only
        rw [ih k1, inB_like k1]
      | [_], _ :: _ :: _, h4 => have := h4.1; simp at this
      | _ :: _ :: _, [_], h4 => have := h4.1; simp at this
      | x :: x' :: _, y :: y' :: _, h4 =>
        obtain ⟨k1, k2⟩ := likeL_inv h4
        obtain ⟨k3, _⟩ := likeL_inv k2
        dsimp only
        rw [ih k1, inB_like k1, ih k3, inB_like k3]
    · rw [if_neg hk, if_neg hk]
theorem rowS_like {f : Tree → List UInt8} {l m : List Tree} (h : LikeL l m) (hf : ∀ a b, Like a b → f b = f a) : rowS f m = rowS f l := by
  unfold rowS
  rw [likeL_map (fun T => [44, 32] ++ f T) h fun a b _ _ hab => by rw [hf a b hab]]
theorem listS_like {f : Tree → List UInt8} {a b : Tree} (h : Like a b) (hf : ∀ a b, Like a b → f b = f a) : listS f b = listS f a := by
  obtain ⟨_, h2, _, h4⟩ := h.parts
  unfold listS
  rw [rowS_like h4 hf, h2]
theorem partS_like (d : Nat) {a b : Tree} (h : Like a b) : partS d b = partS d a := by
  have hf : ∀ a b, Like a b → exprS d b = exprS d a := fun _ _ h => exprS_like d h
  have hl := listS_like h hf
  obtain ⟨h1, _, h3, h4⟩ := h.parts
  unfold partS
  rw [hl, rowS_like h4 hf, h1, h3]
theorem likeL_parts : ∀ {l m : List Tree}, LikeL l m → LikeL (l.takeWhile condB) (m.takeWhile condB) ∧ LikeL (l.dropWhile condB) (m.dropWhile condB) := by
  intro l
  induction l with
  | nil =>
    intro m h
    cases m with
    | nil => exact ⟨likeL_nil, likeL_nil⟩
    | cons b m => have := h.1; simp at this
  | cons a l ih =>
    intro m h
    cases m with
    | nil => have := h.1; simp at this
    | cons b m =>
      obtain ⟨h1, h2⟩ := likeL_inv h
      obtain ⟨i1, i2⟩ := ih h2
      have hc : condB b = condB a := by unfold condB; rw [h1.parts.1]
      rw [List.takeWhile_cons, List.takeWhile_cons, List.dropWhile_cons, List.dropWhile_cons, hc]
      by_cases ha : condB a = true
      · rw [if_pos ha, if_pos ha, if_pos ha, if_pos ha]
        exact ⟨likeL_cons h1 i1, i2⟩
      · rw [if_neg ha, if_neg ha, if_neg ha, if_neg ha]
        exact ⟨likeL_nil, h⟩
theorem partsS_like (d : Nat) {l m : List Tree} (h : LikeL l m) : partsS d m = partsS d l := by
  unfold partsS
  rw [likeL_map (partS d) h fun a b _ _ hab => partS_like d hab]
theorem declS_like (d : Nat) {a b : Tree} (h : Like a b) : declS d b = declS d a := by
  have hl : listS txL b = listS txL a := listS_like h fun x y hxy => hxy.parts.2.1.symm
  obtain ⟨h1, h2, h3, h4⟩ := h.parts
  obtain ⟨p1, p2⟩ := likeL_parts h4
  unfold declS ruleS
  rw [hl, partsS_like d p1, partsS_like d p2, h1, h2, h3]
theorem progS_like (d : Nat) {a b : Tree} (h : Like a b) : progS d b = progS d a := by
  unfold progS declsS
  rw [likeL_map (declS d) h.parts.2.2.2 fun x y _ _ hxy => declS_like d hxy]

/-! places farther on -/
theorem mem_zip_map {α : Type} (f : α → α) : ∀ (l : List α) (x : α × α), x ∈ l.zip (l.map f) → x.2 = f x.1 := by
  intro l
  induction l with
  | nil => intro x hx; cases hx
  | cons a l ih =>
    intro x hx
    rw [List.map_cons, List.zip_cons_cons] at hx
    rcases List.mem_cons.1 hx with rfl | hx
    · rfl
    · exact ih x hx
theorem same_sh (m : Nat) : ∀ (d : Nat) (T : Tree), sameF d T (shT m T) = true := by
  intro d
  induction d with
  | zero =>
    intro T
    obtain ⟨e1, e2, e3, _, e5⟩ := shT_parts m T
    unfold sameF
    rw [e1, e2, e3, e5, List.length_map]
    simp
  | succ d ih =>
    intro T
    obtain ⟨e1, e2, e3, _, e5⟩ := shT_parts m T
    unfold sameF
    rw [e1, e2, e3, e5, List.length_map]
    simp only [beq_self_eq_true, Bool.true_and, List.all_eq_true]
    intro x hx
    rw [mem_zip_map (shT m) _ x hx]
    exact ih x.1
theorem likeL_sh (m : Nat) (l : List Tree) : LikeL l (l.map (shT m)) := ⟨by rw [List.length_map], fun x hx d => by rw [mem_zip_map (shT m) _ x hx]; exact same_sh m d x.1⟩
theorem dep_dp : ∀ (n : Nat) (T : Tree), dpM n T = none → Dep n T := by
  intro n
  induction n with
  | zero => intro T h; cases h
  | succ n ih =>
    intro T h
    have h' : T.kids.findSome? (dpM n) = none := h
    rw [List.findSome?_eq_none_iff] at h'
    exact fun k hk => ih k (h' k hk)
/-- blanks and a comment -/
def aheadL : List UInt8 := [35, 32, 99, 10, 9, 32]
theorem toks_ahead (S a : ByteArray) (hS : S.data.toList = aheadL ++ a.data.toList) (ha : (toksFrom a 0).2 = none) : (toksFrom S 0).2 = none ∧ allTk S = (allTk a).map (shTk 6) := by
  have hal : a.data.toList.length = a.size := by simp
  have hsz : S.size = 6 + a.size := by
    have := congrArg List.length hS
    have e : S.data.toList.length = S.size := by simp
    rw [e, List.length_append, hal] at this
    exact this
  have d6 : S.data.toList.drop 6 = a.data.toList := by rw [hS]; rfl
  have hsk : skip S 0 = skip S 6 := by
    have hx := skip_len S 0 (Nat.zero_le _)
    rw [List.drop_zero, hS] at hx
    have hy := skip_len S 6 (by omega)
    rw [d6] at hy
    have : skS false (aheadL ++ a.data.toList) = skS false a.data.toList := rfl
    rw [this] at hx
    omega
  have h6 : toksFrom S 0 = toksFrom S 6 := by rw [← toksFrom_skip, hsk, toksFrom_skip]
  obtain ⟨g1, _⟩ := toks_in S a 6 [] (by rw [d6, List.append_nil]) (Or.inl rfl) (by omega) _ 0 (Nat.le_refl _) (Nat.zero_le _)
  have g3 := g1 ha
  rw [Nat.add_zero, toks_done S (6 + a.size) (by omega), List.append_nil] at g3
  rw [← h6] at g3
  refine ⟨by rw [g3], ?_⟩
  unfold allTk
  rw [g3, List.map_append]
  have : [((7, ⟨#[]⟩, a.size) : Tok)].map (shTk 6) = [(7, ⟨#[]⟩, S.size)] := by
    rw [List.map_singleton]
    unfold shTk
    rw [hsz]; dsimp only
    rw [Nat.add_comm]
  rw [this]
theorem prog_ahead (S a : ByteArray) {T : Tree} {x : Int} (hS : S.data.toList = aheadL ++ a.data.toList) (hsz : S.size ≤ 16384) (ha : progM a = (T, 0, x)) : ∃ T', Like T T' ∧ progM S = (T', 0, 0) := by
  obtain ⟨a1, a2, a3, ⟨n, a4⟩, a5, a6, _⟩ := progM_ok ha
  obtain ⟨h0, hts⟩ := toks_ahead S a hS a2
  have hal := allTk_len a
  have hSl : (allTk S).length = (allTk a).length := by rw [hts, List.length_map]
  have hA := allTk_ok a a1
  have S1 : Sim (allTk a) (allTk S) 0 6 (allTk a).length false := by
    refine ⟨fun j hj => ?_, fun j hj => by rw [hSl, Nat.add_zero], (fun h => by cases h), by omega⟩
    have h1 := tokM_at hj
    refine tokM_get ?_
    rw [Nat.add_zero, hts, List.getElem?_map, h1]; rfl
  have ea : progL (allTk a) ((allTk a).length + 1) [] (0, false) = (T.kids, (n, false)) := a4
  have nl : n < (allTk a).length := by
    have := progL_lt (allTk a) ((allTk a).length + 1) [] (0, false) (by rw [hal]; exact Nat.succ_pos _)
    rw [ea] at this; exact this
  obtain ⟨q1, q2⟩ := progL_sim S1 hA ((allTk a).length + 1) ((allTk S).length + 1) [] [] (0, false) (fun _ => rfl) (by dsimp only; omega) (Or.inr (by dsimp only; omega)) (Or.inr (by dsimp only; omega)) (by rw [ea]; exact nl)
  rw [ea] at q1 q2
  have q3 := q2 rfl
  have hpd : progD (allTk S) = (T.kids.map (shT 6), (n, false)) := by
    show progL (allTk S) ((allTk S).length + 1) [] (0, false) = _
    exact Prod.ext q3 q1
  have hT := tree_of T a3
  have hlike : Like T (.mk 1 ⟨#[]⟩ 0 0 (T.kids.map (shT 6))) := like_mk (by rw [hT]; rfl) (by rw [hT]; rfl) (by rw [hT]; rfl) (likeL_sh 6 T.kids)
  have hslim : SlimL (progD (allTk S)).1 := progD_slim (allTk_ok S hsz) (by
    have h9 := toks_len S (S.size + 1) 0 (Nat.zero_le _)
    have h8 : (toksFrom S 0).1.length + 0 ≤ S.size := h9
    rw [allTk_len]
    omega) (by rw [hSl]; omega)
  rw [hpd] at hslim
  have htrim : Trim 30 (.mk 1 ⟨#[]⟩ 0 0 (T.kids.map (shT 6))) := ⟨Nat.zero_le _, ⟨Int.le_refl _, by show (0 : Int) ≤ 16384; decide⟩, hslim.1, fun x hx => hslim.2 x hx 29⟩
  have hdp : dpM 30 (.mk 1 ⟨#[]⟩ 0 0 (T.kids.map (shT 6))) = none := dp_like 30 hlike a5
  refine ⟨_, hlike, ?_⟩
  rw [progM_of hsz h0 hpd hdp]
  obtain ⟨e1, e2⟩ := deep_like 30 hlike
  unfold rightF at a6
  simp only [Bool.and_eq_true, beq_iff_eq, decide_eq_true_eq] at a6
  obtain ⟨⟨⟨_, hok⟩, hdeep⟩, hmany⟩ := a6
  have hright : rightF 30 (.mk 1 ⟨#[]⟩ 0 0 (T.kids.map (shT 6))) = true := by
    unfold rightF
    rw [e1, e2, okF_like 30 hlike htrim hok]
    simp only [Bool.and_eq_true, beq_iff_eq, decide_eq_true_eq]
    exact ⟨⟨⟨rfl, trivial⟩, hdeep⟩, hmany⟩
  rw [if_pos hright]
theorem show_ok {T : Tree} (h : rightF 30 T = true) : showM 27 T = (mkS (progS 27 T), 0) := by
  unfold showM
  rw [if_pos h]
/-- A SOURCE, what its tree's text is, and what that is with blanks and a comment ahead of it -/
theorem src_told {s : ByteArray} {T : Tree} {x : Int} (h : progM s = (T, 0, x)) :
    showM 27 T = (mkS (progS 27 T), 0) ∧
    (∀ S : ByteArray, S.data.toList = aheadL ++ s.data.toList → S.size ≤ 16384 → ∃ M, progM S = (M, 0, 0) ∧ showM 27 M = (mkS (progS 27 T), 0)) ∧
    ((mkS (progS 27 T)).size ≤ 16384 → ∃ K, Like T K ∧ progM (mkS (progS 27 T)) = (K, 0, 0) ∧ showM 27 K = (mkS (progS 27 T), 0)) := by
  obtain ⟨_, _, _, _, a5, a6, _⟩ := progM_ok h
  refine ⟨show_ok a6, fun S hS hsz => ?_, fun hsz => ?_⟩
  · obtain ⟨M, m1, m2⟩ := prog_ahead S s hS hsz h
    obtain ⟨_, _, _, _, _, b6, _⟩ := progM_ok m2
    exact ⟨M, m2, by rw [show_ok b6, progS_like 27 m1]⟩
  · obtain ⟨K, k1, k2⟩ := prog_back (d := 27) a6 (dep_dp 30 T a5) (mkS_list _) hsz
    obtain ⟨_, _, _, _, _, b6, _⟩ := progM_ok k2
    exact ⟨K, k1, k2, by rw [show_ok b6, progS_like 27 k1]⟩
end Go.Proofs.YtineejjdbjdliaaGreatDoor
/- ShowSource, the law's walk: it answers true for every source. Condition: the library's tables lie as laid. -/
namespace Go.Proofs.YtineejjdbjdliaaGreatDoor
open Go.RowKit

theorem box_of {w w1 : World} (T : Tree) (sl : Value) (er pl : Int) (hb : Below w.heap.size w w1) : ∃ W, W = ((w1.alloc (.cells #[.int .u8 T.kind, .string T.text, .int .i64 T.num, .int .i64 T.place, sl] 26)).alloc (.cells #[.int .i64 er, .int .i64 pl] 29)) ∧ Below w1.heap.size w1 W ∧ Below w.heap.size w W ∧
    W.heap[w1.heap.size]? = some (.cells #[.int .u8 T.kind, .string T.text, .int .i64 T.num, .int .i64 T.place, sl] 26 (0, 0)) ∧ W.heap[w1.heap.size + 1]? = some (.cells #[.int .i64 er, .int .i64 pl] 29 (0, 0)) ∧ w1.heap.size + 1 < W.heap.size := by
  obtain ⟨X0, X1, _⟩ := two_new' w1 (.cells #[.int .u8 T.kind, .string T.text, .int .i64 T.num, .int .i64 T.place, sl] 26) (.cells #[.int .i64 er, .int .i64 pl] 29)
  have h := below_two w1 (.cells #[.int .u8 T.kind, .string T.text, .int .i64 T.num, .int .i64 T.place, sl] 26) (.cells #[.int .i64 er, .int .i64 pl] 29)
  exact ⟨_, rfl, h, hb.trans (h.mono hb.size), X0, X1, (Array.getElem?_eq_some_iff.1 X1).1⟩
theorem ahead_list (a : ByteArray) : (⟨#[35, 32, 99, 10, 9, 32]⟩ ++ a : ByteArray).data.toList = aheadL ++ a.data.toList := by simp [ByteArray.data_append, aheadL]
set_option maxRecDepth 100000 in
set_option maxHeartbeats 4000000 in
theorem law_showSource (s : ByteArray) (w : World) (ht : AsciiTab w) (hp : Lib.TabIs Tryz.prog w "internal/strconv.uint64pow10" .u64 Lib.pow10Tab) :
    Calls Tryz.prog 5 #[.string s] w (BoolPost true w) := by
  have HT := Lib.hid (fun W (hW : Below w.heap.size w W) => ht.below hW)
  have HP := Lib.hid (fun W (hW : Below w.heap.size w W) => (pow_here hp) W hW)
  have HA := Lib.hid (awake7_any w ht hp)
  have HPr := Lib.hid (fun (x : ByteArray) W (hW : Below w.heap.size w W) => program_any x W (ht.below hW))
  have HSrc := Lib.hid (fun (T : Tree) (x : Int) (h : progM s = (T, 0, x)) => src_told h)
  have HOk := Lib.hid (fun (T : Tree) (x : Int) (h : progM s = (T, 0, x)) => (progM_ok h).2.2.2.2.2.1)
  clear ht hp
  go_enter Tryz.func5, Tryz.ntmps5
  go_wp2_with fail
  refine Calls.mono HA.out ?_
  rintro e w1 ⟨rfl, hb1⟩
  have HB1 := Lib.hid hb1
  clear hb1 HA
  by_cases hs : 16000 < s.size
  · have hs1 : (16000 : Int) < s.size := by omega
    go_wp2_with fail
    go_ret
    exact ⟨rfl, HB1.out⟩
  have hs1 : decide ((16000 : Int) < s.size) = false := by simp; omega
  go_wp2_with fail
  refine Calls.mono (HPr.out s _ HB1.out) ?_
  rintro e w2 ⟨sl, rfl, hb2, ho, hf, hsl, _⟩
  obtain ⟨T, hT⟩ : ∃ x, (progM s).1 = x := ⟨_, rfl⟩
  obtain ⟨er, her⟩ : ∃ x, (progM s).2.1 = x := ⟨_, rfl⟩
  obtain ⟨pl, hpl⟩ : ∃ x, (progM s).2.2 = x := ⟨_, rfl⟩
  have HPm : Hid (progM s = (T, er, pl)) := Lib.hid (by rw [← hT, ← her, ← hpl])
  rw [hT] at ho hf hsl ⊢
  rw [her, hpl]
  obtain ⟨p, c, rfl⟩ := ho.shape
  obtain ⟨w3, hw3, hb23, hb3, X0, X1, hl3⟩ := box_of T (.slice p T.kids.length c) er pl (HB1.out.trans (hb2.mono HB1.out.size))
  have HB3 := Lib.hid hb3
  have HX0 := Lib.hid X0
  have HX1 := Lib.hid X1
  have HM3 := Lib.hid ((progRes_node ho hf).below hb23)
  have HS3 := Lib.hid hb23.size
  have HSl := Lib.hid (hsl 30).slim
  obtain ⟨b0, b1, _, _⟩ := cells2p X1
  obtain ⟨a0, a1, a2, a3, a4⟩ := cells5 X0
  clear hb2 ho hf hsl hb23 hb3 X0 X1 hT her hpl
  go_upto_region 6 with fail
  change Code.wp _ _ _ _ ((w2.alloc (.cells #[.int .u8 T.kind, .string T.text, .int .i64 T.num, .int .i64 T.place, .slice p T.kids.length c] 26)).alloc (.cells #[.int .i64 er, .int .i64 pl] 29))
  rw [← hw3]
  clear hw3
  by_cases he : er ≠ 0
  · have e0 : (er != 0) = true := by simpa using he
    go_wp2_with fail
    go_ret
    exact ⟨rfl, HB3.out⟩
  obtain rfl : er = 0 := by simpa using he
  obtain ⟨s1, s2, s3⟩ := HSrc.out T pl HPm.out
  have hrt := HOk.out T pl HPm.out
  have hS := sprog_any 27 T _ _ w3 HM3.out HS3.out HSl.out (HT.out _ HB3.out) (HP.out _ HB3.out)
  rw [s1] at hS
  have hlen := back_size (d := 27) HSl.out (by obtain ⟨_, _, _, hk⟩ := HM3.out; exact nums_ok hk) hrt
  obtain ⟨a, ha⟩ : ∃ a, mkS (progS 27 T) = a := ⟨_, rfl⟩
  have hla : a.size ≤ 295321600 := by rw [← ha]; show (progS 27 T).toArray.size ≤ _; simpa using hlen
  rw [ha] at hS s2 s3
  have HS := Lib.hid hS
  have H2 := Lib.hid s2
  have H3 := Lib.hid s3
  have HLen := Lib.hid hla
  clear hS s1 s2 s3 hlen ha hrt HSrc HOk HPm hla
  go_wp2_with fail
  refine Calls.mono HS.out ?_
  rintro e w4 ⟨rfl, hb4⟩
  have HB4 := Lib.hid (HB3.out.trans (hb4.mono HB3.out.size))
  have HX4 := Lib.hid (heap_below hb4 HX0.out (by omega))
  have HM4 := Lib.hid (HM3.out.below (hb4.mono HS3.out))
  have HS4 := Lib.hid (Nat.le_trans HS3.out hb4.size)
  clear hb4 a0 a1 a2 a3 a4 b0 b1 HS HX0 HX1 HM3
  have hsz : (⟨#[35, 32, 99, 10, 9, 32]⟩ ++ s : ByteArray).size ≤ 16006 := by
    simp only [ByteArray.size_append]
    show 6 + s.size ≤ _
    omega
  obtain ⟨S, hSd⟩ : ∃ S, (⟨#[35, 32, 99, 10, 9, 32]⟩ ++ s : ByteArray) = S := ⟨_, rfl⟩
  have HM := Lib.hid (H2.out S (by rw [← hSd]; exact ahead_list s) (by rw [← hSd]; omega))
  have HCS := Lib.hid (HPr.out S w4 HB4.out)
  have HSd := Lib.hid hSd
  clear hSd
  go_wp2_with fail
  rw [HSd.out]
  refine Calls.mono HCS.out ?_
  rintro e w5 ⟨sl5, rfl, hb5, ho5, hf5, hsl5, _⟩
  obtain ⟨M, m1, m2⟩ := HM.out
  rw [m1] at ho5 hf5 hsl5 ⊢
  dsimp only at ho5 hf5 hsl5 ⊢
  obtain ⟨p5, c5, rfl⟩ := ho5.shape
  obtain ⟨w6, hw6, hb56, hb6, Y0, Y1, hl6⟩ := box_of M (.slice p5 M.kids.length c5) 0 0 (HB4.out.trans (hb5.mono HB4.out.size))
  have hb46 := hb5.trans (hb56.mono hb5.size)
  have HB6 := Lib.hid hb6
  have HX6 := Lib.hid (heap_below hb46 HX4.out (Array.getElem?_eq_some_iff.1 HX4.out).1)
  have HM6 := Lib.hid (HM4.out.below (hb46.mono HS4.out))
  have HS6 := Lib.hid (Nat.le_trans HS4.out hb46.size)
  have HY1 := Lib.hid Y1
  have hSm := sprog_any 27 M _ _ w6 ((progRes_node ho5 hf5).below hb56) hb56.size (hsl5 30).slim (HT.out _ hb6) (HP.out _ hb6)
  rw [m2] at hSm
  have HSm := Lib.hid hSm
  have HL6 := Lib.hid hl6
  obtain ⟨d0, d1, d2, d3, d4⟩ := cells5 Y0
  clear hb5 ho5 hf5 hsl5 hb56 hb6 Y0 Y1 m1 m2 hb46 hSm HCS HM H2 HX4 HM4
  go_upto_region 12 with fail
  change Code.wp _ _ _ _ ((w5.alloc (.cells #[.int .u8 M.kind, .string M.text, .int .i64 M.num, .int .i64 M.place, .slice p5 M.kids.length c5] 26)).alloc (.cells #[.int .i64 0, .int .i64 0] 29))
  rw [← hw6]
  clear hw6
  go_wp2_with fail
  refine Calls.mono HSm.out ?_
  rintro e w7 ⟨rfl, hb7⟩
  have HB7 := Lib.hid (HB6.out.trans (hb7.mono HB6.out.size))
  have HX7 := Lib.hid (heap_below hb7 HX6.out (Array.getElem?_eq_some_iff.1 HX6.out).1)
  have HM7 := Lib.hid (HM6.out.below (hb7.mono HS6.out))
  have HS7 := Lib.hid (Nat.le_trans HS6.out hb7.size)
  have hy7 := heap_below hb7 HY1.out HL6.out
  obtain ⟨b0, b1, _, _⟩ := cells2p hy7
  clear hb7 d0 d1 d2 d3 d4 HSm HX6 HM6 hy7 HY1
  have hlq := HLen.out
  by_cases h16 : 16384 < a.size
  · have h16' : (16384 : Int) < a.size := by omega
    go_wp2_with fail
    go_ret
    exact ⟨rfl, HB7.out⟩
  have h16' : decide ((16384 : Int) < a.size) = false := by simp; omega
  have HK := Lib.hid (H3.out (by omega))
  go_wp2_with fail
  refine Calls.mono (HPr.out a w7 HB7.out) ?_
  rintro e w8 ⟨sl8, rfl, hb8, ho8, hf8, hsl8, _⟩
  obtain ⟨K, k0, k1, k2⟩ := HK.out
  rw [k1] at ho8 hf8 hsl8 ⊢
  dsimp only at ho8 hf8 hsl8 ⊢
  obtain ⟨p8, c8, rfl⟩ := ho8.shape
  obtain ⟨w9, hw9, hb89, hb9, Z0, Z1, hl9⟩ := box_of K (.slice p8 K.kids.length c8) 0 0 (HB7.out.trans (hb8.mono HB7.out.size))
  have hb79 := hb8.trans (hb89.mono hb8.size)
  have HB9 := Lib.hid hb9
  have HX9 := Lib.hid (heap_below hb79 HX7.out (Array.getElem?_eq_some_iff.1 HX7.out).1)
  have HM9 := Lib.hid (HM7.out.below (hb79.mono HS7.out))
  have HS9 := Lib.hid (Nat.le_trans HS7.out hb79.size)
  have hK9 := (progRes_node ho8 hf8).below hb89
  have HK9 := Lib.hid hK9
  have HSK := Lib.hid hb89.size
  have HZ0 := Lib.hid Z0
  have HZ1 := Lib.hid Z1
  have hSk := sprog_any 27 K _ _ w9 hK9 hb89.size (hsl8 30).slim (HT.out _ hb9) (HP.out _ hb9)
  rw [k2] at hSk
  have HSk := Lib.hid hSk
  have HLike := Lib.hid k0
  have HL9 := Lib.hid hl9
  obtain ⟨d0, d1, d2, d3, d4⟩ := cells5 Z0
  clear b0 b1 hb8 ho8 hf8 hsl8 hb89 hb9 Z0 Z1 k0 k1 k2 hb79 hSk hK9 HX7 HM7 HK H3
  go_upto_region 18 with fail
  change Code.wp _ _ _ _ ((w8.alloc (.cells #[.int .u8 K.kind, .string K.text, .int .i64 K.num, .int .i64 K.place, .slice p8 K.kids.length c8] 26)).alloc (.cells #[.int .i64 0, .int .i64 0] 29))
  rw [← hw9]
  clear hw9
  go_wp2_with fail
  refine Calls.mono HSk.out ?_
  rintro e w10 ⟨rfl, hb10⟩
  have HB10 := Lib.hid (HB9.out.trans (hb10.mono HB9.out.size))
  have HX10 := Lib.hid (heap_below hb10 HX9.out (Array.getElem?_eq_some_iff.1 HX9.out).1)
  have HZ10 := Lib.hid (heap_below hb10 HZ0.out (Array.getElem?_eq_some_iff.1 HZ0.out).1)
  have hM10 := HM9.out.below (hb10.mono HS9.out)
  have hK10 := HK9.out.below (hb10.mono HSK.out)
  have hSame := same_any 30 T K _ _ _ _ w10 hM10 hK10 (Nat.le_trans HS9.out hb10.size) (Nat.le_trans HSK.out hb10.size)
  rw [HLike.out 30] at hSame
  have HSame := Lib.hid hSame
  have hz10 := heap_below hb10 HZ1.out HL9.out
  obtain ⟨b0, b1, _, _⟩ := cells2p hz10
  clear d0 d1 d2 d3 d4 hb10 hM10 hK10 hSame hz10
  obtain ⟨d0, d1, d2, d3, d4⟩ := cells5 HZ10.out
  obtain ⟨a0, a1, a2, a3, a4⟩ := cells5 HX10.out
  go_wp2_with fail
  refine Calls.mono HSame.out ?_
  rintro e w11 ⟨rfl, hb11⟩
  have HB11 := Lib.hid (HB10.out.trans (hb11.mono HB10.out.size))
  clear a0 a1 a2 a3 a4 b0 b1 d0 d1 d2 d3 d4 hb11
  go_wp2_with fail
  go_ret
  exact ⟨rfl, HB11.out⟩
end Go.Proofs.YtineejjdbjdliaaGreatDoor
