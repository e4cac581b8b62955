/- Several texts joined, each with its own sentence and conditions ahead of it: RegP, RegQ. -/
import Derived.Test.YtineejjdbjdliaaGreatDoorMM
import Derived.Test.YtineejjdbjdliaaGreatDoorMN
/- A region that draws its order, each operation with a property of its value that lasts while memory grows, whatever the order; its last operations in the text's order. No condition. -/
namespace Go.Proofs.YtineejjdbjdliaaGreatDoor
open Go.RowKit

section
variable {P : Program} {l : List Oper} {a0 : Act} {w0 : World} {ty : Nat → World → Value → Prop} {val : Nat → Option Bool} {fr : Nat → Bool} {m : Nat}
/-- what holds while none of the last operations has been carried out -/
structure PInv (l : List Oper) (m : Nat) (a0 : Act) (w0 : World) (ty : Nat → World → Value → Prop) (fr : Nat → Bool) (listed : Array Bool) (a : Act) (W : World) : Prop where
  low : Below w0.heap.size w0 W
  defers : a.defers = a0.defers
  size : a.tmps.size = a0.tmps.size
  old : ∀ t, (∀ (i : Nat) (o : Oper), i < m → l[i]? = some o → o.dst ≠ some t) → a.tmps.getD t undef = a0.tmps.getD t undef
  vals : ∀ (i : Nat) (o : Oper) (t : Tmp), i < m → l[i]? = some o → listed.getD i false = true → o.dst = some t → ty i W (a.tmps.getD t undef)
  apart : ∀ (i j : Nat) (oi oj : Oper) (ti tj : Tmp), i < m → j < m → i ≠ j → fr i = true → fr j = true → l[i]? = some oi → l[j]? = some oj → listed.getD i false = true → listed.getD j false = true → oi.dst = some ti → oj.dst = some tj → a.tmps.getD ti undef ≠ a.tmps.getD tj undef

/-- an operation waits for another, perhaps by way of others -/
def reachB (l : List Oper) : Nat → Nat → Nat → Bool
  | 0, _, _ => false
  | f + 1, j, i => match l[j]? with
    | some o => o.after.any fun e => Region.binds .any e && (decide (e.on = i) || reachB l f e.on i)
    | none => false
/-- the first m in order, no slot written twice; all behind them wait for all ahead -/
def tidyP (l : List Oper) (m slots : Nat) : Bool :=
  decide (m ≤ l.length) && (List.range l.length).all fun i => match l[i]? with
    | none => true
    | some o => o.after.all (fun e => decide (e.on < i)) &&
        (if i < m then (match o.dst with
          | some t => decide (t < slots) && (List.range m).all (fun j => decide (j = i) || (match l[j]? with | some o' => decide (o'.dst ≠ some t) | none => true))
          | none => false)
        else (List.range i).all fun k => reachB l l.length i k)
/-- a guard's operation is waited for, and is known -/
def guardsP (l : List Oper) (val : Nat → Option Bool) (m : Nat) : Bool :=
  (List.range m).all fun i => match l[i]? with
    | none => true
    | some o => match o.guard with
      | none => true
      | some (j, _) => decide (j < m) && (o.after.any fun e => Region.binds .any e && decide (e.on = j)) && (val j).isSome && (match l[j]? with | some oj => oj.dst.isSome | none => false)
/-- is an operation carried out? -/
def onP (val : Nat → Option Bool) (o : Oper) : Bool := match o.guard with | none => true | some (j, want) => val j == some want
/-- an operation's value, whatever the frame, where those that it waits for have theirs -/
def OpP (P : Program) (l : List Oper) (m : Nat) (a0 : Act) (w0 : World) (ty : Nat → World → Value → Prop) (fr : Nat → Bool) (i : Nat) (o : Oper) : Prop :=
  ∀ (a : Act) (W : World) (Q' : Exit → Act → World → Prop), Below w0.heap.size w0 W → (∀ t, (∀ (j : Nat) (o' : Oper), j < m → l[j]? = some o' → o'.dst ≠ some t) → a.tmps.getD t undef = a0.tmps.getD t undef) →
    (∀ (j : Nat) (oj : Oper) (t : Tmp), j < m → (∃ e ∈ o.after, Region.binds .any e = true ∧ e.on = j) → l[j]? = some oj → oj.dst = some t → ty j W (a.tmps.getD t undef)) →
    o.wp P a W (fun a' W' => ∃ v, a' = a.put o.dst v ∧ Below W.heap.size W W' ∧ ty i W' v ∧ (fr i = true → ∃ g, v = .pointer (some ⟨g, 0, none⟩) ∧ W.heap.size ≤ g)) Q'
/-- .. of an operation whose value is no new block -/
theorem OpP.of {i : Nat} {o : Oper} (hf : fr i = false) (h : ∀ (a : Act) (W : World) (Q' : Exit → Act → World → Prop), Below w0.heap.size w0 W → (∀ t, (∀ (j : Nat) (o' : Oper), j < m → l[j]? = some o' → o'.dst ≠ some t) → a.tmps.getD t undef = a0.tmps.getD t undef) →
    (∀ (j : Nat) (oj : Oper) (t : Tmp), j < m → (∃ e ∈ o.after, Region.binds .any e = true ∧ e.on = j) → l[j]? = some oj → oj.dst = some t → ty j W (a.tmps.getD t undef)) →
    o.wp P a W (fun a' W' => ∃ v, a' = a.put o.dst v ∧ Below W.heap.size W W' ∧ ty i W' v) Q') : OpP P l m a0 w0 ty fr i o := by
  intro a W Q' h1 h2 h3
  refine Oper.wp_mono (fun a' W' hq => ?_) (h a W Q' h1 h2 h3)
  obtain ⟨v, e1, e2, e3⟩ := hq
  exact ⟨v, e1, e2, e3, fun h => by rw [hf] at h; cases h⟩
theorem tidyP_le {slots : Nat} (h : tidyP l m slots = true) : m ≤ l.length := by
  unfold tidyP at h
  simp only [Bool.and_eq_true, decide_eq_true_eq] at h
  exact h.1
theorem tidyP_at {slots i : Nat} {o : Oper} (h : tidyP l m slots = true) (ho : l[i]? = some o) :
    (∀ e ∈ o.after, e.on < i) ∧ (i < m → ∃ t, o.dst = some t ∧ t < slots ∧ ∀ (j : Nat) (o' : Oper), j < m → j ≠ i → l[j]? = some o' → o'.dst ≠ some t) ∧ (m ≤ i → ∀ k, k < i → reachB l l.length i k = true) := by
  have hi : i < l.length := (List.getElem?_eq_some_iff.1 ho).1
  unfold tidyP at h
  rw [Bool.and_eq_true] at h
  have h1 := List.all_eq_true.1 h.2 i (List.mem_range.2 hi)
  simp only [ho, Bool.and_eq_true] at h1
  obtain ⟨ha, hd⟩ := h1
  refine ⟨fun e he => ?_, fun hlt => ?_, fun hge k hk => ?_⟩
  · have := Array.all_eq_true_iff_forall_mem.1 ha e he
    simpa using this
  · rw [if_pos hlt] at hd
    cases hdst : o.dst with
    | none => rw [hdst] at hd; cases hd
    | some t =>
      rw [hdst] at hd
      simp only [Bool.and_eq_true, decide_eq_true_eq, List.all_eq_true, List.mem_range, Bool.or_eq_true] at hd
      refine ⟨t, rfl, hd.1, fun j o' hjm hj ho' => ?_⟩
      rcases hd.2 j hjm with h2 | h2
      · exact absurd h2 hj
      · rw [ho'] at h2; simpa using h2
  · rw [if_neg (by omega)] at hd
    exact List.all_eq_true.1 hd k (List.mem_range.2 hk)
/-- what has been carried out bears with it all that it waits for -/
def Closed (l : List Oper) (listed : Array Bool) : Prop := ∀ (i : Nat) (o : Oper), l[i]? = some o → listed.getD i false = true → ∀ e ∈ o.after, Region.binds .any e = true → listed.getD e.on false = true
theorem reach_listed {listed : Array Bool} (hc : Closed l listed) : ∀ (f j i : Nat) (o : Oper), l[j]? = some o → (∀ e ∈ o.after, Region.binds .any e = true → listed.getD e.on false = true) → reachB l f j i = true → listed.getD i false = true := by
  intro f
  induction f with
  | zero => intro j i o _ _ h; cases h
  | succ f ih =>
    intro j i o ho ha h
    unfold reachB at h
    rw [ho] at h
    obtain ⟨e, he, h2⟩ := Array.any_eq_true'.1 h
    simp only [Bool.and_eq_true, Bool.or_eq_true, decide_eq_true_eq] at h2
    have hl := ha e he h2.1
    rcases h2.2 with h3 | h3
    · rw [← h3]; exact hl
    · cases f with
      | zero => cases h3
      | succ f =>
        cases hoe : l[e.on]? with
        | none => unfold reachB at h3; rw [hoe] at h3; cases h3
        | some oe => exact ih e.on i oe hoe (hc e.on oe hoe hl) h3
theorem getD_set_eqP {tmps : Array Value} {t : Nat} {v : Value} (h : t < tmps.size) : (tmps.setIfInBounds t v).getD t undef = v := by
  simp [h]
theorem getD_set_otherP {tmps : Array Value} {t t' : Nat} {v : Value} (h : t ≠ t') : (tmps.setIfInBounds t v).getD t' undef = tmps.getD t' undef := by
  simp [h]
theorem getD_listedP {listed : Array Bool} {i : Nat} (h : i < listed.size) : (listed.setIfInBounds i true).getD i false = true := by
  simp [h]
theorem getD_listed_otherP {listed : Array Bool} {i j : Nat} (h : i ≠ j) : (listed.setIfInBounds i true).getD j false = listed.getD j false := by
  simp [h]
theorem getD_repP {n i : Nat} : (Array.replicate n false).getD i false = false := by
  by_cases h : i < n
  · simp [h]
  · simp [h]
theorem all_listedP {slots : Nat} (h : tidyP l m slots = true) {listed : Array Bool} (hsz : listed.size = l.toArray.size) (hr : Region.ready .any l.toArray listed = []) : ∀ i, i < l.length → listed.getD i false = true := by
  intro i
  induction i using Nat.strongRecOn with
  | _ i ih =>
    intro hi
    cases hc : listed.getD i false with
    | true => rfl
    | false =>
      exfalso
      obtain ⟨o, ho⟩ : ∃ o, l[i]? = some o := ⟨l[i], List.getElem?_eq_getElem hi⟩
      obtain ⟨ha, _, _⟩ := tidyP_at h ho
      have hsz' : listed.size = l.length := by simpa using hsz
      have : i ∈ Region.ready .any l.toArray listed := by
        refine mem_ready.2 ⟨?_, o, by simpa using ho, fun e he _ => ?_⟩
        · have hi2 : i < listed.size := by omega
          simp [hi2] at hc ⊢; exact hc
        · have h1 := ha e he
          exact ih e.on h1 (by omega)
      rw [hr] at this
      cases this

theorem wp_region_pred {id : Nat} {Q : Exit → Act → World → Prop} (hm : P.follows .mixedOrders = true) (ty : Nat → World → Value → Prop) (val : Nat → Option Bool) (fr : Nat → Bool) (m slots : Nat)
    (hmono : ∀ (i : Nat) (v : Value) (W W' : World), ty i W v → Below W.heap.size W W' → ty i W' v)
    (hval : ∀ (i : Nat) (b : Bool) (W : World) (v : Value), val i = some b → ty i W v → v = .bool b)
    (hfr : ∀ (i : Nat) (W : World) (v : Value), fr i = true → ty i W v → ∃ g, v = .pointer (some ⟨g, 0, none⟩) ∧ g < W.heap.size)
    (hsl : a0.tmps.size = slots) (ht : tidyP l m slots = true) (hgd : guardsP l val m = true)
    (hop : ∀ (i : Nat) (o : Oper), i < m → l[i]? = some o → onP val o = true → OpP P l m a0 w0 ty fr i o)
    (hoff : ∀ (i : Nat) (o : Oper), i < m → l[i]? = some o → onP val o = false → fr i = false ∧ ∀ W, ty i W undef)
    (hlast : ∀ (a : Act) (W : World), Below w0.heap.size w0 W → a.defers = a0.defers → a.tmps.size = a0.tmps.size →
      (∀ t, (∀ (j : Nat) (o' : Oper), j < m → l[j]? = some o' → o'.dst ≠ some t) → a.tmps.getD t undef = a0.tmps.getD t undef) →
      (∀ (i : Nat) (oi : Oper) (t : Tmp), i < m → l[i]? = some oi → oi.dst = some t → ty i W (a.tmps.getD t undef)) →
      (∀ (i j : Nat) (oi oj : Oper) (ti tj : Tmp), i < m → j < m → i ≠ j → fr i = true → fr j = true → l[i]? = some oi → l[j]? = some oj → oi.dst = some ti → oj.dst = some tj → a.tmps.getD ti undef ≠ a.tmps.getD tj undef) →
      wpList P l.toArray Q (l.drop m) a W) :
    (Code.region id l.toArray true).wp P Q a0 w0 := by
  have hml := tidyP_le ht
  refine wp_region_inv hm (fun listed a W => Closed l listed ∧ ∃ j, m ≤ j ∧ j ≤ l.length ∧ (∀ i, j ≤ i → listed.getD i false = false) ∧ ((j = m ∧ PInv l m a0 w0 ty fr listed a W) ∨ (m < j ∧ (∀ i, i < j → listed.getD i false = true) ∧ wpList P l.toArray Q (l.drop j) a W))) ?_ ?_ ?_
  · refine ⟨fun i o _ h => (by rw [getD_repP] at h; cases h), m, Nat.le_refl _, hml, fun i _ => getD_repP, Or.inl ⟨rfl, ?_⟩⟩
    exact { low := (Below.refl _ w0).drew, defers := rfl, size := rfl, old := fun _ _ => rfl, vals := fun i o t _ _ h _ => (by rw [getD_repP] at h; cases h), apart := fun i j oi oj ti tj _ _ _ _ _ _ _ h => (by rw [getD_repP] at h; cases h) }
  · intro listed a W i hI hsz hi
    obtain ⟨hcl, j, hmj, hjl, hoffj, hI⟩ := hI
    have hsz' : listed.size = l.length := by simpa using hsz
    obtain ⟨hun, o, ho, haft⟩ := mem_ready.1 hi
    have ho' : l[i]? = some o := by simpa using ho
    have hil : i < l.length := (List.getElem?_eq_some_iff.1 ho').1
    have hunf : listed.getD i false = false := by
      have : i < listed.size := by omega
      simp [this] at hun ⊢; exact hun
    obtain ⟨hlt, hdst, hreach⟩ := tidyP_at ht ho'
    have hcl' : Closed l (listed.setIfInBounds i true) := by
      intro k ok hok hlk e he hb
      by_cases hki : k = i
      · subst hki
        rw [ho'] at hok
        injection hok with hok
        subst hok
        have hl := haft e he hb
        have hne : k ≠ e.on := fun h => by have := hlt e he; omega
        rw [getD_listed_otherP hne]
        exact hl
      · rw [getD_listed_otherP (fun h => hki h.symm)] at hlk
        have hl := hcl k ok hok hlk e he hb
        by_cases hie : i = e.on
        · rw [← hie]; exact getD_listedP (by omega)
        · rw [getD_listed_otherP hie]; exact hl
    have hw : wpOp P l.toArray Q i = fun K a W => if Region.wanted o (yielded l.toArray a.tmps) = true then o.wp P a W K Q ∨ (o.asks P a W ∧ LetsOut Q) else K (a.put o.dst undef) W := by
      funext K a W; unfold wpOp; simp only [ho]
    rw [hw]
    show (if Region.wanted o (yielded l.toArray a.tmps) = true then _ else _)
    -- one of the last ones: all ahead of it have been carried out
    have hahead : m ≤ i → ∀ k, k < i → listed.getD k false = true := fun hge k hk => reach_listed hcl _ i k o ho' haft (hreach hge k hk)
    have htail : ∀ (jj : Nat), jj = i → m ≤ jj → (∀ k, k < jj → listed.getD k false = true) → (∀ k, jj ≤ k → listed.getD k false = false) → wpList P l.toArray Q (l.drop jj) a W →
        (if Region.wanted o (yielded l.toArray a.tmps) = true then o.wp P a W (fun a' W' => Closed l (listed.setIfInBounds i true) ∧ ∃ j, m ≤ j ∧ j ≤ l.length ∧ (∀ k, j ≤ k → (listed.setIfInBounds i true).getD k false = false) ∧ ((j = m ∧ PInv l m a0 w0 ty fr (listed.setIfInBounds i true) a' W') ∨ (m < j ∧ (∀ k, k < j → (listed.setIfInBounds i true).getD k false = true) ∧ wpList P l.toArray Q (l.drop j) a' W'))) Q ∨ (o.asks P a W ∧ LetsOut Q)
          else Closed l (listed.setIfInBounds i true) ∧ ∃ j, m ≤ j ∧ j ≤ l.length ∧ (∀ k, j ≤ k → (listed.setIfInBounds i true).getD k false = false) ∧ ((j = m ∧ PInv l m a0 w0 ty fr (listed.setIfInBounds i true) (a.put o.dst undef) W) ∨ (m < j ∧ (∀ k, k < j → (listed.setIfInBounds i true).getD k false = true) ∧ wpList P l.toArray Q (l.drop j) (a.put o.dst undef) W))) := by
      intro jj hji hge hall hno hwp
      subst hji
      rw [List.drop_eq_getElem_cons hil, show l[jj] = o from (List.getElem?_eq_some_iff.1 ho').2] at hwp
      unfold wpList at hwp
      have fin : ∀ a' W', wpList P l.toArray Q (l.drop (jj + 1)) a' W' → Closed l (listed.setIfInBounds jj true) ∧ ∃ j, m ≤ j ∧ j ≤ l.length ∧ (∀ k, j ≤ k → (listed.setIfInBounds jj true).getD k false = false) ∧ ((j = m ∧ PInv l m a0 w0 ty fr (listed.setIfInBounds jj true) a' W') ∨ (m < j ∧ (∀ k, k < j → (listed.setIfInBounds jj true).getD k false = true) ∧ wpList P l.toArray Q (l.drop j) a' W')) := by
        intro a' W' h
        refine ⟨hcl', jj + 1, by omega, by omega, fun k hk => ?_, Or.inr ⟨by omega, fun k hk => ?_, h⟩⟩
        · rw [getD_listed_otherP (by omega)]; exact hno k (by omega)
        · by_cases hkj : k = jj
          · subst hkj; exact getD_listedP (by omega)
          · rw [getD_listed_otherP (fun e => hkj e.symm)]; exact hall k (by omega)
      by_cases hwd : Region.wanted o (yielded l.toArray a.tmps) = true
      · rw [if_pos hwd] at hwp ⊢
        exact hwp.imp (Oper.wp_mono (fun a' W' hq => fin a' W' hq)) (fun h => h)
      · rw [if_neg hwd] at hwp ⊢
        exact fin _ _ hwp
    rcases hI with ⟨rfl, hI⟩ | ⟨hmj', hall, hwp⟩
    · by_cases hge : j ≤ i
      · -- the first of the last ones
        have hij : j = i := by
          rcases Nat.lt_or_ge j i with h | h
          · have h1 := hahead hge j h
            rw [hoffj j (Nat.le_refl _)] at h1; cases h1
          · omega
        refine htail j hij (Nat.le_refl _) (fun k hk => hahead hge k (by omega)) hoffj ?_
        exact hlast a W hI.low hI.defers hI.size hI.old (fun k ok t hk hok hd => hI.vals k ok t hk hok (hahead hge k (by omega)) hd) (fun i' j' oi oj ti tj hi' hj' hne f1 f2 o1 o2 d1 d2 => hI.apart i' j' oi oj ti tj hi' hj' hne f1 f2 o1 o2 (hahead hge i' (by omega)) (hahead hge j' (by omega)) d1 d2)
      · have him : i < j := by omega
        obtain ⟨t, hdt, htl, hdis⟩ := hdst him
        have hts : t < a.tmps.size := by rw [hI.size, hsl]; exact htl
        have hwant : Region.wanted o (yielded l.toArray a.tmps) = onP val o := by
          unfold Region.wanted onP
          have h1 := List.all_eq_true.1 hgd i (List.mem_range.2 him)
          rw [ho'] at h1
          dsimp only at h1
          cases hg : o.guard with
          | none => rfl
          | some jw =>
            obtain ⟨g, want⟩ := jw
            rw [hg] at h1
            dsimp only at h1
            simp only [Bool.and_eq_true, decide_eq_true_eq] at h1
            obtain ⟨⟨⟨hgm, hw2⟩, hw3⟩, hw4⟩ := h1
            obtain ⟨e, he, h2⟩ := Array.any_eq_true'.1 hw2
            simp only [Bool.and_eq_true, decide_eq_true_eq] at h2
            obtain ⟨b, hb⟩ := Option.isSome_iff_exists.1 hw3
            cases hj : l[g]? with
            | none => rw [hj] at hw4; cases hw4
            | some og =>
              rw [hj] at hw4
              dsimp only at hw4
              obtain ⟨tg, htd⟩ := Option.isSome_iff_exists.1 hw4
              have hlj : listed.getD g false = true := by rw [← h2.2]; exact haft e he h2.1
              have hv := hval g b W _ hb (hI.vals g og tg hgm hj hlj htd)
              have hy : yielded l.toArray a.tmps g = some b := by
                unfold yielded
                have hts : tg < a.tmps.size := by
                  rcases Nat.lt_or_ge tg a.tmps.size with h | h
                  · exact h
                  · simp [Array.getElem?_eq_none h] at hv
                    cases hv
                have h3 : a.tmps[tg]? = some (.bool b) := by
                  simp [hts] at hv ⊢; exact hv
                simp [hj, htd, h3]
              show (yielded l.toArray a.tmps g == some want) = (val g == some want)
              rw [hy, hb]
        have hput : ∀ v, (a.put o.dst v).tmps = a.tmps.setIfInBounds t v := fun v => by rw [hdt]; rfl
        have next : ∀ v W', Below W.heap.size W W' → ty i W' v → (fr i = true → ∃ g, v = .pointer (some ⟨g, 0, none⟩) ∧ W.heap.size ≤ g) → PInv l j a0 w0 ty fr (listed.setIfInBounds i true) (a.put o.dst v) W' := by
          intro v W' hb hty hnew
          have far : ∀ (k : Nat) (ok : Oper) (t' : Tmp), k < j → k ≠ i → fr i = true → fr k = true → l[k]? = some ok → listed.getD k false = true → ok.dst = some t' → v ≠ a.tmps.getD t' undef := by
            intro k ok t' hk hki f1 f2 hok hlk hd e
            obtain ⟨g, hg, hge⟩ := hnew f1
            obtain ⟨g', hg', hlt'⟩ := hfr k W _ f2 (hI.vals k ok t' hk hok hlk hd)
            rw [← e, hg] at hg'
            injection hg' with hg'
            injection hg' with hg'
            injection hg' with hg'
            omega
          refine { low := hI.low.trans (hb.mono hI.low.size), defers := ?_, size := ?_, old := fun t' h => ?_, vals := fun k ok t' hk hok hlk hd => ?_, apart := fun k k' ok ok' ti tj hk hk' hne f1 f2 hok hok' hlk hlk' hd hd' => ?_ }
          · rw [hdt]; exact hI.defers
          · rw [hput, Array.size_setIfInBounds]; exact hI.size
          · have hne : t ≠ t' := fun e => h i o him ho' (by rw [hdt, e])
            rw [hput, getD_set_otherP hne]
            exact hI.old t' h
          · by_cases hki : k = i
            · subst hki
              rw [ho'] at hok
              injection hok with hok
              subst hok
              rw [hdt] at hd
              injection hd with hd
              subst hd
              rw [hput, getD_set_eqP hts]
              exact hty
            · rw [getD_listed_otherP (fun e => hki e.symm)] at hlk
              have hne : t ≠ t' := fun e => hdis k ok hk hki hok (by rw [hd, e])
              rw [hput, getD_set_otherP hne]
              exact hmono k _ _ _ (hI.vals k ok t' hk hok hlk hd) hb
          · by_cases hki : k = i
            · subst hki
              rw [ho'] at hok
              injection hok with hok
              subst hok
              rw [hdt] at hd
              injection hd with hd
              subst hd
              have hni : k' ≠ k := fun e => hne e.symm
              rw [getD_listed_otherP (fun e => hni e.symm)] at hlk'
              have hnt : t ≠ tj := fun e => hdis k' ok' hk' hni hok' (by rw [hd', e])
              rw [hput, getD_set_eqP hts, getD_set_otherP hnt]
              exact far k' ok' tj hk' hni f1 f2 hok' hlk' hd'
            · rw [getD_listed_otherP (fun e => hki e.symm)] at hlk
              have hnt : t ≠ ti := fun e => hdis k ok hk hki hok (by rw [hd, e])
              by_cases hki' : k' = i
              · subst hki'
                rw [ho'] at hok'
                injection hok' with hok'
                subst hok'
                rw [hdt] at hd'
                injection hd' with hd'
                subst hd'
                rw [hput, getD_set_eqP hts, getD_set_otherP hnt]
                exact (far k ok ti hk hki f2 f1 hok hlk hd).symm
              · rw [getD_listed_otherP (fun e => hki' e.symm)] at hlk'
                have hnt' : t ≠ tj := fun e => hdis k' ok' hk' hki' hok' (by rw [hd', e])
                rw [hput, getD_set_otherP hnt, getD_set_otherP hnt']
                exact hI.apart k k' ok ok' ti tj hk hk' hne f1 f2 hok hok' hlk hlk' hd hd'
        have hun2 : ∀ k, j ≤ k → (listed.setIfInBounds i true).getD k false = false := fun k hk => by
          rw [getD_listed_otherP (by omega)]; exact hoffj k hk
        cases hon : onP val o with
        | true =>
          rw [if_pos (by rw [hwant, hon])]
          left
          refine Oper.wp_mono (fun a' W' hq => ?_) (hop i o him ho' hon a W Q hI.low hI.old (fun k ok t' hk hak hok hd => hI.vals k ok t' hk hok (by
            obtain ⟨e, he, h1, h2⟩ := hak
            rw [← h2]
            exact haft e he h1) hd))
          obtain ⟨v, rfl, hb, hty, hnew⟩ := hq
          exact ⟨hcl', j, Nat.le_refl _, hjl, hun2, Or.inl ⟨rfl, next v W' hb hty hnew⟩⟩
        | false =>
          rw [if_neg (by rw [hwant, hon]; decide)]
          exact ⟨hcl', j, Nat.le_refl _, hjl, hun2, Or.inl ⟨rfl, next undef W (Below.refl _ _) ((hoff i o him ho' hon).2 W) (fun h => by rw [(hoff i o him ho' hon).1] at h; cases h)⟩⟩
    · have hij : j = i := by
        rcases Nat.lt_trichotomy i j with h | h | h
        · rw [hall i h] at hunf; cases hunf
        · exact h.symm
        · have h1 := hahead (by omega) j h
          rw [hoffj j (Nat.le_refl _)] at h1; cases h1
      exact htail j hij (by omega) hall hoffj hwp
  · intro listed a W hI hsz hr
    obtain ⟨hcl, j, hmj, hjl, hoffj, hI⟩ := hI
    have hall := all_listedP ht hsz hr
    have hj : j = l.length := by
      rcases Nat.lt_or_ge j l.length with h | h
      · have h1 := hall j h
        rw [hoffj j (Nat.le_refl _)] at h1; cases h1
      · omega
    rcases hI with ⟨rfl, hI⟩ | ⟨_, _, hwp⟩
    · have h := hlast a W hI.low hI.defers hI.size hI.old (fun k ok t hk hok hd => hI.vals k ok t hk hok (hall k (by omega)) hd) (fun i' j' oi oj ti tj hi' hj' hne f1 f2 o1 o2 d1 d2 => hI.apart i' j' oi oj ti tj hi' hj' hne f1 f2 o1 o2 (hall i' (by omega)) (hall j' (by omega)) d1 d2)
      rw [List.drop_eq_nil_of_le (by omega)] at h
      exact h
    · rw [List.drop_eq_nil_of_le (by omega)] at hwp
      exact hwp
end
end Go.Proofs.YtineejjdbjdliaaGreatDoor
/- Single operations for regions by predicates: a load, a call, a new node; stores of whole nodes. No condition. -/
namespace Go.Proofs.YtineejjdbjdliaaGreatDoor
open Go.RowKit

theorem below_setRow {B : Nat} {w W : World} {g : Nat} (h : Below B w W) (hg : B ≤ g) (cs : Array Value) : Below B w (W.setRow g cs) :=
  ⟨h.os, h.tape, h.output, by simpa using h.size, fun i hi => (setRow_other _ _ _ _ (by omega)).trans (h.block i hi)⟩
section
variable {l : List Oper} {m : Nat} {a0 : Act} {w0 : World} {ty : Nat → World → Value → Prop} {fr : Nat → Bool} {i : Nat} {o : Oper}
/-- a value that an operation waits for -/
def WaitsP (l : List Oper) (m : Nat) (o : Oper) (x : Operand) (j : Nat) : Prop :=
  j < m ∧ ∃ (oj : Oper) (t : Tmp), x = .tmp t ∧ (o.after.any fun e => Region.binds .any e && e.on == j) = true ∧ l[j]? = some oj ∧ oj.dst = some t
theorem WaitsP.has {x : Operand} {j : Nat} {a : Act} {W : World} (h : WaitsP l m o x j)
    (hv : ∀ (j : Nat) (oj : Oper) (t : Tmp), j < m → (∃ e ∈ o.after, Region.binds .any e = true ∧ e.on = j) → l[j]? = some oj → oj.dst = some t → ty j W (a.tmps.getD t undef)) : ty j W (a.eval x) := by
  obtain ⟨hm, oj, t, rfl, hw, hj, hd⟩ := h
  obtain ⟨e, he, h1⟩ := Array.any_eq_true'.1 hw
  simp only [Bool.and_eq_true, beq_iff_eq] at h1
  exact hv j oj t hm ⟨e, he, h1⟩ hj hd
/-- a slot that the region does not write -/
def oldP (l : List Oper) (m t : Nat) : Bool := (List.range m).all fun j => match l[j]? with | some o => decide (o.dst ≠ some t) | none => true
theorem oldP_at {t : Nat} (h : oldP l m t = true) : ∀ (j : Nat) (o' : Oper), j < m → l[j]? = some o' → o'.dst ≠ some t := fun j o' hj ho => by
  have := List.all_eq_true.1 h j (List.mem_range.2 hj)
  rw [ho] at this
  simpa using this
theorem opP_load (t g : Nat) (cs : Array Value) (ho : o.op = .load 26 (.tmp t)) (hfr : fr i = false) (hold : oldP l m t = true) (hp : a0.tmps.getD t undef = .pointer (some ⟨g, 0, none⟩))
    (hg : w0.heap[g]? = some (.cells cs 26 (0, 0))) (hi : (Tryz.prog.info? 26).map (·.size) = some cs.size)
    (hty : ∀ W, ty i W (.agg cs)) : OpP Tryz.prog l m a0 w0 ty fr i o := by
  refine OpP.of hfr fun a W Q' hb hold' _ => ?_
  have hx : a.eval (.tmp t) = .pointer (some ⟨g, 0, none⟩) := by
    show a.tmps.getD t undef = _
    rw [hold' t (oldP_at hold), hp]
  exact wp_load_row 26 _ ho g hx 26 cs (0, 0) _ (heap_below hb hg (Array.getElem?_eq_some_iff.1 hg).1) Tryz.underlying26 rfl hi ⟨_, rfl, Below.refl _ _, hty W⟩
theorem opP_call (f : FuncId) (args : Array Operand) (tys : Array TypeId) (ho : o.op = .call { callee := .value (.func f), args := args, argTypes := tys }) (hfr : fr i = false)
    (hent : ∀ (xs : Array Value) (w : World), (callFunc f xs).run Tryz.prog w = .ok (.enter f xs) w)
    (h : ∀ (a : Act) (W : World), Below w0.heap.size w0 W → (∀ t, oldP l m t = true → a.tmps.getD t undef = a0.tmps.getD t undef) → (∀ x j, WaitsP l m o x j → ty j W (a.eval x)) →
      ∃ vs, args.map a.eval = vs ∧ Calls Tryz.prog f vs W (fun e W' => ∃ v, e = .returned v ∧ Below W.heap.size W W' ∧ ty i W' v)) : OpP Tryz.prog l m a0 w0 ty fr i o := by
  refine OpP.of hfr fun a W Q' hb hold' hv => ?_
  obtain ⟨vs, h1, h2⟩ := h a W hb (fun t ht => hold' t (oldP_at ht)) (fun x j hw => hw.has hv)
  refine step_call f _ tys ho vs h1 hent (h2.mono fun e W' hh => ?_)
  obtain ⟨v, rfl, hb', ht⟩ := hh
  exact ⟨v, rfl, v, rfl, hb', ht⟩
/-- a new box, and that it holds the zero node -/
def boxTy (L : Nat) (W : World) (v : Value) : Prop := ∃ g, v = .pointer (some ⟨g, 0, none⟩) ∧ L ≤ g ∧ g < W.heap.size ∧ W.heap[g]? = some (.cells zeroNode 26 (0, 0))
theorem boxTy.mono {L : Nat} {W W' : World} {v : Value} (h : boxTy L W v) (hb : Below W.heap.size W W') : boxTy L W' v := by
  obtain ⟨g, h1, h2, h3, h4⟩ := h
  exact ⟨g, h1, h2, Nat.lt_of_lt_of_le h3 hb.size, heap_below hb h4 h3⟩
theorem opP_alloc (ho : o.op = .alloc 26) (hty : ∀ W v, boxTy w0.heap.size W v → ty i W v) : OpP Tryz.prog l m a0 w0 ty fr i o := by
  intro a W Q' hb _ _
  have hrun : (execOp a.eval o).run Tryz.prog W = .ok (.value (.pointer (some ⟨W.heap.size, 0, none⟩))) (W.alloc (.cells zeroNode 26)) := by
    unfold execOp
    simp only [ho, Sem.run_bind, run_newNode, Result.andThen_ok, Sem.run_pure]
  unfold Oper.wp
  rw [hrun, Oper.upon_value]
  exact ⟨_, rfl, (Below.refl _ W).alloc (Nat.le_refl _) _, hty _ _ ⟨_, rfl, hb.size, by simp, heap_alloc_new W _⟩, fun _ => ⟨_, rfl, Nat.le_refl _⟩⟩
end
/-- a node that was lent -/
def lentTy (L d : Nat) (T : Tree) (W : World) (v : Value) : Prop := ∃ L' g, L ≤ L' ∧ v = .agg #[.int .u8 T.kind, .string T.text, .int .i64 T.num, .int .i64 T.place, .slice (some ⟨g, 0, none⟩) T.kids.length (T.kids.length + 12)] ∧
  LentAt W L' W.heap.size d T.kids (.slice (some ⟨g, 0, none⟩) T.kids.length (T.kids.length + 12))
theorem lentTy.mono {L d : Nat} {T : Tree} {W W' : World} {v : Value} (h : lentTy L d T W v) (hb : Below W.heap.size W W') : lentTy L d T W' v := by
  obtain ⟨L', g, h1, h2, h3⟩ := h
  exact ⟨L', g, h1, h2, (h3.below hb).up (Nat.le_refl _) hb.size⟩
end Go.Proofs.YtineejjdbjdliaaGreatDoor
