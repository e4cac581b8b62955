/- Several texts joined, each with its own sentence and conditions ahead of it: TreeA, TreeB, TreeC, TreeD, TreeE, TreeF, TreeM, TreeG, TreeH, TreeI, TreeJ. -/
import Derived.Test.YtfpohaipmnjflaaGreatDoorMD
import Derived.StillTailTactics
/- Trees of rules: what they are, and what the document says of them, with no program in sight. No condition. -/
namespace Go.Proofs.YtfpohaipmnjflaaGreatDoor
open Go.RowKit

/-- a node, with all that is in it -/
inductive Tree where
  | mk (kind : Nat) (text : ByteArray) (num place : Int) (kids : List Tree)
def Tree.kind : Tree → Nat | .mk k _ _ _ _ => k
def Tree.text : Tree → ByteArray | .mk _ t _ _ _ => t
def Tree.num : Tree → Int | .mk _ _ n _ _ => n
def Tree.place : Tree → Int | .mk _ _ _ p _ => p
def Tree.kids : Tree → List Tree | .mk _ _ _ _ l => l

/-- how deep, how many; as far down as is asked -/
def deepF : Nat → Tree → Nat
  | 0, _ => 1
  | d + 1, T => (T.kids.map (deepF d)).foldl Nat.max 0 + 1
def manyF : Nat → Tree → Nat
  | 0, _ => 1
  | d + 1, T => (T.kids.map (manyF d)).foldl (· + ·) 1
/-- the same, but for places -/
def sameF : Nat → Tree → Tree → Bool
  | 0, a, b => a.kind == b.kind && a.text.data.toList == b.text.data.toList && a.num == b.num && a.kids.length == b.kids.length
  | d + 1, a, b => a.kind == b.kind && a.text.data.toList == b.text.data.toList && a.num == b.num && a.kids.length == b.kids.length && (a.kids.zip b.kids).all (fun x => sameF d x.1 x.2)

/-- operators with two sides -/
def twoL : List ByteArray := [⟨#[111, 114]⟩, ⟨#[97, 110, 100]⟩, ⟨#[61]⟩, ⟨#[33, 61]⟩, ⟨#[60]⟩, ⟨#[60, 61]⟩, ⟨#[62]⟩, ⟨#[62, 61]⟩, ⟨#[43]⟩, ⟨#[45]⟩, ⟨#[42]⟩]
def oneL : List ByteArray := [⟨#[45]⟩, ⟨#[110, 111, 116]⟩]
def amongB (l : List ByteArray) (x : List UInt8) : Bool := l.any (fun b => b.data.toList == x)
/-- a number's text, perhaps with a - ahead -/
def strip (l : List UInt8) : List UInt8 := match l with | 45 :: r => r | l => l
def negB (l : List UInt8) : Bool := match l with | 45 :: _ => true | _ => false
/-- is a node's text as its kind has it? -/
def textOk (kind : Nat) (text : List UInt8) (kids : Nat) : Bool :=
  if kind == 2 || kind == 3 || kind == 4 || kind == 5 || kind == 6 || kind == 8 then namedF text && !wordB text
  else if kind == 13 || kind == 15 then namedF text
  else if kind == 14 then (number (strip text)).isSome
  else if kind == 16 then (kids == 1 && amongB oneL text) || (kids == 2 && amongB twoL text)
  else text.isEmpty
def numOk (kind : Nat) (num : Int) : Bool :=
  if kind == 4 then decide (-2147483647 ≤ num) && decide (num ≤ 2147483647)
  else if kind == 9 then decide (0 ≤ num) && decide (num ≤ 2147483647)
  else num == 0
/-- are kids all of some kinds? -/
def among (S : List Nat) (l : List Tree) : Bool := l.all (fun t => S.contains t.kind)
def exprsB (l : List Tree) : Bool := l.all (fun t => !(t.kind == 14 && negB t.text.data.toList)) && among [13, 14, 15, 16] l
def condB (t : Tree) : Bool := [5, 6, 7].contains t.kind
def rowB (l : List Tree) : Bool := among [8, 9, 10, 11] (l.dropWhile condB)
def kidsOk (kind : Nat) (l : List Tree) : Bool :=
  if kind == 1 then among [2, 4] l
  else if kind == 2 then among [3] l
  else if kind == 4 then rowB l
  else if kind == 5 || kind == 6 then among [12, 13, 14, 15] l
  else if kind == 7 then l.length == 1 && exprsB l
  else if kind == 8 || kind == 16 then exprsB l
  else if kind == 10 then decide (0 < l.length) && exprsB l
  else l.isEmpty
def levelOk (T : Tree) : Bool := decide (1 ≤ T.kind) && decide (T.kind ≤ 16) && textOk T.kind T.text.data.toList T.kids.length && numOk T.kind T.num && decide (0 ≤ T.place) && kidsOk T.kind T.kids
/-- is a node, with all that is in it, as the document's table says? -/
def okF : Nat → Tree → Bool
  | 0, T => levelOk T
  | d + 1, T => levelOk T && T.kids.all (okF d)
def rightF (d : Nat) (T : Tree) : Bool := T.kind == 1 && okF d T && decide (deepF d T ≤ 30) && decide (manyF d T ≤ 4096)

/-- how much a tree is: as far as most -/
def nodesF : Nat → Tree → Int → Int
  | 0, T, most => min (1 + ((T.text.size / 8 : Nat) : Int)) (most + 1)
  | d + 1, T, most => min (T.kids.foldl (fun c k => if c ≤ most then c + nodesF d k (most - c) else c) (1 + ((T.text.size / 8 : Nat) : Int))) (most + 1)

/-- a node's fields are what the machine can hold -/
def Fits (T : Tree) : Prop := T.kind < 256 ∧ T.text.size ≤ maxLen ∧ -9223372036854775808 ≤ T.num ∧ T.num < 9223372036854775808 ∧ -9223372036854775808 ≤ T.place ∧ T.place < 9223372036854775808
/-- a slice's value, and all that hangs on it, read as trees; all of it below a block -/
def KidsAt (w : World) (B : Nat) : Nat → List Tree → Value → Prop
  | 0, ks, sl => ks = [] ∧ ∃ sp cap, sl = .slice sp 0 cap
  | d + 1, ks, sl => (ks = [] ∧ ∃ sp cap, sl = .slice sp 0 cap) ∨
      ∃ b off cap, ks ≠ [] ∧ b < B ∧ ks.length ≤ cap ∧ cap ≤ maxLen ∧ sl = .slice (some ⟨b, off, none⟩) ks.length cap ∧
        ∀ i T, ks[i]? = some T → Fits T ∧ ∃ s, w.cell? ⟨b, off + i * 5, none⟩ = some (.int .u8 T.kind) ∧ w.cell? ⟨b, off + i * 5 + 1, none⟩ = some (.string T.text) ∧
          w.cell? ⟨b, off + i * 5 + 2, none⟩ = some (.int .i64 T.num) ∧ w.cell? ⟨b, off + i * 5 + 3, none⟩ = some (.int .i64 T.place) ∧ w.cell? ⟨b, off + i * 5 + 4, none⟩ = some s ∧ KidsAt w B d T.kids s
/-- a node's value read as a tree -/
def NodeAt (w : World) (B : Nat) (d : Nat) (T : Tree) (v : Value) : Prop := Fits T ∧ ∃ s, v = .agg #[.int .u8 T.kind, .string T.text, .int .i64 T.num, .int .i64 T.place, s] ∧ KidsAt w B d T.kids s

theorem KidsAt.below {w w' : World} {B : Nat} (hb : Below B w w') : ∀ {d : Nat} {ks : List Tree} {sl : Value}, KidsAt w B d ks sl → KidsAt w' B d ks sl := by
  intro d
  induction d with
  | zero => intro ks sl h; exact h
  | succ d ih =>
    intro ks sl h
    rcases h with h | ⟨b, off, cap, h1, h2, h3, h4, h5, h6⟩
    · exact Or.inl h
    · refine Or.inr ⟨b, off, cap, h1, h2, h3, h4, h5, fun i T hT => ?_⟩
      obtain ⟨hf, s, c0, c1, c2, c3, c4, hk⟩ := h6 i T hT
      have e : ∀ j, w'.cell? ⟨b, j, none⟩ = w.cell? ⟨b, j, none⟩ := fun j => hb.cell (p := ⟨b, j, none⟩) h2
      exact ⟨hf, s, (e _).trans c0, (e _).trans c1, (e _).trans c2, (e _).trans c3, (e _).trans c4, ih hk⟩
theorem KidsAt.up {w : World} {B B' : Nat} (hB : B ≤ B') : ∀ {d : Nat} {ks : List Tree} {sl : Value}, KidsAt w B d ks sl → KidsAt w B' d ks sl := by
  intro d
  induction d with
  | zero => intro ks sl h; exact h
  | succ d ih =>
    intro ks sl h
    rcases h with h | ⟨b, off, cap, h1, h2, h3, h4, h5, h6⟩
    · exact Or.inl h
    · refine Or.inr ⟨b, off, cap, h1, Nat.lt_of_lt_of_le h2 hB, h3, h4, h5, fun i T hT => ?_⟩
      obtain ⟨hf, s, c0, c1, c2, c3, c4, hk⟩ := h6 i T hT
      exact ⟨hf, s, c0, c1, c2, c3, c4, ih hk⟩
theorem NodeAt.below {w w' : World} {B d : Nat} {T : Tree} {v : Value} (h : NodeAt w B d T v) (hb : Below B w w') : NodeAt w' B d T v := by
  obtain ⟨hf, s, rfl, hk⟩ := h
  exact ⟨hf, s, rfl, hk.below hb⟩
theorem NodeAt.up {w : World} {B B' d : Nat} {T : Tree} {v : Value} (h : NodeAt w B d T v) (hB : B ≤ B') : NodeAt w B' d T v := by
  obtain ⟨hf, s, rfl, hk⟩ := h
  exact ⟨hf, s, rfl, hk.up hB⟩
end Go.Proofs.YtfpohaipmnjflaaGreatDoor
/- How deep and how many: the program's and the reference's; by contract. Condition: the tree has at most 100000 nodes. -/
namespace Go.Proofs.YtfpohaipmnjflaaGreatDoor
open Go.RowKit

/-- the list that a slice is, kid by kid -/
theorem KidsAt.cases {w : World} {B d : Nat} {ks : List Tree} {sl : Value} (h : KidsAt w B d ks sl) : (ks = [] ∧ ∃ sp cap, sl = .slice sp 0 cap) ∨
    ∃ d' b off cap, d = d' + 1 ∧ ks ≠ [] ∧ b < B ∧ ks.length ≤ cap ∧ cap ≤ maxLen ∧ sl = .slice (some ⟨b, off, none⟩) ks.length cap ∧
      ∀ i T, ks[i]? = some T → Fits T ∧ ∃ s, w.cell? ⟨b, off + i * 5, none⟩ = some (.int .u8 T.kind) ∧ w.cell? ⟨b, off + i * 5 + 1, none⟩ = some (.string T.text) ∧
          w.cell? ⟨b, off + i * 5 + 2, none⟩ = some (.int .i64 T.num) ∧ w.cell? ⟨b, off + i * 5 + 3, none⟩ = some (.int .i64 T.place) ∧ w.cell? ⟨b, off + i * 5 + 4, none⟩ = some s ∧ KidsAt w B d' T.kids s := by
  cases d with
  | zero => exact Or.inl h
  | succ d =>
    rcases h with h | ⟨b, off, cap, h1, h2, h3, h4, h5, h6⟩
    · exact Or.inl h
    · exact Or.inr ⟨d, b, off, cap, rfl, h1, h2, h3, h4, h5, h6⟩

def IntPost (m : Nat) (w : World) (e : Ending) (w' : World) : Prop := e = .returned (.int .i64 m) ∧ Below w.heap.size w w'
theorem deepF_leaf (d : Nat) (T : Tree) (h : T.kids = []) : deepF d T = 1 := by
  cases d with
  | zero => rfl
  | succ d => show (T.kids.map (deepF d)).foldl Nat.max 0 + 1 = 1; rw [h]; rfl
theorem foldl_max (l : List Nat) (a b : Nat) : (l ++ [b]).foldl Nat.max a = Nat.max (l.foldl Nat.max a) b := by rw [List.foldl_append]; rfl
theorem max_cast (a b : Nat) : ((Nat.max a b : Nat) : Int) = max (a : Int) (b : Int) := by
  show ((max a b : Nat) : Int) = _
  omega
/-- the loop's state: so many kids looked at -/
def DeepRel (w : World) (d : Nat) (ks : List Tree) (m i : Value) (W : World) : Prop :=
  ∃ k : Nat, k ≤ ks.length ∧ m = .int .i64 (((ks.take k).map (deepF d)).foldl Nat.max 0 : Nat) ∧ i = .int .i64 k ∧ Below w.heap.size w W

/-- a boxed node: its cells in the new block -/
theorem box_new (w : World) (T : Tree) (s : Value) : (w.alloc (.cells #[.int .u8 T.kind, .string T.text, .int .i64 T.num, .int .i64 T.place, s] 25)).cell? ⟨w.heap.size, 4, none⟩ = some s := by
  rw [cell_of_row _ _ 4 _ _ _ (heap_alloc_new w _)]
  rfl
theorem foldl_add (l : List Nat) : ∀ a : Nat, l.foldl (· + ·) a = a + l.foldl (· + ·) 0 := by
  induction l with
  | nil => intro a; rfl
  | cons x l ih => intro a; rw [List.foldl_cons, ih, List.foldl_cons, ih (0 + x)]; omega
theorem manyF_kid (d : Nat) (T k : Tree) (h : k ∈ T.kids) : manyF d k < manyF (d + 1) T := by
  show manyF d k < (T.kids.map (manyF d)).foldl (· + ·) 1
  rw [foldl_add]
  have h2 : manyF d k ∈ T.kids.map (manyF d) := List.mem_map_of_mem h
  generalize T.kids.map (manyF d) = l at *
  generalize manyF d k = x at *
  induction l with
  | nil => cases h2
  | cons y l ih =>
    rw [List.foldl_cons, foldl_add]
    rcases List.mem_cons.1 h2 with rfl | h2
    · omega
    · have := ih h2; omega
theorem deepF_le (d : Nat) : ∀ T : Tree, deepF d T ≤ manyF d T := by
  induction d with
  | zero => intro T; exact Nat.le_refl _
  | succ d ih =>
    intro T
    show (T.kids.map (deepF d)).foldl Nat.max 0 + 1 ≤ (T.kids.map (manyF d)).foldl (· + ·) 1
    rw [foldl_add]
    have h : ∀ (l : List Tree) (a : Nat), (l.map (deepF d)).foldl Nat.max a ≤ a + (l.map (manyF d)).foldl (· + ·) 0 := by
      intro l
      induction l with
      | nil => intro a; exact Nat.le_add_right _ _
      | cons x l ihl =>
        intro a
        rw [List.map_cons, List.foldl_cons, List.map_cons, List.foldl_cons, foldl_add]
        have h1 := ihl (Nat.max a (deepF d x))
        have h2 := ih x
        have h3 : Nat.max a (deepF d x) ≤ a + deepF d x := Nat.max_le.2 ⟨Nat.le_add_right _ _, Nat.le_add_left _ _⟩
        omega
    have := h T.kids 0
    omega
theorem kids_len (d : Nat) (T : Tree) : T.kids.length ≤ manyF (d + 1) T := by
  show _ ≤ (T.kids.map (manyF d)).foldl (· + ·) 1
  rw [foldl_add]
  have hp : ∀ k : Tree, 1 ≤ manyF d k := by
    intro k
    cases d with
    | zero => exact Nat.le_refl _
    | succ d => show 1 ≤ (k.kids.map (manyF d)).foldl (· + ·) 1; rw [foldl_add]; omega
  induction T.kids with
  | nil => exact Nat.zero_le _
  | cons x l ih =>
    rw [List.map_cons, List.foldl_cons, foldl_add, List.length_cons]
    have := hp x
    omega

set_option maxHeartbeats 1000000 in
theorem rdeep_any : ∀ (d : Nat) (T : Tree) (v : Value) (B : Nat) (w : World), NodeAt w B d T v → B ≤ w.heap.size → manyF d T ≤ 100000 →
    Calls Tryz.prog 27 #[v] w (IntPost (deepF d T) w) := by
  intro d
  induction d with
  | zero =>
    intro T v B w hT hB _
    obtain ⟨_, s, rfl, hk, sp, cap, rfl⟩ := hT
    rw [deepF_leaf _ _ hk]
    have hbox := box_new w T (.slice sp 0 cap)
    have HB := Lib.hid ((Below.refl _ w).alloc (Nat.le_refl _) (.cells #[.int .u8 T.kind, .string T.text, .int .i64 T.num, .int .i64 T.place, .slice sp 0 cap] 25))
    go_enter Tryz.func27, Tryz.ntmps27
    go_wp2
    go_loop [3, 4] (fun m i => m = .int .i64 0 ∧ i = .int .i64 0) (fun _ _ => 0)
    case atStart => exact ⟨rfl, rfl⟩
    case round =>
      obtain ⟨rfl, rfl⟩ := hrel
      go_wp2
      go_ret
      exact ⟨rfl, HB.out⟩
  | succ d ih =>
    intro T v B w hT hB hm
    obtain ⟨_, s, rfl, hk⟩ := hT
    rcases hk with ⟨hk, sp, cap, rfl⟩ | ⟨b, off, cap, hne, hbB, hcap, hmax, rfl, hrow⟩
    · rw [deepF_leaf _ _ hk]
      have hbox := box_new w T (.slice sp 0 cap)
      have HB := Lib.hid ((Below.refl _ w).alloc (Nat.le_refl _) (.cells #[.int .u8 T.kind, .string T.text, .int .i64 T.num, .int .i64 T.place, .slice sp 0 cap] 25))
      go_enter Tryz.func27, Tryz.ntmps27
      go_wp2
      go_loop [3, 4] (fun m i => m = .int .i64 0 ∧ i = .int .i64 0) (fun _ _ => 0)
      case atStart => exact ⟨rfl, rfl⟩
      case round =>
        obtain ⟨rfl, rfl⟩ := hrel
        go_wp2
        go_ret
        exact ⟨rfl, HB.out⟩
    · have HRow := Lib.hid hrow
      have HIH := Lib.hid ih
      have hlen := kids_len d T
      have HDp := Lib.hid (deepF_le (d + 1) T)
      have HKid := Lib.hid (fun k hk => manyF_kid d T k hk)
      have HM := Lib.hid hm
      have e0 : deepF (d + 1) T = (T.kids.map (deepF d)).foldl Nat.max 0 + 1 := rfl
      rw [e0]
      have HE0 := Lib.hid e0
      obtain ⟨ks, hks⟩ : ∃ ks, T.kids = ks := ⟨_, rfl⟩
      rw [hks] at HRow HKid HE0 hlen hne hcap ⊢
      obtain ⟨n, hn⟩ : ∃ n, ks.length = n := ⟨_, rfl⟩
      rw [hn] at hlen hcap ⊢
      have HN := Lib.hid hn
      have hn2 : n ≤ 100000 := by omega
      have hbox := box_new w T (.slice (some ⟨b, off, none⟩) n cap)
      obtain ⟨W0, hW0⟩ : ∃ W0, W0 = w.alloc (.cells #[.int .u8 T.kind, .string T.text, .int .i64 T.num, .int .i64 T.place, .slice (some ⟨b, off, none⟩) n cap] 25) := ⟨_, rfl⟩
      have hb0 : Below w.heap.size w W0 := by rw [hW0]; exact (Below.refl _ w).alloc (Nat.le_refl _) _
      have hs0 : w.heap.size < W0.heap.size := by rw [hW0]; simp
      rw [← hW0] at hbox
      have HBox := Lib.hid hbox
      have HB0 := Lib.hid hb0
      clear hrow ih hks hn hm hlen e0 hbox hb0
      go_enter Tryz.func27, Tryz.ntmps27
      go_wp2
      rw [← hW0]
      go_loopw [3, 4] (DeepRel W0 d ks) (fun _ i _ => n - (intOf i).toNat)
      case atStart => exact ⟨0, Nat.zero_le _, rfl, rfl, Below.refl _ _⟩
      case round =>
        obtain ⟨k, hk, rfl, rfl, hb⟩ := hrel
        rw [HN.out] at hk
        have hbw := HB0.out.trans (hb.mono HB0.out.size)
        have hbx := (hb.cell (p := ⟨w.heap.size, 4, none⟩) hs0).trans HBox.out
        by_cases hlt : k < n
        · obtain ⟨t, ht⟩ : ∃ t, ks[k]? = some t := ⟨ks[k]'(by rw [HN.out]; exact hlt), List.getElem?_eq_getElem (by rw [HN.out]; exact hlt)⟩
          obtain ⟨hfit, s, c0, c1, c2, c3, c4, hkt⟩ := HRow.out k t ht
          have hbB' := hbw.mono hB
          have e : ∀ j, _ := fun j => hbB'.cell (p := ⟨b, j, none⟩) hbB
          have d0 := (e _).trans c0
          have d1 := (e _).trans c1
          have d2 := (e _).trans c2
          have d3 := (e _).trans c3
          have d4 := (e _).trans c4
          have hmem : t ∈ ks := List.mem_of_getElem? ht
          have hmk : manyF d t ≤ 100000 := by have := HKid.out t hmem; have := HM.out; omega
          have HCall := Lib.hid (HIH.out t (.agg #[.int .u8 t.kind, .string t.text, .int .i64 t.num, .int .i64 t.place, s]) B _ ⟨hfit, s, rfl, hkt.below hbB'⟩ (Nat.le_trans hB hbw.size) hmk)
          have HNext := Lib.hid (show ((ks.take (k + 1)).map (deepF d)).foldl Nat.max 0 = Nat.max (((ks.take k).map (deepF d)).foldl Nat.max 0) (deepF d t) by
            rw [List.take_add_one, ht, List.map_append]; exact foldl_max _ _ _)
          have HBb := Lib.hid hb
          have hk0 : (0 : Int) ≤ k := by omega
          have hk1 : (k : Int) < n := by omega
          generalize ((ks.take k).map (deepF d)).foldl Nat.max 0 = m at *
          generalize deepF d t = m' at *
          clear c0 c1 c2 c3 c4 e hkt hfit hmem ht hbB' hbw hb hmk
          go_wp2_with fail
          refine HCall.out.mono ?_
          rintro e W2 ⟨rfl, hb2⟩
          go_wp2_with fail
          refine ⟨⟨k + 1, by rw [HN.out]; omega, ?_, by go_num, HBb.out.trans (hb2.mono HBb.out.size)⟩, by simp [intOf]; omega⟩
          rw [HNext.out, max_cast]
        · obtain rfl : k = n := by omega
          have e : ks.take k = ks := by rw [← HN.out]; exact List.take_length
          have HE : Hid (((ks.take k).map (deepF d)).foldl Nat.max 0 = (ks.map (deepF d)).foldl Nat.max 0) := by
            show _ = _
            rw [e]
          have HBw := Lib.hid hbw
          have hle := HDp.out
          rw [HE0.out, ← HE.out] at hle
          have HM2 := HM.out
          generalize hg : ((ks.take k).map (deepF d)).foldl Nat.max 0 = m at *
          have hm1 : (m : Int) ≤ 100000 := by omega
          clear hle HM2 e hb hbw hg
          go_wp2
          go_ret
          exact ⟨by rw [← HE.out]; go_num, HBw.out⟩
end Go.Proofs.YtfpohaipmnjflaaGreatDoor
/- How many nodes, and how deep in the program's own words; by contract. Condition: the tree has at most 100000 nodes. -/
namespace Go.Proofs.YtfpohaipmnjflaaGreatDoor
open Go.RowKit

theorem manyF_leaf (d : Nat) (T : Tree) (h : T.kids = []) : manyF d T = 1 := by
  cases d with
  | zero => rfl
  | succ d => show (T.kids.map (manyF d)).foldl (· + ·) 1 = 1; rw [h]; rfl
def ManyRel (w : World) (d : Nat) (ks : List Tree) (m i : Value) (W : World) : Prop :=
  ∃ k : Nat, k ≤ ks.length ∧ m = .int .i64 (((ks.take k).map (manyF d)).foldl (· + ·) 1 : Nat) ∧ i = .int .i64 k ∧ Below w.heap.size w W
theorem many_take (d : Nat) (ks : List Tree) (k : Nat) : ((ks.take k).map (manyF d)).foldl (· + ·) 1 ≤ (ks.map (manyF d)).foldl (· + ·) 1 := by
  have e : (ks.map (manyF d)).foldl (· + ·) 1 = (((ks.take k) ++ (ks.drop k)).map (manyF d)).foldl (· + ·) 1 := by rw [List.take_append_drop]
  rw [e, List.map_append, List.foldl_append, foldl_add ((ks.drop k).map (manyF d))]
  exact Nat.le_add_right _ _

set_option maxHeartbeats 1000000 in
theorem rmany_any : ∀ (d : Nat) (T : Tree) (v : Value) (B : Nat) (w : World), NodeAt w B d T v → B ≤ w.heap.size → manyF d T ≤ 100000 →
    Calls Tryz.prog 28 #[v] w (IntPost (manyF d T) w) := by
  intro d
  induction d with
  | zero =>
    intro T v B w hT hB _
    obtain ⟨_, s, rfl, hk, sp, cap, rfl⟩ := hT
    rw [manyF_leaf _ _ hk]
    have hbox := box_new w T (.slice sp 0 cap)
    have HB := Lib.hid ((Below.refl _ w).alloc (Nat.le_refl _) (.cells #[.int .u8 T.kind, .string T.text, .int .i64 T.num, .int .i64 T.place, .slice sp 0 cap] 25))
    go_enter Tryz.func28, Tryz.ntmps28
    go_wp2
    go_loop [3, 4] (fun m i => m = .int .i64 1 ∧ i = .int .i64 0) (fun _ _ => 0)
    case atStart => exact ⟨rfl, rfl⟩
    case round =>
      obtain ⟨rfl, rfl⟩ := hrel
      go_wp2
      go_ret
      exact ⟨rfl, HB.out⟩
  | succ d ih =>
    intro T v B w hT hB hm
    obtain ⟨_, s, rfl, hk⟩ := hT
    rcases hk with ⟨hk, sp, cap, rfl⟩ | ⟨b, off, cap, hne, hbB, hcap, hmax, rfl, hrow⟩
    · rw [manyF_leaf _ _ hk]
      have hbox := box_new w T (.slice sp 0 cap)
      have HB := Lib.hid ((Below.refl _ w).alloc (Nat.le_refl _) (.cells #[.int .u8 T.kind, .string T.text, .int .i64 T.num, .int .i64 T.place, .slice sp 0 cap] 25))
      go_enter Tryz.func28, Tryz.ntmps28
      go_wp2
      go_loop [3, 4] (fun m i => m = .int .i64 1 ∧ i = .int .i64 0) (fun _ _ => 0)
      case atStart => exact ⟨rfl, rfl⟩
      case round =>
        obtain ⟨rfl, rfl⟩ := hrel
        go_wp2
        go_ret
        exact ⟨rfl, HB.out⟩
    · have HRow := Lib.hid hrow
      have HIH := Lib.hid ih
      have hlen := kids_len d T
      have HTk := Lib.hid (fun k => many_take d T.kids k)
      have HKid := Lib.hid (fun k hk => manyF_kid d T k hk)
      have HM := Lib.hid hm
      have e0 : manyF (d + 1) T = (T.kids.map (manyF d)).foldl (· + ·) 1 := rfl
      rw [e0]
      have HE0 := Lib.hid e0
      obtain ⟨ks, hks⟩ : ∃ ks, T.kids = ks := ⟨_, rfl⟩
      rw [hks] at HRow HKid HE0 HTk hlen hne hcap ⊢
      obtain ⟨n, hn⟩ : ∃ n, ks.length = n := ⟨_, rfl⟩
      rw [hn] at hlen hcap ⊢
      have HN := Lib.hid hn
      have hn2 : n ≤ 100000 := by omega
      have hbox := box_new w T (.slice (some ⟨b, off, none⟩) n cap)
      obtain ⟨W0, hW0⟩ : ∃ W0, W0 = w.alloc (.cells #[.int .u8 T.kind, .string T.text, .int .i64 T.num, .int .i64 T.place, .slice (some ⟨b, off, none⟩) n cap] 25) := ⟨_, rfl⟩
      have hb0 : Below w.heap.size w W0 := by rw [hW0]; exact (Below.refl _ w).alloc (Nat.le_refl _) _
      have hs0 : w.heap.size < W0.heap.size := by rw [hW0]; simp
      rw [← hW0] at hbox
      have HBox := Lib.hid hbox
      have HB0 := Lib.hid hb0
      clear hrow ih hks hn hm hlen e0 hbox hb0
      go_enter Tryz.func28, Tryz.ntmps28
      go_wp2
      rw [← hW0]
      go_loopw [3, 4] (ManyRel W0 d ks) (fun _ i _ => n - (intOf i).toNat)
      case atStart => exact ⟨0, Nat.zero_le _, rfl, rfl, Below.refl _ _⟩
      case round =>
        obtain ⟨k, hk, rfl, rfl, hb⟩ := hrel
        rw [HN.out] at hk
        have hbw := HB0.out.trans (hb.mono HB0.out.size)
        have hbx := (hb.cell (p := ⟨w.heap.size, 4, none⟩) hs0).trans HBox.out
        by_cases hlt : k < n
        · obtain ⟨t, ht⟩ : ∃ t, ks[k]? = some t := ⟨ks[k]'(by rw [HN.out]; exact hlt), List.getElem?_eq_getElem (by rw [HN.out]; exact hlt)⟩
          obtain ⟨hfit, s, c0, c1, c2, c3, c4, hkt⟩ := HRow.out k t ht
          have hbB' := hbw.mono hB
          have e : ∀ j, _ := fun j => hbB'.cell (p := ⟨b, j, none⟩) hbB
          have d0 := (e _).trans c0
          have d1 := (e _).trans c1
          have d2 := (e _).trans c2
          have d3 := (e _).trans c3
          have d4 := (e _).trans c4
          have hmem : t ∈ ks := List.mem_of_getElem? ht
          have hmk : manyF d t ≤ 100000 := by have := HKid.out t hmem; have := HM.out; omega
          have HCall := Lib.hid (HIH.out t (.agg #[.int .u8 t.kind, .string t.text, .int .i64 t.num, .int .i64 t.place, s]) B _ ⟨hfit, s, rfl, hkt.below hbB'⟩ (Nat.le_trans hB hbw.size) hmk)
          have HNext := Lib.hid (show ((ks.take (k + 1)).map (manyF d)).foldl (· + ·) 1 = ((ks.take k).map (manyF d)).foldl (· + ·) 1 + manyF d t by
            rw [List.take_add_one, ht, List.map_append, List.foldl_append]; rfl)
          have hsum : ((ks.take k).map (manyF d)).foldl (· + ·) 1 ≤ 100000 := by
            have h1 := HTk.out k
            have h2 := HM.out
            rw [HE0.out] at h2
            exact Nat.le_trans h1 h2
          have HBb := Lib.hid hb
          have hk0 : (0 : Int) ≤ k := by omega
          have hk1 : (k : Int) < n := by omega
          generalize ((ks.take k).map (manyF d)).foldl (· + ·) 1 = m at *
          generalize manyF d t = m' at *
          have hmI : (m : Int) ≤ 100000 := by omega
          have hmJ : (m' : Int) ≤ 100000 := by omega
          clear c0 c1 c2 c3 c4 e hkt hfit hmem ht hbB' hbw hb hmk hsum
          go_wp2_with fail
          refine HCall.out.mono ?_
          rintro e W2 ⟨rfl, hb2⟩
          go_wp2_with fail
          refine ⟨⟨k + 1, by rw [HN.out]; omega, ?_, by go_num, HBb.out.trans (hb2.mono HBb.out.size)⟩, by simp [intOf]; omega⟩
          rw [HNext.out]; rfl
        · obtain rfl : k = n := by omega
          have e : ks.take k = ks := by rw [← HN.out]; exact List.take_length
          have HE : Hid (((ks.take k).map (manyF d)).foldl (· + ·) 1 = (ks.map (manyF d)).foldl (· + ·) 1) := by
            show _ = _
            rw [e]
          have HBw := Lib.hid hbw
          generalize hg : ((ks.take k).map (manyF d)).foldl (· + ·) 1 = m at *
          clear e hb hbw hg
          go_wp2
          go_ret
          exact ⟨by rw [← HE.out]; go_num, HBw.out⟩
end Go.Proofs.YtfpohaipmnjflaaGreatDoor
/- How deep a tree is, by the program; by contract. Condition: the tree has at most 100000 nodes. -/
namespace Go.Proofs.YtfpohaipmnjflaaGreatDoor
open Go.RowKit

/-- the loop's state, the world named -/
def DeepRelN (w : World) (d : Nat) (ks : List Tree) (m i : Value) (W : World) : Prop :=
  ∃ (W1 : World) (k : Nat), W1 = W ∧ k ≤ ks.length ∧ m = .int .i64 (((ks.take k).map (deepF d)).foldl Nat.max 0 : Nat) ∧ i = .int .i64 k ∧ Below w.heap.size w W1
theorem KidsAt.shape {w : World} {B d : Nat} {ks : List Tree} {sl : Value} (h : KidsAt w B d ks sl) : ∃ p n c, sl = .slice p n c := by
  rcases h.cases with ⟨_, sp, cap, rfl⟩ | ⟨_, b, off, cap, _, _, _, _, _, rfl, _⟩
  · exact ⟨_, _, _, rfl⟩
  · exact ⟨_, _, _, rfl⟩
theorem NodeAt.alloc {w : World} {B d : Nat} {T : Tree} {v : Value} (h : NodeAt w B d T v) (hB : B ≤ w.heap.size) (o : Obj) : NodeAt (w.alloc o) B d T v := h.below (((Below.refl _ w).alloc (Nat.le_refl _) o).mono hB)

set_option maxHeartbeats 1000000 in
theorem deep_any : ∀ (d : Nat) (T : Tree) (v : Value) (B : Nat) (w : World), NodeAt w B d T v → B ≤ w.heap.size → manyF d T ≤ 100000 →
    Calls Tryz.prog 15 #[v] w (IntPost (deepF d T) w) := by
  intro d
  induction d with
  | zero =>
    intro T v B w hT hB _
    obtain ⟨_, s, rfl, hk, sp, cap, rfl⟩ := hT
    rw [deepF_leaf _ _ hk]
    have hbox := box_new w T (.slice sp 0 cap)
    have HB := Lib.hid ((Below.refl _ w).alloc (Nat.le_refl _) (.cells #[.int .u8 T.kind, .string T.text, .int .i64 T.num, .int .i64 T.place, .slice sp 0 cap] 25))
    go_enter Tryz.func15, Tryz.ntmps15
    go_wp2
    go_loop [3, 9] (fun m i => m = .int .i64 0 ∧ i = .int .i64 0) (fun _ _ => 0)
    case atStart => exact ⟨rfl, rfl⟩
    case round =>
      obtain ⟨rfl, rfl⟩ := hrel
      go_wp2
      go_ret
      exact ⟨rfl, HB.out⟩
  | succ d ih =>
    intro T v B w hT hB hm
    obtain ⟨_, s, rfl, hk⟩ := hT
    rcases hk with ⟨hk, sp, cap, rfl⟩ | ⟨b, off, cap, hne, hbB, hcap, hmax, rfl, hrow⟩
    · rw [deepF_leaf _ _ hk]
      have hbox := box_new w T (.slice sp 0 cap)
      have HB := Lib.hid ((Below.refl _ w).alloc (Nat.le_refl _) (.cells #[.int .u8 T.kind, .string T.text, .int .i64 T.num, .int .i64 T.place, .slice sp 0 cap] 25))
      go_enter Tryz.func15, Tryz.ntmps15
      go_wp2
      go_loop [3, 9] (fun m i => m = .int .i64 0 ∧ i = .int .i64 0) (fun _ _ => 0)
      case atStart => exact ⟨rfl, rfl⟩
      case round =>
        obtain ⟨rfl, rfl⟩ := hrel
        go_wp2
        go_ret
        exact ⟨rfl, HB.out⟩
    · have HRow := Lib.hid hrow
      have HIH := Lib.hid ih
      have hlen := kids_len d T
      have HDp := Lib.hid (deepF_le (d + 1) T)
      have HKid := Lib.hid (fun k hk => manyF_kid d T k hk)
      have HM := Lib.hid hm
      have e0 : deepF (d + 1) T = (T.kids.map (deepF d)).foldl Nat.max 0 + 1 := rfl
      rw [e0]
      have HE0 := Lib.hid e0
      obtain ⟨ks, hks⟩ : ∃ ks, T.kids = ks := ⟨_, rfl⟩
      rw [hks] at HRow HKid HE0 hlen hne hcap ⊢
      obtain ⟨n, hn⟩ : ∃ n, ks.length = n := ⟨_, rfl⟩
      rw [hn] at hlen hcap ⊢
      have HN := Lib.hid hn
      have hn2 : n ≤ 100000 := by omega
      have hbox := box_new w T (.slice (some ⟨b, off, none⟩) n cap)
      obtain ⟨W0, hW0⟩ : ∃ W0, W0 = w.alloc (.cells #[.int .u8 T.kind, .string T.text, .int .i64 T.num, .int .i64 T.place, .slice (some ⟨b, off, none⟩) n cap] 25) := ⟨_, rfl⟩
      have hb0 : Below w.heap.size w W0 := by rw [hW0]; exact (Below.refl _ w).alloc (Nat.le_refl _) _
      have hs0 : w.heap.size < W0.heap.size := by rw [hW0]; simp
      rw [← hW0] at hbox
      have HBox := Lib.hid hbox
      have HB0 := Lib.hid hb0
      clear hrow ih hks hn hm hlen e0 hbox hb0
      go_enter Tryz.func15, Tryz.ntmps15
      go_wp2
      rw [← hW0]
      go_loopw [3, 9] (DeepRelN W0 d ks) (fun _ i _ => n - (intOf i).toNat)
      case atStart => exact ⟨_, 0, rfl, Nat.zero_le _, rfl, rfl, Below.refl _ _⟩
      case round =>
        obtain ⟨W1, k, rfl, hk, rfl, rfl, hb⟩ := hrel
        rw [HN.out] at hk
        have hbw := HB0.out.trans (hb.mono HB0.out.size)
        have hbx := (hb.cell (p := ⟨w.heap.size, 4, none⟩) hs0).trans HBox.out
        by_cases hlt : k < n
        · obtain ⟨t, ht⟩ : ∃ t, ks[k]? = some t := ⟨ks[k]'(by rw [HN.out]; exact hlt), List.getElem?_eq_getElem (by rw [HN.out]; exact hlt)⟩
          obtain ⟨hfit, s, c0, c1, c2, c3, c4, hkt⟩ := HRow.out k t ht
          obtain ⟨sp', ln', cp', rfl⟩ := hkt.shape
          have hbB' := hbw.mono hB
          have e : ∀ j, _ := fun j => hbB'.cell (p := ⟨b, j, none⟩) hbB
          have d0 := (e _).trans c0
          have d1 := (e _).trans c1
          have d2 := (e _).trans c2
          have d3 := (e _).trans c3
          have d4 := (e _).trans c4
          have hmem : t ∈ ks := List.mem_of_getElem? ht
          have hmk : manyF d t ≤ 100000 := by have := HKid.out t hmem; have := HM.out; omega
          have HCall := Lib.hid (HIH.out t (.agg #[.int .u8 t.kind, .string t.text, .int .i64 t.num, .int .i64 t.place, .slice sp' ln' cp']) B (W1.alloc (.cells #[.int .u8 t.kind, .string t.text, .int .i64 t.num, .int .i64 t.place, .slice sp' ln' cp'] 25)) (NodeAt.alloc ⟨hfit, _, rfl, hkt.below hbB'⟩ (Nat.le_trans hB hbw.size) _) (Nat.le_trans (Nat.le_trans hB hbw.size) (by simp)) hmk)
          have hba : Below W1.heap.size W1 (W1.alloc (.cells #[.int .u8 t.kind, .string t.text, .int .i64 t.num, .int .i64 t.place, .slice sp' ln' cp'] 25)) := (Below.refl _ W1).alloc (Nat.le_refl _) _
          have HNext := Lib.hid (show ((ks.take (k + 1)).map (deepF d)).foldl Nat.max 0 = Nat.max (((ks.take k).map (deepF d)).foldl Nat.max 0) (deepF d t) by
            rw [List.take_add_one, ht, List.map_append]; exact foldl_max _ _ _)
          have HBb := Lib.hid (hb.trans (hba.mono hb.size))
          have hk0 : (0 : Int) ≤ k := by omega
          have hk1 : (k : Int) < n := by omega
          generalize ((ks.take k).map (deepF d)).foldl Nat.max 0 = m at *
          generalize deepF d t = m' at *
          clear c0 c1 c2 c3 c4 e hkt hfit hmem ht hbB' hbw hb hmk hba
          go_wp2_with fail
          refine HCall.out.mono ?_
          rintro e W2 ⟨rfl, hb2⟩
          go_wp2_with fail
          refine ⟨⟨_, k + 1, rfl, by rw [HN.out]; omega, ?_, by go_num, HBb.out.trans (hb2.mono HBb.out.size)⟩, by simp [intOf]; omega⟩
          rw [HNext.out, max_cast]
        · obtain rfl : k = n := by omega
          have e : ks.take k = ks := by rw [← HN.out]; exact List.take_length
          have HE : Hid (((ks.take k).map (deepF d)).foldl Nat.max 0 = (ks.map (deepF d)).foldl Nat.max 0) := by
            show _ = _
            rw [e]
          have HBw := Lib.hid hbw
          have hle := HDp.out
          rw [HE0.out, ← HE.out] at hle
          have HM2 := HM.out
          generalize hg : ((ks.take k).map (deepF d)).foldl Nat.max 0 = m at *
          have hm1 : (m : Int) ≤ 100000 := by omega
          clear hle HM2 e hb hbw hg
          go_wp2
          go_ret
          exact ⟨by rw [← HE.out]; go_num, HBw.out⟩
end Go.Proofs.YtfpohaipmnjflaaGreatDoor
/- The statements' own comparison of trees says true of two readings of one tree; by contract. No condition. -/
namespace Go.Proofs.YtfpohaipmnjflaaGreatDoor
open Go.RowKit

def TruePost (w : World) (e : Ending) (w' : World) : Prop := e = .returned (.bool true) ∧ Below w.heap.size w w'
def SameNodesHolds (d : Nat) : Prop := ∀ (ks : List Tree) (u v : Value) (B C : Nat) (w : World), KidsAt w B d ks u → KidsAt w C d ks v → B ≤ w.heap.size → C ≤ w.heap.size → Calls Tryz.prog 69 #[u, v] w (TruePost w)
def SameNodeHolds (d : Nat) : Prop := ∀ (T : Tree) (u v : Value) (B C : Nat) (w : World), NodeAt w B d T u → NodeAt w C d T v → B ≤ w.heap.size → C ≤ w.heap.size → Calls Tryz.prog 42 #[u, v] w (TruePost w)

set_option maxHeartbeats 1000000 in
theorem sameNode_of (d : Nat) (h : SameNodesHolds d) : SameNodeHolds d := by
  intro T u v B C w hu hv hB hC
  obtain ⟨_, s, rfl, hs⟩ := hu
  obtain ⟨_, r, rfl, hr⟩ := hv
  have hb : Below w.heap.size w ((w.alloc (.cells #[.int .u8 T.kind, .string T.text, .int .i64 T.num, .int .i64 T.place, s] 25)).alloc (.cells #[.int .u8 T.kind, .string T.text, .int .i64 T.num, .int .i64 T.place, r] 25)) := ((Below.refl _ w).alloc (Nat.le_refl _) _).alloc (by simp) _
  have HC := Lib.hid (h T.kids s r B C _ (hs.below (hb.mono hB)) (hr.below (hb.mono hC)) (Nat.le_trans hB hb.size) (Nat.le_trans hC hb.size))
  have HB := Lib.hid hb
  clear hs hr hb h
  go_enter Tryz.func42, Tryz.ntmps42
  go_wp2_with (first
    | (go_at_call 69; refine Calls.mono HC.out ?_; rintro e w' ⟨rfl, hb'⟩))
  go_ret
  exact ⟨rfl, HB.out.trans (hb'.mono HB.out.size)⟩

/-- the loop's state -/
def UpRel (w : World) (n : Nat) (i : Value) (W : World) : Prop := ∃ (W1 : World) (k : Nat), W1 = W ∧ k ≤ n ∧ i = .int .i64 k ∧ Below w.heap.size w W1

/-- a kid of a row, in a later world -/
theorem row_kid {w W : World} {B b off d : Nat} {t : Tree} (hB : Below B w W) (hbB : b < B) {i : Nat}
    (h : Fits t ∧ ∃ s, w.cell? ⟨b, off + i * 5, none⟩ = some (.int .u8 t.kind) ∧ w.cell? ⟨b, off + i * 5 + 1, none⟩ = some (.string t.text) ∧
          w.cell? ⟨b, off + i * 5 + 2, none⟩ = some (.int .i64 t.num) ∧ w.cell? ⟨b, off + i * 5 + 3, none⟩ = some (.int .i64 t.place) ∧ w.cell? ⟨b, off + i * 5 + 4, none⟩ = some s ∧ KidsAt w B d t.kids s) :
    ∃ p n c, W.cell? ⟨b, off + i * 5, none⟩ = some (.int .u8 t.kind) ∧ W.cell? ⟨b, off + i * 5 + 1, none⟩ = some (.string t.text) ∧
          W.cell? ⟨b, off + i * 5 + 2, none⟩ = some (.int .i64 t.num) ∧ W.cell? ⟨b, off + i * 5 + 3, none⟩ = some (.int .i64 t.place) ∧ W.cell? ⟨b, off + i * 5 + 4, none⟩ = some (.slice p n c) ∧
          NodeAt W B d t (.agg #[.int .u8 t.kind, .string t.text, .int .i64 t.num, .int .i64 t.place, .slice p n c]) := by
  obtain ⟨hf, s, c0, c1, c2, c3, c4, hk⟩ := h
  obtain ⟨p, n, c, rfl⟩ := hk.shape
  have e : ∀ j, W.cell? ⟨b, j, none⟩ = w.cell? ⟨b, j, none⟩ := fun j => hB.cell (p := ⟨b, j, none⟩) hbB
  exact ⟨p, n, c, (e _).trans c0, (e _).trans c1, (e _).trans c2, (e _).trans c3, (e _).trans c4, hf, _, rfl, hk.below hB⟩

set_option maxRecDepth 100000 in
set_option maxHeartbeats 1000000 in
theorem sameNodes_holds : ∀ d : Nat, SameNodesHolds d := by
  intro d
  induction d with
  | zero =>
    intro ks u v B C w hu hv _ _
    obtain ⟨rfl, p, c, rfl⟩ := hu
    obtain ⟨_, q, e, rfl⟩ := hv
    go_enter Tryz.func69, Tryz.ntmps69
    go_wp2
    go_loop [5] (fun i => i = .int .i64 0) (fun _ => 0)
    case atStart => rfl
    case round =>
      subst hrel
      go_wp2
      go_ret
      exact ⟨rfl, Below.refl _ _⟩
  | succ d ih =>
    intro ks u v B C w hu hv hB hC
    rcases hu with ⟨rfl, p, c, rfl⟩ | ⟨b, off, cap, hne, hbB, hcap, hmax, rfl, hrow⟩
    · rcases hv with ⟨_, q, e, rfl⟩ | ⟨_, _, _, hne, _⟩
      · go_enter Tryz.func69, Tryz.ntmps69
        go_wp2
        go_loop [5] (fun i => i = .int .i64 0) (fun _ => 0)
        case atStart => rfl
        case round =>
          subst hrel
          go_wp2
          go_ret
          exact ⟨rfl, Below.refl _ _⟩
      · exact absurd rfl hne
    · rcases hv with ⟨h0, _⟩ | ⟨b', off', cap', _, hbB', hcap', hmax', rfl, hrow'⟩
      · exact absurd h0 hne
      · have HRow := Lib.hid hrow
        have HRow' := Lib.hid hrow'
        have HIH := Lib.hid (sameNode_of d ih)
        obtain ⟨n, hn⟩ : ∃ n, ks.length = n := ⟨_, rfl⟩
        rw [hn] at hcap hcap' ⊢
        have HN := Lib.hid hn
        unfold maxLen at hmax hmax'
        clear hrow hrow' ih hn
        go_enter Tryz.func69, Tryz.ntmps69
        go_wp2
        go_loopw [5] (UpRel w n) (fun i _ => n - (intOf i).toNat)
        case atStart => exact ⟨_, 0, rfl, Nat.zero_le _, rfl, Below.refl _ _⟩
        case round =>
          obtain ⟨W1, k, rfl, hk, rfl, hb⟩ := hrel
          by_cases hlt : k < n
          · obtain ⟨t, ht⟩ : ∃ t, ks[k]? = some t := ⟨ks[k]'(by rw [HN.out]; exact hlt), List.getElem?_eq_getElem (by rw [HN.out]; exact hlt)⟩
            obtain ⟨p, l, c, d0, d1, d2, d3, d4, hnode⟩ := row_kid (hb.mono hB) hbB (HRow.out k t ht)
            obtain ⟨p', l', c', e0, e1, e2, e3, e4, hnode'⟩ := row_kid (hb.mono hC) hbB' (HRow'.out k t ht)
            have hdr : Below W1.heap.size W1 W1.drew := (Below.refl _ W1).drew
            have HCall := Lib.hid (HIH.out t _ _ B C W1.drew (hnode.below (hdr.mono (Nat.le_trans hB hb.size))) (hnode'.below (hdr.mono (Nat.le_trans hC hb.size))) (Nat.le_trans hB hb.size) (Nat.le_trans hC hb.size))
            have HBb := Lib.hid (hb.trans (hdr.mono hb.size))
            have hk0 : (0 : Int) ≤ k := by omega
            have hk1 : (k : Int) < n := by omega
            have hn3 : (n : Int) ≤ 9223372036854775807 := by omega
            clear hnode hnode' ht hdr hb
            go_wp2
            go_still_tail 8, (by kernel_rfl)
            change wpList _ _ _ _ _ W1.drew
            generalize W1.drew = W2 at *
            go_wp2_with fail
            refine HCall.out.mono ?_
            rintro e W3 ⟨rfl, hb2⟩
            go_wp2_with fail
            exact ⟨⟨_, k + 1, rfl, by omega, by go_num, HBb.out.trans (hb2.mono HBb.out.size)⟩, by simp [intOf]; omega⟩
          · obtain rfl : k = n := by omega
            have HBb := Lib.hid hb
            clear hb
            go_wp2
            go_ret
            exact ⟨rfl, HBb.out⟩
end Go.Proofs.YtfpohaipmnjflaaGreatDoor
/- How much a tree is, as far as a bound: the statements' own count; by contract. Condition: the bound is 0 to 9000. -/
namespace Go.Proofs.YtfpohaipmnjflaaGreatDoor
open Go.RowKit

def nodesStep (d : Nat) (most c : Int) (k : Tree) : Int := if c ≤ most then c + nodesF d k (most - c) else c
theorem nodesF_leaf (d : Nat) (T : Tree) (most : Int) (h : T.kids = []) : nodesF d T most = min (1 + ((T.text.size / 8 : Nat) : Int)) (most + 1) := by
  cases d with
  | zero => rfl
  | succ d => show min (T.kids.foldl (nodesStep d most) (1 + ((T.text.size / 8 : Nat) : Int))) (most + 1) = _; rw [h]; rfl
theorem nodesFold_ge (d : Nat) (most : Int) (hd : ∀ (k : Tree) (m : Int), 0 ≤ m → 1 ≤ nodesF d k m) : ∀ (l : List Tree) (c : Int), 1 ≤ c → 1 ≤ l.foldl (nodesStep d most) c := by
  intro l
  induction l with
  | nil => intro c h; exact h
  | cons x l ih =>
    intro c h
    rw [List.foldl_cons]
    apply ih
    unfold nodesStep
    split
    · have := hd x (most - c) (by omega); omega
    · exact h
theorem nodesF_pos : ∀ (d : Nat) (T : Tree) (m : Int), 0 ≤ m → 1 ≤ nodesF d T m := by
  intro d
  induction d with
  | zero => intro T m h; show 1 ≤ min _ _; omega
  | succ d ih =>
    intro T m h
    have := nodesFold_ge d m ih T.kids (1 + ((T.text.size / 8 : Nat) : Int)) (by omega)
    show 1 ≤ min (T.kids.foldl (nodesStep d m) (1 + ((T.text.size / 8 : Nat) : Int))) (m + 1)
    omega
theorem nodesF_le (d : Nat) (T : Tree) (m : Int) : nodesF d T m ≤ m + 1 := by
  cases d with
  | zero => show min _ _ ≤ _; omega
  | succ d => show min _ _ ≤ _; omega
theorem nodesFold_le (d : Nat) (most : Int) : ∀ (l : List Tree) (c : Int), l.foldl (nodesStep d most) c ≤ max c (most + 1) := by
  intro l
  induction l with
  | nil => intro c; show c ≤ max c (most + 1); omega
  | cons x l ih =>
    intro c
    rw [List.foldl_cons]
    have h := ih (nodesStep d most c x)
    have h2 : nodesStep d most c x ≤ max c (most + 1) := by
      unfold nodesStep
      split
      · have := nodesF_le d x (most - c); omega
      · omega
    omega
theorem nodesFold_stop (d : Nat) (most : Int) : ∀ (l : List Tree) (c : Int), most < c → l.foldl (nodesStep d most) c = c := by
  intro l
  induction l with
  | nil => intro c _; rfl
  | cons x l ih =>
    intro c h
    rw [List.foldl_cons]
    have e : nodesStep d most c x = c := by unfold nodesStep; rw [if_neg (by omega)]
    rw [e]; exact ih c h
/-- the loop's state -/
def NodesRel (w : World) (d : Nat) (ks : List Tree) (most c0 : Int) (c i : Value) (W : World) : Prop :=
  ∃ (W1 : World) (k : Nat), W1 = W ∧ k ≤ ks.length ∧ c = .int .i64 ((ks.take k).foldl (nodesStep d most) c0) ∧ i = .int .i64 k ∧ Below w.heap.size w W1
def BigPost (m : Int) (w : World) (e : Ending) (w' : World) : Prop := e = .returned (.int .i64 m) ∧ Below w.heap.size w w'

set_option maxRecDepth 100000 in
set_option maxHeartbeats 1000000 in
theorem nodesOf_any : ∀ (d : Nat) (T : Tree) (v : Value) (B : Nat) (w : World) (most : Int), NodeAt w B d T v → B ≤ w.heap.size → 0 ≤ most → most ≤ 9000 →
    Calls Tryz.prog 30 #[v, .int .i64 most] w (BigPost (nodesF d T most) w) := by
  intro d
  induction d with
  | zero =>
    intro T v B w most hT hB h0 h9
    obtain ⟨hfit, s, rfl, hk, sp, cap, rfl⟩ := hT
    rw [nodesF_leaf _ _ _ hk]
    have hsz := hfit.2.1
    unfold maxLen at hsz
    have HB := Lib.hid ((Below.refl _ w).alloc (Nat.le_refl _) (.cells #[.int .u8 T.kind, .string T.text, .int .i64 T.num, .int .i64 T.place, .slice sp 0 cap] 25))
    clear hfit
    go_enter Tryz.func30, Tryz.ntmps30
    go_wp2
    go_loop [5, 6] (fun c i => c = .int .i64 (1 + (T.text.size : Int) / 8) ∧ i = .int .i64 0) (fun _ _ => 0)
    case atStart => exact ⟨rfl, rfl⟩
    case round =>
      obtain ⟨rfl, rfl⟩ := hrel
      go_wp2
      go_ret
      exact ⟨rfl, HB.out⟩
  | succ d ih =>
    intro T v B w most hT hB h0 h9
    obtain ⟨hfit, s, rfl, hk⟩ := hT
    have hsz := hfit.2.1
    unfold maxLen at hsz
    clear hfit
    rcases hk with ⟨hk, sp, cap, rfl⟩ | ⟨b, off, cap, hne, hbB, hcap, hmax, rfl, hrow⟩
    · rw [nodesF_leaf _ _ _ hk]
      have HB := Lib.hid ((Below.refl _ w).alloc (Nat.le_refl _) (.cells #[.int .u8 T.kind, .string T.text, .int .i64 T.num, .int .i64 T.place, .slice sp 0 cap] 25))
      go_enter Tryz.func30, Tryz.ntmps30
      go_wp2
      go_loop [5, 6] (fun c i => c = .int .i64 (1 + (T.text.size : Int) / 8) ∧ i = .int .i64 0) (fun _ _ => 0)
      case atStart => exact ⟨rfl, rfl⟩
      case round =>
        obtain ⟨rfl, rfl⟩ := hrel
        go_wp2
        go_ret
        exact ⟨rfl, HB.out⟩
    · have HRow := Lib.hid hrow
      have HIH := Lib.hid ih
      obtain ⟨c0, hc0⟩ : ∃ c0 : Int, 1 + (T.text.size : Int) / 8 = c0 := ⟨_, rfl⟩
      have hc1 : 1 ≤ c0 := by omega
      have hc2 : c0 ≤ 4611686018427387904 := by omega
      have e0 : nodesF (d + 1) T most = min (T.kids.foldl (nodesStep d most) c0) (most + 1) := by
        show min (T.kids.foldl (nodesStep d most) (1 + ((T.text.size / 8 : Nat) : Int))) (most + 1) = _
        rw [show (1 + ((T.text.size / 8 : Nat) : Int)) = c0 by omega]
      rw [e0]
      have HC0 := Lib.hid hc0
      obtain ⟨ks, hks⟩ : ∃ ks, T.kids = ks := ⟨_, rfl⟩
      rw [hks] at HRow hne hcap ⊢
      obtain ⟨n, hn⟩ : ∃ n, ks.length = n := ⟨_, rfl⟩
      rw [hn] at hcap ⊢
      have HN := Lib.hid hn
      unfold maxLen at hmax
      have HFold := Lib.hid (fun k => (⟨nodesFold_ge d most (nodesF_pos d) (ks.take k) c0 hc1, nodesFold_le d most (ks.take k) c0⟩ : 1 ≤ (ks.take k).foldl (nodesStep d most) c0 ∧ (ks.take k).foldl (nodesStep d most) c0 ≤ max c0 (most + 1)))
      obtain ⟨W0, hW0⟩ : ∃ W0, W0 = w.alloc (.cells #[.int .u8 T.kind, .string T.text, .int .i64 T.num, .int .i64 T.place, .slice (some ⟨b, off, none⟩) n cap] 25) := ⟨_, rfl⟩
      have hb0 : Below w.heap.size w W0 := by rw [hW0]; exact (Below.refl _ w).alloc (Nat.le_refl _) _
      have hs0 : w.heap.size < W0.heap.size := by rw [hW0]; simp
      have hbox := box_new w T (.slice (some ⟨b, off, none⟩) n cap)
      rw [← hW0] at hbox
      have HBox := Lib.hid hbox
      have HB0 := Lib.hid hb0
      clear hrow ih hks hn e0 hbox hb0 hc0
      go_enter Tryz.func30, Tryz.ntmps30
      go_wp2
      rw [← hW0]
      go_loopw [5, 6] (NodesRel W0 d ks most c0) (fun _ i _ => n - (intOf i).toNat)
      case atStart => exact ⟨_, 0, rfl, Nat.zero_le _, by rw [HC0.out]; rfl, rfl, Below.refl _ _⟩
      case round =>
        obtain ⟨W1, k, rfl, hk, rfl, rfl, hb⟩ := hrel
        rw [HN.out] at hk
        have hbw := HB0.out.trans (hb.mono HB0.out.size)
        have hbx := (hb.cell (p := ⟨w.heap.size, 4, none⟩) hs0).trans HBox.out
        obtain ⟨hv1, hv2⟩ := HFold.out k
        have hsplit : ks.foldl (nodesStep d most) c0 = (ks.drop k).foldl (nodesStep d most) ((ks.take k).foldl (nodesStep d most) c0) := by
          rw [← List.foldl_append, List.take_append_drop]
        have HSp := Lib.hid hsplit
        have HTk := Lib.hid (fun t (ht : ks[k]? = some t) => (show (ks.take (k + 1)).foldl (nodesStep d most) c0 = nodesStep d most ((ks.take k).foldl (nodesStep d most) c0) t by
          rw [List.take_add_one, ht, List.foldl_append]; rfl))
        clear hsplit
        generalize (ks.take k).foldl (nodesStep d most) c0 = cv at *
        have hcv : cv ≤ 4611686018427387904 := by omega
        have HBw := Lib.hid hbw
        by_cases hlt : k < n
        · have hk0 : (0 : Int) ≤ k := by omega
          have hk1 : (k : Int) < n := by omega
          by_cases hle : cv ≤ most
          · obtain ⟨t, ht⟩ : ∃ t, ks[k]? = some t := ⟨ks[k]'(by rw [HN.out]; exact hlt), List.getElem?_eq_getElem (by rw [HN.out]; exact hlt)⟩
            obtain ⟨p, l, c, d0, d1, d2, d3, d4, hnode⟩ := row_kid (hbw.mono hB) hbB (HRow.out k t ht)
            have HCall := Lib.hid (HIH.out t _ B W1 (most - cv) hnode (Nat.le_trans hB hbw.size) (by omega) (by omega))
            have hnx := HTk.out t ht
            unfold nodesStep at hnx
            rw [if_pos hle] at hnx
            have HNx := Lib.hid hnx
            have hr1 := nodesF_pos d t (most - cv) (by omega)
            have hr2 := nodesF_le d t (most - cv)
            have HBb := Lib.hid hb
            generalize nodesF d t (most - cv) = rv at *
            clear hnode ht hnx hbw hb
            go_wp2_with fail
            refine HCall.out.mono ?_
            rintro e W3 ⟨rfl, hb2⟩
            go_wp2_with fail
            refine ⟨⟨_, k + 1, rfl, by rw [HN.out]; omega, ?_, by go_num, HBb.out.trans (hb2.mono HBb.out.size)⟩, by simp [intOf]; omega⟩
            have := HNx.out
            unfold nodesStep
            rw [this]
          · have HEnd := Lib.hid (HSp.out.trans (nodesFold_stop d most _ cv (by omega)))
            have hgt : most < cv := by omega
            clear hb hbw hle
            go_wp2_with fail
            go_ret
            exact ⟨by rw [HEnd.out]; rfl, HBw.out⟩
        · obtain rfl : k = n := by omega
          have HEnd : Hid (ks.foldl (nodesStep d most) c0 = cv) := by
            show _ = _
            rw [HSp.out, List.drop_of_length_le (by rw [HN.out]; exact Nat.le_refl _)]
            rfl
          clear hb hbw
          go_wp2_with fail
          go_ret
          exact ⟨by rw [HEnd.out]; rfl, HBw.out⟩
end Go.Proofs.YtfpohaipmnjflaaGreatDoor
/- What a text that is a name looks like to the scanner; how many nodes a tree has that was counted; plain. No condition. -/
namespace Go.Proofs.YtfpohaipmnjflaaGreatDoor
open Go.RowKit

theorem nameFrom_onM (l : List UInt8) : ∀ k, nameFrom (k + 1) l = l.all isOn := by
  induction l with
  | nil => intro k; rfl
  | cons c r ih =>
    intro k
    show (nameAt (k + 1) c && nameFrom (k + 2) r) = _
    rw [ih (k + 1), List.all_cons]
    congr 1
    unfold nameAt isOn
    simp [Bool.or_assoc]
theorem namedF_cons (c : UInt8) (r : List UInt8) : namedF (c :: r) = (isLow c && r.all isOn && decide (r.length + 1 ≤ 24)) := by
  unfold namedF
  show ((nameAt 0 c && nameFrom 1 r) && decide (1 ≤ r.length + 1) && decide (r.length + 1 ≤ 24)) = _
  rw [nameFrom_onM r 0]
  have h : nameAt 0 c = isLow c := by unfold nameAt; simp
  rw [h]
  simp
theorem namedF_size (l : List UInt8) (h : namedF l = true) : 1 ≤ l.length ∧ l.length ≤ 24 := by
  unfold namedF at h
  simp only [Bool.and_eq_true, decide_eq_true_eq] at h
  exact ⟨h.1.2, h.2⟩
theorem low_on (c : UInt8) (h : isLow c = true) : isOn c = true := by unfold isOn; rw [h]; rfl

/-- a text with a quote ahead -/
def quoteT (t : ByteArray) : ByteArray := ⟨(39 :: t.data.toList).toArray⟩
theorem quoteT_list (t : ByteArray) : (quoteT t).data.toList = 39 :: t.data.toList := rfl
theorem quoteT_size (t : ByteArray) : (quoteT t).size = t.size + 1 := by
  show (39 :: t.data.toList).toArray.size = _
  simp
/-- the scanner's word on a text: one token, and that is the text -/
def oneTok (t : ByteArray) : Bool := (toksFrom (quoteT t) 0).2 == none && (toksFrom (quoteT t) 0).1.map (fun x => x.2.1.data.toList) == [t.data.toList]

theorem scanTo_drop (p : UInt8 → Bool) (s : ByteArray) (k : Nat) (l : List UInt8) (h : s.data.toList.drop k = l) : scanTo p s k = k + (l.takeWhile p).length := by unfold scanTo; rw [h]
theorem takeWhile_all_of_len (p : UInt8 → Bool) : ∀ l : List UInt8, (l.takeWhile p).length = l.length → l.all p = true := by
  intro l
  induction l with
  | nil => intro _; rfl
  | cons c r ih =>
    intro h
    rw [List.takeWhile_cons] at h
    split at h
    · rename_i hc
      simp only [List.length_cons, Nat.add_right_cancel_iff] at h
      rw [List.all_cons, hc, ih h]; rfl
    · simp at h
theorem takeWhile_all' (p : UInt8 → Bool) (l : List UInt8) (h : l.all p = true) : l.takeWhile p = l := by
  induction l with
  | nil => rfl
  | cons c r ih =>
    rw [List.all_cons, Bool.and_eq_true] at h
    rw [List.takeWhile_cons, if_pos h.1, ih h.2]

theorem quote_token (t : ByteArray) : tokenAt (quoteT t) 0 39 = (5, (quoteT t).extract 1 (scanTo isOn (quoteT t) 1), if namedB ((quoteT t).extract 1 (scanTo isOn (quoteT t) 1)).data.toList then 0 else 201, scanTo isOn (quoteT t) 1) := by
  unfold tokenAt
  rw [if_neg (by decide), if_pos (by decide), if_pos (by decide)]
theorem quote_ext (t : ByteArray) (e : Nat) : ((quoteT t).extract 1 e).data.toList = t.data.toList.take (e - 1) := by
  rw [ByteArray.data_extract, Array.toList_extract, quoteT_list]
  simp [List.extract]
theorem namedB_cons (c : UInt8) (r : List UInt8) : namedB (c :: r) = (decide (r.length + 1 ≤ 24) && isLow c) := rfl

theorem oneTok_named (t : ByteArray) : oneTok t = namedF t.data.toList := by
  have h0 : 0 < (quoteT t).size := by rw [quoteT_size]; omega
  have hq : (quoteT t)[0] = 39 := rfl
  have hs : skip (quoteT t) 0 = 0 := skip_stop _ 0 h0 (by rw [hq]; rfl) (by rw [hq]; rfl)
  have hd : (quoteT t).data.toList.drop 1 = t.data.toList := rfl
  have he : scanTo isOn (quoteT t) 1 = 1 + (t.data.toList.takeWhile isOn).length := scanTo_drop isOn _ 1 _ hd
  have hlen : (t.data.toList.takeWhile isOn).length ≤ t.data.toList.length := (List.takeWhile_sublist isOn).length_le
  have hss : skip (quoteT t) 0 < (quoteT t).size := by rw [hs]; exact h0
  have htok : tokenAt (quoteT t) (skip (quoteT t) 0) (quoteT t)[skip (quoteT t) 0] = tokenAt (quoteT t) 0 39 := by
    simp only [hs, hq]
  rw [Bool.eq_iff_iff]
  constructor
  · intro h
    unfold oneTok at h
    rw [Bool.and_eq_true, beq_iff_eq, beq_iff_eq] at h
    obtain ⟨h1, h2⟩ := h
    by_cases hb : (tokenAt (quoteT t) (skip (quoteT t) 0) (quoteT t)[skip (quoteT t) 0]).2.2.1 = 0
    · rw [toksFrom_ok _ _ hss hb, htok, quote_token] at h2
      rw [htok, quote_token] at hb
      simp only [List.map_cons, List.cons.injEq] at h2
      have h3 := h2.1
      rw [quote_ext, he] at h3
      have h4 : (t.data.toList.takeWhile isOn).length = t.data.toList.length := by
        have := congrArg List.length h3
        rw [List.length_take] at this
        omega
      have hall := takeWhile_all_of_len isOn _ h4
      dsimp only at hb
      rw [quote_ext, he, h3] at hb
      have hn : namedB t.data.toList = true := by
        cases hh : namedB t.data.toList with
        | true => rfl
        | false => rw [hh] at hb; cases hb
      cases hl : t.data.toList with
      | nil => rw [hl] at hn; cases hn
      | cons c r =>
        rw [hl, namedB_cons, Bool.and_eq_true] at hn
        rw [hl, List.all_cons, Bool.and_eq_true] at hall
        rw [namedF_cons, hn.1, hn.2, hall.2]; rfl
    · rw [toksFrom_bad _ _ hss hb] at h1
      cases h1
  · intro h
    cases hl : t.data.toList with
    | nil => rw [hl] at h; cases h
    | cons c r =>
      rw [hl, namedF_cons, Bool.and_eq_true, Bool.and_eq_true] at h
      obtain ⟨⟨h1, h2⟩, h3⟩ := h
      have hall : t.data.toList.all isOn = true := by rw [hl, List.all_cons, h2, low_on c h1]; rfl
      have htw := takeWhile_all' isOn _ hall
      have hext : ((quoteT t).extract 1 (scanTo isOn (quoteT t) 1)).data.toList = t.data.toList := by
        rw [quote_ext, he, htw]
        exact List.take_of_length_le (by omega)
      have hnb : namedB t.data.toList = true := by rw [hl, namedB_cons, h3, h1]; rfl
      have hb : (tokenAt (quoteT t) (skip (quoteT t) 0) (quoteT t)[skip (quoteT t) 0]).2.2.1 = 0 := by
        rw [htok, quote_token]
        show (if namedB _ then 0 else 201) = 0
        rw [hext, hnb]; rfl
      have hend : toksFrom (quoteT t) (scanTo isOn (quoteT t) 1) = ([], none) := by
        apply toksFrom_end
        have hz : (quoteT t).size ≤ scanTo isOn (quoteT t) 1 := by
          rw [he, htw, quoteT_size, Array.length_toList]
          show t.data.size + 1 ≤ 1 + t.data.size
          omega
        rw [skip_end _ _ hz]
        omega
      have hsh : toksFrom (quoteT t) 0 = ([(5, (quoteT t).extract 1 (scanTo isOn (quoteT t) 1), 0)], none) := by
        rw [toksFrom_ok _ _ hss hb, htok, quote_token]
        dsimp only
        rw [hend, hs]
      unfold oneTok
      rw [hsh]
      show ((none : Option (Nat × Nat)) == none && [((quoteT t).extract 1 (scanTo isOn (quoteT t) 1)).data.toList] == [t.data.toList]) = true
      rw [hext]
      simp

/-- a text that is no name, or is too long: the scanner does not say it is one -/
theorem named_short (t : ByteArray) (h : 16384 ≤ t.size) : namedF t.data.toList = false := by
  cases hh : namedF t.data.toList with
  | false => rfl
  | true =>
    have := (namedF_size _ hh).2
    rw [Array.length_toList] at this
    have h2 : t.size = t.data.size := rfl
    omega

/-- every text is so long at most, every list has so many at most -/
def Slim : Nat → Tree → Prop
  | 0, T => T.text.size ≤ 72007
  | d + 1, T => T.text.size ≤ 72007 ∧ T.kids.length ≤ 20000 ∧ ∀ k ∈ T.kids, Slim d k
def SlimK : Nat → List Tree → Prop
  | 0, _ => True
  | d + 1, ks => ks.length ≤ 20000 ∧ ∀ k ∈ ks, Slim d k
theorem Slim.kids {d : Nat} {T : Tree} (h : Slim d T) : SlimK d T.kids := by
  cases d with
  | zero => trivial
  | succ d => exact h.2
theorem Slim.text {d : Nat} {T : Tree} (h : Slim d T) : T.text.size ≤ 72007 := by
  cases d with
  | zero => exact h
  | succ d => exact h.1
theorem slim_of : ∀ (d : Nat) (T : Tree) (most : Int), most ≤ 9000 → nodesF d T most ≤ most → (manyF d T : Int) ≤ nodesF d T most ∧ Slim d T := by
  intro d
  induction d with
  | zero =>
    intro T most hm h
    have h1 : nodesF 0 T most = min (1 + ((T.text.size / 8 : Nat) : Int)) (most + 1) := rfl
    have h2 : manyF 0 T = 1 := rfl
    refine ⟨by omega, ?_⟩
    show T.text.size ≤ 72007
    omega
  | succ d ih =>
    intro T most hm h
    have h1 : nodesF (d + 1) T most = min (T.kids.foldl (nodesStep d most) (1 + ((T.text.size / 8 : Nat) : Int))) (most + 1) := rfl
    have h2 : manyF (d + 1) T = (T.kids.map (manyF d)).foldl (· + ·) 1 := rfl
    have hf : ∀ (l : List Tree) (c : Int), 1 ≤ c → l.foldl (nodesStep d most) c ≤ most → c ≤ l.foldl (nodesStep d most) c ∧ ((l.map (manyF d)).foldl (· + ·) 0 : Nat) + c ≤ l.foldl (nodesStep d most) c ∧ ∀ k ∈ l, Slim d k := by
      intro l
      induction l with
      | nil => intro c _ hc; exact ⟨Int.le_refl _, by simp, fun k hk => by cases hk⟩
      | cons x l ihl =>
        intro c h1c hc
        rw [List.foldl_cons] at hc ⊢
        have hst : 1 ≤ nodesStep d most c x := by
          unfold nodesStep
          split
          · have := nodesF_pos d x (most - c) (by omega); omega
          · exact h1c
        obtain ⟨a1, a2, a3⟩ := ihl _ hst hc
        have hc2 : c ≤ most := by
          by_cases hcm : c ≤ most
          · exact hcm
          · exfalso
            have e : nodesStep d most c x = c := by unfold nodesStep; rw [if_neg hcm]
            rw [e] at a1
            omega
        have e : nodesStep d most c x = c + nodesF d x (most - c) := by unfold nodesStep; rw [if_pos hc2]
        rw [e] at a1 a2 hc ⊢
        have hp := nodesF_pos d x (most - c) (by omega)
        obtain ⟨b1, b2⟩ := ih x (most - c) (by omega) (by omega)
        rw [List.map_cons, List.foldl_cons, foldl_add, Nat.zero_add]
        refine ⟨by omega, by omega, fun k hk => ?_⟩
        rcases List.mem_cons.1 hk with rfl | hk
        · exact b2
        · exact a3 k hk
    have hle : T.kids.foldl (nodesStep d most) (1 + ((T.text.size / 8 : Nat) : Int)) ≤ most := by omega
    obtain ⟨a1, a2, a3⟩ := hf _ _ (by omega) hle
    rw [foldl_add] at h2
    have hk := kids_len d T
    have hm1 : manyF (d + 1) T ≤ 9000 := by omega
    exact ⟨by omega, by omega, by omega, a3⟩
end Go.Proofs.YtfpohaipmnjflaaGreatDoor
/- Are two trees the same, but for places: the reference's answer; by contract. No condition. -/
namespace Go.Proofs.YtfpohaipmnjflaaGreatDoor
open Go.RowKit

def BoolPost (x : Bool) (w : World) (e : Ending) (w' : World) : Prop := e = .returned (.bool x) ∧ Below w.heap.size w w'
/-- the fields of two nodes are the same, but for places -/
def topSame (a b : Tree) : Bool := a.kind == b.kind && a.text.data.toList == b.text.data.toList && a.num == b.num && a.kids.length == b.kids.length
theorem sameF_top (d : Nat) (a b : Tree) (h : topSame a b = false) : sameF d a b = false := by
  unfold topSame at h
  cases d with
  | zero => exact h
  | succ d =>
    show (a.kind == b.kind && a.text.data.toList == b.text.data.toList && a.num == b.num && a.kids.length == b.kids.length && _) = false
    rw [h]; rfl
theorem sameF_zero (a b : Tree) (h : topSame a b = true) : sameF 0 a b = true := h
theorem sameF_succ (d : Nat) (a b : Tree) (h : topSame a b = true) : sameF (d + 1) a b = (a.kids.zip b.kids).all (fun x => sameF d x.1 x.2) := by
  unfold topSame at h
  show (a.kind == b.kind && a.text.data.toList == b.text.data.toList && a.num == b.num && a.kids.length == b.kids.length && _) = _
  rw [h]; rfl
/-- in the walk's words -/
theorem topSame_iff (a b : Tree) : topSame a b = (((a.kind : Int) == b.kind) && (a.text.toList == b.text.toList) && (a.num == b.num) && ((a.kids.length : Int) == b.kids.length)) := by
  unfold topSame
  rw [ByteArray.toList_eq, ByteArray.toList_eq]
  have e1 : ((a.kind : Int) == b.kind) = (a.kind == b.kind) := by rw [Bool.eq_iff_iff]; simp; omega
  have e2 : ((a.kids.length : Int) == b.kids.length) = (a.kids.length == b.kids.length) := by rw [Bool.eq_iff_iff]; simp; omega
  rw [e1, e2]
theorem KidsAt.len {w : World} {B d : Nat} {ks : List Tree} {sl : Value} (h : KidsAt w B d ks sl) : ∃ p c, sl = .slice p ks.length c := by
  rcases h.cases with ⟨rfl, sp, cap, rfl⟩ | ⟨_, b, off, cap, _, _, _, _, _, rfl, _⟩
  · exact ⟨_, _, rfl⟩
  · exact ⟨_, _, rfl⟩

set_option maxRecDepth 100000 in
set_option maxHeartbeats 1000000 in
theorem rsame_top (d : Nat) (A D : Tree) (u v : Value) (B C : Nat) (w : World) (hu : NodeAt w B d A u) (hv : NodeAt w C d D v) (h : topSame A D = false) :
    Calls Tryz.prog 11 #[u, v] w (BoolPost false w) := by
  obtain ⟨_, s, rfl, hs⟩ := hu
  obtain ⟨_, r, rfl, hr⟩ := hv
  obtain ⟨p, c, rfl⟩ := hs.len
  obtain ⟨q, e, rfl⟩ := hr.len
  rw [topSame_iff] at h
  clear hs hr
  go_enter Tryz.func11, Tryz.ntmps11
  cases x1 : ((A.kind : Int) == D.kind)
  · clear h
    go_wp2
    all_goals (go_ret; exact ⟨rfl, ((Below.refl _ w).alloc (Nat.le_refl _) _).alloc (by simp) _⟩)
  · cases x2 : (A.text.toList == D.text.toList)
    · clear h
      go_wp2
      all_goals (go_ret; exact ⟨rfl, ((Below.refl _ w).alloc (Nat.le_refl _) _).alloc (by simp) _⟩)
    · cases x3 : (A.num == D.num)
      · clear h
        go_wp2
        all_goals (go_ret; exact ⟨rfl, ((Below.refl _ w).alloc (Nat.le_refl _) _).alloc (by simp) _⟩)
      · rw [x1, x2, x3] at h
        have x4 : ((A.kids.length : Int) == D.kids.length) = false := by simpa using h
        clear h
        go_wp2
        all_goals (go_ret; exact ⟨rfl, ((Below.refl _ w).alloc (Nat.le_refl _) _).alloc (by simp) _⟩)
end Go.Proofs.YtfpohaipmnjflaaGreatDoor
/- Are two trees the same, but for places: the reference's answer, whole; by contract. No condition. -/
namespace Go.Proofs.YtfpohaipmnjflaaGreatDoor
open Go.RowKit

theorem box_far (w : World) (o : Obj) (T : Tree) (s : Value) : ((w.alloc (.cells #[.int .u8 T.kind, .string T.text, .int .i64 T.num, .int .i64 T.place, s] 25)).alloc o).cell? ⟨w.heap.size, 4, none⟩ = some s := by
  rw [World.cell?_alloc_lt _ _ _ (by simp)]
  exact box_new w T s
/-- the loop's state: so many pairs of kids are the same -/
def PairRel (w : World) (d : Nat) (ks js : List Tree) (n : Nat) (i : Value) (W : World) : Prop :=
  ∃ (W1 : World) (k : Nat), W1 = W ∧ k ≤ n ∧ i = .int .i64 k ∧ ((ks.zip js).take k).all (fun x => sameF d x.1 x.2) = true ∧ Below w.heap.size w W1
theorem pair_next (d : Nat) (ks js : List Tree) (k : Nat) (a b : Tree) (ha : ks[k]? = some a) (hb : js[k]? = some b) : ((ks.zip js).take (k + 1)).all (fun x => sameF d x.1 x.2) = (((ks.zip js).take k).all (fun x => sameF d x.1 x.2) && sameF d a b) := by
  have e : (ks.zip js)[k]? = some (a, b) := by rw [List.getElem?_zip_eq_some]; exact ⟨ha, hb⟩
  rw [List.take_add_one, e, List.all_append]
  simp
theorem pair_no (d : Nat) (ks js : List Tree) (k : Nat) (a b : Tree) (ha : ks[k]? = some a) (hb : js[k]? = some b) (h : sameF d a b = false) : (ks.zip js).all (fun x => sameF d x.1 x.2) = false := by
  have e : (ks.zip js)[k]? = some (a, b) := by rw [List.getElem?_zip_eq_some]; exact ⟨ha, hb⟩
  rw [List.all_eq_false]
  exact ⟨(a, b), List.mem_of_getElem? e, by simp [h]⟩

set_option maxRecDepth 100000 in
set_option maxHeartbeats 1000000 in
theorem rsame_leaf (kd : Nat) (tx : ByteArray) (nm pa pb : Int) (sp q : Option Addr) (cap e : Nat) (w : World) :
    Calls Tryz.prog 11 #[.agg #[.int .u8 kd, .string tx, .int .i64 nm, .int .i64 pa, .slice sp 0 cap], .agg #[.int .u8 kd, .string tx, .int .i64 nm, .int .i64 pb, .slice q 0 e]] w (BoolPost true w) := by
  have hc1 := box_far w (.cells #[.int .u8 kd, .string tx, .int .i64 nm, .int .i64 pb, .slice q 0 e] 25) (.mk kd tx nm pa []) (.slice sp 0 cap)
  dsimp only [Tree.kind, Tree.text, Tree.num, Tree.kids, Tree.place] at hc1
  go_enter Tryz.func11, Tryz.ntmps11
  go_wp2
  go_loop [5] (fun i => i = .int .i64 0) (fun _ => 0)
  case atStart => rfl
  case round =>
    subst hrel
    go_wp2
    go_ret
    exact ⟨rfl, ((Below.refl _ w).alloc (Nat.le_refl _) _).alloc (by simp) _⟩

set_option maxRecDepth 100000 in
set_option maxHeartbeats 1000000 in
theorem rsame_any : ∀ (d : Nat) (A D : Tree) (u v : Value) (B C : Nat) (w : World), NodeAt w B d A u → NodeAt w C d D v → B ≤ w.heap.size → C ≤ w.heap.size →
    Calls Tryz.prog 11 #[u, v] w (BoolPost (sameF d A D) w) := by
  intro d
  induction d with
  | zero =>
    intro A D u v B C w hu hv hB hC
    cases htop : topSame A D
    · rw [sameF_top _ _ _ htop]
      exact rsame_top 0 A D u v B C w hu hv htop
    · rw [sameF_zero _ _ htop]
      obtain ⟨kd, tx, nm, pa, ks⟩ := A
      obtain ⟨kd', tx', nm', pb, js⟩ := D
      unfold topSame at htop
      dsimp only [Tree.kind, Tree.text, Tree.num, Tree.kids] at htop
      simp only [Bool.and_eq_true, beq_iff_eq] at htop
      obtain ⟨⟨⟨rfl, x2⟩, rfl⟩, x4⟩ := htop
      obtain rfl : tx = tx' := by
        obtain ⟨⟨tx⟩⟩ := tx
        obtain ⟨⟨tx'⟩⟩ := tx'
        simpa using x2
      obtain ⟨_, s, rfl, _, sp, cap, rfl⟩ := hu
      obtain ⟨_, r, rfl, _, q, e, rfl⟩ := hv
      exact rsame_leaf _ _ _ _ _ _ _ _ _ _
  | succ d ih =>
    intro A D u v B C w hu hv hB hC
    cases htop : topSame A D
    · rw [sameF_top _ _ _ htop]
      exact rsame_top (d + 1) A D u v B C w hu hv htop
    · rw [sameF_succ _ _ _ htop]
      obtain ⟨kd, tx, nm, pa, ks⟩ := A
      obtain ⟨kd', tx', nm', pb, js⟩ := D
      unfold topSame at htop
      dsimp only [Tree.kind, Tree.text, Tree.num, Tree.kids] at htop
      simp only [Bool.and_eq_true, beq_iff_eq] at htop
      obtain ⟨⟨⟨rfl, x2⟩, rfl⟩, x4⟩ := htop
      obtain rfl : tx = tx' := by
        obtain ⟨⟨tx⟩⟩ := tx
        obtain ⟨⟨tx'⟩⟩ := tx'
        simpa using x2
      obtain ⟨_, s, rfl, hs⟩ := hu
      obtain ⟨_, r, rfl, hr⟩ := hv
      dsimp only [Tree.kind, Tree.text, Tree.num, Tree.kids, Tree.place] at hs hr ⊢
      clear x2
      rcases hs with ⟨rfl, sp, cap, rfl⟩ | ⟨b, off, cap, hne, hbB, hcap, hmax, rfl, hrow⟩
      · obtain ⟨q, e, rfl⟩ := hr.len
        rw [← x4]
        exact rsame_leaf _ _ _ _ _ _ _ _ _ _
      · rcases hr with ⟨rfl, _⟩ | ⟨b', off', cap', hne', hbB', hcap', hmax', rfl, hrow'⟩
        · exact absurd (List.length_eq_zero_iff.1 x4) hne
        · have HRow := Lib.hid hrow
          have HRow' := Lib.hid hrow'
          have HIH := Lib.hid ih
          obtain ⟨n, hn⟩ : ∃ n, ks.length = n := ⟨_, rfl⟩
          have hn' : js.length = n := by rw [← x4]; exact hn
          rw [hn] at hcap ⊢
          rw [hn'] at hcap' ⊢
          have HN := Lib.hid hn
          have HN' := Lib.hid hn'
          unfold maxLen at hmax hmax'
          have hc1 := box_far w (.cells #[.int .u8 kd, .string tx, .int .i64 nm, .int .i64 pb, .slice (some ⟨b', off', none⟩) n cap'] 25) (.mk kd tx nm pa ks) (.slice (some ⟨b, off, none⟩) n cap)
          have hc2 := box_new (w.alloc (.cells #[.int .u8 kd, .string tx, .int .i64 nm, .int .i64 pa, .slice (some ⟨b, off, none⟩) n cap] 25)) (.mk kd tx nm pb js) (.slice (some ⟨b', off', none⟩) n cap')
          dsimp only [Tree.kind, Tree.text, Tree.num, Tree.kids, Tree.place] at hc1 hc2
          obtain ⟨W0, hW0⟩ : ∃ W0, W0 = (w.alloc (.cells #[.int .u8 kd, .string tx, .int .i64 nm, .int .i64 pa, .slice (some ⟨b, off, none⟩) n cap] 25)).alloc (.cells #[.int .u8 kd, .string tx, .int .i64 nm, .int .i64 pb, .slice (some ⟨b', off', none⟩) n cap'] 25) := ⟨_, rfl⟩
          have hb0 : Below w.heap.size w W0 := by rw [hW0]; exact ((Below.refl _ w).alloc (Nat.le_refl _) _).alloc (by simp) _
          have hs0 : w.heap.size + 1 < W0.heap.size := by rw [hW0]; simp
          rw [show (w.alloc (.cells #[.int .u8 kd, .string tx, .int .i64 nm, .int .i64 pa, .slice (some ⟨b, off, none⟩) n cap] 25)).heap.size = w.heap.size + 1 by simp] at hc2
          rw [← hW0] at hc1 hc2
          have HC1 := Lib.hid hc1
          have HC2 := Lib.hid hc2
          have HB0 := Lib.hid hb0
          clear hrow hrow' ih hn hn' x4 hc1 hc2 hb0
          go_enter Tryz.func11, Tryz.ntmps11
          go_wp2
          rw [← hW0]
          go_loopw [5] (PairRel W0 d ks js n) (fun i _ => n - (intOf i).toNat)
          case atStart => exact ⟨_, 0, rfl, Nat.zero_le _, rfl, rfl, Below.refl _ _⟩
          case round =>
            obtain ⟨W1, k, rfl, hk, rfl, hall, hb⟩ := hrel
            have hbw := HB0.out.trans (hb.mono HB0.out.size)
            have b1 := (hb.cell (p := ⟨w.heap.size, 4, none⟩) (by show w.heap.size < _; omega)).trans HC1.out
            have b2 := (hb.cell (p := ⟨w.heap.size + 1, 4, none⟩) hs0).trans HC2.out
            by_cases hlt : k < n
            · obtain ⟨x, hx⟩ : ∃ x, ks[k]? = some x := ⟨ks[k]'(by rw [HN.out]; exact hlt), List.getElem?_eq_getElem (by rw [HN.out]; exact hlt)⟩
              obtain ⟨y, hy⟩ : ∃ y, js[k]? = some y := ⟨js[k]'(by rw [HN'.out]; exact hlt), List.getElem?_eq_getElem (by rw [HN'.out]; exact hlt)⟩
              obtain ⟨p, l, c, d0, d1, d2, d3, d4, hnode⟩ := row_kid (hbw.mono hB) hbB (HRow.out k x hx)
              obtain ⟨p', l', c', e0, e1, e2, e3, e4, hnode'⟩ := row_kid (hbw.mono hC) hbB' (HRow'.out k y hy)
              have hdr : Below W1.heap.size W1 W1.drew := (Below.refl _ W1).drew
              have HCall := Lib.hid (HIH.out x y _ _ B C W1.drew (hnode.below (hdr.mono (Nat.le_trans hB hbw.size))) (hnode'.below (hdr.mono (Nat.le_trans hC hbw.size))) (Nat.le_trans hB hbw.size) (Nat.le_trans hC hbw.size))
              have HBb := Lib.hid (hb.trans (hdr.mono hb.size))
              have HBw := Lib.hid (hbw.trans (hdr.mono hbw.size))
              have hnx := pair_next d ks js k x y hx hy
              rw [hall, Bool.true_and] at hnx
              have HNx := Lib.hid hnx
              have HNo := Lib.hid (pair_no d ks js k x y hx hy)
              have hk0 : (0 : Int) ≤ k := by omega
              have hk1 : (k : Int) < n := by omega
              have hn3 : (n : Int) ≤ 9223372036854775807 := by omega
              clear hnode hnode' hx hy hdr hb hbw hnx hall
              cases hsm : sameF d x y
              · rw [hsm] at HCall
                have HEnd := Lib.hid (HNo.out hsm)
                clear hsm
                go_wp2
                go_still_tail 10, (by kernel_rfl)
                change wpList _ _ _ _ _ W1.drew
                generalize W1.drew = W2 at *
                go_wp2_with fail
                refine HCall.out.mono ?_
                rintro e W3 ⟨rfl, hb2⟩
                go_wp2_with fail
                go_ret
                exact ⟨by rw [HEnd.out]; rfl, HBw.out.trans (hb2.mono HBw.out.size)⟩
              · rw [hsm] at HCall
                have HOk := Lib.hid (HNx.out.trans hsm)
                clear hsm
                go_wp2
                go_still_tail 10, (by kernel_rfl)
                change wpList _ _ _ _ _ W1.drew
                generalize W1.drew = W2 at *
                go_wp2_with fail
                refine HCall.out.mono ?_
                rintro e W3 ⟨rfl, hb2⟩
                go_wp2_with fail
                exact ⟨⟨_, k + 1, rfl, by omega, by go_num, HOk.out, HBb.out.trans (hb2.mono HBb.out.size)⟩, by simp [intOf]; omega⟩
            · obtain rfl : k = n := by omega
              have HEnd : Hid ((ks.zip js).all (fun x => sameF d x.1 x.2) = true) := by
                show _ = _
                rw [← hall, List.take_of_length_le (by rw [List.length_zip, HN.out, HN'.out]; omega)]
              have HBw := Lib.hid hbw
              clear hall hb hbw
              go_wp2
              go_ret
              exact ⟨by rw [HEnd.out]; rfl, HBw.out⟩
end Go.Proofs.YtfpohaipmnjflaaGreatDoor
/- Are two trees the same, but for places: the program's answer (through slices.EqualFunc); by contract. No condition. -/
namespace Go.Proofs.YtfpohaipmnjflaaGreatDoor
open Go.RowKit

def SameK (d : Nat) : Prop := ∀ (A D : Tree) (u v : Value) (B C : Nat) (w : World), NodeAt w B d A u → NodeAt w C d D v → B ≤ w.heap.size → C ≤ w.heap.size →
    Calls Tryz.prog 10 #[u, v] w (BoolPost (sameF d A D) w)
/-- the kids' part -/
def kidsF (d : Nat) (ks js : List Tree) : Bool := ks.length == js.length && (ks.zip js).all (fun x => sameF d x.1 x.2)
def EqualK (d : Nat) : Prop := ∀ (ks js : List Tree) (u v : Value) (B C : Nat) (w : World), KidsAt w B d ks u → KidsAt w C d js v → B ≤ w.heap.size → C ≤ w.heap.size →
    Calls Tryz.prog 29 #[u, v, .func (.func 10) #[] #[]] w (BoolPost (kidsF (d - 1) ks js) w)

set_option maxRecDepth 100000 in
set_option maxHeartbeats 1000000 in
theorem equal_len (d : Nat) (ks js : List Tree) (u v : Value) (B C : Nat) (w : World) (hu : KidsAt w B d ks u) (hv : KidsAt w C d js v) (h : ks.length ≠ js.length) :
    Calls Tryz.prog 29 #[u, v, .func (.func 10) #[] #[]] w (BoolPost false w) := by
  obtain ⟨p, c, rfl⟩ := hu.len
  obtain ⟨q, e, rfl⟩ := hv.len
  have x : ((ks.length : Int) == js.length) = false := by simp; omega
  clear hu hv h
  go_enter Tryz.func29, Tryz.ntmps29
  go_wp2
  all_goals (go_ret; exact ⟨rfl, Below.refl _ _⟩)

set_option maxRecDepth 100000 in
set_option maxHeartbeats 1000000 in
theorem equal_nil (p q : Option Addr) (c e : Nat) (w : World) :
    Calls Tryz.prog 29 #[.slice p 0 c, .slice q 0 e, .func (.func 10) #[] #[]] w (BoolPost true w) := by
  go_enter Tryz.func29, Tryz.ntmps29
  go_wp2
  go_loop [17] (fun i => i = .int .i64 0) (fun _ => 0)
  case atStart => rfl
  case round =>
    subst hrel
    go_wp2
    go_ret
    exact ⟨rfl, Below.refl _ _⟩

/-- two new blocks -/
theorem below_two (w : World) (a b : Obj) : Below w.heap.size w ((w.alloc a).alloc b) := ((Below.refl _ w).alloc (Nat.le_refl _) _).alloc (by simp) _

set_option maxRecDepth 100000 in
set_option maxHeartbeats 1000000 in
theorem equal_of (d : Nat) (h : SameK d) : EqualK (d + 1) := by
  intro ks js u v B C w hu hv hB hC
  show Calls _ _ _ _ (BoolPost (kidsF d ks js) w)
  by_cases x4 : ks.length = js.length
  · have e0 : kidsF d ks js = (ks.zip js).all (fun x => sameF d x.1 x.2) := by
      unfold kidsF
      rw [x4]; simp
    rw [e0]
    rcases hu with ⟨rfl, sp, cap, rfl⟩ | ⟨b, off, cap, hne, hbB, hcap, hmax, rfl, hrow⟩
    · obtain ⟨q, e, rfl⟩ := hv.len
      rw [← x4]
      exact equal_nil _ _ _ _ _
    · rcases hv with ⟨rfl, _⟩ | ⟨b', off', cap', hne', hbB', hcap', hmax', rfl, hrow'⟩
      · exact absurd (List.length_eq_zero_iff.1 x4) hne
      · have HRow := Lib.hid hrow
        have HRow' := Lib.hid hrow'
        have HIH := Lib.hid h
        obtain ⟨n, hn⟩ : ∃ n, ks.length = n := ⟨_, rfl⟩
        have hn' : js.length = n := by rw [← x4]; exact hn
        rw [hn] at hcap ⊢
        rw [hn'] at hcap' ⊢
        have HN := Lib.hid hn
        have HN' := Lib.hid hn'
        unfold maxLen at hmax hmax'
        clear hrow hrow' h hn hn' x4 e0
        go_enter Tryz.func29, Tryz.ntmps29
        go_wp2
        go_loopw [17] (PairRel w d ks js n) (fun i _ => n - (intOf i).toNat)
        case atStart => exact ⟨_, 0, rfl, Nat.zero_le _, rfl, rfl, Below.refl _ _⟩
        case round =>
          obtain ⟨W1, k, rfl, hk, rfl, hall, hb⟩ := hrel
          by_cases hlt : k < n
          · obtain ⟨x, hx⟩ : ∃ x, ks[k]? = some x := ⟨ks[k]'(by rw [HN.out]; exact hlt), List.getElem?_eq_getElem (by rw [HN.out]; exact hlt)⟩
            obtain ⟨y, hy⟩ : ∃ y, js[k]? = some y := ⟨js[k]'(by rw [HN'.out]; exact hlt), List.getElem?_eq_getElem (by rw [HN'.out]; exact hlt)⟩
            obtain ⟨p, l, c, d0, d1, d2, d3, d4, hnode⟩ := row_kid (hb.mono hB) hbB (HRow.out k x hx)
            obtain ⟨p', l', c', e0, e1, e2, e3, e4, hnode'⟩ := row_kid (hb.mono hC) hbB' (HRow'.out k y hy)
            have hdr := below_two W1 (.cells #[.int .u8 x.kind, .string x.text, .int .i64 x.num, .int .i64 x.place, .slice p l c] 25) (.cells #[.int .u8 y.kind, .string y.text, .int .i64 y.num, .int .i64 y.place, .slice p' l' c'] 25)
            have e0' : ∀ o, (W1.alloc o).cell? ⟨b', off' + k * 5, none⟩ = some (.int .u8 y.kind) := fun o => (World.cell?_alloc_lt _ _ _ (Nat.lt_of_lt_of_le hbB' (Nat.le_trans hC hb.size))).trans e0
            have e1' : ∀ o, (W1.alloc o).cell? ⟨b', off' + k * 5 + 1, none⟩ = some (.string y.text) := fun o => (World.cell?_alloc_lt _ _ _ (Nat.lt_of_lt_of_le hbB' (Nat.le_trans hC hb.size))).trans e1
            have e2' : ∀ o, (W1.alloc o).cell? ⟨b', off' + k * 5 + 2, none⟩ = some (.int .i64 y.num) := fun o => (World.cell?_alloc_lt _ _ _ (Nat.lt_of_lt_of_le hbB' (Nat.le_trans hC hb.size))).trans e2
            have e3' : ∀ o, (W1.alloc o).cell? ⟨b', off' + k * 5 + 3, none⟩ = some (.int .i64 y.place) := fun o => (World.cell?_alloc_lt _ _ _ (Nat.lt_of_lt_of_le hbB' (Nat.le_trans hC hb.size))).trans e3
            have e4' : ∀ o, (W1.alloc o).cell? ⟨b', off' + k * 5 + 4, none⟩ = some (.slice p' l' c') := fun o => (World.cell?_alloc_lt _ _ _ (Nat.lt_of_lt_of_le hbB' (Nat.le_trans hC hb.size))).trans e4
            have HCall := Lib.hid (HIH.out x y _ _ B C _ (hnode.below (hdr.mono (Nat.le_trans hB hb.size))) (hnode'.below (hdr.mono (Nat.le_trans hC hb.size))) (Nat.le_trans (Nat.le_trans hB hb.size) hdr.size) (Nat.le_trans (Nat.le_trans hC hb.size) hdr.size))
            have HBb := Lib.hid (hb.trans (hdr.mono hb.size))
            have hnx := pair_next d ks js k x y hx hy
            rw [hall, Bool.true_and] at hnx
            have HNx := Lib.hid hnx
            have HNo := Lib.hid (pair_no d ks js k x y hx hy)
            have hk0 : (0 : Int) ≤ k := by omega
            have hk1 : (k : Int) < n := by omega
            have hn3 : (n : Int) ≤ 9223372036854775807 := by omega
            clear hnode hnode' hx hy hdr hb hnx hall e0 e1 e2 e3 e4
            cases hsm : sameF d x y
            · rw [hsm] at HCall
              have HEnd := Lib.hid (HNo.out hsm)
              clear hsm
              go_wp2_with fail
              refine HCall.out.mono ?_
              rintro e W3 ⟨rfl, hb2⟩
              go_wp2_with fail
              go_ret
              exact ⟨by rw [HEnd.out]; rfl, HBb.out.trans (hb2.mono HBb.out.size)⟩
            · rw [hsm] at HCall
              have HOk := Lib.hid (HNx.out.trans hsm)
              clear hsm
              go_wp2_with fail
              refine HCall.out.mono ?_
              rintro e W3 ⟨rfl, hb2⟩
              go_wp2_with fail
              exact ⟨⟨_, k + 1, rfl, by omega, by go_num, HOk.out, HBb.out.trans (hb2.mono HBb.out.size)⟩, by simp [intOf]; omega⟩
          · obtain rfl : k = n := by omega
            have HEnd : Hid ((ks.zip js).all (fun x => sameF d x.1 x.2) = true) := by
              show _ = _
              rw [← hall, List.take_of_length_le (by rw [List.length_zip, HN.out, HN'.out]; omega)]
            have HBw := Lib.hid hb
            clear hall hb
            go_wp2
            go_ret
            exact ⟨by rw [HEnd.out]; rfl, HBw.out⟩
  · have e0 : kidsF d ks js = false := by unfold kidsF; simp [x4]
    rw [e0]
    exact equal_len (d + 1) ks js u v B C w hu hv x4
end Go.Proofs.YtfpohaipmnjflaaGreatDoor
/- Are two trees the same, but for places: the program's answer, whole; by contract. No condition. -/
namespace Go.Proofs.YtfpohaipmnjflaaGreatDoor
open Go.RowKit

theorem sameF_kids (d : Nat) (a b : Tree) (h0 : d = 0 → a.kids = [] ∧ b.kids = []) : sameF d a b = (a.kind == b.kind && a.text.data.toList == b.text.data.toList && a.num == b.num && kidsF (d - 1) a.kids b.kids) := by
  cases d with
  | zero =>
    obtain ⟨h1, h2⟩ := h0 rfl
    show (a.kind == b.kind && a.text.data.toList == b.text.data.toList && a.num == b.num && a.kids.length == b.kids.length) = _
    rw [h1, h2]; rfl
  | succ d =>
    show (a.kind == b.kind && a.text.data.toList == b.text.data.toList && a.num == b.num && a.kids.length == b.kids.length && (a.kids.zip b.kids).all (fun x => sameF d x.1 x.2)) = _
    unfold kidsF
    simp [Bool.and_assoc]
theorem equal_zero : EqualK 0 := by
  intro ks js u v B C w hu hv _ _
  obtain ⟨rfl, p, c, rfl⟩ := hu
  obtain ⟨rfl, q, e, rfl⟩ := hv
  exact equal_nil _ _ _ _ _

set_option maxRecDepth 100000 in
set_option maxHeartbeats 1000000 in
theorem same_of (d : Nat) (h : EqualK d) : SameK d := by
  intro A D u v B C w hu hv hB hC
  obtain ⟨kd, tx, nm, pa, ks⟩ := A
  obtain ⟨kd', tx', nm', pb, js⟩ := D
  obtain ⟨_, s, rfl, hs⟩ := hu
  obtain ⟨_, r, rfl, hr⟩ := hv
  dsimp only [Tree.kind, Tree.text, Tree.num, Tree.kids, Tree.place] at hs hr ⊢
  have hsp := sameF_kids d (.mk kd tx nm pa ks) (.mk kd' tx' nm' pb js) (fun h0 => by subst h0; exact ⟨hs.1, hr.1⟩)
  dsimp only [Tree.kind, Tree.text, Tree.num, Tree.kids, Tree.place] at hsp
  rw [hsp]
  have hb := below_two w (.cells #[.int .u8 kd, .string tx, .int .i64 nm, .int .i64 pa, s] 25) (.cells #[.int .u8 kd', .string tx', .int .i64 nm', .int .i64 pb, r] 25)
  have HC := Lib.hid (h ks js s r B C _ (hs.below (hb.mono hB)) (hr.below (hb.mono hC)) (Nat.le_trans hB hb.size) (Nat.le_trans hC hb.size))
  have HB := Lib.hid hb
  generalize kidsF (d - 1) ks js = kx at *
  clear hs hr hb h hsp
  by_cases x1 : kd = kd'
  · subst x1
    by_cases x2 : tx = tx'
    · subst x2
      by_cases x3 : nm = nm'
      · subst x3
        have e : ((kd == kd) && (tx.data.toList == tx.data.toList) && (nm == nm) && kx) = kx := by simp
        rw [e]
        go_enter Tryz.func10, Tryz.ntmps10
        go_wp2_with (first
          | (go_at_call 29; refine Calls.mono HC.out ?_; rintro e w' ⟨rfl, hb'⟩))
        all_goals (go_ret; exact ⟨rfl, HB.out.trans (hb'.mono HB.out.size)⟩)
      · have e : ((kd == kd) && (tx.data.toList == tx.data.toList) && (nm == nm') && kx) = false := by simp [x3]
        rw [e]
        have y3 : (nm == nm') = false := by simp [x3]
        clear HC x3 e
        go_enter Tryz.func10, Tryz.ntmps10
        go_wp2
        all_goals (go_ret; exact ⟨rfl, HB.out⟩)
    · have hne : ¬ tx.data.toList = tx'.data.toList := fun h => x2 (by obtain ⟨⟨tx⟩⟩ := tx; obtain ⟨⟨tx'⟩⟩ := tx'; simpa using h)
      have e : ((kd == kd) && (tx.data.toList == tx'.data.toList) && (nm == nm') && kx) = false := by rw [beq_eq_false_iff_ne.2 hne]; simp
      rw [e]
      have y2 : (tx.toList == tx'.toList) = false := by rw [ByteArray.toList_eq, ByteArray.toList_eq]; exact beq_eq_false_iff_ne.2 hne
      clear HC x2 hne e
      go_enter Tryz.func10, Tryz.ntmps10
      go_wp2
      all_goals (go_ret; exact ⟨rfl, HB.out⟩)
  · have e : ((kd == kd') && (tx.data.toList == tx'.data.toList) && (nm == nm') && kx) = false := by simp [x1]
    rw [e]
    have y1 : ((kd : Int) == kd') = false := by simp; omega
    clear HC x1 e
    go_enter Tryz.func10, Tryz.ntmps10
    go_wp2
    all_goals (go_ret; exact ⟨rfl, HB.out⟩)

theorem same_any (d : Nat) : SameK d := by
  induction d with
  | zero => exact same_of 0 equal_zero
  | succ d ih => exact same_of (d + 1) (equal_of d ih)
end Go.Proofs.YtfpohaipmnjflaaGreatDoor
