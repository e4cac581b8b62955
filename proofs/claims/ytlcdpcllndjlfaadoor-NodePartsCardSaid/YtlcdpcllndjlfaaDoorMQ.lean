/- NodeSame, the law's walk: it answers true. Condition: the library's table of blanks lies as laid. -/
import Derived.Test.YtlcdpcllndjlfaaDoorMN
import Derived.Test.YtlcdpcllndjlfaaDoorMP
namespace Go.Proofs.YtlcdpcllndjlfaaDoor
open Go.RowKit

theorem frame45 (a : Act) (h : a.tmps.size = 45) (hd : a.defers = []) : ∃ y0 y1 y2 y3 y4 y5 y6 y7 y8 y9 y10 y11 y12 y13 y14 y15 y16 y17 y18 y19 y20 y21 y22 y23 y24 y25 y26 y27 y28 y29 y30 y31 y32 y33 y34 y35 y36 y37 y38 y39 y40 y41 y42 y43 y44 : Value, a = ⟨#[y0, y1, y2, y3, y4, y5, y6, y7, y8, y9, y10, y11, y12, y13, y14, y15, y16, y17, y18, y19, y20, y21, y22, y23, y24, y25, y26, y27, y28, y29, y30, y31, y32, y33, y34, y35, y36, y37, y38, y39, y40, y41, y42, y43, y44], []⟩ := by
  obtain ⟨⟨L⟩, D⟩ := a
  have hd' : D = [] := hd
  subst hd'
  have k0 : L.length = 45 := h
  clear h hd
  obtain ⟨y0, L0, rfl, k1⟩ := cons_of_len k0
  obtain ⟨y1, L1, rfl, k2⟩ := cons_of_len k1
  obtain ⟨y2, L2, rfl, k3⟩ := cons_of_len k2
  obtain ⟨y3, L3, rfl, k4⟩ := cons_of_len k3
  obtain ⟨y4, L4, rfl, k5⟩ := cons_of_len k4
  obtain ⟨y5, L5, rfl, k6⟩ := cons_of_len k5
  obtain ⟨y6, L6, rfl, k7⟩ := cons_of_len k6
  obtain ⟨y7, L7, rfl, k8⟩ := cons_of_len k7
  obtain ⟨y8, L8, rfl, k9⟩ := cons_of_len k8
  obtain ⟨y9, L9, rfl, k10⟩ := cons_of_len k9
  obtain ⟨y10, L10, rfl, k11⟩ := cons_of_len k10
  obtain ⟨y11, L11, rfl, k12⟩ := cons_of_len k11
  obtain ⟨y12, L12, rfl, k13⟩ := cons_of_len k12
  obtain ⟨y13, L13, rfl, k14⟩ := cons_of_len k13
  obtain ⟨y14, L14, rfl, k15⟩ := cons_of_len k14
  obtain ⟨y15, L15, rfl, k16⟩ := cons_of_len k15
  obtain ⟨y16, L16, rfl, k17⟩ := cons_of_len k16
  obtain ⟨y17, L17, rfl, k18⟩ := cons_of_len k17
  obtain ⟨y18, L18, rfl, k19⟩ := cons_of_len k18
  obtain ⟨y19, L19, rfl, k20⟩ := cons_of_len k19
  obtain ⟨y20, L20, rfl, k21⟩ := cons_of_len k20
  obtain ⟨y21, L21, rfl, k22⟩ := cons_of_len k21
  obtain ⟨y22, L22, rfl, k23⟩ := cons_of_len k22
  obtain ⟨y23, L23, rfl, k24⟩ := cons_of_len k23
  obtain ⟨y24, L24, rfl, k25⟩ := cons_of_len k24
  obtain ⟨y25, L25, rfl, k26⟩ := cons_of_len k25
  obtain ⟨y26, L26, rfl, k27⟩ := cons_of_len k26
  obtain ⟨y27, L27, rfl, k28⟩ := cons_of_len k27
  obtain ⟨y28, L28, rfl, k29⟩ := cons_of_len k28
  obtain ⟨y29, L29, rfl, k30⟩ := cons_of_len k29
  obtain ⟨y30, L30, rfl, k31⟩ := cons_of_len k30
  obtain ⟨y31, L31, rfl, k32⟩ := cons_of_len k31
  obtain ⟨y32, L32, rfl, k33⟩ := cons_of_len k32
  obtain ⟨y33, L33, rfl, k34⟩ := cons_of_len k33
  obtain ⟨y34, L34, rfl, k35⟩ := cons_of_len k34
  obtain ⟨y35, L35, rfl, k36⟩ := cons_of_len k35
  obtain ⟨y36, L36, rfl, k37⟩ := cons_of_len k36
  obtain ⟨y37, L37, rfl, k38⟩ := cons_of_len k37
  obtain ⟨y38, L38, rfl, k39⟩ := cons_of_len k38
  obtain ⟨y39, L39, rfl, k40⟩ := cons_of_len k39
  obtain ⟨y40, L40, rfl, k41⟩ := cons_of_len k40
  obtain ⟨y41, L41, rfl, k42⟩ := cons_of_len k41
  obtain ⟨y42, L42, rfl, k43⟩ := cons_of_len k42
  obtain ⟨y43, L43, rfl, k44⟩ := cons_of_len k43
  obtain ⟨y44, L44, rfl, k45⟩ := cons_of_len k44
  obtain rfl : L44 = [] := List.eq_nil_of_length_eq_zero k45
  exact ⟨y0, y1, y2, y3, y4, y5, y6, y7, y8, y9, y10, y11, y12, y13, y14, y15, y16, y17, y18, y19, y20, y21, y22, y23, y24, y25, y26, y27, y28, y29, y30, y31, y32, y33, y34, y35, y36, y37, y38, y39, y40, y41, y42, y43, y44, rfl⟩
theorem putNone (a : Act) (v : Value) : a.put none v = a := rfl
theorem sameF_refl : ∀ (d : Nat) (T : Tree), sameF d T T = true := by
  intro d
  induction d with
  | zero => intro T; unfold sameF; simp
  | succ d ih =>
    intro T
    unfold sameF
    simp only [beq_self_eq_true, Bool.true_and, List.all_eq_true]
    intro x hx
    obtain ⟨i, hi⟩ := List.getElem?_of_mem hx
    obtain ⟨h1, h2⟩ := List.getElem?_zip_eq_some.1 hi
    rw [h1] at h2
    injection h2 with h2
    rw [← h2]
    exact ih x.1
def tyS (L d : Nat) (T U : Tree) (va vu : Value) : Nat → World → Value → Prop
  | 0 => fun _ v => v = va
  | 1 => lentTy L d T
  | 2 => fun _ v => v = vu
  | 3 => lentTy L d U
  | 4 => boxTy L
  | 5 => boxTy L
  | _ => fun _ _ => True
theorem tyS_mono {L d : Nat} {T U : Tree} {va vu : Value} : ∀ (i : Nat) (v : Value) (W W' : World), tyS L d T U va vu i W v → Below W.heap.size W W' → tyS L d T U va vu i W' v
  | 0, _, _, _, h, _ => h
  | 1, _, _, _, h, hb => lentTy.mono h hb
  | 2, _, _, _, h, _ => h
  | 3, _, _, _, h, hb => lentTy.mono h hb
  | 4, _, _, _, h, hb => boxTy.mono h hb
  | 5, _, _, _, h, hb => boxTy.mono h hb
  | _ + 6, _, _, _, _, _ => trivial
def frS : Nat → Bool := fun i => i == 4 || i == 5
theorem tyS_fr {L d : Nat} {T U : Tree} {va vu : Value} : ∀ (i : Nat) (W : World) (v : Value), frS i = true → tyS L d T U va vu i W v → ∃ g, v = .pointer (some ⟨g, 0, none⟩) ∧ g < W.heap.size
  | 4, _, _, _, ⟨g, h1, _, h3, _⟩ => ⟨g, h1, h3⟩
  | 5, _, _, _, ⟨g, h1, _, h3, _⟩ => ⟨g, h1, h3⟩
  | 0, _, _, h, _ => by cases h
  | 1, _, _, h, _ => by cases h
  | 2, _, _, h, _ => by cases h
  | 3, _, _, h, _ => by cases h
  | _ + 6, _, _, h, _ => by cases h
end Go.Proofs.YtlcdpcllndjlfaaDoor
