/- The law's text of tokens with something between; by contract. Conditions: at most 2000 tokens, texts of at most 1500 bytes. -/
import Derived.Test.YtondgnefggglcaaDoorScanM
import Derived.Test.YtondgnefggglcaaDoorPlainC
namespace Go.Proofs.YtondgnefggglcaaDoor
open Go.RowKit

def WrPost (bt : ByteArray) (l : List Tok) (w : World) (e : Ending) (w' : World) : Prop := (∃ S : ByteArray, e = .returned (.string S) ∧ S.data.toList = wr bt.data.toList l) ∧ w = w'
/-- the loop's state -/
def WrRel (bt : ByteArray) (l : List Tok) (w : World) (x i : Value) (W : World) : Prop :=
  ∃ (k : Nat) (X : ByteArray), k ≤ l.length ∧ x = .string X ∧ X.data.toList = wr bt.data.toList (l.take k) ∧ X.size ≤ k * 2000 ∧ i = .int .i64 k ∧ w = W
theorem wr_take (bt : List UInt8) (l : List Tok) (k : Nat) (t : Tok) (h : l[k]? = some t) : wr bt (l.take (k + 1)) = wr bt (l.take k) ++ (markL t.1 ++ (t.2.1.data.toList ++ bt)) := by
  unfold wr
  rw [List.take_add_one, h, List.flatMap_append]
  simp [List.append_assoc]
theorem wrRel_next {bt : ByteArray} {l : List Tok} {w : World} {k : Nat} {X : ByteArray} {t : Tok} (h : l[k]? = some t) (hX : X.data.toList = wr bt.data.toList (l.take k)) (hs : X.size ≤ k * 2000) (hb : bt.size ≤ 100) (ht : t.2.1.size ≤ 1500)
    (m : ByteArray) (hm : m.data.toList = markL t.1) (Y : ByteArray) (hY : Y = X ++ m ++ t.2.1 ++ bt) (i : Int) (hi : i = k + 1) : WrRel bt l w (.string Y) (.int .i64 i) w := by
  have hk := (List.getElem?_eq_some_iff.1 h).1
  have hms : m.size ≤ 1 := by
    have e : m.size = m.data.toList.length := by simp
    rw [e, hm]
    unfold markL
    split
    · exact Nat.le_refl _
    · split
      · exact Nat.le_refl _
      · exact Nat.zero_le _
  refine ⟨k + 1, Y, hk, rfl, ?_, ?_, by rw [hi]; rfl, rfl⟩
  · rw [wr_take _ _ _ _ h, ← hX, ← hm, hY]
    simp [ByteArray.data_append]
  · rw [hY]
    simp only [ByteArray.size_append]
    omega

set_option maxHeartbeats 1000000 in
theorem written_any (l : List Tok) (n cap g : Nat) (bt : ByteArray) (w : World) (hn : l.length = n) (hn2 : n ≤ 2000) (hbt : bt.size ≤ 100) (hl : ∀ t ∈ l, t.2.1.size ≤ 1500)
    (hc : ∀ i t, l[i]? = some t → w.cell? ⟨g, i * 3, none⟩ = some (.int .u8 t.1) ∧ w.cell? ⟨g, i * 3 + 1, none⟩ = some (.string t.2.1) ∧ w.cell? ⟨g, i * 3 + 2, none⟩ = some (.int .i64 t.2.2)) :
    Calls Tryd.prog 17 #[.slice (some ⟨g, 0, none⟩) n cap, .string bt] w (WrPost bt l w) := by
  have HC := Lib.hid hc
  have HL := Lib.hid hl
  have HN := Lib.hid hn
  clear hc hl hn
  go_enter Tryd.func17, Tryd.ntmps17
  go_wp2
  go_loopw [5, 6] (WrRel bt l w) (fun _ i _ => n - (intOf i).toNat)
  case atStart => exact ⟨0, ⟨#[]⟩, Nat.zero_le _, rfl, rfl, Nat.le_refl _, rfl, rfl⟩
  case round =>
    obtain ⟨k, X, hk, rfl, hX, hXs, rfl, rfl⟩ := hrel
    rw [HN.out] at hk
    have HX := Lib.hid hX
    have hX2 : X.size ≤ 4000000 := by omega
    by_cases hlt : k < n
    · obtain ⟨t, ht⟩ : ∃ t, l[k]? = some t := ⟨l[k]'(by rw [HN.out]; exact hlt), List.getElem?_eq_getElem (by rw [HN.out]; exact hlt)⟩
      obtain ⟨a1, a2, a3⟩ := HC.out k t ht
      have htx := HL.out t (List.mem_of_getElem? ht)
      obtain ⟨kd, tx, p⟩ := t
      dsimp only at a1 a2 a3 htx
      have HT := Lib.hid ht
      have HXs := Lib.hid hXs
      have hk0 : (0 : Int) ≤ k := by omega
      have hk1 : (k : Int) < n := by omega
      clear ht hX hXs
      by_cases h3 : kd = 3
      · have b3 : ((kd : Int) == 3) = true := by rw [h3]; rfl
        have HM : Hid ((⟨#[63]⟩ : ByteArray).data.toList = markL kd) := by rw [h3]; rfl
        clear h3
        go_wp2
        exact ⟨wrRel_next HT.out HX.out HXs.out hbt htx ⟨#[63]⟩ HM.out _ rfl _ (by omega), by simp [intOf]; omega⟩
      · by_cases h5 : kd = 5
        · have b3 : ((kd : Int) == 3) = false := by rw [h5]; rfl
          have b5 : ((kd : Int) == 5) = true := by rw [h5]; rfl
          have HM : Hid ((⟨#[39]⟩ : ByteArray).data.toList = markL kd) := by rw [h5]; rfl
          clear h3 h5
          go_wp2
          exact ⟨wrRel_next HT.out HX.out HXs.out hbt htx ⟨#[39]⟩ HM.out _ rfl _ (by omega), by simp [intOf]; omega⟩
        · have b3 : ((kd : Int) == 3) = false := by simp; omega
          have b5 : ((kd : Int) == 5) = false := by simp; omega
          have HM : Hid ((⟨#[]⟩ : ByteArray).data.toList = markL kd) := by
            show [] = _
            unfold markL
            rw [if_neg (by simpa using h3), if_neg (by simpa using h5)]
          clear h3 h5
          go_wp2
          refine ⟨wrRel_next HT.out HX.out HXs.out hbt htx ⟨#[]⟩ HM.out _ ?_ _ (by omega), by simp [intOf]; omega⟩
          apply ByteArray.ext
          simp [ByteArray.data_append]
    · obtain rfl : k = n := by omega
      have e : l.take k = l := by rw [← HN.out]; exact List.take_length
      have HF : Hid (WrPost bt l w (.returned (.string X)) w) := ⟨⟨X, rfl, by rw [HX.out, e]⟩, rfl⟩
      clear e hX
      go_wp2
      go_ret
      exact HF.out
end Go.Proofs.YtondgnefggglcaaDoor
