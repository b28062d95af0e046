/-
  The lines that are cut out of a buffer do not depend on how its bytes come.
  Plain: no program. No condition.
-/
import Derived.Test.YtbpapaponnfagaaGreatDoorLTakeFacts
set_option linter.unusedSimpArgs false
set_option linter.unusedVariables false
namespace Go.Proofs.YtbpapaponnfagaaGreatDoor
open Go.ChangeShapes Go.WideShapes Go.ChangeAt Go.RowKit Go.Joins Go.Deep
theorem size_app (s t : ByteArray) : (s ++ t).size = s.size + t.size := ByteArray.size_append
theorem byteAt_app {s t : ByteArray} {i : Nat} (h : i < s.size) : byteAt (s ++ t) i = byteAt s i := by
  unfold byteAt
  rw [ByteArray.data_append, Array.toList_append, List.getD_eq_getElem?_getD, List.getD_eq_getElem?_getD, List.getElem?_append_left (by rw [Array.length_toList]; exact h)]
theorem byteAt_app2 {s t : ByteArray} (i : Nat) : byteAt (s ++ t) (s.size + i) = byteAt t i := by
  unfold byteAt
  have : s.data.toList.length = s.size := Array.length_toList
  rw [ByteArray.data_append, Array.toList_append, List.getD_eq_getElem?_getD, List.getD_eq_getElem?_getD, List.getElem?_append_right (by omega), show s.size + i - s.data.toList.length = i by omega]
theorem two_app {s t : ByteArray} {i : Nat} (h : i + 1 < s.size) : two (s ++ t) i ↔ two s i := by
  unfold two
  rw [byteAt_app (by omega), byteAt_app h, size_app]
  exact ⟨fun q => ⟨h, q.2⟩, fun q => ⟨by omega, q.2⟩⟩
theorem twoI_app {s : ByteArray} (t : ByteArray) {a i : Nat} (h : twoI s a = (i : Int)) : twoI (s ++ t) a = (i : Int) := by
  rcases twoI_cases s a with ⟨h0, _⟩ | ⟨k, hk, h1, h2, h3⟩
  · omega
  · obtain rfl : k = i := by omega
    have hl := h2.1
    exact twoI_at h1 ((two_app hl).2 h2) (fun j hj1 hj2 q => h3 j hj1 hj2 ((two_app (by omega)).1 q))
theorem twoI_app_none {s : ByteArray} (t : ByteArray) {a : Nat} (h : twoI s a < 0) : twoI (s ++ t) a = -1 ∨ ((s.size : Nat) : Int) ≤ twoI (s ++ t) a + 1 := by
  rcases twoI_cases s a with ⟨_, h0⟩ | ⟨k, hk, h1, h2, h3⟩
  · rcases twoI_cases (s ++ t) a with ⟨h4, _⟩ | ⟨k, hk, h1, h2, _⟩
    · exact .inl h4
    · refine .inr (Decidable.byContradiction fun hn => h0 k h1 ((two_app (by omega)).1 h2))
  · omega
theorem ext_app {s t : ByteArray} {a b : Nat} (h : b ≤ s.size) : ByteArray.extract (s ++ t) a b = ByteArray.extract s a b := by
  apply ByteArray.ext
  have : s.data.toList.length = s.size := Array.length_toList
  apply Array.ext'
  rw [ByteArray.data_extract, ByteArray.data_extract, ByteArray.data_append, Array.toList_extract, Array.toList_extract, Array.toList_append, List.extract_eq_take_drop, List.extract_eq_take_drop]
  by_cases hab : a ≤ b
  · rw [List.drop_append, show a - s.data.toList.length = 0 by omega, List.drop_zero, List.take_append, show b - a - (s.data.toList.drop a).length = 0 by rw [List.length_drop]; omega, List.take_zero, List.append_nil]
  · rw [show b - a = 0 by omega]
    rfl
theorem ext_app2 {s t : ByteArray} {a : Nat} (h : a ≤ s.size) : ByteArray.extract (s ++ t) a (s ++ t).size = ByteArray.extract s a s.size ++ t := by
  apply ByteArray.ext
  have h1 : s.data.toList.length = s.size := Array.length_toList
  have h2 : t.data.toList.length = t.size := Array.length_toList
  apply Array.ext'
  rw [ByteArray.data_append, ByteArray.data_extract, ByteArray.data_extract, ByteArray.data_append, Array.toList_append, Array.toList_extract, Array.toList_extract, Array.toList_append, List.extract_eq_take_drop, List.extract_eq_take_drop, size_app]
  rw [List.drop_append, show a - s.data.toList.length = 0 by omega, List.drop_zero, List.take_of_length_le (by rw [List.length_append, List.length_drop]; omega), List.take_of_length_le (by rw [List.length_drop]; omega)]
theorem lineF_two (s : ByteArray) : ∀ a, lineF s a = -1 ∨ (twoI s a ≤ lineF s a ∧ ∃ n : Nat, lineF s a = (n : Int) ∧ two s n) := by
  intro a
  induction hn : s.size - a using Nat.strongRecOn generalizing a with
  | _ n ih =>
    have ht := twoI_ge s a
    rcases twoI_cases s a with ⟨h0, _⟩ | ⟨i, hi, hai, h2i, hno⟩
    · exact .inl (lineF_none (by omega))
    · by_cases h1 : litV (ByteArray.extract s a (twoI s a).toNat) < 0
      · rw [lineF_here (by omega) h1]
        exact .inr ⟨Int.le_refl _, i, hi, h2i⟩
      · by_cases h2 : ((s.size : Nat) : Int) < twoI s a + 2 + litV (ByteArray.extract s a (twoI s a).toNat)
        · exact .inl (lineF_out (by omega) h1 h2)
        · rw [lineF_next (by omega) h1 h2]
          have hg := twoI_ge s (twoI s a + 2 + litV (ByteArray.extract s a (twoI s a).toNat)).toNat
          rcases ih _ (by omega) (twoI s a + 2 + litV (ByteArray.extract s a (twoI s a).toNat)).toNat rfl with h3 | ⟨h3, m, h4, h5⟩
          · exact .inl h3
          · have := lineF_after s (twoI s a + 2 + litV (ByteArray.extract s a (twoI s a).toNat)).toNat
            exact .inr ⟨by omega, m, h4, h5⟩
theorem lineF_app {s : ByteArray} (t : ByteArray) {n : Nat} : ∀ a, lineF s a = (n : Int) → lineF (s ++ t) a = (n : Int) := by
  intro a
  induction hk : s.size - a using Nat.strongRecOn generalizing a with
  | _ k ih =>
    intro hl
    rcases twoI_cases s a with ⟨h0, _⟩ | ⟨i, hi, hai, h2i, hno⟩
    · rw [lineF_none (by omega)] at hl
      omega
    have hs := h2i.1
    have e := twoI_app t hi
    have ev : litV (ByteArray.extract (s ++ t) a ((twoI (s ++ t) a).toNat)) = litV (ByteArray.extract s a (twoI s a).toNat) := by
      rw [e, hi, ext_app (by omega)]
    by_cases h1 : litV (ByteArray.extract s a (twoI s a).toNat) < 0
    · rw [lineF_here (by omega) h1] at hl
      rw [lineF_here (by omega) (by rw [ev]; exact h1), e]
      omega
    · by_cases h3 : ((s.size : Nat) : Int) < twoI s a + 2 + litV (ByteArray.extract s a (twoI s a).toNat)
      · rw [lineF_out (by omega) h1 h3] at hl
        omega
      · rw [lineF_next (by omega) h1 h3] at hl
        rw [lineF_next (by omega) (by rw [ev]; exact h1) (by rw [ev, e, size_app]; omega), ev, e, ← hi]
        exact ih _ (by omega) _ rfl hl
theorem lineF_app_none {s : ByteArray} (t : ByteArray) : ∀ a, lineF s a = -1 → lineF (s ++ t) a = -1 ∨ ((s.size : Nat) : Int) ≤ lineF (s ++ t) a + 1 := by
  intro a
  induction hk : s.size - a using Nat.strongRecOn generalizing a with
  | _ k ih =>
    intro hl
    rcases twoI_cases s a with ⟨h0, _⟩ | ⟨i, hi, hai, h2i, hno⟩
    · have h1 := twoI_app_none t (s := s) (a := a) (by omega)
      have h2 := lineF_two (s ++ t) a
      rcases h2 with h2 | ⟨h2, _⟩
      · exact .inl h2
      · rcases h1 with h1 | h1
        · exact .inl (lineF_none (by omega))
        · exact .inr (by omega)
    have hs := h2i.1
    have e := twoI_app t hi
    have ev : litV (ByteArray.extract (s ++ t) a ((twoI (s ++ t) a).toNat)) = litV (ByteArray.extract s a (twoI s a).toNat) := by
      rw [e, hi, ext_app (by omega)]
    by_cases h1 : litV (ByteArray.extract s a (twoI s a).toNat) < 0
    · rw [lineF_here (by omega) h1] at hl
      omega
    · by_cases h3 : ((s.size : Nat) : Int) < twoI s a + 2 + litV (ByteArray.extract s a (twoI s a).toNat)
      · by_cases h4 : (((s ++ t).size : Nat) : Int) < twoI (s ++ t) a + 2 + litV (ByteArray.extract (s ++ t) a (twoI (s ++ t) a).toNat)
        · exact .inl (lineF_out (by omega) (by rw [ev]; exact h1) h4)
        · rw [lineF_next (by omega) (by rw [ev]; exact h1) h4]
          have := lineF_after (s ++ t) (twoI (s ++ t) a + 2 + litV (ByteArray.extract (s ++ t) a (twoI (s ++ t) a).toNat)).toNat
          rw [ev, e] at this ⊢
          omega
      · rw [lineF_next (by omega) h1 h3] at hl
        rw [lineF_next (by omega) (by rw [ev]; exact h1) (by rw [ev, e, size_app]; omega), ev, e, ← hi]
        exact ih _ (by omega) _ rfl hl
/-- a text behind a head in which no line ends -/
theorem two_tail {u q : ByteArray} (j : Nat) : two (u ++ q) (u.size + j) ↔ two q j := by
  unfold two
  rw [byteAt_app2, show u.size + j + 1 = u.size + (j + 1) by omega, byteAt_app2, size_app]
  exact ⟨fun h => ⟨by omega, h.2⟩, fun h => ⟨by omega, h.2⟩⟩
theorem twoI_tail {u q : ByteArray} (hu : ∀ i, i < u.size → ¬ two (u ++ q) i) : (twoI q 0 = -1 ∧ twoI (u ++ q) 0 = -1) ∨ ∃ i : Nat, twoI q 0 = (i : Int) ∧ twoI (u ++ q) 0 = ((u.size + i : Nat) : Int) ∧ i + 1 < q.size := by
  rcases twoI_cases q 0 with ⟨h0, h1⟩ | ⟨i, hi, _, h2, h3⟩
  · refine .inl ⟨h0, twoI_none fun j _ h => ?_⟩
    by_cases hj : j < u.size
    · exact hu j hj h
    · obtain ⟨k, rfl⟩ : ∃ k, j = u.size + k := ⟨j - u.size, by omega⟩
      exact h1 k (Nat.zero_le _) ((two_tail k).1 h)
  · refine .inr ⟨i, hi, twoI_at (Nat.zero_le _) ((two_tail i).2 h2) (fun j _ hj h => ?_), h2.1⟩
    by_cases hj' : j < u.size
    · exact hu j hj' h
    · obtain ⟨k, rfl⟩ : ∃ k, j = u.size + k := ⟨j - u.size, by omega⟩
      exact h3 k (Nat.zero_le _) (by omega) ((two_tail k).1 h)
theorem ends_tail {u q : ByteArray} (h : 1 ≤ q.size) : endsB (u ++ q) 13 = endsB q 13 := by
  unfold endsB
  rw [size_app, show u.size + q.size - 1 = u.size + (q.size - 1) by omega, byteAt_app2]
  rw [Bool.eq_iff_iff, decide_eq_true_iff, decide_eq_true_iff]
  exact ⟨fun k => ⟨h, k.2⟩, fun k => ⟨by omega, k.2⟩⟩
theorem crF_tail {u q : ByteArray} (h : 1 ≤ q.size ∨ endsB u 13 = false) : crF (u ++ q) = crF q := by
  by_cases h1 : 1 ≤ q.size
  · unfold crF
    rw [ends_tail h1]
  · have hq : q = ⟨#[]⟩ := by
      apply ByteArray.ext
      exact Array.eq_empty_of_size_eq_zero (show q.size = 0 by omega)
    have hu := h.resolve_left h1
    rw [hq, show u ++ (⟨#[]⟩ : ByteArray) = u from ByteArray.append_empty, cr_no hu]
    rfl
theorem rest_tail {u q : ByteArray} (hu : ∀ i, i < u.size → ¬ two (u ++ q) i) (h : 1 ≤ q.size ∨ endsB u 13 = false) : restF q = restF (u ++ q) ∧ (twoI q 0 < 0 ↔ twoI (u ++ q) 0 < 0) := by
  rcases twoI_tail hu with ⟨h1, h2⟩ | ⟨i, h1, h2, h3⟩
  · rw [rest_none (by omega), rest_none (by omega), crF_tail h]
    exact ⟨rfl, by omega⟩
  · refine ⟨?_, by omega⟩
    rw [rest_some (by omega), rest_some (by omega), h1, h2]
    apply ByteArray.ext
    apply Array.ext'
    have e1 : u.data.toList.length = u.size := Array.length_toList
    have e2 : q.data.toList.length = q.size := Array.length_toList
    rw [ByteArray.data_extract, ByteArray.data_extract, ByteArray.data_append, Array.toList_extract, Array.toList_extract, Array.toList_append, List.extract_eq_take_drop, List.extract_eq_take_drop, size_app]
    have e3 : (u.data.toList ++ q.data.toList).drop (u.data.toList.length + (i + 2)) = q.data.toList.drop (i + 2) := by
      rw [List.drop_append, List.drop_of_length_le (l := u.data.toList) (by omega), List.nil_append, Nat.add_sub_cancel_left]
    rw [show Int.toNat ((i : Int) + 2) = i + 2 by omega, show Int.toNat (((u.size + i : Nat) : Int) + 2) = u.data.toList.length + (i + 2) by omega, e3, show u.size + q.size - (u.data.toList.length + (i + 2)) = q.size - (i + 2) by omega]
/-- what is left of a text without a line's end stands for it -/
theorem rest_left {s : ByteArray} (t : ByteArray) (h : twoI s 0 < 0) : restF (crF s ++ t) = restF (s ++ t) ∧ (twoI (crF s ++ t) 0 < 0 ↔ twoI (s ++ t) 0 < 0) := by
  have hno : ∀ i, i + 1 < s.size → ¬ two (s ++ t) i := fun i hi q => by
    rcases twoI_cases s 0 with ⟨_, h0⟩ | ⟨k, hk, _⟩
    · exact h0 i (Nat.zero_le _) ((two_app hi).1 q)
    · omega
  cases he : endsB s 13 with
  | false =>
    rw [cr_no he]
    rw [show (⟨#[]⟩ : ByteArray) ++ t = t from ByteArray.empty_append]
    refine rest_tail (fun i hi q => ?_) (.inr he)
    by_cases h1 : i + 1 < s.size
    · exact hno i h1 q
    · have : endsB s 13 = true := by
        unfold endsB
        rw [decide_eq_true_iff]
        have q2 := q.2.1
        rw [byteAt_app hi] at q2
        exact ⟨by omega, by rw [show s.size - 1 = i by omega]; exact q2⟩
      rw [he] at this
      cases this
  | true =>
    rw [cr_yes he]
    have hb := of_decide_eq_true he
    have e : s = ByteArray.extract s 0 (s.size - 1) ++ (⟨#[13]⟩ : ByteArray) := by
      apply ByteArray.ext
      apply Array.ext'
      have e1 : s.data.toList.length = s.size := Array.length_toList
      rw [ByteArray.data_append, ByteArray.data_extract, Array.toList_append, Array.toList_extract, List.extract_eq_take_drop, List.drop_zero, Nat.sub_zero]
      have h3 := (byteAt_iff (c := (13 : UInt8)) (n := s.size - 1) (by omega)).1 hb.2
      have h4 := List.take_add_one (l := s.data.toList) (i := s.size - 1)
      rw [h3, show s.size - 1 + 1 = s.size from by omega, List.take_of_length_le (by omega)] at h4
      exact h4
    have hz : (ByteArray.extract s 0 (s.size - 1)).size = s.size - 1 := size_pre (by omega)
    have ht : s ++ t = ByteArray.extract s 0 (s.size - 1) ++ ((⟨#[13]⟩ : ByteArray) ++ t) := by
      conv => lhs; rw [e]
      exact ByteArray.append_assoc
    rw [ht]
    refine rest_tail (fun i hi q => ?_) (.inl (by rw [size_app]; exact Nat.le_add_right 1 _))
    rw [← ht] at q
    exact hno i (by omega) q
end Go.Proofs.YtbpapaponnfagaaGreatDoor
