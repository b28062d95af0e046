/-
  A line that was found is found again when only it and its end are left.
  Plain: no program. No condition.
-/
import Derived.Test.YtbpapaponnfagaaGreatDoorLNumLaw
set_option linter.unusedSimpArgs false
set_option linter.unusedVariables false
namespace Go.Proofs.YtbpapaponnfagaaGreatDoor
open Go.ChangeShapes Go.WideShapes Go.ChangeAt Go.RowKit Go.Joins Go.Deep
theorem byteAt_pre {s : ByteArray} {m i : Nat} (hm : m ≤ s.size) (hi : i < m) : byteAt (ByteArray.extract s 0 m) i = byteAt s i := by
  unfold byteAt
  rw [ByteArray.data_extract, Array.toList_extract, List.extract_eq_take_drop, List.drop_zero, Nat.sub_zero, List.getD_eq_getElem?_getD, List.getD_eq_getElem?_getD, List.getElem?_take, if_pos hi]
theorem size_pre {s : ByteArray} {m : Nat} (hm : m ≤ s.size) : (ByteArray.extract s 0 m).size = m := by
  rw [ByteArray.size_extract]
  omega
theorem two_pre {s : ByteArray} {m i : Nat} (hm : m ≤ s.size) (hi : i + 1 < m) : two (ByteArray.extract s 0 m) i ↔ two s i := by
  unfold two
  rw [size_pre hm, byteAt_pre hm (by omega), byteAt_pre hm hi]
  exact ⟨fun h => ⟨by omega, h.2⟩, fun h => ⟨hi, h.2⟩⟩
theorem ext_pre {s : ByteArray} {m a b : Nat} (hb : b ≤ m) : ByteArray.extract (ByteArray.extract s 0 m) a b = ByteArray.extract s a b := by
  apply ByteArray.ext
  rw [ByteArray.data_extract, ByteArray.data_extract, ByteArray.data_extract, Array.extract_extract]
  rw [Nat.zero_add, Nat.zero_add, Nat.min_eq_left hb]
theorem lineF_after (s : ByteArray) : ∀ a, lineF s a = -1 ∨ (a : Int) ≤ lineF s a := by
  intro a
  induction hn : s.size - a using Nat.strongRecOn generalizing a with
  | _ n ih =>
    have ht := twoI_ge s a
    by_cases h : twoI s a < 0
    · exact .inl (lineF_none h)
    · by_cases h1 : litV (ByteArray.extract s a (twoI s a).toNat) < 0
      · rw [lineF_here h h1]
        exact .inr (by omega)
      · by_cases h2 : ((s.size : Nat) : Int) < twoI s a + 2 + litV (ByteArray.extract s a (twoI s a).toNat)
        · exact .inl (lineF_out h h1 h2)
        · rw [lineF_next h h1 h2]
          rcases ih _ (by omega) (twoI s a + 2 + litV (ByteArray.extract s a (twoI s a).toNat)).toNat rfl with h3 | h3
          · exact .inl h3
          · exact .inr (by omega)
theorem lineF_pre {s : ByteArray} {m n : Nat} (hm : m ≤ s.size) (hn : n + 2 ≤ m) : ∀ a, lineF s a = (n : Int) → lineF (ByteArray.extract s 0 m) a = (n : Int) := by
  intro a
  induction hk : s.size - a using Nat.strongRecOn generalizing a with
  | _ k ih =>
    intro hl
    rcases twoI_cases s a with ⟨h0, _⟩ | ⟨i, hi, hai, h2i, hno⟩
    · rw [lineF_none (by omega)] at hl
      omega
    have hneg : ¬ twoI s a < 0 := by omega
    have hto : (twoI s a).toNat = i := by omega
    have key : i + 2 ≤ m → twoI (ByteArray.extract s 0 m) a = (i : Int) := fun him =>
      twoI_at hai ((two_pre hm (by omega)).2 h2i) (fun j hj1 hj2 q => hno j hj1 hj2 ((two_pre hm (by omega)).1 q))
    by_cases h1 : litV (ByteArray.extract s a (twoI s a).toNat) < 0
    · rw [lineF_here hneg h1] at hl
      have e := key (by omega)
      rw [lineF_here (by omega) (by rw [e, show ((i : Int)).toNat = i by omega, ext_pre (by omega), ← hto]; exact h1), e]
      omega
    · by_cases h3 : ((s.size : Nat) : Int) < twoI s a + 2 + litV (ByteArray.extract s a (twoI s a).toNat)
      · rw [lineF_out hneg h1 h3] at hl
        omega
      · have hl' := hl
        rw [lineF_next hneg h1 h3] at hl'
        have hg := lineF_after s (twoI s a + 2 + litV (ByteArray.extract s a (twoI s a).toNat)).toNat
        have e := key (by omega)
        have ev : litV (ByteArray.extract (ByteArray.extract s 0 m) a ((twoI (ByteArray.extract s 0 m) a).toNat)) = litV (ByteArray.extract s a (twoI s a).toNat) := by
          rw [e, show ((i : Int)).toNat = i by omega, ext_pre (by omega), ← hto]
        have r := ih _ (by omega) _ rfl hl'
        rw [lineF_next (by omega) (by rw [ev]; exact h1) (by rw [ev, e, size_pre hm]; omega), ev, e]
        rw [hi, show ((i : Int)).toNat = i by omega] at r
        rw [hto]
        exact r
/-- the line and its end -/
theorem line_back {s : ByteArray} {n : Nat} (h : lineF s 0 = (n : Int)) : lineF (ByteArray.extract s 0 n ++ (⟨#[13, 10]⟩ : ByteArray)) 0 = (n : Int) := by
  have key : ∀ a, lineF s a = (n : Int) → two s n := by
    intro a
    induction hk : s.size - a using Nat.strongRecOn generalizing a with
    | _ k ih =>
      intro hl
      rcases twoI_cases s a with ⟨h0, _⟩ | ⟨i, hi, hai, h2i, hno⟩
      · rw [lineF_none (by omega)] at hl
        omega
      by_cases h1 : litV (ByteArray.extract s a (twoI s a).toNat) < 0
      · rw [lineF_here (by omega) h1] at hl
        obtain rfl : i = n := by omega
        exact h2i
      · by_cases h3 : ((s.size : Nat) : Int) < twoI s a + 2 + litV (ByteArray.extract s a (twoI s a).toNat)
        · rw [lineF_out (by omega) h1 h3] at hl
          omega
        · rw [lineF_next (by omega) h1 h3] at hl
          have := twoI_ge s a
          exact ih _ (by omega) _ rfl hl
  obtain ⟨h1, h2, h3⟩ := key 0 h
  have e : ByteArray.extract s 0 n ++ (⟨#[13, 10]⟩ : ByteArray) = ByteArray.extract s 0 (n + 2) := by
    apply ByteArray.ext
    rw [ByteArray.data_append, ByteArray.data_extract, ByteArray.data_extract]
    apply Array.ext'
    rw [Array.toList_append, Array.toList_extract, Array.toList_extract, List.extract_eq_take_drop, List.extract_eq_take_drop, List.drop_zero, Nat.sub_zero, Nat.sub_zero]
    have hlen : s.data.toList.length = s.size := Array.length_toList
    have g : ∀ (i : Nat) (x : UInt8), i < s.size → byteAt s i = ((x.toNat : Nat) : Int) → s.data.toList[i]? = some x := by
      intro i x hi hx
      unfold byteAt at hx
      rw [List.getD_eq_getElem?_getD, List.getElem?_eq_getElem (by omega)] at hx
      rw [List.getElem?_eq_getElem (by omega)]
      simp only [Option.getD_some] at hx
      congr 1
      exact UInt8.toNat_inj.1 (by omega)
    have g1 := g n 13 (by omega) (by rw [h2]; rfl)
    have g2 := g (n + 1) 10 (by omega) (by rw [h3]; rfl)
    rw [show n + 2 = n + 1 + 1 from rfl, List.take_add_one, List.take_add_one, g1, g2]
    simp
  rw [e]
  exact lineF_pre (by omega) (Nat.le_refl _) 0 h
end Go.Proofs.YtbpapaponnfagaaGreatDoor
