/-
  A buffer that is emptied line by line, whole or in parts.
  Plain: no program. No condition.
-/
import Derived.Test.YtbpapaponnfagaaGreatDoorLLineCut
set_option linter.unusedSimpArgs false
set_option linter.unusedVariables false
namespace Go.Proofs.YtbpapaponnfagaaGreatDoor
open Go.ChangeShapes Go.WideShapes Go.ChangeAt Go.RowKit Go.Joins Go.Deep
theorem rest_cr (s : ByteArray) : restF (crF s) = crF s ∧ twoI (crF s) 0 < 0 := by
  cases h : endsB s 13 with
  | true => rw [cr_yes h]; decide +kernel
  | false => rw [cr_no h]; decide +kernel
theorem rest_app {s : ByteArray} (t : ByteArray) (h : ¬ twoI s 0 < 0) : restF (s ++ t) = restF s ++ t ∧ ¬ twoI (s ++ t) 0 < 0 := by
  rcases twoI_cases s 0 with ⟨h0, _⟩ | ⟨i, hi, _, h2, _⟩
  · omega
  · have e := twoI_app t hi
    have := h2.1
    rw [rest_some (by omega), rest_some (by omega), e, hi]
    exact ⟨ext_app2 (by omega), by omega⟩
theorem takeO_app {t : ByteArray} (s : ByteArray) (hz : t.size + s.size ≤ 600) (hk : (takeO t).2.2 ≠ 0) :
    ∃ j, takeO (t ++ s) = (j, (takeO t).2.1, (takeO t).2.2) ∧ takeF j = takeF ((takeO t).1.1 ++ s, (takeO t).1.2) := by
  by_cases a : 0 ≤ lineF t 0 ∧ lineF t 0 ≤ 200
  · obtain ⟨n, hn⟩ : ∃ n : Nat, lineF t 0 = (n : Int) := ⟨(lineF t 0).toNat, by omega⟩
    have hg := lineF_ge t 0 (Nat.zero_le _)
    have e := lineF_app s 0 hn
    rw [to_line a, to_line (t := t ++ s) (by omega), e, hn, ext_app2 (s := t) (t := s) (a := Int.toNat ((n : Int) + 2)) (by omega), ext_app (s := t) (t := s) (a := 0) (b := Int.toNat (n : Int)) (by omega)]
    exact ⟨_, rfl, rfl⟩
  · by_cases b : 200 < lineF t 0 ∨ 201 < t.size
    · have c : ¬ (0 ≤ lineF (t ++ s) 0 ∧ lineF (t ++ s) 0 ≤ 200) ∧ (200 < lineF (t ++ s) 0 ∨ 201 < (t ++ s).size) := by
        rw [size_app]
        rcases lineF_two t 0 with h | ⟨_, n, hn, _⟩
        · have := lineF_app_none s 0 h
          omega
        · rw [lineF_app s 0 hn]
          omega
      rw [to_long a b, to_long c.1 c.2]
      by_cases d : twoI t 0 < 0
      · refine ⟨_, rfl, ?_⟩
        rw [decide_eq_true d, rest_none d]
        obtain ⟨e1, e2⟩ := rest_left s d
        have hcs : (crF t).size ≤ t.size := by rw [← rest_none d]; exact rest_size
        have h8 : (crF t ++ s).size ≤ 600 := by rw [size_app]; omega
        have hr : (restF (t ++ s)).size ≤ 600 := Nat.le_trans rest_size (by rw [size_app]; exact hz)
        by_cases f : twoI (t ++ s) 0 < 0
        · obtain ⟨g1, g2⟩ := rest_cr (t ++ s)
          rw [decide_eq_true f, tk_skip (i := (crF t ++ s, true)) h8 rfl (e2.2 f), tk_skip (i := (restF (t ++ s), true)) hr rfl (by show twoI (restF (t ++ s)) 0 < 0; rw [rest_none f]; exact g2)]
          show ((restF (restF (t ++ s)), true), _, _) = ((restF (crF t ++ s), true), _, _)
          rw [e1, rest_none f, g1]
        · rw [decide_eq_false f, tk_go (i := (crF t ++ s, true)) h8 rfl (fun q => f (e2.1 q)), tk_no (i := (restF (t ++ s), false)) hr rfl]
          show takeO (restF (t ++ s)) = takeO (restF (crF t ++ s))
          rw [e1]
      · obtain ⟨e1, e2⟩ := rest_app s d
        rw [decide_eq_false d, decide_eq_false e2, e1]
        exact ⟨_, rfl, rfl⟩
    · rw [to_wait a b] at hk
      exact absurd rfl hk
theorem takeF_size (i : GIn) : (takeF i).1.1.size ≤ i.1.size := (takeF_facts i).2.2.1
/-- a step that takes something out, with more bytes behind -/
theorem step_app (i : GIn) (s : ByteArray) (hz : i.1.size + s.size ≤ 600) (hk : (takeF i).2.2 ≠ 0) :
    ∃ j, takeF (i.1 ++ s, i.2) = (j, (takeF i).2.1, (takeF i).2.2) ∧ takeF j = takeF ((takeF i).1.1 ++ s, (takeF i).1.2) := by
  have h6 : i.1.size ≤ 600 := by omega
  have h7 : (i.1 ++ s).size ≤ 600 := by rw [size_app]; exact hz
  cases h2 : i.2 with
  | false =>
    rw [tk_no h6 h2] at hk ⊢
    rw [tk_no (i := (i.1 ++ s, false)) h7 rfl]
    exact takeO_app s hz hk
  | true =>
    by_cases h3 : twoI i.1 0 < 0
    · rw [tk_skip h6 h2 h3] at hk
      exact absurd rfl hk
    · obtain ⟨e1, e2⟩ := rest_app s h3
      rw [tk_go h6 h2 h3] at hk ⊢
      rw [tk_go (i := (i.1 ++ s, true)) h7 rfl e2]
      show ∃ j, takeO (restF (i.1 ++ s)) = _ ∧ _
      rw [e1]
      have := rest_size (s := i.1)
      exact takeO_app s (by omega) hk
theorem wait_app (i : GIn) (s : ByteArray) (hz : i.1.size + s.size ≤ 600) (hk : (takeF i).2.2 = 0) : takeF ((takeF i).1.1 ++ s, (takeF i).1.2) = takeF (i.1 ++ s, i.2) := by
  have h6 : i.1.size ≤ 600 := by omega
  have h7 : (i.1 ++ s).size ≤ 600 := by rw [size_app]; exact hz
  have key : ∀ t : ByteArray, (takeO t).2.2 = 0 → (takeO t).1 = (t, false) := fun t ht => by
    by_cases a : 0 ≤ lineF t 0 ∧ lineF t 0 ≤ 200
    · rw [to_line a] at ht
      cases ht
    · by_cases b : 200 < lineF t 0 ∨ 201 < t.size
      · rw [to_long a b] at ht
        cases ht
      · rw [to_wait a b]
  cases h2 : i.2 with
  | false =>
    rw [tk_no h6 h2] at hk ⊢
    rw [key _ hk]
  | true =>
    by_cases h3 : twoI i.1 0 < 0
    · rw [tk_skip h6 h2 h3]
      obtain ⟨e1, e2⟩ := rest_left s h3
      show takeF (restF i.1 ++ s, true) = _
      rw [rest_none h3]
      have hcs : (crF i.1).size ≤ i.1.size := by rw [← rest_none h3]; exact rest_size
      have h8 : (crF i.1 ++ s).size ≤ 600 := by rw [size_app]; omega
      by_cases f : twoI (i.1 ++ s) 0 < 0
      · rw [tk_skip (i := (crF i.1 ++ s, true)) h8 rfl (e2.2 f), tk_skip (i := (i.1 ++ s, true)) h7 rfl f]
        show ((restF (crF i.1 ++ s), true), _, _) = ((restF (i.1 ++ s), true), _, _)
        rw [e1]
      · rw [tk_go (i := (crF i.1 ++ s, true)) h8 rfl (fun q => f (e2.1 q)), tk_go (i := (i.1 ++ s, true)) h7 rfl f]
        show takeO (restF (crF i.1 ++ s)) = takeO (restF (i.1 ++ s))
        rw [e1]
    · obtain ⟨e1, e2⟩ := rest_app s h3
      rw [tk_go h6 h2 h3] at hk ⊢
      rw [key _ hk, tk_go (i := (i.1 ++ s, true)) h7 rfl e2]
      show takeF (restF i.1 ++ s, false) = takeO (restF (i.1 ++ s))
      have := rest_size (s := i.1)
      rw [e1, tk_no (i := (restF i.1 ++ s, false)) (by show (restF i.1 ++ s).size ≤ 600; rw [size_app]; omega) rfl]
/-- what is written of a line -/
def segT (r : GIn × ByteArray × Int) : ByteArray := (⟨#[60]⟩ : ByteArray) ++ (⟨(Lib.itoa r.2.2).toArray⟩ : ByteArray) ++ r.2.1 ++ (⟨#[62]⟩ : ByteArray)
/-- the buffer i is emptied: what is left, what is written -/
inductive Dr : GIn → ByteArray → GIn → ByteArray → Prop
  | stop {i : GIn} {a : ByteArray} : (takeF i).2.2 = 0 → Dr i a (takeF i).1 a
  | step {i : GIn} {a : ByteArray} {j : GIn} {o : ByteArray} : (takeF i).2.2 ≠ 0 → Dr (takeF i).1 (a ++ segT (takeF i)) j o → Dr i a j o
theorem Dr.congr {i i' : GIn} {a : ByteArray} {j : GIn} {o : ByteArray} (h : Dr i a j o) (e : takeF i = takeF i') : Dr i' a j o := by
  cases h with
  | stop hk => rw [e] at hk ⊢; exact .stop hk
  | step hk hd => rw [e] at hk hd; exact .step hk hd
theorem Dr.det {i : GIn} {a : ByteArray} {j k : GIn} {o p : ByteArray} (h : Dr i a j o) (h' : Dr i a k p) : j = k ∧ o = p := by
  induction h with
  | stop hk =>
    cases h' with
    | stop _ => exact ⟨rfl, rfl⟩
    | step hk' _ => exact absurd hk hk'
  | step hk hd ih =>
    cases h' with
    | stop hk' => exact absurd hk' hk
    | step _ hd' => exact ih hd'
theorem Dr.size {i : GIn} {a : ByteArray} {j : GIn} {o : ByteArray} (h : Dr i a j o) : j.1.size ≤ i.1.size := by
  induction h with
  | stop _ => exact takeF_size _
  | step _ _ ih => exact Nat.le_trans ih (takeF_size _)
/-- more bytes behind what was emptied -/
theorem Dr.app {i : GIn} {a : ByteArray} {j : GIn} {o : ByteArray} (h : Dr i a j o) (s : ByteArray) (hz : i.1.size + s.size ≤ 600) {k : GIn} {p : ByteArray} (h' : Dr (j.1 ++ s, j.2) o k p) : Dr (i.1 ++ s, i.2) a k p := by
  induction h with
  | stop hk => exact h'.congr (wait_app _ s hz hk)
  | step hk hd ih =>
    rename_i i a j o
    have hs := takeF_size i
    have d := ih (by omega) h'
    obtain ⟨j', e1, e2⟩ := step_app i s hz hk
    refine .step (by rw [e1]; exact hk) ?_
    rw [e1]
    exact d.congr e2.symm
/-- how many line's ends a text may hold -/
def crN (s : ByteArray) : Nat := s.data.toList.count 13
theorem crN_app (s t : ByteArray) : crN (s ++ t) = crN s + crN t := by
  unfold crN
  rw [ByteArray.data_append, Array.toList_append, List.count_append]
theorem ext_drop (s : ByteArray) (a : Nat) : (ByteArray.extract s a s.size).data.toList = s.data.toList.drop a := by
  have e1 : s.data.toList.length = s.size := Array.length_toList
  rw [ByteArray.data_extract, Array.toList_extract, List.extract_eq_take_drop, List.take_of_length_le (by rw [List.length_drop]; omega)]
theorem crN_drop {s : ByteArray} {k m : Nat} (hk : k < s.size) (h : byteAt s k = 13) (hm : k < m) : crN (ByteArray.extract s m s.size) + 1 ≤ crN s := by
  have h1 := (byteAt_iff (c := (13 : UInt8)) (n := k) hk).1 h
  have e1 : s.data.toList.length = s.size := Array.length_toList
  unfold crN
  rw [ext_drop]
  have h2 := List.take_append_drop m s.data.toList
  have h3 : 0 < (s.data.toList.take m).count 13 := by
    rw [List.count_pos_iff]
    exact List.mem_of_getElem? (i := k) (by rw [List.getElem?_take, if_pos hm]; exact h1)
  have h4 : (s.data.toList.take m).count 13 + (s.data.toList.drop m).count 13 = s.data.toList.count 13 := by
    rw [← List.count_append, h2]
  omega
def potN (i : GIn) : Nat := crN i.1 + (if i.2 = true then 0 else 1)
theorem crN_cr {s : ByteArray} : crN (crF s) ≤ crN s := by
  cases h : endsB s 13 with
  | false => rw [cr_no h]; exact Nat.zero_le _
  | true =>
    have hb := of_decide_eq_true h
    have := crN_drop (s := s) (k := s.size - 1) (m := s.size) (by omega) hb.2 (by omega)
    rw [cr_yes h]
    show 1 ≤ crN s
    omega
theorem crN_rest {s : ByteArray} (h : ¬ twoI s 0 < 0) : crN (restF s) + 1 ≤ crN s := by
  rcases twoI_cases s 0 with ⟨h0, _⟩ | ⟨i, hi, _, h2, _⟩
  · omega
  · rw [rest_some h, hi]
    have := h2.1
    exact crN_drop (by omega) h2.2.1 (by omega)
theorem potO {t : ByteArray} (hk : (takeO t).2.2 ≠ 0) : potN (takeO t).1 + 1 ≤ crN t + 1 := by
  by_cases a : 0 ≤ lineF t 0 ∧ lineF t 0 ≤ 200
  · rw [to_line a]
    rcases lineF_two t 0 with h | ⟨_, n, hn, h2⟩
    · omega
    · have := h2.1
      have h3 := crN_drop (s := t) (k := n) (m := (lineF t 0 + 2).toNat) (by omega) h2.2.1 (by omega)
      show crN (ByteArray.extract t (lineF t 0 + 2).toNat t.size) + 1 + 1 ≤ crN t + 1
      omega
  · by_cases b : 200 < lineF t 0 ∨ 201 < t.size
    · rw [to_long a b]
      by_cases d : twoI t 0 < 0
      · rw [decide_eq_true d, rest_none d]
        have := crN_cr (s := t)
        show crN (crF t) + 0 + 1 ≤ _
        omega
      · rw [decide_eq_false d]
        have := crN_rest d
        show crN (restF t) + 1 + 1 ≤ _
        omega
    · rw [to_wait a b] at hk
      exact absurd rfl hk
theorem pot_step {i : GIn} (hk : (takeF i).2.2 ≠ 0) : potN (takeF i).1 + 1 ≤ potN i := by
  by_cases h6 : i.1.size ≤ 600
  · cases h2 : i.2 with
    | false =>
      rw [tk_no h6 h2] at hk ⊢
      have := potO hk
      unfold potN at this ⊢
      rw [h2]
      exact this
    | true =>
      by_cases h3 : twoI i.1 0 < 0
      · rw [tk_skip h6 h2 h3] at hk
        exact absurd rfl hk
      · rw [tk_go h6 h2 h3] at hk ⊢
        have h4 := potO hk
        have h5 := crN_rest h3
        unfold potN at h4 ⊢
        rw [h2]
        show _ ≤ crN i.1 + 0
        omega
  · rw [tk_big h6] at hk
    exact absurd rfl hk
theorem pot_stop {i : GIn} (hk : (takeF i).2.2 = 0) : potN (takeF i).1 ≤ potN i := by
  by_cases h6 : i.1.size ≤ 600
  · have key : ∀ t : ByteArray, (takeO t).2.2 = 0 → (takeO t).1 = (t, false) := fun t ht => by
      by_cases a : 0 ≤ lineF t 0 ∧ lineF t 0 ≤ 200
      · rw [to_line a] at ht
        cases ht
      · by_cases b : 200 < lineF t 0 ∨ 201 < t.size
        · rw [to_long a b] at ht
          cases ht
        · rw [to_wait a b]
    cases h2 : i.2 with
    | false =>
      rw [tk_no h6 h2] at hk ⊢
      rw [key _ hk]
      unfold potN
      rw [h2]
      exact Nat.le_refl _
    | true =>
      by_cases h3 : twoI i.1 0 < 0
      · rw [tk_skip h6 h2 h3]
        have := crN_cr (s := i.1)
        unfold potN
        rw [h2]
        show crN (restF i.1) + 0 ≤ crN i.1 + 0
        rw [rest_none h3]
        omega
      · rw [tk_go h6 h2 h3] at hk ⊢
        rw [key _ hk]
        have h5 := crN_rest h3
        unfold potN
        rw [h2]
        show crN (restF i.1) + 1 ≤ crN i.1 + 0
        omega
  · rw [tk_big h6]
    exact Nat.le_refl _
theorem take_kind (i : GIn) : (takeF i).2.2 = 0 ∨ (takeF i).2.2 = 1 ∨ (takeF i).2.2 = 2 := by
  have key : ∀ t : ByteArray, (takeO t).2.2 = 0 ∨ (takeO t).2.2 = 1 ∨ (takeO t).2.2 = 2 := fun t => by
    by_cases a : 0 ≤ lineF t 0 ∧ lineF t 0 ≤ 200
    · rw [to_line a]; exact .inr (.inl rfl)
    · by_cases b : 200 < lineF t 0 ∨ 201 < t.size
      · rw [to_long a b]; exact .inr (.inr rfl)
      · rw [to_wait a b]; exact .inl rfl
  by_cases h6 : i.1.size ≤ 600
  · cases h2 : i.2 with
    | false => rw [tk_no h6 h2]; exact key _
    | true =>
      by_cases h3 : twoI i.1 0 < 0
      · rw [tk_skip h6 h2 h3]; exact .inl rfl
      · rw [tk_go h6 h2 h3]; exact key _
  · rw [tk_big h6]; exact .inl rfl
theorem seg_size (i : GIn) : (segT (takeF i)).size ≤ 203 := by
  have h1 := (takeF_facts i).1
  have h2 : (⟨(Lib.itoa (takeF i).2.2).toArray⟩ : ByteArray).size = 1 := by
    rcases take_kind i with h | h | h <;> rw [h] <;> decide +kernel
  unfold segT
  simp only [size_app, h2]
  show 1 + 1 + _ + 1 ≤ 203
  omega
theorem Dr.pot {i : GIn} {a : ByteArray} {j : GIn} {o : ByteArray} (h : Dr i a j o) : o.size + 300 * potN j ≤ a.size + 300 * potN i := by
  induction h with
  | stop hk => have := pot_stop hk; omega
  | step hk hd ih =>
    rename_i i a j o
    have h1 := pot_step hk
    have h2 := seg_size i
    rw [size_app] at ih
    omega
end Go.Proofs.YtbpapaponnfagaaGreatDoor
