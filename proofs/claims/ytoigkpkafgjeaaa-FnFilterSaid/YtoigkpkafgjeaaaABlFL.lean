/-
  A filter's tokens are read as the filter. Plain.
-/
import Derived.Test.YtoigkpkafgjeaaaABlRL
set_option linter.unusedSimpArgs false
set_option linter.unusedVariables false
set_option maxRecDepth 100000
namespace Go.Proofs.Ytoigkpkafgjeaaa
open Go.ChangeShapes Go.WideShapes Go.ChangeAt Go.RowKit Go.Joins Go.Deep
open GoRep (rep bulk)

theorem sc_nms {z : GScope} (h : scopeOk z = true) : z.2.1 = if decide (3 ≤ z.1) = true then z.2.1 else [] := by
  by_cases h3 : 3 ≤ z.1
  · rw [if_pos (decide_eq_true h3)]
  · rw [if_neg (by rw [decide_eq_true_eq]; exact h3)]
    unfold scopeOk at h
    simp only [Bool.and_eq_true] at h
    have h2 := h.2.2
    rw [if_pos (by omega)] at h2
    have h4 := eqI_true.1 h2
    exact List.length_eq_zero_iff.1 (by omega)
theorem bl_self : ∀ {zs : List GScope}, (∀ z ∈ zs, scopeOk z = true) → BlL zs (catK zs)
  | [], _ => rfl
  | z :: zs, h => by
    have hz := h z (List.mem_cons_self ..)
    exact ⟨catK zs, ⟨nth_String scW (Int.toNat z.1), z.2.1, (evJ z.2.2).map (nth_String evW), scTok_rb z (catK zs), hz, rfl, sc_nms hz, F2_3 evJ_lt (F3_refl _)⟩, bl_self (fun y hy => h y (List.mem_cons_of_mem _ hy))⟩
theorem foldB_refl (x : GToken) : foldB x x = true := by
  unfold foldB
  rw [eqI_true.2 rfl, eqS_true.2 rfl]
  rfl
theorem allB_refl : ∀ l : List GToken, allB foldB l l = true
  | [] => rfl
  | x :: l => all_y (foldB_refl x) (allB_refl l)
theorem rdF_tok {f : GFilter} (h : filterOk f = true) : rdF (filTok f) = f ∧ ¬ (filTok f).length = 0 := by
  obtain ⟨on, zs⟩ := f
  cases on with
  | true =>
    rw [filt_on h]
    have e : dropT 1 (atomK (⟨#[115, 101, 116]⟩ : ByteArray) :: catK zs) = catK zs := rfl
    unfold rdF
    rw [rdOn_at, up_set, eqS_true.2 rfl, if_pos rfl, e, bl_scs (bl_self (ok_all h))]
    exact ⟨rfl, by rw [List.length_cons]; omega⟩
  | false =>
    rw [filt_off h]
    unfold rdF
    rw [rdOn_at, up_none, eqS_false.2 (by decide), if_neg (by decide)]
    have hl : zs = [] := by
      unfold filterOk at h
      rw [if_neg Bool.false_ne_true] at h
      have h4 := eqI_true.1 h
      have h4 : ((zs.length : Nat) : Int) = 0 := h4
      exact List.length_eq_zero_iff.1 (by omega)
    rw [hl]
    exact ⟨rfl, by rw [List.length_cons]; omega⟩
theorem rdB_nil : rdB [] = false := by
  unfold rdB
  have ho : rdOn [] = false := by decide +kernel
  have hf : rdF [] = (false, []) := by
    unfold rdF
    rw [ho, if_neg Bool.false_ne_true]
  have h : filTok (false, []) = [atomK (⟨#[110, 111, 110, 101]⟩ : ByteArray)] := filt_off (by decide)
  rw [hf, h]
  rfl
/-- what is written of a filter is read again, and nothing else is -/
theorem rd_tok (f : GFilter) : rdB (filTok f) = filterOk f ∧ (filterOk f = true → rdI (filTok f) = f) := by
  cases h : filterOk f with
  | false =>
    have e : filTok f = [] := if_pos h
    rw [e]
    exact ⟨rdB_nil, fun h => by cases h⟩
  | true =>
    obtain ⟨h1, h2⟩ := rdF_tok h
    have hb : rdB (filTok f) = true := by
      unfold rdB
      rw [h1, Bool.and_eq_true]
      exact ⟨neI_true.2 (by omega), allB_refl _⟩
    exact ⟨hb, fun _ => (if_pos hb).trans h1⟩
/-- what is read is right -/
theorem rd_right {l : List GToken} (h : rdB l = true) : filterOk (rdI l) = true := by
  have e : rdI l = rdF l := if_pos h
  rw [e]
  unfold rdB at h
  rw [Bool.and_eq_true] at h
  cases hf : filterOk (rdF l) with
  | true => rfl
  | false =>
    have e : filTok (rdF l) = [] := if_pos hf
    rw [e] at h
    cases h.1
end Go.Proofs.Ytoigkpkafgjeaaa
