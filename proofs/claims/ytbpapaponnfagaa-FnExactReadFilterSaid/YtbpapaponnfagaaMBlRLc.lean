/-
  How much is marked of what ReadFilter reads. Plain.
-/
import Derived.Test.YtbpapaponnfagaaMBlRL
import Derived.Test.YtbpapaponnfagaaMBlMk
set_option linter.unusedSimpArgs false
set_option linter.unusedVariables false
set_option maxRecDepth 100000
namespace Go.Proofs.Ytbpapaponnfagaa
open Go.ChangeShapes Go.WideShapes Go.ChangeAt Go.RowKit Go.Joins Go.Deep
open GoRep (rep bulk)
open GoMark (mrk cnt mrkI cntI)

theorem cntStrs : ∀ l : List ByteArray, cntL l = l.length
  | [] => rfl
  | x :: xs => by
    have ih := cntStrs xs
    show 1 + cntL xs = xs.length + 1
    omega
theorem scope_n {z : GScope} (h : scopeOk z = true) : z.2.1.length ≤ 3 := by
  unfold scopeOk at h
  simp only [Bool.and_eq_true, btw_iff] at h
  have h2 := h.2.2
  split at h2
  · have := eqI_true.1 h2
    omega
  · rw [Bool.and_eq_true, btw_iff] at h2
    omega
theorem cntScs : ∀ l : List GScope, (∀ z ∈ l, scopeOk z = true) → cntL l ≤ 5 * l.length
  | [], _ => Nat.le_refl _
  | z :: zs, h => by
    have ih := cntScs zs (fun y hy => h y (List.mem_cons_of_mem _ hy))
    have h1 := scope_n (h z (List.mem_cons_self ..))
    have h2 := cntStrs z.2.1
    show (1 + (cntL z.2.1 + 1)) + cntL zs ≤ 5 * (zs.length + 1)
    omega
theorem rd_cnt (l : List GToken) : cntI (rdI l) ≤ 15 := by
  show 0 + cntL (rdI l).2 ≤ 15
  unfold rdI
  split
  · rename_i h
    unfold rdB at h
    rw [Bool.and_eq_true] at h
    have hf : filterOk (rdF l) = true := by
      cases hf : filterOk (rdF l) with
      | true => rfl
      | false =>
        have e : filTok (rdF l) = [] := if_pos hf
        rw [e] at h
        cases h.1
    cases ho : rdOn l with
    | true =>
      have e : rdF l = (true, scsI (dropT 1 l)) := by
        unfold rdF
        rw [ho, if_pos rfl]
      rw [e] at hf ⊢
      have h1 := cntScs _ (ok_all hf)
      have h2 := (filter_at hf rfl).1
      have h2 : (scsI (dropT 1 l)).length ≤ 3 := h2
      show 0 + cntL (scsI (dropT 1 l)) ≤ 15
      omega
    | false =>
      have e : rdF l = (false, []) := by
        unfold rdF
        rw [ho, if_neg (by decide)]
      rw [e]
      exact Nat.zero_le _
  · exact Nat.zero_le _
end Go.Proofs.Ytbpapaponnfagaa
