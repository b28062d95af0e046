/-
  The walk of the law FnExactReadFilter.
  No condition but what the arguments' cells hold. Printed by vcgen.py.
-/
import Derived.Test.YtbpapaponnfagaaMBlSz
import Derived.Test.YtbpapaponnfagaaMBlTo
import Derived.Test.YtbpapaponnfagaaMBlMk
import Derived.Test.YtbpapaponnfagaaMBlHd
import Derived.Test.YtbpapaponnfagaaMEqB
import Derived.Test.YtbpapaponnfagaaMBlRLc
set_option linter.unusedSimpArgs false
set_option linter.unusedVariables false
set_option maxRecDepth 100000
set_option maxHeartbeats 4000000
namespace Go.Proofs.Ytbpapaponnfagaa
open Go.ChangeShapes Go.WideShapes Go.ChangeAt Go.RowKit Go.Joins Go.Deep
open GoRep (rep bulk)

open GoMark (mrk cnt mrkI cntI)
theorem eqSelf_Filter (x : GFilter) : eqT_Filter x x = true := eqT_Filter_true.2 rfl
theorem eqSelf_LToken (x : List GToken) : eqT_LToken x x = true := eqT_LToken_true.2 rfl
theorem b_l_FnExactReadFilter (x0 : List GToken) : BCalls Try.prog 3 [.c (.hs .no tyToken x0)] (.c (.bool true)) [] := by
  refine bc0 [e_l_szTokenS, e_l_toTokenS, e_s_ReadFilter, e_i_ReadFilter, e_l_eqFilter, e_l_eqTokenS, e_l_heldFilter] [] [] [e_l_markTokenS, e_l_markFilter] L0 Try.func3 (fun hwf => ?_)
  refine Eq.mpr (β := (T4 ((szP 1048576 ∧ true = true) ∧ (T3 (bif (ltI (szT 1048576 (bulk x0)) 0) then (True ∧ (rB true true)) else (True ∧ ((toP_l_toTokenS x0 ∧ true = true) ∧ ((List.length x0 ≤ 1048576 ∧ true = true ∧ true = true) ∧ (T7 ((toP_l_toTokenS x0 ∧ true = true) ∧ (T2 ((List.length x0 ≤ 1048576 ∧ true = true ∧ true = true) ∧ (T8 ((True ∧ true = true ∧ true = true) ∧ (T2 (bif (!(eqT_Filter (rdI x0) (rdS x0))) then (T2 (rB false true)) else (T2 (some TypeDesc.bool = some TypeDesc.bool ∧ (True ∧ (bif (!eqO (rdB x0) (ok6B x0)) then (True ∧ (rB false true)) else (T2 ((toP_l_toTokenS x0 ∧ true = true) ∧ ((True ∧ true = true ∧ true = true) ∧ (True ∧ (bif (!(eqT_LToken x0 x0)) then (True ∧ (rB false true)) else (T3 (((mkP_l_markTokenS x0 1 ∧ ((x0 = x0) ∧ True)) ∧ true = true) ∧ ∀ r0 : List GToken, r0 = mkF_l_markTokenS x0 1 → (T4 (bif (ltI (mkR_l_markTokenS x0 1) 0) then (T4 (rB false true)) else (T2 ((True ∧ true = true ∧ true = true) ∧ (T3 (bif (!(eqT_Filter (rdI x0) (rdS x0))) then (T2 (rB false true)) else (T2 (some TypeDesc.bool = some TypeDesc.bool ∧ (True ∧ (bif (!eqO (rdB x0) (ok6B x0)) then (True ∧ (rB false true)) else (T3 (((mkP_l_markFilter (rdI x0) 1 ∧ ((((true = true ∧ leC (.bool (rdI x0).1) (.bool (rdI x0).1)) ∧ ((rdI x0).2 = (rdI x0).2) ∧ True)) ∧ True)) ∧ true = true) ∧ ∀ r1 : List GScope, r1 = (mkF_l_markFilter (rdI x0) 1).2 → (T4 ((hdP_l_heldFilter ((rdI x0).1, r1) 1 ∧ true = true ∧ true = true) ∧ (T3 (bif (ltI (hdR_l_heldFilter ((rdI x0).1, r1) 1) 0) then (True ∧ (rB false true)) else (T3 (bif (neI (hdR_l_heldFilter ((rdI x0).1, r1) 1) (mkR_l_markFilter (rdI x0) 1)) then (True ∧ (rB false true)) else (True ∧ ((toP_l_toTokenS x0 ∧ true = true) ∧ ((List.length x0 ≤ 1048576 ∧ true = true ∧ true = true) ∧ (T8 ((True ∧ true = true ∧ true = true) ∧ (T2 (bif (!(eqT_Filter (rdI x0) (rdS x0))) then (T2 (rB false true)) else (T2 (some TypeDesc.bool = some TypeDesc.bool ∧ (True ∧ (bif (!eqO (rdB x0) (ok6B x0)) then (True ∧ (rB false true)) else (T3 ((hdP_l_heldFilter ((rdI x0).1, r1) 1 ∧ true = true ∧ true = true) ∧ (T3 (bif (ltI (hdR_l_heldFilter ((rdI x0).1, r1) 1) 0) then (True ∧ (rB false true)) else (T3 (bif (neI (hdR_l_heldFilter ((rdI x0).1, r1) 1) (mkR_l_markFilter (rdI x0) 1)) then (True ∧ (rB false true)) else (True ∧ (rB true true)))))))))))))))))))))))))))))))))))))))))))))))))))))))))))))))) (by kernel_rfl) ?_
  unfold T2 T3 T4 T7 T8
  have hz_x0 := szT_cases 1048576 (bulk x0)
  have hb_x0 : cntL x0 ≤ (2) * (1 + bulk x0) := MkBd.h2 x0
  have e1 : bulk x0 = List.length x0 + bulkL x0 := rfl
  have hN0 : cntI (rdI x0) ≤ 15 := rd_cnt x0
  rcases Nat.lt_or_ge 1048576 (List.length x0) with hl1 | hl0
  · have hs : ltI (szT 1048576 (bulk x0)) 0 = true := ltI_true.2 (by omega)
    simp only [hs, cond_true, SIA]
    repeat' (with_reducible first | exact trivial | apply And.intro | intro _)
    all_goals first | (with_reducible trivial) | omega | rfl
  obtain ⟨hr1, hr2⟩ := rd_same (l := x0) hl0
  rw [← hr1, ← hr2]
  simp only [forall_eq, eqSelf_Filter, eqSelf_LToken, mkR_l_markFilter, mkF_l_markFilter, mkR_l_markTokenS, mkF_l_markTokenS, hdR_l_heldFilter, not_true, not_false, false_implies, true_implies, Bool.not_true, Bool.not_false, SIA, eq_self]
  generalize hc0 : rdI x0 = c0 at hN0 ⊢
  have hm0 : cntI (mrkI c0 1) = cntI c0 := MkOk.c2 c0 1
  have hT0 : ((c0.1, (mrkI c0 1).2)) = mrkI c0 1 := rfl
  simp only [hT0, hm0]
  have hI0 : mrkI (mrkI c0 1) 1 = mrkI c0 1 := MkOk.i2 c0 1
  repeat' (with_reducible first | exact trivial | apply And.intro | intro _)
  all_goals first
    | (with_reducible trivial)
    | omega
    | (with_reducible exact hI0)
    | (with_reducible (rw [hm0]; omega))
    | contradiction
    | (with_reducible (show bulk x0 ≤ 1048576); omega)
def e_l_FnExactReadFilter : Entry Try.prog := ⟨3, [.v (.list tyToken)], fun x => True, fun x => .c (.bool true), fun _ => [], fun x hx => b_l_FnExactReadFilter x.1, Try.call3⟩
theorem walk_FnExactReadFilter (w : World) (hgl : Glob w []) (x0 : List GToken) (vx0 : Value) (hx0 : Held w x0 [vx0]) : Calls Try.prog 3 #[vx0] w (RV (.bool (true)) w) :=
  RV.of_b (b_l_FnExactReadFilter x0) hgl (⟨_, _, rfl, repW_held1 tyToken hx0, rfl⟩) (fun _ _ _ h => h)
end Go.Proofs.Ytbpapaponnfagaa
