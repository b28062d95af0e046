/-
  Contracts of the laws' functions eqX.
  No condition but what the arguments' cells hold. Printed by vcgen.py.
-/
import Derived.Test.YtkompmgleojmlaaDoorEBmTy
set_option linter.unusedSimpArgs false
set_option linter.unusedVariables false
set_option maxRecDepth 100000
set_option maxHeartbeats 4000000
namespace Go.Proofs.YtkompmgleojmlaaDoor
open Go.ChangeShapes Go.WideShapes Go.ChangeAt Go.RowKit Go.Joins Go.Deep
open GoRep (rep bulk)

theorem b_l_eqIn (a : GIn) (b : GIn) : BCalls Tryd.prog 11 [.ag [.str a.1, .bool a.2], .ag [.str b.1, .bool b.2]] (.c (.bool (eqT_In a b))) [] := by
  refine bc0 [] [] [] [] L0 Tryd.func11 (fun hwf => ?_)
  refine Eq.mpr (β := (True ∧ (True ∧ (True ∧ (True ∧ (True ∧ (True ∧ (True ∧ (True ∧ (bif (!eqS a.1 b.1) then (True ∧ (rB false (eqT_In a b))) else (True ∧ (True ∧ (True ∧ (True ∧ (some TypeDesc.bool = some TypeDesc.bool ∧ (bif (!eqO a.2 b.2) then (True ∧ (rB false (eqT_In a b))) else (True ∧ (rB true (eqT_In a b))))))))))))))))))) (by kernel_rfl) ?_
  simp only [SIA, eq_self]
  repeat' (first | apply And.intro | intro _)
  all_goals (first
    | trivial
    | omega
    | exact (eqT_In_false.2 (fun e => by subst e; simp_all [EQA])).symm
    | (rw [Bool.eq_iff_iff]; simp_all [Prod.ext_iff, EQA]; done)
    | (simp_all [Prod.ext_iff, EQA]; done))
def e_l_eqIn : Entry Tryd.prog := ⟨11, [.s tyIn, .s tyIn], fun x => True, fun x => .c (.bool (eqT_In x.1 x.2.1)), fun _ => [], fun x hx => b_l_eqIn x.1 x.2.1, Tryd.call11⟩
end Go.Proofs.YtkompmgleojmlaaDoor
