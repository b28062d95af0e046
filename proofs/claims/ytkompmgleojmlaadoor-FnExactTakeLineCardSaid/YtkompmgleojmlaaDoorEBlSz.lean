/-
  The laws' functions szX.
  No condition but what the arguments' cells hold. Printed by vcgen.py.
-/
import Derived.Test.YtkompmgleojmlaaDoorELawA
set_option linter.unusedSimpArgs false
set_option linter.unusedVariables false
set_option maxRecDepth 100000
set_option maxHeartbeats 4000000
namespace Go.Proofs.YtkompmgleojmlaaDoor
open Go.ChangeShapes Go.WideShapes Go.ChangeAt Go.RowKit Go.Joins Go.Deep
open GoRep (rep bulk)

theorem b_l_szIn (a : GIn) (left : Int) (hpre : szP left) : BCalls Tryd.prog 7 [.ag [.str a.1, .bool a.2], .c (.int .i64 left)] (.c (.int .i64 (szT left (bulk a)))) [] := by
  refine bc0 [] [] [] [] L0 Tryd.func7 (fun hwf => ?_)
  refine Eq.mpr (β := (True ∧ (True ∧ (True ∧ (True ∧ (True ∧ (True ∧ (True ∧ (True ∧ (True ∧ (True ∧ (bif (ltI (IntKind.wrap .i64 (left - ((ByteArray.size a.1 : Nat) : Int))) 0) then (True ∧ (rI (-1) (szT left (bulk a)))) else (True ∧ (True ∧ (rI (IntKind.wrap .i64 (left - ((ByteArray.size a.1 : Nat) : Int))) (szT left (bulk a))))))))))))))))) (by kernel_rfl) ?_
  obtain ⟨hp0, hp1⟩ := hpre
  have H0 := szT_cases left (bulk a)
  have hb : bulk a = ByteArray.size a.1 := by
    have e : bulk a = ByteArray.size a.1 + (0) := rfl
    omega
  have m0 : ByteArray.size a.1 ≤ maxLen := hwf.1.1
  have w0 := wrapD (left - ((ByteArray.size a.1 : Nat) : Int))
  try unfold maxLen at *
  simp only [SIA, eq_self]
  repeat' (first | apply And.intro | intro _)
  all_goals (first | trivial | omega)
def e_l_szIn : Entry Tryd.prog := ⟨7, [.s tyIn, .v tyInt], fun x => szP x.2.1, fun x => .c (.int .i64 (szT x.2.1 (bulk x.1))), fun _ => [], fun x hx => b_l_szIn x.1 x.2.1 hx, Tryd.call7⟩
end Go.Proofs.YtkompmgleojmlaaDoor
