/-
  Draws of outputs that are drained.
  No condition but what the arguments' cells hold. Printed by vcgen.py.
-/
import Derived.Test.YtoigkpkafgjeaaaBBlL15h
set_option linter.unusedSimpArgs false
set_option linter.unusedVariables false
set_option maxRecDepth 100000
set_option maxHeartbeats 4000000
namespace Go.Proofs.Ytoigkpkafgjeaaa
open Go.ChangeShapes Go.WideShapes Go.ChangeAt Go.RowKit Go.Joins Go.Deep
open GoRep (rep bulk)

def drawDr (code : List Int) : GOut × Int := ((out17 (newC code)).1, (pickInt (out17 (newC code)).2 ([0, 1, 5, 30, 9999, (-1), 9223372036854775807, (-9223372036854775808)] : List Int)).1)
theorem b_s_DrawDrained (code : List Int) : BCalls Try.prog 6 [.c (.hs .no (.int .u8) code)] (.tp [.ag [.str (drawDr code).1.1, .str (drawDr code).1.2], .c (.int .i64 (drawDr code).2)]) [] := by
  refine bc0 [e_s_l1New] [] [] [e_s_l17Out, e_s_l1PickInt] L0 Try.func6 (fun hwf => ?_)
  refine Eq.mpr (β := (T3 ((True ∧ true = true) ∧ (T2 ((cu (newC code)) ∧ (T2 ((((CurOk (out17 (newC code)).2 ∧ 0 < List.length ([0, 1, 5, 30, 9999, (-1), 9223372036854775807, (-9223372036854775808)] : List Int)) ∧ (((cuE (out17 (newC code)).2 (out17 (newC code)).2)) ∧ (([0, 1, 5, 30, 9999, (-1), 9223372036854775807, (-9223372036854775808)] : List Int) = ([0, 1, 5, 30, 9999, (-1), 9223372036854775807, (-9223372036854775808)] : List Int)) ∧ True)) ∧ true = true) ∧ ∀ r0 : List Int, r0 = ([0, 1, 5, 30, 9999, (-1), 9223372036854775807, (-9223372036854775808)] : List Int) → (T2 ((((((true = true ∧ leC (.str (out17 (newC code)).1.1) (.str (drawDr code).1.1)) ∧ (true = true ∧ leC (.str (out17 (newC code)).1.2) (.str (drawDr code).1.2)) ∧ True)) ∧ (true = true ∧ leC (.int .i64 (pickInt (out17 (newC code)).2 ([0, 1, 5, 30, 9999, (-1), 9223372036854775807, (-9223372036854775808)] : List Int)).1) (.int .i64 (drawDr code).2)) ∧ True)) ∧ true = true))))))))) (by kernel_rfl) ?_
  unfold T2 T3
  haveI := newC_ok (code := code) hwf.1.1
  simp only [SIU, cuE_eq, cu_eq, eq_self]
  repeat' (with_reducible first | exact trivial | apply And.intro | apply bifI | intro _)
  all_goals first
    | (with_reducible trivial)
    | omega
    | (with_reducible infer_instance)
    | (simp only [drawDr, cond_true, cond_false, Int.toNat_natCast, *]; done)
    | (subst_vars; simp only [drawDr, cond_true, cond_false, Int.toNat_natCast, *]; done)
    | (simp only [drawDr, cond_true, cond_false, *]; exact leC_refl)
def e_s_DrawDrained : Entry Try.prog := ⟨6, [.v (.list (.int .u8))], fun x => True, fun x => .tp [.ag [.str (drawDr x.1).1.1, .str (drawDr x.1).1.2], .c (.int .i64 (drawDr x.1).2)], fun _ => [], fun x hx => b_s_DrawDrained x.1, Try.call6⟩
theorem drawDr_size (code : List Int) : (drawDr code).1.1.size ≤ 3000000 ∧ (drawDr code).1.2.size ≤ 3000000 := by
  unfold drawDr
  exact out17_size _
end Go.Proofs.Ytoigkpkafgjeaaa
