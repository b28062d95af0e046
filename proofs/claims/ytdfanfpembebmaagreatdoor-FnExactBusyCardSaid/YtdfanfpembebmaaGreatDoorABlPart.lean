/-
  The parts of a session and of a command.
  No condition but what the arguments' cells hold. Printed by vcgen.py.
-/
import Derived.Test.YtdfanfpembebmaaGreatDoorABlOk
set_option linter.unusedSimpArgs false
set_option linter.unusedVariables false
set_option maxRecDepth 100000
set_option maxHeartbeats 4000000
namespace Go.Proofs.YtdfanfpembebmaaGreatDoor
open Go.ChangeShapes Go.WideShapes Go.ChangeAt Go.RowKit Go.Joins Go.Deep
open GoRep (rep bulk)

def flagsOk (b : Int) : Bool := btw b 0 31
def inOk (x : GIn) : Bool := leI ((ByteArray.size x.1 : Nat) : Int) 600
theorem b_i_InOk (x : GIn) : BCalls Tryz.prog 17 [.ag [.str x.1, .bool x.2]] (.c (.bool (inOk x))) [] := by
  refine bc0 [] [] [] [] L0 Tryz.func17 (fun hwf => ?_)
  refine Eq.mpr (β := (True ∧ (True ∧ (True ∧ (True ∧ (True ∧ (True ∧ (True ∧ (rB (leI ((ByteArray.size x.1 : Nat) : Int) 600) (inOk x)))))))))) (by kernel_rfl) ?_
  simp only [SIA, eq_self]
  repeat' (first | apply And.intro | intro _)
  all_goals (first | trivial | (rw [Bool.eq_iff_iff]; simp_all [Prod.ext_iff, EQA, inOk]; done) | (simp_all [Prod.ext_iff, EQA, inOk]; done) | omega)
def e_i_InOk : Entry Tryz.prog := ⟨17, [.s tyIn], fun x => True, fun x => .c (.bool (inOk x.1)), fun _ => [], fun x hx => b_i_InOk x.1, Tryz.call17⟩
theorem b_s_InOk (x : GIn) : BCalls Tryz.prog 41 [.ag [.str x.1, .bool x.2]] (.c (.bool (inOk x))) [] := by
  refine bc0 [] [] [] [] L0 Tryz.func41 (fun hwf => ?_)
  refine Eq.mpr (β := (True ∧ (True ∧ (True ∧ (True ∧ (True ∧ (True ∧ (True ∧ (rB (leI ((ByteArray.size x.1 : Nat) : Int) 600) (inOk x)))))))))) (by kernel_rfl) ?_
  simp only [SIA, eq_self]
  repeat' (first | apply And.intro | intro _)
  all_goals (first | trivial | (rw [Bool.eq_iff_iff]; simp_all [Prod.ext_iff, EQA, inOk]; done) | (simp_all [Prod.ext_iff, EQA, inOk]; done) | omega)
def e_s_InOk : Entry Tryz.prog := ⟨41, [.s tyIn], fun x => True, fun x => .c (.bool (inOk x.1)), fun _ => [], fun x hx => b_s_InOk x.1, Tryz.call41⟩
end Go.Proofs.YtdfanfpembebmaaGreatDoor
