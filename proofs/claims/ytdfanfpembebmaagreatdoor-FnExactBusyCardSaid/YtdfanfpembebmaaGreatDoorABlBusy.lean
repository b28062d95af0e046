/-
  Whether a session has something to do.
  No condition but what the arguments' cells hold. Printed by vcgen.py.
-/
import Derived.Test.YtdfanfpembebmaaGreatDoorABlReady
import Derived.Test.YtdfanfpembebmaaGreatDoorABlPend
set_option linter.unusedSimpArgs false
set_option linter.unusedVariables false
set_option maxRecDepth 100000
set_option maxHeartbeats 4000000
namespace Go.Proofs.YtdfanfpembebmaaGreatDoor
open Go.ChangeShapes Go.WideShapes Go.ChangeAt Go.RowKit Go.Joins Go.Deep
open GoRep (rep bulk)

def busyB (s : GSession) : Bool := s.1 && (readyB s || (pendB s || (!eqS s.2.2.2.2.2.2.2.1 (⟨#[]⟩ : ByteArray) || (eqI s.2.1 4 && eqS s.2.2.2.2.2.2.2.2.2.2.1.1 (⟨#[]⟩ : ByteArray)))))
theorem b_i_Busy (s : GSession) : BCalls Tryz.prog 12 [.ag (cellsOf tySession s)] (.c (.bool (busyB s))) [] := by
  refine bc0 [e_i_Ready, e_i_Pending] [] [] [] L0 Tryz.func12 (fun hwf => ?_)
  refine Eq.mpr (β := (T5 (bif s.1 then (True ∧ ((True ∧ true = true) ∧ (True ∧ (bif readyB s then (T7 (rB true (busyB s))) else (True ∧ ((True ∧ true = true) ∧ (T2 (bif pendB s then (T5 (rB true (busyB s))) else (T5 (bif (!eqS s.2.2.2.2.2.2.2.1 (⟨#[]⟩ : ByteArray)) then (T3 (rB true (busyB s))) else (T4 (bif (eqI s.2.1 4) then (T8 (rB (eqS s.2.2.2.2.2.2.2.2.2.2.1.1 (⟨#[]⟩ : ByteArray)) (busyB s))) else (T4 (rB false (busyB s))))))))))))))) else (T2 (rB false (busyB s)))))) (by kernel_rfl) ?_
  unfold T2 T3 T4 T5 T7 T8
  simp only [SIA, eq_self]
  repeat' (first | apply And.intro | intro _)
  all_goals (first | trivial | (rw [Bool.eq_iff_iff]; simp_all [Prod.ext_iff, EQA, busyB]; done) | (simp_all [Prod.ext_iff, EQA, busyB]; done) | omega)
def e_i_Busy : Entry Tryz.prog := ⟨12, [.s tySession], fun x => True, fun x => .c (.bool (busyB x.1)), fun _ => [], fun x hx => b_i_Busy x.1, Tryz.call12⟩
theorem b_s_Busy (s : GSession) : BCalls Tryz.prog 11 [.ag (cellsOf tySession s)] (.c (.bool (busyB s))) [] := by
  refine bc0 [e_s_Ready, e_s_Pending] [] [] [] L0 Tryz.func11 (fun hwf => ?_)
  refine Eq.mpr (β := (T5 (bif s.1 then (True ∧ ((True ∧ true = true) ∧ (True ∧ (bif readyB s then (T7 (rB true (busyB s))) else (True ∧ ((True ∧ true = true) ∧ (T2 (bif pendB s then (T5 (rB true (busyB s))) else (T5 (bif (!eqS s.2.2.2.2.2.2.2.1 (⟨#[]⟩ : ByteArray)) then (T3 (rB true (busyB s))) else (T4 (bif (eqI s.2.1 4) then (T8 (rB (eqS s.2.2.2.2.2.2.2.2.2.2.1.1 (⟨#[]⟩ : ByteArray)) (busyB s))) else (T4 (rB false (busyB s))))))))))))))) else (T2 (rB false (busyB s)))))) (by kernel_rfl) ?_
  unfold T2 T3 T4 T5 T7 T8
  simp only [SIA, eq_self]
  repeat' (first | apply And.intro | intro _)
  all_goals (first | trivial | (rw [Bool.eq_iff_iff]; simp_all [Prod.ext_iff, EQA, busyB]; done) | (simp_all [Prod.ext_iff, EQA, busyB]; done) | omega)
def e_s_Busy : Entry Tryz.prog := ⟨11, [.s tySession], fun x => True, fun x => .c (.bool (busyB x.1)), fun _ => [], fun x hx => b_s_Busy x.1, Tryz.call11⟩
end Go.Proofs.YtdfanfpembebmaaGreatDoor
