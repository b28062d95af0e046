/-
  Whether a line can be taken.
  No condition but what the arguments' cells hold. Printed by vcgen.py.
-/
import Derived.Test.YtdfanfpembebmaaGreatDoorABlTakeL
set_option linter.unusedSimpArgs false
set_option linter.unusedVariables false
set_option maxRecDepth 100000
set_option maxHeartbeats 4000000
namespace Go.Proofs.YtdfanfpembebmaaGreatDoor
open Go.ChangeShapes Go.WideShapes Go.ChangeAt Go.RowKit Go.Joins Go.Deep
open GoRep (rep bulk)

def readyB (s : GSession) : Bool := s.1 && (neI s.2.1 4 && (eqS s.2.2.2.2.2.2.2.1 (⟨#[]⟩ : ByteArray) && (eqS s.2.2.2.2.2.2.2.2.2.2.1.1 (⟨#[]⟩ : ByteArray) && neI (takeF s.2.2.2.2.2.2.2.2.2.1).2.2 0)))
theorem b_i_Ready (s : GSession) : BCalls Tryz.prog 9 [.ag (cellsOf tySession s)] (.c (.bool (readyB s))) [] := by
  refine bc0 [e_i_TakeLine] [] [] [] L0 Tryz.func9 (fun hwf => ?_)
  refine Eq.mpr (β := (T4 ((True ∧ true = true) ∧ (T11 (bif s.1 then (T5 (bif (neI s.2.1 4) then (T5 (bif (eqS s.2.2.2.2.2.2.2.1 (⟨#[]⟩ : ByteArray)) then (T6 (bif (eqS s.2.2.2.2.2.2.2.2.2.2.1.1 (⟨#[]⟩ : ByteArray)) then (T4 (rB (neI (takeF s.2.2.2.2.2.2.2.2.2.1).2.2 0) (readyB s))) else (T2 (rB false (readyB s))))) else (T4 (rB false (readyB s))))) else (T6 (rB false (readyB s))))) else (T8 (rB false (readyB s)))))))) (by kernel_rfl) ?_
  unfold T11 T2 T4 T5 T6 T8
  simp only [SIA, eq_self]
  repeat' (first | apply And.intro | intro _)
  all_goals (first | trivial | (rw [Bool.eq_iff_iff]; simp_all [Prod.ext_iff, EQA, readyB]; done) | (simp_all [Prod.ext_iff, EQA, readyB]; done) | omega)
def e_i_Ready : Entry Tryz.prog := ⟨9, [.s tySession], fun x => True, fun x => .c (.bool (readyB x.1)), fun _ => [], fun x hx => b_i_Ready x.1, Tryz.call9⟩
def takesB (s : GSession) : Bool := s.1 && (neI s.2.1 4 && (eqS s.2.2.2.2.2.2.2.2.2.2.1.1 (⟨#[]⟩ : ByteArray) && eqS s.2.2.2.2.2.2.2.1 (⟨#[]⟩ : ByteArray)))
theorem b_s_l24Takes (s : GSession) : BCalls Tryz.prog 24 [.ag (cellsOf tySession s)] (.c (.bool (takesB s))) [] := by
  refine bc0 [] [] [] [] L0 Tryz.func24 (fun hwf => ?_)
  refine Eq.mpr (β := (True ∧ (True ∧ (True ∧ (True ∧ (True ∧ (bif s.1 then (True ∧ (True ∧ (True ∧ (True ∧ (True ∧ (bif (neI s.2.1 4) then (True ∧ (True ∧ (True ∧ (True ∧ (True ∧ (True ∧ (bif (eqS s.2.2.2.2.2.2.2.2.2.2.1.1 (⟨#[]⟩ : ByteArray)) then (True ∧ (True ∧ (True ∧ (True ∧ (True ∧ (rB (eqS s.2.2.2.2.2.2.2.1 (⟨#[]⟩ : ByteArray)) (takesB s))))))) else (True ∧ (True ∧ (rB false (takesB s))))))))))) else (True ∧ (True ∧ (True ∧ (True ∧ (rB false (takesB s)))))))))))) else (True ∧ (True ∧ (True ∧ (True ∧ (True ∧ (True ∧ (rB false (takesB s))))))))))))))) (by kernel_rfl) ?_
  simp only [SIA, eq_self]
  repeat' (first | apply And.intro | intro _)
  all_goals (first | trivial | (rw [Bool.eq_iff_iff]; simp_all [Prod.ext_iff, EQA, takesB]; done) | (simp_all [Prod.ext_iff, EQA, takesB]; done) | omega)
def e_s_l24Takes : Entry Tryz.prog := ⟨24, [.s tySession], fun x => True, fun x => .c (.bool (takesB x.1)), fun _ => [], fun x hx => b_s_l24Takes x.1, Tryz.call24⟩
theorem ready_eq (s : GSession) : readyB s = (takesB s && neI (takeF s.2.2.2.2.2.2.2.2.2.1).2.2 0) := by
  simp only [readyB, takesB, Bool.and_assoc, Bool.and_comm, Bool.and_left_comm]
theorem b_s_Ready (s : GSession) : BCalls Tryz.prog 7 [.ag (cellsOf tySession s)] (.c (.bool (readyB s))) [] := by
  refine bc0 [e_s_TakeLine, e_s_l24Takes] [] [] [] L0 Tryz.func7 (fun hwf => ?_)
  refine Eq.mpr (β := (True ∧ (True ∧ (True ∧ (True ∧ ((True ∧ true = true) ∧ (True ∧ (True ∧ (True ∧ (True ∧ (True ∧ (True ∧ (True ∧ (True ∧ (True ∧ ((True ∧ true = true) ∧ (True ∧ (bif takesB s then (True ∧ (True ∧ (True ∧ (True ∧ (rB (neI (takeF s.2.2.2.2.2.2.2.2.2.1).2.2 0) (readyB s)))))) else (True ∧ (True ∧ (rB false (readyB s)))))))))))))))))))))) (by kernel_rfl) ?_
  simp only [SIA, eq_self]
  rw [ready_eq]
  cases takesB s <;> simp only [Bool.true_and, Bool.false_and, cond_true, cond_false]
  repeat' (with_reducible first | exact trivial | apply And.intro | intro _)
  all_goals first | (with_reducible rfl) | contradiction
def e_s_Ready : Entry Tryz.prog := ⟨7, [.s tySession], fun x => True, fun x => .c (.bool (readyB x.1)), fun _ => [], fun x hx => b_s_Ready x.1, Tryz.call7⟩
end Go.Proofs.YtdfanfpembebmaaGreatDoor
