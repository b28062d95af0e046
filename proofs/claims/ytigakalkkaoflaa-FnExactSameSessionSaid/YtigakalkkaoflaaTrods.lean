/-
  What the laws' arguments hold, read as data, as Lean values: for each type.
  No condition. Printed by gen_exact.py.
-/
import Derived.Test.YtigakalkkaoflaaTypes
import Derived.Test.YtigakalkkaoflaaTrod
namespace Go.Proofs.Ytigakalkkaoflaa
open Go.ChangeShapes Go.WideShapes Go.ChangeAt Go.RowKit Go.Joins Go.Deep
open GoRep (rep bulk)
theorem shape_slice {α : Type} [GoRep α] {w : World} {xs : List α} {v : Value} (h : Held w xs [v]) : ∃ (A : Option Addr) (l c : Nat), v = .slice A l c := by
  obtain ⟨_, A, c, e, _⟩ := h
  exact ⟨A, xs.length, c, by simpa using e⟩
theorem shape_slice1 {α : Type} [GoRep α] {w : World} {xs : List α} {cs : List Value} (h : Held w xs cs) : ∃ (A : Option Addr) (l c : Nat), cs = [.slice A l c] := by
  obtain ⟨_, A, c, e, _⟩ := h
  exact ⟨A, xs.length, c, e⟩
theorem trod_Token : TrodRep GToken Try.prog 182 :=
  trodRep_struct Try.underlying182 (by kernel_rfl) (fieldsRep_cons (trodRep_int Try.underlying3) rfl (by kernel_rfl) (fieldsRep_one (trodRep_str Try.underlying9) rfl (by kernel_rfl)))
theorem trod_Span : TrodRep GSpan Try.prog 249 :=
  trodRep_struct Try.underlying249 (by kernel_rfl) (fieldsRep_cons (trodRep_int Try.underlying3) rfl (by kernel_rfl) (fieldsRep_one (trodRep_int Try.underlying3) rfl (by kernel_rfl)))
theorem trod_Scope : TrodRep GScope Try.prog 275 :=
  trodRep_struct Try.underlying275 (by kernel_rfl) (fieldsRep_cons (trodRep_int Try.underlying3) rfl (by kernel_rfl) (fieldsRep_cons (trodRep_slice Try.underlying148 (by kernel_rfl) (trodRep_str Try.underlying9)) rfl (by kernel_rfl) (fieldsRep_one (trodRep_int Try.underlying3) rfl (by kernel_rfl))))
theorem trod_Filter : TrodRep GFilter Try.prog 44 :=
  trodRep_struct Try.underlying44 (by kernel_rfl) (fieldsRep_cons (trodRep_bool Try.underlying4) rfl (by kernel_rfl) (fieldsRep_one (trodRep_slice Try.underlying42 (by kernel_rfl) trod_Scope) rfl (by kernel_rfl)))
theorem trod_Msg : TrodRep GMsg Try.prog 284 :=
  trodRep_struct Try.underlying284 (by kernel_rfl) (fieldsRep_cons (trodRep_int Try.underlying3) rfl (by kernel_rfl) (fieldsRep_cons (trodRep_int Try.underlying3) rfl (by kernel_rfl) (fieldsRep_one (trodRep_str Try.underlying9) rfl (by kernel_rfl))))
theorem trod_Box : TrodRep GBox Try.prog 221 :=
  trodRep_struct Try.underlying221 (by kernel_rfl) (fieldsRep_cons (trodRep_str Try.underlying9) rfl (by kernel_rfl) (fieldsRep_cons (trodRep_int Try.underlying3) rfl (by kernel_rfl) (fieldsRep_cons (trodRep_int Try.underlying3) rfl (by kernel_rfl) (fieldsRep_one (trodRep_slice Try.underlying219 (by kernel_rfl) trod_Msg) rfl (by kernel_rfl)))))
theorem trod_Commit : TrodRep GCommit Try.prog 223 :=
  trodRep_struct Try.underlying223 (by kernel_rfl) (fieldsRep_cons (trodRep_int Try.underlying3) rfl (by kernel_rfl) (fieldsRep_cons (trodRep_int Try.underlying3) rfl (by kernel_rfl) (fieldsRep_cons (trodRep_int Try.underlying3) rfl (by kernel_rfl) (fieldsRep_cons (trodRep_int Try.underlying3) rfl (by kernel_rfl) (fieldsRep_cons (trodRep_str Try.underlying9) rfl (by kernel_rfl) (fieldsRep_one (trodRep_str Try.underlying9) rfl (by kernel_rfl)))))))
theorem trod_Store : TrodRep GStore Try.prog 25 :=
  trodRep_struct Try.underlying25 (by kernel_rfl) (fieldsRep_cons (trodRep_slice Try.underlying22 (by kernel_rfl) trod_Box) rfl (by kernel_rfl) (fieldsRep_cons (trodRep_slice Try.underlying23 (by kernel_rfl) trod_Commit) rfl (by kernel_rfl) (fieldsRep_one (trodRep_int Try.underlying3) rfl (by kernel_rfl))))
theorem trod_Seen : TrodRep GSeen Try.prog 251 :=
  trodRep_struct Try.underlying251 (by kernel_rfl) (fieldsRep_cons (trodRep_int Try.underlying3) rfl (by kernel_rfl) (fieldsRep_one (trodRep_int Try.underlying3) rfl (by kernel_rfl)))
theorem trod_View : TrodRep GView Try.prog 41 :=
  trodRep_struct Try.underlying41 (by kernel_rfl) (fieldsRep_one (trodRep_slice Try.underlying39 (by kernel_rfl) trod_Seen) rfl (by kernel_rfl))
theorem trod_Note : TrodRep GNote Try.prog 161 :=
  trodRep_struct Try.underlying161 (by kernel_rfl) (fieldsRep_cons (trodRep_int Try.underlying3) rfl (by kernel_rfl) (fieldsRep_cons (trodRep_int Try.underlying3) rfl (by kernel_rfl) (fieldsRep_cons (trodRep_int Try.underlying3) rfl (by kernel_rfl) (fieldsRep_one (trodRep_str Try.underlying9) rfl (by kernel_rfl)))))
theorem trod_Queue : TrodRep GQueue Try.prog 47 :=
  trodRep_struct Try.underlying47 (by kernel_rfl) (fieldsRep_cons (trodRep_slice Try.underlying45 (by kernel_rfl) trod_Note) rfl (by kernel_rfl) (fieldsRep_cons (trodRep_bool Try.underlying4) rfl (by kernel_rfl) (fieldsRep_one (trodRep_bool Try.underlying4) rfl (by kernel_rfl))))
theorem trod_Out : TrodRep GOut Try.prog 51 :=
  trodRep_struct Try.underlying51 (by kernel_rfl) (fieldsRep_cons (trodRep_str Try.underlying9) rfl (by kernel_rfl) (fieldsRep_one (trodRep_str Try.underlying9) rfl (by kernel_rfl)))
theorem trod_In : TrodRep GIn Try.prog 49 :=
  trodRep_struct Try.underlying49 (by kernel_rfl) (fieldsRep_cons (trodRep_str Try.underlying9) rfl (by kernel_rfl) (fieldsRep_one (trodRep_bool Try.underlying4) rfl (by kernel_rfl)))
theorem trod_Command : TrodRep GCommand Try.prog 85 :=
  trodRep_struct Try.underlying85 (by kernel_rfl) (fieldsRep_cons (trodRep_str Try.underlying9) rfl (by kernel_rfl) (fieldsRep_cons (trodRep_int Try.underlying3) rfl (by kernel_rfl) (fieldsRep_cons (trodRep_str Try.underlying9) rfl (by kernel_rfl) (fieldsRep_cons (trodRep_str Try.underlying9) rfl (by kernel_rfl) (fieldsRep_cons (trodRep_bool Try.underlying4) rfl (by kernel_rfl) (fieldsRep_cons (trodRep_slice Try.underlying83 (by kernel_rfl) trod_Span) rfl (by kernel_rfl) (fieldsRep_cons (trodRep_int Try.underlying3) rfl (by kernel_rfl) (fieldsRep_cons (trodRep_int Try.underlying3) rfl (by kernel_rfl) (fieldsRep_cons (trodRep_str Try.underlying9) rfl (by kernel_rfl) (fieldsRep_one trod_Filter rfl (by kernel_rfl)))))))))))
theorem trod_Session : TrodRep GSession Try.prog 53 :=
  trodRep_struct Try.underlying53 (by kernel_rfl) (fieldsRep_cons (trodRep_bool Try.underlying4) rfl (by kernel_rfl) (fieldsRep_cons (trodRep_int Try.underlying3) rfl (by kernel_rfl) (fieldsRep_cons (trodRep_int Try.underlying3) rfl (by kernel_rfl) (fieldsRep_cons (trodRep_int Try.underlying3) rfl (by kernel_rfl) (fieldsRep_cons trod_View rfl (by kernel_rfl) (fieldsRep_cons trod_Filter rfl (by kernel_rfl) (fieldsRep_cons (trodRep_str Try.underlying9) rfl (by kernel_rfl) (fieldsRep_cons (trodRep_str Try.underlying9) rfl (by kernel_rfl) (fieldsRep_cons trod_Queue rfl (by kernel_rfl) (fieldsRep_cons trod_In rfl (by kernel_rfl) (fieldsRep_cons trod_Out rfl (by kernel_rfl) (fieldsRep_one (trodRep_int Try.underlying3) rfl (by kernel_rfl)))))))))))))
theorem trod_Server : TrodRep GServer Try.prog 117 :=
  trodRep_struct Try.underlying117 (by kernel_rfl) (fieldsRep_cons trod_Store rfl (by kernel_rfl) (fieldsRep_one (trodRep_slice Try.underlying115 (by kernel_rfl) trod_Session) rfl (by kernel_rfl)))
end Go.Proofs.Ytigakalkkaoflaa
