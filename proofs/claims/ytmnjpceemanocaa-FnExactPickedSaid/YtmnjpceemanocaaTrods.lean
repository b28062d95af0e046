/-
  What the laws' arguments hold, read as data, as Lean values: for each type.
  No condition. Printed by gen_exact.py.
-/
import Derived.Test.YtmnjpceemanocaaTypes
import Derived.Test.YtmnjpceemanocaaTrod
namespace Go.Proofs.Ytmnjpceemanocaa
open Go.ChangeShapes Go.WideShapes Go.ChangeAt Go.RowKit Go.Joins Go.Deep
open GoRep (rep bulk)
theorem shape_slice {α : Type} [GoRep α] {w : World} {xs : List α} {v : Value} (h : Held w xs [v]) : ∃ (A : Option Addr) (l c : Nat), v = .slice A l c := by
  obtain ⟨_, A, c, e, _⟩ := h
  exact ⟨A, xs.length, c, by simpa using e⟩
theorem shape_slice1 {α : Type} [GoRep α] {w : World} {xs : List α} {cs : List Value} (h : Held w xs cs) : ∃ (A : Option Addr) (l c : Nat), cs = [.slice A l c] := by
  obtain ⟨_, A, c, e, _⟩ := h
  exact ⟨A, xs.length, c, e⟩
theorem trod_Token : TrodRep GToken Try.prog 161 :=
  trodRep_struct Try.underlying161 (by kernel_rfl) (fieldsRep_cons (trodRep_int Try.underlying3) rfl (by kernel_rfl) (fieldsRep_one (trodRep_str Try.underlying9) rfl (by kernel_rfl)))
theorem trod_Span : TrodRep GSpan Try.prog 224 :=
  trodRep_struct Try.underlying224 (by kernel_rfl) (fieldsRep_cons (trodRep_int Try.underlying3) rfl (by kernel_rfl) (fieldsRep_one (trodRep_int Try.underlying3) rfl (by kernel_rfl)))
theorem trod_Scope : TrodRep GScope Try.prog 256 :=
  trodRep_struct Try.underlying256 (by kernel_rfl) (fieldsRep_cons (trodRep_int Try.underlying3) rfl (by kernel_rfl) (fieldsRep_cons (trodRep_slice Try.underlying167 (by kernel_rfl) (trodRep_str Try.underlying9)) rfl (by kernel_rfl) (fieldsRep_one (trodRep_int Try.underlying3) rfl (by kernel_rfl))))
theorem trod_Filter : TrodRep GFilter Try.prog 58 :=
  trodRep_struct Try.underlying58 (by kernel_rfl) (fieldsRep_cons (trodRep_bool Try.underlying4) rfl (by kernel_rfl) (fieldsRep_one (trodRep_slice Try.underlying56 (by kernel_rfl) trod_Scope) rfl (by kernel_rfl)))
theorem trod_Msg : TrodRep GMsg Try.prog 266 :=
  trodRep_struct Try.underlying266 (by kernel_rfl) (fieldsRep_cons (trodRep_int Try.underlying3) rfl (by kernel_rfl) (fieldsRep_cons (trodRep_int Try.underlying3) rfl (by kernel_rfl) (fieldsRep_one (trodRep_str Try.underlying9) rfl (by kernel_rfl))))
theorem trod_Box : TrodRep GBox Try.prog 198 :=
  trodRep_struct Try.underlying198 (by kernel_rfl) (fieldsRep_cons (trodRep_str Try.underlying9) rfl (by kernel_rfl) (fieldsRep_cons (trodRep_int Try.underlying3) rfl (by kernel_rfl) (fieldsRep_cons (trodRep_int Try.underlying3) rfl (by kernel_rfl) (fieldsRep_one (trodRep_slice Try.underlying196 (by kernel_rfl) trod_Msg) rfl (by kernel_rfl)))))
theorem trod_Commit : TrodRep GCommit Try.prog 201 :=
  trodRep_struct Try.underlying201 (by kernel_rfl) (fieldsRep_cons (trodRep_int Try.underlying3) rfl (by kernel_rfl) (fieldsRep_cons (trodRep_int Try.underlying3) rfl (by kernel_rfl) (fieldsRep_cons (trodRep_int Try.underlying3) rfl (by kernel_rfl) (fieldsRep_cons (trodRep_int Try.underlying3) rfl (by kernel_rfl) (fieldsRep_cons (trodRep_str Try.underlying9) rfl (by kernel_rfl) (fieldsRep_one (trodRep_str Try.underlying9) rfl (by kernel_rfl)))))))
theorem trod_Store : TrodRep GStore Try.prog 25 :=
  trodRep_struct Try.underlying25 (by kernel_rfl) (fieldsRep_cons (trodRep_slice Try.underlying22 (by kernel_rfl) trod_Box) rfl (by kernel_rfl) (fieldsRep_cons (trodRep_slice Try.underlying23 (by kernel_rfl) trod_Commit) rfl (by kernel_rfl) (fieldsRep_one (trodRep_int Try.underlying3) rfl (by kernel_rfl))))
theorem trod_Seen : TrodRep GSeen Try.prog 227 :=
  trodRep_struct Try.underlying227 (by kernel_rfl) (fieldsRep_cons (trodRep_int Try.underlying3) rfl (by kernel_rfl) (fieldsRep_one (trodRep_int Try.underlying3) rfl (by kernel_rfl)))
theorem trod_View : TrodRep GView Try.prog 63 :=
  trodRep_struct Try.underlying63 (by kernel_rfl) (fieldsRep_one (trodRep_slice Try.underlying61 (by kernel_rfl) trod_Seen) rfl (by kernel_rfl))
theorem trod_Note : TrodRep GNote Try.prog 138 :=
  trodRep_struct Try.underlying138 (by kernel_rfl) (fieldsRep_cons (trodRep_int Try.underlying3) rfl (by kernel_rfl) (fieldsRep_cons (trodRep_int Try.underlying3) rfl (by kernel_rfl) (fieldsRep_cons (trodRep_int Try.underlying3) rfl (by kernel_rfl) (fieldsRep_one (trodRep_str Try.underlying9) rfl (by kernel_rfl)))))
theorem trod_Queue : TrodRep GQueue Try.prog 41 :=
  trodRep_struct Try.underlying41 (by kernel_rfl) (fieldsRep_cons (trodRep_slice Try.underlying39 (by kernel_rfl) trod_Note) rfl (by kernel_rfl) (fieldsRep_cons (trodRep_bool Try.underlying4) rfl (by kernel_rfl) (fieldsRep_one (trodRep_bool Try.underlying4) rfl (by kernel_rfl))))
theorem trod_Out : TrodRep GOut Try.prog 100 :=
  trodRep_struct Try.underlying100 (by kernel_rfl) (fieldsRep_cons (trodRep_str Try.underlying9) rfl (by kernel_rfl) (fieldsRep_one (trodRep_str Try.underlying9) rfl (by kernel_rfl)))
theorem trod_In : TrodRep GIn Try.prog 98 :=
  trodRep_struct Try.underlying98 (by kernel_rfl) (fieldsRep_cons (trodRep_str Try.underlying9) rfl (by kernel_rfl) (fieldsRep_one (trodRep_bool Try.underlying4) rfl (by kernel_rfl)))
theorem trod_Command : TrodRep GCommand Try.prog 60 :=
  trodRep_struct Try.underlying60 (by kernel_rfl) (fieldsRep_cons (trodRep_str Try.underlying9) rfl (by kernel_rfl) (fieldsRep_cons (trodRep_int Try.underlying3) rfl (by kernel_rfl) (fieldsRep_cons (trodRep_str Try.underlying9) rfl (by kernel_rfl) (fieldsRep_cons (trodRep_str Try.underlying9) rfl (by kernel_rfl) (fieldsRep_cons (trodRep_bool Try.underlying4) rfl (by kernel_rfl) (fieldsRep_cons (trodRep_slice Try.underlying55 (by kernel_rfl) trod_Span) rfl (by kernel_rfl) (fieldsRep_cons (trodRep_int Try.underlying3) rfl (by kernel_rfl) (fieldsRep_cons (trodRep_int Try.underlying3) rfl (by kernel_rfl) (fieldsRep_cons (trodRep_str Try.underlying9) rfl (by kernel_rfl) (fieldsRep_one trod_Filter rfl (by kernel_rfl)))))))))))
theorem trod_Session : TrodRep GSession Try.prog 102 :=
  trodRep_struct Try.underlying102 (by kernel_rfl) (fieldsRep_cons (trodRep_bool Try.underlying4) rfl (by kernel_rfl) (fieldsRep_cons (trodRep_int Try.underlying3) rfl (by kernel_rfl) (fieldsRep_cons (trodRep_int Try.underlying3) rfl (by kernel_rfl) (fieldsRep_cons (trodRep_int Try.underlying3) rfl (by kernel_rfl) (fieldsRep_cons trod_View rfl (by kernel_rfl) (fieldsRep_cons trod_Filter rfl (by kernel_rfl) (fieldsRep_cons (trodRep_str Try.underlying9) rfl (by kernel_rfl) (fieldsRep_cons (trodRep_str Try.underlying9) rfl (by kernel_rfl) (fieldsRep_cons trod_Queue rfl (by kernel_rfl) (fieldsRep_cons trod_In rfl (by kernel_rfl) (fieldsRep_cons trod_Out rfl (by kernel_rfl) (fieldsRep_one (trodRep_int Try.underlying3) rfl (by kernel_rfl)))))))))))))
end Go.Proofs.Ytmnjpceemanocaa
