/-
  What the laws' arguments hold, read as data, as Lean values: for each type.
  No condition. Printed by gen_exact.py.
-/
import Derived.Test.YtklofnnecljajaaTypes
import Derived.Test.YtklofnnecljajaaTrod
namespace Go.Proofs.Ytklofnnecljajaa
open Go.ChangeShapes Go.WideShapes Go.ChangeAt Go.RowKit Go.Joins Go.Deep
open GoRep (rep bulk)
theorem shape_slice {α : Type} [GoRep α] {w : World} {xs : List α} {v : Value} (h : Held w xs [v]) : ∃ (A : Option Addr) (l c : Nat), v = .slice A l c := by
  obtain ⟨_, A, c, e, _⟩ := h
  exact ⟨A, xs.length, c, by simpa using e⟩
theorem shape_slice1 {α : Type} [GoRep α] {w : World} {xs : List α} {cs : List Value} (h : Held w xs cs) : ∃ (A : Option Addr) (l c : Nat), cs = [.slice A l c] := by
  obtain ⟨_, A, c, e, _⟩ := h
  exact ⟨A, xs.length, c, e⟩
theorem trod_Token : TrodRep GToken Try.prog 114 :=
  trodRep_struct Try.underlying114 (by kernel_rfl) (fieldsRep_cons (trodRep_int Try.underlying3) rfl (by kernel_rfl) (fieldsRep_one (trodRep_str Try.underlying9) rfl (by kernel_rfl)))
theorem trod_Scope : TrodRep GScope Try.prog 230 :=
  trodRep_struct Try.underlying230 (by kernel_rfl) (fieldsRep_cons (trodRep_int Try.underlying3) rfl (by kernel_rfl) (fieldsRep_cons (trodRep_slice Try.underlying120 (by kernel_rfl) (trodRep_str Try.underlying9)) rfl (by kernel_rfl) (fieldsRep_one (trodRep_int Try.underlying3) rfl (by kernel_rfl))))
theorem trod_Filter : TrodRep GFilter Try.prog 72 :=
  trodRep_struct Try.underlying72 (by kernel_rfl) (fieldsRep_cons (trodRep_bool Try.underlying4) rfl (by kernel_rfl) (fieldsRep_one (trodRep_slice Try.underlying70 (by kernel_rfl) trod_Scope) rfl (by kernel_rfl)))
theorem trod_Msg : TrodRep GMsg Try.prog 250 :=
  trodRep_struct Try.underlying250 (by kernel_rfl) (fieldsRep_cons (trodRep_int Try.underlying3) rfl (by kernel_rfl) (fieldsRep_cons (trodRep_int Try.underlying3) rfl (by kernel_rfl) (fieldsRep_one (trodRep_str Try.underlying9) rfl (by kernel_rfl))))
theorem trod_Box : TrodRep GBox Try.prog 203 :=
  trodRep_struct Try.underlying203 (by kernel_rfl) (fieldsRep_cons (trodRep_str Try.underlying9) rfl (by kernel_rfl) (fieldsRep_cons (trodRep_int Try.underlying3) rfl (by kernel_rfl) (fieldsRep_cons (trodRep_int Try.underlying3) rfl (by kernel_rfl) (fieldsRep_one (trodRep_slice Try.underlying201 (by kernel_rfl) trod_Msg) rfl (by kernel_rfl)))))
theorem trod_Commit : TrodRep GCommit Try.prog 205 :=
  trodRep_struct Try.underlying205 (by kernel_rfl) (fieldsRep_cons (trodRep_int Try.underlying3) rfl (by kernel_rfl) (fieldsRep_cons (trodRep_int Try.underlying3) rfl (by kernel_rfl) (fieldsRep_cons (trodRep_int Try.underlying3) rfl (by kernel_rfl) (fieldsRep_cons (trodRep_int Try.underlying3) rfl (by kernel_rfl) (fieldsRep_cons (trodRep_str Try.underlying9) rfl (by kernel_rfl) (fieldsRep_one (trodRep_str Try.underlying9) rfl (by kernel_rfl)))))))
theorem trod_Store : TrodRep GStore Try.prog 66 :=
  trodRep_struct Try.underlying66 (by kernel_rfl) (fieldsRep_cons (trodRep_slice Try.underlying63 (by kernel_rfl) trod_Box) rfl (by kernel_rfl) (fieldsRep_cons (trodRep_slice Try.underlying64 (by kernel_rfl) trod_Commit) rfl (by kernel_rfl) (fieldsRep_one (trodRep_int Try.underlying3) rfl (by kernel_rfl))))
theorem trod_Seen : TrodRep GSeen Try.prog 233 :=
  trodRep_struct Try.underlying233 (by kernel_rfl) (fieldsRep_cons (trodRep_int Try.underlying3) rfl (by kernel_rfl) (fieldsRep_one (trodRep_int Try.underlying3) rfl (by kernel_rfl)))
theorem trod_View : TrodRep GView Try.prog 69 :=
  trodRep_struct Try.underlying69 (by kernel_rfl) (fieldsRep_one (trodRep_slice Try.underlying67 (by kernel_rfl) trod_Seen) rfl (by kernel_rfl))
theorem trod_Note : TrodRep GNote Try.prog 105 :=
  trodRep_struct Try.underlying105 (by kernel_rfl) (fieldsRep_cons (trodRep_int Try.underlying3) rfl (by kernel_rfl) (fieldsRep_cons (trodRep_int Try.underlying3) rfl (by kernel_rfl) (fieldsRep_cons (trodRep_int Try.underlying3) rfl (by kernel_rfl) (fieldsRep_one (trodRep_str Try.underlying9) rfl (by kernel_rfl)))))
theorem trod_Queue : TrodRep GQueue Try.prog 24 :=
  trodRep_struct Try.underlying24 (by kernel_rfl) (fieldsRep_cons (trodRep_slice Try.underlying22 (by kernel_rfl) trod_Note) rfl (by kernel_rfl) (fieldsRep_cons (trodRep_bool Try.underlying4) rfl (by kernel_rfl) (fieldsRep_one (trodRep_bool Try.underlying4) rfl (by kernel_rfl))))
theorem trod_Out : TrodRep GOut Try.prog 76 :=
  trodRep_struct Try.underlying76 (by kernel_rfl) (fieldsRep_cons (trodRep_str Try.underlying9) rfl (by kernel_rfl) (fieldsRep_one (trodRep_str Try.underlying9) rfl (by kernel_rfl)))
theorem trod_In : TrodRep GIn Try.prog 74 :=
  trodRep_struct Try.underlying74 (by kernel_rfl) (fieldsRep_cons (trodRep_str Try.underlying9) rfl (by kernel_rfl) (fieldsRep_one (trodRep_bool Try.underlying4) rfl (by kernel_rfl)))
theorem trod_Session : TrodRep GSession Try.prog 78 :=
  trodRep_struct Try.underlying78 (by kernel_rfl) (fieldsRep_cons (trodRep_bool Try.underlying4) rfl (by kernel_rfl) (fieldsRep_cons (trodRep_int Try.underlying3) rfl (by kernel_rfl) (fieldsRep_cons (trodRep_int Try.underlying3) rfl (by kernel_rfl) (fieldsRep_cons (trodRep_int Try.underlying3) rfl (by kernel_rfl) (fieldsRep_cons trod_View rfl (by kernel_rfl) (fieldsRep_cons trod_Filter rfl (by kernel_rfl) (fieldsRep_cons (trodRep_str Try.underlying9) rfl (by kernel_rfl) (fieldsRep_cons (trodRep_str Try.underlying9) rfl (by kernel_rfl) (fieldsRep_cons trod_Queue rfl (by kernel_rfl) (fieldsRep_cons trod_In rfl (by kernel_rfl) (fieldsRep_cons trod_Out rfl (by kernel_rfl) (fieldsRep_one (trodRep_int Try.underlying3) rfl (by kernel_rfl)))))))))))))
end Go.Proofs.Ytklofnnecljajaa
