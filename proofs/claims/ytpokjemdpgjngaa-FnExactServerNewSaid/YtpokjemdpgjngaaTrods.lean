/-
  What the laws' arguments hold, read as data, as Lean values: for each type.
  No condition. Printed by gen_exact.py.
-/
import Derived.Test.YtpokjemdpgjngaaTypes
import Derived.Test.YtpokjemdpgjngaaTrod
namespace Go.Proofs.Ytpokjemdpgjngaa
open Go.ChangeShapes Go.WideShapes Go.ChangeAt Go.RowKit Go.Joins Go.Deep
open GoRep (rep bulk)
theorem shape_slice {α : Type} [GoRep α] {w : World} {xs : List α} {v : Value} (h : Held w xs [v]) : ∃ (A : Option Addr) (l c : Nat), v = .slice A l c := by
  obtain ⟨_, A, c, e, _⟩ := h
  exact ⟨A, xs.length, c, by simpa using e⟩
theorem shape_slice1 {α : Type} [GoRep α] {w : World} {xs : List α} {cs : List Value} (h : Held w xs cs) : ∃ (A : Option Addr) (l c : Nat), cs = [.slice A l c] := by
  obtain ⟨_, A, c, e, _⟩ := h
  exact ⟨A, xs.length, c, e⟩
theorem trod_Token : TrodRep GToken Try.prog 49 :=
  trodRep_struct Try.underlying49 (by kernel_rfl) (fieldsRep_cons (trodRep_int Try.underlying3) rfl (by kernel_rfl) (fieldsRep_one (trodRep_str Try.underlying9) rfl (by kernel_rfl)))
end Go.Proofs.Ytpokjemdpgjngaa
