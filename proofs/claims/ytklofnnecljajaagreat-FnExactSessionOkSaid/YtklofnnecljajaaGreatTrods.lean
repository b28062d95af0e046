/-
  What the laws' arguments hold, read as data, as Lean values: for each type.
  No condition. Printed by gen_exact.py.
-/
import Derived.Test.YtklofnnecljajaaGreatTypes
import Derived.Test.YtklofnnecljajaaGreatTrod
namespace Go.Proofs.YtklofnnecljajaaGreat
open Go.ChangeShapes Go.WideShapes Go.ChangeAt Go.RowKit Go.Joins Go.Deep
open GoRep (rep bulk)
theorem shape_slice {α : Type} [GoRep α] {w : World} {xs : List α} {v : Value} (h : Held w xs [v]) : ∃ (A : Option Addr) (l c : Nat), v = .slice A l c := by
  obtain ⟨_, A, c, e, _⟩ := h
  exact ⟨A, xs.length, c, by simpa using e⟩
theorem shape_slice1 {α : Type} [GoRep α] {w : World} {xs : List α} {cs : List Value} (h : Held w xs cs) : ∃ (A : Option Addr) (l c : Nat), cs = [.slice A l c] := by
  obtain ⟨_, A, c, e, _⟩ := h
  exact ⟨A, xs.length, c, e⟩
theorem trod_Scope : TrodRep GScope Tryz.prog 144 :=
  trodRep_struct Tryz.underlying144 (by kernel_rfl) (fieldsRep_cons (trodRep_int Tryz.underlying3) rfl (by kernel_rfl) (fieldsRep_cons (trodRep_slice Tryz.underlying113 (by kernel_rfl) (trodRep_str Tryz.underlying9)) rfl (by kernel_rfl) (fieldsRep_one (trodRep_int Tryz.underlying3) rfl (by kernel_rfl))))
theorem trod_Filter : TrodRep GFilter Tryz.prog 27 :=
  trodRep_struct Tryz.underlying27 (by kernel_rfl) (fieldsRep_cons (trodRep_bool Tryz.underlying4) rfl (by kernel_rfl) (fieldsRep_one (trodRep_slice Tryz.underlying25 (by kernel_rfl) trod_Scope) rfl (by kernel_rfl)))
theorem trod_Msg : TrodRep GMsg Tryz.prog 174 :=
  trodRep_struct Tryz.underlying174 (by kernel_rfl) (fieldsRep_cons (trodRep_int Tryz.underlying3) rfl (by kernel_rfl) (fieldsRep_cons (trodRep_int Tryz.underlying3) rfl (by kernel_rfl) (fieldsRep_one (trodRep_str Tryz.underlying9) rfl (by kernel_rfl))))
theorem trod_Box : TrodRep GBox Tryz.prog 132 :=
  trodRep_struct Tryz.underlying132 (by kernel_rfl) (fieldsRep_cons (trodRep_str Tryz.underlying9) rfl (by kernel_rfl) (fieldsRep_cons (trodRep_int Tryz.underlying3) rfl (by kernel_rfl) (fieldsRep_cons (trodRep_int Tryz.underlying3) rfl (by kernel_rfl) (fieldsRep_one (trodRep_slice Tryz.underlying130 (by kernel_rfl) trod_Msg) rfl (by kernel_rfl)))))
theorem trod_Commit : TrodRep GCommit Tryz.prog 135 :=
  trodRep_struct Tryz.underlying135 (by kernel_rfl) (fieldsRep_cons (trodRep_int Tryz.underlying3) rfl (by kernel_rfl) (fieldsRep_cons (trodRep_int Tryz.underlying3) rfl (by kernel_rfl) (fieldsRep_cons (trodRep_int Tryz.underlying3) rfl (by kernel_rfl) (fieldsRep_cons (trodRep_int Tryz.underlying3) rfl (by kernel_rfl) (fieldsRep_cons (trodRep_str Tryz.underlying9) rfl (by kernel_rfl) (fieldsRep_one (trodRep_str Tryz.underlying9) rfl (by kernel_rfl)))))))
theorem trod_Store : TrodRep GStore Tryz.prog 58 :=
  trodRep_struct Tryz.underlying58 (by kernel_rfl) (fieldsRep_cons (trodRep_slice Tryz.underlying55 (by kernel_rfl) trod_Box) rfl (by kernel_rfl) (fieldsRep_cons (trodRep_slice Tryz.underlying56 (by kernel_rfl) trod_Commit) rfl (by kernel_rfl) (fieldsRep_one (trodRep_int Tryz.underlying3) rfl (by kernel_rfl))))
theorem trod_Seen : TrodRep GSeen Tryz.prog 149 :=
  trodRep_struct Tryz.underlying149 (by kernel_rfl) (fieldsRep_cons (trodRep_int Tryz.underlying3) rfl (by kernel_rfl) (fieldsRep_one (trodRep_int Tryz.underlying3) rfl (by kernel_rfl)))
theorem trod_View : TrodRep GView Tryz.prog 24 :=
  trodRep_struct Tryz.underlying24 (by kernel_rfl) (fieldsRep_one (trodRep_slice Tryz.underlying22 (by kernel_rfl) trod_Seen) rfl (by kernel_rfl))
theorem trod_Note : TrodRep GNote Tryz.prog 146 :=
  trodRep_struct Tryz.underlying146 (by kernel_rfl) (fieldsRep_cons (trodRep_int Tryz.underlying3) rfl (by kernel_rfl) (fieldsRep_cons (trodRep_int Tryz.underlying3) rfl (by kernel_rfl) (fieldsRep_cons (trodRep_int Tryz.underlying3) rfl (by kernel_rfl) (fieldsRep_one (trodRep_str Tryz.underlying9) rfl (by kernel_rfl)))))
theorem trod_Queue : TrodRep GQueue Tryz.prog 30 :=
  trodRep_struct Tryz.underlying30 (by kernel_rfl) (fieldsRep_cons (trodRep_slice Tryz.underlying28 (by kernel_rfl) trod_Note) rfl (by kernel_rfl) (fieldsRep_cons (trodRep_bool Tryz.underlying4) rfl (by kernel_rfl) (fieldsRep_one (trodRep_bool Tryz.underlying4) rfl (by kernel_rfl))))
theorem trod_Out : TrodRep GOut Tryz.prog 34 :=
  trodRep_struct Tryz.underlying34 (by kernel_rfl) (fieldsRep_cons (trodRep_str Tryz.underlying9) rfl (by kernel_rfl) (fieldsRep_one (trodRep_str Tryz.underlying9) rfl (by kernel_rfl)))
theorem trod_In : TrodRep GIn Tryz.prog 32 :=
  trodRep_struct Tryz.underlying32 (by kernel_rfl) (fieldsRep_cons (trodRep_str Tryz.underlying9) rfl (by kernel_rfl) (fieldsRep_one (trodRep_bool Tryz.underlying4) rfl (by kernel_rfl)))
theorem trod_Session : TrodRep GSession Tryz.prog 36 :=
  trodRep_struct Tryz.underlying36 (by kernel_rfl) (fieldsRep_cons (trodRep_bool Tryz.underlying4) rfl (by kernel_rfl) (fieldsRep_cons (trodRep_int Tryz.underlying3) rfl (by kernel_rfl) (fieldsRep_cons (trodRep_int Tryz.underlying3) rfl (by kernel_rfl) (fieldsRep_cons (trodRep_int Tryz.underlying3) rfl (by kernel_rfl) (fieldsRep_cons trod_View rfl (by kernel_rfl) (fieldsRep_cons trod_Filter rfl (by kernel_rfl) (fieldsRep_cons (trodRep_str Tryz.underlying9) rfl (by kernel_rfl) (fieldsRep_cons (trodRep_str Tryz.underlying9) rfl (by kernel_rfl) (fieldsRep_cons trod_Queue rfl (by kernel_rfl) (fieldsRep_cons trod_In rfl (by kernel_rfl) (fieldsRep_cons trod_Out rfl (by kernel_rfl) (fieldsRep_one (trodRep_int Tryz.underlying3) rfl (by kernel_rfl)))))))))))))
end Go.Proofs.YtklofnnecljajaaGreat
