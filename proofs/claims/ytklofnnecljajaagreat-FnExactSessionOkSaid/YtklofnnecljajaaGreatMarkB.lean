/-
  The law's function markText, for the abstract machine.
  No condition.
-/
import Derived.Test.YtklofnnecljajaaGreatMarkText
import Derived.Test.YtklofnnecljajaaGreatLawA
set_option linter.unusedSimpArgs false
set_option linter.unusedVariables false
namespace Go.Proofs.YtklofnnecljajaaGreat
open Go.ChangeShapes Go.WideShapes Go.ChangeAt Go.RowKit Go.Joins Go.Deep
open GoRep (rep bulk)
open GoMark (mrk cnt mrkI cntI)

abbrev markP (k : Int) : Prop := 0 ≤ k ∧ k ≤ 4611686018427387904
theorem grow_of_ext (W : World) (E : Array Obj) (d : Nat) : Grow W [] (ext W E d) [] := by
  have h := bl_ext (Below.refl W.heap.size W) E d
  exact ⟨h.os, h.tape, h.output, h.size, fun k hk _ => h.block k hk, fun b hb => by simp [foots] at hb, fun i e he => by simp at he⟩
end Go.Proofs.YtklofnnecljajaaGreat
