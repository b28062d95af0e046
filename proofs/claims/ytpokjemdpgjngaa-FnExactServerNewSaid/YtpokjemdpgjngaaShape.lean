/-
  What the library's variables hold in a world of the claims' form.
  No condition.
-/
import Derived.Test.YtpokjemdpgjngaaBmN
import Derived.HandedShaped
import Derived.Shelf.Vars
set_option linter.unusedSimpArgs false
set_option linter.unusedVariables false
namespace Go.Proofs.Ytpokjemdpgjngaa
theorem glob_ok {W : World} (h : W.ShapedOpen Try.prog) : Glob W [] := by
  intro g hg
  rcases List.mem_cons.1 hg with rfl | hg
  · obtain ⟨m, hm⟩ := cell_of_shapedOpen_int (zero := #[.int .i64 0]) (t := 3) (g := 0) h (of_decide_eq_true (by kernel_rfl)) (by kernel_rfl) rfl (by kernel_rfl) (by kernel_rfl) Try.underlying3
    refine ⟨⟨m, hm⟩, ?_, by simp [foots]⟩
    refine Nat.lt_of_not_le fun hle => ?_
    have h0 : W.heap[0]? = none := Array.getElem?_eq_none hle
    simp [World.cell?, h0] at hm
  cases hg
end Go.Proofs.Ytpokjemdpgjngaa
