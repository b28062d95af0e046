/-
  Several texts in one.
-/
import Derived.Test.YtoigkpkafgjeaaaGreatDoorOBlLib
import Derived.Test.YtoigkpkafgjeaaaGreatDoorOBmFr
import Derived.Test.YtoigkpkafgjeaaaGreatDoorOBlBoxM
import Derived.Deep.RegionLaw
import Derived.WalkKit
set_option linter.unusedSimpArgs false
set_option linter.unusedVariables false
set_option maxRecDepth 100000
set_option maxHeartbeats 4000000
namespace Go.Proofs.YtoigkpkafgjeaaaGreatDoor
open Go.ChangeShapes Go.WideShapes Go.ChangeAt Go.RowKit Go.Joins Go.Deep
open GoRep (rep bulk)


end Go.Proofs.YtoigkpkafgjeaaaGreatDoor
set_option linter.unusedSimpArgs false
set_option linter.unusedVariables false
namespace Go.Proofs.YtoigkpkafgjeaaaGreatDoor
open Go.Lib Go.ChangeShapes Go.WideShapes Go.ChangeAt Go.RowKit Go.Joins Go.Deep
open GoRep (rep bulk)
section
variable {α : Type} {R : α → List Value → List Nat → Prop}
theorem ORows.cut {n : Nat} (hn : ∀ x cs F, R x cs F → cs.length = n) : ∀ (k : Nat) {xs : List α} {cs : List Value} {G : List Nat}, ORows R xs cs G →
    ∃ G1 G2, G = G1 ++ G2 ∧ ORows R (xs.take k) (cs.take (k * n)) G1 ∧ ORows R (xs.drop k) (cs.drop (k * n)) G2
  | 0, _, _, G, h => ⟨[], G, rfl, by rw [Nat.zero_mul]; exact ⟨rfl, rfl⟩, by rw [Nat.zero_mul]; exact h⟩
  | k + 1, [], _, _, ⟨h1, h2⟩ => ⟨[], [], by rw [h2]; rfl, by rw [h1]; exact ⟨by simp, rfl⟩, by rw [h1]; exact ⟨by simp, rfl⟩⟩
  | k + 1, y :: ys, _, _, ⟨c1, c2, G1, G2, h1, h2, e1, e2⟩ => by
    obtain ⟨A, B, e, q1, q2⟩ := ORows.cut hn k h2
    have hc := hn _ _ _ h1
    have e3 : (k + 1) * n = c1.length + k * n := by rw [hc, Nat.add_mul, Nat.one_mul, Nat.add_comm]
    refine ⟨G1 ++ A, B, by rw [e2, e, List.append_assoc], ⟨c1, _, G1, A, h1, q1, ?_, rfl⟩, ?_⟩
    · rw [e1, e3, List.take_length_add_append]
    · rw [e1, e3, List.drop_length_add_append]
      exact q2
theorem ORows.out {n : Nat} (hn : ∀ x cs F, R x cs F → cs.length = n) (k : Nat) {xs : List α} {cs : List Value} {G : List Nat} (h : ORows R xs cs G) :
    ∃ G1 Gd G3, G = G1 ++ (Gd ++ G3) ∧ ORows R (xs.take k ++ xs.drop (k + 1)) (cs.take (k * n) ++ cs.drop ((k + 1) * n)) (G1 ++ G3) := by
  obtain ⟨G1, G2, e1, q1, q2⟩ := h.cut hn k
  obtain ⟨Gd, G3, e2, q3, q4⟩ := q2.cut hn 1
  rw [List.drop_drop, List.drop_drop, Nat.one_mul] at q4
  refine ⟨G1, Gd, G3, by rw [e1, e2], ?_⟩
  have := q1.app q4
  rwa [show k * n + n = (k + 1) * n by rw [Nat.add_mul, Nat.one_mul]] at this
end
end Go.Proofs.YtoigkpkafgjeaaaGreatDoor
