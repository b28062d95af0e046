/-
  What a taken line is like.
  Plain: no program. No condition.
-/
import Derived.Test.YtbpapaponnfagaaGreatDoorLBlTakeL
import Derived.Test.YtbpapaponnfagaaGreatDoorLLinePre
set_option linter.unusedSimpArgs false
set_option linter.unusedVariables false
set_option maxRecDepth 100000
namespace Go.Proofs.YtbpapaponnfagaaGreatDoor
open Go.ChangeShapes Go.WideShapes Go.ChangeAt Go.RowKit Go.Joins Go.Deep
open GoRep (rep bulk)
theorem takeO_facts (t : ByteArray) (h6 : t.size ≤ 600) : (takeO t).2.1.size ≤ 200 ∧ ((takeO t).2.2 = 1 ∨ (takeO t).2.1 = ⟨#[]⟩) ∧ (takeO t).1.1.size ≤ t.size ∧ ((takeO t).2.2 = 1 → lineF ((takeO t).2.1 ++ (⟨#[13, 10]⟩ : ByteArray)) 0 = (((takeO t).2.1.size : Nat) : Int)) := by
  by_cases a : 0 ≤ lineF t 0 ∧ lineF t 0 ≤ 200
  · rw [to_line a]
    have hg := lineF_ge t 0 (Nat.zero_le _)
    obtain ⟨n, hn⟩ : ∃ n : Nat, lineF t 0 = (n : Int) := ⟨(lineF t 0).toNat, by omega⟩
    have e : (lineF t 0).toNat = n := by omega
    have hs : (ByteArray.extract t 0 n).size = n := size_pre (by omega)
    refine ⟨?_, .inl rfl, ?_, fun _ => ?_⟩
    · show (ByteArray.extract t 0 (lineF t 0).toNat).size ≤ 200
      rw [e, hs]; omega
    · show (ByteArray.extract t _ t.size).size ≤ t.size
      rw [ByteArray.size_extract]; omega
    · show lineF (ByteArray.extract t 0 (lineF t 0).toNat ++ _) 0 = (((ByteArray.extract t 0 (lineF t 0).toNat).size : Nat) : Int)
      rw [e, hs]
      exact line_back hn
  · by_cases b : 200 < lineF t 0 ∨ 201 < t.size
    · rw [to_long a b]
      exact ⟨Nat.zero_le _, .inr rfl, rest_size, fun h => by cases h⟩
    · rw [to_wait a b]
      exact ⟨Nat.zero_le _, .inr rfl, Nat.le_refl _, fun h => by cases h⟩
theorem takeF_facts (i : GIn) : (takeF i).2.1.size ≤ 200 ∧ ((takeF i).2.2 = 1 ∨ (takeF i).2.1 = ⟨#[]⟩) ∧ (takeF i).1.1.size ≤ i.1.size ∧ ((takeF i).2.2 = 1 → lineF ((takeF i).2.1 ++ (⟨#[13, 10]⟩ : ByteArray)) 0 = (((takeF i).2.1.size : Nat) : Int)) := by
  by_cases h : i.1.size ≤ 600
  · cases h2 : i.2 with
    | false =>
      rw [tk_no h h2]
      exact takeO_facts i.1 h
    | true =>
      by_cases h3 : twoI i.1 0 < 0
      · rw [tk_skip h h2 h3]
        exact ⟨Nat.zero_le _, .inr rfl, rest_size, fun h => by cases h⟩
      · rw [tk_go h h2 h3]
        have hr := rest_size (s := i.1)
        obtain ⟨f1, f2, f3, f4⟩ := takeO_facts (restF i.1) (by omega)
        exact ⟨f1, f2, Nat.le_trans f3 hr, f4⟩
  · rw [tk_big h]
    exact ⟨Nat.zero_le _, .inr rfl, Nat.le_refl _, fun h => by cases h⟩
end Go.Proofs.YtbpapaponnfagaaGreatDoor
