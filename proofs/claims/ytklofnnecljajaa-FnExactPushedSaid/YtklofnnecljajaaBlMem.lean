/-
  Copies.
  No condition but what the arguments' cells hold. Printed by vcgen.py.
-/
import Derived.Test.YtklofnnecljajaaBlLib
set_option linter.unusedSimpArgs false
set_option linter.unusedVariables false
namespace Go.Proofs.Ytklofnnecljajaa
open Go.ChangeShapes Go.WideShapes Go.ChangeAt Go.RowKit Go.Joins Go.Deep
open GoRep (rep bulk)

set_option maxRecDepth 100000 in
set_option maxHeartbeats 400000 in
theorem b_slices_Clone_i_Note_i_Note (xs : List GNote) (hpre : List.length xs ≤ rowMax) : BCalls Try.prog 111 [.c (.hs .no tyNote xs)] (.c (.row 0 0)) [.row tyNote xs 0 0 none] := by
  refine bcalls_of (T := ⟨[], [], [], [], none, fun _ => [], 0, [], []⟩) (L := L0) Try.func111 ⟨⟨rfl, rfl⟩, rfl⟩ (fun hwf => ?_)
  refine Eq.mpr (β := (True ∧ (True ∧ (∀ n1 : Bool, (n1 = true → List.length xs = 0) → (bif n1 then (True ∧ ((xs = []) ∧ true = true)) else (True ∧ (True ∧ ((List.length ([] : List GNote) + List.length xs ≤ rowMax) ∧ (True ∧ (((([] : List GNote) ++ xs) = xs) ∧ true = true)))))))))) (by kernel_rfl) ?_
  simp only [true_and, and_true, cond_iff, eqI_true, eqI_false, neI_true, neI_false, ltI_true, ltI_false, leI_true, leI_false, gtI_true, gtI_false, geI_true, geI_false, eqS_true, eqS_false, eqO_true, eqO_false, not_true, not_false, Bool.not_eq_true', Bool.not_eq_false', eq_self, leV_any, leV_int, leV_bool, leV_str, leV_refl, leB_refl, leC_int, leC_bool, leC_str, leC_hs, leB_row, Int.toNat_natCast]
  repeat' (first | apply And.intro | intro _)
  all_goals (first | trivial | omega | (simp_all [rowMax]; done) | (simp_all [rowMax]; omega))
def e_slices_Clone_i_Note_i_Note : Entry Try.prog := ⟨111, [.v (.list tyNote)], fun x => List.length x.1 ≤ rowMax, fun x => .c (.row 0 0), fun x => [.row tyNote x.1 0 0 none], fun x hx => b_slices_Clone_i_Note_i_Note x.1 hx, Try.call111⟩
set_option maxRecDepth 100000 in
set_option maxHeartbeats 400000 in
theorem b_i_copyQueue (q : GQueue) (hpre : List.length q.1 ≤ rowMax) : BCalls Try.prog 52 [.ag [.hs .no tyNote q.1, .bool q.2.1, .bool q.2.2]] (.ag [.row 0 0, .bool q.2.1, .bool q.2.2]) [.row tyNote q.1 0 0 none] := by
  refine bcalls_of (T := ⟨[e_slices_Clone_i_Note_i_Note], [], [], [], none, fun _ => [], 0, [], []⟩) (L := L0) Try.func52 ⟨⟨rfl, rfl⟩, rfl⟩ (fun hwf => ?_)
  refine Eq.mpr (β := (True ∧ (True ∧ (True ∧ (True ∧ ((List.length q.1 ≤ rowMax ∧ true = true) ∧ (True ∧ (True ∧ (True ∧ (True ∧ ((((q.1 = q.1) ∧ (true = true ∧ leC (.bool q.2.1) (.bool q.2.1)) ∧ (true = true ∧ leC (.bool q.2.2) (.bool q.2.2)) ∧ True)) ∧ true = true))))))))))) (by kernel_rfl) ?_
  simp only [true_and, and_true, cond_iff, eqI_true, eqI_false, neI_true, neI_false, ltI_true, ltI_false, leI_true, leI_false, gtI_true, gtI_false, geI_true, geI_false, eqS_true, eqS_false, eqO_true, eqO_false, not_true, not_false, Bool.not_eq_true', Bool.not_eq_false', eq_self, leV_any, leV_int, leV_bool, leV_str, leV_refl, leB_refl, leC_int, leC_bool, leC_str, leC_hs, leB_row, Int.toNat_natCast]
  repeat' (first | apply And.intro | intro _)
  all_goals (first | trivial | omega | (simp_all [rowMax]; done) | (simp_all [rowMax]; omega))
def e_i_copyQueue : Entry Try.prog := ⟨52, [.s tyQueue], fun x => List.length x.1.1 ≤ rowMax, fun x => .ag [.row 0 0, .bool x.1.2.1, .bool x.1.2.2], fun x => [.row tyNote x.1.1 0 0 none], fun x hx => b_i_copyQueue x.1 hx, Try.call52⟩
set_option maxRecDepth 100000 in
set_option maxHeartbeats 400000 in
theorem b_s_l16Copy (q : GQueue) (hpre : List.length q.1 ≤ rowMax) : BCalls Try.prog 49 [.ag [.hs .no tyNote q.1, .bool q.2.1, .bool q.2.2]] (.ag [.row 0 0, .bool q.2.1, .bool q.2.2]) [.row tyNote q.1 0 0 none] := by
  refine bcalls_of (T := ⟨[], [], [], [], none, fun _ => [], 0, [], []⟩) (L := L0) Try.func49 ⟨⟨rfl, rfl⟩, rfl⟩ (fun hwf => ?_)
  refine Eq.mpr (β := (True ∧ (True ∧ (True ∧ (True ∧ (True ∧ ((List.length ([] : List GNote) + List.length q.1 ≤ rowMax) ∧ (True ∧ (True ∧ (True ∧ (True ∧ (((((([] : List GNote) ++ q.1) = q.1) ∧ (true = true ∧ leC (.bool q.2.1) (.bool q.2.1)) ∧ (true = true ∧ leC (.bool q.2.2) (.bool q.2.2)) ∧ True)) ∧ true = true)))))))))))) (by kernel_rfl) ?_
  simp only [true_and, and_true, cond_iff, eqI_true, eqI_false, neI_true, neI_false, ltI_true, ltI_false, leI_true, leI_false, gtI_true, gtI_false, geI_true, geI_false, eqS_true, eqS_false, eqO_true, eqO_false, not_true, not_false, Bool.not_eq_true', Bool.not_eq_false', eq_self, leV_any, leV_int, leV_bool, leV_str, leV_refl, leB_refl, leC_int, leC_bool, leC_str, leC_hs, leB_row, Int.toNat_natCast]
  repeat' (first | apply And.intro | intro _)
  all_goals (first | trivial | omega | (simp_all [rowMax]; done) | (simp_all [rowMax]; omega))
def e_s_l16Copy : Entry Try.prog := ⟨49, [.s tyQueue], fun x => List.length x.1.1 ≤ rowMax, fun x => .ag [.row 0 0, .bool x.1.2.1, .bool x.1.2.2], fun x => [.row tyNote x.1.1 0 0 none], fun x hx => b_s_l16Copy x.1 hx, Try.call49⟩
end Go.Proofs.Ytklofnnecljajaa
