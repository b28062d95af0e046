/-
  Sameness of views, boxes, sessions (of the functions).
  No condition but what the arguments' cells hold. Printed by vcgen.py.
-/
import Derived.Test.YtigebfhekmjhmaaGreatXBlLib
set_option linter.unusedSimpArgs false
set_option linter.unusedVariables false
namespace Go.Proofs.YtigebfhekmjhmaaGreat
open Go.ChangeShapes Go.WideShapes Go.ChangeAt Go.RowKit Go.Joins Go.Deep
open GoRep (rep bulk)

set_option maxRecDepth 100000 in
set_option maxHeartbeats 400000 in
theorem b_i_SameView (a : List GSpan) (b : List GSpan) : BCalls Tryz.prog 71 [.ag [.hs .no tySpan a], .ag [.hs .no tySpan b]] (.c (.bool (eqT_LSpan a b))) [] := by
  refine bcalls_of (T := ⟨[e_slices_Equal_i_Seen_i_Seen], [], [], [], none, fun _ => [], 0, [], []⟩) (L := L0) Tryz.func71 ⟨⟨rfl, rfl⟩, rfl⟩ (fun hwf => ?_)
  refine Eq.mpr (β := (True ∧ (True ∧ (True ∧ (True ∧ (True ∧ (True ∧ (True ∧ ((True ∧ true = true) ∧ (True ∧ ((true = true ∧ leC (.bool (eqT_LSpan a b)) (.bool (eqT_LSpan a b))) ∧ true = true))))))))))) (by kernel_rfl) ?_
  simp only [SIA, eq_self]
def e_i_SameView : Entry Tryz.prog := ⟨71, [.s (.list tySpan), .s (.list tySpan)], fun x => True, fun x => .c (.bool (eqT_LSpan x.1 x.2.1)), fun _ => [], fun x hx => b_i_SameView x.1 x.2.1, Tryz.call71⟩
def L_s_SameView (a : List GSpan) (b : List GSpan) : Nat → List AV → Mem → LoopA
  | 4, tm, M => ⟨Nat, fun y => (setA tm [(4, .any), (5, .c (.int .i64 ((y : Nat) : Int))), (13, .any), (14, .any), (15, .any), (16, .any), (17, .any), (18, .any), (19, .any), (20, .any), (21, .any), (22, .any), (23, .any), (24, .any), (25, .any), (26, .any), (27, .any), (28, .any), (29, .any), (30, .any)], M), fun y => (y ≤ List.length a ∧ ∀ j, j < y → nth_Span a j = nth_Span b j), fun y => (List.length a - y)⟩
  | _, _, _ => ⟨Unit, fun _ => ([], []), fun _ => False, fun _ => 0⟩
set_option maxRecDepth 100000 in
set_option maxHeartbeats 400000 in
theorem b_s_SameView (a : List GSpan) (b : List GSpan) : BCalls Tryz.prog 63 [.ag [.hs .no tySpan a], .ag [.hs .no tySpan b]] (.c (.bool (eqT_LSpan a b))) [] := by
  refine bcalls_of (T := ⟨[], [], [], [], none, fun _ => [], 0, [], []⟩) (L := (L_s_SameView a b)) Tryz.func63 ⟨⟨rfl, rfl⟩, rfl⟩ (fun hwf => ?_)
  refine Eq.mpr (β := (T10 (bif (neI ((List.length a : Nat) : Int) ((List.length b : Nat) : Int)) then (True ∧ ((true = true ∧ leC (.bool false) (.bool (eqT_LSpan a b))) ∧ true = true)) else (True ∧ ((∃ q : Nat, (q ≤ List.length a ∧ ∀ j, j < q → nth_Span a j = nth_Span b j) ∧ ((leV (.ag [.hs .no tySpan a]) (.ag [.hs .no tySpan a]) ∧ leV (.ag [.hs .no tySpan b]) (.ag [.hs .no tySpan b]) ∧ leV (.c (.bp 0 0)) (.c (.bp 0 0)) ∧ leV (.c (.bp 1 0)) (.c (.bp 1 0)) ∧ True ∧ leV (.c (.int .i64 0)) (.c (.int .i64 ((q : Nat) : Int))) ∧ leV (.c (.bp 0 0)) (.c (.bp 0 0)) ∧ leV (.c (.hs .no tySpan a)) (.c (.hs .no tySpan a)) ∧ leV (.c (.int .i64 ((List.length a : Nat) : Int))) (.c (.int .i64 ((List.length a : Nat) : Int))) ∧ leV (.c (.bp 1 0)) (.c (.bp 1 0)) ∧ leV (.c (.hs .no tySpan b)) (.c (.hs .no tySpan b)) ∧ leV (.c (.int .i64 ((List.length b : Nat) : Int))) (.c (.int .i64 ((List.length b : Nat) : Int))) ∧ leV (.c (.bool false)) (.c (.bool false)) ∧ True ∧ True ∧ True ∧ True ∧ True ∧ True ∧ True ∧ True ∧ True ∧ True ∧ True ∧ True ∧ True ∧ True ∧ True ∧ True ∧ True ∧ True ∧ True) ∧ (leB (.box [.hs .no tySpan a]) (.box [.hs .no tySpan a]) ∧ leB (.box [.hs .no tySpan b]) (.box [.hs .no tySpan b]) ∧ True) ∧ true = true)) ∧ ∀ y0 : Nat, (y0 ≤ List.length a ∧ ∀ j, j < y0 → nth_Span a j = nth_Span b j) → (T5 (bif (ltI ((y0 : Nat) : Int) ((List.length a : Nat) : Int)) then ((true = true ∧ true = true) ∧ (T3 (((2 : Nat) = 2 ∧ (0 : Int) ≤ ((y0 : Nat) : Int) ∧ (((y0 : Nat) : Int) : Int) < ((List.length a : Nat) : Int)) ∧ (T4 (((2 : Nat) = 2 ∧ (0 : Int) ≤ ((y0 : Nat) : Int) ∧ (((y0 : Nat) : Int) : Int) < ((List.length b : Nat) : Int)) ∧ (True ∧ (true = true ∧ (bif (!(eqC_Span (nth_Span a (Int.toNat ((y0 : Nat) : Int))) (nth_Span b (Int.toNat ((y0 : Nat) : Int))))) then (True ∧ ((true = true ∧ leC (.bool false) (.bool (eqT_LSpan a b))) ∧ true = true)) else (T3 (∃ y0' : Nat, (y0' ≤ List.length a ∧ ∀ j, j < y0' → nth_Span a j = nth_Span b j) ∧ (List.length a - y0') < (List.length a - y0) ∧ ((leV (.ag [.hs .no tySpan a]) (.ag [.hs .no tySpan a]) ∧ leV (.ag [.hs .no tySpan b]) (.ag [.hs .no tySpan b]) ∧ leV (.c (.bp 0 0)) (.c (.bp 0 0)) ∧ leV (.c (.bp 1 0)) (.c (.bp 1 0)) ∧ True ∧ leV (.c (.int .i64 (IntKind.wrap .i64 (((y0 : Nat) : Int) + 1)))) (.c (.int .i64 ((y0' : Nat) : Int))) ∧ leV (.c (.bp 0 0)) (.c (.bp 0 0)) ∧ leV (.c (.hs .no tySpan a)) (.c (.hs .no tySpan a)) ∧ leV (.c (.int .i64 ((List.length a : Nat) : Int))) (.c (.int .i64 ((List.length a : Nat) : Int))) ∧ leV (.c (.bp 1 0)) (.c (.bp 1 0)) ∧ leV (.c (.hs .no tySpan b)) (.c (.hs .no tySpan b)) ∧ leV (.c (.int .i64 ((List.length b : Nat) : Int))) (.c (.int .i64 ((List.length b : Nat) : Int))) ∧ leV (.c (.bool false)) (.c (.bool false)) ∧ True ∧ True ∧ True ∧ True ∧ True ∧ True ∧ True ∧ True ∧ True ∧ True ∧ True ∧ True ∧ True ∧ True ∧ True ∧ True ∧ True ∧ True ∧ True) ∧ (leB (.box [.hs .no tySpan a]) (.box [.hs .no tySpan a]) ∧ leB (.box [.hs .no tySpan b]) (.box [.hs .no tySpan b]) ∧ True) ∧ true = true))))))))))) else (True ∧ ((true = true ∧ leC (.bool true) (.bool (eqT_LSpan a b))) ∧ true = true))))))))) (by kernel_rfl) ?_
  unfold T10 T3 T4 T5
  simp only [SIA, eq_self]
  have hm : List.length a ≤ maxLen := hwf.1.1.1
  refine ⟨fun hl => ?_, fun hl => ⟨⟨0, ⟨Nat.zero_le _, allN_zero⟩, rfl⟩, fun k hk => ⟨fun hlt => ⟨by omega, by omega, fun hp => ?_, fun hp => ?_⟩, fun hge => ?_⟩⟩⟩
  · exact (eqT_LSpan_false.2 (fun e => hl (by rw [e]))).symm
  · exact (eqT_LSpan_false.2 (fun e => eqC_Span_false.1 hp (by rw [e]))).symm
  · exact ⟨k + 1, ⟨by omega, allN_step hk.2 (eqC_Span_true.1 hp)⟩, by omega, wrapN (by omega)⟩
  · obtain rfl : k = List.length a := by omega
    have hl' : List.length a = List.length b := by omega
    exact (eqT_LSpan_true.2 (eq_of_nth (t := tySpan) hl' hk.2)).symm
def e_s_SameView : Entry Tryz.prog := ⟨63, [.s (.list tySpan), .s (.list tySpan)], fun x => True, fun x => .c (.bool (eqT_LSpan x.1 x.2.1)), fun _ => [], fun x hx => b_s_SameView x.1 x.2.1, Tryz.call63⟩
end Go.Proofs.YtigebfhekmjhmaaGreat
