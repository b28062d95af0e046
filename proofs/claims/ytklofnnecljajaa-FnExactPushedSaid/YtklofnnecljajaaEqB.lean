/-
  Contracts of the laws' functions eqX.
  No condition but what the arguments' cells hold. Printed by vcgen.py.
-/
import Derived.Test.YtklofnnecljajaaBmTy
set_option linter.unusedSimpArgs false
set_option linter.unusedVariables false
namespace Go.Proofs.Ytklofnnecljajaa
open Go.ChangeShapes Go.WideShapes Go.ChangeAt Go.RowKit Go.Joins Go.Deep
open GoRep (rep bulk)

set_option maxRecDepth 100000 in
set_option maxHeartbeats 4000000 in
theorem b_l_eqNote (a : GNote) (b : GNote) : BCalls Try.prog 54 [.ag [.int .i64 a.1, .int .i64 a.2.1, .int .i64 a.2.2.1, .str a.2.2.2], .ag [.int .i64 b.1, .int .i64 b.2.1, .int .i64 b.2.2.1, .str b.2.2.2]] (.c (.bool (eqT_Note a b))) [] := by
  refine bcalls_of (T := ⟨[], [], [], [], none, fun _ => [], 0, [], []⟩) (L := L0) Try.func54 ⟨⟨rfl, rfl⟩, rfl⟩ (fun hwf => ?_)
  refine Eq.mpr (β := (True ∧ (True ∧ (True ∧ (True ∧ (True ∧ (True ∧ (True ∧ (True ∧ (bif (neI a.1 b.1) then (True ∧ ((true = true ∧ leC (.bool false) (.bool (eqT_Note a b))) ∧ true = true)) else (True ∧ (True ∧ (True ∧ (True ∧ (True ∧ (bif (neI a.2.1 b.2.1) then (True ∧ ((true = true ∧ leC (.bool false) (.bool (eqT_Note a b))) ∧ true = true)) else (True ∧ (True ∧ (True ∧ (True ∧ (True ∧ (bif (neI a.2.2.1 b.2.2.1) then (True ∧ ((true = true ∧ leC (.bool false) (.bool (eqT_Note a b))) ∧ true = true)) else (True ∧ (True ∧ (True ∧ (True ∧ (True ∧ (bif (!eqS a.2.2.2 b.2.2.2) then (True ∧ ((true = true ∧ leC (.bool false) (.bool (eqT_Note a b))) ∧ true = true)) else (True ∧ ((true = true ∧ leC (.bool true) (.bool (eqT_Note a b))) ∧ true = true)))))))))))))))))))))))))))))) (by kernel_rfl) ?_
  simp only [true_and, and_true, cond_iff, eqI_true, eqI_false, neI_true, neI_false, ltI_true, ltI_false, leI_true, leI_false, gtI_true, gtI_false, geI_true, geI_false, eqS_true, eqS_false, eqO_true, eqO_false, not_true, not_false, Bool.not_eq_true', Bool.not_eq_false', eq_self, leV_any, leV_int, leV_bool, leV_str, leV_refl, leB_refl, leC_int, leC_bool, leC_str, leC_hs, leB_row, Int.toNat_natCast]
  repeat' (first | apply And.intro | intro _)
  all_goals (first
    | trivial
    | omega
    | exact ⟨0, ⟨Nat.zero_le _, allN_zero⟩, rfl⟩
    | (refine ⟨_, ⟨?_, allN_step (And.right (by assumption)) ?_⟩, ?_, wrapN ?_⟩ <;> first | omega | (simp_all [Prod.ext_iff, eqT_Note_true, eqT_Note_false, eqI_true, eqI_false, neI_true, neI_false, ltI_true, ltI_false, leI_true, leI_false, gtI_true, gtI_false, geI_true, geI_false, eqS_true, eqS_false, eqO_true, eqO_false]; done))
    | exact (eqT_Note_false.2 (fun e => by subst e; simp_all [eqT_Note_true, eqT_Note_false, eqI_true, eqI_false, neI_true, neI_false, ltI_true, ltI_false, leI_true, leI_false, gtI_true, gtI_false, geI_true, geI_false, eqS_true, eqS_false, eqO_true, eqO_false])).symm
    | (rw [Bool.eq_iff_iff]; simp_all [Prod.ext_iff, eqT_Note_true, eqT_Note_false, eqI_true, eqI_false, neI_true, neI_false, ltI_true, ltI_false, leI_true, leI_false, gtI_true, gtI_false, geI_true, geI_false, eqS_true, eqS_false, eqO_true, eqO_false]; done)
    | (simp_all [Prod.ext_iff, eqT_Note_true, eqT_Note_false, eqI_true, eqI_false, neI_true, neI_false, ltI_true, ltI_false, leI_true, leI_false, gtI_true, gtI_false, geI_true, geI_false, eqS_true, eqS_false, eqO_true, eqO_false]; done))
def e_l_eqNote : Entry Try.prog := ⟨54, [.s tyNote, .s tyNote], fun x => True, fun x => .c (.bool (eqT_Note x.1 x.2.1)), fun _ => [], fun x hx => b_l_eqNote x.1 x.2.1, Try.call54⟩
def L_l_eqNoteS (a : List GNote) (b : List GNote) : Nat → List AV → Mem → LoopA
  | 4, tm, M => ⟨Nat, fun y => (setA tm [(4, .any), (5, .c (.int .i64 ((y : Nat) : Int))), (11, .any), (12, .any), (13, .any), (14, .any), (15, .any), (16, .any), (17, .any), (18, .any), (19, .any), (20, .any), (21, .any), (22, .any), (23, .any), (24, .any), (25, .any), (26, .any)], M), fun y => (y ≤ List.length a ∧ ∀ j, j < y → nth_Note a j = nth_Note b j), fun y => (List.length a - y)⟩
  | _, _, _ => ⟨Unit, fun _ => ([], []), fun _ => False, fun _ => 0⟩
set_option maxRecDepth 100000 in
set_option maxHeartbeats 400000 in
theorem b_l_eqNoteS (a : List GNote) (b : List GNote) : BCalls Try.prog 14 [.c (.hs .no tyNote a), .c (.hs .no tyNote b)] (.c (.bool (eqT_LNote a b))) [] := by
  refine bcalls_of (T := ⟨[e_l_eqNote], [], [], [], none, fun _ => [], 0, [], []⟩) (L := (L_l_eqNoteS a b)) Try.func14 ⟨⟨rfl, rfl⟩, rfl⟩ (fun hwf => ?_)
  refine Eq.mpr (β := (True ∧ (True ∧ (True ∧ (True ∧ (True ∧ (True ∧ (bif (neI ((List.length a : Nat) : Int) ((List.length b : Nat) : Int)) then (True ∧ ((true = true ∧ leC (.bool false) (.bool (eqT_LNote a b))) ∧ true = true)) else (True ∧ ((∃ q : Nat, (q ≤ List.length a ∧ ∀ j, j < q → nth_Note a j = nth_Note b j) ∧ ((leV (.c (.hs .no tyNote a)) (.c (.hs .no tyNote a)) ∧ leV (.c (.hs .no tyNote b)) (.c (.hs .no tyNote b)) ∧ leV (.tp []) (.tp []) ∧ leV (.tp []) (.tp []) ∧ True ∧ leV (.c (.int .i64 0)) (.c (.int .i64 ((q : Nat) : Int))) ∧ leV (.c (.hs .no tyNote a)) (.c (.hs .no tyNote a)) ∧ leV (.c (.int .i64 ((List.length a : Nat) : Int))) (.c (.int .i64 ((List.length a : Nat) : Int))) ∧ leV (.c (.hs .no tyNote b)) (.c (.hs .no tyNote b)) ∧ leV (.c (.int .i64 ((List.length b : Nat) : Int))) (.c (.int .i64 ((List.length b : Nat) : Int))) ∧ leV (.c (.bool false)) (.c (.bool false)) ∧ True ∧ True ∧ True ∧ True ∧ True ∧ True ∧ True ∧ True ∧ True ∧ True ∧ True ∧ True ∧ True ∧ True ∧ True ∧ True ∧ True) ∧ (True) ∧ true = true)) ∧ ∀ y0 : Nat, (y0 ≤ List.length a ∧ ∀ j, j < y0 → nth_Note a j = nth_Note b j) → (True ∧ (True ∧ (True ∧ (True ∧ (bif (ltI ((y0 : Nat) : Int) ((List.length a : Nat) : Int)) then ((true = true ∧ true = true) ∧ (True ∧ (True ∧ (((4 : Nat) = 4 ∧ (0 : Int) ≤ ((y0 : Nat) : Int) ∧ (((y0 : Nat) : Int) : Int) < ((List.length a : Nat) : Int)) ∧ (True ∧ (True ∧ (True ∧ (((4 : Nat) = 4 ∧ (0 : Int) ≤ ((y0 : Nat) : Int) ∧ (((y0 : Nat) : Int) : Int) < ((List.length b : Nat) : Int)) ∧ (True ∧ ((True ∧ true = true) ∧ (True ∧ (bif (!(eqT_Note (nth_Note a (Int.toNat ((y0 : Nat) : Int))) (nth_Note b (Int.toNat ((y0 : Nat) : Int))))) then (True ∧ ((true = true ∧ leC (.bool false) (.bool (eqT_LNote a b))) ∧ true = true)) else (True ∧ (True ∧ (True ∧ (∃ y0' : Nat, (y0' ≤ List.length a ∧ ∀ j, j < y0' → nth_Note a j = nth_Note b j) ∧ (List.length a - y0') < (List.length a - y0) ∧ ((leV (.c (.hs .no tyNote a)) (.c (.hs .no tyNote a)) ∧ leV (.c (.hs .no tyNote b)) (.c (.hs .no tyNote b)) ∧ leV (.tp []) (.tp []) ∧ leV (.tp []) (.tp []) ∧ True ∧ leV (.c (.int .i64 (IntKind.wrap .i64 (((y0 : Nat) : Int) + 1)))) (.c (.int .i64 ((y0' : Nat) : Int))) ∧ leV (.c (.hs .no tyNote a)) (.c (.hs .no tyNote a)) ∧ leV (.c (.int .i64 ((List.length a : Nat) : Int))) (.c (.int .i64 ((List.length a : Nat) : Int))) ∧ leV (.c (.hs .no tyNote b)) (.c (.hs .no tyNote b)) ∧ leV (.c (.int .i64 ((List.length b : Nat) : Int))) (.c (.int .i64 ((List.length b : Nat) : Int))) ∧ leV (.c (.bool false)) (.c (.bool false)) ∧ True ∧ True ∧ True ∧ True ∧ True ∧ True ∧ True ∧ True ∧ True ∧ True ∧ True ∧ True ∧ True ∧ True ∧ True ∧ True ∧ True) ∧ (True) ∧ true = true))))))))))))))))) else (True ∧ ((true = true ∧ leC (.bool true) (.bool (eqT_LNote a b))) ∧ true = true))))))))))))))))) (by kernel_rfl) ?_
  simp only [true_and, and_true, cond_iff, eqI_true, eqI_false, neI_true, neI_false, ltI_true, ltI_false, leI_true, leI_false, gtI_true, gtI_false, geI_true, geI_false, eqS_true, eqS_false, eqO_true, eqO_false, not_true, not_false, Bool.not_eq_true', Bool.not_eq_false', eq_self, leV_any, leV_int, leV_bool, leV_str, leV_refl, leB_refl, leC_int, leC_bool, leC_str, leC_hs, leB_row, Int.toNat_natCast]
  have hm0 : List.length a ≤ maxLen := hwf.1.1
  repeat' (first | apply And.intro | intro _)
  all_goals (first
    | trivial
    | omega
    | exact ⟨0, ⟨Nat.zero_le _, allN_zero⟩, rfl⟩
    | (refine ⟨_, ⟨?_, allN_step (And.right (by assumption)) ?_⟩, ?_, wrapN ?_⟩ <;> first | omega | (simp_all [Prod.ext_iff, eqT_Note_true, eqT_Note_false, eqT_LNote_true, eqT_LNote_false, eqI_true, eqI_false, neI_true, neI_false, ltI_true, ltI_false, leI_true, leI_false, gtI_true, gtI_false, geI_true, geI_false, eqS_true, eqS_false, eqO_true, eqO_false]; done))
    | exact (eqT_LNote_false.2 (fun e => by subst e; simp_all [eqT_Note_true, eqT_Note_false, eqT_LNote_true, eqT_LNote_false, eqI_true, eqI_false, neI_true, neI_false, ltI_true, ltI_false, leI_true, leI_false, gtI_true, gtI_false, geI_true, geI_false, eqS_true, eqS_false, eqO_true, eqO_false])).symm
    | exact (eqT_LNote_true.2 (by have hx := eq_of_nth (t := tyNote) (xs := a) (ys := b) (show List.length a = List.length b by omega) (fun j hj => (by assumption : _ ≤ List.length a ∧ ∀ j, j < _ → nth_Note a j = nth_Note b j).2 j (by have hj' : j < List.length a := hj; omega)); simp_all [Prod.ext_iff, eqT_Note_true, eqT_Note_false, eqT_LNote_true, eqT_LNote_false, eqI_true, eqI_false, neI_true, neI_false, ltI_true, ltI_false, leI_true, leI_false, gtI_true, gtI_false, geI_true, geI_false, eqS_true, eqS_false, eqO_true, eqO_false])).symm
    | (rw [Bool.eq_iff_iff]; simp_all [Prod.ext_iff, eqT_Note_true, eqT_Note_false, eqT_LNote_true, eqT_LNote_false, eqI_true, eqI_false, neI_true, neI_false, ltI_true, ltI_false, leI_true, leI_false, gtI_true, gtI_false, geI_true, geI_false, eqS_true, eqS_false, eqO_true, eqO_false]; done)
    | (simp_all [Prod.ext_iff, eqT_Note_true, eqT_Note_false, eqT_LNote_true, eqT_LNote_false, eqI_true, eqI_false, neI_true, neI_false, ltI_true, ltI_false, leI_true, leI_false, gtI_true, gtI_false, geI_true, geI_false, eqS_true, eqS_false, eqO_true, eqO_false]; done))
def e_l_eqNoteS : Entry Try.prog := ⟨14, [.v (.list tyNote), .v (.list tyNote)], fun x => True, fun x => .c (.bool (eqT_LNote x.1 x.2.1)), fun _ => [], fun x hx => b_l_eqNoteS x.1 x.2.1, Try.call14⟩
set_option maxRecDepth 100000 in
set_option maxHeartbeats 4000000 in
theorem b_l_eqQueue (a : GQueue) (b : GQueue) : BCalls Try.prog 13 [.ag [.hs .no tyNote a.1, .bool a.2.1, .bool a.2.2], .ag [.hs .no tyNote b.1, .bool b.2.1, .bool b.2.2]] (.c (.bool (eqT_Queue a b))) [] := by
  refine bcalls_of (T := ⟨[e_l_eqNoteS], [], [], [], none, fun _ => [], 0, [], []⟩) (L := L0) Try.func13 ⟨⟨rfl, rfl⟩, rfl⟩ (fun hwf => ?_)
  refine Eq.mpr (β := (True ∧ (True ∧ (True ∧ (True ∧ (True ∧ (True ∧ (True ∧ ((True ∧ true = true) ∧ (True ∧ (bif (!(eqT_LNote a.1 b.1)) then (True ∧ ((true = true ∧ leC (.bool false) (.bool (eqT_Queue a b))) ∧ true = true)) else (True ∧ (True ∧ (True ∧ (True ∧ (some TypeDesc.bool = some TypeDesc.bool ∧ (bif (!eqO a.2.1 b.2.1) then (True ∧ ((true = true ∧ leC (.bool false) (.bool (eqT_Queue a b))) ∧ true = true)) else (True ∧ (True ∧ (True ∧ (True ∧ (some TypeDesc.bool = some TypeDesc.bool ∧ (bif (!eqO a.2.2 b.2.2) then (True ∧ ((true = true ∧ leC (.bool false) (.bool (eqT_Queue a b))) ∧ true = true)) else (True ∧ ((true = true ∧ leC (.bool true) (.bool (eqT_Queue a b))) ∧ true = true))))))))))))))))))))))))) (by kernel_rfl) ?_
  simp only [true_and, and_true, cond_iff, eqI_true, eqI_false, neI_true, neI_false, ltI_true, ltI_false, leI_true, leI_false, gtI_true, gtI_false, geI_true, geI_false, eqS_true, eqS_false, eqO_true, eqO_false, not_true, not_false, Bool.not_eq_true', Bool.not_eq_false', eq_self, leV_any, leV_int, leV_bool, leV_str, leV_refl, leB_refl, leC_int, leC_bool, leC_str, leC_hs, leB_row, Int.toNat_natCast]
  repeat' (first | apply And.intro | intro _)
  all_goals (first
    | trivial
    | omega
    | exact ⟨0, ⟨Nat.zero_le _, allN_zero⟩, rfl⟩
    | (refine ⟨_, ⟨?_, allN_step (And.right (by assumption)) ?_⟩, ?_, wrapN ?_⟩ <;> first | omega | (simp_all [Prod.ext_iff, eqT_Queue_true, eqT_Queue_false, eqT_LNote_true, eqT_LNote_false, eqI_true, eqI_false, neI_true, neI_false, ltI_true, ltI_false, leI_true, leI_false, gtI_true, gtI_false, geI_true, geI_false, eqS_true, eqS_false, eqO_true, eqO_false]; done))
    | exact (eqT_Queue_false.2 (fun e => by subst e; simp_all [eqT_Queue_true, eqT_Queue_false, eqT_LNote_true, eqT_LNote_false, eqI_true, eqI_false, neI_true, neI_false, ltI_true, ltI_false, leI_true, leI_false, gtI_true, gtI_false, geI_true, geI_false, eqS_true, eqS_false, eqO_true, eqO_false])).symm
    | (rw [Bool.eq_iff_iff]; simp_all [Prod.ext_iff, eqT_Queue_true, eqT_Queue_false, eqT_LNote_true, eqT_LNote_false, eqI_true, eqI_false, neI_true, neI_false, ltI_true, ltI_false, leI_true, leI_false, gtI_true, gtI_false, geI_true, geI_false, eqS_true, eqS_false, eqO_true, eqO_false]; done)
    | (simp_all [Prod.ext_iff, eqT_Queue_true, eqT_Queue_false, eqT_LNote_true, eqT_LNote_false, eqI_true, eqI_false, neI_true, neI_false, ltI_true, ltI_false, leI_true, leI_false, gtI_true, gtI_false, geI_true, geI_false, eqS_true, eqS_false, eqO_true, eqO_false]; done))
def e_l_eqQueue : Entry Try.prog := ⟨13, [.s tyQueue, .s tyQueue], fun x => True, fun x => .c (.bool (eqT_Queue x.1 x.2.1)), fun _ => [], fun x hx => b_l_eqQueue x.1 x.2.1, Try.call13⟩
end Go.Proofs.Ytklofnnecljajaa
