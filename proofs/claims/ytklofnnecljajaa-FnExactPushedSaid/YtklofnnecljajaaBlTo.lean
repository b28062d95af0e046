/-
  The laws' functions toX.
  No condition but what the arguments' cells hold. Printed by vcgen.py.
-/
import Derived.Test.YtklofnnecljajaaLawA
set_option linter.unusedSimpArgs false
set_option linter.unusedVariables false
namespace Go.Proofs.Ytklofnnecljajaa
open Go.ChangeShapes Go.WideShapes Go.ChangeAt Go.RowKit Go.Joins Go.Deep
open GoRep (rep bulk)

set_option maxRecDepth 100000 in
set_option maxHeartbeats 400000 in
theorem b_l_toNote (a : GNote) : BCalls Try.prog 51 [.ag [.int .i64 a.1, .int .i64 a.2.1, .int .i64 a.2.2.1, .str a.2.2.2]] (.ag [.int .i64 a.1, .int .i64 a.2.1, .int .i64 a.2.2.1, .str a.2.2.2]) [] := by
  refine bcalls_of (T := ⟨[], [], [], [], none, fun _ => [], 0, [], []⟩) (L := L0) Try.func51 ⟨⟨rfl, rfl⟩, rfl⟩ (fun hwf => ?_)
  refine Eq.mpr (β := (True ∧ (True ∧ (True ∧ (True ∧ (True ∧ (True ∧ (True ∧ (True ∧ (True ∧ (True ∧ (True ∧ (True ∧ (True ∧ (True ∧ (True ∧ (True ∧ (True ∧ (True ∧ (True ∧ (True ∧ (True ∧ ((((true = true ∧ leC (.int .i64 a.1) (.int .i64 a.1)) ∧ (true = true ∧ leC (.int .i64 a.2.1) (.int .i64 a.2.1)) ∧ (true = true ∧ leC (.int .i64 a.2.2.1) (.int .i64 a.2.2.1)) ∧ (true = true ∧ leC (.str a.2.2.2) (.str a.2.2.2)) ∧ True)) ∧ true = true))))))))))))))))))))))) (by kernel_rfl) ?_
  simp only [true_and, and_true, cond_iff, eqI_true, eqI_false, neI_true, neI_false, ltI_true, ltI_false, leI_true, leI_false, gtI_true, gtI_false, geI_true, geI_false, eqS_true, eqS_false, eqO_true, eqO_false, not_true, not_false, Bool.not_eq_true', Bool.not_eq_false', eq_self, leV_any, leV_int, leV_bool, leV_str, leV_refl, leB_refl, leC_int, leC_bool, leC_str, leC_hs, leB_row, Int.toNat_natCast]
  repeat' (first | apply And.intro | intro _)
  all_goals (first | trivial | omega)
def e_l_toNote : Entry Try.prog := ⟨51, [.s tyNote], fun x => True, fun x => .ag [.int .i64 x.1.1, .int .i64 x.1.2.1, .int .i64 x.1.2.2.1, .str x.1.2.2.2], fun _ => [], fun x hx => b_l_toNote x.1, Try.call51⟩
abbrev toP_l_toNoteS (a : List GNote) : Prop := bulk a ≤ 1048576
def L_l_toNoteS (a : List GNote) : Nat → List AV → Mem → LoopA
  | 3, tm, M => ⟨Nat, fun y => (setA tm [(4, .c (.int .i64 ((y : Nat) : Int))), (8, .any), (9, .any), (10, .any), (11, .any), (12, .any), (13, .any), (14, .any), (15, .any), (16, .any), (17, .any), (18, .any), (19, .any), (20, .any), (21, .any)], setM M [(0, .row tyNote (List.take y a ++ List.replicate (List.length a - y) z_Note) 0 0 none)]), fun y => (y ≤ List.length a), fun y => (List.length a - y)⟩
  | _, _, _ => ⟨Unit, fun _ => ([], []), fun _ => False, fun _ => 0⟩
set_option maxRecDepth 100000 in
set_option maxHeartbeats 400000 in
theorem b_l_toNoteS (a : List GNote) (hpre : toP_l_toNoteS a) : BCalls Try.prog 11 [.c (.hs .no tyNote a)] (.c (.row 0 0)) [.row tyNote a 0 0 none] := by
  refine bcalls_of (T := ⟨[e_l_toNote], [], [], [], none, fun _ => [], 0, [], []⟩) (L := (L_l_toNoteS a)) Try.func11 ⟨⟨rfl, rfl⟩, rfl⟩ (fun hwf => ?_)
  refine Eq.mpr (β := (True ∧ (True ∧ (True ∧ (((((List.length a : Nat) : Int) : Int) = ((List.length a : Nat) : Int) ∧ (0 : Int) ≤ ((List.length a : Nat) : Int) ∧ (((List.length a : Nat) : Int) : Int) ≤ ((rowMax : Nat) : Int)) ∧ (True ∧ (True ∧ ((∃ q : Nat, (q ≤ List.length a) ∧ ((leV (.c (.hs .no tyNote a)) (.c (.hs .no tyNote a)) ∧ leV (.tp []) (.tp []) ∧ leV (.c (.raw (.slice none 0 0))) (.c (.raw (.slice none 0 0))) ∧ leV (.c (.row 0 0)) (.c (.row 0 0)) ∧ leV (.c (.int .i64 0)) (.c (.int .i64 ((q : Nat) : Int))) ∧ leV (.c (.hs .no tyNote a)) (.c (.hs .no tyNote a)) ∧ leV (.c (.int .i64 ((List.length a : Nat) : Int))) (.c (.int .i64 ((List.length a : Nat) : Int))) ∧ leV (.c (.row 0 0)) (.c (.row 0 0)) ∧ True ∧ True ∧ True ∧ True ∧ True ∧ True ∧ True ∧ True ∧ True ∧ True ∧ True ∧ True ∧ True ∧ True ∧ leV (.tp []) (.tp []) ∧ True) ∧ (leB (.row tyNote (List.replicate (Int.toNat ((List.length a : Nat) : Int)) z_Note) 0 0 none) (.row tyNote (List.take q a ++ List.replicate (List.length a - q) z_Note) 0 0 none) ∧ True) ∧ true = true)) ∧ ∀ y0 : Nat, (y0 ≤ List.length a) → (True ∧ (True ∧ (True ∧ (True ∧ (bif (ltI ((y0 : Nat) : Int) ((List.length a : Nat) : Int)) then (True ∧ (True ∧ (True ∧ (True ∧ (((4 : Nat) = 4 ∧ (0 : Int) ≤ ((y0 : Nat) : Int) ∧ (((y0 : Nat) : Int) : Int) < ((List.length a : Nat) : Int)) ∧ (True ∧ ((True ∧ true = true) ∧ (((4 : Nat) = 4 ∧ (0 : Int) ≤ ((y0 : Nat) : Int) ∧ (((y0 : Nat) : Int) : Int) < ((List.length (List.take y0 a ++ List.replicate (List.length a - y0) z_Note) : Nat) : Int)) ∧ (True ∧ ∀ r1 : List GNote, r1 = (List.set (List.take y0 a ++ List.replicate (List.length a - y0) z_Note) (Int.toNat ((y0 : Nat) : Int)) (nth_Note a (Int.toNat ((y0 : Nat) : Int)))) → (True ∧ (True ∧ (True ∧ (∃ y0' : Nat, (y0' ≤ List.length a) ∧ (List.length a - y0') < (List.length a - y0) ∧ ((leV (.c (.hs .no tyNote a)) (.c (.hs .no tyNote a)) ∧ leV (.tp []) (.tp []) ∧ leV (.c (.raw (.slice none 0 0))) (.c (.raw (.slice none 0 0))) ∧ leV (.c (.row 0 0)) (.c (.row 0 0)) ∧ leV (.c (.int .i64 (IntKind.wrap .i64 (((y0 : Nat) : Int) + 1)))) (.c (.int .i64 ((y0' : Nat) : Int))) ∧ leV (.c (.hs .no tyNote a)) (.c (.hs .no tyNote a)) ∧ leV (.c (.int .i64 ((List.length a : Nat) : Int))) (.c (.int .i64 ((List.length a : Nat) : Int))) ∧ leV (.c (.row 0 0)) (.c (.row 0 0)) ∧ True ∧ True ∧ True ∧ True ∧ True ∧ True ∧ True ∧ True ∧ True ∧ True ∧ True ∧ True ∧ True ∧ True ∧ leV (.tp []) (.tp []) ∧ True) ∧ (leB (.row tyNote r1 0 0 none) (.row tyNote (List.take y0' a ++ List.replicate (List.length a - y0') z_Note) 0 0 none) ∧ True) ∧ true = true)))))))))))))) else (True ∧ (True ∧ (((List.take y0 a ++ List.replicate (List.length a - y0) z_Note) = a) ∧ true = true)))))))))))))))) (by kernel_rfl) ?_
  have hp : bulk a ≤ 1048576 := hpre
  have hb : bulk a = a.length + bulkL a := rfl
  simp only [true_and, and_true, cond_iff, eqI_true, eqI_false, neI_true, neI_false, ltI_true, ltI_false, leI_true, leI_false, gtI_true, gtI_false, geI_true, geI_false, eqS_true, eqS_false, eqO_true, eqO_false, not_true, not_false, Bool.not_eq_true', Bool.not_eq_false', eq_self, leV_any, leV_int, leV_bool, leV_str, leV_refl, leB_refl, leC_int, leC_bool, leC_str, leC_hs, leB_row, Int.toNat_natCast]
  refine ⟨⟨by omega, by unfold rowMax; omega⟩, ⟨0, Nat.zero_le _, rfl, Eq.mpr (leB_row (t := tyNote)) rfl⟩, fun k hk => ⟨fun hlt => ?_, fun hge => ?_⟩⟩
  · have hlt : k < a.length := by omega
    have hk := nth_getElem? (t := tyNote) hlt
    have hl : (List.take k a ++ List.replicate (List.length a - k) z_Note).length = a.length := by simp; omega
    have hbn : bulk (nth_Note a k) ≤ bulkL a := bulk_nth hk
    refine ⟨⟨by omega, by omega⟩, ⟨by omega, by rw [hl]; omega⟩, fun r1 hr => ⟨k + 1, hlt, by omega, wrapN (by unfold maxLen; omega), Eq.mpr (leB_row (t := tyNote)) ?_⟩⟩
    exact hr.trans (fill_set hk)
  · obtain rfl : k = a.length := by omega
    exact fill_end a _
def e_l_toNoteS : Entry Try.prog := ⟨11, [.v (.list tyNote)], fun x => toP_l_toNoteS x.1, fun x => .c (.row 0 0), fun x => [.row tyNote x.1 0 0 none], fun x hx => b_l_toNoteS x.1 hx, Try.call11⟩
abbrev toP_l_toQueue (a : GQueue) : Prop := bulk a ≤ 1048576
set_option maxRecDepth 100000 in
set_option maxHeartbeats 4000000 in
theorem b_l_toQueue (a : GQueue) (hpre : toP_l_toQueue a) : BCalls Try.prog 10 [.ag [.hs .no tyNote a.1, .bool a.2.1, .bool a.2.2]] (.ag [.row 0 0, .bool a.2.1, .bool a.2.2]) [.row tyNote a.1 0 0 none] := by
  refine bcalls_of (T := ⟨[e_l_toNoteS], [], [], [], none, fun _ => [], 0, [], []⟩) (L := L0) Try.func10 ⟨⟨rfl, rfl⟩, rfl⟩ (fun hwf => ?_)
  refine Eq.mpr (β := (True ∧ (True ∧ (True ∧ (True ∧ (True ∧ ((toP_l_toNoteS a.1 ∧ true = true) ∧ (True ∧ (True ∧ (True ∧ (True ∧ (True ∧ (True ∧ (True ∧ (True ∧ (True ∧ (True ∧ (True ∧ (True ∧ ((((a.1 = a.1) ∧ (true = true ∧ leC (.bool a.2.1) (.bool a.2.1)) ∧ (true = true ∧ leC (.bool a.2.2) (.bool a.2.2)) ∧ True)) ∧ true = true)))))))))))))))))))) (by kernel_rfl) ?_
  have hp : bulk a ≤ 1048576 := hpre
  have hb : bulk a = bulk a.1 + (0 + (0)) := rfl
  simp only [true_and, and_true, cond_iff, eqI_true, eqI_false, neI_true, neI_false, ltI_true, ltI_false, leI_true, leI_false, gtI_true, gtI_false, geI_true, geI_false, eqS_true, eqS_false, eqO_true, eqO_false, not_true, not_false, Bool.not_eq_true', Bool.not_eq_false', eq_self, leV_any, leV_int, leV_bool, leV_str, leV_refl, leB_refl, leC_int, leC_bool, leC_str, leC_hs, leB_row, Int.toNat_natCast]
  repeat' (first | apply And.intro | intro _)
  all_goals (first | trivial | omega)
def e_l_toQueue : Entry Try.prog := ⟨10, [.s tyQueue], fun x => toP_l_toQueue x.1, fun x => .ag [.row 0 0, .bool x.1.2.1, .bool x.1.2.2], fun x => [.row tyNote x.1.1 0 0 none], fun x hx => b_l_toQueue x.1 hx, Try.call10⟩
end Go.Proofs.Ytklofnnecljajaa
