/-
  The laws' functions toX.
  No condition but what the arguments' cells hold. Printed by vcgen.py.
-/
import Derived.Test.YtigebfhekmjhmaaGreatLawA
set_option linter.unusedSimpArgs false
set_option linter.unusedVariables false
namespace Go.Proofs.YtigebfhekmjhmaaGreat
open Go.ChangeShapes Go.WideShapes Go.ChangeAt Go.RowKit Go.Joins Go.Deep
open GoRep (rep bulk)

set_option maxRecDepth 100000 in
set_option maxHeartbeats 400000 in
theorem b_l_toMsg (a : GMsg) : BCalls Tryz.prog 249 [.ag [.int .i64 a.1, .int .i64 a.2.1, .str a.2.2]] (.ag [.int .i64 a.1, .int .i64 a.2.1, .str a.2.2]) [] := by
  refine bcalls_of (T := ⟨[], [], [], [], none, fun _ => [], 0, [], []⟩) (L := L0) Tryz.func249 ⟨⟨rfl, rfl⟩, rfl⟩ (fun hwf => ?_)
  refine Eq.mpr (β := (True ∧ (True ∧ (True ∧ (True ∧ (True ∧ (True ∧ (True ∧ (True ∧ (True ∧ (True ∧ (True ∧ (True ∧ (True ∧ (True ∧ (True ∧ (True ∧ (True ∧ ((((true = true ∧ leC (.int .i64 a.1) (.int .i64 a.1)) ∧ (true = true ∧ leC (.int .i64 a.2.1) (.int .i64 a.2.1)) ∧ (true = true ∧ leC (.str a.2.2) (.str a.2.2)) ∧ True)) ∧ true = true))))))))))))))))))) (by kernel_rfl) ?_
  simp only [true_and, and_true, cond_iff, eqI_true, eqI_false, neI_true, neI_false, ltI_true, ltI_false, leI_true, leI_false, gtI_true, gtI_false, geI_true, geI_false, eqS_true, eqS_false, eqO_true, eqO_false, not_true, not_false, Bool.not_eq_true', Bool.not_eq_false', eq_self, leV_any, leV_int, leV_bool, leV_str, leV_refl, leB_refl, leC_int, leC_bool, leC_str, leC_hs, leB_row, Int.toNat_natCast]
  repeat' (first | apply And.intro | intro _)
  all_goals (first | trivial | omega)
def e_l_toMsg : Entry Tryz.prog := ⟨249, [.s tyMsg], fun x => True, fun x => .ag [.int .i64 x.1.1, .int .i64 x.1.2.1, .str x.1.2.2], fun _ => [], fun x hx => b_l_toMsg x.1, Tryz.call249⟩
abbrev toP_l_toMsgS (a : List GMsg) : Prop := bulk a ≤ 1048576
def L_l_toMsgS (a : List GMsg) : Nat → List AV → Mem → LoopA
  | 3, tm, M => ⟨Nat, fun y => (setA tm [(4, .c (.int .i64 ((y : Nat) : Int))), (8, .any), (9, .any), (10, .any), (11, .any), (12, .any), (13, .any), (14, .any), (15, .any), (16, .any), (17, .any), (18, .any), (19, .any), (20, .any), (21, .any)], setM M [(0, .row tyMsg (List.take y a ++ List.replicate (List.length a - y) z_Msg) 0 0 none)]), fun y => (y ≤ List.length a), fun y => (List.length a - y)⟩
  | _, _, _ => ⟨Unit, fun _ => ([], []), fun _ => False, fun _ => 0⟩
set_option maxRecDepth 100000 in
set_option maxHeartbeats 400000 in
theorem b_l_toMsgS (a : List GMsg) (hpre : toP_l_toMsgS a) : BCalls Tryz.prog 193 [.c (.hs .no tyMsg a)] (.c (.row 0 0)) [.row tyMsg a 0 0 none] := by
  refine bcalls_of (T := ⟨[e_l_toMsg], [], [], [], none, fun _ => [], 0, [], []⟩) (L := (L_l_toMsgS a)) Tryz.func193 ⟨⟨rfl, rfl⟩, rfl⟩ (fun hwf => ?_)
  refine Eq.mpr (β := (True ∧ (True ∧ (True ∧ (((((List.length a : Nat) : Int) : Int) = ((List.length a : Nat) : Int) ∧ (0 : Int) ≤ ((List.length a : Nat) : Int) ∧ (((List.length a : Nat) : Int) : Int) ≤ ((rowMax : Nat) : Int)) ∧ (True ∧ (True ∧ ((∃ q : Nat, (q ≤ List.length a) ∧ ((leV (.c (.hs .no tyMsg a)) (.c (.hs .no tyMsg a)) ∧ leV (.tp []) (.tp []) ∧ leV (.c (.raw (.slice none 0 0))) (.c (.raw (.slice none 0 0))) ∧ leV (.c (.row 0 0)) (.c (.row 0 0)) ∧ leV (.c (.int .i64 0)) (.c (.int .i64 ((q : Nat) : Int))) ∧ leV (.c (.hs .no tyMsg a)) (.c (.hs .no tyMsg a)) ∧ leV (.c (.int .i64 ((List.length a : Nat) : Int))) (.c (.int .i64 ((List.length a : Nat) : Int))) ∧ leV (.c (.row 0 0)) (.c (.row 0 0)) ∧ True ∧ True ∧ True ∧ True ∧ True ∧ True ∧ True ∧ True ∧ True ∧ True ∧ True ∧ True ∧ True ∧ True ∧ leV (.tp []) (.tp []) ∧ True) ∧ (leB (.row tyMsg (List.replicate (Int.toNat ((List.length a : Nat) : Int)) z_Msg) 0 0 none) (.row tyMsg (List.take q a ++ List.replicate (List.length a - q) z_Msg) 0 0 none) ∧ True) ∧ true = true)) ∧ ∀ y0 : Nat, (y0 ≤ List.length a) → (True ∧ (True ∧ (True ∧ (True ∧ (bif (ltI ((y0 : Nat) : Int) ((List.length a : Nat) : Int)) then (True ∧ (True ∧ (True ∧ (True ∧ (((3 : Nat) = 3 ∧ (0 : Int) ≤ ((y0 : Nat) : Int) ∧ (((y0 : Nat) : Int) : Int) < ((List.length a : Nat) : Int)) ∧ (True ∧ ((True ∧ true = true) ∧ (((3 : Nat) = 3 ∧ (0 : Int) ≤ ((y0 : Nat) : Int) ∧ (((y0 : Nat) : Int) : Int) < ((List.length (List.take y0 a ++ List.replicate (List.length a - y0) z_Msg) : Nat) : Int)) ∧ (True ∧ ∀ r1 : List GMsg, r1 = (List.set (List.take y0 a ++ List.replicate (List.length a - y0) z_Msg) (Int.toNat ((y0 : Nat) : Int)) (nth_Msg a (Int.toNat ((y0 : Nat) : Int)))) → (True ∧ (True ∧ (True ∧ (∃ y0' : Nat, (y0' ≤ List.length a) ∧ (List.length a - y0') < (List.length a - y0) ∧ ((leV (.c (.hs .no tyMsg a)) (.c (.hs .no tyMsg a)) ∧ leV (.tp []) (.tp []) ∧ leV (.c (.raw (.slice none 0 0))) (.c (.raw (.slice none 0 0))) ∧ leV (.c (.row 0 0)) (.c (.row 0 0)) ∧ leV (.c (.int .i64 (IntKind.wrap .i64 (((y0 : Nat) : Int) + 1)))) (.c (.int .i64 ((y0' : Nat) : Int))) ∧ leV (.c (.hs .no tyMsg a)) (.c (.hs .no tyMsg a)) ∧ leV (.c (.int .i64 ((List.length a : Nat) : Int))) (.c (.int .i64 ((List.length a : Nat) : Int))) ∧ leV (.c (.row 0 0)) (.c (.row 0 0)) ∧ True ∧ True ∧ True ∧ True ∧ True ∧ True ∧ True ∧ True ∧ True ∧ True ∧ True ∧ True ∧ True ∧ True ∧ leV (.tp []) (.tp []) ∧ True) ∧ (leB (.row tyMsg r1 0 0 none) (.row tyMsg (List.take y0' a ++ List.replicate (List.length a - y0') z_Msg) 0 0 none) ∧ True) ∧ true = true)))))))))))))) else (True ∧ (True ∧ (((List.take y0 a ++ List.replicate (List.length a - y0) z_Msg) = a) ∧ true = true)))))))))))))))) (by kernel_rfl) ?_
  have hp : bulk a ≤ 1048576 := hpre
  have hb : bulk a = a.length + bulkL a := rfl
  simp only [true_and, and_true, cond_iff, eqI_true, eqI_false, neI_true, neI_false, ltI_true, ltI_false, leI_true, leI_false, gtI_true, gtI_false, geI_true, geI_false, eqS_true, eqS_false, eqO_true, eqO_false, not_true, not_false, Bool.not_eq_true', Bool.not_eq_false', eq_self, leV_any, leV_int, leV_bool, leV_str, leV_refl, leB_refl, leC_int, leC_bool, leC_str, leC_hs, leB_row, Int.toNat_natCast]
  refine ⟨⟨by omega, by unfold rowMax; omega⟩, ⟨0, Nat.zero_le _, rfl, Eq.mpr (leB_row (t := tyMsg)) rfl⟩, fun k hk => ⟨fun hlt => ?_, fun hge => ?_⟩⟩
  · have hlt : k < a.length := by omega
    have hk := nth_getElem? (t := tyMsg) hlt
    have hl : (List.take k a ++ List.replicate (List.length a - k) z_Msg).length = a.length := by simp; omega
    have hbn : bulk (nth_Msg a k) ≤ bulkL a := bulk_nth hk
    refine ⟨⟨by omega, by omega⟩, ⟨by omega, by rw [hl]; omega⟩, fun r1 hr => ⟨k + 1, hlt, by omega, wrapN (by unfold maxLen; omega), Eq.mpr (leB_row (t := tyMsg)) ?_⟩⟩
    exact hr.trans (fill_set hk)
  · obtain rfl : k = a.length := by omega
    exact fill_end a _
def e_l_toMsgS : Entry Tryz.prog := ⟨193, [.v (.list tyMsg)], fun x => toP_l_toMsgS x.1, fun x => .c (.row 0 0), fun x => [.row tyMsg x.1 0 0 none], fun x hx => b_l_toMsgS x.1 hx, Tryz.call193⟩
abbrev toP_l_toBox (a : GBox) : Prop := bulk a ≤ 1048576
set_option maxRecDepth 100000 in
set_option maxHeartbeats 4000000 in
theorem b_l_toBox (a : GBox) (hpre : toP_l_toBox a) : BCalls Tryz.prog 125 [.ag [.str a.1, .int .i64 a.2.1, .int .i64 a.2.2.1, .hs .no tyMsg a.2.2.2]] (.ag [.str a.1, .int .i64 a.2.1, .int .i64 a.2.2.1, .row 0 0]) [.row tyMsg a.2.2.2 0 0 none] := by
  refine bcalls_of (T := ⟨[e_l_toMsgS], [], [], [], none, fun _ => [], 0, [], []⟩) (L := L0) Tryz.func125 ⟨⟨rfl, rfl⟩, rfl⟩ (fun hwf => ?_)
  refine Eq.mpr (β := (True ∧ (True ∧ (True ∧ (True ∧ (True ∧ (True ∧ (True ∧ (True ∧ (True ∧ (True ∧ (True ∧ (True ∧ (True ∧ (True ∧ (True ∧ (True ∧ (True ∧ ((toP_l_toMsgS a.2.2.2 ∧ true = true) ∧ (True ∧ (True ∧ (True ∧ (True ∧ ((((true = true ∧ leC (.str a.1) (.str a.1)) ∧ (true = true ∧ leC (.int .i64 a.2.1) (.int .i64 a.2.1)) ∧ (true = true ∧ leC (.int .i64 a.2.2.1) (.int .i64 a.2.2.1)) ∧ (a.2.2.2 = a.2.2.2) ∧ True)) ∧ true = true)))))))))))))))))))))))) (by kernel_rfl) ?_
  have hp : bulk a ≤ 1048576 := hpre
  have hb : bulk a = ByteArray.size a.1 + (0 + (0 + (bulk a.2.2.2))) := rfl
  simp only [true_and, and_true, cond_iff, eqI_true, eqI_false, neI_true, neI_false, ltI_true, ltI_false, leI_true, leI_false, gtI_true, gtI_false, geI_true, geI_false, eqS_true, eqS_false, eqO_true, eqO_false, not_true, not_false, Bool.not_eq_true', Bool.not_eq_false', eq_self, leV_any, leV_int, leV_bool, leV_str, leV_refl, leB_refl, leC_int, leC_bool, leC_str, leC_hs, leB_row, Int.toNat_natCast]
  repeat' (first | apply And.intro | intro _)
  all_goals (first | trivial | omega)
def e_l_toBox : Entry Tryz.prog := ⟨125, [.s tyBox], fun x => toP_l_toBox x.1, fun x => .ag [.str x.1.1, .int .i64 x.1.2.1, .int .i64 x.1.2.2.1, .row 0 0], fun x => [.row tyMsg x.1.2.2.2 0 0 none], fun x hx => b_l_toBox x.1 hx, Tryz.call125⟩
abbrev toP_l_toBoxS (a : List GBox) : Prop := bulk a ≤ 1048576
def L_l_toBoxS (a : List GBox) : Nat → List AV → Mem → LoopA
  | 3, tm, M => ⟨Nat, fun y => (setA tm [(4, .c (.int .i64 ((y : Nat) : Int))), (8, .any), (9, .any), (10, .any), (11, .any), (12, .any), (13, .any), (14, .any), (15, .any), (16, .any), (17, .any), (18, .any), (19, .any), (20, .any), (21, .any)], setM M [(0, .row tyBox (List.take y a ++ List.replicate (List.length a - y) z_Box) 0 0 none)]), fun y => (y ≤ List.length a), fun y => (List.length a - y)⟩
  | _, _, _ => ⟨Unit, fun _ => ([], []), fun _ => False, fun _ => 0⟩
set_option maxRecDepth 100000 in
set_option maxHeartbeats 400000 in
theorem b_l_toBoxS (a : List GBox) (hpre : toP_l_toBoxS a) : BCalls Tryz.prog 52 [.c (.hs .no tyBox a)] (.c (.row 0 0)) [.row tyBox a 0 0 none] := by
  refine bcalls_of (T := ⟨[e_l_toBox], [], [], [], none, fun _ => [], 0, [], []⟩) (L := (L_l_toBoxS a)) Tryz.func52 ⟨⟨rfl, rfl⟩, rfl⟩ (fun hwf => ?_)
  refine Eq.mpr (β := (True ∧ (True ∧ (True ∧ (((((List.length a : Nat) : Int) : Int) = ((List.length a : Nat) : Int) ∧ (0 : Int) ≤ ((List.length a : Nat) : Int) ∧ (((List.length a : Nat) : Int) : Int) ≤ ((rowMax : Nat) : Int)) ∧ (True ∧ (True ∧ ((∃ q : Nat, (q ≤ List.length a) ∧ ((leV (.c (.hs .no tyBox a)) (.c (.hs .no tyBox a)) ∧ leV (.tp []) (.tp []) ∧ leV (.c (.raw (.slice none 0 0))) (.c (.raw (.slice none 0 0))) ∧ leV (.c (.row 0 0)) (.c (.row 0 0)) ∧ leV (.c (.int .i64 0)) (.c (.int .i64 ((q : Nat) : Int))) ∧ leV (.c (.hs .no tyBox a)) (.c (.hs .no tyBox a)) ∧ leV (.c (.int .i64 ((List.length a : Nat) : Int))) (.c (.int .i64 ((List.length a : Nat) : Int))) ∧ leV (.c (.row 0 0)) (.c (.row 0 0)) ∧ True ∧ True ∧ True ∧ True ∧ True ∧ True ∧ True ∧ True ∧ True ∧ True ∧ True ∧ True ∧ True ∧ True ∧ leV (.tp []) (.tp []) ∧ True) ∧ (leB (.row tyBox (List.replicate (Int.toNat ((List.length a : Nat) : Int)) z_Box) 0 0 none) (.row tyBox (List.take q a ++ List.replicate (List.length a - q) z_Box) 0 0 none) ∧ True) ∧ true = true)) ∧ ∀ y0 : Nat, (y0 ≤ List.length a) → (True ∧ (True ∧ (True ∧ (True ∧ (bif (ltI ((y0 : Nat) : Int) ((List.length a : Nat) : Int)) then (True ∧ (True ∧ (True ∧ (True ∧ (((4 : Nat) = 4 ∧ (0 : Int) ≤ ((y0 : Nat) : Int) ∧ (((y0 : Nat) : Int) : Int) < ((List.length a : Nat) : Int)) ∧ (True ∧ ((toP_l_toBox (nth_Box a (Int.toNat ((y0 : Nat) : Int))) ∧ true = true) ∧ (((4 : Nat) = 4 ∧ (0 : Int) ≤ ((y0 : Nat) : Int) ∧ (((y0 : Nat) : Int) : Int) < ((List.length (List.take y0 a ++ List.replicate (List.length a - y0) z_Box) : Nat) : Int)) ∧ (True ∧ ∀ r1 : List GBox, r1 = (List.set (List.take y0 a ++ List.replicate (List.length a - y0) z_Box) (Int.toNat ((y0 : Nat) : Int)) (nth_Box a (Int.toNat ((y0 : Nat) : Int)))) → (True ∧ (True ∧ (True ∧ (∃ y0' : Nat, (y0' ≤ List.length a) ∧ (List.length a - y0') < (List.length a - y0) ∧ ((leV (.c (.hs .no tyBox a)) (.c (.hs .no tyBox a)) ∧ leV (.tp []) (.tp []) ∧ leV (.c (.raw (.slice none 0 0))) (.c (.raw (.slice none 0 0))) ∧ leV (.c (.row 0 0)) (.c (.row 0 0)) ∧ leV (.c (.int .i64 (IntKind.wrap .i64 (((y0 : Nat) : Int) + 1)))) (.c (.int .i64 ((y0' : Nat) : Int))) ∧ leV (.c (.hs .no tyBox a)) (.c (.hs .no tyBox a)) ∧ leV (.c (.int .i64 ((List.length a : Nat) : Int))) (.c (.int .i64 ((List.length a : Nat) : Int))) ∧ leV (.c (.row 0 0)) (.c (.row 0 0)) ∧ True ∧ True ∧ True ∧ True ∧ True ∧ True ∧ True ∧ True ∧ True ∧ True ∧ True ∧ True ∧ True ∧ True ∧ leV (.tp []) (.tp []) ∧ True) ∧ (leB (.row tyBox r1 0 0 none) (.row tyBox (List.take y0' a ++ List.replicate (List.length a - y0') z_Box) 0 0 none) ∧ True) ∧ true = true)))))))))))))) else (True ∧ (True ∧ (((List.take y0 a ++ List.replicate (List.length a - y0) z_Box) = a) ∧ true = true)))))))))))))))) (by kernel_rfl) ?_
  have hp : bulk a ≤ 1048576 := hpre
  have hb : bulk a = a.length + bulkL a := rfl
  simp only [true_and, and_true, cond_iff, eqI_true, eqI_false, neI_true, neI_false, ltI_true, ltI_false, leI_true, leI_false, gtI_true, gtI_false, geI_true, geI_false, eqS_true, eqS_false, eqO_true, eqO_false, not_true, not_false, Bool.not_eq_true', Bool.not_eq_false', eq_self, leV_any, leV_int, leV_bool, leV_str, leV_refl, leB_refl, leC_int, leC_bool, leC_str, leC_hs, leB_row, Int.toNat_natCast]
  refine ⟨⟨by omega, by unfold rowMax; omega⟩, ⟨0, Nat.zero_le _, rfl, Eq.mpr (leB_row (t := tyBox)) rfl⟩, fun k hk => ⟨fun hlt => ?_, fun hge => ?_⟩⟩
  · have hlt : k < a.length := by omega
    have hk := nth_getElem? (t := tyBox) hlt
    have hl : (List.take k a ++ List.replicate (List.length a - k) z_Box).length = a.length := by simp; omega
    have hbn : bulk (nth_Box a k) ≤ bulkL a := bulk_nth hk
    refine ⟨⟨by omega, by omega⟩, by show bulk _ ≤ _; omega, ⟨by omega, by rw [hl]; omega⟩, fun r1 hr => ⟨k + 1, hlt, by omega, wrapN (by unfold maxLen; omega), Eq.mpr (leB_row (t := tyBox)) ?_⟩⟩
    exact hr.trans (fill_set hk)
  · obtain rfl : k = a.length := by omega
    exact fill_end a _
def e_l_toBoxS : Entry Tryz.prog := ⟨52, [.v (.list tyBox)], fun x => toP_l_toBoxS x.1, fun x => .c (.row 0 0), fun x => [.row tyBox x.1 0 0 none], fun x hx => b_l_toBoxS x.1 hx, Tryz.call52⟩
set_option maxRecDepth 100000 in
set_option maxHeartbeats 400000 in
theorem b_l_toCommit (a : GCommit) : BCalls Tryz.prog 126 [.ag [.int .i64 a.1, .int .i64 a.2.1, .int .i64 a.2.2.1, .int .i64 a.2.2.2.1, .str a.2.2.2.2.1, .str a.2.2.2.2.2]] (.ag [.int .i64 a.1, .int .i64 a.2.1, .int .i64 a.2.2.1, .int .i64 a.2.2.2.1, .str a.2.2.2.2.1, .str a.2.2.2.2.2]) [] := by
  refine bcalls_of (T := ⟨[], [], [], [], none, fun _ => [], 0, [], []⟩) (L := L0) Tryz.func126 ⟨⟨rfl, rfl⟩, rfl⟩ (fun hwf => ?_)
  refine Eq.mpr (β := (True ∧ (True ∧ (True ∧ (True ∧ (True ∧ (True ∧ (True ∧ (True ∧ (True ∧ (True ∧ (True ∧ (True ∧ (True ∧ (True ∧ (True ∧ (True ∧ (True ∧ (True ∧ (True ∧ (True ∧ (True ∧ (True ∧ (True ∧ (True ∧ (True ∧ (True ∧ (True ∧ (True ∧ (True ∧ ((((true = true ∧ leC (.int .i64 a.1) (.int .i64 a.1)) ∧ (true = true ∧ leC (.int .i64 a.2.1) (.int .i64 a.2.1)) ∧ (true = true ∧ leC (.int .i64 a.2.2.1) (.int .i64 a.2.2.1)) ∧ (true = true ∧ leC (.int .i64 a.2.2.2.1) (.int .i64 a.2.2.2.1)) ∧ (true = true ∧ leC (.str a.2.2.2.2.1) (.str a.2.2.2.2.1)) ∧ (true = true ∧ leC (.str a.2.2.2.2.2) (.str a.2.2.2.2.2)) ∧ True)) ∧ true = true))))))))))))))))))))))))))))))) (by kernel_rfl) ?_
  simp only [true_and, and_true, cond_iff, eqI_true, eqI_false, neI_true, neI_false, ltI_true, ltI_false, leI_true, leI_false, gtI_true, gtI_false, geI_true, geI_false, eqS_true, eqS_false, eqO_true, eqO_false, not_true, not_false, Bool.not_eq_true', Bool.not_eq_false', eq_self, leV_any, leV_int, leV_bool, leV_str, leV_refl, leB_refl, leC_int, leC_bool, leC_str, leC_hs, leB_row, Int.toNat_natCast]
  repeat' (first | apply And.intro | intro _)
  all_goals (first | trivial | omega)
def e_l_toCommit : Entry Tryz.prog := ⟨126, [.s tyCommit], fun x => True, fun x => .ag [.int .i64 x.1.1, .int .i64 x.1.2.1, .int .i64 x.1.2.2.1, .int .i64 x.1.2.2.2.1, .str x.1.2.2.2.2.1, .str x.1.2.2.2.2.2], fun _ => [], fun x hx => b_l_toCommit x.1, Tryz.call126⟩
abbrev toP_l_toCommitS (a : List GCommit) : Prop := bulk a ≤ 1048576
def L_l_toCommitS (a : List GCommit) : Nat → List AV → Mem → LoopA
  | 3, tm, M => ⟨Nat, fun y => (setA tm [(4, .c (.int .i64 ((y : Nat) : Int))), (8, .any), (9, .any), (10, .any), (11, .any), (12, .any), (13, .any), (14, .any), (15, .any), (16, .any), (17, .any), (18, .any), (19, .any), (20, .any), (21, .any)], setM M [(0, .row tyCommit (List.take y a ++ List.replicate (List.length a - y) z_Commit) 0 0 none)]), fun y => (y ≤ List.length a), fun y => (List.length a - y)⟩
  | _, _, _ => ⟨Unit, fun _ => ([], []), fun _ => False, fun _ => 0⟩
set_option maxRecDepth 100000 in
set_option maxHeartbeats 400000 in
theorem b_l_toCommitS (a : List GCommit) (hpre : toP_l_toCommitS a) : BCalls Tryz.prog 53 [.c (.hs .no tyCommit a)] (.c (.row 0 0)) [.row tyCommit a 0 0 none] := by
  refine bcalls_of (T := ⟨[e_l_toCommit], [], [], [], none, fun _ => [], 0, [], []⟩) (L := (L_l_toCommitS a)) Tryz.func53 ⟨⟨rfl, rfl⟩, rfl⟩ (fun hwf => ?_)
  refine Eq.mpr (β := (True ∧ (True ∧ (True ∧ (((((List.length a : Nat) : Int) : Int) = ((List.length a : Nat) : Int) ∧ (0 : Int) ≤ ((List.length a : Nat) : Int) ∧ (((List.length a : Nat) : Int) : Int) ≤ ((rowMax : Nat) : Int)) ∧ (True ∧ (True ∧ ((∃ q : Nat, (q ≤ List.length a) ∧ ((leV (.c (.hs .no tyCommit a)) (.c (.hs .no tyCommit a)) ∧ leV (.tp []) (.tp []) ∧ leV (.c (.raw (.slice none 0 0))) (.c (.raw (.slice none 0 0))) ∧ leV (.c (.row 0 0)) (.c (.row 0 0)) ∧ leV (.c (.int .i64 0)) (.c (.int .i64 ((q : Nat) : Int))) ∧ leV (.c (.hs .no tyCommit a)) (.c (.hs .no tyCommit a)) ∧ leV (.c (.int .i64 ((List.length a : Nat) : Int))) (.c (.int .i64 ((List.length a : Nat) : Int))) ∧ leV (.c (.row 0 0)) (.c (.row 0 0)) ∧ True ∧ True ∧ True ∧ True ∧ True ∧ True ∧ True ∧ True ∧ True ∧ True ∧ True ∧ True ∧ True ∧ True ∧ leV (.tp []) (.tp []) ∧ True) ∧ (leB (.row tyCommit (List.replicate (Int.toNat ((List.length a : Nat) : Int)) z_Commit) 0 0 none) (.row tyCommit (List.take q a ++ List.replicate (List.length a - q) z_Commit) 0 0 none) ∧ True) ∧ true = true)) ∧ ∀ y0 : Nat, (y0 ≤ List.length a) → (True ∧ (True ∧ (True ∧ (True ∧ (bif (ltI ((y0 : Nat) : Int) ((List.length a : Nat) : Int)) then (True ∧ (True ∧ (True ∧ (True ∧ (((6 : Nat) = 6 ∧ (0 : Int) ≤ ((y0 : Nat) : Int) ∧ (((y0 : Nat) : Int) : Int) < ((List.length a : Nat) : Int)) ∧ (True ∧ ((True ∧ true = true) ∧ (((6 : Nat) = 6 ∧ (0 : Int) ≤ ((y0 : Nat) : Int) ∧ (((y0 : Nat) : Int) : Int) < ((List.length (List.take y0 a ++ List.replicate (List.length a - y0) z_Commit) : Nat) : Int)) ∧ (True ∧ ∀ r1 : List GCommit, r1 = (List.set (List.take y0 a ++ List.replicate (List.length a - y0) z_Commit) (Int.toNat ((y0 : Nat) : Int)) (nth_Commit a (Int.toNat ((y0 : Nat) : Int)))) → (True ∧ (True ∧ (True ∧ (∃ y0' : Nat, (y0' ≤ List.length a) ∧ (List.length a - y0') < (List.length a - y0) ∧ ((leV (.c (.hs .no tyCommit a)) (.c (.hs .no tyCommit a)) ∧ leV (.tp []) (.tp []) ∧ leV (.c (.raw (.slice none 0 0))) (.c (.raw (.slice none 0 0))) ∧ leV (.c (.row 0 0)) (.c (.row 0 0)) ∧ leV (.c (.int .i64 (IntKind.wrap .i64 (((y0 : Nat) : Int) + 1)))) (.c (.int .i64 ((y0' : Nat) : Int))) ∧ leV (.c (.hs .no tyCommit a)) (.c (.hs .no tyCommit a)) ∧ leV (.c (.int .i64 ((List.length a : Nat) : Int))) (.c (.int .i64 ((List.length a : Nat) : Int))) ∧ leV (.c (.row 0 0)) (.c (.row 0 0)) ∧ True ∧ True ∧ True ∧ True ∧ True ∧ True ∧ True ∧ True ∧ True ∧ True ∧ True ∧ True ∧ True ∧ True ∧ leV (.tp []) (.tp []) ∧ True) ∧ (leB (.row tyCommit r1 0 0 none) (.row tyCommit (List.take y0' a ++ List.replicate (List.length a - y0') z_Commit) 0 0 none) ∧ True) ∧ true = true)))))))))))))) else (True ∧ (True ∧ (((List.take y0 a ++ List.replicate (List.length a - y0) z_Commit) = a) ∧ true = true)))))))))))))))) (by kernel_rfl) ?_
  have hp : bulk a ≤ 1048576 := hpre
  have hb : bulk a = a.length + bulkL a := rfl
  simp only [true_and, and_true, cond_iff, eqI_true, eqI_false, neI_true, neI_false, ltI_true, ltI_false, leI_true, leI_false, gtI_true, gtI_false, geI_true, geI_false, eqS_true, eqS_false, eqO_true, eqO_false, not_true, not_false, Bool.not_eq_true', Bool.not_eq_false', eq_self, leV_any, leV_int, leV_bool, leV_str, leV_refl, leB_refl, leC_int, leC_bool, leC_str, leC_hs, leB_row, Int.toNat_natCast]
  refine ⟨⟨by omega, by unfold rowMax; omega⟩, ⟨0, Nat.zero_le _, rfl, Eq.mpr (leB_row (t := tyCommit)) rfl⟩, fun k hk => ⟨fun hlt => ?_, fun hge => ?_⟩⟩
  · have hlt : k < a.length := by omega
    have hk := nth_getElem? (t := tyCommit) hlt
    have hl : (List.take k a ++ List.replicate (List.length a - k) z_Commit).length = a.length := by simp; omega
    have hbn : bulk (nth_Commit a k) ≤ bulkL a := bulk_nth hk
    refine ⟨⟨by omega, by omega⟩, ⟨by omega, by rw [hl]; omega⟩, fun r1 hr => ⟨k + 1, hlt, by omega, wrapN (by unfold maxLen; omega), Eq.mpr (leB_row (t := tyCommit)) ?_⟩⟩
    exact hr.trans (fill_set hk)
  · obtain rfl : k = a.length := by omega
    exact fill_end a _
def e_l_toCommitS : Entry Tryz.prog := ⟨53, [.v (.list tyCommit)], fun x => toP_l_toCommitS x.1, fun x => .c (.row 0 0), fun x => [.row tyCommit x.1 0 0 none], fun x hx => b_l_toCommitS x.1 hx, Tryz.call53⟩
abbrev toP_l_toStore (a : GStore) : Prop := bulk a ≤ 1048576
set_option maxRecDepth 100000 in
set_option maxHeartbeats 4000000 in
theorem b_l_toStore (a : GStore) (hpre : toP_l_toStore a) : BCalls Tryz.prog 14 [.ag [.hs .no tyBox a.1, .hs .no tyCommit a.2.1, .int .i64 a.2.2]] (.ag [.row 0 0, .row 1 0, .int .i64 a.2.2]) [.row tyBox a.1 0 0 none, .row tyCommit a.2.1 0 0 none] := by
  refine bcalls_of (T := ⟨[e_l_toBoxS, e_l_toCommitS], [], [], [], none, fun _ => [], 0, [], []⟩) (L := L0) Tryz.func14 ⟨⟨rfl, rfl⟩, rfl⟩ (fun hwf => ?_)
  refine Eq.mpr (β := (True ∧ (True ∧ (True ∧ (True ∧ (True ∧ ((toP_l_toBoxS a.1 ∧ true = true) ∧ (True ∧ (True ∧ (True ∧ (True ∧ ((toP_l_toCommitS a.2.1 ∧ true = true) ∧ (True ∧ (True ∧ (True ∧ (True ∧ (True ∧ (True ∧ (True ∧ (True ∧ ((((a.1 = a.1) ∧ (a.2.1 = a.2.1) ∧ (true = true ∧ leC (.int .i64 a.2.2) (.int .i64 a.2.2)) ∧ True)) ∧ true = true))))))))))))))))))))) (by kernel_rfl) ?_
  have hp : bulk a ≤ 1048576 := hpre
  have hb : bulk a = bulk a.1 + (bulk a.2.1 + (0)) := rfl
  simp only [true_and, and_true, cond_iff, eqI_true, eqI_false, neI_true, neI_false, ltI_true, ltI_false, leI_true, leI_false, gtI_true, gtI_false, geI_true, geI_false, eqS_true, eqS_false, eqO_true, eqO_false, not_true, not_false, Bool.not_eq_true', Bool.not_eq_false', eq_self, leV_any, leV_int, leV_bool, leV_str, leV_refl, leB_refl, leC_int, leC_bool, leC_str, leC_hs, leB_row, Int.toNat_natCast]
  repeat' (first | apply And.intro | intro _)
  all_goals (first | trivial | omega)
def e_l_toStore : Entry Tryz.prog := ⟨14, [.s tyStore], fun x => toP_l_toStore x.1, fun x => .ag [.row 0 0, .row 1 0, .int .i64 x.1.2.2], fun x => [.row tyBox x.1.1 0 0 none, .row tyCommit x.1.2.1 0 0 none], fun x hx => b_l_toStore x.1 hx, Tryz.call14⟩
end Go.Proofs.YtigebfhekmjhmaaGreat
