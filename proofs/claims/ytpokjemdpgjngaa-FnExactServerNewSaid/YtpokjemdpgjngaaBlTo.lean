/-
  The laws' functions toX.
  No condition but what the arguments' cells hold. Printed by vcgen.py.
-/
import Derived.Test.YtpokjemdpgjngaaLawA
set_option linter.unusedSimpArgs false
set_option linter.unusedVariables false
namespace Go.Proofs.Ytpokjemdpgjngaa
open Go.ChangeShapes Go.WideShapes Go.ChangeAt Go.RowKit Go.Joins Go.Deep
open GoRep (rep bulk)

set_option maxRecDepth 100000 in
set_option maxHeartbeats 400000 in
theorem b_l_toToken (a : GToken) : BCalls Try.prog 26 [.ag [.int .i64 a.1, .str a.2]] (.ag [.int .i64 a.1, .str a.2]) [] := by
  refine bcalls_of (T := ⟨[], [], [], [], none, fun _ => [], 0, [], []⟩) (L := L0) Try.func26 ⟨⟨rfl, rfl⟩, rfl⟩ (fun hwf => ?_)
  refine Eq.mpr (β := (True ∧ (True ∧ (True ∧ (True ∧ (True ∧ (True ∧ (True ∧ (True ∧ (True ∧ (True ∧ (True ∧ (True ∧ (True ∧ ((((true = true ∧ leC (.int .i64 a.1) (.int .i64 a.1)) ∧ (true = true ∧ leC (.str a.2) (.str a.2)) ∧ True)) ∧ true = true))))))))))))))) (by kernel_rfl) ?_
  simp only [true_and, and_true, cond_iff, eqI_true, eqI_false, neI_true, neI_false, ltI_true, ltI_false, leI_true, leI_false, gtI_true, gtI_false, geI_true, geI_false, eqS_true, eqS_false, eqO_true, eqO_false, not_true, not_false, Bool.not_eq_true', Bool.not_eq_false', eq_self, leV_any, leV_int, leV_bool, leV_str, leV_refl, leB_refl, leC_int, leC_bool, leC_str, leC_hs, leB_row, Int.toNat_natCast]
  repeat' (first | apply And.intro | intro _)
  all_goals (first | trivial | omega)
def e_l_toToken : Entry Try.prog := ⟨26, [.s tyToken], fun x => True, fun x => .ag [.int .i64 x.1.1, .str x.1.2], fun _ => [], fun x hx => b_l_toToken x.1, Try.call26⟩
abbrev toP_l_toTokenS (a : List GToken) : Prop := bulk a ≤ 1048576
def L_l_toTokenS (a : List GToken) : Nat → List AV → Mem → LoopA
  | 3, tm, M => ⟨Nat, fun y => (setA tm [(4, .c (.int .i64 ((y : Nat) : Int))), (8, .any), (9, .any), (10, .any), (11, .any), (12, .any), (13, .any), (14, .any), (15, .any), (16, .any), (17, .any), (18, .any), (19, .any), (20, .any), (21, .any)], setM M [(0, .row tyToken (List.take y a ++ List.replicate (List.length a - y) z_Token) 0 0 none)]), fun y => (y ≤ List.length a), fun y => (List.length a - y)⟩
  | _, _, _ => ⟨Unit, fun _ => ([], []), fun _ => False, fun _ => 0⟩
set_option maxRecDepth 100000 in
set_option maxHeartbeats 400000 in
theorem b_l_toTokenS (a : List GToken) (hpre : toP_l_toTokenS a) : BCalls Try.prog 7 [.c (.hs .no tyToken a)] (.c (.row 0 0)) [.row tyToken a 0 0 none] := by
  refine bcalls_of (T := ⟨[e_l_toToken], [], [], [], none, fun _ => [], 0, [], []⟩) (L := (L_l_toTokenS a)) Try.func7 ⟨⟨rfl, rfl⟩, rfl⟩ (fun hwf => ?_)
  refine Eq.mpr (β := (True ∧ (True ∧ (True ∧ (((((List.length a : Nat) : Int) : Int) = ((List.length a : Nat) : Int) ∧ (0 : Int) ≤ ((List.length a : Nat) : Int) ∧ (((List.length a : Nat) : Int) : Int) ≤ ((rowMax : Nat) : Int)) ∧ (True ∧ (True ∧ ((∃ q : Nat, (q ≤ List.length a) ∧ ((leV (.c (.hs .no tyToken a)) (.c (.hs .no tyToken a)) ∧ leV (.tp []) (.tp []) ∧ leV (.c (.raw (.slice none 0 0))) (.c (.raw (.slice none 0 0))) ∧ leV (.c (.row 0 0)) (.c (.row 0 0)) ∧ leV (.c (.int .i64 0)) (.c (.int .i64 ((q : Nat) : Int))) ∧ leV (.c (.hs .no tyToken a)) (.c (.hs .no tyToken a)) ∧ leV (.c (.int .i64 ((List.length a : Nat) : Int))) (.c (.int .i64 ((List.length a : Nat) : Int))) ∧ leV (.c (.row 0 0)) (.c (.row 0 0)) ∧ True ∧ True ∧ True ∧ True ∧ True ∧ True ∧ True ∧ True ∧ True ∧ True ∧ True ∧ True ∧ True ∧ True ∧ leV (.tp []) (.tp []) ∧ True) ∧ (leB (.row tyToken (List.replicate (Int.toNat ((List.length a : Nat) : Int)) z_Token) 0 0 none) (.row tyToken (List.take q a ++ List.replicate (List.length a - q) z_Token) 0 0 none) ∧ True) ∧ true = true)) ∧ ∀ y0 : Nat, (y0 ≤ List.length a) → (True ∧ (True ∧ (True ∧ (True ∧ (bif (ltI ((y0 : Nat) : Int) ((List.length a : Nat) : Int)) then (True ∧ (True ∧ (True ∧ (True ∧ (((2 : Nat) = 2 ∧ (0 : Int) ≤ ((y0 : Nat) : Int) ∧ (((y0 : Nat) : Int) : Int) < ((List.length a : Nat) : Int)) ∧ (True ∧ ((True ∧ true = true) ∧ (((2 : Nat) = 2 ∧ (0 : Int) ≤ ((y0 : Nat) : Int) ∧ (((y0 : Nat) : Int) : Int) < ((List.length (List.take y0 a ++ List.replicate (List.length a - y0) z_Token) : Nat) : Int)) ∧ (True ∧ ∀ r1 : List GToken, r1 = (List.set (List.take y0 a ++ List.replicate (List.length a - y0) z_Token) (Int.toNat ((y0 : Nat) : Int)) (nth_Token a (Int.toNat ((y0 : Nat) : Int)))) → (True ∧ (True ∧ (True ∧ (∃ y0' : Nat, (y0' ≤ List.length a) ∧ (List.length a - y0') < (List.length a - y0) ∧ ((leV (.c (.hs .no tyToken a)) (.c (.hs .no tyToken a)) ∧ leV (.tp []) (.tp []) ∧ leV (.c (.raw (.slice none 0 0))) (.c (.raw (.slice none 0 0))) ∧ leV (.c (.row 0 0)) (.c (.row 0 0)) ∧ leV (.c (.int .i64 (IntKind.wrap .i64 (((y0 : Nat) : Int) + 1)))) (.c (.int .i64 ((y0' : Nat) : Int))) ∧ leV (.c (.hs .no tyToken a)) (.c (.hs .no tyToken a)) ∧ leV (.c (.int .i64 ((List.length a : Nat) : Int))) (.c (.int .i64 ((List.length a : Nat) : Int))) ∧ leV (.c (.row 0 0)) (.c (.row 0 0)) ∧ True ∧ True ∧ True ∧ True ∧ True ∧ True ∧ True ∧ True ∧ True ∧ True ∧ True ∧ True ∧ True ∧ True ∧ leV (.tp []) (.tp []) ∧ True) ∧ (leB (.row tyToken r1 0 0 none) (.row tyToken (List.take y0' a ++ List.replicate (List.length a - y0') z_Token) 0 0 none) ∧ True) ∧ true = true)))))))))))))) else (True ∧ (True ∧ (((List.take y0 a ++ List.replicate (List.length a - y0) z_Token) = a) ∧ true = true)))))))))))))))) (by kernel_rfl) ?_
  have hp : bulk a ≤ 1048576 := hpre
  have hb : bulk a = a.length + bulkL a := rfl
  simp only [true_and, and_true, cond_iff, eqI_true, eqI_false, neI_true, neI_false, ltI_true, ltI_false, leI_true, leI_false, gtI_true, gtI_false, geI_true, geI_false, eqS_true, eqS_false, eqO_true, eqO_false, not_true, not_false, Bool.not_eq_true', Bool.not_eq_false', eq_self, leV_any, leV_int, leV_bool, leV_str, leV_refl, leB_refl, leC_int, leC_bool, leC_str, leC_hs, leB_row, Int.toNat_natCast]
  refine ⟨⟨by omega, by unfold rowMax; omega⟩, ⟨0, Nat.zero_le _, rfl, Eq.mpr (leB_row (t := tyToken)) rfl⟩, fun k hk => ⟨fun hlt => ?_, fun hge => ?_⟩⟩
  · have hlt : k < a.length := by omega
    have hk := nth_getElem? (t := tyToken) hlt
    have hl : (List.take k a ++ List.replicate (List.length a - k) z_Token).length = a.length := by simp; omega
    have hbn : bulk (nth_Token a k) ≤ bulkL a := bulk_nth hk
    refine ⟨⟨by omega, by omega⟩, ⟨by omega, by rw [hl]; omega⟩, fun r1 hr => ⟨k + 1, hlt, by omega, wrapN (by unfold maxLen; omega), Eq.mpr (leB_row (t := tyToken)) ?_⟩⟩
    exact hr.trans (fill_set hk)
  · obtain rfl : k = a.length := by omega
    exact fill_end a _
def e_l_toTokenS : Entry Try.prog := ⟨7, [.v (.list tyToken)], fun x => toP_l_toTokenS x.1, fun x => .c (.row 0 0), fun x => [.row tyToken x.1 0 0 none], fun x hx => b_l_toTokenS x.1 hx, Try.call7⟩
end Go.Proofs.Ytpokjemdpgjngaa
