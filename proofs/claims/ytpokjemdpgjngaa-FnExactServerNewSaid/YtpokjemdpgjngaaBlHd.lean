/-
  The laws' functions heldX.
  No condition but what the arguments' cells hold. Printed by vcgen.py.
-/
import Derived.Test.YtpokjemdpgjngaaMarkB
set_option linter.unusedSimpArgs false
set_option linter.unusedVariables false
namespace Go.Proofs.Ytpokjemdpgjngaa
open Go.ChangeShapes Go.WideShapes Go.ChangeAt Go.RowKit Go.Joins Go.Deep
open GoRep (rep bulk)

open GoMark (mrk cnt mrkI cntI)
abbrev hdR_l_heldStringS (a : List ByteArray) (m : Int) : Int := m + ((cntL a : Nat) : Int)
abbrev hdP_l_heldStringS (a : List ByteArray) (m : Int) : Prop := markL a m = a ∧ 0 ≤ m ∧ m + cntL a ≤ 4611686018427387904
def L_l_heldStringS (a : List ByteArray) (m : Int) : Nat → List AV → Mem → LoopA
  | 2, tm, M => ⟨Nat, fun y => (setA tm [(1, .c (.int .i64 (m + ((cntL (List.take y a) : Nat) : Int)))), (4, .any), (5, .c (.int .i64 ((y : Nat) : Int))), (6, .any), (7, .any), (8, .any), (9, .any), (10, .any), (11, .any), (12, .any), (13, .any), (14, .any), (15, .any), (16, .any), (17, .any), (18, .any), (19, .any), (20, .any)], M), fun y => (y ≤ List.length a), fun y => (List.length a - y)⟩
  | _, _, _ => ⟨Unit, fun _ => ([], []), fun _ => False, fun _ => 0⟩
set_option maxRecDepth 100000 in
set_option maxHeartbeats 4000000 in
theorem b_l_heldStringS (a : List ByteArray) (m : Int) (hpre : hdP_l_heldStringS a m) : BCalls Try.prog 63 [.c (.hs .no tyStr a), .c (.int .i64 m)] (.c (.int .i64 (hdR_l_heldStringS a m))) [] := by
  refine bcalls_of (T := ⟨[e_l_markText], [], [], [], none, fun _ => [], 0, [], []⟩) (L := (L_l_heldStringS a m)) Try.func63 ⟨⟨rfl, rfl⟩, rfl⟩ (fun hwf => ?_)
  refine Eq.mpr (β := (True ∧ (True ∧ ((∃ q : Nat, (q ≤ List.length a) ∧ ((leV (.c (.hs .no tyStr a)) (.c (.hs .no tyStr a)) ∧ leV (.c (.int .i64 m)) (.c (.int .i64 (m + ((cntL (List.take q a) : Nat) : Int)))) ∧ leV (.tp []) (.tp []) ∧ leV (.tp []) (.tp []) ∧ True ∧ leV (.c (.int .i64 0)) (.c (.int .i64 ((q : Nat) : Int))) ∧ True ∧ True ∧ True ∧ True ∧ True ∧ True ∧ True ∧ True ∧ True ∧ True ∧ True ∧ True ∧ True ∧ True ∧ True ∧ leV (.tp []) (.tp []) ∧ True) ∧ (True) ∧ true = true)) ∧ ∀ y0 : Nat, (y0 ≤ List.length a) → (True ∧ (True ∧ (True ∧ (True ∧ (bif (ltI ((y0 : Nat) : Int) ((List.length a : Nat) : Int)) then ((true = true ∧ true = true) ∧ (True ∧ (True ∧ (((1 : Nat) = 1 ∧ (0 : Int) ≤ ((y0 : Nat) : Int) ∧ (((y0 : Nat) : Int) : Int) < ((List.length a : Nat) : Int)) ∧ (True ∧ (True ∧ ((markP (m + ((cntL (List.take y0 a) : Nat) : Int)) ∧ true = true) ∧ (True ∧ (bif (!eqS (nth_String a (Int.toNat ((y0 : Nat) : Int))) (markT (m + ((cntL (List.take y0 a) : Nat) : Int)))) then (True ∧ ((true = true ∧ leC (.int .i64 (-1)) (.int .i64 (hdR_l_heldStringS a m))) ∧ true = true)) else (True ∧ (True ∧ (True ∧ (True ∧ (True ∧ (True ∧ (∃ y0' : Nat, (y0' ≤ List.length a) ∧ (List.length a - y0') < (List.length a - y0) ∧ ((leV (.c (.hs .no tyStr a)) (.c (.hs .no tyStr a)) ∧ leV (.c (.int .i64 (IntKind.wrap .i64 ((m + ((cntL (List.take y0 a) : Nat) : Int)) + 1)))) (.c (.int .i64 (m + ((cntL (List.take y0' a) : Nat) : Int)))) ∧ leV (.tp []) (.tp []) ∧ leV (.tp []) (.tp []) ∧ True ∧ leV (.c (.int .i64 (IntKind.wrap .i64 (((y0 : Nat) : Int) + 1)))) (.c (.int .i64 ((y0' : Nat) : Int))) ∧ True ∧ True ∧ True ∧ True ∧ True ∧ True ∧ True ∧ True ∧ True ∧ True ∧ True ∧ True ∧ True ∧ True ∧ True ∧ leV (.tp []) (.tp []) ∧ True) ∧ (True) ∧ true = true))))))))))))))))) else (True ∧ (True ∧ ((true = true ∧ leC (.int .i64 (m + ((cntL (List.take y0 a) : Nat) : Int))) (.int .i64 (hdR_l_heldStringS a m))) ∧ true = true)))))))))))) (by kernel_rfl) ?_
  obtain ⟨hmm, hm0, hm1⟩ := hpre
  have hlm : a.length ≤ maxLen := hwf.1.1
  unfold maxLen at hlm
  simp only [true_and, and_true, cond_iff, eqI_true, eqI_false, neI_true, neI_false, ltI_true, ltI_false, leI_true, leI_false, gtI_true, gtI_false, geI_true, geI_false, eqS_true, eqS_false, eqO_true, eqO_false, not_true, not_false, Bool.not_eq_true', Bool.not_eq_false', eq_self, leV_any, leV_int, leV_bool, leV_str, leV_refl, leB_refl, leC_int, leC_bool, leC_str, leC_hs, leB_row, Int.toNat_natCast]
  refine ⟨⟨0, Nat.zero_le _, by simp [cntL], rfl⟩, fun k hk => ⟨fun hlt => ?_, fun hge => ?_⟩⟩
  · have hlt : k < a.length := by omega
    have hg : a[k]? = some (nth_String a k) := nth_getElem? (t := tyStr) hlt
    have hc : cntL (List.take (k + 1) a) = cntL (List.take k a) + (1) := cntL_snoc hg
    have hcl : cntL (List.take (k + 1) a) ≤ cntL a := cntL_le a (k + 1)
    have hx := marked_nth hmm hg
    have f0 : (nth_String a k) = markT (m + ((cntL (List.take k a) : Nat) : Int)) := (congrArg (fun z => z) hx).trans (by first | rfl | (simp only [gm1, gm2, gm3, gm4, gm5, gc1, gc2, gc3, gc4, gc5, gk1, gk2, gk3, gk4, gk5, gx1, gx2, gx3, gx4, gx5]; first | done | omega | (congr 1; omega) | (rw [mark_bool (by omega), decide_eq_decide]; omega)))
    
    simp (disch := omega) only [wrapA, hdR_l_heldStringS]
    repeat' (first | apply And.intro | intro _)
    all_goals first
      | trivial
      | omega
      | contradiction
      | (refine ⟨k + 1, hlt, by omega, ?_, ?_⟩ <;> first | omega | exact wrapN (by unfold maxLen; omega))
      | exact Eq.symm (by assumption)
      | (exfalso; simp_all; done)
  · obtain rfl : k = a.length := by omega
    rw [List.take_length]
def e_l_heldStringS : Entry Try.prog := ⟨63, [.v (.list tyStr), .v tyInt], fun x => hdP_l_heldStringS x.1 x.2.1, fun x => .c (.int .i64 (hdR_l_heldStringS x.1 x.2.1)), fun _ => [], fun x hx => b_l_heldStringS x.1 x.2.1 hx, Try.call63⟩
abbrev hdR_l_heldScopeS (a : List GScope) (m : Int) : Int := m + ((cntL a : Nat) : Int)
abbrev hdP_l_heldScopeS (a : List GScope) (m : Int) : Prop := markL a m = a ∧ 0 ≤ m ∧ m + cntL a ≤ 4611686018427387904
def L_l_heldScopeS (a : List GScope) (m : Int) : Nat → List AV → Mem → LoopA
  | 2, tm, M => ⟨Nat, fun y => (setA tm [(1, .c (.int .i64 (m + ((cntL (List.take y a) : Nat) : Int)))), (4, .any), (5, .c (.int .i64 ((y : Nat) : Int))), (6, .any), (7, .any), (8, .any), (9, .any), (10, .any), (11, .any), (12, .any), (13, .any), (14, .any), (15, .any), (16, .any), (17, .any), (18, .any), (19, .any), (20, .any), (21, .any), (22, .any), (23, .any), (24, .any), (25, .any), (26, .any), (27, .any), (28, .any), (29, .any), (30, .any), (31, .any), (32, .any), (33, .any), (34, .any), (35, .any), (36, .any), (37, .any), (38, .any)], M), fun y => (y ≤ List.length a), fun y => (List.length a - y)⟩
  | _, _, _ => ⟨Unit, fun _ => ([], []), fun _ => False, fun _ => 0⟩
set_option maxRecDepth 100000 in
set_option maxHeartbeats 4000000 in
theorem b_l_heldScopeS (a : List GScope) (m : Int) (hpre : hdP_l_heldScopeS a m) : BCalls Try.prog 36 [.c (.hs .no tyScope a), .c (.int .i64 m)] (.c (.int .i64 (hdR_l_heldScopeS a m))) [] := by
  refine bcalls_of (T := ⟨[e_l_heldStringS], [], [], [], none, fun _ => [], 0, [], []⟩) (L := (L_l_heldScopeS a m)) Try.func36 ⟨⟨rfl, rfl⟩, rfl⟩ (fun hwf => ?_)
  refine Eq.mpr (β := (True ∧ (True ∧ ((∃ q : Nat, (q ≤ List.length a) ∧ ((leV (.c (.hs .no tyScope a)) (.c (.hs .no tyScope a)) ∧ leV (.c (.int .i64 m)) (.c (.int .i64 (m + ((cntL (List.take q a) : Nat) : Int)))) ∧ leV (.tp []) (.tp []) ∧ leV (.tp []) (.tp []) ∧ True ∧ leV (.c (.int .i64 0)) (.c (.int .i64 ((q : Nat) : Int))) ∧ True ∧ True ∧ True ∧ True ∧ True ∧ True ∧ True ∧ True ∧ True ∧ True ∧ True ∧ True ∧ True ∧ True ∧ True ∧ True ∧ True ∧ True ∧ True ∧ True ∧ True ∧ True ∧ True ∧ True ∧ True ∧ True ∧ True ∧ True ∧ True ∧ True ∧ True ∧ True ∧ True ∧ leV (.tp []) (.tp []) ∧ True) ∧ (True) ∧ true = true)) ∧ ∀ y0 : Nat, (y0 ≤ List.length a) → (True ∧ (True ∧ (True ∧ (True ∧ (bif (ltI ((y0 : Nat) : Int) ((List.length a : Nat) : Int)) then (True ∧ (True ∧ (((3 : Nat) = 3 ∧ (0 : Int) ≤ ((y0 : Nat) : Int) ∧ (((y0 : Nat) : Int) : Int) < ((List.length a : Nat) : Int)) ∧ (True ∧ (True ∧ (True ∧ (True ∧ (bif (neI (nth_Scope a (Int.toNat ((y0 : Nat) : Int))).1 (m + ((cntL (List.take y0 a) : Nat) : Int))) then (True ∧ ((true = true ∧ leC (.int .i64 (-1)) (.int .i64 (hdR_l_heldScopeS a m))) ∧ true = true)) else (True ∧ (True ∧ (True ∧ (True ∧ (True ∧ (((3 : Nat) = 3 ∧ (0 : Int) ≤ ((y0 : Nat) : Int) ∧ (((y0 : Nat) : Int) : Int) < ((List.length a : Nat) : Int)) ∧ (True ∧ (True ∧ (True ∧ ((hdP_l_heldStringS (nth_Scope a (Int.toNat ((y0 : Nat) : Int))).2.1 (IntKind.wrap .i64 ((m + ((cntL (List.take y0 a) : Nat) : Int)) + 1)) ∧ true = true) ∧ (True ∧ (True ∧ (True ∧ (bif (ltI (hdR_l_heldStringS (nth_Scope a (Int.toNat ((y0 : Nat) : Int))).2.1 (IntKind.wrap .i64 ((m + ((cntL (List.take y0 a) : Nat) : Int)) + 1))) 0) then (True ∧ ((true = true ∧ leC (.int .i64 (-1)) (.int .i64 (hdR_l_heldScopeS a m))) ∧ true = true)) else (True ∧ (True ∧ (((3 : Nat) = 3 ∧ (0 : Int) ≤ ((y0 : Nat) : Int) ∧ (((y0 : Nat) : Int) : Int) < ((List.length a : Nat) : Int)) ∧ (True ∧ (True ∧ (True ∧ (True ∧ (bif (neI (nth_Scope a (Int.toNat ((y0 : Nat) : Int))).2.2 (hdR_l_heldStringS (nth_Scope a (Int.toNat ((y0 : Nat) : Int))).2.1 (IntKind.wrap .i64 ((m + ((cntL (List.take y0 a) : Nat) : Int)) + 1)))) then (True ∧ ((true = true ∧ leC (.int .i64 (-1)) (.int .i64 (hdR_l_heldScopeS a m))) ∧ true = true)) else (True ∧ (True ∧ (True ∧ (True ∧ (True ∧ (True ∧ (∃ y0' : Nat, (y0' ≤ List.length a) ∧ (List.length a - y0') < (List.length a - y0) ∧ ((leV (.c (.hs .no tyScope a)) (.c (.hs .no tyScope a)) ∧ leV (.c (.int .i64 (IntKind.wrap .i64 (hdR_l_heldStringS (nth_Scope a (Int.toNat ((y0 : Nat) : Int))).2.1 (IntKind.wrap .i64 ((m + ((cntL (List.take y0 a) : Nat) : Int)) + 1)) + 1)))) (.c (.int .i64 (m + ((cntL (List.take y0' a) : Nat) : Int)))) ∧ leV (.tp []) (.tp []) ∧ leV (.tp []) (.tp []) ∧ True ∧ leV (.c (.int .i64 (IntKind.wrap .i64 (((y0 : Nat) : Int) + 1)))) (.c (.int .i64 ((y0' : Nat) : Int))) ∧ True ∧ True ∧ True ∧ True ∧ True ∧ True ∧ True ∧ True ∧ True ∧ True ∧ True ∧ True ∧ True ∧ True ∧ True ∧ True ∧ True ∧ True ∧ True ∧ True ∧ True ∧ True ∧ True ∧ True ∧ True ∧ True ∧ True ∧ True ∧ True ∧ True ∧ True ∧ True ∧ True ∧ leV (.tp []) (.tp []) ∧ True) ∧ (True) ∧ true = true)))))))))))))))))))))))))))))))))))))) else (True ∧ (True ∧ ((true = true ∧ leC (.int .i64 (m + ((cntL (List.take y0 a) : Nat) : Int))) (.int .i64 (hdR_l_heldScopeS a m))) ∧ true = true)))))))))))) (by kernel_rfl) ?_
  obtain ⟨hmm, hm0, hm1⟩ := hpre
  have hlm : a.length ≤ maxLen := hwf.1.1
  unfold maxLen at hlm
  simp only [true_and, and_true, cond_iff, eqI_true, eqI_false, neI_true, neI_false, ltI_true, ltI_false, leI_true, leI_false, gtI_true, gtI_false, geI_true, geI_false, eqS_true, eqS_false, eqO_true, eqO_false, not_true, not_false, Bool.not_eq_true', Bool.not_eq_false', eq_self, leV_any, leV_int, leV_bool, leV_str, leV_refl, leB_refl, leC_int, leC_bool, leC_str, leC_hs, leB_row, Int.toNat_natCast]
  refine ⟨⟨0, Nat.zero_le _, by simp [cntL], rfl⟩, fun k hk => ⟨fun hlt => ?_, fun hge => ?_⟩⟩
  · have hlt : k < a.length := by omega
    have hg : a[k]? = some (nth_Scope a k) := nth_getElem? (t := tyScope) hlt
    have hc : cntL (List.take (k + 1) a) = cntL (List.take k a) + (1 + (cntL (nth_Scope a k).2.1 + (1))) := cntL_snoc hg
    have hcl : cntL (List.take (k + 1) a) ≤ cntL a := cntL_le a (k + 1)
    have hx := marked_nth hmm hg
    have f0 : (nth_Scope a k).1 = m + ((cntL (List.take k a) : Nat) : Int) := (congrArg (fun z => z.1) hx).trans (by first | rfl | (simp only [gm1, gm2, gm3, gm4, gm5, gc1, gc2, gc3, gc4, gc5, gk1, gk2, gk3, gk4, gk5, gx1, gx2, gx3, gx4, gx5]; first | done | omega | (congr 1; omega) | (rw [mark_bool (by omega), decide_eq_decide]; omega)))
    have f1 : (nth_Scope a k).2.1 = markL ((nth_Scope a k).2.1) (m + ((cntL (List.take k a) : Nat) : Int) + 1) := (congrArg (fun z => z.2.1) hx).trans (by first | rfl | (simp only [gm1, gm2, gm3, gm4, gm5, gc1, gc2, gc3, gc4, gc5, gk1, gk2, gk3, gk4, gk5, gx1, gx2, gx3, gx4, gx5]; first | done | omega | (congr 1; omega) | (rw [mark_bool (by omega), decide_eq_decide]; omega)))
    have f2 : (nth_Scope a k).2.2 = m + ((cntL (List.take k a) : Nat) : Int) + 1 + ((cntL ((nth_Scope a k).2.1) : Nat) : Int) := (congrArg (fun z => z.2.2) hx).trans (by first | rfl | (simp only [gm1, gm2, gm3, gm4, gm5, gc1, gc2, gc3, gc4, gc5, gk1, gk2, gk3, gk4, gk5, gx1, gx2, gx3, gx4, gx5]; first | done | omega | (congr 1; omega) | (rw [mark_bool (by omega), decide_eq_decide]; omega)))
    
    simp (disch := omega) only [wrapA, hdR_l_heldStringS, hdR_l_heldScopeS]
    repeat' (first | apply And.intro | intro _)
    all_goals first
      | trivial
      | omega
      | contradiction
      | (refine ⟨k + 1, hlt, by omega, ?_, ?_⟩ <;> first | omega | exact wrapN (by unfold maxLen; omega))
      | exact Eq.symm (by assumption)
      | (exfalso; simp_all; done)
  · obtain rfl : k = a.length := by omega
    rw [List.take_length]
def e_l_heldScopeS : Entry Try.prog := ⟨36, [.v (.list tyScope), .v tyInt], fun x => hdP_l_heldScopeS x.1 x.2.1, fun x => .c (.int .i64 (hdR_l_heldScopeS x.1 x.2.1)), fun _ => [], fun x hx => b_l_heldScopeS x.1 x.2.1 hx, Try.call36⟩
abbrev hdR_l_heldFilter (a : GFilter) (m : Int) : Int := m + ((cntI a : Nat) : Int)
abbrev hdP_l_heldFilter (a : GFilter) (m : Int) : Prop := mrkI a m = a ∧ 0 ≤ m ∧ m + cntI a ≤ 4611686018427387904
set_option maxRecDepth 100000 in
set_option maxHeartbeats 4000000 in
theorem b_l_heldFilter (a : GFilter) (m : Int) (hpre : hdP_l_heldFilter a m) : BCalls Try.prog 13 [.ag [.bool a.1, .hs .no tyScope a.2], .c (.int .i64 m)] (.c (.int .i64 (hdR_l_heldFilter a m))) [] := by
  refine bcalls_of (T := ⟨[e_l_heldScopeS], [], [], [], none, fun _ => [], 0, [], []⟩) (L := L0) Try.func13 ⟨⟨rfl, rfl⟩, rfl⟩ (fun hwf => ?_)
  refine Eq.mpr (β := (True ∧ (True ∧ (True ∧ (True ∧ (True ∧ ((hdP_l_heldScopeS a.2 m ∧ true = true) ∧ (True ∧ (True ∧ (True ∧ (bif (ltI (hdR_l_heldScopeS a.2 m) 0) then (True ∧ ((true = true ∧ leC (.int .i64 (-1)) (.int .i64 (hdR_l_heldFilter a m))) ∧ true = true)) else (True ∧ (True ∧ ((true = true ∧ leC (.int .i64 (hdR_l_heldScopeS a.2 m)) (.int .i64 (hdR_l_heldFilter a m))) ∧ true = true)))))))))))))) (by kernel_rfl) ?_
  obtain ⟨hmm, hm0, hm1⟩ := hpre
  have hc0 : cntI a = 0 + (cntL a.2) := rfl
  have g1 : markL a.2 (m) = a.2 := by
    have h0 : a.2 = markL a.2 (m + ((cntI a.1 : Nat) : Int)) := congrArg (fun z : GFilter => z.2) hmm.symm
    have hK : m + ((cntI a.1 : Nat) : Int) = m := by first | rfl | (simp only [gc1, gc2, gc3, gc4]; omega) | omega
    rw [hK] at h0
    exact h0.symm
  simp only [true_and, and_true, cond_iff, eqI_true, eqI_false, neI_true, neI_false, ltI_true, ltI_false, leI_true, leI_false, gtI_true, gtI_false, geI_true, geI_false, eqS_true, eqS_false, eqO_true, eqO_false, not_true, not_false, Bool.not_eq_true', Bool.not_eq_false', eq_self, leV_any, leV_int, leV_bool, leV_str, leV_refl, leB_refl, leC_int, leC_bool, leC_str, leC_hs, leB_row, Int.toNat_natCast]
  simp only [hdR_l_heldStringS, hdR_l_heldScopeS, hdR_l_heldFilter]
  repeat' (first | apply And.intro | intro _)
  all_goals first
    | trivial
    | omega
    | contradiction
    | exact Eq.symm (by assumption)
    | assumption
    | (exfalso; simp_all; done)
def e_l_heldFilter : Entry Try.prog := ⟨13, [.s tyFilter, .v tyInt], fun x => hdP_l_heldFilter x.1 x.2.1, fun x => .c (.int .i64 (hdR_l_heldFilter x.1 x.2.1)), fun _ => [], fun x hx => b_l_heldFilter x.1 x.2.1 hx, Try.call13⟩
abbrev hdR_l_heldMsgS (a : List GMsg) (m : Int) : Int := m + ((cntL a : Nat) : Int)
abbrev hdP_l_heldMsgS (a : List GMsg) (m : Int) : Prop := markL a m = a ∧ 0 ≤ m ∧ m + cntL a ≤ 4611686018427387904
def L_l_heldMsgS (a : List GMsg) (m : Int) : Nat → List AV → Mem → LoopA
  | 2, tm, M => ⟨Nat, fun y => (setA tm [(1, .c (.int .i64 (m + ((cntL (List.take y a) : Nat) : Int)))), (4, .any), (5, .c (.int .i64 ((y : Nat) : Int))), (6, .any), (7, .any), (8, .any), (9, .any), (10, .any), (11, .any), (12, .any), (13, .any), (14, .any), (15, .any), (16, .any), (17, .any), (18, .any), (19, .any), (20, .any), (21, .any), (22, .any), (23, .any), (24, .any), (25, .any), (26, .any), (27, .any), (28, .any), (29, .any), (30, .any), (31, .any), (32, .any), (33, .any), (34, .any), (35, .any), (36, .any), (37, .any), (38, .any), (39, .any)], M), fun y => (y ≤ List.length a), fun y => (List.length a - y)⟩
  | _, _, _ => ⟨Unit, fun _ => ([], []), fun _ => False, fun _ => 0⟩
set_option maxRecDepth 100000 in
set_option maxHeartbeats 4000000 in
theorem b_l_heldMsgS (a : List GMsg) (m : Int) (hpre : hdP_l_heldMsgS a m) : BCalls Try.prog 93 [.c (.hs .no tyMsg a), .c (.int .i64 m)] (.c (.int .i64 (hdR_l_heldMsgS a m))) [] := by
  refine bcalls_of (T := ⟨[e_l_markText], [], [], [], none, fun _ => [], 0, [], []⟩) (L := (L_l_heldMsgS a m)) Try.func93 ⟨⟨rfl, rfl⟩, rfl⟩ (fun hwf => ?_)
  refine Eq.mpr (β := (True ∧ (True ∧ ((∃ q : Nat, (q ≤ List.length a) ∧ ((leV (.c (.hs .no tyMsg a)) (.c (.hs .no tyMsg a)) ∧ leV (.c (.int .i64 m)) (.c (.int .i64 (m + ((cntL (List.take q a) : Nat) : Int)))) ∧ leV (.tp []) (.tp []) ∧ leV (.tp []) (.tp []) ∧ True ∧ leV (.c (.int .i64 0)) (.c (.int .i64 ((q : Nat) : Int))) ∧ True ∧ True ∧ True ∧ True ∧ True ∧ True ∧ True ∧ True ∧ True ∧ True ∧ True ∧ True ∧ True ∧ True ∧ True ∧ True ∧ True ∧ True ∧ True ∧ True ∧ True ∧ True ∧ True ∧ True ∧ True ∧ True ∧ True ∧ True ∧ True ∧ True ∧ True ∧ True ∧ True ∧ True ∧ leV (.tp []) (.tp []) ∧ True) ∧ (True) ∧ true = true)) ∧ ∀ y0 : Nat, (y0 ≤ List.length a) → (True ∧ (True ∧ (True ∧ (True ∧ (bif (ltI ((y0 : Nat) : Int) ((List.length a : Nat) : Int)) then (True ∧ (True ∧ (((3 : Nat) = 3 ∧ (0 : Int) ≤ ((y0 : Nat) : Int) ∧ (((y0 : Nat) : Int) : Int) < ((List.length a : Nat) : Int)) ∧ (True ∧ (True ∧ (True ∧ (True ∧ (bif (neI (nth_Msg a (Int.toNat ((y0 : Nat) : Int))).1 (m + ((cntL (List.take y0 a) : Nat) : Int))) then (True ∧ ((true = true ∧ leC (.int .i64 (-1)) (.int .i64 (hdR_l_heldMsgS a m))) ∧ true = true)) else (True ∧ (True ∧ (True ∧ (True ∧ (True ∧ (((3 : Nat) = 3 ∧ (0 : Int) ≤ ((y0 : Nat) : Int) ∧ (((y0 : Nat) : Int) : Int) < ((List.length a : Nat) : Int)) ∧ (True ∧ (True ∧ (True ∧ (True ∧ (bif (neI (nth_Msg a (Int.toNat ((y0 : Nat) : Int))).2.1 (IntKind.wrap .i64 ((m + ((cntL (List.take y0 a) : Nat) : Int)) + 1))) then (True ∧ ((true = true ∧ leC (.int .i64 (-1)) (.int .i64 (hdR_l_heldMsgS a m))) ∧ true = true)) else (True ∧ (True ∧ (True ∧ ((true = true ∧ true = true) ∧ (True ∧ (True ∧ (((3 : Nat) = 3 ∧ (0 : Int) ≤ ((y0 : Nat) : Int) ∧ (((y0 : Nat) : Int) : Int) < ((List.length a : Nat) : Int)) ∧ (True ∧ (True ∧ (True ∧ ((markP (IntKind.wrap .i64 ((IntKind.wrap .i64 ((m + ((cntL (List.take y0 a) : Nat) : Int)) + 1)) + 1)) ∧ true = true) ∧ (True ∧ (bif (!eqS (nth_Msg a (Int.toNat ((y0 : Nat) : Int))).2.2 (markT (IntKind.wrap .i64 ((IntKind.wrap .i64 ((m + ((cntL (List.take y0 a) : Nat) : Int)) + 1)) + 1)))) then (True ∧ ((true = true ∧ leC (.int .i64 (-1)) (.int .i64 (hdR_l_heldMsgS a m))) ∧ true = true)) else (True ∧ (True ∧ (True ∧ (True ∧ (True ∧ (True ∧ (∃ y0' : Nat, (y0' ≤ List.length a) ∧ (List.length a - y0') < (List.length a - y0) ∧ ((leV (.c (.hs .no tyMsg a)) (.c (.hs .no tyMsg a)) ∧ leV (.c (.int .i64 (IntKind.wrap .i64 ((IntKind.wrap .i64 ((IntKind.wrap .i64 ((m + ((cntL (List.take y0 a) : Nat) : Int)) + 1)) + 1)) + 1)))) (.c (.int .i64 (m + ((cntL (List.take y0' a) : Nat) : Int)))) ∧ leV (.tp []) (.tp []) ∧ leV (.tp []) (.tp []) ∧ True ∧ leV (.c (.int .i64 (IntKind.wrap .i64 (((y0 : Nat) : Int) + 1)))) (.c (.int .i64 ((y0' : Nat) : Int))) ∧ True ∧ True ∧ True ∧ True ∧ True ∧ True ∧ True ∧ True ∧ True ∧ True ∧ True ∧ True ∧ True ∧ True ∧ True ∧ True ∧ True ∧ True ∧ True ∧ True ∧ True ∧ True ∧ True ∧ True ∧ True ∧ True ∧ True ∧ True ∧ True ∧ True ∧ True ∧ True ∧ True ∧ True ∧ leV (.tp []) (.tp []) ∧ True) ∧ (True) ∧ true = true)))))))))))))))))))))))))))))))))))))))) else (True ∧ (True ∧ ((true = true ∧ leC (.int .i64 (m + ((cntL (List.take y0 a) : Nat) : Int))) (.int .i64 (hdR_l_heldMsgS a m))) ∧ true = true)))))))))))) (by kernel_rfl) ?_
  obtain ⟨hmm, hm0, hm1⟩ := hpre
  have hlm : a.length ≤ maxLen := hwf.1.1
  unfold maxLen at hlm
  simp only [true_and, and_true, cond_iff, eqI_true, eqI_false, neI_true, neI_false, ltI_true, ltI_false, leI_true, leI_false, gtI_true, gtI_false, geI_true, geI_false, eqS_true, eqS_false, eqO_true, eqO_false, not_true, not_false, Bool.not_eq_true', Bool.not_eq_false', eq_self, leV_any, leV_int, leV_bool, leV_str, leV_refl, leB_refl, leC_int, leC_bool, leC_str, leC_hs, leB_row, Int.toNat_natCast]
  refine ⟨⟨0, Nat.zero_le _, by simp [cntL], rfl⟩, fun k hk => ⟨fun hlt => ?_, fun hge => ?_⟩⟩
  · have hlt : k < a.length := by omega
    have hg : a[k]? = some (nth_Msg a k) := nth_getElem? (t := tyMsg) hlt
    have hc : cntL (List.take (k + 1) a) = cntL (List.take k a) + (1 + (1 + (1))) := cntL_snoc hg
    have hcl : cntL (List.take (k + 1) a) ≤ cntL a := cntL_le a (k + 1)
    have hx := marked_nth hmm hg
    have f0 : (nth_Msg a k).1 = m + ((cntL (List.take k a) : Nat) : Int) := (congrArg (fun z => z.1) hx).trans (by first | rfl | (simp only [gm1, gm2, gm3, gm4, gm5, gc1, gc2, gc3, gc4, gc5, gk1, gk2, gk3, gk4, gk5, gx1, gx2, gx3, gx4, gx5]; first | done | omega | (congr 1; omega) | (rw [mark_bool (by omega), decide_eq_decide]; omega)))
    have f1 : (nth_Msg a k).2.1 = m + ((cntL (List.take k a) : Nat) : Int) + 1 := (congrArg (fun z => z.2.1) hx).trans (by first | rfl | (simp only [gm1, gm2, gm3, gm4, gm5, gc1, gc2, gc3, gc4, gc5, gk1, gk2, gk3, gk4, gk5, gx1, gx2, gx3, gx4, gx5]; first | done | omega | (congr 1; omega) | (rw [mark_bool (by omega), decide_eq_decide]; omega)))
    have f2 : (nth_Msg a k).2.2 = markT (m + ((cntL (List.take k a) : Nat) : Int) + 1 + 1) := (congrArg (fun z => z.2.2) hx).trans (by first | rfl | (simp only [gm1, gm2, gm3, gm4, gm5, gc1, gc2, gc3, gc4, gc5, gk1, gk2, gk3, gk4, gk5, gx1, gx2, gx3, gx4, gx5]; first | done | omega | (congr 1; omega) | (rw [mark_bool (by omega), decide_eq_decide]; omega)))
    
    simp (disch := omega) only [wrapA, hdR_l_heldStringS, hdR_l_heldScopeS, hdR_l_heldFilter, hdR_l_heldMsgS]
    repeat' (first | apply And.intro | intro _)
    all_goals first
      | trivial
      | omega
      | contradiction
      | (refine ⟨k + 1, hlt, by omega, ?_, ?_⟩ <;> first | omega | exact wrapN (by unfold maxLen; omega))
      | exact Eq.symm (by assumption)
      | (exfalso; simp_all; done)
  · obtain rfl : k = a.length := by omega
    rw [List.take_length]
def e_l_heldMsgS : Entry Try.prog := ⟨93, [.v (.list tyMsg), .v tyInt], fun x => hdP_l_heldMsgS x.1 x.2.1, fun x => .c (.int .i64 (hdR_l_heldMsgS x.1 x.2.1)), fun _ => [], fun x hx => b_l_heldMsgS x.1 x.2.1 hx, Try.call93⟩
abbrev hdR_l_heldBoxS (a : List GBox) (m : Int) : Int := m + ((cntL a : Nat) : Int)
abbrev hdP_l_heldBoxS (a : List GBox) (m : Int) : Prop := markL a m = a ∧ 0 ≤ m ∧ m + cntL a ≤ 4611686018427387904
def L_l_heldBoxS (a : List GBox) (m : Int) : Nat → List AV → Mem → LoopA
  | 2, tm, M => ⟨Nat, fun y => (setA tm [(1, .c (.int .i64 (m + ((cntL (List.take y a) : Nat) : Int)))), (4, .any), (5, .c (.int .i64 ((y : Nat) : Int))), (6, .any), (7, .any), (8, .any), (9, .any), (10, .any), (11, .any), (12, .any), (13, .any), (14, .any), (15, .any), (16, .any), (17, .any), (18, .any), (19, .any), (20, .any), (21, .any), (22, .any), (23, .any), (24, .any), (25, .any), (26, .any), (27, .any), (28, .any), (29, .any), (30, .any), (31, .any), (32, .any), (33, .any), (34, .any), (35, .any), (36, .any), (37, .any), (38, .any), (39, .any), (40, .any), (41, .any), (42, .any), (43, .any), (44, .any), (45, .any), (46, .any), (47, .any), (48, .any)], M), fun y => (y ≤ List.length a), fun y => (List.length a - y)⟩
  | _, _, _ => ⟨Unit, fun _ => ([], []), fun _ => False, fun _ => 0⟩
set_option maxRecDepth 100000 in
set_option maxHeartbeats 4000000 in
theorem b_l_heldBoxS (a : List GBox) (m : Int) (hpre : hdP_l_heldBoxS a m) : BCalls Try.prog 72 [.c (.hs .no tyBox a), .c (.int .i64 m)] (.c (.int .i64 (hdR_l_heldBoxS a m))) [] := by
  refine bcalls_of (T := ⟨[e_l_markText, e_l_heldMsgS], [], [], [], none, fun _ => [], 0, [], []⟩) (L := (L_l_heldBoxS a m)) Try.func72 ⟨⟨rfl, rfl⟩, rfl⟩ (fun hwf => ?_)
  refine Eq.mpr (β := (True ∧ (True ∧ ((∃ q : Nat, (q ≤ List.length a) ∧ ((leV (.c (.hs .no tyBox a)) (.c (.hs .no tyBox a)) ∧ leV (.c (.int .i64 m)) (.c (.int .i64 (m + ((cntL (List.take q a) : Nat) : Int)))) ∧ leV (.tp []) (.tp []) ∧ leV (.tp []) (.tp []) ∧ True ∧ leV (.c (.int .i64 0)) (.c (.int .i64 ((q : Nat) : Int))) ∧ True ∧ True ∧ True ∧ True ∧ True ∧ True ∧ True ∧ True ∧ True ∧ True ∧ True ∧ True ∧ True ∧ True ∧ True ∧ True ∧ True ∧ True ∧ True ∧ True ∧ True ∧ True ∧ True ∧ True ∧ True ∧ True ∧ True ∧ True ∧ True ∧ True ∧ True ∧ True ∧ True ∧ True ∧ True ∧ True ∧ True ∧ True ∧ True ∧ True ∧ True ∧ True ∧ True ∧ leV (.tp []) (.tp []) ∧ True) ∧ (True) ∧ true = true)) ∧ ∀ y0 : Nat, (y0 ≤ List.length a) → (True ∧ (True ∧ (True ∧ (True ∧ (bif (ltI ((y0 : Nat) : Int) ((List.length a : Nat) : Int)) then ((true = true ∧ true = true) ∧ (True ∧ (True ∧ (((4 : Nat) = 4 ∧ (0 : Int) ≤ ((y0 : Nat) : Int) ∧ (((y0 : Nat) : Int) : Int) < ((List.length a : Nat) : Int)) ∧ (True ∧ (True ∧ (True ∧ ((markP (m + ((cntL (List.take y0 a) : Nat) : Int)) ∧ true = true) ∧ (True ∧ (bif (!eqS (nth_Box a (Int.toNat ((y0 : Nat) : Int))).1 (markT (m + ((cntL (List.take y0 a) : Nat) : Int)))) then (True ∧ ((true = true ∧ leC (.int .i64 (-1)) (.int .i64 (hdR_l_heldBoxS a m))) ∧ true = true)) else (True ∧ (True ∧ (True ∧ (True ∧ (True ∧ (((4 : Nat) = 4 ∧ (0 : Int) ≤ ((y0 : Nat) : Int) ∧ (((y0 : Nat) : Int) : Int) < ((List.length a : Nat) : Int)) ∧ (True ∧ (True ∧ (True ∧ (True ∧ (bif (neI (nth_Box a (Int.toNat ((y0 : Nat) : Int))).2.1 (IntKind.wrap .i64 ((m + ((cntL (List.take y0 a) : Nat) : Int)) + 1))) then (True ∧ ((true = true ∧ leC (.int .i64 (-1)) (.int .i64 (hdR_l_heldBoxS a m))) ∧ true = true)) else (True ∧ (True ∧ (True ∧ (True ∧ (True ∧ (((4 : Nat) = 4 ∧ (0 : Int) ≤ ((y0 : Nat) : Int) ∧ (((y0 : Nat) : Int) : Int) < ((List.length a : Nat) : Int)) ∧ (True ∧ (True ∧ (True ∧ (True ∧ (bif (neI (nth_Box a (Int.toNat ((y0 : Nat) : Int))).2.2.1 (IntKind.wrap .i64 ((IntKind.wrap .i64 ((m + ((cntL (List.take y0 a) : Nat) : Int)) + 1)) + 1))) then (True ∧ ((true = true ∧ leC (.int .i64 (-1)) (.int .i64 (hdR_l_heldBoxS a m))) ∧ true = true)) else (True ∧ (True ∧ (True ∧ (True ∧ (True ∧ (((4 : Nat) = 4 ∧ (0 : Int) ≤ ((y0 : Nat) : Int) ∧ (((y0 : Nat) : Int) : Int) < ((List.length a : Nat) : Int)) ∧ (True ∧ (True ∧ (True ∧ ((hdP_l_heldMsgS (nth_Box a (Int.toNat ((y0 : Nat) : Int))).2.2.2 (IntKind.wrap .i64 ((IntKind.wrap .i64 ((IntKind.wrap .i64 ((m + ((cntL (List.take y0 a) : Nat) : Int)) + 1)) + 1)) + 1)) ∧ true = true) ∧ (True ∧ (True ∧ (True ∧ (bif (ltI (hdR_l_heldMsgS (nth_Box a (Int.toNat ((y0 : Nat) : Int))).2.2.2 (IntKind.wrap .i64 ((IntKind.wrap .i64 ((IntKind.wrap .i64 ((m + ((cntL (List.take y0 a) : Nat) : Int)) + 1)) + 1)) + 1))) 0) then (True ∧ ((true = true ∧ leC (.int .i64 (-1)) (.int .i64 (hdR_l_heldBoxS a m))) ∧ true = true)) else (True ∧ (True ∧ (True ∧ (∃ y0' : Nat, (y0' ≤ List.length a) ∧ (List.length a - y0') < (List.length a - y0) ∧ ((leV (.c (.hs .no tyBox a)) (.c (.hs .no tyBox a)) ∧ leV (.c (.int .i64 (hdR_l_heldMsgS (nth_Box a (Int.toNat ((y0 : Nat) : Int))).2.2.2 (IntKind.wrap .i64 ((IntKind.wrap .i64 ((IntKind.wrap .i64 ((m + ((cntL (List.take y0 a) : Nat) : Int)) + 1)) + 1)) + 1))))) (.c (.int .i64 (m + ((cntL (List.take y0' a) : Nat) : Int)))) ∧ leV (.tp []) (.tp []) ∧ leV (.tp []) (.tp []) ∧ True ∧ leV (.c (.int .i64 (IntKind.wrap .i64 (((y0 : Nat) : Int) + 1)))) (.c (.int .i64 ((y0' : Nat) : Int))) ∧ True ∧ True ∧ True ∧ True ∧ True ∧ True ∧ True ∧ True ∧ True ∧ True ∧ True ∧ True ∧ True ∧ True ∧ True ∧ True ∧ True ∧ True ∧ True ∧ True ∧ True ∧ True ∧ True ∧ True ∧ True ∧ True ∧ True ∧ True ∧ True ∧ True ∧ True ∧ True ∧ True ∧ True ∧ True ∧ True ∧ True ∧ True ∧ True ∧ True ∧ True ∧ True ∧ True ∧ leV (.tp []) (.tp []) ∧ True) ∧ (True) ∧ true = true))))))))))))))))))))))))))))))))))))))))))))))))))) else (True ∧ (True ∧ ((true = true ∧ leC (.int .i64 (m + ((cntL (List.take y0 a) : Nat) : Int))) (.int .i64 (hdR_l_heldBoxS a m))) ∧ true = true)))))))))))) (by kernel_rfl) ?_
  obtain ⟨hmm, hm0, hm1⟩ := hpre
  have hlm : a.length ≤ maxLen := hwf.1.1
  unfold maxLen at hlm
  simp only [true_and, and_true, cond_iff, eqI_true, eqI_false, neI_true, neI_false, ltI_true, ltI_false, leI_true, leI_false, gtI_true, gtI_false, geI_true, geI_false, eqS_true, eqS_false, eqO_true, eqO_false, not_true, not_false, Bool.not_eq_true', Bool.not_eq_false', eq_self, leV_any, leV_int, leV_bool, leV_str, leV_refl, leB_refl, leC_int, leC_bool, leC_str, leC_hs, leB_row, Int.toNat_natCast]
  refine ⟨⟨0, Nat.zero_le _, by simp [cntL], rfl⟩, fun k hk => ⟨fun hlt => ?_, fun hge => ?_⟩⟩
  · have hlt : k < a.length := by omega
    have hg : a[k]? = some (nth_Box a k) := nth_getElem? (t := tyBox) hlt
    have hc : cntL (List.take (k + 1) a) = cntL (List.take k a) + (1 + (1 + (1 + (cntL (nth_Box a k).2.2.2)))) := cntL_snoc hg
    have hcl : cntL (List.take (k + 1) a) ≤ cntL a := cntL_le a (k + 1)
    have hx := marked_nth hmm hg
    have f0 : (nth_Box a k).1 = markT (m + ((cntL (List.take k a) : Nat) : Int)) := (congrArg (fun z => z.1) hx).trans (by first | rfl | (simp only [gm1, gm2, gm3, gm4, gm5, gc1, gc2, gc3, gc4, gc5, gk1, gk2, gk3, gk4, gk5, gx1, gx2, gx3, gx4, gx5]; first | done | omega | (congr 1; omega) | (rw [mark_bool (by omega), decide_eq_decide]; omega)))
    have f1 : (nth_Box a k).2.1 = m + ((cntL (List.take k a) : Nat) : Int) + 1 := (congrArg (fun z => z.2.1) hx).trans (by first | rfl | (simp only [gm1, gm2, gm3, gm4, gm5, gc1, gc2, gc3, gc4, gc5, gk1, gk2, gk3, gk4, gk5, gx1, gx2, gx3, gx4, gx5]; first | done | omega | (congr 1; omega) | (rw [mark_bool (by omega), decide_eq_decide]; omega)))
    have f2 : (nth_Box a k).2.2.1 = m + ((cntL (List.take k a) : Nat) : Int) + 1 + 1 := (congrArg (fun z => z.2.2.1) hx).trans (by first | rfl | (simp only [gm1, gm2, gm3, gm4, gm5, gc1, gc2, gc3, gc4, gc5, gk1, gk2, gk3, gk4, gk5, gx1, gx2, gx3, gx4, gx5]; first | done | omega | (congr 1; omega) | (rw [mark_bool (by omega), decide_eq_decide]; omega)))
    have f3 : (nth_Box a k).2.2.2 = markL ((nth_Box a k).2.2.2) (m + ((cntL (List.take k a) : Nat) : Int) + 1 + 1 + 1) := (congrArg (fun z => z.2.2.2) hx).trans (by first | rfl | (simp only [gm1, gm2, gm3, gm4, gm5, gc1, gc2, gc3, gc4, gc5, gk1, gk2, gk3, gk4, gk5, gx1, gx2, gx3, gx4, gx5]; first | done | omega | (congr 1; omega) | (rw [mark_bool (by omega), decide_eq_decide]; omega)))
    
    simp (disch := omega) only [wrapA, hdR_l_heldStringS, hdR_l_heldScopeS, hdR_l_heldFilter, hdR_l_heldMsgS, hdR_l_heldBoxS]
    repeat' (first | apply And.intro | intro _)
    all_goals first
      | trivial
      | omega
      | contradiction
      | (refine ⟨k + 1, hlt, by omega, ?_, ?_⟩ <;> first | omega | exact wrapN (by unfold maxLen; omega))
      | exact Eq.symm (by assumption)
      | (exfalso; simp_all; done)
  · obtain rfl : k = a.length := by omega
    rw [List.take_length]
def e_l_heldBoxS : Entry Try.prog := ⟨72, [.v (.list tyBox), .v tyInt], fun x => hdP_l_heldBoxS x.1 x.2.1, fun x => .c (.int .i64 (hdR_l_heldBoxS x.1 x.2.1)), fun _ => [], fun x hx => b_l_heldBoxS x.1 x.2.1 hx, Try.call72⟩
abbrev hdR_l_heldCommitS (a : List GCommit) (m : Int) : Int := m + ((cntL a : Nat) : Int)
abbrev hdP_l_heldCommitS (a : List GCommit) (m : Int) : Prop := markL a m = a ∧ 0 ≤ m ∧ m + cntL a ≤ 4611686018427387904
def L_l_heldCommitS (a : List GCommit) (m : Int) : Nat → List AV → Mem → LoopA
  | 2, tm, M => ⟨Nat, fun y => (setA tm [(1, .c (.int .i64 (m + ((cntL (List.take y a) : Nat) : Int)))), (4, .any), (5, .c (.int .i64 ((y : Nat) : Int))), (6, .any), (7, .any), (8, .any), (9, .any), (10, .any), (11, .any), (12, .any), (13, .any), (14, .any), (15, .any), (16, .any), (17, .any), (18, .any), (19, .any), (20, .any), (21, .any), (22, .any), (23, .any), (24, .any), (25, .any), (26, .any), (27, .any), (28, .any), (29, .any), (30, .any), (31, .any), (32, .any), (33, .any), (34, .any), (35, .any), (36, .any), (37, .any), (38, .any), (39, .any), (40, .any), (41, .any), (42, .any), (43, .any), (44, .any), (45, .any), (46, .any), (47, .any), (48, .any), (49, .any), (50, .any), (51, .any), (52, .any), (53, .any), (54, .any), (55, .any), (56, .any), (57, .any), (58, .any), (59, .any), (60, .any), (61, .any), (62, .any), (63, .any), (64, .any), (65, .any), (66, .any), (67, .any)], M), fun y => (y ≤ List.length a), fun y => (List.length a - y)⟩
  | _, _, _ => ⟨Unit, fun _ => ([], []), fun _ => False, fun _ => 0⟩
set_option maxRecDepth 100000 in
set_option maxHeartbeats 4000000 in
theorem b_l_heldCommitS (a : List GCommit) (m : Int) (hpre : hdP_l_heldCommitS a m) : BCalls Try.prog 73 [.c (.hs .no tyCommit a), .c (.int .i64 m)] (.c (.int .i64 (hdR_l_heldCommitS a m))) [] := by
  refine bcalls_of (T := ⟨[e_l_markText], [], [], [], none, fun _ => [], 0, [], []⟩) (L := (L_l_heldCommitS a m)) Try.func73 ⟨⟨rfl, rfl⟩, rfl⟩ (fun hwf => ?_)
  refine Eq.mpr (β := (True ∧ (True ∧ ((∃ q : Nat, (q ≤ List.length a) ∧ ((leV (.c (.hs .no tyCommit a)) (.c (.hs .no tyCommit a)) ∧ leV (.c (.int .i64 m)) (.c (.int .i64 (m + ((cntL (List.take q a) : Nat) : Int)))) ∧ leV (.tp []) (.tp []) ∧ leV (.tp []) (.tp []) ∧ True ∧ leV (.c (.int .i64 0)) (.c (.int .i64 ((q : Nat) : Int))) ∧ True ∧ True ∧ True ∧ True ∧ True ∧ True ∧ True ∧ True ∧ True ∧ True ∧ True ∧ True ∧ True ∧ True ∧ True ∧ True ∧ True ∧ True ∧ True ∧ True ∧ True ∧ True ∧ True ∧ True ∧ True ∧ True ∧ True ∧ True ∧ True ∧ True ∧ True ∧ True ∧ True ∧ True ∧ True ∧ True ∧ True ∧ True ∧ True ∧ True ∧ True ∧ True ∧ True ∧ True ∧ True ∧ True ∧ True ∧ True ∧ True ∧ True ∧ True ∧ True ∧ True ∧ True ∧ True ∧ True ∧ True ∧ True ∧ True ∧ True ∧ True ∧ True ∧ leV (.tp []) (.tp []) ∧ True) ∧ (True) ∧ true = true)) ∧ ∀ y0 : Nat, (y0 ≤ List.length a) → (True ∧ (True ∧ (True ∧ (True ∧ (bif (ltI ((y0 : Nat) : Int) ((List.length a : Nat) : Int)) then (True ∧ (True ∧ (((6 : Nat) = 6 ∧ (0 : Int) ≤ ((y0 : Nat) : Int) ∧ (((y0 : Nat) : Int) : Int) < ((List.length a : Nat) : Int)) ∧ (True ∧ (True ∧ (True ∧ (True ∧ (bif (neI (nth_Commit a (Int.toNat ((y0 : Nat) : Int))).1 (m + ((cntL (List.take y0 a) : Nat) : Int))) then (True ∧ ((true = true ∧ leC (.int .i64 (-1)) (.int .i64 (hdR_l_heldCommitS a m))) ∧ true = true)) else (True ∧ (True ∧ (True ∧ (True ∧ (True ∧ (((6 : Nat) = 6 ∧ (0 : Int) ≤ ((y0 : Nat) : Int) ∧ (((y0 : Nat) : Int) : Int) < ((List.length a : Nat) : Int)) ∧ (True ∧ (True ∧ (True ∧ (True ∧ (bif (neI (nth_Commit a (Int.toNat ((y0 : Nat) : Int))).2.1 (IntKind.wrap .i64 ((m + ((cntL (List.take y0 a) : Nat) : Int)) + 1))) then (True ∧ ((true = true ∧ leC (.int .i64 (-1)) (.int .i64 (hdR_l_heldCommitS a m))) ∧ true = true)) else (True ∧ (True ∧ (True ∧ (True ∧ (True ∧ (((6 : Nat) = 6 ∧ (0 : Int) ≤ ((y0 : Nat) : Int) ∧ (((y0 : Nat) : Int) : Int) < ((List.length a : Nat) : Int)) ∧ (True ∧ (True ∧ (True ∧ (True ∧ (bif (neI (nth_Commit a (Int.toNat ((y0 : Nat) : Int))).2.2.1 (IntKind.wrap .i64 ((IntKind.wrap .i64 ((m + ((cntL (List.take y0 a) : Nat) : Int)) + 1)) + 1))) then (True ∧ ((true = true ∧ leC (.int .i64 (-1)) (.int .i64 (hdR_l_heldCommitS a m))) ∧ true = true)) else (True ∧ (True ∧ (True ∧ (True ∧ (True ∧ (((6 : Nat) = 6 ∧ (0 : Int) ≤ ((y0 : Nat) : Int) ∧ (((y0 : Nat) : Int) : Int) < ((List.length a : Nat) : Int)) ∧ (True ∧ (True ∧ (True ∧ (True ∧ (bif (neI (nth_Commit a (Int.toNat ((y0 : Nat) : Int))).2.2.2.1 (IntKind.wrap .i64 ((IntKind.wrap .i64 ((IntKind.wrap .i64 ((m + ((cntL (List.take y0 a) : Nat) : Int)) + 1)) + 1)) + 1))) then (True ∧ ((true = true ∧ leC (.int .i64 (-1)) (.int .i64 (hdR_l_heldCommitS a m))) ∧ true = true)) else (True ∧ (True ∧ (True ∧ ((true = true ∧ true = true) ∧ (True ∧ (True ∧ (((6 : Nat) = 6 ∧ (0 : Int) ≤ ((y0 : Nat) : Int) ∧ (((y0 : Nat) : Int) : Int) < ((List.length a : Nat) : Int)) ∧ (True ∧ (True ∧ (True ∧ ((markP (IntKind.wrap .i64 ((IntKind.wrap .i64 ((IntKind.wrap .i64 ((IntKind.wrap .i64 ((m + ((cntL (List.take y0 a) : Nat) : Int)) + 1)) + 1)) + 1)) + 1)) ∧ true = true) ∧ (True ∧ (bif (!eqS (nth_Commit a (Int.toNat ((y0 : Nat) : Int))).2.2.2.2.1 (markT (IntKind.wrap .i64 ((IntKind.wrap .i64 ((IntKind.wrap .i64 ((IntKind.wrap .i64 ((m + ((cntL (List.take y0 a) : Nat) : Int)) + 1)) + 1)) + 1)) + 1)))) then (True ∧ ((true = true ∧ leC (.int .i64 (-1)) (.int .i64 (hdR_l_heldCommitS a m))) ∧ true = true)) else (True ∧ (True ∧ (True ∧ ((true = true ∧ true = true) ∧ (True ∧ (True ∧ (((6 : Nat) = 6 ∧ (0 : Int) ≤ ((y0 : Nat) : Int) ∧ (((y0 : Nat) : Int) : Int) < ((List.length a : Nat) : Int)) ∧ (True ∧ (True ∧ (True ∧ ((markP (IntKind.wrap .i64 ((IntKind.wrap .i64 ((IntKind.wrap .i64 ((IntKind.wrap .i64 ((IntKind.wrap .i64 ((m + ((cntL (List.take y0 a) : Nat) : Int)) + 1)) + 1)) + 1)) + 1)) + 1)) ∧ true = true) ∧ (True ∧ (bif (!eqS (nth_Commit a (Int.toNat ((y0 : Nat) : Int))).2.2.2.2.2 (markT (IntKind.wrap .i64 ((IntKind.wrap .i64 ((IntKind.wrap .i64 ((IntKind.wrap .i64 ((IntKind.wrap .i64 ((m + ((cntL (List.take y0 a) : Nat) : Int)) + 1)) + 1)) + 1)) + 1)) + 1)))) then (True ∧ ((true = true ∧ leC (.int .i64 (-1)) (.int .i64 (hdR_l_heldCommitS a m))) ∧ true = true)) else (True ∧ (True ∧ (True ∧ (True ∧ (True ∧ (True ∧ (∃ y0' : Nat, (y0' ≤ List.length a) ∧ (List.length a - y0') < (List.length a - y0) ∧ ((leV (.c (.hs .no tyCommit a)) (.c (.hs .no tyCommit a)) ∧ leV (.c (.int .i64 (IntKind.wrap .i64 ((IntKind.wrap .i64 ((IntKind.wrap .i64 ((IntKind.wrap .i64 ((IntKind.wrap .i64 ((IntKind.wrap .i64 ((m + ((cntL (List.take y0 a) : Nat) : Int)) + 1)) + 1)) + 1)) + 1)) + 1)) + 1)))) (.c (.int .i64 (m + ((cntL (List.take y0' a) : Nat) : Int)))) ∧ leV (.tp []) (.tp []) ∧ leV (.tp []) (.tp []) ∧ True ∧ leV (.c (.int .i64 (IntKind.wrap .i64 (((y0 : Nat) : Int) + 1)))) (.c (.int .i64 ((y0' : Nat) : Int))) ∧ True ∧ True ∧ True ∧ True ∧ True ∧ True ∧ True ∧ True ∧ True ∧ True ∧ True ∧ True ∧ True ∧ True ∧ True ∧ True ∧ True ∧ True ∧ True ∧ True ∧ True ∧ True ∧ True ∧ True ∧ True ∧ True ∧ True ∧ True ∧ True ∧ True ∧ True ∧ True ∧ True ∧ True ∧ True ∧ True ∧ True ∧ True ∧ True ∧ True ∧ True ∧ True ∧ True ∧ True ∧ True ∧ True ∧ True ∧ True ∧ True ∧ True ∧ True ∧ True ∧ True ∧ True ∧ True ∧ True ∧ True ∧ True ∧ True ∧ True ∧ True ∧ True ∧ leV (.tp []) (.tp []) ∧ True) ∧ (True) ∧ true = true))))))))))))))))))))))))))))))))))))))))))))))))))))))))))))))))))))))))))) else (True ∧ (True ∧ ((true = true ∧ leC (.int .i64 (m + ((cntL (List.take y0 a) : Nat) : Int))) (.int .i64 (hdR_l_heldCommitS a m))) ∧ true = true)))))))))))) (by kernel_rfl) ?_
  obtain ⟨hmm, hm0, hm1⟩ := hpre
  have hlm : a.length ≤ maxLen := hwf.1.1
  unfold maxLen at hlm
  simp only [true_and, and_true, cond_iff, eqI_true, eqI_false, neI_true, neI_false, ltI_true, ltI_false, leI_true, leI_false, gtI_true, gtI_false, geI_true, geI_false, eqS_true, eqS_false, eqO_true, eqO_false, not_true, not_false, Bool.not_eq_true', Bool.not_eq_false', eq_self, leV_any, leV_int, leV_bool, leV_str, leV_refl, leB_refl, leC_int, leC_bool, leC_str, leC_hs, leB_row, Int.toNat_natCast]
  refine ⟨⟨0, Nat.zero_le _, by simp [cntL], rfl⟩, fun k hk => ⟨fun hlt => ?_, fun hge => ?_⟩⟩
  · have hlt : k < a.length := by omega
    have hg : a[k]? = some (nth_Commit a k) := nth_getElem? (t := tyCommit) hlt
    have hc : cntL (List.take (k + 1) a) = cntL (List.take k a) + (1 + (1 + (1 + (1 + (1 + (1)))))) := cntL_snoc hg
    have hcl : cntL (List.take (k + 1) a) ≤ cntL a := cntL_le a (k + 1)
    have hx := marked_nth hmm hg
    have f0 : (nth_Commit a k).1 = m + ((cntL (List.take k a) : Nat) : Int) := (congrArg (fun z => z.1) hx).trans (by first | rfl | (simp only [gm1, gm2, gm3, gm4, gm5, gc1, gc2, gc3, gc4, gc5, gk1, gk2, gk3, gk4, gk5, gx1, gx2, gx3, gx4, gx5]; first | done | omega | (congr 1; omega) | (rw [mark_bool (by omega), decide_eq_decide]; omega)))
    have f1 : (nth_Commit a k).2.1 = m + ((cntL (List.take k a) : Nat) : Int) + 1 := (congrArg (fun z => z.2.1) hx).trans (by first | rfl | (simp only [gm1, gm2, gm3, gm4, gm5, gc1, gc2, gc3, gc4, gc5, gk1, gk2, gk3, gk4, gk5, gx1, gx2, gx3, gx4, gx5]; first | done | omega | (congr 1; omega) | (rw [mark_bool (by omega), decide_eq_decide]; omega)))
    have f2 : (nth_Commit a k).2.2.1 = m + ((cntL (List.take k a) : Nat) : Int) + 1 + 1 := (congrArg (fun z => z.2.2.1) hx).trans (by first | rfl | (simp only [gm1, gm2, gm3, gm4, gm5, gc1, gc2, gc3, gc4, gc5, gk1, gk2, gk3, gk4, gk5, gx1, gx2, gx3, gx4, gx5]; first | done | omega | (congr 1; omega) | (rw [mark_bool (by omega), decide_eq_decide]; omega)))
    have f3 : (nth_Commit a k).2.2.2.1 = m + ((cntL (List.take k a) : Nat) : Int) + 1 + 1 + 1 := (congrArg (fun z => z.2.2.2.1) hx).trans (by first | rfl | (simp only [gm1, gm2, gm3, gm4, gm5, gc1, gc2, gc3, gc4, gc5, gk1, gk2, gk3, gk4, gk5, gx1, gx2, gx3, gx4, gx5]; first | done | omega | (congr 1; omega) | (rw [mark_bool (by omega), decide_eq_decide]; omega)))
    have f4 : (nth_Commit a k).2.2.2.2.1 = markT (m + ((cntL (List.take k a) : Nat) : Int) + 1 + 1 + 1 + 1) := (congrArg (fun z => z.2.2.2.2.1) hx).trans (by first | rfl | (simp only [gm1, gm2, gm3, gm4, gm5, gc1, gc2, gc3, gc4, gc5, gk1, gk2, gk3, gk4, gk5, gx1, gx2, gx3, gx4, gx5]; first | done | omega | (congr 1; omega) | (rw [mark_bool (by omega), decide_eq_decide]; omega)))
    have f5 : (nth_Commit a k).2.2.2.2.2 = markT (m + ((cntL (List.take k a) : Nat) : Int) + 1 + 1 + 1 + 1 + 1) := (congrArg (fun z => z.2.2.2.2.2) hx).trans (by first | rfl | (simp only [gm1, gm2, gm3, gm4, gm5, gc1, gc2, gc3, gc4, gc5, gk1, gk2, gk3, gk4, gk5, gx1, gx2, gx3, gx4, gx5]; first | done | omega | (congr 1; omega) | (rw [mark_bool (by omega), decide_eq_decide]; omega)))
    
    simp (disch := omega) only [wrapA, hdR_l_heldStringS, hdR_l_heldScopeS, hdR_l_heldFilter, hdR_l_heldMsgS, hdR_l_heldBoxS, hdR_l_heldCommitS]
    repeat' (first | apply And.intro | intro _)
    all_goals first
      | trivial
      | omega
      | contradiction
      | (refine ⟨k + 1, hlt, by omega, ?_, ?_⟩ <;> first | omega | exact wrapN (by unfold maxLen; omega))
      | exact Eq.symm (by assumption)
      | (exfalso; simp_all; done)
  · obtain rfl : k = a.length := by omega
    rw [List.take_length]
def e_l_heldCommitS : Entry Try.prog := ⟨73, [.v (.list tyCommit), .v tyInt], fun x => hdP_l_heldCommitS x.1 x.2.1, fun x => .c (.int .i64 (hdR_l_heldCommitS x.1 x.2.1)), fun _ => [], fun x hx => b_l_heldCommitS x.1 x.2.1 hx, Try.call73⟩
abbrev hdR_l_heldStore (a : GStore) (m : Int) : Int := m + ((cntI a : Nat) : Int)
abbrev hdP_l_heldStore (a : GStore) (m : Int) : Prop := mrkI a m = a ∧ 0 ≤ m ∧ m + cntI a ≤ 4611686018427387904
set_option maxRecDepth 100000 in
set_option maxHeartbeats 4000000 in
theorem b_l_heldStore (a : GStore) (m : Int) (hpre : hdP_l_heldStore a m) : BCalls Try.prog 43 [.ag [.hs .no tyBox a.1, .hs .no tyCommit a.2.1, .int .i64 a.2.2], .c (.int .i64 m)] (.c (.int .i64 (hdR_l_heldStore a m))) [] := by
  refine bcalls_of (T := ⟨[e_l_heldBoxS, e_l_heldCommitS], [], [], [], none, fun _ => [], 0, [], []⟩) (L := L0) Try.func43 ⟨⟨rfl, rfl⟩, rfl⟩ (fun hwf => ?_)
  refine Eq.mpr (β := (True ∧ (True ∧ (True ∧ (True ∧ (True ∧ ((hdP_l_heldBoxS a.1 m ∧ true = true) ∧ (True ∧ (True ∧ (True ∧ (bif (ltI (hdR_l_heldBoxS a.1 m) 0) then (True ∧ ((true = true ∧ leC (.int .i64 (-1)) (.int .i64 (hdR_l_heldStore a m))) ∧ true = true)) else (True ∧ (True ∧ (True ∧ ((hdP_l_heldCommitS a.2.1 (hdR_l_heldBoxS a.1 m) ∧ true = true) ∧ (True ∧ (True ∧ (True ∧ (bif (ltI (hdR_l_heldCommitS a.2.1 (hdR_l_heldBoxS a.1 m)) 0) then (True ∧ ((true = true ∧ leC (.int .i64 (-1)) (.int .i64 (hdR_l_heldStore a m))) ∧ true = true)) else (True ∧ (True ∧ ((true = true ∧ leC (.int .i64 (hdR_l_heldCommitS a.2.1 (hdR_l_heldBoxS a.1 m))) (.int .i64 (hdR_l_heldStore a m))) ∧ true = true)))))))))))))))))))))) (by kernel_rfl) ?_
  obtain ⟨hmm, hm0, hm1⟩ := hpre
  have hc0 : cntI a = cntL a.1 + (cntL a.2.1 + (0)) := rfl
  have g0 : markL a.1 (m) = a.1 := by
    have h0 : a.1 = markL a.1 (m) := congrArg (fun z : GStore => z.1) hmm.symm
    have hK : m = m := by first | rfl | (simp only [gc1, gc2, gc3, gc4]; omega) | omega
    rw [hK] at h0
    exact h0.symm
  have g1 : markL a.2.1 (m + ((cntL a.1 : Nat) : Int)) = a.2.1 := by
    have h0 : a.2.1 = markL a.2.1 (m + ((cntI a.1 : Nat) : Int)) := congrArg (fun z : GStore => z.2.1) hmm.symm
    have hK : m + ((cntI a.1 : Nat) : Int) = m + ((cntL a.1 : Nat) : Int) := by first | rfl | (simp only [gc1, gc2, gc3, gc4]; omega) | omega
    rw [hK] at h0
    exact h0.symm
  simp only [true_and, and_true, cond_iff, eqI_true, eqI_false, neI_true, neI_false, ltI_true, ltI_false, leI_true, leI_false, gtI_true, gtI_false, geI_true, geI_false, eqS_true, eqS_false, eqO_true, eqO_false, not_true, not_false, Bool.not_eq_true', Bool.not_eq_false', eq_self, leV_any, leV_int, leV_bool, leV_str, leV_refl, leB_refl, leC_int, leC_bool, leC_str, leC_hs, leB_row, Int.toNat_natCast]
  simp only [hdR_l_heldStringS, hdR_l_heldScopeS, hdR_l_heldFilter, hdR_l_heldMsgS, hdR_l_heldBoxS, hdR_l_heldCommitS, hdR_l_heldStore]
  repeat' (first | apply And.intro | intro _)
  all_goals first
    | trivial
    | omega
    | contradiction
    | exact Eq.symm (by assumption)
    | assumption
    | (exfalso; simp_all; done)
def e_l_heldStore : Entry Try.prog := ⟨43, [.s tyStore, .v tyInt], fun x => hdP_l_heldStore x.1 x.2.1, fun x => .c (.int .i64 (hdR_l_heldStore x.1 x.2.1)), fun _ => [], fun x hx => b_l_heldStore x.1 x.2.1 hx, Try.call43⟩
abbrev hdR_l_heldSeenS (a : List GSpan) (m : Int) : Int := m + ((cntL a : Nat) : Int)
abbrev hdP_l_heldSeenS (a : List GSpan) (m : Int) : Prop := markL a m = a ∧ 0 ≤ m ∧ m + cntL a ≤ 4611686018427387904
def L_l_heldSeenS (a : List GSpan) (m : Int) : Nat → List AV → Mem → LoopA
  | 2, tm, M => ⟨Nat, fun y => (setA tm [(1, .c (.int .i64 (m + ((cntL (List.take y a) : Nat) : Int)))), (4, .any), (5, .c (.int .i64 ((y : Nat) : Int))), (6, .any), (7, .any), (8, .any), (9, .any), (10, .any), (11, .any), (12, .any), (13, .any), (14, .any), (15, .any), (16, .any), (17, .any), (18, .any), (19, .any), (20, .any), (21, .any), (22, .any), (23, .any), (24, .any), (25, .any), (26, .any), (27, .any), (28, .any), (29, .any)], M), fun y => (y ≤ List.length a), fun y => (List.length a - y)⟩
  | _, _, _ => ⟨Unit, fun _ => ([], []), fun _ => False, fun _ => 0⟩
set_option maxRecDepth 100000 in
set_option maxHeartbeats 4000000 in
theorem b_l_heldSeenS (a : List GSpan) (m : Int) (hpre : hdP_l_heldSeenS a m) : BCalls Try.prog 74 [.c (.hs .no tySpan a), .c (.int .i64 m)] (.c (.int .i64 (hdR_l_heldSeenS a m))) [] := by
  refine bcalls_of (T := ⟨[], [], [], [], none, fun _ => [], 0, [], []⟩) (L := (L_l_heldSeenS a m)) Try.func74 ⟨⟨rfl, rfl⟩, rfl⟩ (fun hwf => ?_)
  refine Eq.mpr (β := (True ∧ (True ∧ ((∃ q : Nat, (q ≤ List.length a) ∧ ((leV (.c (.hs .no tySpan a)) (.c (.hs .no tySpan a)) ∧ leV (.c (.int .i64 m)) (.c (.int .i64 (m + ((cntL (List.take q a) : Nat) : Int)))) ∧ leV (.tp []) (.tp []) ∧ leV (.tp []) (.tp []) ∧ True ∧ leV (.c (.int .i64 0)) (.c (.int .i64 ((q : Nat) : Int))) ∧ True ∧ True ∧ True ∧ True ∧ True ∧ True ∧ True ∧ True ∧ True ∧ True ∧ True ∧ True ∧ True ∧ True ∧ True ∧ True ∧ True ∧ True ∧ True ∧ True ∧ True ∧ True ∧ True ∧ True ∧ leV (.tp []) (.tp []) ∧ True) ∧ (True) ∧ true = true)) ∧ ∀ y0 : Nat, (y0 ≤ List.length a) → (True ∧ (True ∧ (True ∧ (True ∧ (bif (ltI ((y0 : Nat) : Int) ((List.length a : Nat) : Int)) then (True ∧ (True ∧ (((2 : Nat) = 2 ∧ (0 : Int) ≤ ((y0 : Nat) : Int) ∧ (((y0 : Nat) : Int) : Int) < ((List.length a : Nat) : Int)) ∧ (True ∧ (True ∧ (True ∧ (True ∧ (bif (neI (nth_Span a (Int.toNat ((y0 : Nat) : Int))).1 (m + ((cntL (List.take y0 a) : Nat) : Int))) then (True ∧ ((true = true ∧ leC (.int .i64 (-1)) (.int .i64 (hdR_l_heldSeenS a m))) ∧ true = true)) else (True ∧ (True ∧ (True ∧ (True ∧ (True ∧ (((2 : Nat) = 2 ∧ (0 : Int) ≤ ((y0 : Nat) : Int) ∧ (((y0 : Nat) : Int) : Int) < ((List.length a : Nat) : Int)) ∧ (True ∧ (True ∧ (True ∧ (True ∧ (bif (neI (nth_Span a (Int.toNat ((y0 : Nat) : Int))).2 (IntKind.wrap .i64 ((m + ((cntL (List.take y0 a) : Nat) : Int)) + 1))) then (True ∧ ((true = true ∧ leC (.int .i64 (-1)) (.int .i64 (hdR_l_heldSeenS a m))) ∧ true = true)) else (True ∧ (True ∧ (True ∧ (True ∧ (True ∧ (True ∧ (∃ y0' : Nat, (y0' ≤ List.length a) ∧ (List.length a - y0') < (List.length a - y0) ∧ ((leV (.c (.hs .no tySpan a)) (.c (.hs .no tySpan a)) ∧ leV (.c (.int .i64 (IntKind.wrap .i64 ((IntKind.wrap .i64 ((m + ((cntL (List.take y0 a) : Nat) : Int)) + 1)) + 1)))) (.c (.int .i64 (m + ((cntL (List.take y0' a) : Nat) : Int)))) ∧ leV (.tp []) (.tp []) ∧ leV (.tp []) (.tp []) ∧ True ∧ leV (.c (.int .i64 (IntKind.wrap .i64 (((y0 : Nat) : Int) + 1)))) (.c (.int .i64 ((y0' : Nat) : Int))) ∧ True ∧ True ∧ True ∧ True ∧ True ∧ True ∧ True ∧ True ∧ True ∧ True ∧ True ∧ True ∧ True ∧ True ∧ True ∧ True ∧ True ∧ True ∧ True ∧ True ∧ True ∧ True ∧ True ∧ True ∧ leV (.tp []) (.tp []) ∧ True) ∧ (True) ∧ true = true))))))))))))))))))))))))))) else (True ∧ (True ∧ ((true = true ∧ leC (.int .i64 (m + ((cntL (List.take y0 a) : Nat) : Int))) (.int .i64 (hdR_l_heldSeenS a m))) ∧ true = true)))))))))))) (by kernel_rfl) ?_
  obtain ⟨hmm, hm0, hm1⟩ := hpre
  have hlm : a.length ≤ maxLen := hwf.1.1
  unfold maxLen at hlm
  simp only [true_and, and_true, cond_iff, eqI_true, eqI_false, neI_true, neI_false, ltI_true, ltI_false, leI_true, leI_false, gtI_true, gtI_false, geI_true, geI_false, eqS_true, eqS_false, eqO_true, eqO_false, not_true, not_false, Bool.not_eq_true', Bool.not_eq_false', eq_self, leV_any, leV_int, leV_bool, leV_str, leV_refl, leB_refl, leC_int, leC_bool, leC_str, leC_hs, leB_row, Int.toNat_natCast]
  refine ⟨⟨0, Nat.zero_le _, by simp [cntL], rfl⟩, fun k hk => ⟨fun hlt => ?_, fun hge => ?_⟩⟩
  · have hlt : k < a.length := by omega
    have hg : a[k]? = some (nth_Span a k) := nth_getElem? (t := tySpan) hlt
    have hc : cntL (List.take (k + 1) a) = cntL (List.take k a) + (1 + (1)) := cntL_snoc hg
    have hcl : cntL (List.take (k + 1) a) ≤ cntL a := cntL_le a (k + 1)
    have hx := marked_nth hmm hg
    have f0 : (nth_Span a k).1 = m + ((cntL (List.take k a) : Nat) : Int) := (congrArg (fun z => z.1) hx).trans (by first | rfl | (simp only [gm1, gm2, gm3, gm4, gm5, gc1, gc2, gc3, gc4, gc5, gk1, gk2, gk3, gk4, gk5, gx1, gx2, gx3, gx4, gx5]; first | done | omega | (congr 1; omega) | (rw [mark_bool (by omega), decide_eq_decide]; omega)))
    have f1 : (nth_Span a k).2 = m + ((cntL (List.take k a) : Nat) : Int) + 1 := (congrArg (fun z => z.2) hx).trans (by first | rfl | (simp only [gm1, gm2, gm3, gm4, gm5, gc1, gc2, gc3, gc4, gc5, gk1, gk2, gk3, gk4, gk5, gx1, gx2, gx3, gx4, gx5]; first | done | omega | (congr 1; omega) | (rw [mark_bool (by omega), decide_eq_decide]; omega)))
    
    simp (disch := omega) only [wrapA, hdR_l_heldStringS, hdR_l_heldScopeS, hdR_l_heldFilter, hdR_l_heldMsgS, hdR_l_heldBoxS, hdR_l_heldCommitS, hdR_l_heldStore, hdR_l_heldSeenS]
    repeat' (first | apply And.intro | intro _)
    all_goals first
      | trivial
      | omega
      | contradiction
      | (refine ⟨k + 1, hlt, by omega, ?_, ?_⟩ <;> first | omega | exact wrapN (by unfold maxLen; omega))
      | exact Eq.symm (by assumption)
      | (exfalso; simp_all; done)
  · obtain rfl : k = a.length := by omega
    rw [List.take_length]
def e_l_heldSeenS : Entry Try.prog := ⟨74, [.v (.list tySpan), .v tyInt], fun x => hdP_l_heldSeenS x.1 x.2.1, fun x => .c (.int .i64 (hdR_l_heldSeenS x.1 x.2.1)), fun _ => [], fun x hx => b_l_heldSeenS x.1 x.2.1 hx, Try.call74⟩
abbrev hdR_l_heldNoteS (a : List GNote) (m : Int) : Int := m + ((cntL a : Nat) : Int)
abbrev hdP_l_heldNoteS (a : List GNote) (m : Int) : Prop := markL a m = a ∧ 0 ≤ m ∧ m + cntL a ≤ 4611686018427387904
def L_l_heldNoteS (a : List GNote) (m : Int) : Nat → List AV → Mem → LoopA
  | 2, tm, M => ⟨Nat, fun y => (setA tm [(1, .c (.int .i64 (m + ((cntL (List.take y a) : Nat) : Int)))), (4, .any), (5, .c (.int .i64 ((y : Nat) : Int))), (6, .any), (7, .any), (8, .any), (9, .any), (10, .any), (11, .any), (12, .any), (13, .any), (14, .any), (15, .any), (16, .any), (17, .any), (18, .any), (19, .any), (20, .any), (21, .any), (22, .any), (23, .any), (24, .any), (25, .any), (26, .any), (27, .any), (28, .any), (29, .any), (30, .any), (31, .any), (32, .any), (33, .any), (34, .any), (35, .any), (36, .any), (37, .any), (38, .any), (39, .any), (40, .any), (41, .any), (42, .any), (43, .any), (44, .any), (45, .any), (46, .any), (47, .any), (48, .any)], M), fun y => (y ≤ List.length a), fun y => (List.length a - y)⟩
  | _, _, _ => ⟨Unit, fun _ => ([], []), fun _ => False, fun _ => 0⟩
set_option maxRecDepth 100000 in
set_option maxHeartbeats 4000000 in
theorem b_l_heldNoteS (a : List GNote) (m : Int) (hpre : hdP_l_heldNoteS a m) : BCalls Try.prog 75 [.c (.hs .no tyNote a), .c (.int .i64 m)] (.c (.int .i64 (hdR_l_heldNoteS a m))) [] := by
  refine bcalls_of (T := ⟨[e_l_markText], [], [], [], none, fun _ => [], 0, [], []⟩) (L := (L_l_heldNoteS a m)) Try.func75 ⟨⟨rfl, rfl⟩, rfl⟩ (fun hwf => ?_)
  refine Eq.mpr (β := (True ∧ (True ∧ ((∃ q : Nat, (q ≤ List.length a) ∧ ((leV (.c (.hs .no tyNote a)) (.c (.hs .no tyNote a)) ∧ leV (.c (.int .i64 m)) (.c (.int .i64 (m + ((cntL (List.take q a) : Nat) : Int)))) ∧ leV (.tp []) (.tp []) ∧ leV (.tp []) (.tp []) ∧ True ∧ leV (.c (.int .i64 0)) (.c (.int .i64 ((q : Nat) : Int))) ∧ True ∧ True ∧ True ∧ True ∧ True ∧ True ∧ True ∧ True ∧ True ∧ True ∧ True ∧ True ∧ True ∧ True ∧ True ∧ True ∧ True ∧ True ∧ True ∧ True ∧ True ∧ True ∧ True ∧ True ∧ True ∧ True ∧ True ∧ True ∧ True ∧ True ∧ True ∧ True ∧ True ∧ True ∧ True ∧ True ∧ True ∧ True ∧ True ∧ True ∧ True ∧ True ∧ True ∧ leV (.tp []) (.tp []) ∧ True) ∧ (True) ∧ true = true)) ∧ ∀ y0 : Nat, (y0 ≤ List.length a) → (True ∧ (True ∧ (True ∧ (True ∧ (bif (ltI ((y0 : Nat) : Int) ((List.length a : Nat) : Int)) then (True ∧ (True ∧ (((4 : Nat) = 4 ∧ (0 : Int) ≤ ((y0 : Nat) : Int) ∧ (((y0 : Nat) : Int) : Int) < ((List.length a : Nat) : Int)) ∧ (True ∧ (True ∧ (True ∧ (True ∧ (bif (neI (nth_Note a (Int.toNat ((y0 : Nat) : Int))).1 (m + ((cntL (List.take y0 a) : Nat) : Int))) then (True ∧ ((true = true ∧ leC (.int .i64 (-1)) (.int .i64 (hdR_l_heldNoteS a m))) ∧ true = true)) else (True ∧ (True ∧ (True ∧ (True ∧ (True ∧ (((4 : Nat) = 4 ∧ (0 : Int) ≤ ((y0 : Nat) : Int) ∧ (((y0 : Nat) : Int) : Int) < ((List.length a : Nat) : Int)) ∧ (True ∧ (True ∧ (True ∧ (True ∧ (bif (neI (nth_Note a (Int.toNat ((y0 : Nat) : Int))).2.1 (IntKind.wrap .i64 ((m + ((cntL (List.take y0 a) : Nat) : Int)) + 1))) then (True ∧ ((true = true ∧ leC (.int .i64 (-1)) (.int .i64 (hdR_l_heldNoteS a m))) ∧ true = true)) else (True ∧ (True ∧ (True ∧ (True ∧ (True ∧ (((4 : Nat) = 4 ∧ (0 : Int) ≤ ((y0 : Nat) : Int) ∧ (((y0 : Nat) : Int) : Int) < ((List.length a : Nat) : Int)) ∧ (True ∧ (True ∧ (True ∧ (True ∧ (bif (neI (nth_Note a (Int.toNat ((y0 : Nat) : Int))).2.2.1 (IntKind.wrap .i64 ((IntKind.wrap .i64 ((m + ((cntL (List.take y0 a) : Nat) : Int)) + 1)) + 1))) then (True ∧ ((true = true ∧ leC (.int .i64 (-1)) (.int .i64 (hdR_l_heldNoteS a m))) ∧ true = true)) else (True ∧ (True ∧ (True ∧ ((true = true ∧ true = true) ∧ (True ∧ (True ∧ (((4 : Nat) = 4 ∧ (0 : Int) ≤ ((y0 : Nat) : Int) ∧ (((y0 : Nat) : Int) : Int) < ((List.length a : Nat) : Int)) ∧ (True ∧ (True ∧ (True ∧ ((markP (IntKind.wrap .i64 ((IntKind.wrap .i64 ((IntKind.wrap .i64 ((m + ((cntL (List.take y0 a) : Nat) : Int)) + 1)) + 1)) + 1)) ∧ true = true) ∧ (True ∧ (bif (!eqS (nth_Note a (Int.toNat ((y0 : Nat) : Int))).2.2.2 (markT (IntKind.wrap .i64 ((IntKind.wrap .i64 ((IntKind.wrap .i64 ((m + ((cntL (List.take y0 a) : Nat) : Int)) + 1)) + 1)) + 1)))) then (True ∧ ((true = true ∧ leC (.int .i64 (-1)) (.int .i64 (hdR_l_heldNoteS a m))) ∧ true = true)) else (True ∧ (True ∧ (True ∧ (True ∧ (True ∧ (True ∧ (∃ y0' : Nat, (y0' ≤ List.length a) ∧ (List.length a - y0') < (List.length a - y0) ∧ ((leV (.c (.hs .no tyNote a)) (.c (.hs .no tyNote a)) ∧ leV (.c (.int .i64 (IntKind.wrap .i64 ((IntKind.wrap .i64 ((IntKind.wrap .i64 ((IntKind.wrap .i64 ((m + ((cntL (List.take y0 a) : Nat) : Int)) + 1)) + 1)) + 1)) + 1)))) (.c (.int .i64 (m + ((cntL (List.take y0' a) : Nat) : Int)))) ∧ leV (.tp []) (.tp []) ∧ leV (.tp []) (.tp []) ∧ True ∧ leV (.c (.int .i64 (IntKind.wrap .i64 (((y0 : Nat) : Int) + 1)))) (.c (.int .i64 ((y0' : Nat) : Int))) ∧ True ∧ True ∧ True ∧ True ∧ True ∧ True ∧ True ∧ True ∧ True ∧ True ∧ True ∧ True ∧ True ∧ True ∧ True ∧ True ∧ True ∧ True ∧ True ∧ True ∧ True ∧ True ∧ True ∧ True ∧ True ∧ True ∧ True ∧ True ∧ True ∧ True ∧ True ∧ True ∧ True ∧ True ∧ True ∧ True ∧ True ∧ True ∧ True ∧ True ∧ True ∧ True ∧ True ∧ leV (.tp []) (.tp []) ∧ True) ∧ (True) ∧ true = true))))))))))))))))))))))))))))))))))))))))))))))))))) else (True ∧ (True ∧ ((true = true ∧ leC (.int .i64 (m + ((cntL (List.take y0 a) : Nat) : Int))) (.int .i64 (hdR_l_heldNoteS a m))) ∧ true = true)))))))))))) (by kernel_rfl) ?_
  obtain ⟨hmm, hm0, hm1⟩ := hpre
  have hlm : a.length ≤ maxLen := hwf.1.1
  unfold maxLen at hlm
  simp only [true_and, and_true, cond_iff, eqI_true, eqI_false, neI_true, neI_false, ltI_true, ltI_false, leI_true, leI_false, gtI_true, gtI_false, geI_true, geI_false, eqS_true, eqS_false, eqO_true, eqO_false, not_true, not_false, Bool.not_eq_true', Bool.not_eq_false', eq_self, leV_any, leV_int, leV_bool, leV_str, leV_refl, leB_refl, leC_int, leC_bool, leC_str, leC_hs, leB_row, Int.toNat_natCast]
  refine ⟨⟨0, Nat.zero_le _, by simp [cntL], rfl⟩, fun k hk => ⟨fun hlt => ?_, fun hge => ?_⟩⟩
  · have hlt : k < a.length := by omega
    have hg : a[k]? = some (nth_Note a k) := nth_getElem? (t := tyNote) hlt
    have hc : cntL (List.take (k + 1) a) = cntL (List.take k a) + (1 + (1 + (1 + (1)))) := cntL_snoc hg
    have hcl : cntL (List.take (k + 1) a) ≤ cntL a := cntL_le a (k + 1)
    have hx := marked_nth hmm hg
    have f0 : (nth_Note a k).1 = m + ((cntL (List.take k a) : Nat) : Int) := (congrArg (fun z => z.1) hx).trans (by first | rfl | (simp only [gm1, gm2, gm3, gm4, gm5, gc1, gc2, gc3, gc4, gc5, gk1, gk2, gk3, gk4, gk5, gx1, gx2, gx3, gx4, gx5]; first | done | omega | (congr 1; omega) | (rw [mark_bool (by omega), decide_eq_decide]; omega)))
    have f1 : (nth_Note a k).2.1 = m + ((cntL (List.take k a) : Nat) : Int) + 1 := (congrArg (fun z => z.2.1) hx).trans (by first | rfl | (simp only [gm1, gm2, gm3, gm4, gm5, gc1, gc2, gc3, gc4, gc5, gk1, gk2, gk3, gk4, gk5, gx1, gx2, gx3, gx4, gx5]; first | done | omega | (congr 1; omega) | (rw [mark_bool (by omega), decide_eq_decide]; omega)))
    have f2 : (nth_Note a k).2.2.1 = m + ((cntL (List.take k a) : Nat) : Int) + 1 + 1 := (congrArg (fun z => z.2.2.1) hx).trans (by first | rfl | (simp only [gm1, gm2, gm3, gm4, gm5, gc1, gc2, gc3, gc4, gc5, gk1, gk2, gk3, gk4, gk5, gx1, gx2, gx3, gx4, gx5]; first | done | omega | (congr 1; omega) | (rw [mark_bool (by omega), decide_eq_decide]; omega)))
    have f3 : (nth_Note a k).2.2.2 = markT (m + ((cntL (List.take k a) : Nat) : Int) + 1 + 1 + 1) := (congrArg (fun z => z.2.2.2) hx).trans (by first | rfl | (simp only [gm1, gm2, gm3, gm4, gm5, gc1, gc2, gc3, gc4, gc5, gk1, gk2, gk3, gk4, gk5, gx1, gx2, gx3, gx4, gx5]; first | done | omega | (congr 1; omega) | (rw [mark_bool (by omega), decide_eq_decide]; omega)))
    
    simp (disch := omega) only [wrapA, hdR_l_heldStringS, hdR_l_heldScopeS, hdR_l_heldFilter, hdR_l_heldMsgS, hdR_l_heldBoxS, hdR_l_heldCommitS, hdR_l_heldStore, hdR_l_heldSeenS, hdR_l_heldNoteS]
    repeat' (first | apply And.intro | intro _)
    all_goals first
      | trivial
      | omega
      | contradiction
      | (refine ⟨k + 1, hlt, by omega, ?_, ?_⟩ <;> first | omega | exact wrapN (by unfold maxLen; omega))
      | exact Eq.symm (by assumption)
      | (exfalso; simp_all; done)
  · obtain rfl : k = a.length := by omega
    rw [List.take_length]
def e_l_heldNoteS : Entry Try.prog := ⟨75, [.v (.list tyNote), .v tyInt], fun x => hdP_l_heldNoteS x.1 x.2.1, fun x => .c (.int .i64 (hdR_l_heldNoteS x.1 x.2.1)), fun _ => [], fun x hx => b_l_heldNoteS x.1 x.2.1 hx, Try.call75⟩
end Go.Proofs.Ytpokjemdpgjngaa
