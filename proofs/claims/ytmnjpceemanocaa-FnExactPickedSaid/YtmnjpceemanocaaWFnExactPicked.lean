/-
  The walk of the law FnExactPicked.
  No condition but what the arguments' cells hold. Printed by vcgen.py.
-/
import Derived.Test.YtmnjpceemanocaaBlSz
import Derived.Test.YtmnjpceemanocaaBlTo
import Derived.Test.YtmnjpceemanocaaBlMk
import Derived.Test.YtmnjpceemanocaaBlHd
import Derived.Test.YtmnjpceemanocaaEqB
import Derived.Test.YtmnjpceemanocaaBlPick
set_option linter.unusedSimpArgs false
set_option linter.unusedVariables false
namespace Go.Proofs.Ytmnjpceemanocaa
open Go.ChangeShapes Go.WideShapes Go.ChangeAt Go.RowKit Go.Joins Go.Deep
open GoRep (rep bulk)

open GoMark (mrk cnt mrkI cntI)
theorem eqSelf_Command (x : GCommand) : eqT_Command x x = true := eqT_Command_true.2 rfl
theorem eqSelf_LSpan (x : GView) : eqT_LSpan x x = true := eqT_LSpan_true.2 rfl
theorem eqSelf_LInt (x : List Int) : eqT_LInt x x = true := eqT_LInt_true.2 rfl
set_option maxRecDepth 100000 in
set_option maxHeartbeats 4000000 in
theorem b_l_FnExactPicked (x0 : GCommand) (x1 : List GSpan) : BCalls Try.prog 5 [.ag [.str x0.1, .int .i64 x0.2.1, .str x0.2.2.1, .str x0.2.2.2.1, .bool x0.2.2.2.2.1, .hs .no tySpan x0.2.2.2.2.2.1, .int .i64 x0.2.2.2.2.2.2.1, .int .i64 x0.2.2.2.2.2.2.2.1, .str x0.2.2.2.2.2.2.2.2.1, .bool x0.2.2.2.2.2.2.2.2.2.1, .hs .no tyScope x0.2.2.2.2.2.2.2.2.2.2], .ag [.hs .no tySpan x1]] (.c (.bool true)) [] := by
  refine bcalls_of (T := ⟨[e_l_szCommand, e_l_szView, e_l_toCommand, e_l_toView, e_s_Picked, e_i_Picked, e_l_eqIntS, e_l_eqCommand, e_l_eqView, e_l_heldIntS], [], [], [e_l_markCommand, e_l_markView, e_l_markIntS], none, fun _ => [], 0, []⟩) (L := L0) Try.func5 ⟨⟨rfl, rfl⟩, rfl⟩ (fun hwf => ?_)
  refine Eq.mpr (β := (True ∧ (True ∧ (True ∧ (True ∧ (True ∧ (True ∧ ((szP 1048576 ∧ true = true) ∧ (True ∧ (True ∧ (True ∧ (bif (ltI (szT 1048576 (bulk x0)) 0) then (True ∧ ((true = true ∧ leC (.bool true) (.bool true)) ∧ true = true)) else (True ∧ (True ∧ ((szP (szT 1048576 (bulk x0)) ∧ true = true) ∧ (True ∧ (True ∧ (True ∧ (bif (ltI (szT (szT 1048576 (bulk x0)) (bulk x1)) 0) then (True ∧ ((true = true ∧ leC (.bool true) (.bool true)) ∧ true = true)) else ((true = true ∧ true = true) ∧ (True ∧ (True ∧ ((toP_l_toCommand x0 ∧ true = true) ∧ ((toP_l_toView x1 ∧ true = true) ∧ ((List.length x1 ≤ rowMax ∧ true = true ∧ true = true) ∧ (True ∧ (True ∧ ((toP_l_toCommand x0 ∧ true = true) ∧ (True ∧ (True ∧ (True ∧ ((toP_l_toView x1 ∧ true = true) ∧ (True ∧ (True ∧ (True ∧ (True ∧ ((List.length x1 ≤ rowMax ∧ true = true ∧ true = true) ∧ (True ∧ (True ∧ (True ∧ ((True ∧ true = true ∧ true = true) ∧ (True ∧ (bif (!(eqT_LInt (pickedL x0 x1) (pickedL x0 x1))) then (True ∧ ((true = true ∧ leC (.bool false) (.bool true)) ∧ true = true)) else ((true = true ∧ true = true) ∧ (True ∧ (True ∧ ((toP_l_toCommand x0 ∧ true = true) ∧ ((True ∧ true = true ∧ true = true) ∧ (True ∧ (bif (!(eqT_Command x0 x0)) then (True ∧ ((true = true ∧ leC (.bool false) (.bool true)) ∧ true = true)) else ((true = true ∧ true = true) ∧ (True ∧ (True ∧ ((toP_l_toView x1 ∧ true = true) ∧ ((True ∧ true = true ∧ true = true) ∧ (True ∧ (bif (!(eqT_LSpan x1 x1)) then (True ∧ ((true = true ∧ leC (.bool false) (.bool true)) ∧ true = true)) else (True ∧ (True ∧ (True ∧ (((mkP_l_markCommand x0 1 ∧ ((((true = true ∧ leC (.str x0.1) (.str x0.1)) ∧ (true = true ∧ leC (.int .i64 x0.2.1) (.int .i64 x0.2.1)) ∧ (true = true ∧ leC (.str x0.2.2.1) (.str x0.2.2.1)) ∧ (true = true ∧ leC (.str x0.2.2.2.1) (.str x0.2.2.2.1)) ∧ (true = true ∧ leC (.bool x0.2.2.2.2.1) (.bool x0.2.2.2.2.1)) ∧ (x0.2.2.2.2.2.1 = x0.2.2.2.2.2.1) ∧ (true = true ∧ leC (.int .i64 x0.2.2.2.2.2.2.1) (.int .i64 x0.2.2.2.2.2.2.1)) ∧ (true = true ∧ leC (.int .i64 x0.2.2.2.2.2.2.2.1) (.int .i64 x0.2.2.2.2.2.2.2.1)) ∧ (true = true ∧ leC (.str x0.2.2.2.2.2.2.2.2.1) (.str x0.2.2.2.2.2.2.2.2.1)) ∧ (true = true ∧ leC (.bool x0.2.2.2.2.2.2.2.2.2.1) (.bool x0.2.2.2.2.2.2.2.2.2.1)) ∧ (x0.2.2.2.2.2.2.2.2.2.2 = x0.2.2.2.2.2.2.2.2.2.2) ∧ True)) ∧ True)) ∧ true = true) ∧ ∀ r0 : List GSpan, r0 = (mkF_l_markCommand x0 1).2.2.2.2.2.1 → ∀ r1 : List GScope, r1 = (mkF_l_markCommand x0 1).2.2.2.2.2.2.2.2.2.2 → (True ∧ (True ∧ (True ∧ (((mkP_l_markView x1 (mkR_l_markCommand x0 1) ∧ ((((x1 = x1) ∧ True)) ∧ True)) ∧ true = true) ∧ ∀ r2 : List GSpan, r2 = mkF_l_markView x1 (mkR_l_markCommand x0 1) → (True ∧ (True ∧ (True ∧ (True ∧ (bif (ltI (mkR_l_markView x1 (mkR_l_markCommand x0 1)) 0) then (True ∧ (True ∧ ((true = true ∧ leC (.bool false) (.bool true)) ∧ true = true))) else (True ∧ (True ∧ ((True ∧ true = true ∧ true = true) ∧ (True ∧ (True ∧ (bif (!(eqT_LInt (pickedL x0 x1) (pickedL x0 x1))) then (True ∧ ((true = true ∧ leC (.bool false) (.bool true)) ∧ true = true)) else (True ∧ (True ∧ (True ∧ (((mkP_l_markIntS (pickedL x0 x1) 1 ∧ (((pickedL x0 x1) = (pickedL x0 x1)) ∧ True)) ∧ true = true) ∧ ∀ r3 : List Int, r3 = mkF_l_markIntS (pickedL x0 x1) 1 → (True ∧ (True ∧ (True ∧ (True ∧ ((hdP_l_heldIntS r3 1 ∧ true = true ∧ true = true) ∧ (True ∧ (True ∧ (True ∧ (bif (ltI (hdR_l_heldIntS r3 1) 0) then (True ∧ ((true = true ∧ leC (.bool false) (.bool true)) ∧ true = true)) else (True ∧ (True ∧ (True ∧ (bif (neI (hdR_l_heldIntS r3 1) (mkR_l_markIntS (pickedL x0 x1) 1)) then (True ∧ ((true = true ∧ leC (.bool false) (.bool true)) ∧ true = true)) else ((true = true ∧ true = true) ∧ (True ∧ (True ∧ ((toP_l_toCommand x0 ∧ true = true) ∧ ((toP_l_toView x1 ∧ true = true) ∧ ((List.length x1 ≤ rowMax ∧ true = true ∧ true = true) ∧ (True ∧ (True ∧ (True ∧ ((True ∧ true = true ∧ true = true) ∧ (True ∧ (bif (!(eqT_LInt (pickedL x0 x1) (pickedL x0 x1))) then (True ∧ ((true = true ∧ leC (.bool false) (.bool true)) ∧ true = true)) else (True ∧ (True ∧ (True ∧ ((hdP_l_heldIntS r3 1 ∧ true = true ∧ true = true) ∧ (True ∧ (True ∧ (True ∧ (bif (ltI (hdR_l_heldIntS r3 1) 0) then (True ∧ ((true = true ∧ leC (.bool false) (.bool true)) ∧ true = true)) else (True ∧ (True ∧ (True ∧ (bif (neI (hdR_l_heldIntS r3 1) (mkR_l_markIntS (pickedL x0 x1) 1)) then (True ∧ ((true = true ∧ leC (.bool false) (.bool true)) ∧ true = true)) else (True ∧ ((true = true ∧ leC (.bool true) (.bool true)) ∧ true = true))))))))))))))))))))))))))))))))))))))))))))))))))))))))))))))))))))))))))))))))))))))))))))))))))))))))))))))))))))))) (by kernel_rfl) ?_
  have hz_x0 := szT_cases 1048576 (bulk x0)
  have hz_x1 := szT_cases (szT 1048576 (bulk x0)) (bulk x1)
  have hb_x0 : cntI x0 ≤ (14) * (1 + bulk x0) := MkBd.h2 x0
  have hb_x1 : cntI x1 ≤ (2) * (1 + bulk x1) := MkBd.h2 x1
  have hN0 : cntL (pickedL x0 x1) ≤ bulk x1 + 999 := pickedL_cnt x0 x1
  simp only [forall_eq, eqSelf_Command, eqSelf_LSpan, eqSelf_LInt, mkR_l_markCommand, mkF_l_markCommand, mkR_l_markView, mkF_l_markView, mkR_l_markIntS, mkF_l_markIntS, hdR_l_heldIntS, not_true, not_false, false_implies, true_implies, Bool.not_true, Bool.not_false, true_and, and_true, cond_iff, eqI_true, eqI_false, neI_true, neI_false, ltI_true, ltI_false, leI_true, leI_false, gtI_true, gtI_false, geI_true, geI_false, eqS_true, eqS_false, eqO_true, eqO_false, not_true, not_false, Bool.not_eq_true', Bool.not_eq_false', eq_self, leV_any, leV_int, leV_bool, leV_str, leV_refl, leB_refl, leC_int, leC_bool, leC_str, leC_hs, leB_row, Int.toNat_natCast]
  generalize hc0 : pickedL x0 x1 = c0 at hN0 ⊢
  have hm0 : cntL (markL c0 1) = cntL c0 := MkOk.c2 c0 1
  simp only [hm0]
  have hH0 : bulk x0 ≤ 1048576 → bulk x1 ≤ 1048576 → hdP_l_heldIntS (markL c0 1) 1 := fun hbk_x0 => fun hbk_x1 => ⟨MkOk.i2 c0 1, by omega, by rw [hm0]; omega⟩
  repeat' (with_reducible first | exact trivial | exact hH0 (by omega) (by omega) | apply And.intro | intro _)
  all_goals first
    | (with_reducible exact hH0 (by omega) (by omega))
    | (with_reducible trivial)
    | omega
    | contradiction
    | (show bulk x0 ≤ 1048576; omega)
    | (show bulk x1 ≤ 1048576; omega)
    | (show List.length x1 ≤ rowMax; have := len_bulk (α := GSpan) x1; have h2 : bulk x1 ≤ 1048576 := (by omega); exact Nat.le_trans this (Nat.le_trans h2 (by decide)))
def e_l_FnExactPicked : Entry Try.prog := ⟨5, [.s tyCommand, .s (.list tySpan)], fun x => True, fun x => .c (.bool true), fun _ => [], fun x hx => b_l_FnExactPicked x.1 x.2.1, Try.call5⟩
theorem walk_FnExactPicked (w : World) (hgl : Glob w []) (x0 : GCommand) (cx0 : List Value) (hx0 : Held w x0 cx0) (x1 : GView) (cx1 : List Value) (hx1 : Held w x1 cx1) : Calls Try.prog 5 #[.agg cx0.toArray, .agg cx1.toArray] w (RV (.bool (true)) w) :=
  RV.of_b (b_l_FnExactPicked x0 x1) hgl (⟨_, _, rfl, repW_held tyCommand hx0, ⟨_, _, rfl, repW_held (.list tySpan) hx1, rfl⟩⟩) (fun _ _ _ h => h)
end Go.Proofs.Ytmnjpceemanocaa
