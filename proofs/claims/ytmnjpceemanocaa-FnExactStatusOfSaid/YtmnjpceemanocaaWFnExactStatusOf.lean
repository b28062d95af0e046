/-
  The walk of the law FnExactStatusOf.
  No condition but what the arguments' cells hold. Printed by vcgen.py.
-/
import Derived.Test.YtmnjpceemanocaaBlSz
import Derived.Test.YtmnjpceemanocaaBlTo
import Derived.Test.YtmnjpceemanocaaBlMk
import Derived.Test.YtmnjpceemanocaaBlHd
import Derived.Test.YtmnjpceemanocaaEqB
import Derived.Test.YtmnjpceemanocaaBlStat
set_option linter.unusedSimpArgs false
set_option linter.unusedVariables false
namespace Go.Proofs.Ytmnjpceemanocaa
open Go.ChangeShapes Go.WideShapes Go.ChangeAt Go.RowKit Go.Joins Go.Deep
open GoRep (rep bulk)

open GoMark (mrk cnt mrkI cntI)
theorem eqSelf_Store (x : GStore) : eqT_Store x x = true := eqT_Store_true.2 rfl
theorem eqSelf_LCommit (x : List GCommit) : eqT_LCommit x x = true := eqT_LCommit_true.2 rfl
set_option maxRecDepth 100000 in
set_option maxHeartbeats 4000000 in
theorem b_l_FnExactStatusOf (x0 : GStore) (x1 : ByteArray) : BCalls Try.prog 3 [.ag [.hs .no tyBox x0.1, .hs .no tyCommit x0.2.1, .int .i64 x0.2.2], .c (.str x1)] (.c (.bool true)) [] := by
  refine bcalls_of (T := ⟨[e_l_szStore, e_l_toStore, e_s_StatusOf, e_i_StatusOf, e_l_eqReplyS, e_l_eqStore, e_l_heldReplyS], [], [], [e_l_markStore, e_l_markReplyS], none, fun _ => [], 0, []⟩) (L := L0) Try.func3 ⟨⟨rfl, rfl⟩, rfl⟩ (fun hwf => ?_)
  refine Eq.mpr (β := (True ∧ (True ∧ (True ∧ (True ∧ (True ∧ (bif (gtI ((ByteArray.size x1 : Nat) : Int) 1048576) then (True ∧ ((true = true ∧ leC (.bool true) (.bool true)) ∧ true = true)) else (True ∧ (True ∧ (True ∧ ((szP 1048576 ∧ true = true) ∧ (True ∧ (True ∧ (True ∧ (bif (ltI (szT 1048576 (bulk x0)) 0) then (True ∧ ((true = true ∧ leC (.bool true) (.bool true)) ∧ true = true)) else (True ∧ ((toP_l_toStore x0 ∧ true = true) ∧ (True ∧ ((True ∧ true = true ∧ true = true) ∧ (True ∧ (True ∧ ((toP_l_toStore x0 ∧ true = true) ∧ (True ∧ (True ∧ (True ∧ (True ∧ ((True ∧ true = true ∧ true = true) ∧ (True ∧ (True ∧ (True ∧ ((True ∧ true = true ∧ true = true) ∧ (True ∧ (bif (!(eqT_LCommit (statusL x0 x1) (statusL x0 x1))) then (True ∧ ((true = true ∧ leC (.bool false) (.bool true)) ∧ true = true)) else ((true = true ∧ true = true) ∧ (True ∧ (True ∧ ((toP_l_toStore x0 ∧ true = true) ∧ ((True ∧ true = true ∧ true = true) ∧ (True ∧ (bif (!(eqT_Store x0 x0)) then (True ∧ ((true = true ∧ leC (.bool false) (.bool true)) ∧ true = true)) else (True ∧ (True ∧ (True ∧ (((mkP_l_markStore x0 1 ∧ ((((x0.1 = x0.1) ∧ (x0.2.1 = x0.2.1) ∧ (true = true ∧ leC (.int .i64 x0.2.2) (.int .i64 x0.2.2)) ∧ True)) ∧ True)) ∧ true = true) ∧ ∀ r0 : List GBox, r0 = (mkF_l_markStore x0 1).1 → ∀ r1 : List GCommit, r1 = (mkF_l_markStore x0 1).2.1 → (True ∧ (True ∧ (True ∧ (True ∧ (bif (ltI (mkR_l_markStore x0 1) 0) then (True ∧ (True ∧ ((true = true ∧ leC (.bool false) (.bool true)) ∧ true = true))) else (True ∧ (True ∧ ((True ∧ true = true ∧ true = true) ∧ (True ∧ (True ∧ (bif (!(eqT_LCommit (statusL x0 x1) (statusL x0 x1))) then (True ∧ ((true = true ∧ leC (.bool false) (.bool true)) ∧ true = true)) else (True ∧ (True ∧ (True ∧ (((mkP_l_markReplyS (statusL x0 x1) 1 ∧ (((statusL x0 x1) = (statusL x0 x1)) ∧ True)) ∧ true = true) ∧ ∀ r2 : List GCommit, r2 = mkF_l_markReplyS (statusL x0 x1) 1 → (True ∧ (True ∧ (True ∧ (True ∧ ((hdP_l_heldReplyS r2 1 ∧ true = true ∧ true = true) ∧ (True ∧ (True ∧ (True ∧ (bif (ltI (hdR_l_heldReplyS r2 1) 0) then (True ∧ ((true = true ∧ leC (.bool false) (.bool true)) ∧ true = true)) else (True ∧ (True ∧ (True ∧ (bif (neI (hdR_l_heldReplyS r2 1) (mkR_l_markReplyS (statusL x0 x1) 1)) then (True ∧ ((true = true ∧ leC (.bool false) (.bool true)) ∧ true = true)) else (True ∧ ((toP_l_toStore x0 ∧ true = true) ∧ (True ∧ ((True ∧ true = true ∧ true = true) ∧ (True ∧ (True ∧ (True ∧ ((True ∧ true = true ∧ true = true) ∧ (True ∧ (bif (!(eqT_LCommit (statusL x0 x1) (statusL x0 x1))) then (True ∧ ((true = true ∧ leC (.bool false) (.bool true)) ∧ true = true)) else (True ∧ (True ∧ (True ∧ ((hdP_l_heldReplyS r2 1 ∧ true = true ∧ true = true) ∧ (True ∧ (True ∧ (True ∧ (bif (ltI (hdR_l_heldReplyS r2 1) 0) then (True ∧ ((true = true ∧ leC (.bool false) (.bool true)) ∧ true = true)) else (True ∧ (True ∧ (True ∧ (bif (neI (hdR_l_heldReplyS r2 1) (mkR_l_markReplyS (statusL x0 x1) 1)) then (True ∧ ((true = true ∧ leC (.bool false) (.bool true)) ∧ true = true)) else (True ∧ ((true = true ∧ leC (.bool true) (.bool true)) ∧ true = true)))))))))))))))))))))))))))))))))))))))))))))))))))))))))))))))))))))))))))))))))))))))))))))))) (by kernel_rfl) ?_
  have hz_x0 := szT_cases 1048576 (bulk x0)
  have hb_x0 : cntI x0 ≤ (13) * (1 + bulk x0) := MkBd.h2 x0
  have hN0 : cntL (statusL x0 x1) ≤ 6 := by unfold statusL; split <;> first | exact Nat.zero_le 6 | exact Nat.le_refl 6
  simp only [forall_eq, eqSelf_Store, eqSelf_LCommit, mkR_l_markStore, mkF_l_markStore, mkR_l_markReplyS, mkF_l_markReplyS, hdR_l_heldReplyS, not_true, not_false, false_implies, true_implies, Bool.not_true, Bool.not_false, true_and, and_true, cond_iff, eqI_true, eqI_false, neI_true, neI_false, ltI_true, ltI_false, leI_true, leI_false, gtI_true, gtI_false, geI_true, geI_false, eqS_true, eqS_false, eqO_true, eqO_false, not_true, not_false, Bool.not_eq_true', Bool.not_eq_false', eq_self, leV_any, leV_int, leV_bool, leV_str, leV_refl, leB_refl, leC_int, leC_bool, leC_str, leC_hs, leB_row, Int.toNat_natCast]
  generalize hc0 : statusL x0 x1 = c0 at hN0 ⊢
  have hm0 : cntL (markL c0 1) = cntL c0 := MkOk.c2 c0 1
  simp only [hm0]
  have hH0 : hdP_l_heldReplyS (markL c0 1) 1 := ⟨MkOk.i2 c0 1, by omega, by rw [hm0]; omega⟩
  repeat' (with_reducible first | exact trivial | exact hH0 | apply And.intro | intro _)
  all_goals first
    | (with_reducible exact hH0)
    | (with_reducible trivial)
    | omega
    | contradiction
    | (show bulk x0 ≤ 1048576; omega)
def e_l_FnExactStatusOf : Entry Try.prog := ⟨3, [.s tyStore, .v tyStr], fun x => True, fun x => .c (.bool true), fun _ => [], fun x hx => b_l_FnExactStatusOf x.1 x.2.1, Try.call3⟩
theorem walk_FnExactStatusOf (w : World) (x0 : GStore) (cx0 : List Value) (hx0 : Held w x0 cx0) (x1 : ByteArray) (hx1 : x1.size ≤ maxLen) : Calls Try.prog 3 #[.agg cx0.toArray, .string x1] w (RV (.bool (true)) w) :=
  RV.of_b (b_l_FnExactStatusOf x0 x1) (⟨_, _, rfl, repW_held tyStore hx0, ⟨_, _, rfl, ⟨rfl, hx1⟩, rfl⟩⟩) (fun _ _ _ h => h)
end Go.Proofs.Ytmnjpceemanocaa
