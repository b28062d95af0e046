/-
  The walk of the law FnExactNameAt.
  No condition but what the arguments' cells hold. Printed by vcgen.py.
-/
import Derived.Test.YtigebfhekmjhmaaGreatBlSz
import Derived.Test.YtigebfhekmjhmaaGreatBlTo
import Derived.Test.YtigebfhekmjhmaaGreatEqB
import Derived.Test.YtigebfhekmjhmaaGreatBlName
set_option linter.unusedSimpArgs false
set_option linter.unusedVariables false
namespace Go.Proofs.YtigebfhekmjhmaaGreat
open Go.ChangeShapes Go.WideShapes Go.ChangeAt Go.RowKit Go.Joins Go.Deep
open GoRep (rep bulk)

open GoMark (mrk cnt mrkI cntI)
theorem eqSelf_Store (x : GStore) : eqT_Store x x = true := eqT_Store_true.2 rfl
set_option maxRecDepth 100000 in
set_option maxHeartbeats 4000000 in
theorem b_l_FnExactNameAt (x0 : GStore) (x1 : Int) (x2 : Int) : BCalls Tryz.prog 3 [.ag [.hs .no tyBox x0.1, .hs .no tyCommit x0.2.1, .int .i64 x0.2.2], .c (.int .i64 x1), .c (.int .i64 x2)] (.c (.bool true)) [] := by
  refine bcalls_of (T := ⟨[e_l_szStore, e_l_toStore, e_s_NameAt, e_i_NameAt, e_l_eqStore], [], [], [], none, fun _ => [], 0, [], []⟩) (L := L0) Tryz.func3 ⟨⟨rfl, rfl⟩, rfl⟩ (fun hwf => ?_)
  refine Eq.mpr (β := (True ∧ (True ∧ (True ∧ (True ∧ (True ∧ ((szP 1048576 ∧ true = true) ∧ (True ∧ (True ∧ (True ∧ (bif (ltI (szT 1048576 (bulk x0)) 0) then (True ∧ ((true = true ∧ leC (.bool true) (.bool true)) ∧ true = true)) else (True ∧ ((toP_l_toStore x0 ∧ true = true) ∧ (True ∧ (True ∧ ((True ∧ true = true ∧ true = true) ∧ (True ∧ (True ∧ ((toP_l_toStore x0 ∧ true = true) ∧ (True ∧ (True ∧ (True ∧ (True ∧ (True ∧ ((True ∧ true = true ∧ true = true) ∧ (True ∧ (True ∧ (True ∧ (True ∧ (bif (!eqS (bxAt x0 x1 x2).1.1 (bxAt x0 x1 x2).1.1) then (True ∧ ((true = true ∧ leC (.bool false) (.bool true)) ∧ true = true)) else ((true = true ∧ true = true) ∧ (True ∧ (True ∧ ((toP_l_toStore x0 ∧ true = true) ∧ ((True ∧ true = true ∧ true = true) ∧ (True ∧ (bif (!(eqT_Store x0 x0)) then (True ∧ ((true = true ∧ leC (.bool false) (.bool true)) ∧ true = true)) else (True ∧ ((true = true ∧ leC (.bool true) (.bool true)) ∧ true = true))))))))))))))))))))))))))))))))))))))) (by kernel_rfl) ?_
  have hz_x0 := szT_cases 1048576 (bulk x0)
  have hb_x0 : cntI x0 ≤ (13) * (1 + bulk x0) := MkBd.h2 x0
  simp only [forall_eq, eqSelf_Store, not_true, not_false, false_implies, true_implies, Bool.not_true, Bool.not_false, true_and, and_true, cond_iff, eqI_true, eqI_false, neI_true, neI_false, ltI_true, ltI_false, leI_true, leI_false, gtI_true, gtI_false, geI_true, geI_false, eqS_true, eqS_false, eqO_true, eqO_false, not_true, not_false, Bool.not_eq_true', Bool.not_eq_false', eq_self, leV_any, leV_int, leV_bool, leV_str, leV_refl, leB_refl, leC_int, leC_bool, leC_str, leC_hs, leB_row, Int.toNat_natCast]
  repeat' (with_reducible first | exact trivial | apply And.intro | intro _)
  all_goals first
    | (with_reducible trivial)
    | omega
    | contradiction
    | (with_reducible (show bulk x0 ≤ 1048576); omega)
def e_l_FnExactNameAt : Entry Tryz.prog := ⟨3, [.s tyStore, .v tyInt, .v tyInt], fun x => True, fun x => .c (.bool true), fun _ => [], fun x hx => b_l_FnExactNameAt x.1 x.2.1 x.2.2.1, Tryz.call3⟩
theorem walk_FnExactNameAt (w : World) (hgl : Glob w []) (x0 : GStore) (cx0 : List Value) (hx0 : Held w x0 cx0) (x1 : Int) (hx1 : I64 x1) (x2 : Int) (hx2 : I64 x2) : Calls Tryz.prog 3 #[.agg cx0.toArray, .int .i64 x1, .int .i64 x2] w (RV (.bool (true)) w) :=
  RV.of_b (b_l_FnExactNameAt x0 x1 x2) hgl (⟨_, _, rfl, repW_held tyStore hx0, ⟨_, _, rfl, ⟨rfl, hx1⟩, ⟨_, _, rfl, ⟨rfl, hx2⟩, rfl⟩⟩⟩) (fun _ _ _ h => h)
end Go.Proofs.YtigebfhekmjhmaaGreat
