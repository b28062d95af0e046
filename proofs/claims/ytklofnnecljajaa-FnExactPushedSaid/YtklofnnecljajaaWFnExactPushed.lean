/-
  The walk of the law FnExactPushed.
  No condition but what the arguments' cells hold. Printed by vcgen.py.
-/
import Derived.Test.YtklofnnecljajaaBlSz
import Derived.Test.YtklofnnecljajaaBlTo
import Derived.Test.YtklofnnecljajaaBlMk
import Derived.Test.YtklofnnecljajaaBlHd
import Derived.Test.YtklofnnecljajaaEqB
import Derived.Test.YtklofnnecljajaaBlPush
set_option linter.unusedSimpArgs false
set_option linter.unusedVariables false
namespace Go.Proofs.Ytklofnnecljajaa
open Go.ChangeShapes Go.WideShapes Go.ChangeAt Go.RowKit Go.Joins Go.Deep
open GoRep (rep bulk)

open GoMark (mrk cnt mrkI cntI)
theorem eqSelf_Queue (x : GQueue) : eqT_Queue x x = true := eqT_Queue_true.2 rfl
theorem eqSelf_LNote (x : List GNote) : eqT_LNote x x = true := eqT_LNote_true.2 rfl
set_option maxRecDepth 100000 in
set_option maxHeartbeats 4000000 in
theorem b_l_FnExactPushed (x0 : GQueue) (x1 : List GNote) : BCalls Try.prog 3 [.ag [.hs .no tyNote x0.1, .bool x0.2.1, .bool x0.2.2], .c (.hs .no tyNote x1)] (.c (.bool true)) [] := by
  refine bcalls_of (T := ⟨[e_l_szQueue, e_l_szNoteS, e_l_toQueue, e_l_toNoteS, e_s_Pushed, e_i_Pushed, e_l_eqQueue, e_l_eqNoteS, e_l_heldQueue], [], [], [e_l_markQueue, e_l_markNoteS], none, fun _ => [], 0, [], []⟩) (L := L0) Try.func3 ⟨⟨rfl, rfl⟩, rfl⟩ (fun hwf => ?_)
  refine Eq.mpr (β := (True ∧ (True ∧ (True ∧ (True ∧ (True ∧ ((szP 1048576 ∧ true = true) ∧ (True ∧ (True ∧ (True ∧ (bif (ltI (szT 1048576 (bulk x0)) 0) then (True ∧ ((true = true ∧ leC (.bool true) (.bool true)) ∧ true = true)) else (True ∧ (True ∧ ((szP (szT 1048576 (bulk x0)) ∧ true = true) ∧ (True ∧ (True ∧ (True ∧ (bif (ltI (szT (szT 1048576 (bulk x0)) (bulk x1)) 0) then (True ∧ ((true = true ∧ leC (.bool true) (.bool true)) ∧ true = true)) else (True ∧ ((toP_l_toQueue x0 ∧ true = true) ∧ (True ∧ ((toP_l_toNoteS x1 ∧ true = true) ∧ (((List.length x0.1 ≤ 1048576 ∧ List.length x1 ≤ 1048576) ∧ true = true ∧ true = true) ∧ (True ∧ (True ∧ (True ∧ ((toP_l_toQueue x0 ∧ true = true) ∧ (True ∧ (True ∧ (True ∧ ((toP_l_toNoteS x1 ∧ true = true) ∧ (True ∧ (True ∧ (True ∧ (((List.length x0.1 ≤ 1048576 ∧ List.length x1 ≤ 1048576) ∧ true = true ∧ true = true) ∧ (True ∧ (True ∧ (True ∧ (True ∧ ((True ∧ true = true ∧ true = true) ∧ (True ∧ (bif (!(eqT_Queue (pushAll x0 x1 (List.length x1)) (pushAll x0 x1 (List.length x1)))) then (True ∧ ((true = true ∧ leC (.bool false) (.bool true)) ∧ true = true)) else ((true = true ∧ true = true) ∧ (True ∧ (True ∧ ((toP_l_toQueue x0 ∧ true = true) ∧ ((True ∧ true = true ∧ true = true) ∧ (True ∧ (bif (!(eqT_Queue x0 x0)) then (True ∧ ((true = true ∧ leC (.bool false) (.bool true)) ∧ true = true)) else (True ∧ (True ∧ ((toP_l_toNoteS x1 ∧ true = true) ∧ ((True ∧ true = true ∧ true = true) ∧ (True ∧ (bif (!(eqT_LNote x1 x1)) then (True ∧ ((true = true ∧ leC (.bool false) (.bool true)) ∧ true = true)) else (True ∧ (True ∧ (True ∧ (((mkP_l_markQueue x0 1 ∧ ((((x0.1 = x0.1) ∧ (true = true ∧ leC (.bool x0.2.1) (.bool x0.2.1)) ∧ (true = true ∧ leC (.bool x0.2.2) (.bool x0.2.2)) ∧ True)) ∧ True)) ∧ true = true) ∧ ∀ r0 : List GNote, r0 = (mkF_l_markQueue x0 1).1 → (True ∧ (True ∧ (True ∧ (((mkP_l_markNoteS x1 (mkR_l_markQueue x0 1) ∧ ((x1 = x1) ∧ True)) ∧ true = true) ∧ ∀ r1 : List GNote, r1 = mkF_l_markNoteS x1 (mkR_l_markQueue x0 1) → (True ∧ (True ∧ (True ∧ (True ∧ (bif (ltI (mkR_l_markNoteS x1 (mkR_l_markQueue x0 1)) 0) then (True ∧ (True ∧ ((true = true ∧ leC (.bool false) (.bool true)) ∧ true = true))) else (True ∧ (True ∧ ((True ∧ true = true ∧ true = true) ∧ (True ∧ (True ∧ (bif (!(eqT_Queue (pushAll x0 x1 (List.length x1)) (pushAll x0 x1 (List.length x1)))) then (True ∧ ((true = true ∧ leC (.bool false) (.bool true)) ∧ true = true)) else (True ∧ (True ∧ (True ∧ (((mkP_l_markQueue (pushAll x0 x1 (List.length x1)) 1 ∧ (((((pushAll x0 x1 (List.length x1)).1 = (pushAll x0 x1 (List.length x1)).1) ∧ (true = true ∧ leC (.bool (pushAll x0 x1 (List.length x1)).2.1) (.bool (pushAll x0 x1 (List.length x1)).2.1)) ∧ (true = true ∧ leC (.bool (pushAll x0 x1 (List.length x1)).2.2) (.bool (pushAll x0 x1 (List.length x1)).2.2)) ∧ True)) ∧ True)) ∧ true = true) ∧ ∀ r2 : List GNote, r2 = (mkF_l_markQueue (pushAll x0 x1 (List.length x1)) 1).1 → (True ∧ (True ∧ (True ∧ (True ∧ ((hdP_l_heldQueue (r2, (pushAll x0 x1 (List.length x1)).2) 1 ∧ true = true ∧ true = true) ∧ (True ∧ (True ∧ (True ∧ (bif (ltI (hdR_l_heldQueue (r2, (pushAll x0 x1 (List.length x1)).2) 1) 0) then (True ∧ ((true = true ∧ leC (.bool false) (.bool true)) ∧ true = true)) else (True ∧ (True ∧ (True ∧ (bif (neI (hdR_l_heldQueue (r2, (pushAll x0 x1 (List.length x1)).2) 1) (mkR_l_markQueue (pushAll x0 x1 (List.length x1)) 1)) then (True ∧ ((true = true ∧ leC (.bool false) (.bool true)) ∧ true = true)) else (True ∧ ((toP_l_toQueue x0 ∧ true = true) ∧ (True ∧ ((toP_l_toNoteS x1 ∧ true = true) ∧ (((List.length x0.1 ≤ 1048576 ∧ List.length x1 ≤ 1048576) ∧ true = true ∧ true = true) ∧ (True ∧ (True ∧ (True ∧ (True ∧ ((True ∧ true = true ∧ true = true) ∧ (True ∧ (bif (!(eqT_Queue (pushAll x0 x1 (List.length x1)) (pushAll x0 x1 (List.length x1)))) then (True ∧ ((true = true ∧ leC (.bool false) (.bool true)) ∧ true = true)) else (True ∧ (True ∧ (True ∧ ((hdP_l_heldQueue (r2, (pushAll x0 x1 (List.length x1)).2) 1 ∧ true = true ∧ true = true) ∧ (True ∧ (True ∧ (True ∧ (bif (ltI (hdR_l_heldQueue (r2, (pushAll x0 x1 (List.length x1)).2) 1) 0) then (True ∧ ((true = true ∧ leC (.bool false) (.bool true)) ∧ true = true)) else (True ∧ (True ∧ (True ∧ (bif (neI (hdR_l_heldQueue (r2, (pushAll x0 x1 (List.length x1)).2) 1) (mkR_l_markQueue (pushAll x0 x1 (List.length x1)) 1)) then (True ∧ ((true = true ∧ leC (.bool false) (.bool true)) ∧ true = true)) else (True ∧ ((true = true ∧ leC (.bool true) (.bool true)) ∧ true = true))))))))))))))))))))))))))))))))))))))))))))))))))))))))))))))))))))))))))))))))))))))))))))))))))))))))))))))))))))) (by kernel_rfl) ?_
  have hz_x0 := szT_cases 1048576 (bulk x0)
  have hz_x1 := szT_cases (szT 1048576 (bulk x0)) (bulk x1)
  have hb_x0 : cntI x0 ≤ (6) * (1 + bulk x0) := MkBd.h2 x0
  have hb_x1 : cntL x1 ≤ (4) * (1 + bulk x1) := MkBd.h2 x1
  have hl0 : List.length x0.1 ≤ bulk x0 := Nat.le_trans (len_bulk (α := GNote) x0.1) (Nat.le_add_right _ _)
  have hl1 : List.length x1 ≤ bulk x1 := len_bulk (α := GNote) x1
  have hN0 : cntI (pushAll x0 x1 (List.length x1)) ≤ 4 * (bulk x0 + bulk x1) := pushAll_cnt x0 x1
  simp only [forall_eq, eqSelf_Queue, eqSelf_LNote, mkR_l_markQueue, mkF_l_markQueue, mkR_l_markNoteS, mkF_l_markNoteS, hdR_l_heldQueue, not_true, not_false, false_implies, true_implies, Bool.not_true, Bool.not_false, true_and, and_true, cond_iff, eqI_true, eqI_false, neI_true, neI_false, ltI_true, ltI_false, leI_true, leI_false, gtI_true, gtI_false, geI_true, geI_false, eqS_true, eqS_false, eqO_true, eqO_false, not_true, not_false, Bool.not_eq_true', Bool.not_eq_false', eq_self, leV_any, leV_int, leV_bool, leV_str, leV_refl, leB_refl, leC_int, leC_bool, leC_str, leC_hs, leB_row, Int.toNat_natCast]
  generalize hc0 : pushAll x0 x1 (List.length x1) = c0 at hN0 ⊢
  have hm0 : cntI (mrkI c0 1) = cntI c0 := MkOk.c2 c0 1
  have hT0 : (((mrkI c0 1).1, c0.2)) = mrkI c0 1 := rfl
  simp only [hT0, hm0]
  have hI0 : mrkI (mrkI c0 1) 1 = mrkI c0 1 := MkOk.i2 c0 1
  repeat' (with_reducible first | exact trivial | apply And.intro | intro _)
  all_goals first
    | (with_reducible trivial)
    | omega
    | (with_reducible exact hI0)
    | (with_reducible (rw [hm0]; omega))
    | contradiction
    | (with_reducible (show bulk x0 ≤ 1048576); omega)
    | (with_reducible (show bulk x1 ≤ 1048576); omega)
def e_l_FnExactPushed : Entry Try.prog := ⟨3, [.s tyQueue, .v (.list tyNote)], fun x => True, fun x => .c (.bool true), fun _ => [], fun x hx => b_l_FnExactPushed x.1 x.2.1, Try.call3⟩
theorem walk_FnExactPushed (w : World) (hgl : Glob w []) (x0 : GQueue) (cx0 : List Value) (hx0 : Held w x0 cx0) (x1 : List GNote) (vx1 : Value) (hx1 : Held w x1 [vx1]) : Calls Try.prog 3 #[.agg cx0.toArray, vx1] w (RV (.bool (true)) w) :=
  RV.of_b (b_l_FnExactPushed x0 x1) hgl (⟨_, _, rfl, repW_held tyQueue hx0, ⟨_, _, rfl, repW_held1 tyNote hx1, rfl⟩⟩) (fun _ _ _ h => h)
end Go.Proofs.Ytklofnnecljajaa
