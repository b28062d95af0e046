/-
  The walk of the law FnExactNotesFor.
  No condition but what the arguments' cells hold. Printed by vcgen.py.
-/
import Derived.Test.YtigebfhekmjhmaaGreatXBlSz
import Derived.Test.YtigebfhekmjhmaaGreatXBlTo
import Derived.Test.YtigebfhekmjhmaaGreatXBlMk
import Derived.Test.YtigebfhekmjhmaaGreatXBlHd
import Derived.Test.YtigebfhekmjhmaaGreatXEqB
import Derived.Test.YtigebfhekmjhmaaGreatXBlNotes
set_option linter.unusedSimpArgs false
set_option linter.unusedVariables false
namespace Go.Proofs.YtigebfhekmjhmaaGreat
open Go.ChangeShapes Go.WideShapes Go.ChangeAt Go.RowKit Go.Joins Go.Deep
open GoRep (rep bulk)

open GoMark (mrk cnt mrkI cntI)
theorem eqSelf_Session (x : GSession) : eqT_Session x x = true := eqT_Session_true.2 rfl
theorem eqSelf_Store (x : GStore) : eqT_Store x x = true := eqT_Store_true.2 rfl
theorem eqSelf_LNote (x : List GNote) : eqT_LNote x x = true := eqT_LNote_true.2 rfl
def k0u0zz0 : Prop := (True ∧ ((true = true ∧ leC (.bool false) (.bool true)) ∧ true = true))
set_option maxRecDepth 100000 in
set_option maxHeartbeats 4000000 in
theorem b_l_FnExactNotesFor (x0 : GStore) (x1 : GSession) (x2 : Int) : BCalls Tryz.prog 5 [.ag (cellsOf tyStore x0), .ag (cellsOf tySession x1), .c (.int .i64 x2)] (.c (.bool true)) [] := by
  refine bcalls_of (T := ⟨[e_l_szStore, e_l_szSession, e_l_toStore, e_l_toSession, e_s_NotesFor, e_i_NotesFor, e_l_eqNoteS, e_l_eqStore, e_l_eqSession, e_l_heldNoteS], [], [], [e_l_markStore, e_l_markSession, e_l_markNoteS], none, fun _ => [], 0, [], []⟩) (L := L0) Tryz.func5 ⟨⟨rfl, rfl⟩, rfl⟩ (fun hwf => ?_)
  refine Eq.mpr (β := (T6 ((szP 1048576 ∧ true = true) ∧ (T3 (bif (ltI (szT 1048576 (bulk x0)) 0) then (True ∧ ((true = true ∧ leC (.bool true) (.bool true)) ∧ true = true)) else (T2 ((szP (szT 1048576 (bulk x0)) ∧ true = true) ∧ (T3 (bif (ltI (szT (szT 1048576 (bulk x0)) (bulk x1)) 0) then (True ∧ ((true = true ∧ leC (.bool true) (.bool true)) ∧ true = true)) else ((true = true ∧ true = true) ∧ (T3 ((toP_l_toStore x0 ∧ true = true) ∧ ((toP_l_toSession x1 ∧ true = true) ∧ ((True ∧ true = true ∧ true = true) ∧ (T2 ((toP_l_toStore x0 ∧ true = true) ∧ (T3 ((toP_l_toSession x1 ∧ true = true) ∧ (T5 ((True ∧ true = true ∧ true = true) ∧ (T3 ((True ∧ true = true ∧ true = true) ∧ (True ∧ (bif (!(eqT_LNote (notesL x0 x1 x2) (notesL x0 x1 x2))) then k0u0zz0 else ((true = true ∧ true = true) ∧ (T2 ((toP_l_toStore x0 ∧ true = true) ∧ ((True ∧ true = true ∧ true = true) ∧ (True ∧ (bif (!(eqT_Store x0 x0)) then k0u0zz0 else ((true = true ∧ true = true) ∧ (T2 ((toP_l_toSession x1 ∧ true = true) ∧ ((True ∧ true = true ∧ true = true) ∧ (True ∧ (bif (!(eqT_Session x1 x1)) then k0u0zz0 else (T3 (((mkP_l_markStore x0 1 ∧ ((((x0.1 = x0.1) ∧ (x0.2.1 = x0.2.1) ∧ (true = true ∧ leC (.int .i64 x0.2.2) (.int .i64 x0.2.2)) ∧ True)) ∧ True)) ∧ true = true) ∧ ∀ r0 : List GBox, r0 = (mkF_l_markStore x0 1).1 → ∀ r1 : List GCommit, r1 = (mkF_l_markStore x0 1).2.1 → (T3 (((mkP_l_markSession x1 (mkR_l_markStore x0 1) ∧ ((((true = true ∧ leC (.bool x1.1) (.bool x1.1)) ∧ (true = true ∧ leC (.int .i64 x1.2.1) (.int .i64 x1.2.1)) ∧ (true = true ∧ leC (.int .i64 x1.2.2.1) (.int .i64 x1.2.2.1)) ∧ (true = true ∧ leC (.int .i64 x1.2.2.2.1) (.int .i64 x1.2.2.2.1)) ∧ (x1.2.2.2.2.1 = x1.2.2.2.2.1) ∧ (true = true ∧ leC (.bool x1.2.2.2.2.2.1.1) (.bool x1.2.2.2.2.2.1.1)) ∧ (x1.2.2.2.2.2.1.2 = x1.2.2.2.2.2.1.2) ∧ (true = true ∧ leC (.str x1.2.2.2.2.2.2.1) (.str x1.2.2.2.2.2.2.1)) ∧ (true = true ∧ leC (.str x1.2.2.2.2.2.2.2.1) (.str x1.2.2.2.2.2.2.2.1)) ∧ (x1.2.2.2.2.2.2.2.2.1.1 = x1.2.2.2.2.2.2.2.2.1.1) ∧ (true = true ∧ leC (.bool x1.2.2.2.2.2.2.2.2.1.2.1) (.bool x1.2.2.2.2.2.2.2.2.1.2.1)) ∧ (true = true ∧ leC (.bool x1.2.2.2.2.2.2.2.2.1.2.2) (.bool x1.2.2.2.2.2.2.2.2.1.2.2)) ∧ (true = true ∧ leC (.str x1.2.2.2.2.2.2.2.2.2.1.1) (.str x1.2.2.2.2.2.2.2.2.2.1.1)) ∧ (true = true ∧ leC (.bool x1.2.2.2.2.2.2.2.2.2.1.2) (.bool x1.2.2.2.2.2.2.2.2.2.1.2)) ∧ (true = true ∧ leC (.str x1.2.2.2.2.2.2.2.2.2.2.1.1) (.str x1.2.2.2.2.2.2.2.2.2.2.1.1)) ∧ (true = true ∧ leC (.str x1.2.2.2.2.2.2.2.2.2.2.1.2) (.str x1.2.2.2.2.2.2.2.2.2.2.1.2)) ∧ (true = true ∧ leC (.int .i64 x1.2.2.2.2.2.2.2.2.2.2.2) (.int .i64 x1.2.2.2.2.2.2.2.2.2.2.2)) ∧ True)) ∧ True)) ∧ true = true) ∧ ∀ r2 : List GSpan, r2 = (mkF_l_markSession x1 (mkR_l_markStore x0 1)).2.2.2.2.1 → ∀ r3 : List GScope, r3 = (mkF_l_markSession x1 (mkR_l_markStore x0 1)).2.2.2.2.2.1.2 → ∀ r4 : List GNote, r4 = (mkF_l_markSession x1 (mkR_l_markStore x0 1)).2.2.2.2.2.2.2.2.1.1 → (T4 (bif (ltI (mkR_l_markSession x1 (mkR_l_markStore x0 1)) 0) then (True ∧ k0u0zz0) else (T2 ((True ∧ true = true ∧ true = true) ∧ (T2 (bif (!(eqT_LNote (notesL x0 x1 x2) (notesL x0 x1 x2))) then k0u0zz0 else (T3 (((mkP_l_markNoteS (notesL x0 x1 x2) 1 ∧ (((notesL x0 x1 x2) = (notesL x0 x1 x2)) ∧ True)) ∧ true = true) ∧ ∀ r5 : List GNote, r5 = mkF_l_markNoteS (notesL x0 x1 x2) 1 → (T4 ((hdP_l_heldNoteS r5 1 ∧ true = true ∧ true = true) ∧ (T3 (bif (ltI (hdR_l_heldNoteS r5 1) 0) then k0u0zz0 else (T3 (bif (neI (hdR_l_heldNoteS r5 1) (mkR_l_markNoteS (notesL x0 x1 x2) 1)) then k0u0zz0 else ((true = true ∧ true = true) ∧ (T3 ((toP_l_toStore x0 ∧ true = true) ∧ ((toP_l_toSession x1 ∧ true = true) ∧ ((True ∧ true = true ∧ true = true) ∧ (T3 ((True ∧ true = true ∧ true = true) ∧ (True ∧ (bif (!(eqT_LNote (notesL x0 x1 x2) (notesL x0 x1 x2))) then k0u0zz0 else (T3 ((hdP_l_heldNoteS r5 1 ∧ true = true ∧ true = true) ∧ (T3 (bif (ltI (hdR_l_heldNoteS r5 1) 0) then k0u0zz0 else (T3 (bif (neI (hdR_l_heldNoteS r5 1) (mkR_l_markNoteS (notesL x0 x1 x2) 1)) then k0u0zz0 else (True ∧ ((true = true ∧ leC (.bool true) (.bool true)) ∧ true = true))))))))))))))))))))))))))))))))))))))))))))))))))))))))))))))))))))))) (by kernel_rfl) ?_
  unfold k0u0zz0 T2 T3 T4 T5 T6
  have hz_x0 := szT_cases 1048576 (bulk x0)
  have hz_x1 := szT_cases (szT 1048576 (bulk x0)) (bulk x1)
  have hb_x0 : cntI x0 ≤ (13) * (1 + bulk x0) := MkBd.h2 x0
  have hb_x1 : cntI x1 ≤ (23) * (1 + bulk x1) := MkBd.h2 x1
  have hN0 : cntL (notesL x0 x1 x2) ≤ 8 := by
    have h1 := notesL_len x0 x1 x2
    have h2 := cntNo (notesL x0 x1 x2)
    omega
  simp only [forall_eq, eqSelf_Session, eqSelf_Store, eqSelf_LNote, mkR_l_markSession, mkF_l_markSession, mkR_l_markStore, mkF_l_markStore, mkR_l_markNoteS, mkF_l_markNoteS, hdR_l_heldNoteS, not_true, not_false, false_implies, true_implies, Bool.not_true, Bool.not_false, SIA, eq_self]
  generalize hc0 : notesL x0 x1 x2 = c0 at hN0 ⊢
  have hm0 : cntL (markL c0 1) = cntL c0 := MkOk.c2 c0 1
  simp only [hm0]
  have hI0 : markL (markL c0 1) 1 = markL c0 1 := MkOk.i2 c0 1
  repeat' (with_reducible first | exact trivial | apply And.intro | intro _)
  all_goals first
    | (with_reducible trivial)
    | omega
    | (with_reducible exact hI0)
    | (with_reducible (rw [hm0]; omega))
    | contradiction
    | (with_reducible (show bulk x0 ≤ 1048576); omega)
    | (with_reducible (show bulk x1 ≤ 1048576); omega)
def e_l_FnExactNotesFor : Entry Tryz.prog := ⟨5, [.s tyStore, .s tySession, .v tyInt], fun x => True, fun x => .c (.bool true), fun _ => [], fun x hx => b_l_FnExactNotesFor x.1 x.2.1 x.2.2.1, Tryz.call5⟩
theorem walk_FnExactNotesFor (w : World) (hgl : Glob w []) (x0 : GStore) (cx0 : List Value) (hx0 : Held w x0 cx0) (x1 : GSession) (cx1 : List Value) (hx1 : Held w x1 cx1) (x2 : Int) (hx2 : I64 x2) : Calls Tryz.prog 5 #[.agg cx0.toArray, .agg cx1.toArray, .int .i64 x2] w (RV (.bool (true)) w) :=
  RV.of_b (b_l_FnExactNotesFor x0 x1 x2) hgl (⟨_, _, rfl, repW_held tyStore hx0, ⟨_, _, rfl, repW_held tySession hx1, ⟨_, _, rfl, ⟨rfl, hx2⟩, rfl⟩⟩⟩) (fun _ _ _ h => h)
end Go.Proofs.YtigebfhekmjhmaaGreat
