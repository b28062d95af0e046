/-
  The laws' functions markX.
  No condition but what the arguments' cells hold. Printed by vcgen.py.
-/
import Derived.Test.YtklofnnecljajaaMarkB
set_option linter.unusedSimpArgs false
set_option linter.unusedVariables false
namespace Go.Proofs.Ytklofnnecljajaa
open Go.ChangeShapes Go.WideShapes Go.ChangeAt Go.RowKit Go.Joins Go.Deep
open GoRep (rep bulk)

open GoMark (mrk cnt mrkI cntI)
abbrev mkR_l_markStringS (a : List ByteArray) (m : Int) : Int := m + ((cntL a : Nat) : Int)
abbrev mkF_l_markStringS (a : List ByteArray) (m : Int) : List ByteArray := markL a m
abbrev mkR_l_markIntS (a : List Int) (m : Int) : Int := m + ((cntL a : Nat) : Int)
abbrev mkF_l_markIntS (a : List Int) (m : Int) : List Int := markL a m
abbrev mkR_l_markTokenS (a : List GToken) (m : Int) : Int := m + ((cntL a : Nat) : Int)
abbrev mkF_l_markTokenS (a : List GToken) (m : Int) : List GToken := markL a m
abbrev mkR_l_markScopeS (a : List GScope) (m : Int) : Int := m + ((cntL a : Nat) : Int)
abbrev mkF_l_markScopeS (a : List GScope) (m : Int) : List GScope := markL a m
abbrev mkR_l_markFilter (a : GFilter) (m : Int) : Int := m + ((cntI a : Nat) : Int)
abbrev mkF_l_markFilter (a : GFilter) (m : Int) : GFilter := mrkI a m
abbrev mkR_l_markMsgS (a : List GMsg) (m : Int) : Int := m + ((cntL a : Nat) : Int)
abbrev mkF_l_markMsgS (a : List GMsg) (m : Int) : List GMsg := markL a m
abbrev mkR_l_markBoxS (a : List GBox) (m : Int) : Int := m + ((cntL a : Nat) : Int)
abbrev mkF_l_markBoxS (a : List GBox) (m : Int) : List GBox := markL a m
abbrev mkR_l_markCommitS (a : List GCommit) (m : Int) : Int := m + ((cntL a : Nat) : Int)
abbrev mkF_l_markCommitS (a : List GCommit) (m : Int) : List GCommit := markL a m
abbrev mkR_l_markStore (a : GStore) (m : Int) : Int := m + ((cntI a : Nat) : Int)
abbrev mkF_l_markStore (a : GStore) (m : Int) : GStore := mrkI a m
abbrev mkR_l_markSeenS (a : List GSpan) (m : Int) : Int := m + ((cntL a : Nat) : Int)
abbrev mkF_l_markSeenS (a : List GSpan) (m : Int) : List GSpan := markL a m
abbrev mkR_l_markView (a : GView) (m : Int) : Int := m + ((cntI a : Nat) : Int)
abbrev mkF_l_markView (a : GView) (m : Int) : GView := mrkI a m
abbrev mkR_l_markReplyS (a : List GCommit) (m : Int) : Int := m + ((cntL a : Nat) : Int)
abbrev mkF_l_markReplyS (a : List GCommit) (m : Int) : List GCommit := markL a m
abbrev mkR_l_markNoteS (a : List GNote) (m : Int) : Int := m + ((cntL a : Nat) : Int)
abbrev mkF_l_markNoteS (a : List GNote) (m : Int) : List GNote := markL a m
abbrev mkK_l_markNoteS (a : List GNote) (m : Int) (k : Nat) : List GNote := mkTo a m k
abbrev mkP_l_markNoteS (a : List GNote) (m : Int) : Prop := 0 ≤ m ∧ m + cntL a ≤ 4611686018427387904
def L_l_markNoteS (a : List GNote) (m : Int) : Nat → List AV → Mem → LoopA
  | 2, tm, M => ⟨Nat, fun y => (setA tm [(1, .c (.int .i64 (m + ((cntL (List.take y a) : Nat) : Int)))), (5, .c (.int .i64 ((y : Nat) : Int))), (6, .any), (7, .any), (8, .any), (9, .any), (10, .any), (11, .any), (12, .any), (13, .any), (14, .any), (15, .any), (16, .any), (17, .any), (18, .any), (19, .any), (20, .any), (21, .any), (22, .any), (23, .any), (24, .any), (25, .any), (26, .any), (27, .any), (28, .any), (29, .any), (30, .any), (31, .any), (32, .any), (33, .any), (34, .any), (35, .any), (36, .any), (37, .any), (38, .any), (39, .any), (40, .any)], setM M [(0, .row tyNote (mkK_l_markNoteS a m y) 0 0 none)]), fun y => (y ≤ List.length a), fun y => (List.length a - y)⟩
  | _, _, _ => ⟨Unit, fun _ => ([], []), fun _ => False, fun _ => 0⟩
set_option maxRecDepth 100000 in
set_option maxHeartbeats 4000000 in
theorem m_l_markNoteS (a : List GNote) (m : Int) (hpre : mkP_l_markNoteS a m) : MCalls Try.prog 16 (argsM 0 [(.q false (.list tyNote)), (.a (.v tyInt))] (a, m, ())) (preM 0 [(.q false (.list tyNote)), (.a (.v tyInt))] (a, m, ())) (postM 0 [(.q false (.list tyNote)), (.a (.v tyInt))] (mkF_l_markNoteS a m, m, ()) ++ []) (inpM 0 [(.q false (.list tyNote)), (.a (.v tyInt))]) (.c (.int .i64 (mkR_l_markNoteS a m))) := by
  refine mcalls_of (T := ⟨[e_l_markText], [], [], [], none, fun _ => [], 1, [0], []⟩) (L := (L_l_markNoteS a m)) Try.func16 rfl rfl rfl (by kernel_rfl) (fun hwf hwm => ?_)
  refine Eq.mpr (β := (True ∧ (True ∧ ((∃ q : Nat, (q ≤ List.length a) ∧ ((leV (.c (.row 0 0)) (.c (.row 0 0)) ∧ leV (.c (.int .i64 m)) (.c (.int .i64 (m + ((cntL (List.take q a) : Nat) : Int)))) ∧ leV (.tp []) (.tp []) ∧ leV (.tp []) (.tp []) ∧ leV (.c (.int .i64 0)) (.c (.int .i64 0)) ∧ leV (.c (.int .i64 0)) (.c (.int .i64 ((q : Nat) : Int))) ∧ True ∧ True ∧ True ∧ True ∧ True ∧ True ∧ True ∧ True ∧ True ∧ True ∧ True ∧ True ∧ True ∧ True ∧ True ∧ True ∧ True ∧ True ∧ True ∧ True ∧ True ∧ True ∧ True ∧ True ∧ True ∧ True ∧ True ∧ True ∧ True ∧ True ∧ True ∧ True ∧ True ∧ True ∧ True ∧ leV (.tp []) (.tp []) ∧ True) ∧ (leB (.row tyNote a 0 0 none) (.row tyNote (mkK_l_markNoteS a m q) 0 0 none) ∧ True) ∧ true = true)) ∧ ∀ y0 : Nat, (y0 ≤ List.length a) → (True ∧ (True ∧ (True ∧ (True ∧ (bif (ltI ((y0 : Nat) : Int) ((List.length (mkK_l_markNoteS a m y0) : Nat) : Int)) then (True ∧ (True ∧ (True ∧ (((4 : Nat) = 4 ∧ (0 : Int) ≤ ((y0 : Nat) : Int) ∧ (((y0 : Nat) : Int) : Int) < ((List.length (mkK_l_markNoteS a m y0) : Nat) : Int)) ∧ (True ∧ (True ∧ ∀ r1 : List GNote, r1 = (List.set (mkK_l_markNoteS a m y0) (Int.toNat ((y0 : Nat) : Int)) ((m + ((cntL (List.take y0 a) : Nat) : Int)), (nth_Note (mkK_l_markNoteS a m y0) (Int.toNat ((y0 : Nat) : Int))).2)) → (True ∧ (True ∧ (True ∧ (True ∧ (True ∧ (True ∧ (((4 : Nat) = 4 ∧ (0 : Int) ≤ ((y0 : Nat) : Int) ∧ (((y0 : Nat) : Int) : Int) < ((List.length r1 : Nat) : Int)) ∧ (True ∧ (True ∧ ∀ r2 : List GNote, r2 = (List.set r1 (Int.toNat ((y0 : Nat) : Int)) ((nth_Note r1 (Int.toNat ((y0 : Nat) : Int))).1, ((IntKind.wrap .i64 ((m + ((cntL (List.take y0 a) : Nat) : Int)) + 1)), (nth_Note r1 (Int.toNat ((y0 : Nat) : Int))).2.2))) → (True ∧ (True ∧ (True ∧ (True ∧ (True ∧ (True ∧ (((4 : Nat) = 4 ∧ (0 : Int) ≤ ((y0 : Nat) : Int) ∧ (((y0 : Nat) : Int) : Int) < ((List.length r2 : Nat) : Int)) ∧ (True ∧ (True ∧ ∀ r3 : List GNote, r3 = (List.set r2 (Int.toNat ((y0 : Nat) : Int)) ((nth_Note r2 (Int.toNat ((y0 : Nat) : Int))).1, ((nth_Note r2 (Int.toNat ((y0 : Nat) : Int))).2.1, ((IntKind.wrap .i64 ((IntKind.wrap .i64 ((m + ((cntL (List.take y0 a) : Nat) : Int)) + 1)) + 1)), (nth_Note r2 (Int.toNat ((y0 : Nat) : Int))).2.2.2)))) → (True ∧ (True ∧ (True ∧ (True ∧ (True ∧ (True ∧ ((markP (IntKind.wrap .i64 ((IntKind.wrap .i64 ((IntKind.wrap .i64 ((m + ((cntL (List.take y0 a) : Nat) : Int)) + 1)) + 1)) + 1)) ∧ true = true) ∧ (((4 : Nat) = 4 ∧ (0 : Int) ≤ ((y0 : Nat) : Int) ∧ (((y0 : Nat) : Int) : Int) < ((List.length r3 : Nat) : Int)) ∧ (True ∧ (True ∧ ∀ r4 : List GNote, r4 = (List.set r3 (Int.toNat ((y0 : Nat) : Int)) ((nth_Note r3 (Int.toNat ((y0 : Nat) : Int))).1, ((nth_Note r3 (Int.toNat ((y0 : Nat) : Int))).2.1, ((nth_Note r3 (Int.toNat ((y0 : Nat) : Int))).2.2.1, markT (IntKind.wrap .i64 ((IntKind.wrap .i64 ((IntKind.wrap .i64 ((m + ((cntL (List.take y0 a) : Nat) : Int)) + 1)) + 1)) + 1)))))) → (True ∧ (True ∧ (True ∧ (True ∧ (True ∧ (True ∧ (∃ y0' : Nat, (y0' ≤ List.length a) ∧ (List.length a - y0') < (List.length a - y0) ∧ ((leV (.c (.row 0 0)) (.c (.row 0 0)) ∧ leV (.c (.int .i64 (IntKind.wrap .i64 ((IntKind.wrap .i64 ((IntKind.wrap .i64 ((IntKind.wrap .i64 ((m + ((cntL (List.take y0 a) : Nat) : Int)) + 1)) + 1)) + 1)) + 1)))) (.c (.int .i64 (m + ((cntL (List.take y0' a) : Nat) : Int)))) ∧ leV (.tp []) (.tp []) ∧ leV (.tp []) (.tp []) ∧ leV (.c (.int .i64 0)) (.c (.int .i64 0)) ∧ leV (.c (.int .i64 (IntKind.wrap .i64 (((y0 : Nat) : Int) + 1)))) (.c (.int .i64 ((y0' : Nat) : Int))) ∧ True ∧ True ∧ True ∧ True ∧ True ∧ True ∧ True ∧ True ∧ True ∧ True ∧ True ∧ True ∧ True ∧ True ∧ True ∧ True ∧ True ∧ True ∧ True ∧ True ∧ True ∧ True ∧ True ∧ True ∧ True ∧ True ∧ True ∧ True ∧ True ∧ True ∧ True ∧ True ∧ True ∧ True ∧ True ∧ leV (.tp []) (.tp []) ∧ True) ∧ (leB (.row tyNote r4 0 0 none) (.row tyNote (mkK_l_markNoteS a m y0') 0 0 none) ∧ True) ∧ true = true)))))))))))))))))))))))))))))))))))))))))) else (True ∧ (True ∧ (((((mkK_l_markNoteS a m y0) = (mkF_l_markNoteS a m)) ∧ True) ∧ (true = true ∧ leC (.int .i64 (m + ((cntL (List.take y0 a) : Nat) : Int))) (.int .i64 (mkR_l_markNoteS a m)))) ∧ true = true)))))))))))) (by kernel_rfl) ?_
  obtain ⟨hm0, hm1⟩ := hpre
  have hlm : a.length ≤ maxLen := hwm.1.1
  unfold maxLen at hlm
  simp only [true_and, and_true, cond_iff, eqI_true, eqI_false, neI_true, neI_false, ltI_true, ltI_false, leI_true, leI_false, gtI_true, gtI_false, geI_true, geI_false, eqS_true, eqS_false, eqO_true, eqO_false, not_true, not_false, Bool.not_eq_true', Bool.not_eq_false', eq_self, leV_any, leV_int, leV_bool, leV_str, leV_refl, leB_refl, leC_int, leC_bool, leC_str, leC_hs, leB_row, Int.toNat_natCast]
  refine ⟨⟨0, Nat.zero_le _, ⟨by simp [cntL], rfl⟩, Eq.mpr (leB_row (t := tyNote)) (mkTo_zero a m).symm⟩, fun k hk => ⟨fun hlt => ?_, fun hge => ?_⟩⟩
  · have l0 : (mkK_l_markNoteS a m k).length = a.length := mkTo_len a m k
    have hlt : k < a.length := by omega
    have hg : a[k]? = some (nth_Note a k) := nth_getElem? (t := tyNote) hlt
    have hc : cntL (List.take (k + 1) a) = cntL (List.take k a) + (1 + (1 + (1 + (1)))) := cntL_snoc hg
    have hcl : cntL (List.take (k + 1) a) ≤ cntL a := cntL_le a (k + 1)
    have hg0 : (mkK_l_markNoteS a m k)[k]? = some (nth_Note a k) := mkTo_get hg
    have hk0 : k < (mkK_l_markNoteS a m k).length := by omega
    have e0 : nth_Note (mkK_l_markNoteS a m k) k = nth_Note a k := nth_of_get (t := tyNote) hg0
    try simp (disch := omega) only [wrapA, wrapA, mkR_l_markStringS, mkR_l_markIntS, mkR_l_markTokenS, mkR_l_markScopeS, mkR_l_markFilter, mkR_l_markMsgS, mkR_l_markBoxS, mkR_l_markCommitS, mkR_l_markStore, mkR_l_markSeenS, mkR_l_markView, mkR_l_markReplyS, mkR_l_markNoteS]
    repeat (refine ⟨by first | omega | exact ⟨by omega, by omega⟩ | exact ⟨by omega, by omega, by omega⟩, ?_⟩)
    intro r1 h1
    have l1 : r1.length = a.length := by rw [h1, List.length_set]; exact l0
    try rw [e0] at h1
    have e1 : nth_Note r1 k = _ := (congrArg (fun r => nth_Note r k) h1).trans (nth_set_self (t := tyNote) hk0)
    try rw [e1]
    try simp (disch := omega) only [wrapA, wrapA, mkR_l_markStringS, mkR_l_markIntS, mkR_l_markTokenS, mkR_l_markScopeS, mkR_l_markFilter, mkR_l_markMsgS, mkR_l_markBoxS, mkR_l_markCommitS, mkR_l_markStore, mkR_l_markSeenS, mkR_l_markView, mkR_l_markReplyS, mkR_l_markNoteS]
    repeat (refine ⟨by first | omega | exact ⟨by omega, by omega⟩ | exact ⟨by omega, by omega, by omega⟩, ?_⟩)
    intro r2 h2
    have l2 : r2.length = a.length := by rw [h2, List.length_set]; exact l1
    try rw [e1] at h2
    rw [h1, List.set_set] at h2
    have e2 : nth_Note r2 k = _ := (congrArg (fun r => nth_Note r k) h2).trans (nth_set_self (t := tyNote) hk0)
    try rw [e2]
    try simp (disch := omega) only [wrapA, wrapA, mkR_l_markStringS, mkR_l_markIntS, mkR_l_markTokenS, mkR_l_markScopeS, mkR_l_markFilter, mkR_l_markMsgS, mkR_l_markBoxS, mkR_l_markCommitS, mkR_l_markStore, mkR_l_markSeenS, mkR_l_markView, mkR_l_markReplyS, mkR_l_markNoteS]
    repeat (refine ⟨by first | omega | exact ⟨by omega, by omega⟩ | exact ⟨by omega, by omega, by omega⟩, ?_⟩)
    intro r3 h3
    have l3 : r3.length = a.length := by rw [h3, List.length_set]; exact l2
    try rw [e2] at h3
    rw [h2, List.set_set] at h3
    have e3 : nth_Note r3 k = _ := (congrArg (fun r => nth_Note r k) h3).trans (nth_set_self (t := tyNote) hk0)
    try rw [e3]
    try simp (disch := omega) only [wrapA, wrapA, mkR_l_markStringS, mkR_l_markIntS, mkR_l_markTokenS, mkR_l_markScopeS, mkR_l_markFilter, mkR_l_markMsgS, mkR_l_markBoxS, mkR_l_markCommitS, mkR_l_markStore, mkR_l_markSeenS, mkR_l_markView, mkR_l_markReplyS, mkR_l_markNoteS]
    repeat (refine ⟨by first | omega | exact ⟨by omega, by omega⟩ | exact ⟨by omega, by omega, by omega⟩, ?_⟩)
    intro r4 h4
    have l4 : r4.length = a.length := by rw [h4, List.length_set]; exact l3
    try rw [e3] at h4
    rw [h3, List.set_set] at h4
    have e4 : nth_Note r4 k = _ := (congrArg (fun r => nth_Note r k) h4).trans (nth_set_self (t := tyNote) hk0)
    try rw [e4]
    try simp (disch := omega) only [wrapA, wrapA, mkR_l_markStringS, mkR_l_markIntS, mkR_l_markTokenS, mkR_l_markScopeS, mkR_l_markFilter, mkR_l_markMsgS, mkR_l_markBoxS, mkR_l_markCommitS, mkR_l_markStore, mkR_l_markSeenS, mkR_l_markView, mkR_l_markReplyS, mkR_l_markNoteS]
    refine ⟨k + 1, hlt, by omega, ⟨by first | omega | (simp (disch := omega) only [wrapA, wrapA, mkR_l_markStringS, mkR_l_markIntS, mkR_l_markTokenS, mkR_l_markScopeS, mkR_l_markFilter, mkR_l_markMsgS, mkR_l_markBoxS, mkR_l_markCommitS, mkR_l_markStore, mkR_l_markSeenS, mkR_l_markView, mkR_l_markReplyS, mkR_l_markNoteS]; omega), by first | omega | exact wrapN (by unfold maxLen; omega)⟩, Eq.mpr (leB_row (t := tyNote)) (h4.trans (mkTo_set hg ?_))⟩
    first
      | rfl
      | (repeat' (refine Prod.ext ?_ ?_)
         all_goals first
           | rfl
           | (simp only [gm1, gm2, gm3, gm4, gm5, gc1, gc2, gc3, gc4, gc5, gk1, gk2, gk3, gk4, gk5, gx1, gx2, gx3, gx4, gx5]; first | done | omega | (congr 1; omega) | (rw [mark_bool (by omega), decide_eq_decide]; omega)))
  · have l0 : (mkK_l_markNoteS a m k).length = a.length := mkTo_len a m k
    obtain rfl : k = a.length := by omega
    exact ⟨mkTo_end a m, by rw [List.take_length]⟩
def e_l_markNoteS : MEntry Try.prog := ⟨16, [(.q false (.list tyNote)), (.a (.v tyInt))], fun x => mkP_l_markNoteS x.1 x.2.1, fun x => (mkF_l_markNoteS x.1 x.2.1, x.2.1, ()), fun x => .c (.int .i64 (mkR_l_markNoteS x.1 x.2.1)), fun _ => [], fun x hx => m_l_markNoteS x.1 x.2.1 hx, Try.call16⟩
abbrev mkR_l_markQueue (a : GQueue) (m : Int) : Int := m + ((cntI a : Nat) : Int)
abbrev mkF_l_markQueue (a : GQueue) (m : Int) : GQueue := mrkI a m
abbrev mkP_l_markQueue (a : GQueue) (m : Int) : Prop := 0 ≤ m ∧ m + cntI a ≤ 4611686018427387904
set_option maxRecDepth 100000 in
set_option maxHeartbeats 4000000 in
theorem m_l_markQueue (a : GQueue) (m : Int) (hpre : mkP_l_markQueue a m) : MCalls Try.prog 15 (argsM 0 [(.q true tyQueue), (.a (.v tyInt))] (a, m, ())) (preM 0 [(.q true tyQueue), (.a (.v tyInt))] (a, m, ())) (postM 0 [(.q true tyQueue), (.a (.v tyInt))] (mkF_l_markQueue a m, m, ()) ++ []) (inpM 0 [(.q true tyQueue), (.a (.v tyInt))]) (.c (.int .i64 (mkR_l_markQueue a m))) := by
  refine mcalls_of (T := ⟨[], [], [], [e_l_markNoteS], none, fun _ => [], 1, [0], []⟩) (L := L0) Try.func15 rfl rfl rfl (by kernel_rfl) (fun hwf hwm => ?_)
  refine Eq.mpr (β := (True ∧ (True ∧ (True ∧ (True ∧ (True ∧ (((mkP_l_markNoteS a.1 m ∧ ((a.1 = a.1) ∧ True)) ∧ true = true) ∧ ∀ r0 : List GNote, r0 = mkF_l_markNoteS a.1 m → (True ∧ (True ∧ (True ∧ ((((r0 = (mkF_l_markQueue a m).1) ∧ True) ∧ (true = true ∧ leC (.int .i64 (mkR_l_markNoteS a.1 m)) (.int .i64 (mkR_l_markQueue a m)))) ∧ true = true))))))))))) (by kernel_rfl) ?_
  obtain ⟨hm0, hm1⟩ := hpre
  have hc0 : cntI a = cntL a.1 + (0 + (0)) := rfl
  simp only [true_and, and_true, cond_iff, eqI_true, eqI_false, neI_true, neI_false, ltI_true, ltI_false, leI_true, leI_false, gtI_true, gtI_false, geI_true, geI_false, eqS_true, eqS_false, eqO_true, eqO_false, not_true, not_false, Bool.not_eq_true', Bool.not_eq_false', eq_self, leV_any, leV_int, leV_bool, leV_str, leV_refl, leB_refl, leC_int, leC_bool, leC_str, leC_hs, leB_row, Int.toNat_natCast]
  simp only [wrapA, mkR_l_markStringS, mkR_l_markIntS, mkR_l_markTokenS, mkR_l_markScopeS, mkR_l_markFilter, mkR_l_markMsgS, mkR_l_markBoxS, mkR_l_markCommitS, mkR_l_markStore, mkR_l_markSeenS, mkR_l_markView, mkR_l_markReplyS, mkR_l_markNoteS, mkR_l_markQueue, mkF_l_markStringS, mkF_l_markIntS, mkF_l_markTokenS, mkF_l_markScopeS, mkF_l_markFilter, mkF_l_markMsgS, mkF_l_markBoxS, mkF_l_markCommitS, mkF_l_markStore, mkF_l_markSeenS, mkF_l_markView, mkF_l_markReplyS, mkF_l_markNoteS, mkF_l_markQueue]
  repeat' (first | apply And.intro | intro _)
  all_goals first
    | trivial
    | omega
    | (subst_vars; first | rfl | omega | (simp only [gm1, gm2, gm3, gm4, gm5, gc1, gc2, gc3, gc4, gc5, gk1, gk2, gk3, gk4, gk5, gx1, gx2, gx3, gx4, gx5]; first | done | omega | (congr 1; omega)))
def e_l_markQueue : MEntry Try.prog := ⟨15, [(.q true tyQueue), (.a (.v tyInt))], fun x => mkP_l_markQueue x.1 x.2.1, fun x => (mkF_l_markQueue x.1 x.2.1, x.2.1, ()), fun x => .c (.int .i64 (mkR_l_markQueue x.1 x.2.1)), fun _ => [], fun x hx => m_l_markQueue x.1 x.2.1 hx, Try.call15⟩
end Go.Proofs.Ytklofnnecljajaa
