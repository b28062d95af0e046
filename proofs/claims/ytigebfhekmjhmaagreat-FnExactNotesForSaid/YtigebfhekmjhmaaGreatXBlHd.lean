/-
  The laws' functions heldX.
  No condition but what the arguments' cells hold. Printed by vcgen.py.
-/
import Derived.Test.YtigebfhekmjhmaaGreatXMarkB
set_option linter.unusedSimpArgs false
set_option linter.unusedVariables false
namespace Go.Proofs.YtigebfhekmjhmaaGreat
open Go.ChangeShapes Go.WideShapes Go.ChangeAt Go.RowKit Go.Joins Go.Deep
open GoRep (rep bulk)

open GoMark (mrk cnt mrkI cntI)
abbrev hdR_l_heldStringS (a : List ByteArray) (m : Int) : Int := m + ((cntL a : Nat) : Int)
abbrev hdR_l_heldIntS (a : List Int) (m : Int) : Int := m + ((cntL a : Nat) : Int)
abbrev hdR_l_heldScopeS (a : List GScope) (m : Int) : Int := m + ((cntL a : Nat) : Int)
abbrev hdR_l_heldMsgS (a : List GMsg) (m : Int) : Int := m + ((cntL a : Nat) : Int)
abbrev hdR_l_heldBoxS (a : List GBox) (m : Int) : Int := m + ((cntL a : Nat) : Int)
abbrev hdR_l_heldCommitS (a : List GCommit) (m : Int) : Int := m + ((cntL a : Nat) : Int)
abbrev hdR_l_heldStore (a : GStore) (m : Int) : Int := m + ((cntI a : Nat) : Int)
abbrev hdR_l_heldSeenS (a : List GSpan) (m : Int) : Int := m + ((cntL a : Nat) : Int)
abbrev hdR_l_heldNoteS (a : List GNote) (m : Int) : Int := m + ((cntL a : Nat) : Int)
abbrev hdP_l_heldNoteS (a : List GNote) (m : Int) : Prop := markL a m = a ∧ 0 ≤ m ∧ m + cntL a ≤ 4611686018427387904
def L_l_heldNoteS (a : List GNote) (m : Int) : Nat → List AV → Mem → LoopA
  | 2, tm, M => ⟨Nat, fun y => (setA tm [(1, .c (.int .i64 (m + ((cntL (List.take y a) : Nat) : Int)))), (4, .any), (5, .c (.int .i64 ((y : Nat) : Int))), (6, .any), (7, .any), (8, .any), (9, .any), (10, .any), (11, .any), (12, .any), (13, .any), (14, .any), (15, .any), (16, .any), (17, .any), (18, .any), (19, .any), (20, .any), (21, .any), (22, .any), (23, .any), (24, .any), (25, .any), (26, .any), (27, .any), (28, .any), (29, .any), (30, .any), (31, .any), (32, .any), (33, .any), (34, .any), (35, .any), (36, .any), (37, .any), (38, .any), (39, .any), (40, .any), (41, .any), (42, .any), (43, .any), (44, .any), (45, .any), (46, .any), (47, .any), (48, .any)], M), fun y => (y ≤ List.length a), fun y => (List.length a - y)⟩
  | _, _, _ => ⟨Unit, fun _ => ([], []), fun _ => False, fun _ => 0⟩
def k0ojxh5 (y0 : Nat) (a : List GNote) : Prop := ((4 : Nat) = 4 ∧ (0 : Int) ≤ ((y0 : Nat) : Int) ∧ (((y0 : Nat) : Int) : Int) < ((List.length a : Nat) : Int))
def k1ojxh5 (a : List GNote) (m : Int) : Prop := (True ∧ ((true = true ∧ leC (.int .i64 (-1)) (.int .i64 (hdR_l_heldNoteS a m))) ∧ true = true))
set_option maxRecDepth 100000 in
set_option maxHeartbeats 4000000 in
theorem b_l_heldNoteS (a : List GNote) (m : Int) (hpre : hdP_l_heldNoteS a m) : BCalls Tryz.prog 28 [.c (.hs .no tyNote a), .c (.int .i64 m)] (.c (.int .i64 (hdR_l_heldNoteS a m))) [] := by
  refine bcalls_of (T := ⟨[e_l_markText], [], [], [], none, fun _ => [], 0, [], []⟩) (L := (L_l_heldNoteS a m)) Tryz.func28 ⟨⟨rfl, rfl⟩, rfl⟩ (fun hwf => ?_)
  refine Eq.mpr (β := (T2 ((∃ q : Nat, (q ≤ List.length a) ∧ ((leV (.c (.hs .no tyNote a)) (.c (.hs .no tyNote a)) ∧ leV (.c (.int .i64 m)) (.c (.int .i64 (m + ((cntL (List.take q a) : Nat) : Int)))) ∧ leV (.tp []) (.tp []) ∧ leV (.tp []) (.tp []) ∧ True ∧ leV (.c (.int .i64 0)) (.c (.int .i64 ((q : Nat) : Int))) ∧ True ∧ True ∧ True ∧ True ∧ True ∧ True ∧ True ∧ True ∧ True ∧ True ∧ True ∧ True ∧ True ∧ True ∧ True ∧ True ∧ True ∧ True ∧ True ∧ True ∧ True ∧ True ∧ True ∧ True ∧ True ∧ True ∧ True ∧ True ∧ True ∧ True ∧ True ∧ True ∧ True ∧ True ∧ True ∧ True ∧ True ∧ True ∧ True ∧ True ∧ True ∧ True ∧ True ∧ leV (.tp []) (.tp []) ∧ True) ∧ (True) ∧ true = true)) ∧ ∀ y0 : Nat, (y0 ≤ List.length a) → (T4 (bif (ltI ((y0 : Nat) : Int) ((List.length a : Nat) : Int)) then (T2 ((k0ojxh5 y0 a) ∧ (T4 (bif (neI (nth_Note a (Int.toNat ((y0 : Nat) : Int))).1 (m + ((cntL (List.take y0 a) : Nat) : Int))) then (k1ojxh5 a m) else (T5 ((k0ojxh5 y0 a) ∧ (T4 (bif (neI (nth_Note a (Int.toNat ((y0 : Nat) : Int))).2.1 (IntKind.wrap .i64 ((m + ((cntL (List.take y0 a) : Nat) : Int)) + 1))) then (k1ojxh5 a m) else (T5 ((k0ojxh5 y0 a) ∧ (T4 (bif (neI (nth_Note a (Int.toNat ((y0 : Nat) : Int))).2.2.1 (IntKind.wrap .i64 ((IntKind.wrap .i64 ((m + ((cntL (List.take y0 a) : Nat) : Int)) + 1)) + 1))) then (k1ojxh5 a m) else (T3 ((true = true ∧ true = true) ∧ (T2 ((k0ojxh5 y0 a) ∧ (T3 ((markP (IntKind.wrap .i64 ((IntKind.wrap .i64 ((IntKind.wrap .i64 ((m + ((cntL (List.take y0 a) : Nat) : Int)) + 1)) + 1)) + 1)) ∧ true = true) ∧ (True ∧ (bif (!eqS (nth_Note a (Int.toNat ((y0 : Nat) : Int))).2.2.2 (markT (IntKind.wrap .i64 ((IntKind.wrap .i64 ((IntKind.wrap .i64 ((m + ((cntL (List.take y0 a) : Nat) : Int)) + 1)) + 1)) + 1)))) then (k1ojxh5 a m) else (T6 (∃ y0' : Nat, (y0' ≤ List.length a) ∧ (List.length a - y0') < (List.length a - y0) ∧ ((leV (.c (.hs .no tyNote a)) (.c (.hs .no tyNote a)) ∧ leV (.c (.int .i64 (IntKind.wrap .i64 ((IntKind.wrap .i64 ((IntKind.wrap .i64 ((IntKind.wrap .i64 ((m + ((cntL (List.take y0 a) : Nat) : Int)) + 1)) + 1)) + 1)) + 1)))) (.c (.int .i64 (m + ((cntL (List.take y0' a) : Nat) : Int)))) ∧ leV (.tp []) (.tp []) ∧ leV (.tp []) (.tp []) ∧ True ∧ leV (.c (.int .i64 (IntKind.wrap .i64 (((y0 : Nat) : Int) + 1)))) (.c (.int .i64 ((y0' : Nat) : Int))) ∧ True ∧ True ∧ True ∧ True ∧ True ∧ True ∧ True ∧ True ∧ True ∧ True ∧ True ∧ True ∧ True ∧ True ∧ True ∧ True ∧ True ∧ True ∧ True ∧ True ∧ True ∧ True ∧ True ∧ True ∧ True ∧ True ∧ True ∧ True ∧ True ∧ True ∧ True ∧ True ∧ True ∧ True ∧ True ∧ True ∧ True ∧ True ∧ True ∧ True ∧ True ∧ True ∧ True ∧ leV (.tp []) (.tp []) ∧ True) ∧ (True) ∧ true = true))))))))))))))))))))))) else (T2 ((true = true ∧ leC (.int .i64 (m + ((cntL (List.take y0 a) : Nat) : Int))) (.int .i64 (hdR_l_heldNoteS a m))) ∧ true = true))))))) (by kernel_rfl) ?_
  unfold k1ojxh5 k0ojxh5 T2 T3 T4 T5 T6
  obtain ⟨hmm, hm0, hm1⟩ := hpre
  have hlm : a.length ≤ maxLen := hwf.1.1
  unfold maxLen at hlm
  simp only [SIA, eq_self]
  refine ⟨⟨0, Nat.zero_le _, by simp [cntL], rfl⟩, fun k hk => ⟨fun hlt => ?_, fun hge => ?_⟩⟩
  · have hlt : k < a.length := by omega
    have hg : a[k]? = some (nth_Note a k) := nth_getElem? (t := tyNote) hlt
    have hc : cntL (List.take (k + 1) a) = cntL (List.take k a) + (1 + (1 + (1 + (1)))) := cntL_snoc hg
    have hcl : cntL (List.take (k + 1) a) ≤ cntL a := cntL_le a (k + 1)
    have hx := marked_nth hmm hg
    have f0 : (nth_Note a k).1 = m + ((cntL (List.take k a) : Nat) : Int) := (congrArg (fun z => z.1) hx).trans (by first | rfl | (simp only [GXA]; first | done | omega | (congr 1; omega) | (rw [mark_bool (by omega), decide_eq_decide]; done) | (rw [mark_bool (by omega), decide_eq_decide]; omega)))
    have f1 : (nth_Note a k).2.1 = m + ((cntL (List.take k a) : Nat) : Int) + 1 := (congrArg (fun z => z.2.1) hx).trans (by first | rfl | (simp only [GXA]; first | done | omega | (congr 1; omega) | (rw [mark_bool (by omega), decide_eq_decide]; done) | (rw [mark_bool (by omega), decide_eq_decide]; omega)))
    have f2 : (nth_Note a k).2.2.1 = m + ((cntL (List.take k a) : Nat) : Int) + 1 + 1 := (congrArg (fun z => z.2.2.1) hx).trans (by first | rfl | (simp only [GXA]; first | done | omega | (congr 1; omega) | (rw [mark_bool (by omega), decide_eq_decide]; done) | (rw [mark_bool (by omega), decide_eq_decide]; omega)))
    have f3 : (nth_Note a k).2.2.2 = markT (m + ((cntL (List.take k a) : Nat) : Int) + 1 + 1 + 1) := (congrArg (fun z => z.2.2.2) hx).trans (by first | rfl | (simp only [GXA]; first | done | omega | (congr 1; omega) | (rw [mark_bool (by omega), decide_eq_decide]; done) | (rw [mark_bool (by omega), decide_eq_decide]; omega)))
    
    simp (disch := omega) only [wrapA, hdR_l_heldStringS, hdR_l_heldIntS, hdR_l_heldScopeS, hdR_l_heldMsgS, hdR_l_heldBoxS, hdR_l_heldCommitS, hdR_l_heldStore, hdR_l_heldSeenS, hdR_l_heldNoteS]
    repeat' (first | apply And.intro | intro _)
    all_goals first
      | trivial
      | omega
      | contradiction
      | (refine ⟨k + 1, hlt, by omega, ?_, ?_⟩ <;> first | omega | exact wrapN (by unfold maxLen; omega))
      | exact Eq.symm (by assumption)
      | (exfalso; simp_all; done)
  · obtain rfl : k = a.length := by omega
    rw [List.take_length]
def e_l_heldNoteS : Entry Tryz.prog := ⟨28, [.v (.list tyNote), .v tyInt], fun x => hdP_l_heldNoteS x.1 x.2.1, fun x => .c (.int .i64 (hdR_l_heldNoteS x.1 x.2.1)), fun _ => [], fun x hx => b_l_heldNoteS x.1 x.2.1 hx, Tryz.call28⟩
end Go.Proofs.YtigebfhekmjhmaaGreat
