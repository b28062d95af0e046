/-
  The laws' functions heldX.
  No condition but what the arguments' cells hold. Printed by vcgen.py.
-/
import Derived.Test.YtklnpeckhbiloaaGreatDoorKMarkB
set_option linter.unusedSimpArgs false
set_option linter.unusedVariables false
set_option maxRecDepth 100000
set_option maxHeartbeats 4000000
namespace Go.Proofs.YtklnpeckhbiloaaGreatDoor
open Go.ChangeShapes Go.WideShapes Go.ChangeAt Go.RowKit Go.Joins Go.Deep
open GoRep (rep bulk)

open GoMark (mrk cnt mrkI cntI)
abbrev hdR_l_heldStringS (a : List ByteArray) (m : Int) : Int := m + ((cntL a : Nat) : Int)
abbrev hdP_l_heldStringS (a : List ByteArray) (m : Int) : Prop := markL a m = a ∧ 0 ≤ m ∧ m + cntL a ≤ 4611686018427387904
def L_l_heldStringS (a : List ByteArray) (m : Int) : Nat → List AV → Mem → LoopA
  | 2, tm, M => ⟨Nat, fun y => (anyR (setA tm [(1, .c (.int .i64 (m + ((cntL (List.take y a) : Nat) : Int)))), (4, .any), (5, .c (.int .i64 ((y : Nat) : Int)))]) 6 15, M), fun y => (y ≤ List.length a), fun y => (List.length a - y)⟩
  | _, _, _ => ⟨Unit, fun _ => ([], []), fun _ => False, fun _ => 0⟩
theorem b_l_heldStringS (a : List ByteArray) (m : Int) (hpre : hdP_l_heldStringS a m) : BCalls Tryz.prog 77 [.c (.hs .no tyStr a), .c (.int .i64 m)] (.c (.int .i64 (hdR_l_heldStringS a m))) [] := by
  refine bc0 [e_l_markText] [] [] [] (L_l_heldStringS a m) Tryz.func77 (fun hwf => ?_)
  refine Eq.mpr (β := (T2 ((∃ q : Nat, (q ≤ List.length a) ∧ ((lxs [.c (.hs .no tyStr a)] (leV (.c (.int .i64 m)) (.c (.int .i64 (m + ((cntL (List.take q a) : Nat) : Int)))) ∧ lxs [.tp [], .tp []] (True ∧ leV (.c (.int .i64 0)) (.c (.int .i64 ((q : Nat) : Int))) ∧ TN 15 (lxs [.tp []] True)))) ∧ (True) ∧ true = true)) ∧ ∀ y0 : Nat, (y0 ≤ List.length a) → (T4 (bif (ltI ((y0 : Nat) : Int) ((List.length a : Nat) : Int)) then ((true = true ∧ true = true) ∧ (T2 (((1 : Nat) = 1 ∧ (0 : Int) ≤ ((y0 : Nat) : Int) ∧ (((y0 : Nat) : Int) : Int) < ((List.length a : Nat) : Int)) ∧ (T2 ((markP (m + ((cntL (List.take y0 a) : Nat) : Int)) ∧ true = true) ∧ (True ∧ (bif (!eqS (nth_String a (Int.toNat ((y0 : Nat) : Int))) (markT (m + ((cntL (List.take y0 a) : Nat) : Int)))) then (True ∧ (rI (-1) (hdR_l_heldStringS a m))) else (T6 (∃ y0' : Nat, (y0' ≤ List.length a) ∧ (List.length a - y0') < (List.length a - y0) ∧ ((lxs [.c (.hs .no tyStr a)] (leV (.c (.int .i64 (IntKind.wrap .i64 ((m + ((cntL (List.take y0 a) : Nat) : Int)) + 1)))) (.c (.int .i64 (m + ((cntL (List.take y0' a) : Nat) : Int)))) ∧ lxs [.tp [], .tp []] (True ∧ leV (.c (.int .i64 (IntKind.wrap .i64 (((y0 : Nat) : Int) + 1)))) (.c (.int .i64 ((y0' : Nat) : Int))) ∧ TN 15 (lxs [.tp []] True)))) ∧ (True) ∧ true = true)))))))))) else (T2 (rI (m + ((cntL (List.take y0 a) : Nat) : Int)) (hdR_l_heldStringS a m)))))))) (by kernel_rfl) ?_
  unfold T2 T4 T6
  obtain ⟨hmm, hm0, hm1⟩ := hpre
  have hlm : a.length ≤ maxLen := hwf.1.1
  unfold maxLen at hlm
  simp only [SIA, eq_self]
  refine ⟨⟨0, Nat.zero_le _, by simp [cntL], rfl⟩, fun k hk => ⟨fun hlt => ?_, fun hge => ?_⟩⟩
  · have hlt : k < a.length := by omega
    have hg : a[k]? = some (nth_String a k) := nth_getElem? (t := tyStr) hlt
    have hc : cntL (List.take (k + 1) a) = cntL (List.take k a) + (1) := cntL_snoc hg
    have hcl : cntL (List.take (k + 1) a) ≤ cntL a := cntL_le a (k + 1)
    have hx := marked_nth hmm hg
    have f0 : (nth_String a k) = markT (m + ((cntL (List.take k a) : Nat) : Int)) := (congrArg (fun z => z) hx).trans (by first | rfl | (simp only [GXA]; first | done | omega | (congr 1; omega) | (rw [mark_bool (by omega), decide_eq_decide]; done) | (rw [mark_bool (by omega), decide_eq_decide]; omega)))
    
    simp (disch := omega) only [wrapA, hdR_l_heldStringS]
    repeat' (first | apply And.intro | intro _)
    all_goals first
      | trivial
      | omega
      | contradiction
      | (refine ⟨k + 1, hlt, by omega, ?_, ?_⟩ <;> first | omega | exact wrapN (by unfold maxLen; omega))
      | exact Eq.symm (by assumption)
      | (exfalso; simp_all; done)
  · obtain rfl : k = a.length := by omega
    rw [List.take_length]
def e_l_heldStringS : Entry Tryz.prog := ⟨77, [.v (.list tyStr), .v tyInt], fun x => hdP_l_heldStringS x.1 x.2.1, fun x => .c (.int .i64 (hdR_l_heldStringS x.1 x.2.1)), fun _ => [], fun x hx => b_l_heldStringS x.1 x.2.1 hx, Tryz.call77⟩
abbrev hdR_l_heldScopeS (a : List GScope) (m : Int) : Int := m + ((cntL a : Nat) : Int)
abbrev hdP_l_heldScopeS (a : List GScope) (m : Int) : Prop := markL a m = a ∧ 0 ≤ m ∧ m + cntL a ≤ 4611686018427387904
def L_l_heldScopeS (a : List GScope) (m : Int) : Nat → List AV → Mem → LoopA
  | 2, tm, M => ⟨Nat, fun y => (anyR (setA tm [(1, .c (.int .i64 (m + ((cntL (List.take y a) : Nat) : Int)))), (4, .any), (5, .c (.int .i64 ((y : Nat) : Int)))]) 6 33, M), fun y => (y ≤ List.length a), fun y => (List.length a - y)⟩
  | _, _, _ => ⟨Unit, fun _ => ([], []), fun _ => False, fun _ => 0⟩
def k0w1w8z (y0 : Nat) (a : List GScope) : Prop := ((3 : Nat) = 3 ∧ (0 : Int) ≤ ((y0 : Nat) : Int) ∧ (((y0 : Nat) : Int) : Int) < ((List.length a : Nat) : Int))
theorem b_l_heldScopeS (a : List GScope) (m : Int) (hpre : hdP_l_heldScopeS a m) : BCalls Tryz.prog 47 [.c (.hs .no tyScope a), .c (.int .i64 m)] (.c (.int .i64 (hdR_l_heldScopeS a m))) [] := by
  refine bc0 [e_l_heldStringS] [] [] [] (L_l_heldScopeS a m) Tryz.func47 (fun hwf => ?_)
  refine Eq.mpr (β := (T2 ((∃ q : Nat, (q ≤ List.length a) ∧ ((lxs [.c (.hs .no tyScope a)] (leV (.c (.int .i64 m)) (.c (.int .i64 (m + ((cntL (List.take q a) : Nat) : Int)))) ∧ lxs [.tp [], .tp []] (True ∧ leV (.c (.int .i64 0)) (.c (.int .i64 ((q : Nat) : Int))) ∧ TN 33 (lxs [.tp []] True)))) ∧ (True) ∧ true = true)) ∧ ∀ y0 : Nat, (y0 ≤ List.length a) → (T4 (bif (ltI ((y0 : Nat) : Int) ((List.length a : Nat) : Int)) then (T2 ((k0w1w8z y0 a) ∧ (T4 (bif (neI (nth_Scope a (Int.toNat ((y0 : Nat) : Int))).1 (m + ((cntL (List.take y0 a) : Nat) : Int))) then (True ∧ (rI (-1) (hdR_l_heldScopeS a m))) else (T5 ((k0w1w8z y0 a) ∧ (T3 ((hdP_l_heldStringS (nth_Scope a (Int.toNat ((y0 : Nat) : Int))).2.1 (IntKind.wrap .i64 ((m + ((cntL (List.take y0 a) : Nat) : Int)) + 1)) ∧ true = true) ∧ (T3 (bif (ltI (hdR_l_heldStringS (nth_Scope a (Int.toNat ((y0 : Nat) : Int))).2.1 (IntKind.wrap .i64 ((m + ((cntL (List.take y0 a) : Nat) : Int)) + 1))) 0) then (True ∧ (rI (-1) (hdR_l_heldScopeS a m))) else (T2 ((k0w1w8z y0 a) ∧ (T4 (bif (neI (nth_Scope a (Int.toNat ((y0 : Nat) : Int))).2.2 (hdR_l_heldStringS (nth_Scope a (Int.toNat ((y0 : Nat) : Int))).2.1 (IntKind.wrap .i64 ((m + ((cntL (List.take y0 a) : Nat) : Int)) + 1)))) then (True ∧ (rI (-1) (hdR_l_heldScopeS a m))) else (T6 (∃ y0' : Nat, (y0' ≤ List.length a) ∧ (List.length a - y0') < (List.length a - y0) ∧ ((lxs [.c (.hs .no tyScope a)] (leV (.c (.int .i64 (IntKind.wrap .i64 (hdR_l_heldStringS (nth_Scope a (Int.toNat ((y0 : Nat) : Int))).2.1 (IntKind.wrap .i64 ((m + ((cntL (List.take y0 a) : Nat) : Int)) + 1)) + 1)))) (.c (.int .i64 (m + ((cntL (List.take y0' a) : Nat) : Int)))) ∧ lxs [.tp [], .tp []] (True ∧ leV (.c (.int .i64 (IntKind.wrap .i64 (((y0 : Nat) : Int) + 1)))) (.c (.int .i64 ((y0' : Nat) : Int))) ∧ TN 33 (lxs [.tp []] True)))) ∧ (True) ∧ true = true))))))))))))))))) else (T2 (rI (m + ((cntL (List.take y0 a) : Nat) : Int)) (hdR_l_heldScopeS a m)))))))) (by kernel_rfl) ?_
  unfold k0w1w8z T2 T3 T4 T5 T6
  obtain ⟨hmm, hm0, hm1⟩ := hpre
  have hlm : a.length ≤ maxLen := hwf.1.1
  unfold maxLen at hlm
  simp only [SIA, eq_self]
  refine ⟨⟨0, Nat.zero_le _, by simp [cntL], rfl⟩, fun k hk => ⟨fun hlt => ?_, fun hge => ?_⟩⟩
  · have hlt : k < a.length := by omega
    have hg : a[k]? = some (nth_Scope a k) := nth_getElem? (t := tyScope) hlt
    have hc : cntL (List.take (k + 1) a) = cntL (List.take k a) + (1 + (cntL (nth_Scope a k).2.1 + (1))) := cntL_snoc hg
    have hcl : cntL (List.take (k + 1) a) ≤ cntL a := cntL_le a (k + 1)
    have hx := marked_nth hmm hg
    have f0 : (nth_Scope a k).1 = m + ((cntL (List.take k a) : Nat) : Int) := (congrArg (fun z => z.1) hx).trans (by first | rfl | (simp only [GXA]; first | done | omega | (congr 1; omega) | (rw [mark_bool (by omega), decide_eq_decide]; done) | (rw [mark_bool (by omega), decide_eq_decide]; omega)))
    have f1 : (nth_Scope a k).2.1 = markL ((nth_Scope a k).2.1) (m + ((cntL (List.take k a) : Nat) : Int) + 1) := (congrArg (fun z => z.2.1) hx).trans (by first | rfl | (simp only [GXA]; first | done | omega | (congr 1; omega) | (rw [mark_bool (by omega), decide_eq_decide]; done) | (rw [mark_bool (by omega), decide_eq_decide]; omega)))
    have f2 : (nth_Scope a k).2.2 = m + ((cntL (List.take k a) : Nat) : Int) + 1 + ((cntL ((nth_Scope a k).2.1) : Nat) : Int) := (congrArg (fun z => z.2.2) hx).trans (by first | rfl | (simp only [GXA]; first | done | omega | (congr 1; omega) | (rw [mark_bool (by omega), decide_eq_decide]; done) | (rw [mark_bool (by omega), decide_eq_decide]; omega)))
    
    simp (disch := omega) only [wrapA, hdR_l_heldStringS, hdR_l_heldScopeS]
    repeat' (first | apply And.intro | intro _)
    all_goals first
      | trivial
      | omega
      | contradiction
      | (refine ⟨k + 1, hlt, by omega, ?_, ?_⟩ <;> first | omega | exact wrapN (by unfold maxLen; omega))
      | exact Eq.symm (by assumption)
      | (exfalso; simp_all; done)
  · obtain rfl : k = a.length := by omega
    rw [List.take_length]
def e_l_heldScopeS : Entry Tryz.prog := ⟨47, [.v (.list tyScope), .v tyInt], fun x => hdP_l_heldScopeS x.1 x.2.1, fun x => .c (.int .i64 (hdR_l_heldScopeS x.1 x.2.1)), fun _ => [], fun x hx => b_l_heldScopeS x.1 x.2.1 hx, Tryz.call47⟩
abbrev hdR_l_heldFilter (a : GFilter) (m : Int) : Int := m + ((cntI a : Nat) : Int)
abbrev hdP_l_heldFilter (a : GFilter) (m : Int) : Prop := mrkI a m = a ∧ 0 ≤ m ∧ m + cntI a ≤ 4611686018427387904
theorem b_l_heldFilter (a : GFilter) (m : Int) (hpre : hdP_l_heldFilter a m) : BCalls Tryz.prog 29 [.ag [.bool a.1, .hs .no tyScope a.2], .c (.int .i64 m)] (.c (.int .i64 (hdR_l_heldFilter a m))) [] := by
  refine bc0 [e_l_heldScopeS] [] [] [] L0 Tryz.func29 (fun hwf => ?_)
  refine Eq.mpr (β := (True ∧ (True ∧ (True ∧ (True ∧ (True ∧ ((hdP_l_heldScopeS a.2 m ∧ true = true) ∧ (True ∧ (True ∧ (True ∧ (bif (ltI (hdR_l_heldScopeS a.2 m) 0) then (True ∧ (rI (-1) (hdR_l_heldFilter a m))) else (True ∧ (True ∧ (rI (hdR_l_heldScopeS a.2 m) (hdR_l_heldFilter a m))))))))))))))) (by kernel_rfl) ?_
  obtain ⟨hmm, hm0, hm1⟩ := hpre
  have hc0 : cntI a = 0 + (cntL a.2) := rfl
  have g1 : markL a.2 (m) = a.2 := by
    have h0 : a.2 = markL a.2 (m + ((cntI a.1 : Nat) : Int)) := congrArg (fun z : GFilter => z.2) hmm.symm
    have hK : m + ((cntI a.1 : Nat) : Int) = m := by first | rfl | (simp only [gc1, gc2, gc3, gc4]; omega) | omega
    rw [hK] at h0
    exact h0.symm
  simp only [SIA, eq_self]
  simp only [hdR_l_heldStringS, hdR_l_heldScopeS, hdR_l_heldFilter]
  repeat' (first | apply And.intro | intro _)
  all_goals first
    | trivial
    | omega
    | contradiction
    | exact Eq.symm (by assumption)
    | assumption
    | (exfalso; simp_all; done)
def e_l_heldFilter : Entry Tryz.prog := ⟨29, [.s tyFilter, .v tyInt], fun x => hdP_l_heldFilter x.1 x.2.1, fun x => .c (.int .i64 (hdR_l_heldFilter x.1 x.2.1)), fun _ => [], fun x hx => b_l_heldFilter x.1 x.2.1 hx, Tryz.call29⟩
abbrev hdR_l_heldSeenS (a : List GSpan) (m : Int) : Int := m + ((cntL a : Nat) : Int)
abbrev hdP_l_heldSeenS (a : List GSpan) (m : Int) : Prop := markL a m = a ∧ 0 ≤ m ∧ m + cntL a ≤ 4611686018427387904
def L_l_heldSeenS (a : List GSpan) (m : Int) : Nat → List AV → Mem → LoopA
  | 2, tm, M => ⟨Nat, fun y => (anyR (setA tm [(1, .c (.int .i64 (m + ((cntL (List.take y a) : Nat) : Int)))), (4, .any), (5, .c (.int .i64 ((y : Nat) : Int)))]) 6 24, M), fun y => (y ≤ List.length a), fun y => (List.length a - y)⟩
  | _, _, _ => ⟨Unit, fun _ => ([], []), fun _ => False, fun _ => 0⟩
theorem b_l_heldSeenS (a : List GSpan) (m : Int) (hpre : hdP_l_heldSeenS a m) : BCalls Tryz.prog 46 [.c (.hs .no tySpan a), .c (.int .i64 m)] (.c (.int .i64 (hdR_l_heldSeenS a m))) [] := by
  refine bc0 [] [] [] [] (L_l_heldSeenS a m) Tryz.func46 (fun hwf => ?_)
  refine Eq.mpr (β := (T2 ((∃ q : Nat, (q ≤ List.length a) ∧ ((lxs [.c (.hs .no tySpan a)] (leV (.c (.int .i64 m)) (.c (.int .i64 (m + ((cntL (List.take q a) : Nat) : Int)))) ∧ lxs [.tp [], .tp []] (True ∧ leV (.c (.int .i64 0)) (.c (.int .i64 ((q : Nat) : Int))) ∧ TN 24 (lxs [.tp []] True)))) ∧ (True) ∧ true = true)) ∧ ∀ y0 : Nat, (y0 ≤ List.length a) → (T4 (bif (ltI ((y0 : Nat) : Int) ((List.length a : Nat) : Int)) then (T2 (((2 : Nat) = 2 ∧ (0 : Int) ≤ ((y0 : Nat) : Int) ∧ (((y0 : Nat) : Int) : Int) < ((List.length a : Nat) : Int)) ∧ (T4 (bif (neI (nth_Span a (Int.toNat ((y0 : Nat) : Int))).1 (m + ((cntL (List.take y0 a) : Nat) : Int))) then (True ∧ (rI (-1) (hdR_l_heldSeenS a m))) else (T5 (((2 : Nat) = 2 ∧ (0 : Int) ≤ ((y0 : Nat) : Int) ∧ (((y0 : Nat) : Int) : Int) < ((List.length a : Nat) : Int)) ∧ (T4 (bif (neI (nth_Span a (Int.toNat ((y0 : Nat) : Int))).2 (IntKind.wrap .i64 ((m + ((cntL (List.take y0 a) : Nat) : Int)) + 1))) then (True ∧ (rI (-1) (hdR_l_heldSeenS a m))) else (T6 (∃ y0' : Nat, (y0' ≤ List.length a) ∧ (List.length a - y0') < (List.length a - y0) ∧ ((lxs [.c (.hs .no tySpan a)] (leV (.c (.int .i64 (IntKind.wrap .i64 ((IntKind.wrap .i64 ((m + ((cntL (List.take y0 a) : Nat) : Int)) + 1)) + 1)))) (.c (.int .i64 (m + ((cntL (List.take y0' a) : Nat) : Int)))) ∧ lxs [.tp [], .tp []] (True ∧ leV (.c (.int .i64 (IntKind.wrap .i64 (((y0 : Nat) : Int) + 1)))) (.c (.int .i64 ((y0' : Nat) : Int))) ∧ TN 24 (lxs [.tp []] True)))) ∧ (True) ∧ true = true))))))))))) else (T2 (rI (m + ((cntL (List.take y0 a) : Nat) : Int)) (hdR_l_heldSeenS a m)))))))) (by kernel_rfl) ?_
  unfold T2 T4 T5 T6
  obtain ⟨hmm, hm0, hm1⟩ := hpre
  have hlm : a.length ≤ maxLen := hwf.1.1
  unfold maxLen at hlm
  simp only [SIA, eq_self]
  refine ⟨⟨0, Nat.zero_le _, by simp [cntL], rfl⟩, fun k hk => ⟨fun hlt => ?_, fun hge => ?_⟩⟩
  · have hlt : k < a.length := by omega
    have hg : a[k]? = some (nth_Span a k) := nth_getElem? (t := tySpan) hlt
    have hc : cntL (List.take (k + 1) a) = cntL (List.take k a) + (1 + (1)) := cntL_snoc hg
    have hcl : cntL (List.take (k + 1) a) ≤ cntL a := cntL_le a (k + 1)
    have hx := marked_nth hmm hg
    have f0 : (nth_Span a k).1 = m + ((cntL (List.take k a) : Nat) : Int) := (congrArg (fun z => z.1) hx).trans (by first | rfl | (simp only [GXA]; first | done | omega | (congr 1; omega) | (rw [mark_bool (by omega), decide_eq_decide]; done) | (rw [mark_bool (by omega), decide_eq_decide]; omega)))
    have f1 : (nth_Span a k).2 = m + ((cntL (List.take k a) : Nat) : Int) + 1 := (congrArg (fun z => z.2) hx).trans (by first | rfl | (simp only [GXA]; first | done | omega | (congr 1; omega) | (rw [mark_bool (by omega), decide_eq_decide]; done) | (rw [mark_bool (by omega), decide_eq_decide]; omega)))
    
    simp (disch := omega) only [wrapA, hdR_l_heldStringS, hdR_l_heldScopeS, hdR_l_heldFilter, hdR_l_heldSeenS]
    repeat' (first | apply And.intro | intro _)
    all_goals first
      | trivial
      | omega
      | contradiction
      | (refine ⟨k + 1, hlt, by omega, ?_, ?_⟩ <;> first | omega | exact wrapN (by unfold maxLen; omega))
      | exact Eq.symm (by assumption)
      | (exfalso; simp_all; done)
  · obtain rfl : k = a.length := by omega
    rw [List.take_length]
def e_l_heldSeenS : Entry Tryz.prog := ⟨46, [.v (.list tySpan), .v tyInt], fun x => hdP_l_heldSeenS x.1 x.2.1, fun x => .c (.int .i64 (hdR_l_heldSeenS x.1 x.2.1)), fun _ => [], fun x hx => b_l_heldSeenS x.1 x.2.1 hx, Tryz.call46⟩
abbrev hdR_l_heldView (a : GView) (m : Int) : Int := m + ((cntI a : Nat) : Int)
abbrev hdP_l_heldView (a : GView) (m : Int) : Prop := mrkI a m = a ∧ 0 ≤ m ∧ m + cntI a ≤ 4611686018427387904
theorem b_l_heldView (a : List GSpan) (m : Int) (hpre : hdP_l_heldView a m) : BCalls Tryz.prog 28 [.ag [.hs .no tySpan a], .c (.int .i64 m)] (.c (.int .i64 (hdR_l_heldView a m))) [] := by
  refine bc0 [e_l_heldSeenS] [] [] [] L0 Tryz.func28 (fun hwf => ?_)
  refine Eq.mpr (β := (True ∧ (True ∧ (True ∧ (True ∧ (True ∧ ((hdP_l_heldSeenS a m ∧ true = true) ∧ (True ∧ (True ∧ (True ∧ (bif (ltI (hdR_l_heldSeenS a m) 0) then (True ∧ (rI (-1) (hdR_l_heldView a m))) else (True ∧ (True ∧ (rI (hdR_l_heldSeenS a m) (hdR_l_heldView a m))))))))))))))) (by kernel_rfl) ?_
  obtain ⟨hmm, hm0, hm1⟩ := hpre
  have hc0 : cntI a = cntL a := rfl
  have g0 : markL a (m) = a := by
    have h0 : a = markL a (m) := congrArg (fun z : GView => z) hmm.symm
    have hK : m = m := by first | rfl | (simp only [gc1, gc2, gc3, gc4]; omega) | omega
    rw [hK] at h0
    exact h0.symm
  simp only [SIA, eq_self]
  simp only [hdR_l_heldStringS, hdR_l_heldScopeS, hdR_l_heldFilter, hdR_l_heldSeenS, hdR_l_heldView]
  repeat' (first | apply And.intro | intro _)
  all_goals first
    | trivial
    | omega
    | contradiction
    | exact Eq.symm (by assumption)
    | assumption
    | (exfalso; simp_all; done)
def e_l_heldView : Entry Tryz.prog := ⟨28, [.s (.list tySpan), .v tyInt], fun x => hdP_l_heldView x.1 x.2.1, fun x => .c (.int .i64 (hdR_l_heldView x.1 x.2.1)), fun _ => [], fun x hx => b_l_heldView x.1 x.2.1 hx, Tryz.call28⟩
abbrev hdR_l_heldNoteS (a : List GNote) (m : Int) : Int := m + ((cntL a : Nat) : Int)
abbrev hdP_l_heldNoteS (a : List GNote) (m : Int) : Prop := markL a m = a ∧ 0 ≤ m ∧ m + cntL a ≤ 4611686018427387904
def L_l_heldNoteS (a : List GNote) (m : Int) : Nat → List AV → Mem → LoopA
  | 2, tm, M => ⟨Nat, fun y => (anyR (setA tm [(1, .c (.int .i64 (m + ((cntL (List.take y a) : Nat) : Int)))), (4, .any), (5, .c (.int .i64 ((y : Nat) : Int)))]) 6 43, M), fun y => (y ≤ List.length a), fun y => (List.length a - y)⟩
  | _, _, _ => ⟨Unit, fun _ => ([], []), fun _ => False, fun _ => 0⟩
def k0ojxh5 (y0 : Nat) (a : List GNote) : Prop := ((4 : Nat) = 4 ∧ (0 : Int) ≤ ((y0 : Nat) : Int) ∧ (((y0 : Nat) : Int) : Int) < ((List.length a : Nat) : Int))
theorem b_l_heldNoteS (a : List GNote) (m : Int) (hpre : hdP_l_heldNoteS a m) : BCalls Tryz.prog 48 [.c (.hs .no tyNote a), .c (.int .i64 m)] (.c (.int .i64 (hdR_l_heldNoteS a m))) [] := by
  refine bc0 [e_l_markText] [] [] [] (L_l_heldNoteS a m) Tryz.func48 (fun hwf => ?_)
  refine Eq.mpr (β := (T2 ((∃ q : Nat, (q ≤ List.length a) ∧ ((lxs [.c (.hs .no tyNote a)] (leV (.c (.int .i64 m)) (.c (.int .i64 (m + ((cntL (List.take q a) : Nat) : Int)))) ∧ lxs [.tp [], .tp []] (True ∧ leV (.c (.int .i64 0)) (.c (.int .i64 ((q : Nat) : Int))) ∧ TN 43 (lxs [.tp []] True)))) ∧ (True) ∧ true = true)) ∧ ∀ y0 : Nat, (y0 ≤ List.length a) → (T4 (bif (ltI ((y0 : Nat) : Int) ((List.length a : Nat) : Int)) then (T2 ((k0ojxh5 y0 a) ∧ (T4 (bif (neI (nth_Note a (Int.toNat ((y0 : Nat) : Int))).1 (m + ((cntL (List.take y0 a) : Nat) : Int))) then (True ∧ (rI (-1) (hdR_l_heldNoteS a m))) else (T5 ((k0ojxh5 y0 a) ∧ (T4 (bif (neI (nth_Note a (Int.toNat ((y0 : Nat) : Int))).2.1 (IntKind.wrap .i64 ((m + ((cntL (List.take y0 a) : Nat) : Int)) + 1))) then (True ∧ (rI (-1) (hdR_l_heldNoteS a m))) else (T5 ((k0ojxh5 y0 a) ∧ (T4 (bif (neI (nth_Note a (Int.toNat ((y0 : Nat) : Int))).2.2.1 (IntKind.wrap .i64 ((IntKind.wrap .i64 ((m + ((cntL (List.take y0 a) : Nat) : Int)) + 1)) + 1))) then (True ∧ (rI (-1) (hdR_l_heldNoteS a m))) else (T3 ((true = true ∧ true = true) ∧ (T2 ((k0ojxh5 y0 a) ∧ (T3 ((markP (IntKind.wrap .i64 ((IntKind.wrap .i64 ((IntKind.wrap .i64 ((m + ((cntL (List.take y0 a) : Nat) : Int)) + 1)) + 1)) + 1)) ∧ true = true) ∧ (True ∧ (bif (!eqS (nth_Note a (Int.toNat ((y0 : Nat) : Int))).2.2.2 (markT (IntKind.wrap .i64 ((IntKind.wrap .i64 ((IntKind.wrap .i64 ((m + ((cntL (List.take y0 a) : Nat) : Int)) + 1)) + 1)) + 1)))) then (True ∧ (rI (-1) (hdR_l_heldNoteS a m))) else (T6 (∃ y0' : Nat, (y0' ≤ List.length a) ∧ (List.length a - y0') < (List.length a - y0) ∧ ((lxs [.c (.hs .no tyNote a)] (leV (.c (.int .i64 (IntKind.wrap .i64 ((IntKind.wrap .i64 ((IntKind.wrap .i64 ((IntKind.wrap .i64 ((m + ((cntL (List.take y0 a) : Nat) : Int)) + 1)) + 1)) + 1)) + 1)))) (.c (.int .i64 (m + ((cntL (List.take y0' a) : Nat) : Int)))) ∧ lxs [.tp [], .tp []] (True ∧ leV (.c (.int .i64 (IntKind.wrap .i64 (((y0 : Nat) : Int) + 1)))) (.c (.int .i64 ((y0' : Nat) : Int))) ∧ TN 43 (lxs [.tp []] True)))) ∧ (True) ∧ true = true))))))))))))))))))))))) else (T2 (rI (m + ((cntL (List.take y0 a) : Nat) : Int)) (hdR_l_heldNoteS a m)))))))) (by kernel_rfl) ?_
  unfold k0ojxh5 T2 T3 T4 T5 T6
  obtain ⟨hmm, hm0, hm1⟩ := hpre
  have hlm : a.length ≤ maxLen := hwf.1.1
  unfold maxLen at hlm
  simp only [SIA, eq_self]
  refine ⟨⟨0, Nat.zero_le _, by simp [cntL], rfl⟩, fun k hk => ⟨fun hlt => ?_, fun hge => ?_⟩⟩
  · have hlt : k < a.length := by omega
    have hg : a[k]? = some (nth_Note a k) := nth_getElem? (t := tyNote) hlt
    have hc : cntL (List.take (k + 1) a) = cntL (List.take k a) + (1 + (1 + (1 + (1)))) := cntL_snoc hg
    have hcl : cntL (List.take (k + 1) a) ≤ cntL a := cntL_le a (k + 1)
    have hx := marked_nth hmm hg
    have f0 : (nth_Note a k).1 = m + ((cntL (List.take k a) : Nat) : Int) := (congrArg (fun z => z.1) hx).trans (by first | rfl | (simp only [GXA]; first | done | omega | (congr 1; omega) | (rw [mark_bool (by omega), decide_eq_decide]; done) | (rw [mark_bool (by omega), decide_eq_decide]; omega)))
    have f1 : (nth_Note a k).2.1 = m + ((cntL (List.take k a) : Nat) : Int) + 1 := (congrArg (fun z => z.2.1) hx).trans (by first | rfl | (simp only [GXA]; first | done | omega | (congr 1; omega) | (rw [mark_bool (by omega), decide_eq_decide]; done) | (rw [mark_bool (by omega), decide_eq_decide]; omega)))
    have f2 : (nth_Note a k).2.2.1 = m + ((cntL (List.take k a) : Nat) : Int) + 1 + 1 := (congrArg (fun z => z.2.2.1) hx).trans (by first | rfl | (simp only [GXA]; first | done | omega | (congr 1; omega) | (rw [mark_bool (by omega), decide_eq_decide]; done) | (rw [mark_bool (by omega), decide_eq_decide]; omega)))
    have f3 : (nth_Note a k).2.2.2 = markT (m + ((cntL (List.take k a) : Nat) : Int) + 1 + 1 + 1) := (congrArg (fun z => z.2.2.2) hx).trans (by first | rfl | (simp only [GXA]; first | done | omega | (congr 1; omega) | (rw [mark_bool (by omega), decide_eq_decide]; done) | (rw [mark_bool (by omega), decide_eq_decide]; omega)))
    
    simp (disch := omega) only [wrapA, hdR_l_heldStringS, hdR_l_heldScopeS, hdR_l_heldFilter, hdR_l_heldSeenS, hdR_l_heldView, hdR_l_heldNoteS]
    repeat' (first | apply And.intro | intro _)
    all_goals first
      | trivial
      | omega
      | contradiction
      | (refine ⟨k + 1, hlt, by omega, ?_, ?_⟩ <;> first | omega | exact wrapN (by unfold maxLen; omega))
      | exact Eq.symm (by assumption)
      | (exfalso; simp_all; done)
  · obtain rfl : k = a.length := by omega
    rw [List.take_length]
def e_l_heldNoteS : Entry Tryz.prog := ⟨48, [.v (.list tyNote), .v tyInt], fun x => hdP_l_heldNoteS x.1 x.2.1, fun x => .c (.int .i64 (hdR_l_heldNoteS x.1 x.2.1)), fun _ => [], fun x hx => b_l_heldNoteS x.1 x.2.1 hx, Tryz.call48⟩
abbrev hdR_l_heldQueue (a : GQueue) (m : Int) : Int := m + ((cntI a : Nat) : Int)
abbrev hdP_l_heldQueue (a : GQueue) (m : Int) : Prop := mrkI a m = a ∧ 0 ≤ m ∧ m + cntI a ≤ 4611686018427387904
theorem b_l_heldQueue (a : GQueue) (m : Int) (hpre : hdP_l_heldQueue a m) : BCalls Tryz.prog 30 [.ag [.hs .no tyNote a.1, .bool a.2.1, .bool a.2.2], .c (.int .i64 m)] (.c (.int .i64 (hdR_l_heldQueue a m))) [] := by
  refine bc0 [e_l_heldNoteS] [] [] [] L0 Tryz.func30 (fun hwf => ?_)
  refine Eq.mpr (β := (True ∧ (True ∧ (True ∧ (True ∧ (True ∧ ((hdP_l_heldNoteS a.1 m ∧ true = true) ∧ (True ∧ (True ∧ (True ∧ (bif (ltI (hdR_l_heldNoteS a.1 m) 0) then (True ∧ (rI (-1) (hdR_l_heldQueue a m))) else (True ∧ (True ∧ (rI (hdR_l_heldNoteS a.1 m) (hdR_l_heldQueue a m))))))))))))))) (by kernel_rfl) ?_
  obtain ⟨hmm, hm0, hm1⟩ := hpre
  have hc0 : cntI a = cntL a.1 + (0 + (0)) := rfl
  have g0 : markL a.1 (m) = a.1 := by
    have h0 : a.1 = markL a.1 (m) := congrArg (fun z : GQueue => z.1) hmm.symm
    have hK : m = m := by first | rfl | (simp only [gc1, gc2, gc3, gc4]; omega) | omega
    rw [hK] at h0
    exact h0.symm
  simp only [SIA, eq_self]
  simp only [hdR_l_heldStringS, hdR_l_heldScopeS, hdR_l_heldFilter, hdR_l_heldSeenS, hdR_l_heldView, hdR_l_heldNoteS, hdR_l_heldQueue]
  repeat' (first | apply And.intro | intro _)
  all_goals first
    | trivial
    | omega
    | contradiction
    | exact Eq.symm (by assumption)
    | assumption
    | (exfalso; simp_all; done)
def e_l_heldQueue : Entry Tryz.prog := ⟨30, [.s tyQueue, .v tyInt], fun x => hdP_l_heldQueue x.1 x.2.1, fun x => .c (.int .i64 (hdR_l_heldQueue x.1 x.2.1)), fun _ => [], fun x hx => b_l_heldQueue x.1 x.2.1 hx, Tryz.call30⟩
abbrev hdR_l_heldSession (a : GSession) (m : Int) : Int := m + ((cntI a : Nat) : Int)
abbrev hdP_l_heldSession (a : GSession) (m : Int) : Prop := mrkI a m = a ∧ 0 ≤ m ∧ m + cntI a ≤ 4611686018427387904
theorem b_l_heldSession (a : GSession) (m : Int) (hpre : hdP_l_heldSession a m) : BCalls Tryz.prog 9 [.ag (cellsOf tySession a), .c (.int .i64 m)] (.c (.int .i64 (hdR_l_heldSession a m))) [] := by
  refine bc0 [e_l_heldView, e_l_heldFilter, e_l_heldQueue] [] [] [] L0 Tryz.func9 (fun hwf => ?_)
  refine Eq.mpr (β := (T5 ((hdP_l_heldView a.2.2.2.2.1 m ∧ true = true) ∧ (T3 (bif (ltI (hdR_l_heldView a.2.2.2.2.1 m) 0) then (True ∧ (rI (-1) (hdR_l_heldSession a m))) else (T3 ((hdP_l_heldFilter a.2.2.2.2.2.1 (hdR_l_heldView a.2.2.2.2.1 m) ∧ true = true) ∧ (T3 (bif (ltI (hdR_l_heldFilter a.2.2.2.2.2.1 (hdR_l_heldView a.2.2.2.2.1 m)) 0) then (True ∧ (rI (-1) (hdR_l_heldSession a m))) else (T3 ((hdP_l_heldQueue a.2.2.2.2.2.2.2.2.1 (hdR_l_heldFilter a.2.2.2.2.2.1 (hdR_l_heldView a.2.2.2.2.1 m)) ∧ true = true) ∧ (T3 (bif (ltI (hdR_l_heldQueue a.2.2.2.2.2.2.2.2.1 (hdR_l_heldFilter a.2.2.2.2.2.1 (hdR_l_heldView a.2.2.2.2.1 m))) 0) then (True ∧ (rI (-1) (hdR_l_heldSession a m))) else (T2 (rI (hdR_l_heldQueue a.2.2.2.2.2.2.2.2.1 (hdR_l_heldFilter a.2.2.2.2.2.1 (hdR_l_heldView a.2.2.2.2.1 m))) (hdR_l_heldSession a m)))))))))))))))) (by kernel_rfl) ?_
  unfold T2 T3 T5
  obtain ⟨hmm, hm0, hm1⟩ := hpre
  have hc0 : cntI a = 0 + (0 + (0 + (0 + (cntL a.2.2.2.2.1 + (0 + (cntL a.2.2.2.2.2.1.2) + (0 + (0 + (cntL a.2.2.2.2.2.2.2.2.1.1 + (0 + (0)) + (0 + (0) + (0 + (0) + (0))))))))))) := rfl
  have hc1 : cntI a.2.2.2.2.1 = cntL a.2.2.2.2.1 := rfl
  have hc2 : cntI a.2.2.2.2.2.1 = 0 + (cntL a.2.2.2.2.2.1.2) := rfl
  have hc3 : cntI a.2.2.2.2.2.2.2.2.1 = cntL a.2.2.2.2.2.2.2.2.1.1 + (0 + (0)) := rfl
  have g4 : mrkI a.2.2.2.2.1 (m) = a.2.2.2.2.1 := by
    have h0 : a.2.2.2.2.1 = mrkI a.2.2.2.2.1 (m + ((cntI a.1 : Nat) : Int) + ((cntI a.2.1 : Nat) : Int) + ((cntI a.2.2.1 : Nat) : Int) + ((cntI a.2.2.2.1 : Nat) : Int)) := congrArg (fun z : GSession => z.2.2.2.2.1) hmm.symm
    have hK : m + ((cntI a.1 : Nat) : Int) + ((cntI a.2.1 : Nat) : Int) + ((cntI a.2.2.1 : Nat) : Int) + ((cntI a.2.2.2.1 : Nat) : Int) = m := by first | rfl | (simp only [gc1, gc2, gc3, gc4]; omega) | omega
    rw [hK] at h0
    exact h0.symm
  have g5 : mrkI a.2.2.2.2.2.1 (m + ((cntI a.2.2.2.2.1 : Nat) : Int)) = a.2.2.2.2.2.1 := by
    have h0 : a.2.2.2.2.2.1 = mrkI a.2.2.2.2.2.1 (m + ((cntI a.1 : Nat) : Int) + ((cntI a.2.1 : Nat) : Int) + ((cntI a.2.2.1 : Nat) : Int) + ((cntI a.2.2.2.1 : Nat) : Int) + ((cntI a.2.2.2.2.1 : Nat) : Int)) := congrArg (fun z : GSession => z.2.2.2.2.2.1) hmm.symm
    have hK : m + ((cntI a.1 : Nat) : Int) + ((cntI a.2.1 : Nat) : Int) + ((cntI a.2.2.1 : Nat) : Int) + ((cntI a.2.2.2.1 : Nat) : Int) + ((cntI a.2.2.2.2.1 : Nat) : Int) = m + ((cntI a.2.2.2.2.1 : Nat) : Int) := by first | rfl | (simp only [gc1, gc2, gc3, gc4]; omega) | omega
    rw [hK] at h0
    exact h0.symm
  have g8 : mrkI a.2.2.2.2.2.2.2.2.1 (m + ((cntI a.2.2.2.2.1 : Nat) : Int) + ((cntI a.2.2.2.2.2.1 : Nat) : Int)) = a.2.2.2.2.2.2.2.2.1 := by
    have h0 : a.2.2.2.2.2.2.2.2.1 = mrkI a.2.2.2.2.2.2.2.2.1 (m + ((cntI a.1 : Nat) : Int) + ((cntI a.2.1 : Nat) : Int) + ((cntI a.2.2.1 : Nat) : Int) + ((cntI a.2.2.2.1 : Nat) : Int) + ((cntI a.2.2.2.2.1 : Nat) : Int) + ((cntI a.2.2.2.2.2.1 : Nat) : Int) + ((cntI a.2.2.2.2.2.2.1 : Nat) : Int) + ((cntI a.2.2.2.2.2.2.2.1 : Nat) : Int)) := congrArg (fun z : GSession => z.2.2.2.2.2.2.2.2.1) hmm.symm
    have hK : m + ((cntI a.1 : Nat) : Int) + ((cntI a.2.1 : Nat) : Int) + ((cntI a.2.2.1 : Nat) : Int) + ((cntI a.2.2.2.1 : Nat) : Int) + ((cntI a.2.2.2.2.1 : Nat) : Int) + ((cntI a.2.2.2.2.2.1 : Nat) : Int) + ((cntI a.2.2.2.2.2.2.1 : Nat) : Int) + ((cntI a.2.2.2.2.2.2.2.1 : Nat) : Int) = m + ((cntI a.2.2.2.2.1 : Nat) : Int) + ((cntI a.2.2.2.2.2.1 : Nat) : Int) := by first | rfl | (simp only [gc1, gc2, gc3, gc4]; omega) | omega
    rw [hK] at h0
    exact h0.symm
  simp only [SIA, eq_self]
  simp only [hdR_l_heldStringS, hdR_l_heldScopeS, hdR_l_heldFilter, hdR_l_heldSeenS, hdR_l_heldView, hdR_l_heldNoteS, hdR_l_heldQueue, hdR_l_heldSession]
  repeat' (first | apply And.intro | intro _)
  all_goals first
    | trivial
    | omega
    | contradiction
    | exact Eq.symm (by assumption)
    | assumption
    | (exfalso; simp_all; done)
def e_l_heldSession : Entry Tryz.prog := ⟨9, [.s tySession, .v tyInt], fun x => hdP_l_heldSession x.1 x.2.1, fun x => .c (.int .i64 (hdR_l_heldSession x.1 x.2.1)), fun _ => [], fun x hx => b_l_heldSession x.1 x.2.1 hx, Tryz.call9⟩
end Go.Proofs.YtklnpeckhbiloaaGreatDoor
