/-
  The laws' functions heldX.
  No condition but what the arguments' cells hold. Printed by vcgen.py.
-/
import Derived.Test.YtbpapaponnfagaaMMarkB
set_option linter.unusedSimpArgs false
set_option linter.unusedVariables false
set_option maxRecDepth 100000
set_option maxHeartbeats 4000000
namespace Go.Proofs.Ytbpapaponnfagaa
open Go.ChangeShapes Go.WideShapes Go.ChangeAt Go.RowKit Go.Joins Go.Deep
open GoRep (rep bulk)

open GoMark (mrk cnt mrkI cntI)
abbrev hdR_l_heldStringS (a : List ByteArray) (m : Int) : Int := m + ((cntL a : Nat) : Int)
abbrev hdP_l_heldStringS (a : List ByteArray) (m : Int) : Prop := markL a m = a ∧ 0 ≤ m ∧ m + cntL a ≤ 4611686018427387904
def L_l_heldStringS (a : List ByteArray) (m : Int) : Nat → List AV → Mem → LoopA
  | 2, tm, M => ⟨Nat, fun y => (anyR (setA tm [(1, .c (.int .i64 (m + ((cntL (List.take y a) : Nat) : Int)))), (4, .any), (5, .c (.int .i64 ((y : Nat) : Int)))]) 6 15, M), fun y => (y ≤ List.length a), fun y => (List.length a - y)⟩
  | _, _, _ => ⟨Unit, fun _ => ([], []), fun _ => False, fun _ => 0⟩
theorem b_l_heldStringS (a : List ByteArray) (m : Int) (hpre : hdP_l_heldStringS a m) : BCalls Try.prog 80 [.c (.hs .no tyStr a), .c (.int .i64 m)] (.c (.int .i64 (hdR_l_heldStringS a m))) [] := by
  refine bc0 [e_l_markText] [] [] [] (L_l_heldStringS a m) Try.func80 (fun hwf => ?_)
  refine Eq.mpr (β := (T2 ((∃ q : Nat, (q ≤ List.length a) ∧ ((lxs [.c (.hs .no tyStr a)] (leV (.c (.int .i64 m)) (.c (.int .i64 (m + ((cntL (List.take q a) : Nat) : Int)))) ∧ lxs [.tp [], .tp []] (True ∧ leV (.c (.int .i64 0)) (.c (.int .i64 ((q : Nat) : Int))) ∧ TN 15 (lxs [.tp []] True)))) ∧ (True) ∧ true = true)) ∧ ∀ y0 : Nat, (y0 ≤ List.length a) → (T4 (bif (ltI ((y0 : Nat) : Int) ((List.length a : Nat) : Int)) then ((true = true ∧ true = true) ∧ (T2 (((1 : Nat) = 1 ∧ (0 : Int) ≤ ((y0 : Nat) : Int) ∧ (((y0 : Nat) : Int) : Int) < ((List.length a : Nat) : Int)) ∧ (T2 ((markP (m + ((cntL (List.take y0 a) : Nat) : Int)) ∧ true = true) ∧ (True ∧ (bif (!eqS (nth_String a (Int.toNat ((y0 : Nat) : Int))) (markT (m + ((cntL (List.take y0 a) : Nat) : Int)))) then (True ∧ (rI (-1) (hdR_l_heldStringS a m))) else (T6 (∃ y0' : Nat, (y0' ≤ List.length a) ∧ (List.length a - y0') < (List.length a - y0) ∧ ((lxs [.c (.hs .no tyStr a)] (leV (.c (.int .i64 (IntKind.wrap .i64 ((m + ((cntL (List.take y0 a) : Nat) : Int)) + 1)))) (.c (.int .i64 (m + ((cntL (List.take y0' a) : Nat) : Int)))) ∧ lxs [.tp [], .tp []] (True ∧ leV (.c (.int .i64 (IntKind.wrap .i64 (((y0 : Nat) : Int) + 1)))) (.c (.int .i64 ((y0' : Nat) : Int))) ∧ TN 15 (lxs [.tp []] True)))) ∧ (True) ∧ true = true)))))))))) else (T2 (rI (m + ((cntL (List.take y0 a) : Nat) : Int)) (hdR_l_heldStringS a m)))))))) (by kernel_rfl) ?_
  unfold T2 T4 T6
  obtain ⟨hmm, hm0, hm1⟩ := hpre
  have hlm : a.length ≤ maxLen := hwf.1.1
  unfold maxLen at hlm
  simp only [SIA, eq_self]
  refine ⟨⟨0, Nat.zero_le _, by simp [cntL], rfl⟩, fun k hk => ⟨fun hlt => ?_, fun hge => ?_⟩⟩
  · have hlt : k < a.length := by omega
    have hg : a[k]? = some (nth_String a k) := nth_getElem? (t := tyStr) hlt
    have hc : cntL (List.take (k + 1) a) = cntL (List.take k a) + (1) := cntL_snoc hg
    have hcl : cntL (List.take (k + 1) a) ≤ cntL a := cntL_le a (k + 1)
    have hx := marked_nth hmm hg
    have f0 : (nth_String a k) = markT (m + ((cntL (List.take k a) : Nat) : Int)) := (congrArg (fun z => z) hx).trans (by first | rfl | (simp only [GXA]; first | done | omega | (congr 1; omega) | (rw [mark_bool (by omega), decide_eq_decide]; done) | (rw [mark_bool (by omega), decide_eq_decide]; omega)))
    
    simp (disch := omega) only [wrapA, hdR_l_heldStringS]
    repeat' (first | apply And.intro | intro _)
    all_goals first
      | trivial
      | omega
      | contradiction
      | (refine ⟨k + 1, hlt, by omega, ?_, ?_⟩ <;> first | omega | exact wrapN (by unfold maxLen; omega))
      | exact Eq.symm (by assumption)
      | (exfalso; simp_all; done)
  · obtain rfl : k = a.length := by omega
    rw [List.take_length]
def e_l_heldStringS : Entry Try.prog := ⟨80, [.v (.list tyStr), .v tyInt], fun x => hdP_l_heldStringS x.1 x.2.1, fun x => .c (.int .i64 (hdR_l_heldStringS x.1 x.2.1)), fun _ => [], fun x hx => b_l_heldStringS x.1 x.2.1 hx, Try.call80⟩
abbrev hdR_l_heldScopeS (a : List GScope) (m : Int) : Int := m + ((cntL a : Nat) : Int)
abbrev hdP_l_heldScopeS (a : List GScope) (m : Int) : Prop := markL a m = a ∧ 0 ≤ m ∧ m + cntL a ≤ 4611686018427387904
def L_l_heldScopeS (a : List GScope) (m : Int) : Nat → List AV → Mem → LoopA
  | 2, tm, M => ⟨Nat, fun y => (anyR (setA tm [(1, .c (.int .i64 (m + ((cntL (List.take y a) : Nat) : Int)))), (4, .any), (5, .c (.int .i64 ((y : Nat) : Int)))]) 6 33, M), fun y => (y ≤ List.length a), fun y => (List.length a - y)⟩
  | _, _, _ => ⟨Unit, fun _ => ([], []), fun _ => False, fun _ => 0⟩
def k0w1w8z (y0 : Nat) (a : List GScope) : Prop := ((3 : Nat) = 3 ∧ (0 : Int) ≤ ((y0 : Nat) : Int) ∧ (((y0 : Nat) : Int) : Int) < ((List.length a : Nat) : Int))
theorem b_l_heldScopeS (a : List GScope) (m : Int) (hpre : hdP_l_heldScopeS a m) : BCalls Try.prog 43 [.c (.hs .no tyScope a), .c (.int .i64 m)] (.c (.int .i64 (hdR_l_heldScopeS a m))) [] := by
  refine bc0 [e_l_heldStringS] [] [] [] (L_l_heldScopeS a m) Try.func43 (fun hwf => ?_)
  refine Eq.mpr (β := (T2 ((∃ q : Nat, (q ≤ List.length a) ∧ ((lxs [.c (.hs .no tyScope a)] (leV (.c (.int .i64 m)) (.c (.int .i64 (m + ((cntL (List.take q a) : Nat) : Int)))) ∧ lxs [.tp [], .tp []] (True ∧ leV (.c (.int .i64 0)) (.c (.int .i64 ((q : Nat) : Int))) ∧ TN 33 (lxs [.tp []] True)))) ∧ (True) ∧ true = true)) ∧ ∀ y0 : Nat, (y0 ≤ List.length a) → (T4 (bif (ltI ((y0 : Nat) : Int) ((List.length a : Nat) : Int)) then (T2 ((k0w1w8z y0 a) ∧ (T4 (bif (neI (nth_Scope a (Int.toNat ((y0 : Nat) : Int))).1 (m + ((cntL (List.take y0 a) : Nat) : Int))) then (True ∧ (rI (-1) (hdR_l_heldScopeS a m))) else (T5 ((k0w1w8z y0 a) ∧ (T3 ((hdP_l_heldStringS (nth_Scope a (Int.toNat ((y0 : Nat) : Int))).2.1 (IntKind.wrap .i64 ((m + ((cntL (List.take y0 a) : Nat) : Int)) + 1)) ∧ true = true) ∧ (T3 (bif (ltI (hdR_l_heldStringS (nth_Scope a (Int.toNat ((y0 : Nat) : Int))).2.1 (IntKind.wrap .i64 ((m + ((cntL (List.take y0 a) : Nat) : Int)) + 1))) 0) then (True ∧ (rI (-1) (hdR_l_heldScopeS a m))) else (T2 ((k0w1w8z y0 a) ∧ (T4 (bif (neI (nth_Scope a (Int.toNat ((y0 : Nat) : Int))).2.2 (hdR_l_heldStringS (nth_Scope a (Int.toNat ((y0 : Nat) : Int))).2.1 (IntKind.wrap .i64 ((m + ((cntL (List.take y0 a) : Nat) : Int)) + 1)))) then (True ∧ (rI (-1) (hdR_l_heldScopeS a m))) else (T6 (∃ y0' : Nat, (y0' ≤ List.length a) ∧ (List.length a - y0') < (List.length a - y0) ∧ ((lxs [.c (.hs .no tyScope a)] (leV (.c (.int .i64 (IntKind.wrap .i64 (hdR_l_heldStringS (nth_Scope a (Int.toNat ((y0 : Nat) : Int))).2.1 (IntKind.wrap .i64 ((m + ((cntL (List.take y0 a) : Nat) : Int)) + 1)) + 1)))) (.c (.int .i64 (m + ((cntL (List.take y0' a) : Nat) : Int)))) ∧ lxs [.tp [], .tp []] (True ∧ leV (.c (.int .i64 (IntKind.wrap .i64 (((y0 : Nat) : Int) + 1)))) (.c (.int .i64 ((y0' : Nat) : Int))) ∧ TN 33 (lxs [.tp []] True)))) ∧ (True) ∧ true = true))))))))))))))))) else (T2 (rI (m + ((cntL (List.take y0 a) : Nat) : Int)) (hdR_l_heldScopeS a m)))))))) (by kernel_rfl) ?_
  unfold k0w1w8z T2 T3 T4 T5 T6
  obtain ⟨hmm, hm0, hm1⟩ := hpre
  have hlm : a.length ≤ maxLen := hwf.1.1
  unfold maxLen at hlm
  simp only [SIA, eq_self]
  refine ⟨⟨0, Nat.zero_le _, by simp [cntL], rfl⟩, fun k hk => ⟨fun hlt => ?_, fun hge => ?_⟩⟩
  · have hlt : k < a.length := by omega
    have hg : a[k]? = some (nth_Scope a k) := nth_getElem? (t := tyScope) hlt
    have hc : cntL (List.take (k + 1) a) = cntL (List.take k a) + (1 + (cntL (nth_Scope a k).2.1 + (1))) := cntL_snoc hg
    have hcl : cntL (List.take (k + 1) a) ≤ cntL a := cntL_le a (k + 1)
    have hx := marked_nth hmm hg
    have f0 : (nth_Scope a k).1 = m + ((cntL (List.take k a) : Nat) : Int) := (congrArg (fun z => z.1) hx).trans (by first | rfl | (simp only [GXA]; first | done | omega | (congr 1; omega) | (rw [mark_bool (by omega), decide_eq_decide]; done) | (rw [mark_bool (by omega), decide_eq_decide]; omega)))
    have f1 : (nth_Scope a k).2.1 = markL ((nth_Scope a k).2.1) (m + ((cntL (List.take k a) : Nat) : Int) + 1) := (congrArg (fun z => z.2.1) hx).trans (by first | rfl | (simp only [GXA]; first | done | omega | (congr 1; omega) | (rw [mark_bool (by omega), decide_eq_decide]; done) | (rw [mark_bool (by omega), decide_eq_decide]; omega)))
    have f2 : (nth_Scope a k).2.2 = m + ((cntL (List.take k a) : Nat) : Int) + 1 + ((cntL ((nth_Scope a k).2.1) : Nat) : Int) := (congrArg (fun z => z.2.2) hx).trans (by first | rfl | (simp only [GXA]; first | done | omega | (congr 1; omega) | (rw [mark_bool (by omega), decide_eq_decide]; done) | (rw [mark_bool (by omega), decide_eq_decide]; omega)))
    
    simp (disch := omega) only [wrapA, hdR_l_heldStringS, hdR_l_heldScopeS]
    repeat' (first | apply And.intro | intro _)
    all_goals first
      | trivial
      | omega
      | contradiction
      | (refine ⟨k + 1, hlt, by omega, ?_, ?_⟩ <;> first | omega | exact wrapN (by unfold maxLen; omega))
      | exact Eq.symm (by assumption)
      | (exfalso; simp_all; done)
  · obtain rfl : k = a.length := by omega
    rw [List.take_length]
def e_l_heldScopeS : Entry Try.prog := ⟨43, [.v (.list tyScope), .v tyInt], fun x => hdP_l_heldScopeS x.1 x.2.1, fun x => .c (.int .i64 (hdR_l_heldScopeS x.1 x.2.1)), fun _ => [], fun x hx => b_l_heldScopeS x.1 x.2.1 hx, Try.call43⟩
abbrev hdR_l_heldFilter (a : GFilter) (m : Int) : Int := m + ((cntI a : Nat) : Int)
abbrev hdP_l_heldFilter (a : GFilter) (m : Int) : Prop := mrkI a m = a ∧ 0 ≤ m ∧ m + cntI a ≤ 4611686018427387904
theorem b_l_heldFilter (a : GFilter) (m : Int) (hpre : hdP_l_heldFilter a m) : BCalls Try.prog 14 [.ag [.bool a.1, .hs .no tyScope a.2], .c (.int .i64 m)] (.c (.int .i64 (hdR_l_heldFilter a m))) [] := by
  refine bc0 [e_l_heldScopeS] [] [] [] L0 Try.func14 (fun hwf => ?_)
  refine Eq.mpr (β := (True ∧ (True ∧ (True ∧ (True ∧ (True ∧ ((hdP_l_heldScopeS a.2 m ∧ true = true) ∧ (True ∧ (True ∧ (True ∧ (bif (ltI (hdR_l_heldScopeS a.2 m) 0) then (True ∧ (rI (-1) (hdR_l_heldFilter a m))) else (True ∧ (True ∧ (rI (hdR_l_heldScopeS a.2 m) (hdR_l_heldFilter a m))))))))))))))) (by kernel_rfl) ?_
  obtain ⟨hmm, hm0, hm1⟩ := hpre
  have hc0 : cntI a = 0 + (cntL a.2) := rfl
  have g1 : markL a.2 (m) = a.2 := by
    have h0 : a.2 = markL a.2 (m + ((cntI a.1 : Nat) : Int)) := congrArg (fun z : GFilter => z.2) hmm.symm
    have hK : m + ((cntI a.1 : Nat) : Int) = m := by first | rfl | (simp only [gc1, gc2, gc3, gc4]; omega) | omega
    rw [hK] at h0
    exact h0.symm
  simp only [SIA, eq_self]
  simp only [hdR_l_heldStringS, hdR_l_heldScopeS, hdR_l_heldFilter]
  repeat' (first | apply And.intro | intro _)
  all_goals first
    | trivial
    | omega
    | contradiction
    | exact Eq.symm (by assumption)
    | assumption
    | (exfalso; simp_all; done)
def e_l_heldFilter : Entry Try.prog := ⟨14, [.s tyFilter, .v tyInt], fun x => hdP_l_heldFilter x.1 x.2.1, fun x => .c (.int .i64 (hdR_l_heldFilter x.1 x.2.1)), fun _ => [], fun x hx => b_l_heldFilter x.1 x.2.1 hx, Try.call14⟩
end Go.Proofs.Ytbpapaponnfagaa
