/-
  The laws' functions toX.
  No condition but what the arguments' cells hold. Printed by vcgen.py.
-/
import Derived.Test.YtdfanfpembebmaaGreatDoorALawA
set_option linter.unusedSimpArgs false
set_option linter.unusedVariables false
set_option maxRecDepth 100000
set_option maxHeartbeats 4000000
namespace Go.Proofs.YtdfanfpembebmaaGreatDoor
open Go.ChangeShapes Go.WideShapes Go.ChangeAt Go.RowKit Go.Joins Go.Deep
open GoRep (rep bulk)

abbrev toP_l_toStringS (a : List ByteArray) : Prop := bulk a ≤ 1048576
def L_l_toStringS (a : List ByteArray) : Nat → List AV → Mem → LoopA
  | 3, tm, M => ⟨Nat, fun y => (anyR (setA tm [(4, .c (.int .i64 ((y : Nat) : Int)))]) 8 13, setM M [(0, .row tyStr (List.take y a ++ List.replicate (List.length a - y) (⟨#[]⟩ : ByteArray)) 0 0 none)]), fun y => (y ≤ List.length a), fun y => (List.length a - y)⟩
  | _, _, _ => ⟨Unit, fun _ => ([], []), fun _ => False, fun _ => 0⟩
theorem b_l_toStringS (a : List ByteArray) (hpre : toP_l_toStringS a) : BCalls Tryz.prog 102 [.c (.hs .no tyStr a)] (.c (.row 0 0)) [.row tyStr a 0 0 none] := by
  refine bc0 [] [] [] [] (L_l_toStringS a) Tryz.func102 (fun hwf => ?_)
  refine Eq.mpr (β := (T3 (((((List.length a : Nat) : Int) : Int) = ((List.length a : Nat) : Int) ∧ (0 : Int) ≤ ((List.length a : Nat) : Int) ∧ (((List.length a : Nat) : Int) : Int) ≤ ((rowMax : Nat) : Int)) ∧ (T2 ((∃ q : Nat, (q ≤ List.length a) ∧ ((lxs [.c (.hs .no tyStr a), .tp [], .c (.raw (.slice none 0 0)), .c (.row 0 0)] (leV (.c (.int .i64 0)) (.c (.int .i64 ((q : Nat) : Int))) ∧ lxs [.c (.hs .no tyStr a), .c (.int .i64 ((List.length a : Nat) : Int)), .c (.row 0 0)] (TN 13 (lxs [.tp []] True)))) ∧ (leB (.row tyStr (List.replicate (Int.toNat ((List.length a : Nat) : Int)) (⟨#[]⟩ : ByteArray)) 0 0 none) (.row tyStr (List.take q a ++ List.replicate (List.length a - q) (⟨#[]⟩ : ByteArray)) 0 0 none) ∧ True) ∧ true = true)) ∧ ∀ y0 : Nat, (y0 ≤ List.length a) → (T4 (bif (ltI ((y0 : Nat) : Int) ((List.length a : Nat) : Int)) then (T4 (((1 : Nat) = 1 ∧ (0 : Int) ≤ ((y0 : Nat) : Int) ∧ (((y0 : Nat) : Int) : Int) < ((List.length a : Nat) : Int)) ∧ (True ∧ (((1 : Nat) = 1 ∧ (0 : Int) ≤ ((y0 : Nat) : Int) ∧ (((y0 : Nat) : Int) : Int) < ((List.length (List.take y0 a ++ List.replicate (List.length a - y0) (⟨#[]⟩ : ByteArray)) : Nat) : Int)) ∧ (True ∧ ∀ r1 : List ByteArray, r1 = (List.set (List.take y0 a ++ List.replicate (List.length a - y0) (⟨#[]⟩ : ByteArray)) (Int.toNat ((y0 : Nat) : Int)) (nth_String a (Int.toNat ((y0 : Nat) : Int)))) → (T3 (∃ y0' : Nat, (y0' ≤ List.length a) ∧ (List.length a - y0') < (List.length a - y0) ∧ ((lxs [.c (.hs .no tyStr a), .tp [], .c (.raw (.slice none 0 0)), .c (.row 0 0)] (leV (.c (.int .i64 (IntKind.wrap .i64 (((y0 : Nat) : Int) + 1)))) (.c (.int .i64 ((y0' : Nat) : Int))) ∧ lxs [.c (.hs .no tyStr a), .c (.int .i64 ((List.length a : Nat) : Int)), .c (.row 0 0)] (TN 13 (lxs [.tp []] True)))) ∧ (leB (.row tyStr r1 0 0 none) (.row tyStr (List.take y0' a ++ List.replicate (List.length a - y0') (⟨#[]⟩ : ByteArray)) 0 0 none) ∧ True) ∧ true = true)))))))) else (T2 (((List.take y0 a ++ List.replicate (List.length a - y0) (⟨#[]⟩ : ByteArray)) = a) ∧ true = true))))))))) (by kernel_rfl) ?_
  unfold T2 T3 T4
  have hp : bulk a ≤ 1048576 := hpre
  have hb : bulk a = a.length + bulkL a := rfl
  simp only [SIA, eq_self]
  refine ⟨⟨by omega, by unfold rowMax; omega⟩, ⟨0, Nat.zero_le _, rfl, Eq.mpr (leB_row (t := tyStr)) rfl⟩, fun k hk => ⟨fun hlt => ?_, fun hge => ?_⟩⟩
  · have hlt : k < a.length := by omega
    have hk := nth_getElem? (t := tyStr) hlt
    have hl : (List.take k a ++ List.replicate (List.length a - k) (⟨#[]⟩ : ByteArray)).length = a.length := by simp; omega
    have hbn : bulk (nth_String a k) ≤ bulkL a := bulk_nth hk
    refine ⟨⟨by omega, by omega⟩, ⟨by omega, by rw [hl]; omega⟩, fun r1 hr => ⟨k + 1, hlt, by omega, wrapN (by unfold maxLen; omega), Eq.mpr (leB_row (t := tyStr)) ?_⟩⟩
    exact hr.trans (fill_set hk)
  · obtain rfl : k = a.length := by omega
    exact fill_end a _
def e_l_toStringS : Entry Tryz.prog := ⟨102, [.v (.list tyStr)], fun x => toP_l_toStringS x.1, fun x => .c (.row 0 0), fun x => [.row tyStr x.1 0 0 none], fun x hx => b_l_toStringS x.1 hx, Tryz.call102⟩
abbrev toP_l_toScope (a : GScope) : Prop := bulk a ≤ 1048576
theorem b_l_toScope (a : GScope) (hpre : toP_l_toScope a) : BCalls Tryz.prog 76 [.ag [.int .i64 a.1, .hs .no tyStr a.2.1, .int .i64 a.2.2]] (.ag [.int .i64 a.1, .row 0 0, .int .i64 a.2.2]) [.row tyStr a.2.1 0 0 none] := by
  refine bc0 [e_l_toStringS] [] [] [] L0 Tryz.func76 (fun hwf => ?_)
  refine Eq.mpr (β := (True ∧ (True ∧ (True ∧ (True ∧ (True ∧ (True ∧ (True ∧ (True ∧ (True ∧ ((toP_l_toStringS a.2.1 ∧ true = true) ∧ (True ∧ (True ∧ (True ∧ (True ∧ (True ∧ (True ∧ (True ∧ (True ∧ ((((true = true ∧ leC (.int .i64 a.1) (.int .i64 a.1)) ∧ (a.2.1 = a.2.1) ∧ (true = true ∧ leC (.int .i64 a.2.2) (.int .i64 a.2.2)) ∧ True)) ∧ true = true)))))))))))))))))))) (by kernel_rfl) ?_
  have hp : bulk a ≤ 1048576 := hpre
  have hb : bulk a = 0 + (bulk a.2.1 + (0)) := rfl
  simp only [SIA, eq_self]
  repeat' (first | apply And.intro | intro _)
  all_goals (first | trivial | omega)
def e_l_toScope : Entry Tryz.prog := ⟨76, [.s tyScope], fun x => toP_l_toScope x.1, fun x => .ag [.int .i64 x.1.1, .row 0 0, .int .i64 x.1.2.2], fun x => [.row tyStr x.1.2.1 0 0 none], fun x hx => b_l_toScope x.1 hx, Tryz.call76⟩
abbrev toP_l_toScopeS (a : List GScope) : Prop := bulk a ≤ 1048576
def L_l_toScopeS (a : List GScope) : Nat → List AV → Mem → LoopA
  | 3, tm, M => ⟨Nat, fun y => (anyR (setA tm [(4, .c (.int .i64 ((y : Nat) : Int)))]) 8 14, setM M [(0, .row tyScope (List.take y a ++ List.replicate (List.length a - y) z_Scope) 0 0 none)]), fun y => (y ≤ List.length a), fun y => (List.length a - y)⟩
  | _, _, _ => ⟨Unit, fun _ => ([], []), fun _ => False, fun _ => 0⟩
theorem b_l_toScopeS (a : List GScope) (hpre : toP_l_toScopeS a) : BCalls Tryz.prog 52 [.c (.hs .no tyScope a)] (.c (.row 0 0)) [.row tyScope a 0 0 none] := by
  refine bc0 [e_l_toScope] [] [] [] (L_l_toScopeS a) Tryz.func52 (fun hwf => ?_)
  refine Eq.mpr (β := (T3 (((((List.length a : Nat) : Int) : Int) = ((List.length a : Nat) : Int) ∧ (0 : Int) ≤ ((List.length a : Nat) : Int) ∧ (((List.length a : Nat) : Int) : Int) ≤ ((rowMax : Nat) : Int)) ∧ (T2 ((∃ q : Nat, (q ≤ List.length a) ∧ ((lxs [.c (.hs .no tyScope a), .tp [], .c (.raw (.slice none 0 0)), .c (.row 0 0)] (leV (.c (.int .i64 0)) (.c (.int .i64 ((q : Nat) : Int))) ∧ lxs [.c (.hs .no tyScope a), .c (.int .i64 ((List.length a : Nat) : Int)), .c (.row 0 0)] (TN 14 (lxs [.tp []] True)))) ∧ (leB (.row tyScope (List.replicate (Int.toNat ((List.length a : Nat) : Int)) z_Scope) 0 0 none) (.row tyScope (List.take q a ++ List.replicate (List.length a - q) z_Scope) 0 0 none) ∧ True) ∧ true = true)) ∧ ∀ y0 : Nat, (y0 ≤ List.length a) → (T4 (bif (ltI ((y0 : Nat) : Int) ((List.length a : Nat) : Int)) then (T4 (((3 : Nat) = 3 ∧ (0 : Int) ≤ ((y0 : Nat) : Int) ∧ (((y0 : Nat) : Int) : Int) < ((List.length a : Nat) : Int)) ∧ (True ∧ ((toP_l_toScope (nth_Scope a (Int.toNat ((y0 : Nat) : Int))) ∧ true = true) ∧ (((3 : Nat) = 3 ∧ (0 : Int) ≤ ((y0 : Nat) : Int) ∧ (((y0 : Nat) : Int) : Int) < ((List.length (List.take y0 a ++ List.replicate (List.length a - y0) z_Scope) : Nat) : Int)) ∧ (True ∧ ∀ r1 : List GScope, r1 = (List.set (List.take y0 a ++ List.replicate (List.length a - y0) z_Scope) (Int.toNat ((y0 : Nat) : Int)) (nth_Scope a (Int.toNat ((y0 : Nat) : Int)))) → (T3 (∃ y0' : Nat, (y0' ≤ List.length a) ∧ (List.length a - y0') < (List.length a - y0) ∧ ((lxs [.c (.hs .no tyScope a), .tp [], .c (.raw (.slice none 0 0)), .c (.row 0 0)] (leV (.c (.int .i64 (IntKind.wrap .i64 (((y0 : Nat) : Int) + 1)))) (.c (.int .i64 ((y0' : Nat) : Int))) ∧ lxs [.c (.hs .no tyScope a), .c (.int .i64 ((List.length a : Nat) : Int)), .c (.row 0 0)] (TN 14 (lxs [.tp []] True)))) ∧ (leB (.row tyScope r1 0 0 none) (.row tyScope (List.take y0' a ++ List.replicate (List.length a - y0') z_Scope) 0 0 none) ∧ True) ∧ true = true))))))))) else (T2 (((List.take y0 a ++ List.replicate (List.length a - y0) z_Scope) = a) ∧ true = true))))))))) (by kernel_rfl) ?_
  unfold T2 T3 T4
  have hp : bulk a ≤ 1048576 := hpre
  have hb : bulk a = a.length + bulkL a := rfl
  simp only [SIA, eq_self]
  refine ⟨⟨by omega, by unfold rowMax; omega⟩, ⟨0, Nat.zero_le _, rfl, Eq.mpr (leB_row (t := tyScope)) rfl⟩, fun k hk => ⟨fun hlt => ?_, fun hge => ?_⟩⟩
  · have hlt : k < a.length := by omega
    have hk := nth_getElem? (t := tyScope) hlt
    have hl : (List.take k a ++ List.replicate (List.length a - k) z_Scope).length = a.length := by simp; omega
    have hbn : bulk (nth_Scope a k) ≤ bulkL a := bulk_nth hk
    refine ⟨⟨by omega, by omega⟩, by show bulk _ ≤ _; omega, ⟨by omega, by rw [hl]; omega⟩, fun r1 hr => ⟨k + 1, hlt, by omega, wrapN (by unfold maxLen; omega), Eq.mpr (leB_row (t := tyScope)) ?_⟩⟩
    exact hr.trans (fill_set hk)
  · obtain rfl : k = a.length := by omega
    exact fill_end a _
def e_l_toScopeS : Entry Tryz.prog := ⟨52, [.v (.list tyScope)], fun x => toP_l_toScopeS x.1, fun x => .c (.row 0 0), fun x => [.row tyScope x.1 0 0 none], fun x hx => b_l_toScopeS x.1 hx, Tryz.call52⟩
abbrev toP_l_toFilter (a : GFilter) : Prop := bulk a ≤ 1048576
theorem b_l_toFilter (a : GFilter) (hpre : toP_l_toFilter a) : BCalls Tryz.prog 26 [.ag [.bool a.1, .hs .no tyScope a.2]] (.ag [.bool a.1, .row 0 0]) [.row tyScope a.2 0 0 none] := by
  refine bc0 [e_l_toScopeS] [] [] [] L0 Tryz.func26 (fun hwf => ?_)
  refine Eq.mpr (β := (True ∧ (True ∧ (True ∧ (True ∧ (True ∧ (True ∧ (True ∧ (True ∧ (True ∧ ((toP_l_toScopeS a.2 ∧ true = true) ∧ (True ∧ (True ∧ (True ∧ (True ∧ ((((true = true ∧ leC (.bool a.1) (.bool a.1)) ∧ (a.2 = a.2) ∧ True)) ∧ true = true)))))))))))))))) (by kernel_rfl) ?_
  have hp : bulk a ≤ 1048576 := hpre
  have hb : bulk a = 0 + (bulk a.2) := rfl
  simp only [SIA, eq_self]
  repeat' (first | apply And.intro | intro _)
  all_goals (first | trivial | omega)
def e_l_toFilter : Entry Tryz.prog := ⟨26, [.s tyFilter], fun x => toP_l_toFilter x.1, fun x => .ag [.bool x.1.1, .row 0 0], fun x => [.row tyScope x.1.2 0 0 none], fun x hx => b_l_toFilter x.1 hx, Tryz.call26⟩
theorem b_l_toSeen (a : GSpan) : BCalls Tryz.prog 75 [.ag [.int .i64 a.1, .int .i64 a.2]] (.ag [.int .i64 a.1, .int .i64 a.2]) [] := by
  refine bc0 [] [] [] [] L0 Tryz.func75 (fun hwf => ?_)
  refine Eq.mpr (β := (True ∧ (True ∧ (True ∧ (True ∧ (True ∧ (True ∧ (True ∧ (True ∧ (True ∧ (True ∧ (True ∧ (True ∧ (True ∧ ((((true = true ∧ leC (.int .i64 a.1) (.int .i64 a.1)) ∧ (true = true ∧ leC (.int .i64 a.2) (.int .i64 a.2)) ∧ True)) ∧ true = true))))))))))))))) (by kernel_rfl) ?_
  simp only [SIA, eq_self]
  repeat' (first | apply And.intro | intro _)
  all_goals (first | trivial | omega)
def e_l_toSeen : Entry Tryz.prog := ⟨75, [.s tySpan], fun x => True, fun x => .ag [.int .i64 x.1.1, .int .i64 x.1.2], fun _ => [], fun x hx => b_l_toSeen x.1, Tryz.call75⟩
abbrev toP_l_toSeenS (a : List GSpan) : Prop := bulk a ≤ 1048576
def L_l_toSeenS (a : List GSpan) : Nat → List AV → Mem → LoopA
  | 3, tm, M => ⟨Nat, fun y => (anyR (setA tm [(4, .c (.int .i64 ((y : Nat) : Int)))]) 8 14, setM M [(0, .row tySpan (List.take y a ++ List.replicate (List.length a - y) z_Span) 0 0 none)]), fun y => (y ≤ List.length a), fun y => (List.length a - y)⟩
  | _, _, _ => ⟨Unit, fun _ => ([], []), fun _ => False, fun _ => 0⟩
theorem b_l_toSeenS (a : List GSpan) (hpre : toP_l_toSeenS a) : BCalls Tryz.prog 51 [.c (.hs .no tySpan a)] (.c (.row 0 0)) [.row tySpan a 0 0 none] := by
  refine bc0 [e_l_toSeen] [] [] [] (L_l_toSeenS a) Tryz.func51 (fun hwf => ?_)
  refine Eq.mpr (β := (T3 (((((List.length a : Nat) : Int) : Int) = ((List.length a : Nat) : Int) ∧ (0 : Int) ≤ ((List.length a : Nat) : Int) ∧ (((List.length a : Nat) : Int) : Int) ≤ ((rowMax : Nat) : Int)) ∧ (T2 ((∃ q : Nat, (q ≤ List.length a) ∧ ((lxs [.c (.hs .no tySpan a), .tp [], .c (.raw (.slice none 0 0)), .c (.row 0 0)] (leV (.c (.int .i64 0)) (.c (.int .i64 ((q : Nat) : Int))) ∧ lxs [.c (.hs .no tySpan a), .c (.int .i64 ((List.length a : Nat) : Int)), .c (.row 0 0)] (TN 14 (lxs [.tp []] True)))) ∧ (leB (.row tySpan (List.replicate (Int.toNat ((List.length a : Nat) : Int)) z_Span) 0 0 none) (.row tySpan (List.take q a ++ List.replicate (List.length a - q) z_Span) 0 0 none) ∧ True) ∧ true = true)) ∧ ∀ y0 : Nat, (y0 ≤ List.length a) → (T4 (bif (ltI ((y0 : Nat) : Int) ((List.length a : Nat) : Int)) then (T4 (((2 : Nat) = 2 ∧ (0 : Int) ≤ ((y0 : Nat) : Int) ∧ (((y0 : Nat) : Int) : Int) < ((List.length a : Nat) : Int)) ∧ (True ∧ ((True ∧ true = true) ∧ (((2 : Nat) = 2 ∧ (0 : Int) ≤ ((y0 : Nat) : Int) ∧ (((y0 : Nat) : Int) : Int) < ((List.length (List.take y0 a ++ List.replicate (List.length a - y0) z_Span) : Nat) : Int)) ∧ (True ∧ ∀ r1 : List GSpan, r1 = (List.set (List.take y0 a ++ List.replicate (List.length a - y0) z_Span) (Int.toNat ((y0 : Nat) : Int)) (nth_Span a (Int.toNat ((y0 : Nat) : Int)))) → (T3 (∃ y0' : Nat, (y0' ≤ List.length a) ∧ (List.length a - y0') < (List.length a - y0) ∧ ((lxs [.c (.hs .no tySpan a), .tp [], .c (.raw (.slice none 0 0)), .c (.row 0 0)] (leV (.c (.int .i64 (IntKind.wrap .i64 (((y0 : Nat) : Int) + 1)))) (.c (.int .i64 ((y0' : Nat) : Int))) ∧ lxs [.c (.hs .no tySpan a), .c (.int .i64 ((List.length a : Nat) : Int)), .c (.row 0 0)] (TN 14 (lxs [.tp []] True)))) ∧ (leB (.row tySpan r1 0 0 none) (.row tySpan (List.take y0' a ++ List.replicate (List.length a - y0') z_Span) 0 0 none) ∧ True) ∧ true = true))))))))) else (T2 (((List.take y0 a ++ List.replicate (List.length a - y0) z_Span) = a) ∧ true = true))))))))) (by kernel_rfl) ?_
  unfold T2 T3 T4
  have hp : bulk a ≤ 1048576 := hpre
  have hb : bulk a = a.length + bulkL a := rfl
  simp only [SIA, eq_self]
  refine ⟨⟨by omega, by unfold rowMax; omega⟩, ⟨0, Nat.zero_le _, rfl, Eq.mpr (leB_row (t := tySpan)) rfl⟩, fun k hk => ⟨fun hlt => ?_, fun hge => ?_⟩⟩
  · have hlt : k < a.length := by omega
    have hk := nth_getElem? (t := tySpan) hlt
    have hl : (List.take k a ++ List.replicate (List.length a - k) z_Span).length = a.length := by simp; omega
    have hbn : bulk (nth_Span a k) ≤ bulkL a := bulk_nth hk
    refine ⟨⟨by omega, by omega⟩, ⟨by omega, by rw [hl]; omega⟩, fun r1 hr => ⟨k + 1, hlt, by omega, wrapN (by unfold maxLen; omega), Eq.mpr (leB_row (t := tySpan)) ?_⟩⟩
    exact hr.trans (fill_set hk)
  · obtain rfl : k = a.length := by omega
    exact fill_end a _
def e_l_toSeenS : Entry Tryz.prog := ⟨51, [.v (.list tySpan)], fun x => toP_l_toSeenS x.1, fun x => .c (.row 0 0), fun x => [.row tySpan x.1 0 0 none], fun x hx => b_l_toSeenS x.1 hx, Tryz.call51⟩
abbrev toP_l_toView (a : GView) : Prop := bulk a ≤ 1048576
theorem b_l_toView (a : List GSpan) (hpre : toP_l_toView a) : BCalls Tryz.prog 25 [.ag [.hs .no tySpan a]] (.ag [.row 0 0]) [.row tySpan a 0 0 none] := by
  refine bc0 [e_l_toSeenS] [] [] [] L0 Tryz.func25 (fun hwf => ?_)
  refine Eq.mpr (β := (True ∧ (True ∧ (True ∧ (True ∧ (True ∧ ((toP_l_toSeenS a ∧ true = true) ∧ (True ∧ (True ∧ (True ∧ (True ∧ ((((a = a) ∧ True)) ∧ true = true)))))))))))) (by kernel_rfl) ?_
  have hp : bulk a ≤ 1048576 := hpre
  have hb : bulk a = bulk a := rfl
  simp only [SIA, eq_self]
  repeat' (first | apply And.intro | intro _)
  all_goals (first | trivial | omega)
def e_l_toView : Entry Tryz.prog := ⟨25, [.s (.list tySpan)], fun x => toP_l_toView x.1, fun x => .ag [.row 0 0], fun x => [.row tySpan x.1 0 0 none], fun x hx => b_l_toView x.1 hx, Tryz.call25⟩
theorem b_l_toNote (a : GNote) : BCalls Tryz.prog 77 [.ag (cellsOf tyNote a)] (.ag [.int .i64 a.1, .int .i64 a.2.1, .int .i64 a.2.2.1, .str a.2.2.2]) [] := by
  refine bc0 [] [] [] [] L0 Tryz.func77 (fun hwf => ?_)
  refine Eq.mpr (β := (True ∧ (True ∧ (True ∧ (True ∧ (True ∧ (True ∧ (True ∧ (True ∧ (True ∧ (True ∧ (True ∧ (True ∧ (True ∧ (True ∧ (True ∧ (True ∧ (True ∧ (True ∧ (True ∧ (True ∧ (True ∧ ((((true = true ∧ leC (.int .i64 a.1) (.int .i64 a.1)) ∧ (true = true ∧ leC (.int .i64 a.2.1) (.int .i64 a.2.1)) ∧ (true = true ∧ leC (.int .i64 a.2.2.1) (.int .i64 a.2.2.1)) ∧ (true = true ∧ leC (.str a.2.2.2) (.str a.2.2.2)) ∧ True)) ∧ true = true))))))))))))))))))))))) (by kernel_rfl) ?_
  simp only [SIA, eq_self]
  repeat' (first | apply And.intro | intro _)
  all_goals (first | trivial | omega)
def e_l_toNote : Entry Tryz.prog := ⟨77, [.s tyNote], fun x => True, fun x => .ag [.int .i64 x.1.1, .int .i64 x.1.2.1, .int .i64 x.1.2.2.1, .str x.1.2.2.2], fun _ => [], fun x hx => b_l_toNote x.1, Tryz.call77⟩
abbrev toP_l_toNoteS (a : List GNote) : Prop := bulk a ≤ 1048576
def L_l_toNoteS (a : List GNote) : Nat → List AV → Mem → LoopA
  | 3, tm, M => ⟨Nat, fun y => (anyR (setA tm [(4, .c (.int .i64 ((y : Nat) : Int)))]) 8 14, setM M [(0, .row tyNote (List.take y a ++ List.replicate (List.length a - y) z_Note) 0 0 none)]), fun y => (y ≤ List.length a), fun y => (List.length a - y)⟩
  | _, _, _ => ⟨Unit, fun _ => ([], []), fun _ => False, fun _ => 0⟩
theorem b_l_toNoteS (a : List GNote) (hpre : toP_l_toNoteS a) : BCalls Tryz.prog 53 [.c (.hs .no tyNote a)] (.c (.row 0 0)) [.row tyNote a 0 0 none] := by
  refine bc0 [e_l_toNote] [] [] [] (L_l_toNoteS a) Tryz.func53 (fun hwf => ?_)
  refine Eq.mpr (β := (T3 (((((List.length a : Nat) : Int) : Int) = ((List.length a : Nat) : Int) ∧ (0 : Int) ≤ ((List.length a : Nat) : Int) ∧ (((List.length a : Nat) : Int) : Int) ≤ ((rowMax : Nat) : Int)) ∧ (T2 ((∃ q : Nat, (q ≤ List.length a) ∧ ((lxs [.c (.hs .no tyNote a), .tp [], .c (.raw (.slice none 0 0)), .c (.row 0 0)] (leV (.c (.int .i64 0)) (.c (.int .i64 ((q : Nat) : Int))) ∧ lxs [.c (.hs .no tyNote a), .c (.int .i64 ((List.length a : Nat) : Int)), .c (.row 0 0)] (TN 14 (lxs [.tp []] True)))) ∧ (leB (.row tyNote (List.replicate (Int.toNat ((List.length a : Nat) : Int)) z_Note) 0 0 none) (.row tyNote (List.take q a ++ List.replicate (List.length a - q) z_Note) 0 0 none) ∧ True) ∧ true = true)) ∧ ∀ y0 : Nat, (y0 ≤ List.length a) → (T4 (bif (ltI ((y0 : Nat) : Int) ((List.length a : Nat) : Int)) then (T4 (((4 : Nat) = 4 ∧ (0 : Int) ≤ ((y0 : Nat) : Int) ∧ (((y0 : Nat) : Int) : Int) < ((List.length a : Nat) : Int)) ∧ (True ∧ ((True ∧ true = true) ∧ (((4 : Nat) = 4 ∧ (0 : Int) ≤ ((y0 : Nat) : Int) ∧ (((y0 : Nat) : Int) : Int) < ((List.length (List.take y0 a ++ List.replicate (List.length a - y0) z_Note) : Nat) : Int)) ∧ (True ∧ ∀ r1 : List GNote, r1 = (List.set (List.take y0 a ++ List.replicate (List.length a - y0) z_Note) (Int.toNat ((y0 : Nat) : Int)) (nth_Note a (Int.toNat ((y0 : Nat) : Int)))) → (T3 (∃ y0' : Nat, (y0' ≤ List.length a) ∧ (List.length a - y0') < (List.length a - y0) ∧ ((lxs [.c (.hs .no tyNote a), .tp [], .c (.raw (.slice none 0 0)), .c (.row 0 0)] (leV (.c (.int .i64 (IntKind.wrap .i64 (((y0 : Nat) : Int) + 1)))) (.c (.int .i64 ((y0' : Nat) : Int))) ∧ lxs [.c (.hs .no tyNote a), .c (.int .i64 ((List.length a : Nat) : Int)), .c (.row 0 0)] (TN 14 (lxs [.tp []] True)))) ∧ (leB (.row tyNote r1 0 0 none) (.row tyNote (List.take y0' a ++ List.replicate (List.length a - y0') z_Note) 0 0 none) ∧ True) ∧ true = true))))))))) else (T2 (((List.take y0 a ++ List.replicate (List.length a - y0) z_Note) = a) ∧ true = true))))))))) (by kernel_rfl) ?_
  unfold T2 T3 T4
  have hp : bulk a ≤ 1048576 := hpre
  have hb : bulk a = a.length + bulkL a := rfl
  simp only [SIA, eq_self]
  refine ⟨⟨by omega, by unfold rowMax; omega⟩, ⟨0, Nat.zero_le _, rfl, Eq.mpr (leB_row (t := tyNote)) rfl⟩, fun k hk => ⟨fun hlt => ?_, fun hge => ?_⟩⟩
  · have hlt : k < a.length := by omega
    have hk := nth_getElem? (t := tyNote) hlt
    have hl : (List.take k a ++ List.replicate (List.length a - k) z_Note).length = a.length := by simp; omega
    have hbn : bulk (nth_Note a k) ≤ bulkL a := bulk_nth hk
    refine ⟨⟨by omega, by omega⟩, ⟨by omega, by rw [hl]; omega⟩, fun r1 hr => ⟨k + 1, hlt, by omega, wrapN (by unfold maxLen; omega), Eq.mpr (leB_row (t := tyNote)) ?_⟩⟩
    exact hr.trans (fill_set hk)
  · obtain rfl : k = a.length := by omega
    exact fill_end a _
def e_l_toNoteS : Entry Tryz.prog := ⟨53, [.v (.list tyNote)], fun x => toP_l_toNoteS x.1, fun x => .c (.row 0 0), fun x => [.row tyNote x.1 0 0 none], fun x hx => b_l_toNoteS x.1 hx, Tryz.call53⟩
abbrev toP_l_toQueue (a : GQueue) : Prop := bulk a ≤ 1048576
theorem b_l_toQueue (a : GQueue) (hpre : toP_l_toQueue a) : BCalls Tryz.prog 27 [.ag [.hs .no tyNote a.1, .bool a.2.1, .bool a.2.2]] (.ag [.row 0 0, .bool a.2.1, .bool a.2.2]) [.row tyNote a.1 0 0 none] := by
  refine bc0 [e_l_toNoteS] [] [] [] L0 Tryz.func27 (fun hwf => ?_)
  refine Eq.mpr (β := (True ∧ (True ∧ (True ∧ (True ∧ (True ∧ ((toP_l_toNoteS a.1 ∧ true = true) ∧ (True ∧ (True ∧ (True ∧ (True ∧ (True ∧ (True ∧ (True ∧ (True ∧ (True ∧ (True ∧ (True ∧ (True ∧ ((((a.1 = a.1) ∧ (true = true ∧ leC (.bool a.2.1) (.bool a.2.1)) ∧ (true = true ∧ leC (.bool a.2.2) (.bool a.2.2)) ∧ True)) ∧ true = true)))))))))))))))))))) (by kernel_rfl) ?_
  have hp : bulk a ≤ 1048576 := hpre
  have hb : bulk a = bulk a.1 + (0 + (0)) := rfl
  simp only [SIA, eq_self]
  repeat' (first | apply And.intro | intro _)
  all_goals (first | trivial | omega)
def e_l_toQueue : Entry Tryz.prog := ⟨27, [.s tyQueue], fun x => toP_l_toQueue x.1, fun x => .ag [.row 0 0, .bool x.1.2.1, .bool x.1.2.2], fun x => [.row tyNote x.1.1 0 0 none], fun x hx => b_l_toQueue x.1 hx, Tryz.call27⟩
theorem b_l_toOut (a : GOut) : BCalls Tryz.prog 29 [.ag [.str a.1, .str a.2]] (.ag [.str a.1, .str a.2]) [] := by
  refine bc0 [] [] [] [] L0 Tryz.func29 (fun hwf => ?_)
  refine Eq.mpr (β := (True ∧ (True ∧ (True ∧ (True ∧ (True ∧ (True ∧ (True ∧ (True ∧ (True ∧ (True ∧ (True ∧ (True ∧ (True ∧ ((((true = true ∧ leC (.str a.1) (.str a.1)) ∧ (true = true ∧ leC (.str a.2) (.str a.2)) ∧ True)) ∧ true = true))))))))))))))) (by kernel_rfl) ?_
  simp only [SIA, eq_self]
  repeat' (first | apply And.intro | intro _)
  all_goals (first | trivial | omega)
def e_l_toOut : Entry Tryz.prog := ⟨29, [.s tyOut], fun x => True, fun x => .ag [.str x.1.1, .str x.1.2], fun _ => [], fun x hx => b_l_toOut x.1, Tryz.call29⟩
theorem b_l_toIn (a : GIn) : BCalls Tryz.prog 28 [.ag [.str a.1, .bool a.2]] (.ag [.str a.1, .bool a.2]) [] := by
  refine bc0 [] [] [] [] L0 Tryz.func28 (fun hwf => ?_)
  refine Eq.mpr (β := (True ∧ (True ∧ (True ∧ (True ∧ (True ∧ (True ∧ (True ∧ (True ∧ (True ∧ (True ∧ (True ∧ (True ∧ (True ∧ ((((true = true ∧ leC (.str a.1) (.str a.1)) ∧ (true = true ∧ leC (.bool a.2) (.bool a.2)) ∧ True)) ∧ true = true))))))))))))))) (by kernel_rfl) ?_
  simp only [SIA, eq_self]
  repeat' (first | apply And.intro | intro _)
  all_goals (first | trivial | omega)
def e_l_toIn : Entry Tryz.prog := ⟨28, [.s tyIn], fun x => True, fun x => .ag [.str x.1.1, .bool x.1.2], fun _ => [], fun x hx => b_l_toIn x.1, Tryz.call28⟩
abbrev toP_l_toSession (a : GSession) : Prop := bulk a ≤ 1048576
theorem b_l_toSession (a : GSession) (hpre : toP_l_toSession a) : BCalls Tryz.prog 8 [.ag (cellsOf tySession a)] (.ag [.bool a.1, .int .i64 a.2.1, .int .i64 a.2.2.1, .int .i64 a.2.2.2.1, .row 0 0, .bool a.2.2.2.2.2.1.1, .row 1 0, .str a.2.2.2.2.2.2.1, .str a.2.2.2.2.2.2.2.1, .row 2 0, .bool a.2.2.2.2.2.2.2.2.1.2.1, .bool a.2.2.2.2.2.2.2.2.1.2.2, .str a.2.2.2.2.2.2.2.2.2.1.1, .bool a.2.2.2.2.2.2.2.2.2.1.2, .str a.2.2.2.2.2.2.2.2.2.2.1.1, .str a.2.2.2.2.2.2.2.2.2.2.1.2, .int .i64 a.2.2.2.2.2.2.2.2.2.2.2]) [.row tySpan a.2.2.2.2.1 0 0 none, .row tyScope a.2.2.2.2.2.1.2 0 0 none, .row tyNote a.2.2.2.2.2.2.2.2.1.1 0 0 none] := by
  refine bc0 [e_l_toView, e_l_toFilter, e_l_toQueue, e_l_toIn, e_l_toOut] [] [] [] L0 Tryz.func8 (fun hwf => ?_)
  refine Eq.mpr (β := (T12 (T9 ((toP_l_toView a.2.2.2.2.1 ∧ true = true) ∧ (T4 ((toP_l_toFilter a.2.2.2.2.2.1 ∧ true = true) ∧ (T12 ((toP_l_toQueue a.2.2.2.2.2.2.2.2.1 ∧ true = true) ∧ (T4 ((True ∧ true = true) ∧ (T4 ((True ∧ true = true) ∧ (T8 ((((true = true ∧ leC (.bool a.1) (.bool a.1)) ∧ (true = true ∧ leC (.int .i64 a.2.1) (.int .i64 a.2.1)) ∧ (true = true ∧ leC (.int .i64 a.2.2.1) (.int .i64 a.2.2.1)) ∧ (true = true ∧ leC (.int .i64 a.2.2.2.1) (.int .i64 a.2.2.2.1)) ∧ (a.2.2.2.2.1 = a.2.2.2.2.1) ∧ (true = true ∧ leC (.bool a.2.2.2.2.2.1.1) (.bool a.2.2.2.2.2.1.1)) ∧ (a.2.2.2.2.2.1.2 = a.2.2.2.2.2.1.2) ∧ (true = true ∧ leC (.str a.2.2.2.2.2.2.1) (.str a.2.2.2.2.2.2.1)) ∧ (true = true ∧ leC (.str a.2.2.2.2.2.2.2.1) (.str a.2.2.2.2.2.2.2.1)) ∧ (a.2.2.2.2.2.2.2.2.1.1 = a.2.2.2.2.2.2.2.2.1.1) ∧ (true = true ∧ leC (.bool a.2.2.2.2.2.2.2.2.1.2.1) (.bool a.2.2.2.2.2.2.2.2.1.2.1)) ∧ (true = true ∧ leC (.bool a.2.2.2.2.2.2.2.2.1.2.2) (.bool a.2.2.2.2.2.2.2.2.1.2.2)) ∧ (true = true ∧ leC (.str a.2.2.2.2.2.2.2.2.2.1.1) (.str a.2.2.2.2.2.2.2.2.2.1.1)) ∧ (true = true ∧ leC (.bool a.2.2.2.2.2.2.2.2.2.1.2) (.bool a.2.2.2.2.2.2.2.2.2.1.2)) ∧ (true = true ∧ leC (.str a.2.2.2.2.2.2.2.2.2.2.1.1) (.str a.2.2.2.2.2.2.2.2.2.2.1.1)) ∧ (true = true ∧ leC (.str a.2.2.2.2.2.2.2.2.2.2.1.2) (.str a.2.2.2.2.2.2.2.2.2.2.1.2)) ∧ (true = true ∧ leC (.int .i64 a.2.2.2.2.2.2.2.2.2.2.2) (.int .i64 a.2.2.2.2.2.2.2.2.2.2.2)) ∧ True)) ∧ true = true)))))))))))))) (by kernel_rfl) ?_
  unfold T12 T4 T8 T9
  have hp : bulk a ≤ 1048576 := hpre
  have hb : bulk a = 0 + (0 + (0 + (0 + (bulk a.2.2.2.2.1 + (bulk a.2.2.2.2.2.1 + (ByteArray.size a.2.2.2.2.2.2.1 + (ByteArray.size a.2.2.2.2.2.2.2.1 + (bulk a.2.2.2.2.2.2.2.2.1 + (bulk a.2.2.2.2.2.2.2.2.2.1 + (bulk a.2.2.2.2.2.2.2.2.2.2.1 + (0))))))))))) := rfl
  simp only [SIA, eq_self]
  repeat' (first | apply And.intro | intro _)
  all_goals (first | trivial | omega)
def e_l_toSession : Entry Tryz.prog := ⟨8, [.s tySession], fun x => toP_l_toSession x.1, fun x => .ag [.bool x.1.1, .int .i64 x.1.2.1, .int .i64 x.1.2.2.1, .int .i64 x.1.2.2.2.1, .row 0 0, .bool x.1.2.2.2.2.2.1.1, .row 1 0, .str x.1.2.2.2.2.2.2.1, .str x.1.2.2.2.2.2.2.2.1, .row 2 0, .bool x.1.2.2.2.2.2.2.2.2.1.2.1, .bool x.1.2.2.2.2.2.2.2.2.1.2.2, .str x.1.2.2.2.2.2.2.2.2.2.1.1, .bool x.1.2.2.2.2.2.2.2.2.2.1.2, .str x.1.2.2.2.2.2.2.2.2.2.2.1.1, .str x.1.2.2.2.2.2.2.2.2.2.2.1.2, .int .i64 x.1.2.2.2.2.2.2.2.2.2.2.2], fun x => [.row tySpan x.1.2.2.2.2.1 0 0 none, .row tyScope x.1.2.2.2.2.2.1.2 0 0 none, .row tyNote x.1.2.2.2.2.2.2.2.2.1.1 0 0 none], fun x hx => b_l_toSession x.1 hx, Tryz.call8⟩
end Go.Proofs.YtdfanfpembebmaaGreatDoor
