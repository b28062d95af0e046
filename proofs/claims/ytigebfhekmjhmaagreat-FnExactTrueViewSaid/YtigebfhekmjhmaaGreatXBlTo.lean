/-
  The laws' functions toX.
  No condition but what the arguments' cells hold. Printed by vcgen.py.
-/
import Derived.Test.YtigebfhekmjhmaaGreatXLawA
set_option linter.unusedSimpArgs false
set_option linter.unusedVariables false
namespace Go.Proofs.YtigebfhekmjhmaaGreat
open Go.ChangeShapes Go.WideShapes Go.ChangeAt Go.RowKit Go.Joins Go.Deep
open GoRep (rep bulk)

abbrev toP_l_toStringS (a : List ByteArray) : Prop := bulk a ≤ 1048576
def L_l_toStringS (a : List ByteArray) : Nat → List AV → Mem → LoopA
  | 3, tm, M => ⟨Nat, fun y => (setA tm [(4, .c (.int .i64 ((y : Nat) : Int))), (8, .any), (9, .any), (10, .any), (11, .any), (12, .any), (13, .any), (14, .any), (15, .any), (16, .any), (17, .any), (18, .any), (19, .any), (20, .any)], setM M [(0, .row tyStr (List.take y a ++ List.replicate (List.length a - y) (⟨#[]⟩ : ByteArray)) 0 0 none)]), fun y => (y ≤ List.length a), fun y => (List.length a - y)⟩
  | _, _, _ => ⟨Unit, fun _ => ([], []), fun _ => False, fun _ => 0⟩
set_option maxRecDepth 100000 in
set_option maxHeartbeats 400000 in
theorem b_l_toStringS (a : List ByteArray) (hpre : toP_l_toStringS a) : BCalls Tryz.prog 252 [.c (.hs .no tyStr a)] (.c (.row 0 0)) [.row tyStr a 0 0 none] := by
  refine bcalls_of (T := ⟨[], [], [], [], none, fun _ => [], 0, [], []⟩) (L := (L_l_toStringS a)) Tryz.func252 ⟨⟨rfl, rfl⟩, rfl⟩ (fun hwf => ?_)
  refine Eq.mpr (β := (T3 (((((List.length a : Nat) : Int) : Int) = ((List.length a : Nat) : Int) ∧ (0 : Int) ≤ ((List.length a : Nat) : Int) ∧ (((List.length a : Nat) : Int) : Int) ≤ ((rowMax : Nat) : Int)) ∧ (T2 ((∃ q : Nat, (q ≤ List.length a) ∧ ((leV (.c (.hs .no tyStr a)) (.c (.hs .no tyStr a)) ∧ leV (.tp []) (.tp []) ∧ leV (.c (.raw (.slice none 0 0))) (.c (.raw (.slice none 0 0))) ∧ leV (.c (.row 0 0)) (.c (.row 0 0)) ∧ leV (.c (.int .i64 0)) (.c (.int .i64 ((q : Nat) : Int))) ∧ leV (.c (.hs .no tyStr a)) (.c (.hs .no tyStr a)) ∧ leV (.c (.int .i64 ((List.length a : Nat) : Int))) (.c (.int .i64 ((List.length a : Nat) : Int))) ∧ leV (.c (.row 0 0)) (.c (.row 0 0)) ∧ True ∧ True ∧ True ∧ True ∧ True ∧ True ∧ True ∧ True ∧ True ∧ True ∧ True ∧ True ∧ True ∧ leV (.tp []) (.tp []) ∧ True) ∧ (leB (.row tyStr (List.replicate (Int.toNat ((List.length a : Nat) : Int)) (⟨#[]⟩ : ByteArray)) 0 0 none) (.row tyStr (List.take q a ++ List.replicate (List.length a - q) (⟨#[]⟩ : ByteArray)) 0 0 none) ∧ True) ∧ true = true)) ∧ ∀ y0 : Nat, (y0 ≤ List.length a) → (T4 (bif (ltI ((y0 : Nat) : Int) ((List.length a : Nat) : Int)) then (T4 (((1 : Nat) = 1 ∧ (0 : Int) ≤ ((y0 : Nat) : Int) ∧ (((y0 : Nat) : Int) : Int) < ((List.length a : Nat) : Int)) ∧ (True ∧ (((1 : Nat) = 1 ∧ (0 : Int) ≤ ((y0 : Nat) : Int) ∧ (((y0 : Nat) : Int) : Int) < ((List.length (List.take y0 a ++ List.replicate (List.length a - y0) (⟨#[]⟩ : ByteArray)) : Nat) : Int)) ∧ (True ∧ ∀ r1 : List ByteArray, r1 = (List.set (List.take y0 a ++ List.replicate (List.length a - y0) (⟨#[]⟩ : ByteArray)) (Int.toNat ((y0 : Nat) : Int)) (nth_String a (Int.toNat ((y0 : Nat) : Int)))) → (T3 (∃ y0' : Nat, (y0' ≤ List.length a) ∧ (List.length a - y0') < (List.length a - y0) ∧ ((leV (.c (.hs .no tyStr a)) (.c (.hs .no tyStr a)) ∧ leV (.tp []) (.tp []) ∧ leV (.c (.raw (.slice none 0 0))) (.c (.raw (.slice none 0 0))) ∧ leV (.c (.row 0 0)) (.c (.row 0 0)) ∧ leV (.c (.int .i64 (IntKind.wrap .i64 (((y0 : Nat) : Int) + 1)))) (.c (.int .i64 ((y0' : Nat) : Int))) ∧ leV (.c (.hs .no tyStr a)) (.c (.hs .no tyStr a)) ∧ leV (.c (.int .i64 ((List.length a : Nat) : Int))) (.c (.int .i64 ((List.length a : Nat) : Int))) ∧ leV (.c (.row 0 0)) (.c (.row 0 0)) ∧ True ∧ True ∧ True ∧ True ∧ True ∧ True ∧ True ∧ True ∧ True ∧ True ∧ True ∧ True ∧ True ∧ leV (.tp []) (.tp []) ∧ True) ∧ (leB (.row tyStr r1 0 0 none) (.row tyStr (List.take y0' a ++ List.replicate (List.length a - y0') (⟨#[]⟩ : ByteArray)) 0 0 none) ∧ True) ∧ true = true)))))))) else (T2 (((List.take y0 a ++ List.replicate (List.length a - y0) (⟨#[]⟩ : ByteArray)) = a) ∧ true = true))))))))) (by kernel_rfl) ?_
  unfold T2 T3 T4
  have hp : bulk a ≤ 1048576 := hpre
  have hb : bulk a = a.length + bulkL a := rfl
  simp only [SIA, eq_self]
  refine ⟨⟨by omega, by unfold rowMax; omega⟩, ⟨0, Nat.zero_le _, rfl, Eq.mpr (leB_row (t := tyStr)) rfl⟩, fun k hk => ⟨fun hlt => ?_, fun hge => ?_⟩⟩
  · have hlt : k < a.length := by omega
    have hk := nth_getElem? (t := tyStr) hlt
    have hl : (List.take k a ++ List.replicate (List.length a - k) (⟨#[]⟩ : ByteArray)).length = a.length := by simp; omega
    have hbn : bulk (nth_String a k) ≤ bulkL a := bulk_nth hk
    refine ⟨⟨by omega, by omega⟩, ⟨by omega, by rw [hl]; omega⟩, fun r1 hr => ⟨k + 1, hlt, by omega, wrapN (by unfold maxLen; omega), Eq.mpr (leB_row (t := tyStr)) ?_⟩⟩
    exact hr.trans (fill_set hk)
  · obtain rfl : k = a.length := by omega
    exact fill_end a _
def e_l_toStringS : Entry Tryz.prog := ⟨252, [.v (.list tyStr)], fun x => toP_l_toStringS x.1, fun x => .c (.row 0 0), fun x => [.row tyStr x.1 0 0 none], fun x hx => b_l_toStringS x.1 hx, Tryz.call252⟩
abbrev toP_l_toScope (a : GScope) : Prop := bulk a ≤ 1048576
set_option maxRecDepth 100000 in
set_option maxHeartbeats 4000000 in
theorem b_l_toScope (a : GScope) (hpre : toP_l_toScope a) : BCalls Tryz.prog 198 [.ag [.int .i64 a.1, .hs .no tyStr a.2.1, .int .i64 a.2.2]] (.ag [.int .i64 a.1, .row 0 0, .int .i64 a.2.2]) [.row tyStr a.2.1 0 0 none] := by
  refine bcalls_of (T := ⟨[e_l_toStringS], [], [], [], none, fun _ => [], 0, [], []⟩) (L := L0) Tryz.func198 ⟨⟨rfl, rfl⟩, rfl⟩ (fun hwf => ?_)
  refine Eq.mpr (β := (True ∧ (True ∧ (True ∧ (True ∧ (True ∧ (True ∧ (True ∧ (True ∧ (True ∧ ((toP_l_toStringS a.2.1 ∧ true = true) ∧ (True ∧ (True ∧ (True ∧ (True ∧ (True ∧ (True ∧ (True ∧ (True ∧ ((((true = true ∧ leC (.int .i64 a.1) (.int .i64 a.1)) ∧ (a.2.1 = a.2.1) ∧ (true = true ∧ leC (.int .i64 a.2.2) (.int .i64 a.2.2)) ∧ True)) ∧ true = true)))))))))))))))))))) (by kernel_rfl) ?_
  have hp : bulk a ≤ 1048576 := hpre
  have hb : bulk a = 0 + (bulk a.2.1 + (0)) := rfl
  simp only [SIA, eq_self]
  repeat' (first | apply And.intro | intro _)
  all_goals (first | trivial | omega)
def e_l_toScope : Entry Tryz.prog := ⟨198, [.s tyScope], fun x => toP_l_toScope x.1, fun x => .ag [.int .i64 x.1.1, .row 0 0, .int .i64 x.1.2.2], fun x => [.row tyStr x.1.2.1 0 0 none], fun x hx => b_l_toScope x.1 hx, Tryz.call198⟩
abbrev toP_l_toScopeS (a : List GScope) : Prop := bulk a ≤ 1048576
def L_l_toScopeS (a : List GScope) : Nat → List AV → Mem → LoopA
  | 3, tm, M => ⟨Nat, fun y => (setA tm [(4, .c (.int .i64 ((y : Nat) : Int))), (8, .any), (9, .any), (10, .any), (11, .any), (12, .any), (13, .any), (14, .any), (15, .any), (16, .any), (17, .any), (18, .any), (19, .any), (20, .any), (21, .any)], setM M [(0, .row tyScope (List.take y a ++ List.replicate (List.length a - y) z_Scope) 0 0 none)]), fun y => (y ≤ List.length a), fun y => (List.length a - y)⟩
  | _, _, _ => ⟨Unit, fun _ => ([], []), fun _ => False, fun _ => 0⟩
set_option maxRecDepth 100000 in
set_option maxHeartbeats 400000 in
theorem b_l_toScopeS (a : List GScope) (hpre : toP_l_toScopeS a) : BCalls Tryz.prog 134 [.c (.hs .no tyScope a)] (.c (.row 0 0)) [.row tyScope a 0 0 none] := by
  refine bcalls_of (T := ⟨[e_l_toScope], [], [], [], none, fun _ => [], 0, [], []⟩) (L := (L_l_toScopeS a)) Tryz.func134 ⟨⟨rfl, rfl⟩, rfl⟩ (fun hwf => ?_)
  refine Eq.mpr (β := (T3 (((((List.length a : Nat) : Int) : Int) = ((List.length a : Nat) : Int) ∧ (0 : Int) ≤ ((List.length a : Nat) : Int) ∧ (((List.length a : Nat) : Int) : Int) ≤ ((rowMax : Nat) : Int)) ∧ (T2 ((∃ q : Nat, (q ≤ List.length a) ∧ ((leV (.c (.hs .no tyScope a)) (.c (.hs .no tyScope a)) ∧ leV (.tp []) (.tp []) ∧ leV (.c (.raw (.slice none 0 0))) (.c (.raw (.slice none 0 0))) ∧ leV (.c (.row 0 0)) (.c (.row 0 0)) ∧ leV (.c (.int .i64 0)) (.c (.int .i64 ((q : Nat) : Int))) ∧ leV (.c (.hs .no tyScope a)) (.c (.hs .no tyScope a)) ∧ leV (.c (.int .i64 ((List.length a : Nat) : Int))) (.c (.int .i64 ((List.length a : Nat) : Int))) ∧ leV (.c (.row 0 0)) (.c (.row 0 0)) ∧ True ∧ True ∧ True ∧ True ∧ True ∧ True ∧ True ∧ True ∧ True ∧ True ∧ True ∧ True ∧ True ∧ True ∧ leV (.tp []) (.tp []) ∧ True) ∧ (leB (.row tyScope (List.replicate (Int.toNat ((List.length a : Nat) : Int)) z_Scope) 0 0 none) (.row tyScope (List.take q a ++ List.replicate (List.length a - q) z_Scope) 0 0 none) ∧ True) ∧ true = true)) ∧ ∀ y0 : Nat, (y0 ≤ List.length a) → (T4 (bif (ltI ((y0 : Nat) : Int) ((List.length a : Nat) : Int)) then (T4 (((3 : Nat) = 3 ∧ (0 : Int) ≤ ((y0 : Nat) : Int) ∧ (((y0 : Nat) : Int) : Int) < ((List.length a : Nat) : Int)) ∧ (True ∧ ((toP_l_toScope (nth_Scope a (Int.toNat ((y0 : Nat) : Int))) ∧ true = true) ∧ (((3 : Nat) = 3 ∧ (0 : Int) ≤ ((y0 : Nat) : Int) ∧ (((y0 : Nat) : Int) : Int) < ((List.length (List.take y0 a ++ List.replicate (List.length a - y0) z_Scope) : Nat) : Int)) ∧ (True ∧ ∀ r1 : List GScope, r1 = (List.set (List.take y0 a ++ List.replicate (List.length a - y0) z_Scope) (Int.toNat ((y0 : Nat) : Int)) (nth_Scope a (Int.toNat ((y0 : Nat) : Int)))) → (T3 (∃ y0' : Nat, (y0' ≤ List.length a) ∧ (List.length a - y0') < (List.length a - y0) ∧ ((leV (.c (.hs .no tyScope a)) (.c (.hs .no tyScope a)) ∧ leV (.tp []) (.tp []) ∧ leV (.c (.raw (.slice none 0 0))) (.c (.raw (.slice none 0 0))) ∧ leV (.c (.row 0 0)) (.c (.row 0 0)) ∧ leV (.c (.int .i64 (IntKind.wrap .i64 (((y0 : Nat) : Int) + 1)))) (.c (.int .i64 ((y0' : Nat) : Int))) ∧ leV (.c (.hs .no tyScope a)) (.c (.hs .no tyScope a)) ∧ leV (.c (.int .i64 ((List.length a : Nat) : Int))) (.c (.int .i64 ((List.length a : Nat) : Int))) ∧ leV (.c (.row 0 0)) (.c (.row 0 0)) ∧ True ∧ True ∧ True ∧ True ∧ True ∧ True ∧ True ∧ True ∧ True ∧ True ∧ True ∧ True ∧ True ∧ True ∧ leV (.tp []) (.tp []) ∧ True) ∧ (leB (.row tyScope r1 0 0 none) (.row tyScope (List.take y0' a ++ List.replicate (List.length a - y0') z_Scope) 0 0 none) ∧ True) ∧ true = true))))))))) else (T2 (((List.take y0 a ++ List.replicate (List.length a - y0) z_Scope) = a) ∧ true = true))))))))) (by kernel_rfl) ?_
  unfold T2 T3 T4
  have hp : bulk a ≤ 1048576 := hpre
  have hb : bulk a = a.length + bulkL a := rfl
  simp only [SIA, eq_self]
  refine ⟨⟨by omega, by unfold rowMax; omega⟩, ⟨0, Nat.zero_le _, rfl, Eq.mpr (leB_row (t := tyScope)) rfl⟩, fun k hk => ⟨fun hlt => ?_, fun hge => ?_⟩⟩
  · have hlt : k < a.length := by omega
    have hk := nth_getElem? (t := tyScope) hlt
    have hl : (List.take k a ++ List.replicate (List.length a - k) z_Scope).length = a.length := by simp; omega
    have hbn : bulk (nth_Scope a k) ≤ bulkL a := bulk_nth hk
    refine ⟨⟨by omega, by omega⟩, by show bulk _ ≤ _; omega, ⟨by omega, by rw [hl]; omega⟩, fun r1 hr => ⟨k + 1, hlt, by omega, wrapN (by unfold maxLen; omega), Eq.mpr (leB_row (t := tyScope)) ?_⟩⟩
    exact hr.trans (fill_set hk)
  · obtain rfl : k = a.length := by omega
    exact fill_end a _
def e_l_toScopeS : Entry Tryz.prog := ⟨134, [.v (.list tyScope)], fun x => toP_l_toScopeS x.1, fun x => .c (.row 0 0), fun x => [.row tyScope x.1 0 0 none], fun x hx => b_l_toScopeS x.1 hx, Tryz.call134⟩
abbrev toP_l_toFilter (a : GFilter) : Prop := bulk a ≤ 1048576
set_option maxRecDepth 100000 in
set_option maxHeartbeats 4000000 in
theorem b_l_toFilter (a : GFilter) (hpre : toP_l_toFilter a) : BCalls Tryz.prog 66 [.ag [.bool a.1, .hs .no tyScope a.2]] (.ag [.bool a.1, .row 0 0]) [.row tyScope a.2 0 0 none] := by
  refine bcalls_of (T := ⟨[e_l_toScopeS], [], [], [], none, fun _ => [], 0, [], []⟩) (L := L0) Tryz.func66 ⟨⟨rfl, rfl⟩, rfl⟩ (fun hwf => ?_)
  refine Eq.mpr (β := (True ∧ (True ∧ (True ∧ (True ∧ (True ∧ (True ∧ (True ∧ (True ∧ (True ∧ ((toP_l_toScopeS a.2 ∧ true = true) ∧ (True ∧ (True ∧ (True ∧ (True ∧ ((((true = true ∧ leC (.bool a.1) (.bool a.1)) ∧ (a.2 = a.2) ∧ True)) ∧ true = true)))))))))))))))) (by kernel_rfl) ?_
  have hp : bulk a ≤ 1048576 := hpre
  have hb : bulk a = 0 + (bulk a.2) := rfl
  simp only [SIA, eq_self]
  repeat' (first | apply And.intro | intro _)
  all_goals (first | trivial | omega)
def e_l_toFilter : Entry Tryz.prog := ⟨66, [.s tyFilter], fun x => toP_l_toFilter x.1, fun x => .ag [.bool x.1.1, .row 0 0], fun x => [.row tyScope x.1.2 0 0 none], fun x hx => b_l_toFilter x.1 hx, Tryz.call66⟩
set_option maxRecDepth 100000 in
set_option maxHeartbeats 400000 in
theorem b_l_toMsg (a : GMsg) : BCalls Tryz.prog 249 [.ag [.int .i64 a.1, .int .i64 a.2.1, .str a.2.2]] (.ag [.int .i64 a.1, .int .i64 a.2.1, .str a.2.2]) [] := by
  refine bcalls_of (T := ⟨[], [], [], [], none, fun _ => [], 0, [], []⟩) (L := L0) Tryz.func249 ⟨⟨rfl, rfl⟩, rfl⟩ (fun hwf => ?_)
  refine Eq.mpr (β := (True ∧ (True ∧ (True ∧ (True ∧ (True ∧ (True ∧ (True ∧ (True ∧ (True ∧ (True ∧ (True ∧ (True ∧ (True ∧ (True ∧ (True ∧ (True ∧ (True ∧ ((((true = true ∧ leC (.int .i64 a.1) (.int .i64 a.1)) ∧ (true = true ∧ leC (.int .i64 a.2.1) (.int .i64 a.2.1)) ∧ (true = true ∧ leC (.str a.2.2) (.str a.2.2)) ∧ True)) ∧ true = true))))))))))))))))))) (by kernel_rfl) ?_
  simp only [SIA, eq_self]
  repeat' (first | apply And.intro | intro _)
  all_goals (first | trivial | omega)
def e_l_toMsg : Entry Tryz.prog := ⟨249, [.s tyMsg], fun x => True, fun x => .ag [.int .i64 x.1.1, .int .i64 x.1.2.1, .str x.1.2.2], fun _ => [], fun x hx => b_l_toMsg x.1, Tryz.call249⟩
abbrev toP_l_toMsgS (a : List GMsg) : Prop := bulk a ≤ 1048576
def L_l_toMsgS (a : List GMsg) : Nat → List AV → Mem → LoopA
  | 3, tm, M => ⟨Nat, fun y => (setA tm [(4, .c (.int .i64 ((y : Nat) : Int))), (8, .any), (9, .any), (10, .any), (11, .any), (12, .any), (13, .any), (14, .any), (15, .any), (16, .any), (17, .any), (18, .any), (19, .any), (20, .any), (21, .any)], setM M [(0, .row tyMsg (List.take y a ++ List.replicate (List.length a - y) z_Msg) 0 0 none)]), fun y => (y ≤ List.length a), fun y => (List.length a - y)⟩
  | _, _, _ => ⟨Unit, fun _ => ([], []), fun _ => False, fun _ => 0⟩
set_option maxRecDepth 100000 in
set_option maxHeartbeats 400000 in
theorem b_l_toMsgS (a : List GMsg) (hpre : toP_l_toMsgS a) : BCalls Tryz.prog 193 [.c (.hs .no tyMsg a)] (.c (.row 0 0)) [.row tyMsg a 0 0 none] := by
  refine bcalls_of (T := ⟨[e_l_toMsg], [], [], [], none, fun _ => [], 0, [], []⟩) (L := (L_l_toMsgS a)) Tryz.func193 ⟨⟨rfl, rfl⟩, rfl⟩ (fun hwf => ?_)
  refine Eq.mpr (β := (T3 (((((List.length a : Nat) : Int) : Int) = ((List.length a : Nat) : Int) ∧ (0 : Int) ≤ ((List.length a : Nat) : Int) ∧ (((List.length a : Nat) : Int) : Int) ≤ ((rowMax : Nat) : Int)) ∧ (T2 ((∃ q : Nat, (q ≤ List.length a) ∧ ((leV (.c (.hs .no tyMsg a)) (.c (.hs .no tyMsg a)) ∧ leV (.tp []) (.tp []) ∧ leV (.c (.raw (.slice none 0 0))) (.c (.raw (.slice none 0 0))) ∧ leV (.c (.row 0 0)) (.c (.row 0 0)) ∧ leV (.c (.int .i64 0)) (.c (.int .i64 ((q : Nat) : Int))) ∧ leV (.c (.hs .no tyMsg a)) (.c (.hs .no tyMsg a)) ∧ leV (.c (.int .i64 ((List.length a : Nat) : Int))) (.c (.int .i64 ((List.length a : Nat) : Int))) ∧ leV (.c (.row 0 0)) (.c (.row 0 0)) ∧ True ∧ True ∧ True ∧ True ∧ True ∧ True ∧ True ∧ True ∧ True ∧ True ∧ True ∧ True ∧ True ∧ True ∧ leV (.tp []) (.tp []) ∧ True) ∧ (leB (.row tyMsg (List.replicate (Int.toNat ((List.length a : Nat) : Int)) z_Msg) 0 0 none) (.row tyMsg (List.take q a ++ List.replicate (List.length a - q) z_Msg) 0 0 none) ∧ True) ∧ true = true)) ∧ ∀ y0 : Nat, (y0 ≤ List.length a) → (T4 (bif (ltI ((y0 : Nat) : Int) ((List.length a : Nat) : Int)) then (T4 (((3 : Nat) = 3 ∧ (0 : Int) ≤ ((y0 : Nat) : Int) ∧ (((y0 : Nat) : Int) : Int) < ((List.length a : Nat) : Int)) ∧ (True ∧ ((True ∧ true = true) ∧ (((3 : Nat) = 3 ∧ (0 : Int) ≤ ((y0 : Nat) : Int) ∧ (((y0 : Nat) : Int) : Int) < ((List.length (List.take y0 a ++ List.replicate (List.length a - y0) z_Msg) : Nat) : Int)) ∧ (True ∧ ∀ r1 : List GMsg, r1 = (List.set (List.take y0 a ++ List.replicate (List.length a - y0) z_Msg) (Int.toNat ((y0 : Nat) : Int)) (nth_Msg a (Int.toNat ((y0 : Nat) : Int)))) → (T3 (∃ y0' : Nat, (y0' ≤ List.length a) ∧ (List.length a - y0') < (List.length a - y0) ∧ ((leV (.c (.hs .no tyMsg a)) (.c (.hs .no tyMsg a)) ∧ leV (.tp []) (.tp []) ∧ leV (.c (.raw (.slice none 0 0))) (.c (.raw (.slice none 0 0))) ∧ leV (.c (.row 0 0)) (.c (.row 0 0)) ∧ leV (.c (.int .i64 (IntKind.wrap .i64 (((y0 : Nat) : Int) + 1)))) (.c (.int .i64 ((y0' : Nat) : Int))) ∧ leV (.c (.hs .no tyMsg a)) (.c (.hs .no tyMsg a)) ∧ leV (.c (.int .i64 ((List.length a : Nat) : Int))) (.c (.int .i64 ((List.length a : Nat) : Int))) ∧ leV (.c (.row 0 0)) (.c (.row 0 0)) ∧ True ∧ True ∧ True ∧ True ∧ True ∧ True ∧ True ∧ True ∧ True ∧ True ∧ True ∧ True ∧ True ∧ True ∧ leV (.tp []) (.tp []) ∧ True) ∧ (leB (.row tyMsg r1 0 0 none) (.row tyMsg (List.take y0' a ++ List.replicate (List.length a - y0') z_Msg) 0 0 none) ∧ True) ∧ true = true))))))))) else (T2 (((List.take y0 a ++ List.replicate (List.length a - y0) z_Msg) = a) ∧ true = true))))))))) (by kernel_rfl) ?_
  unfold T2 T3 T4
  have hp : bulk a ≤ 1048576 := hpre
  have hb : bulk a = a.length + bulkL a := rfl
  simp only [SIA, eq_self]
  refine ⟨⟨by omega, by unfold rowMax; omega⟩, ⟨0, Nat.zero_le _, rfl, Eq.mpr (leB_row (t := tyMsg)) rfl⟩, fun k hk => ⟨fun hlt => ?_, fun hge => ?_⟩⟩
  · have hlt : k < a.length := by omega
    have hk := nth_getElem? (t := tyMsg) hlt
    have hl : (List.take k a ++ List.replicate (List.length a - k) z_Msg).length = a.length := by simp; omega
    have hbn : bulk (nth_Msg a k) ≤ bulkL a := bulk_nth hk
    refine ⟨⟨by omega, by omega⟩, ⟨by omega, by rw [hl]; omega⟩, fun r1 hr => ⟨k + 1, hlt, by omega, wrapN (by unfold maxLen; omega), Eq.mpr (leB_row (t := tyMsg)) ?_⟩⟩
    exact hr.trans (fill_set hk)
  · obtain rfl : k = a.length := by omega
    exact fill_end a _
def e_l_toMsgS : Entry Tryz.prog := ⟨193, [.v (.list tyMsg)], fun x => toP_l_toMsgS x.1, fun x => .c (.row 0 0), fun x => [.row tyMsg x.1 0 0 none], fun x hx => b_l_toMsgS x.1 hx, Tryz.call193⟩
abbrev toP_l_toBox (a : GBox) : Prop := bulk a ≤ 1048576
set_option maxRecDepth 100000 in
set_option maxHeartbeats 4000000 in
theorem b_l_toBox (a : GBox) (hpre : toP_l_toBox a) : BCalls Tryz.prog 125 [.ag (cellsOf tyBox a)] (.ag [.str a.1, .int .i64 a.2.1, .int .i64 a.2.2.1, .row 0 0]) [.row tyMsg a.2.2.2 0 0 none] := by
  refine bcalls_of (T := ⟨[e_l_toMsgS], [], [], [], none, fun _ => [], 0, [], []⟩) (L := L0) Tryz.func125 ⟨⟨rfl, rfl⟩, rfl⟩ (fun hwf => ?_)
  refine Eq.mpr (β := (True ∧ (True ∧ (True ∧ (True ∧ (True ∧ (True ∧ (True ∧ (True ∧ (True ∧ (True ∧ (True ∧ (True ∧ (True ∧ (True ∧ (True ∧ (True ∧ (True ∧ ((toP_l_toMsgS a.2.2.2 ∧ true = true) ∧ (True ∧ (True ∧ (True ∧ (True ∧ ((((true = true ∧ leC (.str a.1) (.str a.1)) ∧ (true = true ∧ leC (.int .i64 a.2.1) (.int .i64 a.2.1)) ∧ (true = true ∧ leC (.int .i64 a.2.2.1) (.int .i64 a.2.2.1)) ∧ (a.2.2.2 = a.2.2.2) ∧ True)) ∧ true = true)))))))))))))))))))))))) (by kernel_rfl) ?_
  have hp : bulk a ≤ 1048576 := hpre
  have hb : bulk a = ByteArray.size a.1 + (0 + (0 + (bulk a.2.2.2))) := rfl
  simp only [SIA, eq_self]
  repeat' (first | apply And.intro | intro _)
  all_goals (first | trivial | omega)
def e_l_toBox : Entry Tryz.prog := ⟨125, [.s tyBox], fun x => toP_l_toBox x.1, fun x => .ag [.str x.1.1, .int .i64 x.1.2.1, .int .i64 x.1.2.2.1, .row 0 0], fun x => [.row tyMsg x.1.2.2.2 0 0 none], fun x hx => b_l_toBox x.1 hx, Tryz.call125⟩
abbrev toP_l_toBoxS (a : List GBox) : Prop := bulk a ≤ 1048576
def L_l_toBoxS (a : List GBox) : Nat → List AV → Mem → LoopA
  | 3, tm, M => ⟨Nat, fun y => (setA tm [(4, .c (.int .i64 ((y : Nat) : Int))), (8, .any), (9, .any), (10, .any), (11, .any), (12, .any), (13, .any), (14, .any), (15, .any), (16, .any), (17, .any), (18, .any), (19, .any), (20, .any), (21, .any)], setM M [(0, .row tyBox (List.take y a ++ List.replicate (List.length a - y) z_Box) 0 0 none)]), fun y => (y ≤ List.length a), fun y => (List.length a - y)⟩
  | _, _, _ => ⟨Unit, fun _ => ([], []), fun _ => False, fun _ => 0⟩
set_option maxRecDepth 100000 in
set_option maxHeartbeats 400000 in
theorem b_l_toBoxS (a : List GBox) (hpre : toP_l_toBoxS a) : BCalls Tryz.prog 52 [.c (.hs .no tyBox a)] (.c (.row 0 0)) [.row tyBox a 0 0 none] := by
  refine bcalls_of (T := ⟨[e_l_toBox], [], [], [], none, fun _ => [], 0, [], []⟩) (L := (L_l_toBoxS a)) Tryz.func52 ⟨⟨rfl, rfl⟩, rfl⟩ (fun hwf => ?_)
  refine Eq.mpr (β := (T3 (((((List.length a : Nat) : Int) : Int) = ((List.length a : Nat) : Int) ∧ (0 : Int) ≤ ((List.length a : Nat) : Int) ∧ (((List.length a : Nat) : Int) : Int) ≤ ((rowMax : Nat) : Int)) ∧ (T2 ((∃ q : Nat, (q ≤ List.length a) ∧ ((leV (.c (.hs .no tyBox a)) (.c (.hs .no tyBox a)) ∧ leV (.tp []) (.tp []) ∧ leV (.c (.raw (.slice none 0 0))) (.c (.raw (.slice none 0 0))) ∧ leV (.c (.row 0 0)) (.c (.row 0 0)) ∧ leV (.c (.int .i64 0)) (.c (.int .i64 ((q : Nat) : Int))) ∧ leV (.c (.hs .no tyBox a)) (.c (.hs .no tyBox a)) ∧ leV (.c (.int .i64 ((List.length a : Nat) : Int))) (.c (.int .i64 ((List.length a : Nat) : Int))) ∧ leV (.c (.row 0 0)) (.c (.row 0 0)) ∧ True ∧ True ∧ True ∧ True ∧ True ∧ True ∧ True ∧ True ∧ True ∧ True ∧ True ∧ True ∧ True ∧ True ∧ leV (.tp []) (.tp []) ∧ True) ∧ (leB (.row tyBox (List.replicate (Int.toNat ((List.length a : Nat) : Int)) z_Box) 0 0 none) (.row tyBox (List.take q a ++ List.replicate (List.length a - q) z_Box) 0 0 none) ∧ True) ∧ true = true)) ∧ ∀ y0 : Nat, (y0 ≤ List.length a) → (T4 (bif (ltI ((y0 : Nat) : Int) ((List.length a : Nat) : Int)) then (T4 (((4 : Nat) = 4 ∧ (0 : Int) ≤ ((y0 : Nat) : Int) ∧ (((y0 : Nat) : Int) : Int) < ((List.length a : Nat) : Int)) ∧ (True ∧ ((toP_l_toBox (nth_Box a (Int.toNat ((y0 : Nat) : Int))) ∧ true = true) ∧ (((4 : Nat) = 4 ∧ (0 : Int) ≤ ((y0 : Nat) : Int) ∧ (((y0 : Nat) : Int) : Int) < ((List.length (List.take y0 a ++ List.replicate (List.length a - y0) z_Box) : Nat) : Int)) ∧ (True ∧ ∀ r1 : List GBox, r1 = (List.set (List.take y0 a ++ List.replicate (List.length a - y0) z_Box) (Int.toNat ((y0 : Nat) : Int)) (nth_Box a (Int.toNat ((y0 : Nat) : Int)))) → (T3 (∃ y0' : Nat, (y0' ≤ List.length a) ∧ (List.length a - y0') < (List.length a - y0) ∧ ((leV (.c (.hs .no tyBox a)) (.c (.hs .no tyBox a)) ∧ leV (.tp []) (.tp []) ∧ leV (.c (.raw (.slice none 0 0))) (.c (.raw (.slice none 0 0))) ∧ leV (.c (.row 0 0)) (.c (.row 0 0)) ∧ leV (.c (.int .i64 (IntKind.wrap .i64 (((y0 : Nat) : Int) + 1)))) (.c (.int .i64 ((y0' : Nat) : Int))) ∧ leV (.c (.hs .no tyBox a)) (.c (.hs .no tyBox a)) ∧ leV (.c (.int .i64 ((List.length a : Nat) : Int))) (.c (.int .i64 ((List.length a : Nat) : Int))) ∧ leV (.c (.row 0 0)) (.c (.row 0 0)) ∧ True ∧ True ∧ True ∧ True ∧ True ∧ True ∧ True ∧ True ∧ True ∧ True ∧ True ∧ True ∧ True ∧ True ∧ leV (.tp []) (.tp []) ∧ True) ∧ (leB (.row tyBox r1 0 0 none) (.row tyBox (List.take y0' a ++ List.replicate (List.length a - y0') z_Box) 0 0 none) ∧ True) ∧ true = true))))))))) else (T2 (((List.take y0 a ++ List.replicate (List.length a - y0) z_Box) = a) ∧ true = true))))))))) (by kernel_rfl) ?_
  unfold T2 T3 T4
  have hp : bulk a ≤ 1048576 := hpre
  have hb : bulk a = a.length + bulkL a := rfl
  simp only [SIA, eq_self]
  refine ⟨⟨by omega, by unfold rowMax; omega⟩, ⟨0, Nat.zero_le _, rfl, Eq.mpr (leB_row (t := tyBox)) rfl⟩, fun k hk => ⟨fun hlt => ?_, fun hge => ?_⟩⟩
  · have hlt : k < a.length := by omega
    have hk := nth_getElem? (t := tyBox) hlt
    have hl : (List.take k a ++ List.replicate (List.length a - k) z_Box).length = a.length := by simp; omega
    have hbn : bulk (nth_Box a k) ≤ bulkL a := bulk_nth hk
    refine ⟨⟨by omega, by omega⟩, by show bulk _ ≤ _; omega, ⟨by omega, by rw [hl]; omega⟩, fun r1 hr => ⟨k + 1, hlt, by omega, wrapN (by unfold maxLen; omega), Eq.mpr (leB_row (t := tyBox)) ?_⟩⟩
    exact hr.trans (fill_set hk)
  · obtain rfl : k = a.length := by omega
    exact fill_end a _
def e_l_toBoxS : Entry Tryz.prog := ⟨52, [.v (.list tyBox)], fun x => toP_l_toBoxS x.1, fun x => .c (.row 0 0), fun x => [.row tyBox x.1 0 0 none], fun x hx => b_l_toBoxS x.1 hx, Tryz.call52⟩
set_option maxRecDepth 100000 in
set_option maxHeartbeats 400000 in
theorem b_l_toCommit (a : GCommit) : BCalls Tryz.prog 126 [.ag (cellsOf tyCommit a)] (.ag [.int .i64 a.1, .int .i64 a.2.1, .int .i64 a.2.2.1, .int .i64 a.2.2.2.1, .str a.2.2.2.2.1, .str a.2.2.2.2.2]) [] := by
  refine bcalls_of (T := ⟨[], [], [], [], none, fun _ => [], 0, [], []⟩) (L := L0) Tryz.func126 ⟨⟨rfl, rfl⟩, rfl⟩ (fun hwf => ?_)
  refine Eq.mpr (β := (True ∧ (True ∧ (True ∧ (True ∧ (True ∧ (True ∧ (True ∧ (True ∧ (True ∧ (True ∧ (True ∧ (True ∧ (True ∧ (True ∧ (True ∧ (True ∧ (True ∧ (True ∧ (True ∧ (True ∧ (True ∧ (True ∧ (True ∧ (True ∧ (True ∧ (True ∧ (True ∧ (True ∧ (True ∧ ((((true = true ∧ leC (.int .i64 a.1) (.int .i64 a.1)) ∧ (true = true ∧ leC (.int .i64 a.2.1) (.int .i64 a.2.1)) ∧ (true = true ∧ leC (.int .i64 a.2.2.1) (.int .i64 a.2.2.1)) ∧ (true = true ∧ leC (.int .i64 a.2.2.2.1) (.int .i64 a.2.2.2.1)) ∧ (true = true ∧ leC (.str a.2.2.2.2.1) (.str a.2.2.2.2.1)) ∧ (true = true ∧ leC (.str a.2.2.2.2.2) (.str a.2.2.2.2.2)) ∧ True)) ∧ true = true))))))))))))))))))))))))))))))) (by kernel_rfl) ?_
  simp only [SIA, eq_self]
  repeat' (first | apply And.intro | intro _)
  all_goals (first | trivial | omega)
def e_l_toCommit : Entry Tryz.prog := ⟨126, [.s tyCommit], fun x => True, fun x => .ag [.int .i64 x.1.1, .int .i64 x.1.2.1, .int .i64 x.1.2.2.1, .int .i64 x.1.2.2.2.1, .str x.1.2.2.2.2.1, .str x.1.2.2.2.2.2], fun _ => [], fun x hx => b_l_toCommit x.1, Tryz.call126⟩
abbrev toP_l_toCommitS (a : List GCommit) : Prop := bulk a ≤ 1048576
def L_l_toCommitS (a : List GCommit) : Nat → List AV → Mem → LoopA
  | 3, tm, M => ⟨Nat, fun y => (setA tm [(4, .c (.int .i64 ((y : Nat) : Int))), (8, .any), (9, .any), (10, .any), (11, .any), (12, .any), (13, .any), (14, .any), (15, .any), (16, .any), (17, .any), (18, .any), (19, .any), (20, .any), (21, .any)], setM M [(0, .row tyCommit (List.take y a ++ List.replicate (List.length a - y) z_Commit) 0 0 none)]), fun y => (y ≤ List.length a), fun y => (List.length a - y)⟩
  | _, _, _ => ⟨Unit, fun _ => ([], []), fun _ => False, fun _ => 0⟩
set_option maxRecDepth 100000 in
set_option maxHeartbeats 400000 in
theorem b_l_toCommitS (a : List GCommit) (hpre : toP_l_toCommitS a) : BCalls Tryz.prog 53 [.c (.hs .no tyCommit a)] (.c (.row 0 0)) [.row tyCommit a 0 0 none] := by
  refine bcalls_of (T := ⟨[e_l_toCommit], [], [], [], none, fun _ => [], 0, [], []⟩) (L := (L_l_toCommitS a)) Tryz.func53 ⟨⟨rfl, rfl⟩, rfl⟩ (fun hwf => ?_)
  refine Eq.mpr (β := (T3 (((((List.length a : Nat) : Int) : Int) = ((List.length a : Nat) : Int) ∧ (0 : Int) ≤ ((List.length a : Nat) : Int) ∧ (((List.length a : Nat) : Int) : Int) ≤ ((rowMax : Nat) : Int)) ∧ (T2 ((∃ q : Nat, (q ≤ List.length a) ∧ ((leV (.c (.hs .no tyCommit a)) (.c (.hs .no tyCommit a)) ∧ leV (.tp []) (.tp []) ∧ leV (.c (.raw (.slice none 0 0))) (.c (.raw (.slice none 0 0))) ∧ leV (.c (.row 0 0)) (.c (.row 0 0)) ∧ leV (.c (.int .i64 0)) (.c (.int .i64 ((q : Nat) : Int))) ∧ leV (.c (.hs .no tyCommit a)) (.c (.hs .no tyCommit a)) ∧ leV (.c (.int .i64 ((List.length a : Nat) : Int))) (.c (.int .i64 ((List.length a : Nat) : Int))) ∧ leV (.c (.row 0 0)) (.c (.row 0 0)) ∧ True ∧ True ∧ True ∧ True ∧ True ∧ True ∧ True ∧ True ∧ True ∧ True ∧ True ∧ True ∧ True ∧ True ∧ leV (.tp []) (.tp []) ∧ True) ∧ (leB (.row tyCommit (List.replicate (Int.toNat ((List.length a : Nat) : Int)) z_Commit) 0 0 none) (.row tyCommit (List.take q a ++ List.replicate (List.length a - q) z_Commit) 0 0 none) ∧ True) ∧ true = true)) ∧ ∀ y0 : Nat, (y0 ≤ List.length a) → (T4 (bif (ltI ((y0 : Nat) : Int) ((List.length a : Nat) : Int)) then (T4 (((6 : Nat) = 6 ∧ (0 : Int) ≤ ((y0 : Nat) : Int) ∧ (((y0 : Nat) : Int) : Int) < ((List.length a : Nat) : Int)) ∧ (True ∧ ((True ∧ true = true) ∧ (((6 : Nat) = 6 ∧ (0 : Int) ≤ ((y0 : Nat) : Int) ∧ (((y0 : Nat) : Int) : Int) < ((List.length (List.take y0 a ++ List.replicate (List.length a - y0) z_Commit) : Nat) : Int)) ∧ (True ∧ ∀ r1 : List GCommit, r1 = (List.set (List.take y0 a ++ List.replicate (List.length a - y0) z_Commit) (Int.toNat ((y0 : Nat) : Int)) (nth_Commit a (Int.toNat ((y0 : Nat) : Int)))) → (T3 (∃ y0' : Nat, (y0' ≤ List.length a) ∧ (List.length a - y0') < (List.length a - y0) ∧ ((leV (.c (.hs .no tyCommit a)) (.c (.hs .no tyCommit a)) ∧ leV (.tp []) (.tp []) ∧ leV (.c (.raw (.slice none 0 0))) (.c (.raw (.slice none 0 0))) ∧ leV (.c (.row 0 0)) (.c (.row 0 0)) ∧ leV (.c (.int .i64 (IntKind.wrap .i64 (((y0 : Nat) : Int) + 1)))) (.c (.int .i64 ((y0' : Nat) : Int))) ∧ leV (.c (.hs .no tyCommit a)) (.c (.hs .no tyCommit a)) ∧ leV (.c (.int .i64 ((List.length a : Nat) : Int))) (.c (.int .i64 ((List.length a : Nat) : Int))) ∧ leV (.c (.row 0 0)) (.c (.row 0 0)) ∧ True ∧ True ∧ True ∧ True ∧ True ∧ True ∧ True ∧ True ∧ True ∧ True ∧ True ∧ True ∧ True ∧ True ∧ leV (.tp []) (.tp []) ∧ True) ∧ (leB (.row tyCommit r1 0 0 none) (.row tyCommit (List.take y0' a ++ List.replicate (List.length a - y0') z_Commit) 0 0 none) ∧ True) ∧ true = true))))))))) else (T2 (((List.take y0 a ++ List.replicate (List.length a - y0) z_Commit) = a) ∧ true = true))))))))) (by kernel_rfl) ?_
  unfold T2 T3 T4
  have hp : bulk a ≤ 1048576 := hpre
  have hb : bulk a = a.length + bulkL a := rfl
  simp only [SIA, eq_self]
  refine ⟨⟨by omega, by unfold rowMax; omega⟩, ⟨0, Nat.zero_le _, rfl, Eq.mpr (leB_row (t := tyCommit)) rfl⟩, fun k hk => ⟨fun hlt => ?_, fun hge => ?_⟩⟩
  · have hlt : k < a.length := by omega
    have hk := nth_getElem? (t := tyCommit) hlt
    have hl : (List.take k a ++ List.replicate (List.length a - k) z_Commit).length = a.length := by simp; omega
    have hbn : bulk (nth_Commit a k) ≤ bulkL a := bulk_nth hk
    refine ⟨⟨by omega, by omega⟩, ⟨by omega, by rw [hl]; omega⟩, fun r1 hr => ⟨k + 1, hlt, by omega, wrapN (by unfold maxLen; omega), Eq.mpr (leB_row (t := tyCommit)) ?_⟩⟩
    exact hr.trans (fill_set hk)
  · obtain rfl : k = a.length := by omega
    exact fill_end a _
def e_l_toCommitS : Entry Tryz.prog := ⟨53, [.v (.list tyCommit)], fun x => toP_l_toCommitS x.1, fun x => .c (.row 0 0), fun x => [.row tyCommit x.1 0 0 none], fun x hx => b_l_toCommitS x.1 hx, Tryz.call53⟩
abbrev toP_l_toStore (a : GStore) : Prop := bulk a ≤ 1048576
set_option maxRecDepth 100000 in
set_option maxHeartbeats 4000000 in
theorem b_l_toStore (a : GStore) (hpre : toP_l_toStore a) : BCalls Tryz.prog 14 [.ag (cellsOf tyStore a)] (.ag [.row 0 0, .row 1 0, .int .i64 a.2.2]) [.row tyBox a.1 0 0 none, .row tyCommit a.2.1 0 0 none] := by
  refine bcalls_of (T := ⟨[e_l_toBoxS, e_l_toCommitS], [], [], [], none, fun _ => [], 0, [], []⟩) (L := L0) Tryz.func14 ⟨⟨rfl, rfl⟩, rfl⟩ (fun hwf => ?_)
  refine Eq.mpr (β := (True ∧ (True ∧ (True ∧ (True ∧ (True ∧ ((toP_l_toBoxS a.1 ∧ true = true) ∧ (True ∧ (True ∧ (True ∧ (True ∧ ((toP_l_toCommitS a.2.1 ∧ true = true) ∧ (True ∧ (True ∧ (True ∧ (True ∧ (True ∧ (True ∧ (True ∧ (True ∧ ((((a.1 = a.1) ∧ (a.2.1 = a.2.1) ∧ (true = true ∧ leC (.int .i64 a.2.2) (.int .i64 a.2.2)) ∧ True)) ∧ true = true))))))))))))))))))))) (by kernel_rfl) ?_
  have hp : bulk a ≤ 1048576 := hpre
  have hb : bulk a = bulk a.1 + (bulk a.2.1 + (0)) := rfl
  simp only [SIA, eq_self]
  repeat' (first | apply And.intro | intro _)
  all_goals (first | trivial | omega)
def e_l_toStore : Entry Tryz.prog := ⟨14, [.s tyStore], fun x => toP_l_toStore x.1, fun x => .ag [.row 0 0, .row 1 0, .int .i64 x.1.2.2], fun x => [.row tyBox x.1.1 0 0 none, .row tyCommit x.1.2.1 0 0 none], fun x hx => b_l_toStore x.1 hx, Tryz.call14⟩
set_option maxRecDepth 100000 in
set_option maxHeartbeats 400000 in
theorem b_l_toSeen (a : GSpan) : BCalls Tryz.prog 197 [.ag [.int .i64 a.1, .int .i64 a.2]] (.ag [.int .i64 a.1, .int .i64 a.2]) [] := by
  refine bcalls_of (T := ⟨[], [], [], [], none, fun _ => [], 0, [], []⟩) (L := L0) Tryz.func197 ⟨⟨rfl, rfl⟩, rfl⟩ (fun hwf => ?_)
  refine Eq.mpr (β := (True ∧ (True ∧ (True ∧ (True ∧ (True ∧ (True ∧ (True ∧ (True ∧ (True ∧ (True ∧ (True ∧ (True ∧ (True ∧ ((((true = true ∧ leC (.int .i64 a.1) (.int .i64 a.1)) ∧ (true = true ∧ leC (.int .i64 a.2) (.int .i64 a.2)) ∧ True)) ∧ true = true))))))))))))))) (by kernel_rfl) ?_
  simp only [SIA, eq_self]
  repeat' (first | apply And.intro | intro _)
  all_goals (first | trivial | omega)
def e_l_toSeen : Entry Tryz.prog := ⟨197, [.s tySpan], fun x => True, fun x => .ag [.int .i64 x.1.1, .int .i64 x.1.2], fun _ => [], fun x hx => b_l_toSeen x.1, Tryz.call197⟩
abbrev toP_l_toSeenS (a : List GSpan) : Prop := bulk a ≤ 1048576
def L_l_toSeenS (a : List GSpan) : Nat → List AV → Mem → LoopA
  | 3, tm, M => ⟨Nat, fun y => (setA tm [(4, .c (.int .i64 ((y : Nat) : Int))), (8, .any), (9, .any), (10, .any), (11, .any), (12, .any), (13, .any), (14, .any), (15, .any), (16, .any), (17, .any), (18, .any), (19, .any), (20, .any), (21, .any)], setM M [(0, .row tySpan (List.take y a ++ List.replicate (List.length a - y) z_Span) 0 0 none)]), fun y => (y ≤ List.length a), fun y => (List.length a - y)⟩
  | _, _, _ => ⟨Unit, fun _ => ([], []), fun _ => False, fun _ => 0⟩
set_option maxRecDepth 100000 in
set_option maxHeartbeats 400000 in
theorem b_l_toSeenS (a : List GSpan) (hpre : toP_l_toSeenS a) : BCalls Tryz.prog 133 [.c (.hs .no tySpan a)] (.c (.row 0 0)) [.row tySpan a 0 0 none] := by
  refine bcalls_of (T := ⟨[e_l_toSeen], [], [], [], none, fun _ => [], 0, [], []⟩) (L := (L_l_toSeenS a)) Tryz.func133 ⟨⟨rfl, rfl⟩, rfl⟩ (fun hwf => ?_)
  refine Eq.mpr (β := (T3 (((((List.length a : Nat) : Int) : Int) = ((List.length a : Nat) : Int) ∧ (0 : Int) ≤ ((List.length a : Nat) : Int) ∧ (((List.length a : Nat) : Int) : Int) ≤ ((rowMax : Nat) : Int)) ∧ (T2 ((∃ q : Nat, (q ≤ List.length a) ∧ ((leV (.c (.hs .no tySpan a)) (.c (.hs .no tySpan a)) ∧ leV (.tp []) (.tp []) ∧ leV (.c (.raw (.slice none 0 0))) (.c (.raw (.slice none 0 0))) ∧ leV (.c (.row 0 0)) (.c (.row 0 0)) ∧ leV (.c (.int .i64 0)) (.c (.int .i64 ((q : Nat) : Int))) ∧ leV (.c (.hs .no tySpan a)) (.c (.hs .no tySpan a)) ∧ leV (.c (.int .i64 ((List.length a : Nat) : Int))) (.c (.int .i64 ((List.length a : Nat) : Int))) ∧ leV (.c (.row 0 0)) (.c (.row 0 0)) ∧ True ∧ True ∧ True ∧ True ∧ True ∧ True ∧ True ∧ True ∧ True ∧ True ∧ True ∧ True ∧ True ∧ True ∧ leV (.tp []) (.tp []) ∧ True) ∧ (leB (.row tySpan (List.replicate (Int.toNat ((List.length a : Nat) : Int)) z_Span) 0 0 none) (.row tySpan (List.take q a ++ List.replicate (List.length a - q) z_Span) 0 0 none) ∧ True) ∧ true = true)) ∧ ∀ y0 : Nat, (y0 ≤ List.length a) → (T4 (bif (ltI ((y0 : Nat) : Int) ((List.length a : Nat) : Int)) then (T4 (((2 : Nat) = 2 ∧ (0 : Int) ≤ ((y0 : Nat) : Int) ∧ (((y0 : Nat) : Int) : Int) < ((List.length a : Nat) : Int)) ∧ (True ∧ ((True ∧ true = true) ∧ (((2 : Nat) = 2 ∧ (0 : Int) ≤ ((y0 : Nat) : Int) ∧ (((y0 : Nat) : Int) : Int) < ((List.length (List.take y0 a ++ List.replicate (List.length a - y0) z_Span) : Nat) : Int)) ∧ (True ∧ ∀ r1 : List GSpan, r1 = (List.set (List.take y0 a ++ List.replicate (List.length a - y0) z_Span) (Int.toNat ((y0 : Nat) : Int)) (nth_Span a (Int.toNat ((y0 : Nat) : Int)))) → (T3 (∃ y0' : Nat, (y0' ≤ List.length a) ∧ (List.length a - y0') < (List.length a - y0) ∧ ((leV (.c (.hs .no tySpan a)) (.c (.hs .no tySpan a)) ∧ leV (.tp []) (.tp []) ∧ leV (.c (.raw (.slice none 0 0))) (.c (.raw (.slice none 0 0))) ∧ leV (.c (.row 0 0)) (.c (.row 0 0)) ∧ leV (.c (.int .i64 (IntKind.wrap .i64 (((y0 : Nat) : Int) + 1)))) (.c (.int .i64 ((y0' : Nat) : Int))) ∧ leV (.c (.hs .no tySpan a)) (.c (.hs .no tySpan a)) ∧ leV (.c (.int .i64 ((List.length a : Nat) : Int))) (.c (.int .i64 ((List.length a : Nat) : Int))) ∧ leV (.c (.row 0 0)) (.c (.row 0 0)) ∧ True ∧ True ∧ True ∧ True ∧ True ∧ True ∧ True ∧ True ∧ True ∧ True ∧ True ∧ True ∧ True ∧ True ∧ leV (.tp []) (.tp []) ∧ True) ∧ (leB (.row tySpan r1 0 0 none) (.row tySpan (List.take y0' a ++ List.replicate (List.length a - y0') z_Span) 0 0 none) ∧ True) ∧ true = true))))))))) else (T2 (((List.take y0 a ++ List.replicate (List.length a - y0) z_Span) = a) ∧ true = true))))))))) (by kernel_rfl) ?_
  unfold T2 T3 T4
  have hp : bulk a ≤ 1048576 := hpre
  have hb : bulk a = a.length + bulkL a := rfl
  simp only [SIA, eq_self]
  refine ⟨⟨by omega, by unfold rowMax; omega⟩, ⟨0, Nat.zero_le _, rfl, Eq.mpr (leB_row (t := tySpan)) rfl⟩, fun k hk => ⟨fun hlt => ?_, fun hge => ?_⟩⟩
  · have hlt : k < a.length := by omega
    have hk := nth_getElem? (t := tySpan) hlt
    have hl : (List.take k a ++ List.replicate (List.length a - k) z_Span).length = a.length := by simp; omega
    have hbn : bulk (nth_Span a k) ≤ bulkL a := bulk_nth hk
    refine ⟨⟨by omega, by omega⟩, ⟨by omega, by rw [hl]; omega⟩, fun r1 hr => ⟨k + 1, hlt, by omega, wrapN (by unfold maxLen; omega), Eq.mpr (leB_row (t := tySpan)) ?_⟩⟩
    exact hr.trans (fill_set hk)
  · obtain rfl : k = a.length := by omega
    exact fill_end a _
def e_l_toSeenS : Entry Tryz.prog := ⟨133, [.v (.list tySpan)], fun x => toP_l_toSeenS x.1, fun x => .c (.row 0 0), fun x => [.row tySpan x.1 0 0 none], fun x hx => b_l_toSeenS x.1 hx, Tryz.call133⟩
abbrev toP_l_toView (a : GView) : Prop := bulk a ≤ 1048576
set_option maxRecDepth 100000 in
set_option maxHeartbeats 4000000 in
theorem b_l_toView (a : List GSpan) (hpre : toP_l_toView a) : BCalls Tryz.prog 65 [.ag [.hs .no tySpan a]] (.ag [.row 0 0]) [.row tySpan a 0 0 none] := by
  refine bcalls_of (T := ⟨[e_l_toSeenS], [], [], [], none, fun _ => [], 0, [], []⟩) (L := L0) Tryz.func65 ⟨⟨rfl, rfl⟩, rfl⟩ (fun hwf => ?_)
  refine Eq.mpr (β := (True ∧ (True ∧ (True ∧ (True ∧ (True ∧ ((toP_l_toSeenS a ∧ true = true) ∧ (True ∧ (True ∧ (True ∧ (True ∧ ((((a = a) ∧ True)) ∧ true = true)))))))))))) (by kernel_rfl) ?_
  have hp : bulk a ≤ 1048576 := hpre
  have hb : bulk a = bulk a := rfl
  simp only [SIA, eq_self]
  repeat' (first | apply And.intro | intro _)
  all_goals (first | trivial | omega)
def e_l_toView : Entry Tryz.prog := ⟨65, [.s (.list tySpan)], fun x => toP_l_toView x.1, fun x => .ag [.row 0 0], fun x => [.row tySpan x.1 0 0 none], fun x hx => b_l_toView x.1 hx, Tryz.call65⟩
set_option maxRecDepth 100000 in
set_option maxHeartbeats 400000 in
theorem b_l_toNote (a : GNote) : BCalls Tryz.prog 199 [.ag (cellsOf tyNote a)] (.ag [.int .i64 a.1, .int .i64 a.2.1, .int .i64 a.2.2.1, .str a.2.2.2]) [] := by
  refine bcalls_of (T := ⟨[], [], [], [], none, fun _ => [], 0, [], []⟩) (L := L0) Tryz.func199 ⟨⟨rfl, rfl⟩, rfl⟩ (fun hwf => ?_)
  refine Eq.mpr (β := (True ∧ (True ∧ (True ∧ (True ∧ (True ∧ (True ∧ (True ∧ (True ∧ (True ∧ (True ∧ (True ∧ (True ∧ (True ∧ (True ∧ (True ∧ (True ∧ (True ∧ (True ∧ (True ∧ (True ∧ (True ∧ ((((true = true ∧ leC (.int .i64 a.1) (.int .i64 a.1)) ∧ (true = true ∧ leC (.int .i64 a.2.1) (.int .i64 a.2.1)) ∧ (true = true ∧ leC (.int .i64 a.2.2.1) (.int .i64 a.2.2.1)) ∧ (true = true ∧ leC (.str a.2.2.2) (.str a.2.2.2)) ∧ True)) ∧ true = true))))))))))))))))))))))) (by kernel_rfl) ?_
  simp only [SIA, eq_self]
  repeat' (first | apply And.intro | intro _)
  all_goals (first | trivial | omega)
def e_l_toNote : Entry Tryz.prog := ⟨199, [.s tyNote], fun x => True, fun x => .ag [.int .i64 x.1.1, .int .i64 x.1.2.1, .int .i64 x.1.2.2.1, .str x.1.2.2.2], fun _ => [], fun x hx => b_l_toNote x.1, Tryz.call199⟩
abbrev toP_l_toNoteS (a : List GNote) : Prop := bulk a ≤ 1048576
def L_l_toNoteS (a : List GNote) : Nat → List AV → Mem → LoopA
  | 3, tm, M => ⟨Nat, fun y => (setA tm [(4, .c (.int .i64 ((y : Nat) : Int))), (8, .any), (9, .any), (10, .any), (11, .any), (12, .any), (13, .any), (14, .any), (15, .any), (16, .any), (17, .any), (18, .any), (19, .any), (20, .any), (21, .any)], setM M [(0, .row tyNote (List.take y a ++ List.replicate (List.length a - y) z_Note) 0 0 none)]), fun y => (y ≤ List.length a), fun y => (List.length a - y)⟩
  | _, _, _ => ⟨Unit, fun _ => ([], []), fun _ => False, fun _ => 0⟩
set_option maxRecDepth 100000 in
set_option maxHeartbeats 400000 in
theorem b_l_toNoteS (a : List GNote) (hpre : toP_l_toNoteS a) : BCalls Tryz.prog 135 [.c (.hs .no tyNote a)] (.c (.row 0 0)) [.row tyNote a 0 0 none] := by
  refine bcalls_of (T := ⟨[e_l_toNote], [], [], [], none, fun _ => [], 0, [], []⟩) (L := (L_l_toNoteS a)) Tryz.func135 ⟨⟨rfl, rfl⟩, rfl⟩ (fun hwf => ?_)
  refine Eq.mpr (β := (T3 (((((List.length a : Nat) : Int) : Int) = ((List.length a : Nat) : Int) ∧ (0 : Int) ≤ ((List.length a : Nat) : Int) ∧ (((List.length a : Nat) : Int) : Int) ≤ ((rowMax : Nat) : Int)) ∧ (T2 ((∃ q : Nat, (q ≤ List.length a) ∧ ((leV (.c (.hs .no tyNote a)) (.c (.hs .no tyNote a)) ∧ leV (.tp []) (.tp []) ∧ leV (.c (.raw (.slice none 0 0))) (.c (.raw (.slice none 0 0))) ∧ leV (.c (.row 0 0)) (.c (.row 0 0)) ∧ leV (.c (.int .i64 0)) (.c (.int .i64 ((q : Nat) : Int))) ∧ leV (.c (.hs .no tyNote a)) (.c (.hs .no tyNote a)) ∧ leV (.c (.int .i64 ((List.length a : Nat) : Int))) (.c (.int .i64 ((List.length a : Nat) : Int))) ∧ leV (.c (.row 0 0)) (.c (.row 0 0)) ∧ True ∧ True ∧ True ∧ True ∧ True ∧ True ∧ True ∧ True ∧ True ∧ True ∧ True ∧ True ∧ True ∧ True ∧ leV (.tp []) (.tp []) ∧ True) ∧ (leB (.row tyNote (List.replicate (Int.toNat ((List.length a : Nat) : Int)) z_Note) 0 0 none) (.row tyNote (List.take q a ++ List.replicate (List.length a - q) z_Note) 0 0 none) ∧ True) ∧ true = true)) ∧ ∀ y0 : Nat, (y0 ≤ List.length a) → (T4 (bif (ltI ((y0 : Nat) : Int) ((List.length a : Nat) : Int)) then (T4 (((4 : Nat) = 4 ∧ (0 : Int) ≤ ((y0 : Nat) : Int) ∧ (((y0 : Nat) : Int) : Int) < ((List.length a : Nat) : Int)) ∧ (True ∧ ((True ∧ true = true) ∧ (((4 : Nat) = 4 ∧ (0 : Int) ≤ ((y0 : Nat) : Int) ∧ (((y0 : Nat) : Int) : Int) < ((List.length (List.take y0 a ++ List.replicate (List.length a - y0) z_Note) : Nat) : Int)) ∧ (True ∧ ∀ r1 : List GNote, r1 = (List.set (List.take y0 a ++ List.replicate (List.length a - y0) z_Note) (Int.toNat ((y0 : Nat) : Int)) (nth_Note a (Int.toNat ((y0 : Nat) : Int)))) → (T3 (∃ y0' : Nat, (y0' ≤ List.length a) ∧ (List.length a - y0') < (List.length a - y0) ∧ ((leV (.c (.hs .no tyNote a)) (.c (.hs .no tyNote a)) ∧ leV (.tp []) (.tp []) ∧ leV (.c (.raw (.slice none 0 0))) (.c (.raw (.slice none 0 0))) ∧ leV (.c (.row 0 0)) (.c (.row 0 0)) ∧ leV (.c (.int .i64 (IntKind.wrap .i64 (((y0 : Nat) : Int) + 1)))) (.c (.int .i64 ((y0' : Nat) : Int))) ∧ leV (.c (.hs .no tyNote a)) (.c (.hs .no tyNote a)) ∧ leV (.c (.int .i64 ((List.length a : Nat) : Int))) (.c (.int .i64 ((List.length a : Nat) : Int))) ∧ leV (.c (.row 0 0)) (.c (.row 0 0)) ∧ True ∧ True ∧ True ∧ True ∧ True ∧ True ∧ True ∧ True ∧ True ∧ True ∧ True ∧ True ∧ True ∧ True ∧ leV (.tp []) (.tp []) ∧ True) ∧ (leB (.row tyNote r1 0 0 none) (.row tyNote (List.take y0' a ++ List.replicate (List.length a - y0') z_Note) 0 0 none) ∧ True) ∧ true = true))))))))) else (T2 (((List.take y0 a ++ List.replicate (List.length a - y0) z_Note) = a) ∧ true = true))))))))) (by kernel_rfl) ?_
  unfold T2 T3 T4
  have hp : bulk a ≤ 1048576 := hpre
  have hb : bulk a = a.length + bulkL a := rfl
  simp only [SIA, eq_self]
  refine ⟨⟨by omega, by unfold rowMax; omega⟩, ⟨0, Nat.zero_le _, rfl, Eq.mpr (leB_row (t := tyNote)) rfl⟩, fun k hk => ⟨fun hlt => ?_, fun hge => ?_⟩⟩
  · have hlt : k < a.length := by omega
    have hk := nth_getElem? (t := tyNote) hlt
    have hl : (List.take k a ++ List.replicate (List.length a - k) z_Note).length = a.length := by simp; omega
    have hbn : bulk (nth_Note a k) ≤ bulkL a := bulk_nth hk
    refine ⟨⟨by omega, by omega⟩, ⟨by omega, by rw [hl]; omega⟩, fun r1 hr => ⟨k + 1, hlt, by omega, wrapN (by unfold maxLen; omega), Eq.mpr (leB_row (t := tyNote)) ?_⟩⟩
    exact hr.trans (fill_set hk)
  · obtain rfl : k = a.length := by omega
    exact fill_end a _
def e_l_toNoteS : Entry Tryz.prog := ⟨135, [.v (.list tyNote)], fun x => toP_l_toNoteS x.1, fun x => .c (.row 0 0), fun x => [.row tyNote x.1 0 0 none], fun x hx => b_l_toNoteS x.1 hx, Tryz.call135⟩
abbrev toP_l_toQueue (a : GQueue) : Prop := bulk a ≤ 1048576
set_option maxRecDepth 100000 in
set_option maxHeartbeats 4000000 in
theorem b_l_toQueue (a : GQueue) (hpre : toP_l_toQueue a) : BCalls Tryz.prog 67 [.ag [.hs .no tyNote a.1, .bool a.2.1, .bool a.2.2]] (.ag [.row 0 0, .bool a.2.1, .bool a.2.2]) [.row tyNote a.1 0 0 none] := by
  refine bcalls_of (T := ⟨[e_l_toNoteS], [], [], [], none, fun _ => [], 0, [], []⟩) (L := L0) Tryz.func67 ⟨⟨rfl, rfl⟩, rfl⟩ (fun hwf => ?_)
  refine Eq.mpr (β := (True ∧ (True ∧ (True ∧ (True ∧ (True ∧ ((toP_l_toNoteS a.1 ∧ true = true) ∧ (True ∧ (True ∧ (True ∧ (True ∧ (True ∧ (True ∧ (True ∧ (True ∧ (True ∧ (True ∧ (True ∧ (True ∧ ((((a.1 = a.1) ∧ (true = true ∧ leC (.bool a.2.1) (.bool a.2.1)) ∧ (true = true ∧ leC (.bool a.2.2) (.bool a.2.2)) ∧ True)) ∧ true = true)))))))))))))))))))) (by kernel_rfl) ?_
  have hp : bulk a ≤ 1048576 := hpre
  have hb : bulk a = bulk a.1 + (0 + (0)) := rfl
  simp only [SIA, eq_self]
  repeat' (first | apply And.intro | intro _)
  all_goals (first | trivial | omega)
def e_l_toQueue : Entry Tryz.prog := ⟨67, [.s tyQueue], fun x => toP_l_toQueue x.1, fun x => .ag [.row 0 0, .bool x.1.2.1, .bool x.1.2.2], fun x => [.row tyNote x.1.1 0 0 none], fun x hx => b_l_toQueue x.1 hx, Tryz.call67⟩
set_option maxRecDepth 100000 in
set_option maxHeartbeats 400000 in
theorem b_l_toOut (a : GOut) : BCalls Tryz.prog 69 [.ag [.str a.1, .str a.2]] (.ag [.str a.1, .str a.2]) [] := by
  refine bcalls_of (T := ⟨[], [], [], [], none, fun _ => [], 0, [], []⟩) (L := L0) Tryz.func69 ⟨⟨rfl, rfl⟩, rfl⟩ (fun hwf => ?_)
  refine Eq.mpr (β := (True ∧ (True ∧ (True ∧ (True ∧ (True ∧ (True ∧ (True ∧ (True ∧ (True ∧ (True ∧ (True ∧ (True ∧ (True ∧ ((((true = true ∧ leC (.str a.1) (.str a.1)) ∧ (true = true ∧ leC (.str a.2) (.str a.2)) ∧ True)) ∧ true = true))))))))))))))) (by kernel_rfl) ?_
  simp only [SIA, eq_self]
  repeat' (first | apply And.intro | intro _)
  all_goals (first | trivial | omega)
def e_l_toOut : Entry Tryz.prog := ⟨69, [.s tyOut], fun x => True, fun x => .ag [.str x.1.1, .str x.1.2], fun _ => [], fun x hx => b_l_toOut x.1, Tryz.call69⟩
set_option maxRecDepth 100000 in
set_option maxHeartbeats 400000 in
theorem b_l_toIn (a : GIn) : BCalls Tryz.prog 68 [.ag [.str a.1, .bool a.2]] (.ag [.str a.1, .bool a.2]) [] := by
  refine bcalls_of (T := ⟨[], [], [], [], none, fun _ => [], 0, [], []⟩) (L := L0) Tryz.func68 ⟨⟨rfl, rfl⟩, rfl⟩ (fun hwf => ?_)
  refine Eq.mpr (β := (True ∧ (True ∧ (True ∧ (True ∧ (True ∧ (True ∧ (True ∧ (True ∧ (True ∧ (True ∧ (True ∧ (True ∧ (True ∧ ((((true = true ∧ leC (.str a.1) (.str a.1)) ∧ (true = true ∧ leC (.bool a.2) (.bool a.2)) ∧ True)) ∧ true = true))))))))))))))) (by kernel_rfl) ?_
  simp only [SIA, eq_self]
  repeat' (first | apply And.intro | intro _)
  all_goals (first | trivial | omega)
def e_l_toIn : Entry Tryz.prog := ⟨68, [.s tyIn], fun x => True, fun x => .ag [.str x.1.1, .bool x.1.2], fun _ => [], fun x hx => b_l_toIn x.1, Tryz.call68⟩
abbrev toP_l_toSession (a : GSession) : Prop := bulk a ≤ 1048576
set_option maxRecDepth 100000 in
set_option maxHeartbeats 4000000 in
theorem b_l_toSession (a : GSession) (hpre : toP_l_toSession a) : BCalls Tryz.prog 19 [.ag (cellsOf tySession a)] (.ag [.bool a.1, .int .i64 a.2.1, .int .i64 a.2.2.1, .int .i64 a.2.2.2.1, .row 0 0, .bool a.2.2.2.2.2.1.1, .row 1 0, .str a.2.2.2.2.2.2.1, .str a.2.2.2.2.2.2.2.1, .row 2 0, .bool a.2.2.2.2.2.2.2.2.1.2.1, .bool a.2.2.2.2.2.2.2.2.1.2.2, .str a.2.2.2.2.2.2.2.2.2.1.1, .bool a.2.2.2.2.2.2.2.2.2.1.2, .str a.2.2.2.2.2.2.2.2.2.2.1.1, .str a.2.2.2.2.2.2.2.2.2.2.1.2, .int .i64 a.2.2.2.2.2.2.2.2.2.2.2]) [.row tySpan a.2.2.2.2.1 0 0 none, .row tyScope a.2.2.2.2.2.1.2 0 0 none, .row tyNote a.2.2.2.2.2.2.2.2.1.1 0 0 none] := by
  refine bcalls_of (T := ⟨[e_l_toView, e_l_toFilter, e_l_toQueue, e_l_toIn, e_l_toOut], [], [], [], none, fun _ => [], 0, [], []⟩) (L := L0) Tryz.func19 ⟨⟨rfl, rfl⟩, rfl⟩ (fun hwf => ?_)
  refine Eq.mpr (β := (T12 (T9 ((toP_l_toView a.2.2.2.2.1 ∧ true = true) ∧ (T4 ((toP_l_toFilter a.2.2.2.2.2.1 ∧ true = true) ∧ (T12 ((toP_l_toQueue a.2.2.2.2.2.2.2.2.1 ∧ true = true) ∧ (T4 ((True ∧ true = true) ∧ (T4 ((True ∧ true = true) ∧ (T8 ((((true = true ∧ leC (.bool a.1) (.bool a.1)) ∧ (true = true ∧ leC (.int .i64 a.2.1) (.int .i64 a.2.1)) ∧ (true = true ∧ leC (.int .i64 a.2.2.1) (.int .i64 a.2.2.1)) ∧ (true = true ∧ leC (.int .i64 a.2.2.2.1) (.int .i64 a.2.2.2.1)) ∧ (a.2.2.2.2.1 = a.2.2.2.2.1) ∧ (true = true ∧ leC (.bool a.2.2.2.2.2.1.1) (.bool a.2.2.2.2.2.1.1)) ∧ (a.2.2.2.2.2.1.2 = a.2.2.2.2.2.1.2) ∧ (true = true ∧ leC (.str a.2.2.2.2.2.2.1) (.str a.2.2.2.2.2.2.1)) ∧ (true = true ∧ leC (.str a.2.2.2.2.2.2.2.1) (.str a.2.2.2.2.2.2.2.1)) ∧ (a.2.2.2.2.2.2.2.2.1.1 = a.2.2.2.2.2.2.2.2.1.1) ∧ (true = true ∧ leC (.bool a.2.2.2.2.2.2.2.2.1.2.1) (.bool a.2.2.2.2.2.2.2.2.1.2.1)) ∧ (true = true ∧ leC (.bool a.2.2.2.2.2.2.2.2.1.2.2) (.bool a.2.2.2.2.2.2.2.2.1.2.2)) ∧ (true = true ∧ leC (.str a.2.2.2.2.2.2.2.2.2.1.1) (.str a.2.2.2.2.2.2.2.2.2.1.1)) ∧ (true = true ∧ leC (.bool a.2.2.2.2.2.2.2.2.2.1.2) (.bool a.2.2.2.2.2.2.2.2.2.1.2)) ∧ (true = true ∧ leC (.str a.2.2.2.2.2.2.2.2.2.2.1.1) (.str a.2.2.2.2.2.2.2.2.2.2.1.1)) ∧ (true = true ∧ leC (.str a.2.2.2.2.2.2.2.2.2.2.1.2) (.str a.2.2.2.2.2.2.2.2.2.2.1.2)) ∧ (true = true ∧ leC (.int .i64 a.2.2.2.2.2.2.2.2.2.2.2) (.int .i64 a.2.2.2.2.2.2.2.2.2.2.2)) ∧ True)) ∧ true = true)))))))))))))) (by kernel_rfl) ?_
  unfold T12 T4 T8 T9
  have hp : bulk a ≤ 1048576 := hpre
  have hb : bulk a = 0 + (0 + (0 + (0 + (bulk a.2.2.2.2.1 + (bulk a.2.2.2.2.2.1 + (ByteArray.size a.2.2.2.2.2.2.1 + (ByteArray.size a.2.2.2.2.2.2.2.1 + (bulk a.2.2.2.2.2.2.2.2.1 + (bulk a.2.2.2.2.2.2.2.2.2.1 + (bulk a.2.2.2.2.2.2.2.2.2.2.1 + (0))))))))))) := rfl
  simp only [SIA, eq_self]
  repeat' (first | apply And.intro | intro _)
  all_goals (first | trivial | omega)
def e_l_toSession : Entry Tryz.prog := ⟨19, [.s tySession], fun x => toP_l_toSession x.1, fun x => .ag [.bool x.1.1, .int .i64 x.1.2.1, .int .i64 x.1.2.2.1, .int .i64 x.1.2.2.2.1, .row 0 0, .bool x.1.2.2.2.2.2.1.1, .row 1 0, .str x.1.2.2.2.2.2.2.1, .str x.1.2.2.2.2.2.2.2.1, .row 2 0, .bool x.1.2.2.2.2.2.2.2.2.1.2.1, .bool x.1.2.2.2.2.2.2.2.2.1.2.2, .str x.1.2.2.2.2.2.2.2.2.2.1.1, .bool x.1.2.2.2.2.2.2.2.2.2.1.2, .str x.1.2.2.2.2.2.2.2.2.2.2.1.1, .str x.1.2.2.2.2.2.2.2.2.2.2.1.2, .int .i64 x.1.2.2.2.2.2.2.2.2.2.2.2], fun x => [.row tySpan x.1.2.2.2.2.1 0 0 none, .row tyScope x.1.2.2.2.2.2.1.2 0 0 none, .row tyNote x.1.2.2.2.2.2.2.2.2.1.1 0 0 none], fun x hx => b_l_toSession x.1 hx, Tryz.call19⟩
end Go.Proofs.YtigebfhekmjhmaaGreat
