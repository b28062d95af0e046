/-
  What a session knows of its mailbox.
  No condition but what the arguments' cells hold. Printed by vcgen.py.
-/
import Derived.Test.YtigebfhekmjhmaaGreatXBlName
import Derived.Test.YtigebfhekmjhmaaGreatXBlSm
import Derived.Test.YtigebfhekmjhmaaGreatXEqB
set_option linter.unusedSimpArgs false
set_option linter.unusedVariables false
namespace Go.Proofs.YtigebfhekmjhmaaGreat
open Go.ChangeShapes Go.WideShapes Go.ChangeAt Go.RowKit Go.Joins Go.Deep
open GoRep (rep bulk)

def viewOf (b : GBox) : GView := b.2.2.2.map (fun m => (m.1, m.2.1))
def viewN (b : GBox) (k : Nat) : List GSeen := (List.take k b.2.2.2).map (fun m => (m.1, m.2.1))
def trueV (st : GStore) (s : GSession) : Bool := if s.2.1 = 3 then ((bxAt st s.2.2.1 s.2.2.2.1).2 && (geI (boxW st.1 s.2.2.1) 0 && eqT_LSpan (viewOf (bxAt st s.2.2.1 s.2.2.2.1).1) s.2.2.2.2.1)) else true
theorem appA_small : ∀ {log : List GCommit} {l : List GBox}, smallB l → smallB (appA l log).1
  | [], _, h => h
  | m :: r, l, h => by
    unfold appA
    split
    · rename_i hm
      exact appA_small (smallB_perf hm)
    · exact h
theorem boxesAt_small (st : GStore) (n : Int) : smallB (boxesAt st n) := appA_small ⟨Nat.zero_le _, fun x hx => by cases hx⟩
theorem bxAt_small (st : GStore) (v n : Int) : List.length (bxAt st v n).1.2.2.2 ≤ 1048576 := by
  unfold bxAt
  split
  · exact Nat.zero_le _
  · exact smallB_nth (boxesAt_small st n) _
def L_i_ViewOf (b : GBox) : Nat → List AV → Mem → LoopA
  | 3, tm, M => ⟨Nat, fun y => (setA tm [(5, .any), (10, .c (.int .i64 ((y : Nat) : Int))), (11, .any), (12, .any), (13, .any), (14, .any), (15, .any), (16, .any), (17, .any), (18, .any), (19, .any), (20, .any), (21, .any), (22, .any), (23, .any), (24, .any)], setM M [(2, .box [.row 3 0]), (3, .row tySpan (viewN b y) 0 0 none)]), fun y => (y ≤ List.length b.2.2.2), fun y => (List.length b.2.2.2 - y)⟩
  | _, _, _ => ⟨Unit, fun _ => ([], []), fun _ => False, fun _ => 0⟩
def k0i7fv2 (b : GBox) : List AC := [.str b.1, .int .i64 b.2.1, .int .i64 b.2.2.1, .hs .no tyMsg b.2.2.2]
set_option maxRecDepth 100000 in
set_option maxHeartbeats 400000 in
theorem b_i_ViewOf (b : GBox) (hpre : List.length b.2.2.2 ≤ 1048576) : BCalls Tryz.prog 72 [.ag (cellsOf tyBox b)] (.ag [.row 0 0]) [.row tySpan (viewOf b) 0 0 none] := by
  refine bcalls_of (T := ⟨[], [], [], [], none, fun i => match i with | 3 => [⟨some 2, 0, tySpan⟩] | _ => [], 0, [], []⟩) (L := (L_i_ViewOf b)) Tryz.func72 ⟨⟨rfl, rfl⟩, rfl⟩ (fun hwf => ?_)
  refine Eq.mpr (β := (T9 ((∃ q : Nat, (q ≤ List.length b.2.2.2) ∧ ((leV (.ag (k0i7fv2 b)) (.ag (k0i7fv2 b)) ∧ leV (.c (.bp 0 0)) (.c (.bp 0 0)) ∧ leV (.c (.bp 1 0)) (.c (.bp 1 0)) ∧ leV (.c (.bp 2 0)) (.c (.bp 2 0)) ∧ leV (.tp []) (.tp []) ∧ True ∧ leV (.ag [.raw (.slice none 0 0)]) (.ag [.raw (.slice none 0 0)]) ∧ leV (.c (.bp 0 3)) (.c (.bp 0 3)) ∧ leV (.c (.hs .no tyMsg b.2.2.2)) (.c (.hs .no tyMsg b.2.2.2)) ∧ leV (.c (.int .i64 ((List.length b.2.2.2 : Nat) : Int))) (.c (.int .i64 ((List.length b.2.2.2 : Nat) : Int))) ∧ leV (.c (.int .i64 0)) (.c (.int .i64 ((q : Nat) : Int))) ∧ True ∧ True ∧ True ∧ True ∧ True ∧ True ∧ True ∧ True ∧ True ∧ True ∧ True ∧ True ∧ True ∧ True ∧ leV (.tp []) (.tp []) ∧ True) ∧ (leB (.box (k0i7fv2 b)) (.box (k0i7fv2 b)) ∧ leB (.box [.raw (.slice none 0 0)]) (.box [.raw (.slice none 0 0)]) ∧ leB (.box [.row 3 0]) (.box [.row 3 0]) ∧ leB (.row tySpan ([] : List GSpan) 0 0 none) (.row tySpan (viewN b q) 0 0 none) ∧ True) ∧ true = true)) ∧ ∀ y0 : Nat, (y0 ≤ List.length b.2.2.2) → (True ∧ (bif (ltI ((y0 : Nat) : Int) ((List.length b.2.2.2 : Nat) : Int)) then (((3 : Nat) = 3 ∧ (0 : Int) ≤ ((y0 : Nat) : Int) ∧ (((y0 : Nat) : Int) : Int) < ((List.length b.2.2.2 : Nat) : Int)) ∧ (T11 ((True ∧ List.length (viewN b y0) + List.length ([((nth_Msg b.2.2.2 (Int.toNat ((y0 : Nat) : Int))).1, (nth_Msg b.2.2.2 (Int.toNat ((y0 : Nat) : Int))).2.1)]) ≤ rowMax) ∧ (T4 (∃ y0' : Nat, (y0' ≤ List.length b.2.2.2) ∧ (List.length b.2.2.2 - y0') < (List.length b.2.2.2 - y0) ∧ ((leV (.ag (k0i7fv2 b)) (.ag (k0i7fv2 b)) ∧ leV (.c (.bp 0 0)) (.c (.bp 0 0)) ∧ leV (.c (.bp 1 0)) (.c (.bp 1 0)) ∧ leV (.c (.bp 2 0)) (.c (.bp 2 0)) ∧ leV (.tp []) (.tp []) ∧ True ∧ leV (.ag [.raw (.slice none 0 0)]) (.ag [.raw (.slice none 0 0)]) ∧ leV (.c (.bp 0 3)) (.c (.bp 0 3)) ∧ leV (.c (.hs .no tyMsg b.2.2.2)) (.c (.hs .no tyMsg b.2.2.2)) ∧ leV (.c (.int .i64 ((List.length b.2.2.2 : Nat) : Int))) (.c (.int .i64 ((List.length b.2.2.2 : Nat) : Int))) ∧ leV (.c (.int .i64 (IntKind.wrap .i64 (((y0 : Nat) : Int) + 1)))) (.c (.int .i64 ((y0' : Nat) : Int))) ∧ True ∧ True ∧ True ∧ True ∧ True ∧ True ∧ True ∧ True ∧ True ∧ True ∧ True ∧ True ∧ True ∧ True ∧ leV (.tp []) (.tp []) ∧ True) ∧ (leB (.box (k0i7fv2 b)) (.box (k0i7fv2 b)) ∧ leB (.box [.raw (.slice none 0 0)]) (.box [.raw (.slice none 0 0)]) ∧ leB (.box [.row 3 0]) (.box [.row 3 0]) ∧ leB (.row tySpan (viewN b y0 ++ [((nth_Msg b.2.2.2 (Int.toNat ((y0 : Nat) : Int))).1, (nth_Msg b.2.2.2 (Int.toNat ((y0 : Nat) : Int))).2.1)]) 0 0 none) (.row tySpan (viewN b y0') 0 0 none) ∧ True) ∧ true = true)))))) else (T2 (((((viewN b y0) = (viewOf b)) ∧ True)) ∧ true = true))))))) (by kernel_rfl) ?_
  unfold k0i7fv2 T11 T2 T4 T9
  have hv : ∀ k, (viewN b k).length ≤ List.length b.2.2.2 := fun k => by unfold viewN; rw [List.length_map, List.length_take]; omega
  have hs : ∀ k, k < List.length b.2.2.2 → viewN b k ++ [((nth_Msg b.2.2.2 k).1, (nth_Msg b.2.2.2 k).2.1)] = viewN b (k + 1) := fun k hk => by
    unfold viewN
    rw [List.take_add_one, show b.2.2.2[k]? = some (nth_Msg b.2.2.2 k) from nth_getElem? (t := tyMsg) hk, List.map_append]
    rfl
  have he : viewN b (List.length b.2.2.2) = viewOf b := by unfold viewN viewOf; rw [List.take_length]
  have hm : List.length b.2.2.2 ≤ 1048576 := hpre
  have hr : 1048576 + 1 ≤ rowMax := by decide
  simp only [btw_iff, btw_not, flagsOk, Bool.not_true, Bool.not_false, SI2A, eq_self]
  refine ⟨⟨0, Nat.zero_le _, rfl, rfl⟩, fun k hk => ⟨fun hlt => ?_, fun hge => ?_⟩⟩
  · have hk2 := hv k
    repeat' (first | apply And.intro | intro _)
    all_goals first
      | trivial
      | omega
      | (rw [List.length_singleton]; omega)
      | exact ⟨k + 1, by omega, by omega, wrapN (by unfold maxLen; omega), hs k (by omega)⟩
  · obtain rfl : k = List.length b.2.2.2 := by omega
    repeat' (first | apply And.intro | intro _)
    all_goals first
      | trivial
      | exact he
def e_i_ViewOf : Entry Tryz.prog := ⟨72, [.s tyBox], fun x => List.length x.1.2.2.2 ≤ 1048576, fun x => .ag [.row 0 0], fun x => [.row tySpan (viewOf x.1) 0 0 none], fun x hx => b_i_ViewOf x.1 hx, Tryz.call72⟩
def L_s_ViewOf (b : GBox) : Nat → List AV → Mem → LoopA
  | 3, tm, M => ⟨Nat, fun y => (setA tm [(4, .c (.int .i64 ((y : Nat) : Int))), (6, .any), (7, .any), (8, .any), (9, .any), (10, .any), (11, .any), (12, .any), (13, .any), (14, .any), (15, .any), (16, .any), (17, .any), (18, .any), (19, .any), (20, .any), (21, .any), (22, .any), (23, .any), (24, .any), (25, .any), (26, .any), (27, .any), (28, .any), (29, .any), (30, .any)], setM M [(2, .box [.row 3 0]), (3, .row tySpan (viewN b y) 0 0 none)]), fun y => (y ≤ List.length b.2.2.2), fun y => (List.length b.2.2.2 - y)⟩
  | _, _, _ => ⟨Unit, fun _ => ([], []), fun _ => False, fun _ => 0⟩
def k0li0zg (b : GBox) : List AC := [.str b.1, .int .i64 b.2.1, .int .i64 b.2.2.1, .hs .no tyMsg b.2.2.2]
set_option maxRecDepth 100000 in
set_option maxHeartbeats 400000 in
theorem b_s_ViewOf (b : GBox) (hpre : List.length b.2.2.2 ≤ 1048576) : BCalls Tryz.prog 64 [.ag (cellsOf tyBox b)] (.ag [.row 0 0]) [.row tySpan (viewOf b) 0 0 none] := by
  refine bcalls_of (T := ⟨[], [], [], [], none, fun i => match i with | 3 => [⟨some 2, 0, tySpan⟩] | _ => [], 0, [], []⟩) (L := (L_s_ViewOf b)) Tryz.func64 ⟨⟨rfl, rfl⟩, rfl⟩ (fun hwf => ?_)
  refine Eq.mpr (β := (T6 ((∃ q : Nat, (q ≤ List.length b.2.2.2) ∧ ((leV (.ag (k0li0zg b)) (.ag (k0li0zg b)) ∧ leV (.c (.bp 0 0)) (.c (.bp 0 0)) ∧ leV (.c (.bp 1 0)) (.c (.bp 1 0)) ∧ leV (.c (.bp 2 0)) (.c (.bp 2 0)) ∧ leV (.c (.int .i64 0)) (.c (.int .i64 ((q : Nat) : Int))) ∧ leV (.ag [.raw (.slice none 0 0)]) (.ag [.raw (.slice none 0 0)]) ∧ True ∧ True ∧ True ∧ True ∧ True ∧ True ∧ True ∧ True ∧ True ∧ True ∧ True ∧ True ∧ True ∧ True ∧ True ∧ True ∧ True ∧ True ∧ True ∧ True ∧ True ∧ True ∧ True ∧ True ∧ True ∧ leV (.tp []) (.tp []) ∧ True) ∧ (leB (.box (k0li0zg b)) (.box (k0li0zg b)) ∧ leB (.box [.raw (.slice none 0 0)]) (.box [.raw (.slice none 0 0)]) ∧ leB (.box [.row 3 0]) (.box [.row 3 0]) ∧ leB (.row tySpan ([] : List GSpan) 0 0 none) (.row tySpan (viewN b q) 0 0 none) ∧ True) ∧ true = true)) ∧ ∀ y0 : Nat, (y0 ≤ List.length b.2.2.2) → (T5 (bif (ltI ((y0 : Nat) : Int) ((List.length b.2.2.2 : Nat) : Int)) then ((true = true ∧ true = true) ∧ (T5 (((3 : Nat) = 3 ∧ (0 : Int) ≤ ((y0 : Nat) : Int) ∧ (((y0 : Nat) : Int) : Int) < ((List.length b.2.2.2 : Nat) : Int)) ∧ (T5 (((3 : Nat) = 3 ∧ (0 : Int) ≤ ((y0 : Nat) : Int) ∧ (((y0 : Nat) : Int) : Int) < ((List.length b.2.2.2 : Nat) : Int)) ∧ (T4 ((True ∧ List.length (viewN b y0) + List.length ([((nth_Msg b.2.2.2 (Int.toNat ((y0 : Nat) : Int))).1, (nth_Msg b.2.2.2 (Int.toNat ((y0 : Nat) : Int))).2.1)]) ≤ rowMax) ∧ (T5 (∃ y0' : Nat, (y0' ≤ List.length b.2.2.2) ∧ (List.length b.2.2.2 - y0') < (List.length b.2.2.2 - y0) ∧ ((leV (.ag (k0li0zg b)) (.ag (k0li0zg b)) ∧ leV (.c (.bp 0 0)) (.c (.bp 0 0)) ∧ leV (.c (.bp 1 0)) (.c (.bp 1 0)) ∧ leV (.c (.bp 2 0)) (.c (.bp 2 0)) ∧ leV (.c (.int .i64 (IntKind.wrap .i64 (((y0 : Nat) : Int) + 1)))) (.c (.int .i64 ((y0' : Nat) : Int))) ∧ leV (.ag [.raw (.slice none 0 0)]) (.ag [.raw (.slice none 0 0)]) ∧ True ∧ True ∧ True ∧ True ∧ True ∧ True ∧ True ∧ True ∧ True ∧ True ∧ True ∧ True ∧ True ∧ True ∧ True ∧ True ∧ True ∧ True ∧ True ∧ True ∧ True ∧ True ∧ True ∧ True ∧ True ∧ leV (.tp []) (.tp []) ∧ True) ∧ (leB (.box (k0li0zg b)) (.box (k0li0zg b)) ∧ leB (.box [.raw (.slice none 0 0)]) (.box [.raw (.slice none 0 0)]) ∧ leB (.box [.row 3 0]) (.box [.row 3 0]) ∧ leB (.row tySpan (viewN b y0 ++ [((nth_Msg b.2.2.2 (Int.toNat ((y0 : Nat) : Int))).1, (nth_Msg b.2.2.2 (Int.toNat ((y0 : Nat) : Int))).2.1)]) 0 0 none) (.row tySpan (viewN b y0') 0 0 none) ∧ True) ∧ true = true)))))))))) else (T2 (((((viewN b y0) = (viewOf b)) ∧ True)) ∧ true = true))))))) (by kernel_rfl) ?_
  unfold k0li0zg T2 T4 T5 T6
  have hv : ∀ k, (viewN b k).length ≤ List.length b.2.2.2 := fun k => by unfold viewN; rw [List.length_map, List.length_take]; omega
  have hs : ∀ k, k < List.length b.2.2.2 → viewN b k ++ [((nth_Msg b.2.2.2 k).1, (nth_Msg b.2.2.2 k).2.1)] = viewN b (k + 1) := fun k hk => by
    unfold viewN
    rw [List.take_add_one, show b.2.2.2[k]? = some (nth_Msg b.2.2.2 k) from nth_getElem? (t := tyMsg) hk, List.map_append]
    rfl
  have he : viewN b (List.length b.2.2.2) = viewOf b := by unfold viewN viewOf; rw [List.take_length]
  have hm : List.length b.2.2.2 ≤ 1048576 := hpre
  have hr : 1048576 + 1 ≤ rowMax := by decide
  simp only [btw_iff, btw_not, flagsOk, Bool.not_true, Bool.not_false, SI2A, eq_self]
  refine ⟨⟨0, Nat.zero_le _, rfl, rfl⟩, fun k hk => ⟨fun hlt => ?_, fun hge => ?_⟩⟩
  · have hk2 := hv k
    repeat' (first | apply And.intro | intro _)
    all_goals first
      | trivial
      | omega
      | (rw [List.length_singleton]; omega)
      | exact ⟨k + 1, by omega, by omega, wrapN (by unfold maxLen; omega), hs k (by omega)⟩
  · obtain rfl : k = List.length b.2.2.2 := by omega
    repeat' (first | apply And.intro | intro _)
    all_goals first
      | trivial
      | exact he
def e_s_ViewOf : Entry Tryz.prog := ⟨64, [.s tyBox], fun x => List.length x.1.2.2.2 ≤ 1048576, fun x => .ag [.row 0 0], fun x => [.row tySpan (viewOf x.1) 0 0 none], fun x hx => b_s_ViewOf x.1 hx, Tryz.call64⟩
set_option maxRecDepth 100000 in
set_option maxHeartbeats 400000 in
theorem b_i_TrueView (st : GStore) (s : GSession) : BCalls Tryz.prog 20 [.ag (cellsOf tyStore st), .ag (cellsOf tySession s)] (.c (.bool (trueV st s))) [] := by
  refine bcalls_of (T := ⟨[e_i_BoxAt, e_i_BoxWith, e_i_ViewOf, e_i_SameView], [], [], [], none, fun _ => [], 0, [], []⟩) (L := L0) Tryz.func20 ⟨⟨rfl, rfl⟩, rfl⟩ (fun hwf => ?_)
  refine Eq.mpr (β := (T6 (bif (neI s.2.1 3) then (True ∧ ((true = true ∧ leC (.bool true) (.bool (trueV st s))) ∧ true = true)) else (T5 ((True ∧ true = true) ∧ (T6 ((true = true ∧ true = true) ∧ (T2 (bif (bxAt st s.2.2.1 s.2.2.2.1).2 then (T4 ((True ∧ true = true) ∧ (T3 (bif (geI (boxW st.1 s.2.2.1) 0) then (T3 ((List.length ((bxAt st s.2.2.1 s.2.2.2.1).1).2.2.2 ≤ 1048576 ∧ true = true ∧ true = true) ∧ ((True ∧ true = true ∧ true = true) ∧ (T2 ((true = true ∧ leC (.bool (eqT_LSpan (viewOf ((bxAt st s.2.2.1 s.2.2.2.1).1)) s.2.2.2.2.1)) (.bool (trueV st s))) ∧ true = true))))) else (T2 ((true = true ∧ leC (.bool false) (.bool (trueV st s))) ∧ true = true)))))) else (T4 ((true = true ∧ leC (.bool false) (.bool (trueV st s))) ∧ true = true))))))))))) (by kernel_rfl) ?_
  unfold T2 T3 T4 T5 T6
  have hsm := bxAt_small st s.2.2.1 s.2.2.2.1
  simp only [btw_iff, btw_not, flagsOk, Bool.not_true, Bool.not_false, SI2A, eq_self]
  repeat' (first | apply And.intro | intro _)
  all_goals first
    | trivial
    | omega
    | (simp_all [trueV, eqI, neI, geI]; done)
    | (simp_all [trueV, eqI, neI, geI]; omega)
def e_i_TrueView : Entry Tryz.prog := ⟨20, [.s tyStore, .s tySession], fun x => True, fun x => .c (.bool (trueV x.1 x.2.1)), fun _ => [], fun x hx => b_i_TrueView x.1 x.2.1, Tryz.call20⟩
set_option maxRecDepth 100000 in
set_option maxHeartbeats 400000 in
theorem b_s_TrueView (st : GStore) (s : GSession) : BCalls Tryz.prog 18 [.ag (cellsOf tyStore st), .ag (cellsOf tySession s)] (.c (.bool (trueV st s))) [] := by
  refine bcalls_of (T := ⟨[e_s_BoxAt, e_s_BoxWith, e_s_ViewOf, e_s_SameView], [], [], [], none, fun _ => [], 0, [], []⟩) (L := L0) Tryz.func18 ⟨⟨rfl, rfl⟩, rfl⟩ (fun hwf => ?_)
  refine Eq.mpr (β := (T6 (bif (neI s.2.1 3) then (True ∧ ((true = true ∧ leC (.bool true) (.bool (trueV st s))) ∧ true = true)) else (T5 ((True ∧ true = true) ∧ (T6 ((true = true ∧ true = true) ∧ (T2 (bif (bxAt st s.2.2.1 s.2.2.2.1).2 then (T4 ((True ∧ true = true) ∧ (T3 (bif (geI (boxW st.1 s.2.2.1) 0) then (T3 ((List.length ((bxAt st s.2.2.1 s.2.2.2.1).1).2.2.2 ≤ 1048576 ∧ true = true ∧ true = true) ∧ ((True ∧ true = true ∧ true = true) ∧ (T2 ((true = true ∧ leC (.bool (eqT_LSpan (viewOf ((bxAt st s.2.2.1 s.2.2.2.1).1)) s.2.2.2.2.1)) (.bool (trueV st s))) ∧ true = true))))) else (T2 ((true = true ∧ leC (.bool false) (.bool (trueV st s))) ∧ true = true)))))) else (T4 ((true = true ∧ leC (.bool false) (.bool (trueV st s))) ∧ true = true))))))))))) (by kernel_rfl) ?_
  unfold T2 T3 T4 T5 T6
  have hsm := bxAt_small st s.2.2.1 s.2.2.2.1
  simp only [btw_iff, btw_not, flagsOk, Bool.not_true, Bool.not_false, SI2A, eq_self]
  repeat' (first | apply And.intro | intro _)
  all_goals first
    | trivial
    | omega
    | (simp_all [trueV, eqI, neI, geI]; done)
    | (simp_all [trueV, eqI, neI, geI]; omega)
def e_s_TrueView : Entry Tryz.prog := ⟨18, [.s tyStore, .s tySession], fun x => True, fun x => .c (.bool (trueV x.1 x.2.1)), fun _ => [], fun x hx => b_s_TrueView x.1 x.2.1, Tryz.call18⟩
end Go.Proofs.YtigebfhekmjhmaaGreat
