/-
  Contracts of the laws' functions eqX.
  No condition but what the arguments' cells hold. Printed by vcgen.py.
-/
import Derived.Test.YtigebfhekmjhmaaGreatXBmTy
set_option linter.unusedSimpArgs false
set_option linter.unusedVariables false
namespace Go.Proofs.YtigebfhekmjhmaaGreat
open Go.ChangeShapes Go.WideShapes Go.ChangeAt Go.RowKit Go.Joins Go.Deep
open GoRep (rep bulk)

def L_l_eqStringS (a : List ByteArray) (b : List ByteArray) : Nat → List AV → Mem → LoopA
  | 4, tm, M => ⟨Nat, fun y => (setA tm [(4, .any), (5, .c (.int .i64 ((y : Nat) : Int))), (11, .any), (12, .any), (13, .any), (14, .any), (15, .any), (16, .any), (17, .any), (18, .any), (19, .any), (20, .any), (21, .any), (22, .any), (23, .any), (24, .any), (25, .any)], M), fun y => (y ≤ List.length a ∧ ∀ j, j < y → nth_String a j = nth_String b j), fun y => (List.length a - y)⟩
  | _, _, _ => ⟨Unit, fun _ => ([], []), fun _ => False, fun _ => 0⟩
set_option maxRecDepth 100000 in
set_option maxHeartbeats 400000 in
theorem b_l_eqStringS (a : List ByteArray) (b : List ByteArray) : BCalls Tryz.prog 253 [.c (.hs .no tyStr a), .c (.hs .no tyStr b)] (.c (.bool (eqT_LString a b))) [] := by
  refine bcalls_of (T := ⟨[], [], [], [], none, fun _ => [], 0, [], []⟩) (L := (L_l_eqStringS a b)) Tryz.func253 ⟨⟨rfl, rfl⟩, rfl⟩ (fun hwf => ?_)
  refine Eq.mpr (β := (T6 (bif (neI ((List.length a : Nat) : Int) ((List.length b : Nat) : Int)) then (True ∧ ((true = true ∧ leC (.bool false) (.bool (eqT_LString a b))) ∧ true = true)) else (True ∧ ((∃ q : Nat, (q ≤ List.length a ∧ ∀ j, j < q → nth_String a j = nth_String b j) ∧ ((leV (.c (.hs .no tyStr a)) (.c (.hs .no tyStr a)) ∧ leV (.c (.hs .no tyStr b)) (.c (.hs .no tyStr b)) ∧ leV (.tp []) (.tp []) ∧ leV (.tp []) (.tp []) ∧ True ∧ leV (.c (.int .i64 0)) (.c (.int .i64 ((q : Nat) : Int))) ∧ leV (.c (.hs .no tyStr a)) (.c (.hs .no tyStr a)) ∧ leV (.c (.int .i64 ((List.length a : Nat) : Int))) (.c (.int .i64 ((List.length a : Nat) : Int))) ∧ leV (.c (.hs .no tyStr b)) (.c (.hs .no tyStr b)) ∧ leV (.c (.int .i64 ((List.length b : Nat) : Int))) (.c (.int .i64 ((List.length b : Nat) : Int))) ∧ leV (.c (.bool false)) (.c (.bool false)) ∧ True ∧ True ∧ True ∧ True ∧ True ∧ True ∧ True ∧ True ∧ True ∧ True ∧ True ∧ True ∧ True ∧ True ∧ True ∧ True) ∧ (True) ∧ true = true)) ∧ ∀ y0 : Nat, (y0 ≤ List.length a ∧ ∀ j, j < y0 → nth_String a j = nth_String b j) → (T4 (bif (ltI ((y0 : Nat) : Int) ((List.length a : Nat) : Int)) then ((true = true ∧ true = true) ∧ (T2 (((1 : Nat) = 1 ∧ (0 : Int) ≤ ((y0 : Nat) : Int) ∧ (((y0 : Nat) : Int) : Int) < ((List.length a : Nat) : Int)) ∧ (T3 (((1 : Nat) = 1 ∧ (0 : Int) ≤ ((y0 : Nat) : Int) ∧ (((y0 : Nat) : Int) : Int) < ((List.length b : Nat) : Int)) ∧ (T2 (bif (!eqS (nth_String a (Int.toNat ((y0 : Nat) : Int))) (nth_String b (Int.toNat ((y0 : Nat) : Int)))) then (True ∧ ((true = true ∧ leC (.bool false) (.bool (eqT_LString a b))) ∧ true = true)) else (T3 (∃ y0' : Nat, (y0' ≤ List.length a ∧ ∀ j, j < y0' → nth_String a j = nth_String b j) ∧ (List.length a - y0') < (List.length a - y0) ∧ ((leV (.c (.hs .no tyStr a)) (.c (.hs .no tyStr a)) ∧ leV (.c (.hs .no tyStr b)) (.c (.hs .no tyStr b)) ∧ leV (.tp []) (.tp []) ∧ leV (.tp []) (.tp []) ∧ True ∧ leV (.c (.int .i64 (IntKind.wrap .i64 (((y0 : Nat) : Int) + 1)))) (.c (.int .i64 ((y0' : Nat) : Int))) ∧ leV (.c (.hs .no tyStr a)) (.c (.hs .no tyStr a)) ∧ leV (.c (.int .i64 ((List.length a : Nat) : Int))) (.c (.int .i64 ((List.length a : Nat) : Int))) ∧ leV (.c (.hs .no tyStr b)) (.c (.hs .no tyStr b)) ∧ leV (.c (.int .i64 ((List.length b : Nat) : Int))) (.c (.int .i64 ((List.length b : Nat) : Int))) ∧ leV (.c (.bool false)) (.c (.bool false)) ∧ True ∧ True ∧ True ∧ True ∧ True ∧ True ∧ True ∧ True ∧ True ∧ True ∧ True ∧ True ∧ True ∧ True ∧ True ∧ True) ∧ (True) ∧ true = true)))))))))) else (True ∧ ((true = true ∧ leC (.bool true) (.bool (eqT_LString a b))) ∧ true = true))))))))) (by kernel_rfl) ?_
  unfold T2 T3 T4 T6
  simp only [SIA, eq_self]
  have hm0 : List.length a ≤ maxLen := hwf.1.1
  repeat' (first | apply And.intro | intro _)
  all_goals (first
    | trivial
    | omega
    | exact ⟨0, ⟨Nat.zero_le _, allN_zero⟩, rfl⟩
    | (refine ⟨_, ⟨?_, allN_step (And.right (by assumption)) ?_⟩, ?_, wrapN ?_⟩ <;> first | omega | (simp_all [Prod.ext_iff, EQA]; done))
    | exact (eqT_LString_false.2 (fun e => by subst e; simp_all [EQA])).symm
    | exact (eqT_LString_true.2 (by have hx := eq_of_nth (t := tyStr) (xs := a) (ys := b) (show List.length a = List.length b by omega) (fun j hj => (by assumption : _ ≤ List.length a ∧ ∀ j, j < _ → nth_String a j = nth_String b j).2 j (by have hj' : j < List.length a := hj; omega)); simp_all [Prod.ext_iff, EQA])).symm
    | (rw [Bool.eq_iff_iff]; simp_all [Prod.ext_iff, EQA]; done)
    | (simp_all [Prod.ext_iff, EQA]; done))
def e_l_eqStringS : Entry Tryz.prog := ⟨253, [.v (.list tyStr), .v (.list tyStr)], fun x => True, fun x => .c (.bool (eqT_LString x.1 x.2.1)), fun _ => [], fun x hx => b_l_eqStringS x.1 x.2.1, Tryz.call253⟩
set_option maxRecDepth 100000 in
set_option maxHeartbeats 4000000 in
theorem b_l_eqScope (a : GScope) (b : GScope) : BCalls Tryz.prog 201 [.ag [.int .i64 a.1, .hs .no tyStr a.2.1, .int .i64 a.2.2], .ag [.int .i64 b.1, .hs .no tyStr b.2.1, .int .i64 b.2.2]] (.c (.bool (eqT_Scope a b))) [] := by
  refine bcalls_of (T := ⟨[e_l_eqStringS], [], [], [], none, fun _ => [], 0, [], []⟩) (L := L0) Tryz.func201 ⟨⟨rfl, rfl⟩, rfl⟩ (fun hwf => ?_)
  refine Eq.mpr (β := (True ∧ (True ∧ (True ∧ (True ∧ (True ∧ (True ∧ (True ∧ (True ∧ (bif (neI a.1 b.1) then (True ∧ ((true = true ∧ leC (.bool false) (.bool (eqT_Scope a b))) ∧ true = true)) else (True ∧ (True ∧ (True ∧ (True ∧ ((True ∧ true = true) ∧ (True ∧ (bif (!(eqT_LString a.2.1 b.2.1)) then (True ∧ ((true = true ∧ leC (.bool false) (.bool (eqT_Scope a b))) ∧ true = true)) else (True ∧ (True ∧ (True ∧ (True ∧ (True ∧ (bif (neI a.2.2 b.2.2) then (True ∧ ((true = true ∧ leC (.bool false) (.bool (eqT_Scope a b))) ∧ true = true)) else (True ∧ ((true = true ∧ leC (.bool true) (.bool (eqT_Scope a b))) ∧ true = true))))))))))))))))))))))))) (by kernel_rfl) ?_
  simp only [SIA, eq_self]
  repeat' (first | apply And.intro | intro _)
  all_goals (first
    | trivial
    | omega
    | exact (eqT_Scope_false.2 (fun e => by subst e; simp_all [EQA])).symm
    | (rw [Bool.eq_iff_iff]; simp_all [Prod.ext_iff, EQA]; done)
    | (simp_all [Prod.ext_iff, EQA]; done))
def e_l_eqScope : Entry Tryz.prog := ⟨201, [.s tyScope, .s tyScope], fun x => True, fun x => .c (.bool (eqT_Scope x.1 x.2.1)), fun _ => [], fun x hx => b_l_eqScope x.1 x.2.1, Tryz.call201⟩
def L_l_eqScopeS (a : List GScope) (b : List GScope) : Nat → List AV → Mem → LoopA
  | 4, tm, M => ⟨Nat, fun y => (setA tm [(4, .any), (5, .c (.int .i64 ((y : Nat) : Int))), (11, .any), (12, .any), (13, .any), (14, .any), (15, .any), (16, .any), (17, .any), (18, .any), (19, .any), (20, .any), (21, .any), (22, .any), (23, .any), (24, .any), (25, .any), (26, .any)], M), fun y => (y ≤ List.length a ∧ ∀ j, j < y → nth_Scope a j = nth_Scope b j), fun y => (List.length a - y)⟩
  | _, _, _ => ⟨Unit, fun _ => ([], []), fun _ => False, fun _ => 0⟩
set_option maxRecDepth 100000 in
set_option maxHeartbeats 400000 in
theorem b_l_eqScopeS (a : List GScope) (b : List GScope) : BCalls Tryz.prog 140 [.c (.hs .no tyScope a), .c (.hs .no tyScope b)] (.c (.bool (eqT_LScope a b))) [] := by
  refine bcalls_of (T := ⟨[e_l_eqScope], [], [], [], none, fun _ => [], 0, [], []⟩) (L := (L_l_eqScopeS a b)) Tryz.func140 ⟨⟨rfl, rfl⟩, rfl⟩ (fun hwf => ?_)
  refine Eq.mpr (β := (T6 (bif (neI ((List.length a : Nat) : Int) ((List.length b : Nat) : Int)) then (True ∧ ((true = true ∧ leC (.bool false) (.bool (eqT_LScope a b))) ∧ true = true)) else (True ∧ ((∃ q : Nat, (q ≤ List.length a ∧ ∀ j, j < q → nth_Scope a j = nth_Scope b j) ∧ ((leV (.c (.hs .no tyScope a)) (.c (.hs .no tyScope a)) ∧ leV (.c (.hs .no tyScope b)) (.c (.hs .no tyScope b)) ∧ leV (.tp []) (.tp []) ∧ leV (.tp []) (.tp []) ∧ True ∧ leV (.c (.int .i64 0)) (.c (.int .i64 ((q : Nat) : Int))) ∧ leV (.c (.hs .no tyScope a)) (.c (.hs .no tyScope a)) ∧ leV (.c (.int .i64 ((List.length a : Nat) : Int))) (.c (.int .i64 ((List.length a : Nat) : Int))) ∧ leV (.c (.hs .no tyScope b)) (.c (.hs .no tyScope b)) ∧ leV (.c (.int .i64 ((List.length b : Nat) : Int))) (.c (.int .i64 ((List.length b : Nat) : Int))) ∧ leV (.c (.bool false)) (.c (.bool false)) ∧ True ∧ True ∧ True ∧ True ∧ True ∧ True ∧ True ∧ True ∧ True ∧ True ∧ True ∧ True ∧ True ∧ True ∧ True ∧ True ∧ True) ∧ (True) ∧ true = true)) ∧ ∀ y0 : Nat, (y0 ≤ List.length a ∧ ∀ j, j < y0 → nth_Scope a j = nth_Scope b j) → (T4 (bif (ltI ((y0 : Nat) : Int) ((List.length a : Nat) : Int)) then ((true = true ∧ true = true) ∧ (T2 (((3 : Nat) = 3 ∧ (0 : Int) ≤ ((y0 : Nat) : Int) ∧ (((y0 : Nat) : Int) : Int) < ((List.length a : Nat) : Int)) ∧ (T3 (((3 : Nat) = 3 ∧ (0 : Int) ≤ ((y0 : Nat) : Int) ∧ (((y0 : Nat) : Int) : Int) < ((List.length b : Nat) : Int)) ∧ (True ∧ ((True ∧ true = true) ∧ (True ∧ (bif (!(eqT_Scope (nth_Scope a (Int.toNat ((y0 : Nat) : Int))) (nth_Scope b (Int.toNat ((y0 : Nat) : Int))))) then (True ∧ ((true = true ∧ leC (.bool false) (.bool (eqT_LScope a b))) ∧ true = true)) else (T3 (∃ y0' : Nat, (y0' ≤ List.length a ∧ ∀ j, j < y0' → nth_Scope a j = nth_Scope b j) ∧ (List.length a - y0') < (List.length a - y0) ∧ ((leV (.c (.hs .no tyScope a)) (.c (.hs .no tyScope a)) ∧ leV (.c (.hs .no tyScope b)) (.c (.hs .no tyScope b)) ∧ leV (.tp []) (.tp []) ∧ leV (.tp []) (.tp []) ∧ True ∧ leV (.c (.int .i64 (IntKind.wrap .i64 (((y0 : Nat) : Int) + 1)))) (.c (.int .i64 ((y0' : Nat) : Int))) ∧ leV (.c (.hs .no tyScope a)) (.c (.hs .no tyScope a)) ∧ leV (.c (.int .i64 ((List.length a : Nat) : Int))) (.c (.int .i64 ((List.length a : Nat) : Int))) ∧ leV (.c (.hs .no tyScope b)) (.c (.hs .no tyScope b)) ∧ leV (.c (.int .i64 ((List.length b : Nat) : Int))) (.c (.int .i64 ((List.length b : Nat) : Int))) ∧ leV (.c (.bool false)) (.c (.bool false)) ∧ True ∧ True ∧ True ∧ True ∧ True ∧ True ∧ True ∧ True ∧ True ∧ True ∧ True ∧ True ∧ True ∧ True ∧ True ∧ True ∧ True) ∧ (True) ∧ true = true)))))))))))) else (True ∧ ((true = true ∧ leC (.bool true) (.bool (eqT_LScope a b))) ∧ true = true))))))))) (by kernel_rfl) ?_
  unfold T2 T3 T4 T6
  simp only [SIA, eq_self]
  have hm0 : List.length a ≤ maxLen := hwf.1.1
  repeat' (first | apply And.intro | intro _)
  all_goals (first
    | trivial
    | omega
    | exact ⟨0, ⟨Nat.zero_le _, allN_zero⟩, rfl⟩
    | (refine ⟨_, ⟨?_, allN_step (And.right (by assumption)) ?_⟩, ?_, wrapN ?_⟩ <;> first | omega | (simp_all [Prod.ext_iff, EQA]; done))
    | exact (eqT_LScope_false.2 (fun e => by subst e; simp_all [EQA])).symm
    | exact (eqT_LScope_true.2 (by have hx := eq_of_nth (t := tyScope) (xs := a) (ys := b) (show List.length a = List.length b by omega) (fun j hj => (by assumption : _ ≤ List.length a ∧ ∀ j, j < _ → nth_Scope a j = nth_Scope b j).2 j (by have hj' : j < List.length a := hj; omega)); simp_all [Prod.ext_iff, EQA])).symm
    | (rw [Bool.eq_iff_iff]; simp_all [Prod.ext_iff, EQA]; done)
    | (simp_all [Prod.ext_iff, EQA]; done))
def e_l_eqScopeS : Entry Tryz.prog := ⟨140, [.v (.list tyScope), .v (.list tyScope)], fun x => True, fun x => .c (.bool (eqT_LScope x.1 x.2.1)), fun _ => [], fun x hx => b_l_eqScopeS x.1 x.2.1, Tryz.call140⟩
set_option maxRecDepth 100000 in
set_option maxHeartbeats 4000000 in
theorem b_l_eqFilter (a : GFilter) (b : GFilter) : BCalls Tryz.prog 74 [.ag [.bool a.1, .hs .no tyScope a.2], .ag [.bool b.1, .hs .no tyScope b.2]] (.c (.bool (eqT_Filter a b))) [] := by
  refine bcalls_of (T := ⟨[e_l_eqScopeS], [], [], [], none, fun _ => [], 0, [], []⟩) (L := L0) Tryz.func74 ⟨⟨rfl, rfl⟩, rfl⟩ (fun hwf => ?_)
  refine Eq.mpr (β := (True ∧ (True ∧ (True ∧ (True ∧ (True ∧ (True ∧ (True ∧ (some TypeDesc.bool = some TypeDesc.bool ∧ (bif (!eqO a.1 b.1) then (True ∧ ((true = true ∧ leC (.bool false) (.bool (eqT_Filter a b))) ∧ true = true)) else (True ∧ (True ∧ (True ∧ (True ∧ ((True ∧ true = true) ∧ (True ∧ (bif (!(eqT_LScope a.2 b.2)) then (True ∧ ((true = true ∧ leC (.bool false) (.bool (eqT_Filter a b))) ∧ true = true)) else (True ∧ ((true = true ∧ leC (.bool true) (.bool (eqT_Filter a b))) ∧ true = true))))))))))))))))))) (by kernel_rfl) ?_
  simp only [SIA, eq_self]
  repeat' (first | apply And.intro | intro _)
  all_goals (first
    | trivial
    | omega
    | exact (eqT_Filter_false.2 (fun e => by subst e; simp_all [EQA])).symm
    | (rw [Bool.eq_iff_iff]; simp_all [Prod.ext_iff, EQA]; done)
    | (simp_all [Prod.ext_iff, EQA]; done))
def e_l_eqFilter : Entry Tryz.prog := ⟨74, [.s tyFilter, .s tyFilter], fun x => True, fun x => .c (.bool (eqT_Filter x.1 x.2.1)), fun _ => [], fun x hx => b_l_eqFilter x.1 x.2.1, Tryz.call74⟩
set_option maxRecDepth 100000 in
set_option maxHeartbeats 4000000 in
theorem b_l_eqMsg (a : GMsg) (b : GMsg) : BCalls Tryz.prog 250 [.ag [.int .i64 a.1, .int .i64 a.2.1, .str a.2.2], .ag [.int .i64 b.1, .int .i64 b.2.1, .str b.2.2]] (.c (.bool (eqT_Msg a b))) [] := by
  refine bcalls_of (T := ⟨[], [], [], [], none, fun _ => [], 0, [], []⟩) (L := L0) Tryz.func250 ⟨⟨rfl, rfl⟩, rfl⟩ (fun hwf => ?_)
  refine Eq.mpr (β := (True ∧ (True ∧ (True ∧ (True ∧ (True ∧ (True ∧ (True ∧ (True ∧ (bif (neI a.1 b.1) then (True ∧ ((true = true ∧ leC (.bool false) (.bool (eqT_Msg a b))) ∧ true = true)) else (True ∧ (True ∧ (True ∧ (True ∧ (True ∧ (bif (neI a.2.1 b.2.1) then (True ∧ ((true = true ∧ leC (.bool false) (.bool (eqT_Msg a b))) ∧ true = true)) else (True ∧ (True ∧ (True ∧ (True ∧ (True ∧ (bif (!eqS a.2.2 b.2.2) then (True ∧ ((true = true ∧ leC (.bool false) (.bool (eqT_Msg a b))) ∧ true = true)) else (True ∧ ((true = true ∧ leC (.bool true) (.bool (eqT_Msg a b))) ∧ true = true)))))))))))))))))))))))) (by kernel_rfl) ?_
  simp only [SIA, eq_self]
  repeat' (first | apply And.intro | intro _)
  all_goals (first
    | trivial
    | omega
    | exact (eqT_Msg_false.2 (fun e => by subst e; simp_all [EQA])).symm
    | (rw [Bool.eq_iff_iff]; simp_all [Prod.ext_iff, EQA]; done)
    | (simp_all [Prod.ext_iff, EQA]; done))
def e_l_eqMsg : Entry Tryz.prog := ⟨250, [.s tyMsg, .s tyMsg], fun x => True, fun x => .c (.bool (eqT_Msg x.1 x.2.1)), fun _ => [], fun x hx => b_l_eqMsg x.1 x.2.1, Tryz.call250⟩
def L_l_eqMsgS (a : List GMsg) (b : List GMsg) : Nat → List AV → Mem → LoopA
  | 4, tm, M => ⟨Nat, fun y => (setA tm [(4, .any), (5, .c (.int .i64 ((y : Nat) : Int))), (11, .any), (12, .any), (13, .any), (14, .any), (15, .any), (16, .any), (17, .any), (18, .any), (19, .any), (20, .any), (21, .any), (22, .any), (23, .any), (24, .any), (25, .any), (26, .any)], M), fun y => (y ≤ List.length a ∧ ∀ j, j < y → nth_Msg a j = nth_Msg b j), fun y => (List.length a - y)⟩
  | _, _, _ => ⟨Unit, fun _ => ([], []), fun _ => False, fun _ => 0⟩
set_option maxRecDepth 100000 in
set_option maxHeartbeats 400000 in
theorem b_l_eqMsgS (a : List GMsg) (b : List GMsg) : BCalls Tryz.prog 194 [.c (.hs .no tyMsg a), .c (.hs .no tyMsg b)] (.c (.bool (eqT_LMsg a b))) [] := by
  refine bcalls_of (T := ⟨[e_l_eqMsg], [], [], [], none, fun _ => [], 0, [], []⟩) (L := (L_l_eqMsgS a b)) Tryz.func194 ⟨⟨rfl, rfl⟩, rfl⟩ (fun hwf => ?_)
  refine Eq.mpr (β := (T6 (bif (neI ((List.length a : Nat) : Int) ((List.length b : Nat) : Int)) then (True ∧ ((true = true ∧ leC (.bool false) (.bool (eqT_LMsg a b))) ∧ true = true)) else (True ∧ ((∃ q : Nat, (q ≤ List.length a ∧ ∀ j, j < q → nth_Msg a j = nth_Msg b j) ∧ ((leV (.c (.hs .no tyMsg a)) (.c (.hs .no tyMsg a)) ∧ leV (.c (.hs .no tyMsg b)) (.c (.hs .no tyMsg b)) ∧ leV (.tp []) (.tp []) ∧ leV (.tp []) (.tp []) ∧ True ∧ leV (.c (.int .i64 0)) (.c (.int .i64 ((q : Nat) : Int))) ∧ leV (.c (.hs .no tyMsg a)) (.c (.hs .no tyMsg a)) ∧ leV (.c (.int .i64 ((List.length a : Nat) : Int))) (.c (.int .i64 ((List.length a : Nat) : Int))) ∧ leV (.c (.hs .no tyMsg b)) (.c (.hs .no tyMsg b)) ∧ leV (.c (.int .i64 ((List.length b : Nat) : Int))) (.c (.int .i64 ((List.length b : Nat) : Int))) ∧ leV (.c (.bool false)) (.c (.bool false)) ∧ True ∧ True ∧ True ∧ True ∧ True ∧ True ∧ True ∧ True ∧ True ∧ True ∧ True ∧ True ∧ True ∧ True ∧ True ∧ True ∧ True) ∧ (True) ∧ true = true)) ∧ ∀ y0 : Nat, (y0 ≤ List.length a ∧ ∀ j, j < y0 → nth_Msg a j = nth_Msg b j) → (T4 (bif (ltI ((y0 : Nat) : Int) ((List.length a : Nat) : Int)) then ((true = true ∧ true = true) ∧ (T2 (((3 : Nat) = 3 ∧ (0 : Int) ≤ ((y0 : Nat) : Int) ∧ (((y0 : Nat) : Int) : Int) < ((List.length a : Nat) : Int)) ∧ (T3 (((3 : Nat) = 3 ∧ (0 : Int) ≤ ((y0 : Nat) : Int) ∧ (((y0 : Nat) : Int) : Int) < ((List.length b : Nat) : Int)) ∧ (True ∧ ((True ∧ true = true) ∧ (True ∧ (bif (!(eqT_Msg (nth_Msg a (Int.toNat ((y0 : Nat) : Int))) (nth_Msg b (Int.toNat ((y0 : Nat) : Int))))) then (True ∧ ((true = true ∧ leC (.bool false) (.bool (eqT_LMsg a b))) ∧ true = true)) else (T3 (∃ y0' : Nat, (y0' ≤ List.length a ∧ ∀ j, j < y0' → nth_Msg a j = nth_Msg b j) ∧ (List.length a - y0') < (List.length a - y0) ∧ ((leV (.c (.hs .no tyMsg a)) (.c (.hs .no tyMsg a)) ∧ leV (.c (.hs .no tyMsg b)) (.c (.hs .no tyMsg b)) ∧ leV (.tp []) (.tp []) ∧ leV (.tp []) (.tp []) ∧ True ∧ leV (.c (.int .i64 (IntKind.wrap .i64 (((y0 : Nat) : Int) + 1)))) (.c (.int .i64 ((y0' : Nat) : Int))) ∧ leV (.c (.hs .no tyMsg a)) (.c (.hs .no tyMsg a)) ∧ leV (.c (.int .i64 ((List.length a : Nat) : Int))) (.c (.int .i64 ((List.length a : Nat) : Int))) ∧ leV (.c (.hs .no tyMsg b)) (.c (.hs .no tyMsg b)) ∧ leV (.c (.int .i64 ((List.length b : Nat) : Int))) (.c (.int .i64 ((List.length b : Nat) : Int))) ∧ leV (.c (.bool false)) (.c (.bool false)) ∧ True ∧ True ∧ True ∧ True ∧ True ∧ True ∧ True ∧ True ∧ True ∧ True ∧ True ∧ True ∧ True ∧ True ∧ True ∧ True ∧ True) ∧ (True) ∧ true = true)))))))))))) else (True ∧ ((true = true ∧ leC (.bool true) (.bool (eqT_LMsg a b))) ∧ true = true))))))))) (by kernel_rfl) ?_
  unfold T2 T3 T4 T6
  simp only [SIA, eq_self]
  have hm0 : List.length a ≤ maxLen := hwf.1.1
  repeat' (first | apply And.intro | intro _)
  all_goals (first
    | trivial
    | omega
    | exact ⟨0, ⟨Nat.zero_le _, allN_zero⟩, rfl⟩
    | (refine ⟨_, ⟨?_, allN_step (And.right (by assumption)) ?_⟩, ?_, wrapN ?_⟩ <;> first | omega | (simp_all [Prod.ext_iff, EQA]; done))
    | exact (eqT_LMsg_false.2 (fun e => by subst e; simp_all [EQA])).symm
    | exact (eqT_LMsg_true.2 (by have hx := eq_of_nth (t := tyMsg) (xs := a) (ys := b) (show List.length a = List.length b by omega) (fun j hj => (by assumption : _ ≤ List.length a ∧ ∀ j, j < _ → nth_Msg a j = nth_Msg b j).2 j (by have hj' : j < List.length a := hj; omega)); simp_all [Prod.ext_iff, EQA])).symm
    | (rw [Bool.eq_iff_iff]; simp_all [Prod.ext_iff, EQA]; done)
    | (simp_all [Prod.ext_iff, EQA]; done))
def e_l_eqMsgS : Entry Tryz.prog := ⟨194, [.v (.list tyMsg), .v (.list tyMsg)], fun x => True, fun x => .c (.bool (eqT_LMsg x.1 x.2.1)), fun _ => [], fun x hx => b_l_eqMsgS x.1 x.2.1, Tryz.call194⟩
def k0l1vsg (a : GBox) (b : GBox) : Prop := (True ∧ ((true = true ∧ leC (.bool false) (.bool (eqT_Box a b))) ∧ true = true))
set_option maxRecDepth 100000 in
set_option maxHeartbeats 4000000 in
theorem b_l_eqBox (a : GBox) (b : GBox) : BCalls Tryz.prog 128 [.ag (cellsOf tyBox a), .ag (cellsOf tyBox b)] (.c (.bool (eqT_Box a b))) [] := by
  refine bcalls_of (T := ⟨[e_l_eqMsgS], [], [], [], none, fun _ => [], 0, [], []⟩) (L := L0) Tryz.func128 ⟨⟨rfl, rfl⟩, rfl⟩ (fun hwf => ?_)
  refine Eq.mpr (β := (T8 (bif (!eqS a.1 b.1) then (k0l1vsg a b) else (T5 (bif (neI a.2.1 b.2.1) then (k0l1vsg a b) else (T5 (bif (neI a.2.2.1 b.2.2.1) then (k0l1vsg a b) else (T4 ((True ∧ true = true) ∧ (True ∧ (bif (!(eqT_LMsg a.2.2.2 b.2.2.2)) then (k0l1vsg a b) else (True ∧ ((true = true ∧ leC (.bool true) (.bool (eqT_Box a b))) ∧ true = true))))))))))))) (by kernel_rfl) ?_
  unfold k0l1vsg T4 T5 T8
  simp only [SIA, eq_self]
  repeat' (first | apply And.intro | intro _)
  all_goals (first
    | trivial
    | omega
    | exact (eqT_Box_false.2 (fun e => by subst e; simp_all [EQA])).symm
    | (rw [Bool.eq_iff_iff]; simp_all [Prod.ext_iff, EQA]; done)
    | (simp_all [Prod.ext_iff, EQA]; done))
def e_l_eqBox : Entry Tryz.prog := ⟨128, [.s tyBox, .s tyBox], fun x => True, fun x => .c (.bool (eqT_Box x.1 x.2.1)), fun _ => [], fun x hx => b_l_eqBox x.1 x.2.1, Tryz.call128⟩
def L_l_eqBoxS (a : List GBox) (b : List GBox) : Nat → List AV → Mem → LoopA
  | 4, tm, M => ⟨Nat, fun y => (setA tm [(4, .any), (5, .c (.int .i64 ((y : Nat) : Int))), (11, .any), (12, .any), (13, .any), (14, .any), (15, .any), (16, .any), (17, .any), (18, .any), (19, .any), (20, .any), (21, .any), (22, .any), (23, .any), (24, .any), (25, .any), (26, .any)], M), fun y => (y ≤ List.length a ∧ ∀ j, j < y → nth_Box a j = nth_Box b j), fun y => (List.length a - y)⟩
  | _, _, _ => ⟨Unit, fun _ => ([], []), fun _ => False, fun _ => 0⟩
set_option maxRecDepth 100000 in
set_option maxHeartbeats 400000 in
theorem b_l_eqBoxS (a : List GBox) (b : List GBox) : BCalls Tryz.prog 55 [.c (.hs .no tyBox a), .c (.hs .no tyBox b)] (.c (.bool (eqT_LBox a b))) [] := by
  refine bcalls_of (T := ⟨[e_l_eqBox], [], [], [], none, fun _ => [], 0, [], []⟩) (L := (L_l_eqBoxS a b)) Tryz.func55 ⟨⟨rfl, rfl⟩, rfl⟩ (fun hwf => ?_)
  refine Eq.mpr (β := (T6 (bif (neI ((List.length a : Nat) : Int) ((List.length b : Nat) : Int)) then (True ∧ ((true = true ∧ leC (.bool false) (.bool (eqT_LBox a b))) ∧ true = true)) else (True ∧ ((∃ q : Nat, (q ≤ List.length a ∧ ∀ j, j < q → nth_Box a j = nth_Box b j) ∧ ((leV (.c (.hs .no tyBox a)) (.c (.hs .no tyBox a)) ∧ leV (.c (.hs .no tyBox b)) (.c (.hs .no tyBox b)) ∧ leV (.tp []) (.tp []) ∧ leV (.tp []) (.tp []) ∧ True ∧ leV (.c (.int .i64 0)) (.c (.int .i64 ((q : Nat) : Int))) ∧ leV (.c (.hs .no tyBox a)) (.c (.hs .no tyBox a)) ∧ leV (.c (.int .i64 ((List.length a : Nat) : Int))) (.c (.int .i64 ((List.length a : Nat) : Int))) ∧ leV (.c (.hs .no tyBox b)) (.c (.hs .no tyBox b)) ∧ leV (.c (.int .i64 ((List.length b : Nat) : Int))) (.c (.int .i64 ((List.length b : Nat) : Int))) ∧ leV (.c (.bool false)) (.c (.bool false)) ∧ True ∧ True ∧ True ∧ True ∧ True ∧ True ∧ True ∧ True ∧ True ∧ True ∧ True ∧ True ∧ True ∧ True ∧ True ∧ True ∧ True) ∧ (True) ∧ true = true)) ∧ ∀ y0 : Nat, (y0 ≤ List.length a ∧ ∀ j, j < y0 → nth_Box a j = nth_Box b j) → (T4 (bif (ltI ((y0 : Nat) : Int) ((List.length a : Nat) : Int)) then ((true = true ∧ true = true) ∧ (T2 (((4 : Nat) = 4 ∧ (0 : Int) ≤ ((y0 : Nat) : Int) ∧ (((y0 : Nat) : Int) : Int) < ((List.length a : Nat) : Int)) ∧ (T3 (((4 : Nat) = 4 ∧ (0 : Int) ≤ ((y0 : Nat) : Int) ∧ (((y0 : Nat) : Int) : Int) < ((List.length b : Nat) : Int)) ∧ (True ∧ ((True ∧ true = true) ∧ (True ∧ (bif (!(eqT_Box (nth_Box a (Int.toNat ((y0 : Nat) : Int))) (nth_Box b (Int.toNat ((y0 : Nat) : Int))))) then (True ∧ ((true = true ∧ leC (.bool false) (.bool (eqT_LBox a b))) ∧ true = true)) else (T3 (∃ y0' : Nat, (y0' ≤ List.length a ∧ ∀ j, j < y0' → nth_Box a j = nth_Box b j) ∧ (List.length a - y0') < (List.length a - y0) ∧ ((leV (.c (.hs .no tyBox a)) (.c (.hs .no tyBox a)) ∧ leV (.c (.hs .no tyBox b)) (.c (.hs .no tyBox b)) ∧ leV (.tp []) (.tp []) ∧ leV (.tp []) (.tp []) ∧ True ∧ leV (.c (.int .i64 (IntKind.wrap .i64 (((y0 : Nat) : Int) + 1)))) (.c (.int .i64 ((y0' : Nat) : Int))) ∧ leV (.c (.hs .no tyBox a)) (.c (.hs .no tyBox a)) ∧ leV (.c (.int .i64 ((List.length a : Nat) : Int))) (.c (.int .i64 ((List.length a : Nat) : Int))) ∧ leV (.c (.hs .no tyBox b)) (.c (.hs .no tyBox b)) ∧ leV (.c (.int .i64 ((List.length b : Nat) : Int))) (.c (.int .i64 ((List.length b : Nat) : Int))) ∧ leV (.c (.bool false)) (.c (.bool false)) ∧ True ∧ True ∧ True ∧ True ∧ True ∧ True ∧ True ∧ True ∧ True ∧ True ∧ True ∧ True ∧ True ∧ True ∧ True ∧ True ∧ True) ∧ (True) ∧ true = true)))))))))))) else (True ∧ ((true = true ∧ leC (.bool true) (.bool (eqT_LBox a b))) ∧ true = true))))))))) (by kernel_rfl) ?_
  unfold T2 T3 T4 T6
  simp only [SIA, eq_self]
  have hm0 : List.length a ≤ maxLen := hwf.1.1
  repeat' (first | apply And.intro | intro _)
  all_goals (first
    | trivial
    | omega
    | exact ⟨0, ⟨Nat.zero_le _, allN_zero⟩, rfl⟩
    | (refine ⟨_, ⟨?_, allN_step (And.right (by assumption)) ?_⟩, ?_, wrapN ?_⟩ <;> first | omega | (simp_all [Prod.ext_iff, EQA]; done))
    | exact (eqT_LBox_false.2 (fun e => by subst e; simp_all [EQA])).symm
    | exact (eqT_LBox_true.2 (by have hx := eq_of_nth (t := tyBox) (xs := a) (ys := b) (show List.length a = List.length b by omega) (fun j hj => (by assumption : _ ≤ List.length a ∧ ∀ j, j < _ → nth_Box a j = nth_Box b j).2 j (by have hj' : j < List.length a := hj; omega)); simp_all [Prod.ext_iff, EQA])).symm
    | (rw [Bool.eq_iff_iff]; simp_all [Prod.ext_iff, EQA]; done)
    | (simp_all [Prod.ext_iff, EQA]; done))
def e_l_eqBoxS : Entry Tryz.prog := ⟨55, [.v (.list tyBox), .v (.list tyBox)], fun x => True, fun x => .c (.bool (eqT_LBox x.1 x.2.1)), fun _ => [], fun x hx => b_l_eqBoxS x.1 x.2.1, Tryz.call55⟩
def k0hyo66 (a : GCommit) (b : GCommit) : Prop := (True ∧ ((true = true ∧ leC (.bool false) (.bool (eqT_Commit a b))) ∧ true = true))
set_option maxRecDepth 100000 in
set_option maxHeartbeats 4000000 in
theorem b_l_eqCommit (a : GCommit) (b : GCommit) : BCalls Tryz.prog 129 [.ag (cellsOf tyCommit a), .ag (cellsOf tyCommit b)] (.c (.bool (eqT_Commit a b))) [] := by
  refine bcalls_of (T := ⟨[], [], [], [], none, fun _ => [], 0, [], []⟩) (L := L0) Tryz.func129 ⟨⟨rfl, rfl⟩, rfl⟩ (fun hwf => ?_)
  refine Eq.mpr (β := (T8 (bif (neI a.1 b.1) then (k0hyo66 a b) else (T5 (bif (neI a.2.1 b.2.1) then (k0hyo66 a b) else (T5 (bif (neI a.2.2.1 b.2.2.1) then (k0hyo66 a b) else (T5 (bif (neI a.2.2.2.1 b.2.2.2.1) then (k0hyo66 a b) else (T5 (bif (!eqS a.2.2.2.2.1 b.2.2.2.2.1) then (k0hyo66 a b) else (T5 (bif (!eqS a.2.2.2.2.2 b.2.2.2.2.2) then (k0hyo66 a b) else (True ∧ ((true = true ∧ leC (.bool true) (.bool (eqT_Commit a b))) ∧ true = true))))))))))))))) (by kernel_rfl) ?_
  unfold k0hyo66 T5 T8
  simp only [SIA, eq_self]
  repeat' (first | apply And.intro | intro _)
  all_goals (first
    | trivial
    | omega
    | exact (eqT_Commit_false.2 (fun e => by subst e; simp_all [EQA])).symm
    | (rw [Bool.eq_iff_iff]; simp_all [Prod.ext_iff, EQA]; done)
    | (simp_all [Prod.ext_iff, EQA]; done))
def e_l_eqCommit : Entry Tryz.prog := ⟨129, [.s tyCommit, .s tyCommit], fun x => True, fun x => .c (.bool (eqT_Commit x.1 x.2.1)), fun _ => [], fun x hx => b_l_eqCommit x.1 x.2.1, Tryz.call129⟩
def L_l_eqCommitS (a : List GCommit) (b : List GCommit) : Nat → List AV → Mem → LoopA
  | 4, tm, M => ⟨Nat, fun y => (setA tm [(4, .any), (5, .c (.int .i64 ((y : Nat) : Int))), (11, .any), (12, .any), (13, .any), (14, .any), (15, .any), (16, .any), (17, .any), (18, .any), (19, .any), (20, .any), (21, .any), (22, .any), (23, .any), (24, .any), (25, .any), (26, .any)], M), fun y => (y ≤ List.length a ∧ ∀ j, j < y → nth_Commit a j = nth_Commit b j), fun y => (List.length a - y)⟩
  | _, _, _ => ⟨Unit, fun _ => ([], []), fun _ => False, fun _ => 0⟩
set_option maxRecDepth 100000 in
set_option maxHeartbeats 400000 in
theorem b_l_eqCommitS (a : List GCommit) (b : List GCommit) : BCalls Tryz.prog 56 [.c (.hs .no tyCommit a), .c (.hs .no tyCommit b)] (.c (.bool (eqT_LCommit a b))) [] := by
  refine bcalls_of (T := ⟨[e_l_eqCommit], [], [], [], none, fun _ => [], 0, [], []⟩) (L := (L_l_eqCommitS a b)) Tryz.func56 ⟨⟨rfl, rfl⟩, rfl⟩ (fun hwf => ?_)
  refine Eq.mpr (β := (T6 (bif (neI ((List.length a : Nat) : Int) ((List.length b : Nat) : Int)) then (True ∧ ((true = true ∧ leC (.bool false) (.bool (eqT_LCommit a b))) ∧ true = true)) else (True ∧ ((∃ q : Nat, (q ≤ List.length a ∧ ∀ j, j < q → nth_Commit a j = nth_Commit b j) ∧ ((leV (.c (.hs .no tyCommit a)) (.c (.hs .no tyCommit a)) ∧ leV (.c (.hs .no tyCommit b)) (.c (.hs .no tyCommit b)) ∧ leV (.tp []) (.tp []) ∧ leV (.tp []) (.tp []) ∧ True ∧ leV (.c (.int .i64 0)) (.c (.int .i64 ((q : Nat) : Int))) ∧ leV (.c (.hs .no tyCommit a)) (.c (.hs .no tyCommit a)) ∧ leV (.c (.int .i64 ((List.length a : Nat) : Int))) (.c (.int .i64 ((List.length a : Nat) : Int))) ∧ leV (.c (.hs .no tyCommit b)) (.c (.hs .no tyCommit b)) ∧ leV (.c (.int .i64 ((List.length b : Nat) : Int))) (.c (.int .i64 ((List.length b : Nat) : Int))) ∧ leV (.c (.bool false)) (.c (.bool false)) ∧ True ∧ True ∧ True ∧ True ∧ True ∧ True ∧ True ∧ True ∧ True ∧ True ∧ True ∧ True ∧ True ∧ True ∧ True ∧ True ∧ True) ∧ (True) ∧ true = true)) ∧ ∀ y0 : Nat, (y0 ≤ List.length a ∧ ∀ j, j < y0 → nth_Commit a j = nth_Commit b j) → (T4 (bif (ltI ((y0 : Nat) : Int) ((List.length a : Nat) : Int)) then ((true = true ∧ true = true) ∧ (T2 (((6 : Nat) = 6 ∧ (0 : Int) ≤ ((y0 : Nat) : Int) ∧ (((y0 : Nat) : Int) : Int) < ((List.length a : Nat) : Int)) ∧ (T3 (((6 : Nat) = 6 ∧ (0 : Int) ≤ ((y0 : Nat) : Int) ∧ (((y0 : Nat) : Int) : Int) < ((List.length b : Nat) : Int)) ∧ (True ∧ ((True ∧ true = true) ∧ (True ∧ (bif (!(eqT_Commit (nth_Commit a (Int.toNat ((y0 : Nat) : Int))) (nth_Commit b (Int.toNat ((y0 : Nat) : Int))))) then (True ∧ ((true = true ∧ leC (.bool false) (.bool (eqT_LCommit a b))) ∧ true = true)) else (T3 (∃ y0' : Nat, (y0' ≤ List.length a ∧ ∀ j, j < y0' → nth_Commit a j = nth_Commit b j) ∧ (List.length a - y0') < (List.length a - y0) ∧ ((leV (.c (.hs .no tyCommit a)) (.c (.hs .no tyCommit a)) ∧ leV (.c (.hs .no tyCommit b)) (.c (.hs .no tyCommit b)) ∧ leV (.tp []) (.tp []) ∧ leV (.tp []) (.tp []) ∧ True ∧ leV (.c (.int .i64 (IntKind.wrap .i64 (((y0 : Nat) : Int) + 1)))) (.c (.int .i64 ((y0' : Nat) : Int))) ∧ leV (.c (.hs .no tyCommit a)) (.c (.hs .no tyCommit a)) ∧ leV (.c (.int .i64 ((List.length a : Nat) : Int))) (.c (.int .i64 ((List.length a : Nat) : Int))) ∧ leV (.c (.hs .no tyCommit b)) (.c (.hs .no tyCommit b)) ∧ leV (.c (.int .i64 ((List.length b : Nat) : Int))) (.c (.int .i64 ((List.length b : Nat) : Int))) ∧ leV (.c (.bool false)) (.c (.bool false)) ∧ True ∧ True ∧ True ∧ True ∧ True ∧ True ∧ True ∧ True ∧ True ∧ True ∧ True ∧ True ∧ True ∧ True ∧ True ∧ True ∧ True) ∧ (True) ∧ true = true)))))))))))) else (True ∧ ((true = true ∧ leC (.bool true) (.bool (eqT_LCommit a b))) ∧ true = true))))))))) (by kernel_rfl) ?_
  unfold T2 T3 T4 T6
  simp only [SIA, eq_self]
  have hm0 : List.length a ≤ maxLen := hwf.1.1
  repeat' (first | apply And.intro | intro _)
  all_goals (first
    | trivial
    | omega
    | exact ⟨0, ⟨Nat.zero_le _, allN_zero⟩, rfl⟩
    | (refine ⟨_, ⟨?_, allN_step (And.right (by assumption)) ?_⟩, ?_, wrapN ?_⟩ <;> first | omega | (simp_all [Prod.ext_iff, EQA]; done))
    | exact (eqT_LCommit_false.2 (fun e => by subst e; simp_all [EQA])).symm
    | exact (eqT_LCommit_true.2 (by have hx := eq_of_nth (t := tyCommit) (xs := a) (ys := b) (show List.length a = List.length b by omega) (fun j hj => (by assumption : _ ≤ List.length a ∧ ∀ j, j < _ → nth_Commit a j = nth_Commit b j).2 j (by have hj' : j < List.length a := hj; omega)); simp_all [Prod.ext_iff, EQA])).symm
    | (rw [Bool.eq_iff_iff]; simp_all [Prod.ext_iff, EQA]; done)
    | (simp_all [Prod.ext_iff, EQA]; done))
def e_l_eqCommitS : Entry Tryz.prog := ⟨56, [.v (.list tyCommit), .v (.list tyCommit)], fun x => True, fun x => .c (.bool (eqT_LCommit x.1 x.2.1)), fun _ => [], fun x hx => b_l_eqCommitS x.1 x.2.1, Tryz.call56⟩
set_option maxRecDepth 100000 in
set_option maxHeartbeats 4000000 in
theorem b_l_eqStore (a : GStore) (b : GStore) : BCalls Tryz.prog 16 [.ag (cellsOf tyStore a), .ag (cellsOf tyStore b)] (.c (.bool (eqT_Store a b))) [] := by
  refine bcalls_of (T := ⟨[e_l_eqBoxS, e_l_eqCommitS], [], [], [], none, fun _ => [], 0, [], []⟩) (L := L0) Tryz.func16 ⟨⟨rfl, rfl⟩, rfl⟩ (fun hwf => ?_)
  refine Eq.mpr (β := (True ∧ (True ∧ (True ∧ (True ∧ (True ∧ (True ∧ (True ∧ ((True ∧ true = true) ∧ (True ∧ (bif (!(eqT_LBox a.1 b.1)) then (True ∧ ((true = true ∧ leC (.bool false) (.bool (eqT_Store a b))) ∧ true = true)) else (True ∧ (True ∧ (True ∧ (True ∧ ((True ∧ true = true) ∧ (True ∧ (bif (!(eqT_LCommit a.2.1 b.2.1)) then (True ∧ ((true = true ∧ leC (.bool false) (.bool (eqT_Store a b))) ∧ true = true)) else (True ∧ (True ∧ (True ∧ (True ∧ (True ∧ (bif (neI a.2.2 b.2.2) then (True ∧ ((true = true ∧ leC (.bool false) (.bool (eqT_Store a b))) ∧ true = true)) else (True ∧ ((true = true ∧ leC (.bool true) (.bool (eqT_Store a b))) ∧ true = true)))))))))))))))))))))))))) (by kernel_rfl) ?_
  simp only [SIA, eq_self]
  repeat' (first | apply And.intro | intro _)
  all_goals (first
    | trivial
    | omega
    | exact (eqT_Store_false.2 (fun e => by subst e; simp_all [EQA])).symm
    | (rw [Bool.eq_iff_iff]; simp_all [Prod.ext_iff, EQA]; done)
    | (simp_all [Prod.ext_iff, EQA]; done))
def e_l_eqStore : Entry Tryz.prog := ⟨16, [.s tyStore, .s tyStore], fun x => True, fun x => .c (.bool (eqT_Store x.1 x.2.1)), fun _ => [], fun x hx => b_l_eqStore x.1 x.2.1, Tryz.call16⟩
set_option maxRecDepth 100000 in
set_option maxHeartbeats 4000000 in
theorem b_l_eqSeen (a : GSpan) (b : GSpan) : BCalls Tryz.prog 200 [.ag [.int .i64 a.1, .int .i64 a.2], .ag [.int .i64 b.1, .int .i64 b.2]] (.c (.bool (eqT_Span a b))) [] := by
  refine bcalls_of (T := ⟨[], [], [], [], none, fun _ => [], 0, [], []⟩) (L := L0) Tryz.func200 ⟨⟨rfl, rfl⟩, rfl⟩ (fun hwf => ?_)
  refine Eq.mpr (β := (True ∧ (True ∧ (True ∧ (True ∧ (True ∧ (True ∧ (True ∧ (True ∧ (bif (neI a.1 b.1) then (True ∧ ((true = true ∧ leC (.bool false) (.bool (eqT_Span a b))) ∧ true = true)) else (True ∧ (True ∧ (True ∧ (True ∧ (True ∧ (bif (neI a.2 b.2) then (True ∧ ((true = true ∧ leC (.bool false) (.bool (eqT_Span a b))) ∧ true = true)) else (True ∧ ((true = true ∧ leC (.bool true) (.bool (eqT_Span a b))) ∧ true = true)))))))))))))))))) (by kernel_rfl) ?_
  simp only [SIA, eq_self]
  repeat' (first | apply And.intro | intro _)
  all_goals (first
    | trivial
    | omega
    | exact (eqT_Span_false.2 (fun e => by subst e; simp_all [EQA])).symm
    | (rw [Bool.eq_iff_iff]; simp_all [Prod.ext_iff, EQA]; done)
    | (simp_all [Prod.ext_iff, EQA]; done))
def e_l_eqSeen : Entry Tryz.prog := ⟨200, [.s tySpan, .s tySpan], fun x => True, fun x => .c (.bool (eqT_Span x.1 x.2.1)), fun _ => [], fun x hx => b_l_eqSeen x.1 x.2.1, Tryz.call200⟩
def L_l_eqSeenS (a : List GSpan) (b : List GSpan) : Nat → List AV → Mem → LoopA
  | 4, tm, M => ⟨Nat, fun y => (setA tm [(4, .any), (5, .c (.int .i64 ((y : Nat) : Int))), (11, .any), (12, .any), (13, .any), (14, .any), (15, .any), (16, .any), (17, .any), (18, .any), (19, .any), (20, .any), (21, .any), (22, .any), (23, .any), (24, .any), (25, .any), (26, .any)], M), fun y => (y ≤ List.length a ∧ ∀ j, j < y → nth_Span a j = nth_Span b j), fun y => (List.length a - y)⟩
  | _, _, _ => ⟨Unit, fun _ => ([], []), fun _ => False, fun _ => 0⟩
set_option maxRecDepth 100000 in
set_option maxHeartbeats 400000 in
theorem b_l_eqSeenS (a : List GSpan) (b : List GSpan) : BCalls Tryz.prog 139 [.c (.hs .no tySpan a), .c (.hs .no tySpan b)] (.c (.bool (eqT_LSpan a b))) [] := by
  refine bcalls_of (T := ⟨[e_l_eqSeen], [], [], [], none, fun _ => [], 0, [], []⟩) (L := (L_l_eqSeenS a b)) Tryz.func139 ⟨⟨rfl, rfl⟩, rfl⟩ (fun hwf => ?_)
  refine Eq.mpr (β := (T6 (bif (neI ((List.length a : Nat) : Int) ((List.length b : Nat) : Int)) then (True ∧ ((true = true ∧ leC (.bool false) (.bool (eqT_LSpan a b))) ∧ true = true)) else (True ∧ ((∃ q : Nat, (q ≤ List.length a ∧ ∀ j, j < q → nth_Span a j = nth_Span b j) ∧ ((leV (.c (.hs .no tySpan a)) (.c (.hs .no tySpan a)) ∧ leV (.c (.hs .no tySpan b)) (.c (.hs .no tySpan b)) ∧ leV (.tp []) (.tp []) ∧ leV (.tp []) (.tp []) ∧ True ∧ leV (.c (.int .i64 0)) (.c (.int .i64 ((q : Nat) : Int))) ∧ leV (.c (.hs .no tySpan a)) (.c (.hs .no tySpan a)) ∧ leV (.c (.int .i64 ((List.length a : Nat) : Int))) (.c (.int .i64 ((List.length a : Nat) : Int))) ∧ leV (.c (.hs .no tySpan b)) (.c (.hs .no tySpan b)) ∧ leV (.c (.int .i64 ((List.length b : Nat) : Int))) (.c (.int .i64 ((List.length b : Nat) : Int))) ∧ leV (.c (.bool false)) (.c (.bool false)) ∧ True ∧ True ∧ True ∧ True ∧ True ∧ True ∧ True ∧ True ∧ True ∧ True ∧ True ∧ True ∧ True ∧ True ∧ True ∧ True ∧ True) ∧ (True) ∧ true = true)) ∧ ∀ y0 : Nat, (y0 ≤ List.length a ∧ ∀ j, j < y0 → nth_Span a j = nth_Span b j) → (T4 (bif (ltI ((y0 : Nat) : Int) ((List.length a : Nat) : Int)) then ((true = true ∧ true = true) ∧ (T2 (((2 : Nat) = 2 ∧ (0 : Int) ≤ ((y0 : Nat) : Int) ∧ (((y0 : Nat) : Int) : Int) < ((List.length a : Nat) : Int)) ∧ (T3 (((2 : Nat) = 2 ∧ (0 : Int) ≤ ((y0 : Nat) : Int) ∧ (((y0 : Nat) : Int) : Int) < ((List.length b : Nat) : Int)) ∧ (True ∧ ((True ∧ true = true) ∧ (True ∧ (bif (!(eqT_Span (nth_Span a (Int.toNat ((y0 : Nat) : Int))) (nth_Span b (Int.toNat ((y0 : Nat) : Int))))) then (True ∧ ((true = true ∧ leC (.bool false) (.bool (eqT_LSpan a b))) ∧ true = true)) else (T3 (∃ y0' : Nat, (y0' ≤ List.length a ∧ ∀ j, j < y0' → nth_Span a j = nth_Span b j) ∧ (List.length a - y0') < (List.length a - y0) ∧ ((leV (.c (.hs .no tySpan a)) (.c (.hs .no tySpan a)) ∧ leV (.c (.hs .no tySpan b)) (.c (.hs .no tySpan b)) ∧ leV (.tp []) (.tp []) ∧ leV (.tp []) (.tp []) ∧ True ∧ leV (.c (.int .i64 (IntKind.wrap .i64 (((y0 : Nat) : Int) + 1)))) (.c (.int .i64 ((y0' : Nat) : Int))) ∧ leV (.c (.hs .no tySpan a)) (.c (.hs .no tySpan a)) ∧ leV (.c (.int .i64 ((List.length a : Nat) : Int))) (.c (.int .i64 ((List.length a : Nat) : Int))) ∧ leV (.c (.hs .no tySpan b)) (.c (.hs .no tySpan b)) ∧ leV (.c (.int .i64 ((List.length b : Nat) : Int))) (.c (.int .i64 ((List.length b : Nat) : Int))) ∧ leV (.c (.bool false)) (.c (.bool false)) ∧ True ∧ True ∧ True ∧ True ∧ True ∧ True ∧ True ∧ True ∧ True ∧ True ∧ True ∧ True ∧ True ∧ True ∧ True ∧ True ∧ True) ∧ (True) ∧ true = true)))))))))))) else (True ∧ ((true = true ∧ leC (.bool true) (.bool (eqT_LSpan a b))) ∧ true = true))))))))) (by kernel_rfl) ?_
  unfold T2 T3 T4 T6
  simp only [SIA, eq_self]
  have hm0 : List.length a ≤ maxLen := hwf.1.1
  repeat' (first | apply And.intro | intro _)
  all_goals (first
    | trivial
    | omega
    | exact ⟨0, ⟨Nat.zero_le _, allN_zero⟩, rfl⟩
    | (refine ⟨_, ⟨?_, allN_step (And.right (by assumption)) ?_⟩, ?_, wrapN ?_⟩ <;> first | omega | (simp_all [Prod.ext_iff, EQA]; done))
    | exact (eqT_LSpan_false.2 (fun e => by subst e; simp_all [EQA])).symm
    | exact (eqT_LSpan_true.2 (by have hx := eq_of_nth (t := tySpan) (xs := a) (ys := b) (show List.length a = List.length b by omega) (fun j hj => (by assumption : _ ≤ List.length a ∧ ∀ j, j < _ → nth_Span a j = nth_Span b j).2 j (by have hj' : j < List.length a := hj; omega)); simp_all [Prod.ext_iff, EQA])).symm
    | (rw [Bool.eq_iff_iff]; simp_all [Prod.ext_iff, EQA]; done)
    | (simp_all [Prod.ext_iff, EQA]; done))
def e_l_eqSeenS : Entry Tryz.prog := ⟨139, [.v (.list tySpan), .v (.list tySpan)], fun x => True, fun x => .c (.bool (eqT_LSpan x.1 x.2.1)), fun _ => [], fun x hx => b_l_eqSeenS x.1 x.2.1, Tryz.call139⟩
set_option maxRecDepth 100000 in
set_option maxHeartbeats 4000000 in
theorem b_l_eqView (a : List GSpan) (b : List GSpan) : BCalls Tryz.prog 73 [.ag [.hs .no tySpan a], .ag [.hs .no tySpan b]] (.c (.bool (eqT_LSpan a b))) [] := by
  refine bcalls_of (T := ⟨[e_l_eqSeenS], [], [], [], none, fun _ => [], 0, [], []⟩) (L := L0) Tryz.func73 ⟨⟨rfl, rfl⟩, rfl⟩ (fun hwf => ?_)
  refine Eq.mpr (β := (True ∧ (True ∧ (True ∧ (True ∧ (True ∧ (True ∧ (True ∧ ((True ∧ true = true) ∧ (True ∧ (bif (!(eqT_LSpan a b)) then (True ∧ ((true = true ∧ leC (.bool false) (.bool (eqT_LSpan a b))) ∧ true = true)) else (True ∧ ((true = true ∧ leC (.bool true) (.bool (eqT_LSpan a b))) ∧ true = true))))))))))))) (by kernel_rfl) ?_
  simp only [SIA, eq_self]
  repeat' (first | apply And.intro | intro _)
  all_goals (first
    | trivial
    | omega
    | exact (eqT_LSpan_false.2 (fun e => by subst e; simp_all [EQA])).symm
    | (rw [Bool.eq_iff_iff]; simp_all [Prod.ext_iff, EQA]; done)
    | (simp_all [Prod.ext_iff, EQA]; done))
def e_l_eqView : Entry Tryz.prog := ⟨73, [.s (.list tySpan), .s (.list tySpan)], fun x => True, fun x => .c (.bool (eqT_LSpan x.1 x.2.1)), fun _ => [], fun x hx => b_l_eqView x.1 x.2.1, Tryz.call73⟩
def k01wvu5 (a : GNote) (b : GNote) : Prop := (True ∧ ((true = true ∧ leC (.bool false) (.bool (eqT_Note a b))) ∧ true = true))
set_option maxRecDepth 100000 in
set_option maxHeartbeats 4000000 in
theorem b_l_eqNote (a : GNote) (b : GNote) : BCalls Tryz.prog 87 [.ag (cellsOf tyNote a), .ag (cellsOf tyNote b)] (.c (.bool (eqT_Note a b))) [] := by
  refine bcalls_of (T := ⟨[], [], [], [], none, fun _ => [], 0, [], []⟩) (L := L0) Tryz.func87 ⟨⟨rfl, rfl⟩, rfl⟩ (fun hwf => ?_)
  refine Eq.mpr (β := (T8 (bif (neI a.1 b.1) then (k01wvu5 a b) else (T5 (bif (neI a.2.1 b.2.1) then (k01wvu5 a b) else (T5 (bif (neI a.2.2.1 b.2.2.1) then (k01wvu5 a b) else (T5 (bif (!eqS a.2.2.2 b.2.2.2) then (k01wvu5 a b) else (True ∧ ((true = true ∧ leC (.bool true) (.bool (eqT_Note a b))) ∧ true = true))))))))))) (by kernel_rfl) ?_
  unfold k01wvu5 T5 T8
  simp only [SIA, eq_self]
  repeat' (first | apply And.intro | intro _)
  all_goals (first
    | trivial
    | omega
    | exact (eqT_Note_false.2 (fun e => by subst e; simp_all [EQA])).symm
    | (rw [Bool.eq_iff_iff]; simp_all [Prod.ext_iff, EQA]; done)
    | (simp_all [Prod.ext_iff, EQA]; done))
def e_l_eqNote : Entry Tryz.prog := ⟨87, [.s tyNote, .s tyNote], fun x => True, fun x => .c (.bool (eqT_Note x.1 x.2.1)), fun _ => [], fun x hx => b_l_eqNote x.1 x.2.1, Tryz.call87⟩
def L_l_eqNoteS (a : List GNote) (b : List GNote) : Nat → List AV → Mem → LoopA
  | 4, tm, M => ⟨Nat, fun y => (setA tm [(4, .any), (5, .c (.int .i64 ((y : Nat) : Int))), (11, .any), (12, .any), (13, .any), (14, .any), (15, .any), (16, .any), (17, .any), (18, .any), (19, .any), (20, .any), (21, .any), (22, .any), (23, .any), (24, .any), (25, .any), (26, .any)], M), fun y => (y ≤ List.length a ∧ ∀ j, j < y → nth_Note a j = nth_Note b j), fun y => (List.length a - y)⟩
  | _, _, _ => ⟨Unit, fun _ => ([], []), fun _ => False, fun _ => 0⟩
set_option maxRecDepth 100000 in
set_option maxHeartbeats 400000 in
theorem b_l_eqNoteS (a : List GNote) (b : List GNote) : BCalls Tryz.prog 24 [.c (.hs .no tyNote a), .c (.hs .no tyNote b)] (.c (.bool (eqT_LNote a b))) [] := by
  refine bcalls_of (T := ⟨[e_l_eqNote], [], [], [], none, fun _ => [], 0, [], []⟩) (L := (L_l_eqNoteS a b)) Tryz.func24 ⟨⟨rfl, rfl⟩, rfl⟩ (fun hwf => ?_)
  refine Eq.mpr (β := (T6 (bif (neI ((List.length a : Nat) : Int) ((List.length b : Nat) : Int)) then (True ∧ ((true = true ∧ leC (.bool false) (.bool (eqT_LNote a b))) ∧ true = true)) else (True ∧ ((∃ q : Nat, (q ≤ List.length a ∧ ∀ j, j < q → nth_Note a j = nth_Note b j) ∧ ((leV (.c (.hs .no tyNote a)) (.c (.hs .no tyNote a)) ∧ leV (.c (.hs .no tyNote b)) (.c (.hs .no tyNote b)) ∧ leV (.tp []) (.tp []) ∧ leV (.tp []) (.tp []) ∧ True ∧ leV (.c (.int .i64 0)) (.c (.int .i64 ((q : Nat) : Int))) ∧ leV (.c (.hs .no tyNote a)) (.c (.hs .no tyNote a)) ∧ leV (.c (.int .i64 ((List.length a : Nat) : Int))) (.c (.int .i64 ((List.length a : Nat) : Int))) ∧ leV (.c (.hs .no tyNote b)) (.c (.hs .no tyNote b)) ∧ leV (.c (.int .i64 ((List.length b : Nat) : Int))) (.c (.int .i64 ((List.length b : Nat) : Int))) ∧ leV (.c (.bool false)) (.c (.bool false)) ∧ True ∧ True ∧ True ∧ True ∧ True ∧ True ∧ True ∧ True ∧ True ∧ True ∧ True ∧ True ∧ True ∧ True ∧ True ∧ True ∧ True) ∧ (True) ∧ true = true)) ∧ ∀ y0 : Nat, (y0 ≤ List.length a ∧ ∀ j, j < y0 → nth_Note a j = nth_Note b j) → (T4 (bif (ltI ((y0 : Nat) : Int) ((List.length a : Nat) : Int)) then ((true = true ∧ true = true) ∧ (T2 (((4 : Nat) = 4 ∧ (0 : Int) ≤ ((y0 : Nat) : Int) ∧ (((y0 : Nat) : Int) : Int) < ((List.length a : Nat) : Int)) ∧ (T3 (((4 : Nat) = 4 ∧ (0 : Int) ≤ ((y0 : Nat) : Int) ∧ (((y0 : Nat) : Int) : Int) < ((List.length b : Nat) : Int)) ∧ (True ∧ ((True ∧ true = true) ∧ (True ∧ (bif (!(eqT_Note (nth_Note a (Int.toNat ((y0 : Nat) : Int))) (nth_Note b (Int.toNat ((y0 : Nat) : Int))))) then (True ∧ ((true = true ∧ leC (.bool false) (.bool (eqT_LNote a b))) ∧ true = true)) else (T3 (∃ y0' : Nat, (y0' ≤ List.length a ∧ ∀ j, j < y0' → nth_Note a j = nth_Note b j) ∧ (List.length a - y0') < (List.length a - y0) ∧ ((leV (.c (.hs .no tyNote a)) (.c (.hs .no tyNote a)) ∧ leV (.c (.hs .no tyNote b)) (.c (.hs .no tyNote b)) ∧ leV (.tp []) (.tp []) ∧ leV (.tp []) (.tp []) ∧ True ∧ leV (.c (.int .i64 (IntKind.wrap .i64 (((y0 : Nat) : Int) + 1)))) (.c (.int .i64 ((y0' : Nat) : Int))) ∧ leV (.c (.hs .no tyNote a)) (.c (.hs .no tyNote a)) ∧ leV (.c (.int .i64 ((List.length a : Nat) : Int))) (.c (.int .i64 ((List.length a : Nat) : Int))) ∧ leV (.c (.hs .no tyNote b)) (.c (.hs .no tyNote b)) ∧ leV (.c (.int .i64 ((List.length b : Nat) : Int))) (.c (.int .i64 ((List.length b : Nat) : Int))) ∧ leV (.c (.bool false)) (.c (.bool false)) ∧ True ∧ True ∧ True ∧ True ∧ True ∧ True ∧ True ∧ True ∧ True ∧ True ∧ True ∧ True ∧ True ∧ True ∧ True ∧ True ∧ True) ∧ (True) ∧ true = true)))))))))))) else (True ∧ ((true = true ∧ leC (.bool true) (.bool (eqT_LNote a b))) ∧ true = true))))))))) (by kernel_rfl) ?_
  unfold T2 T3 T4 T6
  simp only [SIA, eq_self]
  have hm0 : List.length a ≤ maxLen := hwf.1.1
  repeat' (first | apply And.intro | intro _)
  all_goals (first
    | trivial
    | omega
    | exact ⟨0, ⟨Nat.zero_le _, allN_zero⟩, rfl⟩
    | (refine ⟨_, ⟨?_, allN_step (And.right (by assumption)) ?_⟩, ?_, wrapN ?_⟩ <;> first | omega | (simp_all [Prod.ext_iff, EQA]; done))
    | exact (eqT_LNote_false.2 (fun e => by subst e; simp_all [EQA])).symm
    | exact (eqT_LNote_true.2 (by have hx := eq_of_nth (t := tyNote) (xs := a) (ys := b) (show List.length a = List.length b by omega) (fun j hj => (by assumption : _ ≤ List.length a ∧ ∀ j, j < _ → nth_Note a j = nth_Note b j).2 j (by have hj' : j < List.length a := hj; omega)); simp_all [Prod.ext_iff, EQA])).symm
    | (rw [Bool.eq_iff_iff]; simp_all [Prod.ext_iff, EQA]; done)
    | (simp_all [Prod.ext_iff, EQA]; done))
def e_l_eqNoteS : Entry Tryz.prog := ⟨24, [.v (.list tyNote), .v (.list tyNote)], fun x => True, fun x => .c (.bool (eqT_LNote x.1 x.2.1)), fun _ => [], fun x hx => b_l_eqNoteS x.1 x.2.1, Tryz.call24⟩
set_option maxRecDepth 100000 in
set_option maxHeartbeats 4000000 in
theorem b_l_eqQueue (a : GQueue) (b : GQueue) : BCalls Tryz.prog 75 [.ag [.hs .no tyNote a.1, .bool a.2.1, .bool a.2.2], .ag [.hs .no tyNote b.1, .bool b.2.1, .bool b.2.2]] (.c (.bool (eqT_Queue a b))) [] := by
  refine bcalls_of (T := ⟨[e_l_eqNoteS], [], [], [], none, fun _ => [], 0, [], []⟩) (L := L0) Tryz.func75 ⟨⟨rfl, rfl⟩, rfl⟩ (fun hwf => ?_)
  refine Eq.mpr (β := (True ∧ (True ∧ (True ∧ (True ∧ (True ∧ (True ∧ (True ∧ ((True ∧ true = true) ∧ (True ∧ (bif (!(eqT_LNote a.1 b.1)) then (True ∧ ((true = true ∧ leC (.bool false) (.bool (eqT_Queue a b))) ∧ true = true)) else (True ∧ (True ∧ (True ∧ (True ∧ (some TypeDesc.bool = some TypeDesc.bool ∧ (bif (!eqO a.2.1 b.2.1) then (True ∧ ((true = true ∧ leC (.bool false) (.bool (eqT_Queue a b))) ∧ true = true)) else (True ∧ (True ∧ (True ∧ (True ∧ (some TypeDesc.bool = some TypeDesc.bool ∧ (bif (!eqO a.2.2 b.2.2) then (True ∧ ((true = true ∧ leC (.bool false) (.bool (eqT_Queue a b))) ∧ true = true)) else (True ∧ ((true = true ∧ leC (.bool true) (.bool (eqT_Queue a b))) ∧ true = true))))))))))))))))))))))))) (by kernel_rfl) ?_
  simp only [SIA, eq_self]
  repeat' (first | apply And.intro | intro _)
  all_goals (first
    | trivial
    | omega
    | exact (eqT_Queue_false.2 (fun e => by subst e; simp_all [EQA])).symm
    | (rw [Bool.eq_iff_iff]; simp_all [Prod.ext_iff, EQA]; done)
    | (simp_all [Prod.ext_iff, EQA]; done))
def e_l_eqQueue : Entry Tryz.prog := ⟨75, [.s tyQueue, .s tyQueue], fun x => True, fun x => .c (.bool (eqT_Queue x.1 x.2.1)), fun _ => [], fun x hx => b_l_eqQueue x.1 x.2.1, Tryz.call75⟩
set_option maxRecDepth 100000 in
set_option maxHeartbeats 4000000 in
theorem b_l_eqOut (a : GOut) (b : GOut) : BCalls Tryz.prog 77 [.ag [.str a.1, .str a.2], .ag [.str b.1, .str b.2]] (.c (.bool (eqT_Out a b))) [] := by
  refine bcalls_of (T := ⟨[], [], [], [], none, fun _ => [], 0, [], []⟩) (L := L0) Tryz.func77 ⟨⟨rfl, rfl⟩, rfl⟩ (fun hwf => ?_)
  refine Eq.mpr (β := (True ∧ (True ∧ (True ∧ (True ∧ (True ∧ (True ∧ (True ∧ (True ∧ (bif (!eqS a.1 b.1) then (True ∧ ((true = true ∧ leC (.bool false) (.bool (eqT_Out a b))) ∧ true = true)) else (True ∧ (True ∧ (True ∧ (True ∧ (True ∧ (bif (!eqS a.2 b.2) then (True ∧ ((true = true ∧ leC (.bool false) (.bool (eqT_Out a b))) ∧ true = true)) else (True ∧ ((true = true ∧ leC (.bool true) (.bool (eqT_Out a b))) ∧ true = true)))))))))))))))))) (by kernel_rfl) ?_
  simp only [SIA, eq_self]
  repeat' (first | apply And.intro | intro _)
  all_goals (first
    | trivial
    | omega
    | exact (eqT_Out_false.2 (fun e => by subst e; simp_all [EQA])).symm
    | (rw [Bool.eq_iff_iff]; simp_all [Prod.ext_iff, EQA]; done)
    | (simp_all [Prod.ext_iff, EQA]; done))
def e_l_eqOut : Entry Tryz.prog := ⟨77, [.s tyOut, .s tyOut], fun x => True, fun x => .c (.bool (eqT_Out x.1 x.2.1)), fun _ => [], fun x hx => b_l_eqOut x.1 x.2.1, Tryz.call77⟩
set_option maxRecDepth 100000 in
set_option maxHeartbeats 4000000 in
theorem b_l_eqIn (a : GIn) (b : GIn) : BCalls Tryz.prog 76 [.ag [.str a.1, .bool a.2], .ag [.str b.1, .bool b.2]] (.c (.bool (eqT_In a b))) [] := by
  refine bcalls_of (T := ⟨[], [], [], [], none, fun _ => [], 0, [], []⟩) (L := L0) Tryz.func76 ⟨⟨rfl, rfl⟩, rfl⟩ (fun hwf => ?_)
  refine Eq.mpr (β := (True ∧ (True ∧ (True ∧ (True ∧ (True ∧ (True ∧ (True ∧ (True ∧ (bif (!eqS a.1 b.1) then (True ∧ ((true = true ∧ leC (.bool false) (.bool (eqT_In a b))) ∧ true = true)) else (True ∧ (True ∧ (True ∧ (True ∧ (some TypeDesc.bool = some TypeDesc.bool ∧ (bif (!eqO a.2 b.2) then (True ∧ ((true = true ∧ leC (.bool false) (.bool (eqT_In a b))) ∧ true = true)) else (True ∧ ((true = true ∧ leC (.bool true) (.bool (eqT_In a b))) ∧ true = true)))))))))))))))))) (by kernel_rfl) ?_
  simp only [SIA, eq_self]
  repeat' (first | apply And.intro | intro _)
  all_goals (first
    | trivial
    | omega
    | exact (eqT_In_false.2 (fun e => by subst e; simp_all [EQA])).symm
    | (rw [Bool.eq_iff_iff]; simp_all [Prod.ext_iff, EQA]; done)
    | (simp_all [Prod.ext_iff, EQA]; done))
def e_l_eqIn : Entry Tryz.prog := ⟨76, [.s tyIn, .s tyIn], fun x => True, fun x => .c (.bool (eqT_In x.1 x.2.1)), fun _ => [], fun x hx => b_l_eqIn x.1 x.2.1, Tryz.call76⟩
def k079no3 (a : GSession) (b : GSession) : Prop := (True ∧ ((true = true ∧ leC (.bool false) (.bool (eqT_Session a b))) ∧ true = true))
set_option maxRecDepth 100000 in
set_option maxHeartbeats 4000000 in
theorem b_l_eqSession (a : GSession) (b : GSession) : BCalls Tryz.prog 21 [.ag (cellsOf tySession a), .ag (cellsOf tySession b)] (.c (.bool (eqT_Session a b))) [] := by
  refine bcalls_of (T := ⟨[e_l_eqView, e_l_eqFilter, e_l_eqQueue, e_l_eqIn, e_l_eqOut], [], [], [], none, fun _ => [], 0, [], []⟩) (L := L0) Tryz.func21 ⟨⟨rfl, rfl⟩, rfl⟩ (fun hwf => ?_)
  refine Eq.mpr (β := (T7 (some TypeDesc.bool = some TypeDesc.bool ∧ (bif (!eqO a.1 b.1) then (k079no3 a b) else (T5 (bif (neI a.2.1 b.2.1) then (k079no3 a b) else (T5 (bif (neI a.2.2.1 b.2.2.1) then (k079no3 a b) else (T5 (bif (neI a.2.2.2.1 b.2.2.2.1) then (k079no3 a b) else (T4 ((True ∧ true = true) ∧ (True ∧ (bif (!(eqT_LSpan a.2.2.2.2.1 b.2.2.2.2.1)) then (k079no3 a b) else (T4 ((True ∧ true = true) ∧ (True ∧ (bif (!(eqT_Filter a.2.2.2.2.2.1 b.2.2.2.2.2.1)) then (k079no3 a b) else (T5 (bif (!eqS a.2.2.2.2.2.2.1 b.2.2.2.2.2.2.1) then (k079no3 a b) else (T5 (bif (!eqS a.2.2.2.2.2.2.2.1 b.2.2.2.2.2.2.2.1) then (k079no3 a b) else (T4 ((True ∧ true = true) ∧ (True ∧ (bif (!(eqT_Queue a.2.2.2.2.2.2.2.2.1 b.2.2.2.2.2.2.2.2.1)) then (k079no3 a b) else (T4 ((True ∧ true = true) ∧ (True ∧ (bif (!(eqT_In a.2.2.2.2.2.2.2.2.2.1 b.2.2.2.2.2.2.2.2.2.1)) then (k079no3 a b) else (T4 ((True ∧ true = true) ∧ (True ∧ (bif (!(eqT_Out a.2.2.2.2.2.2.2.2.2.2.1 b.2.2.2.2.2.2.2.2.2.2.1)) then (k079no3 a b) else (T5 (bif (neI a.2.2.2.2.2.2.2.2.2.2.2 b.2.2.2.2.2.2.2.2.2.2.2) then (k079no3 a b) else (True ∧ ((true = true ∧ leC (.bool true) (.bool (eqT_Session a b))) ∧ true = true)))))))))))))))))))))))))))))))))))))) (by kernel_rfl) ?_
  unfold k079no3 T4 T5 T7
  simp only [SIA, eq_self]
  repeat' (first | apply And.intro | intro _)
  all_goals (first
    | trivial
    | omega
    | exact (eqT_Session_false.2 (fun e => by subst e; simp_all [EQA])).symm
    | (rw [Bool.eq_iff_iff]; simp_all [Prod.ext_iff, EQA]; done)
    | (simp_all [Prod.ext_iff, EQA]; done))
def e_l_eqSession : Entry Tryz.prog := ⟨21, [.s tySession, .s tySession], fun x => True, fun x => .c (.bool (eqT_Session x.1 x.2.1)), fun _ => [], fun x hx => b_l_eqSession x.1 x.2.1, Tryz.call21⟩
end Go.Proofs.YtigebfhekmjhmaaGreat
