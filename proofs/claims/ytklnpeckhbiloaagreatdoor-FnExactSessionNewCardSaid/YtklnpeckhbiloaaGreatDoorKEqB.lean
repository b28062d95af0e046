/-
  Contracts of the laws' functions eqX.
  No condition but what the arguments' cells hold. Printed by vcgen.py.
-/
import Derived.Test.YtklnpeckhbiloaaGreatDoorKBmTy
set_option linter.unusedSimpArgs false
set_option linter.unusedVariables false
set_option maxRecDepth 100000
set_option maxHeartbeats 4000000
namespace Go.Proofs.YtklnpeckhbiloaaGreatDoor
open Go.ChangeShapes Go.WideShapes Go.ChangeAt Go.RowKit Go.Joins Go.Deep
open GoRep (rep bulk)

def L_l_eqStringS (a : List ByteArray) (b : List ByteArray) : Nat → List AV → Mem → LoopA
  | 4, tm, M => ⟨Nat, fun y => (anyR (setA tm [(4, .any), (5, .c (.int .i64 ((y : Nat) : Int)))]) 11 15, M), fun y => (y ≤ List.length a ∧ ∀ j, j < y → nth_String a j = nth_String b j), fun y => (List.length a - y)⟩
  | _, _, _ => ⟨Unit, fun _ => ([], []), fun _ => False, fun _ => 0⟩
theorem b_l_eqStringS (a : List ByteArray) (b : List ByteArray) : BCalls Tryz.prog 106 [.c (.hs .no tyStr a), .c (.hs .no tyStr b)] (.c (.bool (eqT_LString a b))) [] := by
  refine bc0 [] [] [] [] (L_l_eqStringS a b) Tryz.func106 (fun hwf => ?_)
  refine Eq.mpr (β := (T6 (bif (neI ((List.length a : Nat) : Int) ((List.length b : Nat) : Int)) then (True ∧ (rB false (eqT_LString a b))) else (True ∧ ((∃ q : Nat, (q ≤ List.length a ∧ ∀ j, j < q → nth_String a j = nth_String b j) ∧ ((lxs [.c (.hs .no tyStr a), .c (.hs .no tyStr b), .tp [], .tp []] (True ∧ leV (.c (.int .i64 0)) (.c (.int .i64 ((q : Nat) : Int))) ∧ lxs [.c (.hs .no tyStr a), .c (.int .i64 ((List.length a : Nat) : Int)), .c (.hs .no tyStr b), .c (.int .i64 ((List.length b : Nat) : Int)), .c (.bool false)] (TN 15 True))) ∧ (True) ∧ true = true)) ∧ ∀ y0 : Nat, (y0 ≤ List.length a ∧ ∀ j, j < y0 → nth_String a j = nth_String b j) → (T4 (bif (ltI ((y0 : Nat) : Int) ((List.length a : Nat) : Int)) then ((true = true ∧ true = true) ∧ (T2 (((1 : Nat) = 1 ∧ (0 : Int) ≤ ((y0 : Nat) : Int) ∧ (((y0 : Nat) : Int) : Int) < ((List.length a : Nat) : Int)) ∧ (T3 (((1 : Nat) = 1 ∧ (0 : Int) ≤ ((y0 : Nat) : Int) ∧ (((y0 : Nat) : Int) : Int) < ((List.length b : Nat) : Int)) ∧ (T2 (bif (!eqS (nth_String a (Int.toNat ((y0 : Nat) : Int))) (nth_String b (Int.toNat ((y0 : Nat) : Int)))) then (True ∧ (rB false (eqT_LString a b))) else (T3 (∃ y0' : Nat, (y0' ≤ List.length a ∧ ∀ j, j < y0' → nth_String a j = nth_String b j) ∧ (List.length a - y0') < (List.length a - y0) ∧ ((lxs [.c (.hs .no tyStr a), .c (.hs .no tyStr b), .tp [], .tp []] (True ∧ leV (.c (.int .i64 (IntKind.wrap .i64 (((y0 : Nat) : Int) + 1)))) (.c (.int .i64 ((y0' : Nat) : Int))) ∧ lxs [.c (.hs .no tyStr a), .c (.int .i64 ((List.length a : Nat) : Int)), .c (.hs .no tyStr b), .c (.int .i64 ((List.length b : Nat) : Int)), .c (.bool false)] (TN 15 True))) ∧ (True) ∧ true = true)))))))))) else (True ∧ (rB true (eqT_LString a b)))))))))) (by kernel_rfl) ?_
  unfold T2 T3 T4 T6
  simp only [SIA, eq_self]
  have hm0 : List.length a ≤ maxLen := hwf.1.1
  repeat' (first | apply And.intro | intro _)
  all_goals (first
    | trivial
    | omega
    | exact ⟨0, ⟨Nat.zero_le _, allN_zero⟩, rfl⟩
    | (refine ⟨_, ⟨?_, allN_step (And.right (by assumption)) ?_⟩, ?_, wrapN ?_⟩ <;> first | omega | (simp_all [Prod.ext_iff, EQA]; done))
    | exact (eqT_LString_false.2 (fun e => by subst e; simp_all [EQA])).symm
    | exact (eqT_LString_true.2 (by have hx := eq_of_nth (t := tyStr) (xs := a) (ys := b) (show List.length a = List.length b by omega) (fun j hj => (by assumption : _ ≤ List.length a ∧ ∀ j, j < _ → nth_String a j = nth_String b j).2 j (by have hj' : j < List.length a := hj; omega)); simp_all [Prod.ext_iff, EQA])).symm
    | (rw [Bool.eq_iff_iff]; simp_all [Prod.ext_iff, EQA]; done)
    | (simp_all [Prod.ext_iff, EQA]; done))
def e_l_eqStringS : Entry Tryz.prog := ⟨106, [.v (.list tyStr), .v (.list tyStr)], fun x => True, fun x => .c (.bool (eqT_LString x.1 x.2.1)), fun _ => [], fun x hx => b_l_eqStringS x.1 x.2.1, Tryz.call106⟩
theorem b_l_eqScope (a : GScope) (b : GScope) : BCalls Tryz.prog 73 [.ag [.int .i64 a.1, .hs .no tyStr a.2.1, .int .i64 a.2.2], .ag [.int .i64 b.1, .hs .no tyStr b.2.1, .int .i64 b.2.2]] (.c (.bool (eqT_Scope a b))) [] := by
  refine bc0 [e_l_eqStringS] [] [] [] L0 Tryz.func73 (fun hwf => ?_)
  refine Eq.mpr (β := (True ∧ (True ∧ (True ∧ (True ∧ (True ∧ (True ∧ (True ∧ (True ∧ (bif (neI a.1 b.1) then (True ∧ (rB false (eqT_Scope a b))) else (True ∧ (True ∧ (True ∧ (True ∧ ((True ∧ true = true) ∧ (True ∧ (bif (!(eqT_LString a.2.1 b.2.1)) then (True ∧ (rB false (eqT_Scope a b))) else (True ∧ (True ∧ (True ∧ (True ∧ (True ∧ (bif (neI a.2.2 b.2.2) then (True ∧ (rB false (eqT_Scope a b))) else (True ∧ (rB true (eqT_Scope a b)))))))))))))))))))))))))) (by kernel_rfl) ?_
  simp only [SIA, eq_self]
  repeat' (first | apply And.intro | intro _)
  all_goals (first
    | trivial
    | omega
    | exact (eqT_Scope_false.2 (fun e => by subst e; simp_all [EQA])).symm
    | (rw [Bool.eq_iff_iff]; simp_all [Prod.ext_iff, EQA]; done)
    | (simp_all [Prod.ext_iff, EQA]; done))
def e_l_eqScope : Entry Tryz.prog := ⟨73, [.s tyScope, .s tyScope], fun x => True, fun x => .c (.bool (eqT_Scope x.1 x.2.1)), fun _ => [], fun x hx => b_l_eqScope x.1 x.2.1, Tryz.call73⟩
def L_l_eqScopeS (a : List GScope) (b : List GScope) : Nat → List AV → Mem → LoopA
  | 4, tm, M => ⟨Nat, fun y => (anyR (setA tm [(4, .any), (5, .c (.int .i64 ((y : Nat) : Int)))]) 11 16, M), fun y => (y ≤ List.length a ∧ ∀ j, j < y → nth_Scope a j = nth_Scope b j), fun y => (List.length a - y)⟩
  | _, _, _ => ⟨Unit, fun _ => ([], []), fun _ => False, fun _ => 0⟩
theorem b_l_eqScopeS (a : List GScope) (b : List GScope) : BCalls Tryz.prog 41 [.c (.hs .no tyScope a), .c (.hs .no tyScope b)] (.c (.bool (eqT_LScope a b))) [] := by
  refine bc0 [e_l_eqScope] [] [] [] (L_l_eqScopeS a b) Tryz.func41 (fun hwf => ?_)
  refine Eq.mpr (β := (T6 (bif (neI ((List.length a : Nat) : Int) ((List.length b : Nat) : Int)) then (True ∧ (rB false (eqT_LScope a b))) else (True ∧ ((∃ q : Nat, (q ≤ List.length a ∧ ∀ j, j < q → nth_Scope a j = nth_Scope b j) ∧ ((lxs [.c (.hs .no tyScope a), .c (.hs .no tyScope b), .tp [], .tp []] (True ∧ leV (.c (.int .i64 0)) (.c (.int .i64 ((q : Nat) : Int))) ∧ lxs [.c (.hs .no tyScope a), .c (.int .i64 ((List.length a : Nat) : Int)), .c (.hs .no tyScope b), .c (.int .i64 ((List.length b : Nat) : Int)), .c (.bool false)] (TN 16 True))) ∧ (True) ∧ true = true)) ∧ ∀ y0 : Nat, (y0 ≤ List.length a ∧ ∀ j, j < y0 → nth_Scope a j = nth_Scope b j) → (T4 (bif (ltI ((y0 : Nat) : Int) ((List.length a : Nat) : Int)) then ((true = true ∧ true = true) ∧ (T2 (((3 : Nat) = 3 ∧ (0 : Int) ≤ ((y0 : Nat) : Int) ∧ (((y0 : Nat) : Int) : Int) < ((List.length a : Nat) : Int)) ∧ (T3 (((3 : Nat) = 3 ∧ (0 : Int) ≤ ((y0 : Nat) : Int) ∧ (((y0 : Nat) : Int) : Int) < ((List.length b : Nat) : Int)) ∧ (True ∧ ((True ∧ true = true) ∧ (True ∧ (bif (!(eqT_Scope (nth_Scope a (Int.toNat ((y0 : Nat) : Int))) (nth_Scope b (Int.toNat ((y0 : Nat) : Int))))) then (True ∧ (rB false (eqT_LScope a b))) else (T3 (∃ y0' : Nat, (y0' ≤ List.length a ∧ ∀ j, j < y0' → nth_Scope a j = nth_Scope b j) ∧ (List.length a - y0') < (List.length a - y0) ∧ ((lxs [.c (.hs .no tyScope a), .c (.hs .no tyScope b), .tp [], .tp []] (True ∧ leV (.c (.int .i64 (IntKind.wrap .i64 (((y0 : Nat) : Int) + 1)))) (.c (.int .i64 ((y0' : Nat) : Int))) ∧ lxs [.c (.hs .no tyScope a), .c (.int .i64 ((List.length a : Nat) : Int)), .c (.hs .no tyScope b), .c (.int .i64 ((List.length b : Nat) : Int)), .c (.bool false)] (TN 16 True))) ∧ (True) ∧ true = true)))))))))))) else (True ∧ (rB true (eqT_LScope a b)))))))))) (by kernel_rfl) ?_
  unfold T2 T3 T4 T6
  simp only [SIA, eq_self]
  have hm0 : List.length a ≤ maxLen := hwf.1.1
  repeat' (first | apply And.intro | intro _)
  all_goals (first
    | trivial
    | omega
    | exact ⟨0, ⟨Nat.zero_le _, allN_zero⟩, rfl⟩
    | (refine ⟨_, ⟨?_, allN_step (And.right (by assumption)) ?_⟩, ?_, wrapN ?_⟩ <;> first | omega | (simp_all [Prod.ext_iff, EQA]; done))
    | exact (eqT_LScope_false.2 (fun e => by subst e; simp_all [EQA])).symm
    | exact (eqT_LScope_true.2 (by have hx := eq_of_nth (t := tyScope) (xs := a) (ys := b) (show List.length a = List.length b by omega) (fun j hj => (by assumption : _ ≤ List.length a ∧ ∀ j, j < _ → nth_Scope a j = nth_Scope b j).2 j (by have hj' : j < List.length a := hj; omega)); simp_all [Prod.ext_iff, EQA])).symm
    | (rw [Bool.eq_iff_iff]; simp_all [Prod.ext_iff, EQA]; done)
    | (simp_all [Prod.ext_iff, EQA]; done))
def e_l_eqScopeS : Entry Tryz.prog := ⟨41, [.v (.list tyScope), .v (.list tyScope)], fun x => True, fun x => .c (.bool (eqT_LScope x.1 x.2.1)), fun _ => [], fun x hx => b_l_eqScopeS x.1 x.2.1, Tryz.call41⟩
theorem b_l_eqFilter (a : GFilter) (b : GFilter) : BCalls Tryz.prog 21 [.ag [.bool a.1, .hs .no tyScope a.2], .ag [.bool b.1, .hs .no tyScope b.2]] (.c (.bool (eqT_Filter a b))) [] := by
  refine bc0 [e_l_eqScopeS] [] [] [] L0 Tryz.func21 (fun hwf => ?_)
  refine Eq.mpr (β := (True ∧ (True ∧ (True ∧ (True ∧ (True ∧ (True ∧ (True ∧ (some TypeDesc.bool = some TypeDesc.bool ∧ (bif (!eqO a.1 b.1) then (True ∧ (rB false (eqT_Filter a b))) else (True ∧ (True ∧ (True ∧ (True ∧ ((True ∧ true = true) ∧ (True ∧ (bif (!(eqT_LScope a.2 b.2)) then (True ∧ (rB false (eqT_Filter a b))) else (True ∧ (rB true (eqT_Filter a b)))))))))))))))))))) (by kernel_rfl) ?_
  simp only [SIA, eq_self]
  repeat' (first | apply And.intro | intro _)
  all_goals (first
    | trivial
    | omega
    | exact (eqT_Filter_false.2 (fun e => by subst e; simp_all [EQA])).symm
    | (rw [Bool.eq_iff_iff]; simp_all [Prod.ext_iff, EQA]; done)
    | (simp_all [Prod.ext_iff, EQA]; done))
def e_l_eqFilter : Entry Tryz.prog := ⟨21, [.s tyFilter, .s tyFilter], fun x => True, fun x => .c (.bool (eqT_Filter x.1 x.2.1)), fun _ => [], fun x hx => b_l_eqFilter x.1 x.2.1, Tryz.call21⟩
theorem b_l_eqSeen (a : GSpan) (b : GSpan) : BCalls Tryz.prog 72 [.ag [.int .i64 a.1, .int .i64 a.2], .ag [.int .i64 b.1, .int .i64 b.2]] (.c (.bool (eqT_Span a b))) [] := by
  refine bc0 [] [] [] [] L0 Tryz.func72 (fun hwf => ?_)
  refine Eq.mpr (β := (True ∧ (True ∧ (True ∧ (True ∧ (True ∧ (True ∧ (True ∧ (True ∧ (bif (neI a.1 b.1) then (True ∧ (rB false (eqT_Span a b))) else (True ∧ (True ∧ (True ∧ (True ∧ (True ∧ (bif (neI a.2 b.2) then (True ∧ (rB false (eqT_Span a b))) else (True ∧ (rB true (eqT_Span a b))))))))))))))))))) (by kernel_rfl) ?_
  simp only [SIA, eq_self]
  repeat' (first | apply And.intro | intro _)
  all_goals (first
    | trivial
    | omega
    | exact (eqT_Span_false.2 (fun e => by subst e; simp_all [EQA])).symm
    | (rw [Bool.eq_iff_iff]; simp_all [Prod.ext_iff, EQA]; done)
    | (simp_all [Prod.ext_iff, EQA]; done))
def e_l_eqSeen : Entry Tryz.prog := ⟨72, [.s tySpan, .s tySpan], fun x => True, fun x => .c (.bool (eqT_Span x.1 x.2.1)), fun _ => [], fun x hx => b_l_eqSeen x.1 x.2.1, Tryz.call72⟩
def L_l_eqSeenS (a : List GSpan) (b : List GSpan) : Nat → List AV → Mem → LoopA
  | 4, tm, M => ⟨Nat, fun y => (anyR (setA tm [(4, .any), (5, .c (.int .i64 ((y : Nat) : Int)))]) 11 16, M), fun y => (y ≤ List.length a ∧ ∀ j, j < y → nth_Span a j = nth_Span b j), fun y => (List.length a - y)⟩
  | _, _, _ => ⟨Unit, fun _ => ([], []), fun _ => False, fun _ => 0⟩
theorem b_l_eqSeenS (a : List GSpan) (b : List GSpan) : BCalls Tryz.prog 40 [.c (.hs .no tySpan a), .c (.hs .no tySpan b)] (.c (.bool (eqT_LSpan a b))) [] := by
  refine bc0 [e_l_eqSeen] [] [] [] (L_l_eqSeenS a b) Tryz.func40 (fun hwf => ?_)
  refine Eq.mpr (β := (T6 (bif (neI ((List.length a : Nat) : Int) ((List.length b : Nat) : Int)) then (True ∧ (rB false (eqT_LSpan a b))) else (True ∧ ((∃ q : Nat, (q ≤ List.length a ∧ ∀ j, j < q → nth_Span a j = nth_Span b j) ∧ ((lxs [.c (.hs .no tySpan a), .c (.hs .no tySpan b), .tp [], .tp []] (True ∧ leV (.c (.int .i64 0)) (.c (.int .i64 ((q : Nat) : Int))) ∧ lxs [.c (.hs .no tySpan a), .c (.int .i64 ((List.length a : Nat) : Int)), .c (.hs .no tySpan b), .c (.int .i64 ((List.length b : Nat) : Int)), .c (.bool false)] (TN 16 True))) ∧ (True) ∧ true = true)) ∧ ∀ y0 : Nat, (y0 ≤ List.length a ∧ ∀ j, j < y0 → nth_Span a j = nth_Span b j) → (T4 (bif (ltI ((y0 : Nat) : Int) ((List.length a : Nat) : Int)) then ((true = true ∧ true = true) ∧ (T2 (((2 : Nat) = 2 ∧ (0 : Int) ≤ ((y0 : Nat) : Int) ∧ (((y0 : Nat) : Int) : Int) < ((List.length a : Nat) : Int)) ∧ (T3 (((2 : Nat) = 2 ∧ (0 : Int) ≤ ((y0 : Nat) : Int) ∧ (((y0 : Nat) : Int) : Int) < ((List.length b : Nat) : Int)) ∧ (True ∧ ((True ∧ true = true) ∧ (True ∧ (bif (!(eqT_Span (nth_Span a (Int.toNat ((y0 : Nat) : Int))) (nth_Span b (Int.toNat ((y0 : Nat) : Int))))) then (True ∧ (rB false (eqT_LSpan a b))) else (T3 (∃ y0' : Nat, (y0' ≤ List.length a ∧ ∀ j, j < y0' → nth_Span a j = nth_Span b j) ∧ (List.length a - y0') < (List.length a - y0) ∧ ((lxs [.c (.hs .no tySpan a), .c (.hs .no tySpan b), .tp [], .tp []] (True ∧ leV (.c (.int .i64 (IntKind.wrap .i64 (((y0 : Nat) : Int) + 1)))) (.c (.int .i64 ((y0' : Nat) : Int))) ∧ lxs [.c (.hs .no tySpan a), .c (.int .i64 ((List.length a : Nat) : Int)), .c (.hs .no tySpan b), .c (.int .i64 ((List.length b : Nat) : Int)), .c (.bool false)] (TN 16 True))) ∧ (True) ∧ true = true)))))))))))) else (True ∧ (rB true (eqT_LSpan a b)))))))))) (by kernel_rfl) ?_
  unfold T2 T3 T4 T6
  simp only [SIA, eq_self]
  have hm0 : List.length a ≤ maxLen := hwf.1.1
  repeat' (first | apply And.intro | intro _)
  all_goals (first
    | trivial
    | omega
    | exact ⟨0, ⟨Nat.zero_le _, allN_zero⟩, rfl⟩
    | (refine ⟨_, ⟨?_, allN_step (And.right (by assumption)) ?_⟩, ?_, wrapN ?_⟩ <;> first | omega | (simp_all [Prod.ext_iff, EQA]; done))
    | exact (eqT_LSpan_false.2 (fun e => by subst e; simp_all [EQA])).symm
    | exact (eqT_LSpan_true.2 (by have hx := eq_of_nth (t := tySpan) (xs := a) (ys := b) (show List.length a = List.length b by omega) (fun j hj => (by assumption : _ ≤ List.length a ∧ ∀ j, j < _ → nth_Span a j = nth_Span b j).2 j (by have hj' : j < List.length a := hj; omega)); simp_all [Prod.ext_iff, EQA])).symm
    | (rw [Bool.eq_iff_iff]; simp_all [Prod.ext_iff, EQA]; done)
    | (simp_all [Prod.ext_iff, EQA]; done))
def e_l_eqSeenS : Entry Tryz.prog := ⟨40, [.v (.list tySpan), .v (.list tySpan)], fun x => True, fun x => .c (.bool (eqT_LSpan x.1 x.2.1)), fun _ => [], fun x hx => b_l_eqSeenS x.1 x.2.1, Tryz.call40⟩
theorem b_l_eqView (a : List GSpan) (b : List GSpan) : BCalls Tryz.prog 20 [.ag [.hs .no tySpan a], .ag [.hs .no tySpan b]] (.c (.bool (eqT_LSpan a b))) [] := by
  refine bc0 [e_l_eqSeenS] [] [] [] L0 Tryz.func20 (fun hwf => ?_)
  refine Eq.mpr (β := (True ∧ (True ∧ (True ∧ (True ∧ (True ∧ (True ∧ (True ∧ ((True ∧ true = true) ∧ (True ∧ (bif (!(eqT_LSpan a b)) then (True ∧ (rB false (eqT_LSpan a b))) else (True ∧ (rB true (eqT_LSpan a b)))))))))))))) (by kernel_rfl) ?_
  simp only [SIA, eq_self]
  repeat' (first | apply And.intro | intro _)
  all_goals (first
    | trivial
    | omega
    | exact (eqT_LSpan_false.2 (fun e => by subst e; simp_all [EQA])).symm
    | (rw [Bool.eq_iff_iff]; simp_all [Prod.ext_iff, EQA]; done)
    | (simp_all [Prod.ext_iff, EQA]; done))
def e_l_eqView : Entry Tryz.prog := ⟨20, [.s (.list tySpan), .s (.list tySpan)], fun x => True, fun x => .c (.bool (eqT_LSpan x.1 x.2.1)), fun _ => [], fun x hx => b_l_eqView x.1 x.2.1, Tryz.call20⟩
theorem b_l_eqNote (a : GNote) (b : GNote) : BCalls Tryz.prog 74 [.ag (cellsOf tyNote a), .ag (cellsOf tyNote b)] (.c (.bool (eqT_Note a b))) [] := by
  refine bc0 [] [] [] [] L0 Tryz.func74 (fun hwf => ?_)
  refine Eq.mpr (β := (True ∧ (True ∧ (True ∧ (True ∧ (True ∧ (True ∧ (True ∧ (True ∧ (bif (neI a.1 b.1) then (True ∧ (rB false (eqT_Note a b))) else (True ∧ (True ∧ (True ∧ (True ∧ (True ∧ (bif (neI a.2.1 b.2.1) then (True ∧ (rB false (eqT_Note a b))) else (True ∧ (True ∧ (True ∧ (True ∧ (True ∧ (bif (neI a.2.2.1 b.2.2.1) then (True ∧ (rB false (eqT_Note a b))) else (True ∧ (True ∧ (True ∧ (True ∧ (True ∧ (bif (!eqS a.2.2.2 b.2.2.2) then (True ∧ (rB false (eqT_Note a b))) else (True ∧ (rB true (eqT_Note a b))))))))))))))))))))))))))))))) (by kernel_rfl) ?_
  simp only [SIA, eq_self]
  repeat' (first | apply And.intro | intro _)
  all_goals (first
    | trivial
    | omega
    | exact (eqT_Note_false.2 (fun e => by subst e; simp_all [EQA])).symm
    | (rw [Bool.eq_iff_iff]; simp_all [Prod.ext_iff, EQA]; done)
    | (simp_all [Prod.ext_iff, EQA]; done))
def e_l_eqNote : Entry Tryz.prog := ⟨74, [.s tyNote, .s tyNote], fun x => True, fun x => .c (.bool (eqT_Note x.1 x.2.1)), fun _ => [], fun x hx => b_l_eqNote x.1 x.2.1, Tryz.call74⟩
def L_l_eqNoteS (a : List GNote) (b : List GNote) : Nat → List AV → Mem → LoopA
  | 4, tm, M => ⟨Nat, fun y => (anyR (setA tm [(4, .any), (5, .c (.int .i64 ((y : Nat) : Int)))]) 11 16, M), fun y => (y ≤ List.length a ∧ ∀ j, j < y → nth_Note a j = nth_Note b j), fun y => (List.length a - y)⟩
  | _, _, _ => ⟨Unit, fun _ => ([], []), fun _ => False, fun _ => 0⟩
theorem b_l_eqNoteS (a : List GNote) (b : List GNote) : BCalls Tryz.prog 42 [.c (.hs .no tyNote a), .c (.hs .no tyNote b)] (.c (.bool (eqT_LNote a b))) [] := by
  refine bc0 [e_l_eqNote] [] [] [] (L_l_eqNoteS a b) Tryz.func42 (fun hwf => ?_)
  refine Eq.mpr (β := (T6 (bif (neI ((List.length a : Nat) : Int) ((List.length b : Nat) : Int)) then (True ∧ (rB false (eqT_LNote a b))) else (True ∧ ((∃ q : Nat, (q ≤ List.length a ∧ ∀ j, j < q → nth_Note a j = nth_Note b j) ∧ ((lxs [.c (.hs .no tyNote a), .c (.hs .no tyNote b), .tp [], .tp []] (True ∧ leV (.c (.int .i64 0)) (.c (.int .i64 ((q : Nat) : Int))) ∧ lxs [.c (.hs .no tyNote a), .c (.int .i64 ((List.length a : Nat) : Int)), .c (.hs .no tyNote b), .c (.int .i64 ((List.length b : Nat) : Int)), .c (.bool false)] (TN 16 True))) ∧ (True) ∧ true = true)) ∧ ∀ y0 : Nat, (y0 ≤ List.length a ∧ ∀ j, j < y0 → nth_Note a j = nth_Note b j) → (T4 (bif (ltI ((y0 : Nat) : Int) ((List.length a : Nat) : Int)) then ((true = true ∧ true = true) ∧ (T2 (((4 : Nat) = 4 ∧ (0 : Int) ≤ ((y0 : Nat) : Int) ∧ (((y0 : Nat) : Int) : Int) < ((List.length a : Nat) : Int)) ∧ (T3 (((4 : Nat) = 4 ∧ (0 : Int) ≤ ((y0 : Nat) : Int) ∧ (((y0 : Nat) : Int) : Int) < ((List.length b : Nat) : Int)) ∧ (True ∧ ((True ∧ true = true) ∧ (True ∧ (bif (!(eqT_Note (nth_Note a (Int.toNat ((y0 : Nat) : Int))) (nth_Note b (Int.toNat ((y0 : Nat) : Int))))) then (True ∧ (rB false (eqT_LNote a b))) else (T3 (∃ y0' : Nat, (y0' ≤ List.length a ∧ ∀ j, j < y0' → nth_Note a j = nth_Note b j) ∧ (List.length a - y0') < (List.length a - y0) ∧ ((lxs [.c (.hs .no tyNote a), .c (.hs .no tyNote b), .tp [], .tp []] (True ∧ leV (.c (.int .i64 (IntKind.wrap .i64 (((y0 : Nat) : Int) + 1)))) (.c (.int .i64 ((y0' : Nat) : Int))) ∧ lxs [.c (.hs .no tyNote a), .c (.int .i64 ((List.length a : Nat) : Int)), .c (.hs .no tyNote b), .c (.int .i64 ((List.length b : Nat) : Int)), .c (.bool false)] (TN 16 True))) ∧ (True) ∧ true = true)))))))))))) else (True ∧ (rB true (eqT_LNote a b)))))))))) (by kernel_rfl) ?_
  unfold T2 T3 T4 T6
  simp only [SIA, eq_self]
  have hm0 : List.length a ≤ maxLen := hwf.1.1
  repeat' (first | apply And.intro | intro _)
  all_goals (first
    | trivial
    | omega
    | exact ⟨0, ⟨Nat.zero_le _, allN_zero⟩, rfl⟩
    | (refine ⟨_, ⟨?_, allN_step (And.right (by assumption)) ?_⟩, ?_, wrapN ?_⟩ <;> first | omega | (simp_all [Prod.ext_iff, EQA]; done))
    | exact (eqT_LNote_false.2 (fun e => by subst e; simp_all [EQA])).symm
    | exact (eqT_LNote_true.2 (by have hx := eq_of_nth (t := tyNote) (xs := a) (ys := b) (show List.length a = List.length b by omega) (fun j hj => (by assumption : _ ≤ List.length a ∧ ∀ j, j < _ → nth_Note a j = nth_Note b j).2 j (by have hj' : j < List.length a := hj; omega)); simp_all [Prod.ext_iff, EQA])).symm
    | (rw [Bool.eq_iff_iff]; simp_all [Prod.ext_iff, EQA]; done)
    | (simp_all [Prod.ext_iff, EQA]; done))
def e_l_eqNoteS : Entry Tryz.prog := ⟨42, [.v (.list tyNote), .v (.list tyNote)], fun x => True, fun x => .c (.bool (eqT_LNote x.1 x.2.1)), fun _ => [], fun x hx => b_l_eqNoteS x.1 x.2.1, Tryz.call42⟩
theorem b_l_eqQueue (a : GQueue) (b : GQueue) : BCalls Tryz.prog 22 [.ag [.hs .no tyNote a.1, .bool a.2.1, .bool a.2.2], .ag [.hs .no tyNote b.1, .bool b.2.1, .bool b.2.2]] (.c (.bool (eqT_Queue a b))) [] := by
  refine bc0 [e_l_eqNoteS] [] [] [] L0 Tryz.func22 (fun hwf => ?_)
  refine Eq.mpr (β := (True ∧ (True ∧ (True ∧ (True ∧ (True ∧ (True ∧ (True ∧ ((True ∧ true = true) ∧ (True ∧ (bif (!(eqT_LNote a.1 b.1)) then (True ∧ (rB false (eqT_Queue a b))) else (True ∧ (True ∧ (True ∧ (True ∧ (some TypeDesc.bool = some TypeDesc.bool ∧ (bif (!eqO a.2.1 b.2.1) then (True ∧ (rB false (eqT_Queue a b))) else (True ∧ (True ∧ (True ∧ (True ∧ (some TypeDesc.bool = some TypeDesc.bool ∧ (bif (!eqO a.2.2 b.2.2) then (True ∧ (rB false (eqT_Queue a b))) else (True ∧ (rB true (eqT_Queue a b)))))))))))))))))))))))))) (by kernel_rfl) ?_
  simp only [SIA, eq_self]
  repeat' (first | apply And.intro | intro _)
  all_goals (first
    | trivial
    | omega
    | exact (eqT_Queue_false.2 (fun e => by subst e; simp_all [EQA])).symm
    | (rw [Bool.eq_iff_iff]; simp_all [Prod.ext_iff, EQA]; done)
    | (simp_all [Prod.ext_iff, EQA]; done))
def e_l_eqQueue : Entry Tryz.prog := ⟨22, [.s tyQueue, .s tyQueue], fun x => True, fun x => .c (.bool (eqT_Queue x.1 x.2.1)), fun _ => [], fun x hx => b_l_eqQueue x.1 x.2.1, Tryz.call22⟩
theorem b_l_eqOut (a : GOut) (b : GOut) : BCalls Tryz.prog 24 [.ag [.str a.1, .str a.2], .ag [.str b.1, .str b.2]] (.c (.bool (eqT_Out a b))) [] := by
  refine bc0 [] [] [] [] L0 Tryz.func24 (fun hwf => ?_)
  refine Eq.mpr (β := (True ∧ (True ∧ (True ∧ (True ∧ (True ∧ (True ∧ (True ∧ (True ∧ (bif (!eqS a.1 b.1) then (True ∧ (rB false (eqT_Out a b))) else (True ∧ (True ∧ (True ∧ (True ∧ (True ∧ (bif (!eqS a.2 b.2) then (True ∧ (rB false (eqT_Out a b))) else (True ∧ (rB true (eqT_Out a b))))))))))))))))))) (by kernel_rfl) ?_
  simp only [SIA, eq_self]
  repeat' (first | apply And.intro | intro _)
  all_goals (first
    | trivial
    | omega
    | exact (eqT_Out_false.2 (fun e => by subst e; simp_all [EQA])).symm
    | (rw [Bool.eq_iff_iff]; simp_all [Prod.ext_iff, EQA]; done)
    | (simp_all [Prod.ext_iff, EQA]; done))
def e_l_eqOut : Entry Tryz.prog := ⟨24, [.s tyOut, .s tyOut], fun x => True, fun x => .c (.bool (eqT_Out x.1 x.2.1)), fun _ => [], fun x hx => b_l_eqOut x.1 x.2.1, Tryz.call24⟩
theorem b_l_eqIn (a : GIn) (b : GIn) : BCalls Tryz.prog 23 [.ag [.str a.1, .bool a.2], .ag [.str b.1, .bool b.2]] (.c (.bool (eqT_In a b))) [] := by
  refine bc0 [] [] [] [] L0 Tryz.func23 (fun hwf => ?_)
  refine Eq.mpr (β := (True ∧ (True ∧ (True ∧ (True ∧ (True ∧ (True ∧ (True ∧ (True ∧ (bif (!eqS a.1 b.1) then (True ∧ (rB false (eqT_In a b))) else (True ∧ (True ∧ (True ∧ (True ∧ (some TypeDesc.bool = some TypeDesc.bool ∧ (bif (!eqO a.2 b.2) then (True ∧ (rB false (eqT_In a b))) else (True ∧ (rB true (eqT_In a b))))))))))))))))))) (by kernel_rfl) ?_
  simp only [SIA, eq_self]
  repeat' (first | apply And.intro | intro _)
  all_goals (first
    | trivial
    | omega
    | exact (eqT_In_false.2 (fun e => by subst e; simp_all [EQA])).symm
    | (rw [Bool.eq_iff_iff]; simp_all [Prod.ext_iff, EQA]; done)
    | (simp_all [Prod.ext_iff, EQA]; done))
def e_l_eqIn : Entry Tryz.prog := ⟨23, [.s tyIn, .s tyIn], fun x => True, fun x => .c (.bool (eqT_In x.1 x.2.1)), fun _ => [], fun x hx => b_l_eqIn x.1 x.2.1, Tryz.call23⟩
def k079no3 (a : GSession) (b : GSession) : Prop := (True ∧ (rB false (eqT_Session a b)))
theorem b_l_eqSession (a : GSession) (b : GSession) : BCalls Tryz.prog 7 [.ag (cellsOf tySession a), .ag (cellsOf tySession b)] (.c (.bool (eqT_Session a b))) [] := by
  refine bc0 [e_l_eqView, e_l_eqFilter, e_l_eqQueue, e_l_eqIn, e_l_eqOut] [] [] [] L0 Tryz.func7 (fun hwf => ?_)
  refine Eq.mpr (β := (T7 (some TypeDesc.bool = some TypeDesc.bool ∧ (bif (!eqO a.1 b.1) then (k079no3 a b) else (T5 (bif (neI a.2.1 b.2.1) then (k079no3 a b) else (T5 (bif (neI a.2.2.1 b.2.2.1) then (k079no3 a b) else (T5 (bif (neI a.2.2.2.1 b.2.2.2.1) then (k079no3 a b) else (T4 ((True ∧ true = true) ∧ (True ∧ (bif (!(eqT_LSpan a.2.2.2.2.1 b.2.2.2.2.1)) then (k079no3 a b) else (T4 ((True ∧ true = true) ∧ (True ∧ (bif (!(eqT_Filter a.2.2.2.2.2.1 b.2.2.2.2.2.1)) then (k079no3 a b) else (T5 (bif (!eqS a.2.2.2.2.2.2.1 b.2.2.2.2.2.2.1) then (k079no3 a b) else (T5 (bif (!eqS a.2.2.2.2.2.2.2.1 b.2.2.2.2.2.2.2.1) then (k079no3 a b) else (T4 ((True ∧ true = true) ∧ (True ∧ (bif (!(eqT_Queue a.2.2.2.2.2.2.2.2.1 b.2.2.2.2.2.2.2.2.1)) then (k079no3 a b) else (T4 ((True ∧ true = true) ∧ (True ∧ (bif (!(eqT_In a.2.2.2.2.2.2.2.2.2.1 b.2.2.2.2.2.2.2.2.2.1)) then (k079no3 a b) else (T4 ((True ∧ true = true) ∧ (True ∧ (bif (!(eqT_Out a.2.2.2.2.2.2.2.2.2.2.1 b.2.2.2.2.2.2.2.2.2.2.1)) then (k079no3 a b) else (T5 (bif (neI a.2.2.2.2.2.2.2.2.2.2.2 b.2.2.2.2.2.2.2.2.2.2.2) then (k079no3 a b) else (True ∧ (rB true (eqT_Session a b))))))))))))))))))))))))))))))))))))))) (by kernel_rfl) ?_
  unfold k079no3 T4 T5 T7
  simp only [SIA, eq_self]
  repeat' (first | apply And.intro | intro _)
  all_goals (first
    | trivial
    | omega
    | exact (eqT_Session_false.2 (fun e => by subst e; simp_all [EQA])).symm
    | (rw [Bool.eq_iff_iff]; simp_all [Prod.ext_iff, EQA]; done)
    | (simp_all [Prod.ext_iff, EQA]; done))
def e_l_eqSession : Entry Tryz.prog := ⟨7, [.s tySession, .s tySession], fun x => True, fun x => .c (.bool (eqT_Session x.1 x.2.1)), fun _ => [], fun x hx => b_l_eqSession x.1 x.2.1, Tryz.call7⟩
end Go.Proofs.YtklnpeckhbiloaaGreatDoor
