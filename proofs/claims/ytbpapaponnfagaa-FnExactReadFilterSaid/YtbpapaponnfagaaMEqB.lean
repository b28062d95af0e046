/-
  Contracts of the laws' functions eqX.
  No condition but what the arguments' cells hold. Printed by vcgen.py.
-/
import Derived.Test.YtbpapaponnfagaaMBmTy
set_option linter.unusedSimpArgs false
set_option linter.unusedVariables false
set_option maxRecDepth 100000
set_option maxHeartbeats 4000000
namespace Go.Proofs.Ytbpapaponnfagaa
open Go.ChangeShapes Go.WideShapes Go.ChangeAt Go.RowKit Go.Joins Go.Deep
open GoRep (rep bulk)

theorem b_l_eqToken (a : GToken) (b : GToken) : BCalls Try.prog 40 [.ag [.int .i64 a.1, .str a.2], .ag [.int .i64 b.1, .str b.2]] (.c (.bool (eqT_Token a b))) [] := by
  refine bc0 [] [] [] [] L0 Try.func40 (fun hwf => ?_)
  refine Eq.mpr (β := (True ∧ (True ∧ (True ∧ (True ∧ (True ∧ (True ∧ (True ∧ (True ∧ (bif (neI a.1 b.1) then (True ∧ (rB false (eqT_Token a b))) else (True ∧ (True ∧ (True ∧ (True ∧ (True ∧ (bif (!eqS a.2 b.2) then (True ∧ (rB false (eqT_Token a b))) else (True ∧ (rB true (eqT_Token a b))))))))))))))))))) (by kernel_rfl) ?_
  simp only [SIA, eq_self]
  repeat' (first | apply And.intro | intro _)
  all_goals (first
    | trivial
    | omega
    | exact (eqT_Token_false.2 (fun e => by subst e; simp_all [EQA])).symm
    | (rw [Bool.eq_iff_iff]; simp_all [Prod.ext_iff, EQA]; done)
    | (simp_all [Prod.ext_iff, EQA]; done))
def e_l_eqToken : Entry Try.prog := ⟨40, [.s tyToken, .s tyToken], fun x => True, fun x => .c (.bool (eqT_Token x.1 x.2.1)), fun _ => [], fun x hx => b_l_eqToken x.1 x.2.1, Try.call40⟩
def L_l_eqTokenS (a : List GToken) (b : List GToken) : Nat → List AV → Mem → LoopA
  | 4, tm, M => ⟨Nat, fun y => (anyR (setA tm [(4, .any), (5, .c (.int .i64 ((y : Nat) : Int)))]) 11 16, M), fun y => (y ≤ List.length a ∧ ∀ j, j < y → nth_Token a j = nth_Token b j), fun y => (List.length a - y)⟩
  | _, _, _ => ⟨Unit, fun _ => ([], []), fun _ => False, fun _ => 0⟩
theorem b_l_eqTokenS (a : List GToken) (b : List GToken) : BCalls Try.prog 11 [.c (.hs .no tyToken a), .c (.hs .no tyToken b)] (.c (.bool (eqT_LToken a b))) [] := by
  refine bc0 [e_l_eqToken] [] [] [] (L_l_eqTokenS a b) Try.func11 (fun hwf => ?_)
  refine Eq.mpr (β := (T6 (bif (neI ((List.length a : Nat) : Int) ((List.length b : Nat) : Int)) then (True ∧ (rB false (eqT_LToken a b))) else (True ∧ ((∃ q : Nat, (q ≤ List.length a ∧ ∀ j, j < q → nth_Token a j = nth_Token b j) ∧ ((lxs [.c (.hs .no tyToken a), .c (.hs .no tyToken b), .tp [], .tp []] (True ∧ leV (.c (.int .i64 0)) (.c (.int .i64 ((q : Nat) : Int))) ∧ lxs [.c (.hs .no tyToken a), .c (.int .i64 ((List.length a : Nat) : Int)), .c (.hs .no tyToken b), .c (.int .i64 ((List.length b : Nat) : Int)), .c (.bool false)] (TN 16 True))) ∧ (True) ∧ true = true)) ∧ ∀ y0 : Nat, (y0 ≤ List.length a ∧ ∀ j, j < y0 → nth_Token a j = nth_Token b j) → (T4 (bif (ltI ((y0 : Nat) : Int) ((List.length a : Nat) : Int)) then ((true = true ∧ true = true) ∧ (T2 (((2 : Nat) = 2 ∧ (0 : Int) ≤ ((y0 : Nat) : Int) ∧ (((y0 : Nat) : Int) : Int) < ((List.length a : Nat) : Int)) ∧ (T3 (((2 : Nat) = 2 ∧ (0 : Int) ≤ ((y0 : Nat) : Int) ∧ (((y0 : Nat) : Int) : Int) < ((List.length b : Nat) : Int)) ∧ (True ∧ ((True ∧ true = true) ∧ (True ∧ (bif (!(eqT_Token (nth_Token a (Int.toNat ((y0 : Nat) : Int))) (nth_Token b (Int.toNat ((y0 : Nat) : Int))))) then (True ∧ (rB false (eqT_LToken a b))) else (T3 (∃ y0' : Nat, (y0' ≤ List.length a ∧ ∀ j, j < y0' → nth_Token a j = nth_Token b j) ∧ (List.length a - y0') < (List.length a - y0) ∧ ((lxs [.c (.hs .no tyToken a), .c (.hs .no tyToken b), .tp [], .tp []] (True ∧ leV (.c (.int .i64 (IntKind.wrap .i64 (((y0 : Nat) : Int) + 1)))) (.c (.int .i64 ((y0' : Nat) : Int))) ∧ lxs [.c (.hs .no tyToken a), .c (.int .i64 ((List.length a : Nat) : Int)), .c (.hs .no tyToken b), .c (.int .i64 ((List.length b : Nat) : Int)), .c (.bool false)] (TN 16 True))) ∧ (True) ∧ true = true)))))))))))) else (True ∧ (rB true (eqT_LToken a b)))))))))) (by kernel_rfl) ?_
  unfold T2 T3 T4 T6
  simp only [SIA, eq_self]
  have hm0 : List.length a ≤ maxLen := hwf.1.1
  repeat' (first | apply And.intro | intro _)
  all_goals (first
    | trivial
    | omega
    | exact ⟨0, ⟨Nat.zero_le _, allN_zero⟩, rfl⟩
    | (refine ⟨_, ⟨?_, allN_step (And.right (by assumption)) ?_⟩, ?_, wrapN ?_⟩ <;> first | omega | (simp_all [Prod.ext_iff, EQA]; done))
    | exact (eqT_LToken_false.2 (fun e => by subst e; simp_all [EQA])).symm
    | exact (eqT_LToken_true.2 (by have hx := eq_of_nth (t := tyToken) (xs := a) (ys := b) (show List.length a = List.length b by omega) (fun j hj => (by assumption : _ ≤ List.length a ∧ ∀ j, j < _ → nth_Token a j = nth_Token b j).2 j (by have hj' : j < List.length a := hj; omega)); simp_all [Prod.ext_iff, EQA])).symm
    | (rw [Bool.eq_iff_iff]; simp_all [Prod.ext_iff, EQA]; done)
    | (simp_all [Prod.ext_iff, EQA]; done))
def e_l_eqTokenS : Entry Try.prog := ⟨11, [.v (.list tyToken), .v (.list tyToken)], fun x => True, fun x => .c (.bool (eqT_LToken x.1 x.2.1)), fun _ => [], fun x hx => b_l_eqTokenS x.1 x.2.1, Try.call11⟩
def L_l_eqStringS (a : List ByteArray) (b : List ByteArray) : Nat → List AV → Mem → LoopA
  | 4, tm, M => ⟨Nat, fun y => (anyR (setA tm [(4, .any), (5, .c (.int .i64 ((y : Nat) : Int)))]) 11 15, M), fun y => (y ≤ List.length a ∧ ∀ j, j < y → nth_String a j = nth_String b j), fun y => (List.length a - y)⟩
  | _, _, _ => ⟨Unit, fun _ => ([], []), fun _ => False, fun _ => 0⟩
theorem b_l_eqStringS (a : List ByteArray) (b : List ByteArray) : BCalls Try.prog 95 [.c (.hs .no tyStr a), .c (.hs .no tyStr b)] (.c (.bool (eqT_LString a b))) [] := by
  refine bc0 [] [] [] [] (L_l_eqStringS a b) Try.func95 (fun hwf => ?_)
  refine Eq.mpr (β := (T6 (bif (neI ((List.length a : Nat) : Int) ((List.length b : Nat) : Int)) then (True ∧ (rB false (eqT_LString a b))) else (True ∧ ((∃ q : Nat, (q ≤ List.length a ∧ ∀ j, j < q → nth_String a j = nth_String b j) ∧ ((lxs [.c (.hs .no tyStr a), .c (.hs .no tyStr b), .tp [], .tp []] (True ∧ leV (.c (.int .i64 0)) (.c (.int .i64 ((q : Nat) : Int))) ∧ lxs [.c (.hs .no tyStr a), .c (.int .i64 ((List.length a : Nat) : Int)), .c (.hs .no tyStr b), .c (.int .i64 ((List.length b : Nat) : Int)), .c (.bool false)] (TN 15 True))) ∧ (True) ∧ true = true)) ∧ ∀ y0 : Nat, (y0 ≤ List.length a ∧ ∀ j, j < y0 → nth_String a j = nth_String b j) → (T4 (bif (ltI ((y0 : Nat) : Int) ((List.length a : Nat) : Int)) then ((true = true ∧ true = true) ∧ (T2 (((1 : Nat) = 1 ∧ (0 : Int) ≤ ((y0 : Nat) : Int) ∧ (((y0 : Nat) : Int) : Int) < ((List.length a : Nat) : Int)) ∧ (T3 (((1 : Nat) = 1 ∧ (0 : Int) ≤ ((y0 : Nat) : Int) ∧ (((y0 : Nat) : Int) : Int) < ((List.length b : Nat) : Int)) ∧ (T2 (bif (!eqS (nth_String a (Int.toNat ((y0 : Nat) : Int))) (nth_String b (Int.toNat ((y0 : Nat) : Int)))) then (True ∧ (rB false (eqT_LString a b))) else (T3 (∃ y0' : Nat, (y0' ≤ List.length a ∧ ∀ j, j < y0' → nth_String a j = nth_String b j) ∧ (List.length a - y0') < (List.length a - y0) ∧ ((lxs [.c (.hs .no tyStr a), .c (.hs .no tyStr b), .tp [], .tp []] (True ∧ leV (.c (.int .i64 (IntKind.wrap .i64 (((y0 : Nat) : Int) + 1)))) (.c (.int .i64 ((y0' : Nat) : Int))) ∧ lxs [.c (.hs .no tyStr a), .c (.int .i64 ((List.length a : Nat) : Int)), .c (.hs .no tyStr b), .c (.int .i64 ((List.length b : Nat) : Int)), .c (.bool false)] (TN 15 True))) ∧ (True) ∧ true = true)))))))))) else (True ∧ (rB true (eqT_LString a b)))))))))) (by kernel_rfl) ?_
  unfold T2 T3 T4 T6
  simp only [SIA, eq_self]
  have hm0 : List.length a ≤ maxLen := hwf.1.1
  repeat' (first | apply And.intro | intro _)
  all_goals (first
    | trivial
    | omega
    | exact ⟨0, ⟨Nat.zero_le _, allN_zero⟩, rfl⟩
    | (refine ⟨_, ⟨?_, allN_step (And.right (by assumption)) ?_⟩, ?_, wrapN ?_⟩ <;> first | omega | (simp_all [Prod.ext_iff, EQA]; done))
    | exact (eqT_LString_false.2 (fun e => by subst e; simp_all [EQA])).symm
    | exact (eqT_LString_true.2 (by have hx := eq_of_nth (t := tyStr) (xs := a) (ys := b) (show List.length a = List.length b by omega) (fun j hj => (by assumption : _ ≤ List.length a ∧ ∀ j, j < _ → nth_String a j = nth_String b j).2 j (by have hj' : j < List.length a := hj; omega)); simp_all [Prod.ext_iff, EQA])).symm
    | (rw [Bool.eq_iff_iff]; simp_all [Prod.ext_iff, EQA]; done)
    | (simp_all [Prod.ext_iff, EQA]; done))
def e_l_eqStringS : Entry Try.prog := ⟨95, [.v (.list tyStr), .v (.list tyStr)], fun x => True, fun x => .c (.bool (eqT_LString x.1 x.2.1)), fun _ => [], fun x hx => b_l_eqStringS x.1 x.2.1, Try.call95⟩
theorem b_l_eqScope (a : GScope) (b : GScope) : BCalls Try.prog 78 [.ag [.int .i64 a.1, .hs .no tyStr a.2.1, .int .i64 a.2.2], .ag [.int .i64 b.1, .hs .no tyStr b.2.1, .int .i64 b.2.2]] (.c (.bool (eqT_Scope a b))) [] := by
  refine bc0 [e_l_eqStringS] [] [] [] L0 Try.func78 (fun hwf => ?_)
  refine Eq.mpr (β := (True ∧ (True ∧ (True ∧ (True ∧ (True ∧ (True ∧ (True ∧ (True ∧ (bif (neI a.1 b.1) then (True ∧ (rB false (eqT_Scope a b))) else (True ∧ (True ∧ (True ∧ (True ∧ ((True ∧ true = true) ∧ (True ∧ (bif (!(eqT_LString a.2.1 b.2.1)) then (True ∧ (rB false (eqT_Scope a b))) else (True ∧ (True ∧ (True ∧ (True ∧ (True ∧ (bif (neI a.2.2 b.2.2) then (True ∧ (rB false (eqT_Scope a b))) else (True ∧ (rB true (eqT_Scope a b)))))))))))))))))))))))))) (by kernel_rfl) ?_
  simp only [SIA, eq_self]
  repeat' (first | apply And.intro | intro _)
  all_goals (first
    | trivial
    | omega
    | exact (eqT_Scope_false.2 (fun e => by subst e; simp_all [EQA])).symm
    | (rw [Bool.eq_iff_iff]; simp_all [Prod.ext_iff, EQA]; done)
    | (simp_all [Prod.ext_iff, EQA]; done))
def e_l_eqScope : Entry Try.prog := ⟨78, [.s tyScope, .s tyScope], fun x => True, fun x => .c (.bool (eqT_Scope x.1 x.2.1)), fun _ => [], fun x hx => b_l_eqScope x.1 x.2.1, Try.call78⟩
def L_l_eqScopeS (a : List GScope) (b : List GScope) : Nat → List AV → Mem → LoopA
  | 4, tm, M => ⟨Nat, fun y => (anyR (setA tm [(4, .any), (5, .c (.int .i64 ((y : Nat) : Int)))]) 11 16, M), fun y => (y ≤ List.length a ∧ ∀ j, j < y → nth_Scope a j = nth_Scope b j), fun y => (List.length a - y)⟩
  | _, _, _ => ⟨Unit, fun _ => ([], []), fun _ => False, fun _ => 0⟩
theorem b_l_eqScopeS (a : List GScope) (b : List GScope) : BCalls Try.prog 39 [.c (.hs .no tyScope a), .c (.hs .no tyScope b)] (.c (.bool (eqT_LScope a b))) [] := by
  refine bc0 [e_l_eqScope] [] [] [] (L_l_eqScopeS a b) Try.func39 (fun hwf => ?_)
  refine Eq.mpr (β := (T6 (bif (neI ((List.length a : Nat) : Int) ((List.length b : Nat) : Int)) then (True ∧ (rB false (eqT_LScope a b))) else (True ∧ ((∃ q : Nat, (q ≤ List.length a ∧ ∀ j, j < q → nth_Scope a j = nth_Scope b j) ∧ ((lxs [.c (.hs .no tyScope a), .c (.hs .no tyScope b), .tp [], .tp []] (True ∧ leV (.c (.int .i64 0)) (.c (.int .i64 ((q : Nat) : Int))) ∧ lxs [.c (.hs .no tyScope a), .c (.int .i64 ((List.length a : Nat) : Int)), .c (.hs .no tyScope b), .c (.int .i64 ((List.length b : Nat) : Int)), .c (.bool false)] (TN 16 True))) ∧ (True) ∧ true = true)) ∧ ∀ y0 : Nat, (y0 ≤ List.length a ∧ ∀ j, j < y0 → nth_Scope a j = nth_Scope b j) → (T4 (bif (ltI ((y0 : Nat) : Int) ((List.length a : Nat) : Int)) then ((true = true ∧ true = true) ∧ (T2 (((3 : Nat) = 3 ∧ (0 : Int) ≤ ((y0 : Nat) : Int) ∧ (((y0 : Nat) : Int) : Int) < ((List.length a : Nat) : Int)) ∧ (T3 (((3 : Nat) = 3 ∧ (0 : Int) ≤ ((y0 : Nat) : Int) ∧ (((y0 : Nat) : Int) : Int) < ((List.length b : Nat) : Int)) ∧ (True ∧ ((True ∧ true = true) ∧ (True ∧ (bif (!(eqT_Scope (nth_Scope a (Int.toNat ((y0 : Nat) : Int))) (nth_Scope b (Int.toNat ((y0 : Nat) : Int))))) then (True ∧ (rB false (eqT_LScope a b))) else (T3 (∃ y0' : Nat, (y0' ≤ List.length a ∧ ∀ j, j < y0' → nth_Scope a j = nth_Scope b j) ∧ (List.length a - y0') < (List.length a - y0) ∧ ((lxs [.c (.hs .no tyScope a), .c (.hs .no tyScope b), .tp [], .tp []] (True ∧ leV (.c (.int .i64 (IntKind.wrap .i64 (((y0 : Nat) : Int) + 1)))) (.c (.int .i64 ((y0' : Nat) : Int))) ∧ lxs [.c (.hs .no tyScope a), .c (.int .i64 ((List.length a : Nat) : Int)), .c (.hs .no tyScope b), .c (.int .i64 ((List.length b : Nat) : Int)), .c (.bool false)] (TN 16 True))) ∧ (True) ∧ true = true)))))))))))) else (True ∧ (rB true (eqT_LScope a b)))))))))) (by kernel_rfl) ?_
  unfold T2 T3 T4 T6
  simp only [SIA, eq_self]
  have hm0 : List.length a ≤ maxLen := hwf.1.1
  repeat' (first | apply And.intro | intro _)
  all_goals (first
    | trivial
    | omega
    | exact ⟨0, ⟨Nat.zero_le _, allN_zero⟩, rfl⟩
    | (refine ⟨_, ⟨?_, allN_step (And.right (by assumption)) ?_⟩, ?_, wrapN ?_⟩ <;> first | omega | (simp_all [Prod.ext_iff, EQA]; done))
    | exact (eqT_LScope_false.2 (fun e => by subst e; simp_all [EQA])).symm
    | exact (eqT_LScope_true.2 (by have hx := eq_of_nth (t := tyScope) (xs := a) (ys := b) (show List.length a = List.length b by omega) (fun j hj => (by assumption : _ ≤ List.length a ∧ ∀ j, j < _ → nth_Scope a j = nth_Scope b j).2 j (by have hj' : j < List.length a := hj; omega)); simp_all [Prod.ext_iff, EQA])).symm
    | (rw [Bool.eq_iff_iff]; simp_all [Prod.ext_iff, EQA]; done)
    | (simp_all [Prod.ext_iff, EQA]; done))
def e_l_eqScopeS : Entry Try.prog := ⟨39, [.v (.list tyScope), .v (.list tyScope)], fun x => True, fun x => .c (.bool (eqT_LScope x.1 x.2.1)), fun _ => [], fun x hx => b_l_eqScopeS x.1 x.2.1, Try.call39⟩
theorem b_l_eqFilter (a : GFilter) (b : GFilter) : BCalls Try.prog 10 [.ag [.bool a.1, .hs .no tyScope a.2], .ag [.bool b.1, .hs .no tyScope b.2]] (.c (.bool (eqT_Filter a b))) [] := by
  refine bc0 [e_l_eqScopeS] [] [] [] L0 Try.func10 (fun hwf => ?_)
  refine Eq.mpr (β := (True ∧ (True ∧ (True ∧ (True ∧ (True ∧ (True ∧ (True ∧ (some TypeDesc.bool = some TypeDesc.bool ∧ (bif (!eqO a.1 b.1) then (True ∧ (rB false (eqT_Filter a b))) else (True ∧ (True ∧ (True ∧ (True ∧ ((True ∧ true = true) ∧ (True ∧ (bif (!(eqT_LScope a.2 b.2)) then (True ∧ (rB false (eqT_Filter a b))) else (True ∧ (rB true (eqT_Filter a b)))))))))))))))))))) (by kernel_rfl) ?_
  simp only [SIA, eq_self]
  repeat' (first | apply And.intro | intro _)
  all_goals (first
    | trivial
    | omega
    | exact (eqT_Filter_false.2 (fun e => by subst e; simp_all [EQA])).symm
    | (rw [Bool.eq_iff_iff]; simp_all [Prod.ext_iff, EQA]; done)
    | (simp_all [Prod.ext_iff, EQA]; done))
def e_l_eqFilter : Entry Try.prog := ⟨10, [.s tyFilter, .s tyFilter], fun x => True, fun x => .c (.bool (eqT_Filter x.1 x.2.1)), fun _ => [], fun x hx => b_l_eqFilter x.1 x.2.1, Try.call10⟩
end Go.Proofs.Ytbpapaponnfagaa
