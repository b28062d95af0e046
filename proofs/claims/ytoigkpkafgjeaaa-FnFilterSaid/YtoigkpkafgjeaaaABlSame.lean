/-
  Equality of the program's values.
  No condition but what the arguments' cells hold. Printed by vcgen.py.
-/
import Derived.Test.YtoigkpkafgjeaaaABlLib
set_option linter.unusedSimpArgs false
set_option linter.unusedVariables false
set_option maxRecDepth 100000
set_option maxHeartbeats 4000000
namespace Go.Proofs.Ytoigkpkafgjeaaa
open Go.ChangeShapes Go.WideShapes Go.ChangeAt Go.RowKit Go.Joins Go.Deep
open GoRep (rep bulk)

theorem b_i_SameFilter_1 (a : GScope) (b : GScope) : BCalls Try.prog 55 [.ag [.int .i64 a.1, .hs .no tyStr a.2.1, .int .i64 a.2.2], .ag [.int .i64 b.1, .hs .no tyStr b.2.1, .int .i64 b.2.2]] (.c (.bool (eqT_Scope a b))) [] := by
  refine bc0 [e_slices_Equal_string_string] [] [] [] L0 Try.func55 (fun hwf => ?_)
  refine Eq.mpr (β := (True ∧ (True ∧ (True ∧ (True ∧ (True ∧ (True ∧ (True ∧ (True ∧ (True ∧ (bif (eqI a.1 b.1) then (True ∧ (True ∧ (True ∧ (True ∧ ((True ∧ true = true) ∧ (True ∧ (True ∧ (bif eqT_LString a.2.1 b.2.1 then (True ∧ (True ∧ (True ∧ (True ∧ (True ∧ (True ∧ (True ∧ (rB (eqI a.2.2 b.2.2) (eqT_Scope a b))))))))) else (True ∧ (True ∧ (rB false (eqT_Scope a b)))))))))))) else (True ∧ (True ∧ (True ∧ (True ∧ (rB false (eqT_Scope a b))))))))))))))))) (by kernel_rfl) ?_
  simp only [SIA, eq_self]
  repeat' (first | apply And.intro | intro _)
  all_goals (first | trivial | (rw [Bool.eq_iff_iff]; simp_all [Prod.ext_iff, EQA]; done) | (simp_all [Prod.ext_iff, EQA]; done) | omega)
def e_i_SameFilter_1 : Entry Try.prog := ⟨55, [.s tyScope, .s tyScope], fun x => True, fun x => .c (.bool (eqT_Scope x.1 x.2.1)), fun _ => [], fun x hx => b_i_SameFilter_1 x.1 x.2.1, Try.call55⟩
theorem allB_eq {α : Type} {p : α → α → Bool} (h : ∀ x y, p x y = true ↔ x = y) : ∀ {xs ys : List α}, allB p xs ys = true ↔ xs = ys
  | [], [] => by simp [allB]
  | _ :: _, [] => by simp [allB]
  | [], _ :: _ => by simp [allB]
  | x :: xs, y :: ys => by simp [allB, h, allB_eq h]
theorem allB_eqT_Scope {xs ys : List GScope} : allB (fun x y : GScope => eqT_Scope x y) xs ys = true ↔ xs = ys := allB_eq (fun _ _ => eqT_Scope_true)
theorem b_i_SameFilter (a : GFilter) (b : GFilter) : BCalls Try.prog 19 [.ag [.bool a.1, .hs .no tyScope a.2], .ag [.bool b.1, .hs .no tyScope b.2]] (.c (.bool (eqT_Filter a b))) [] := by
  refine bc0 [e_i_SameFilter_1] [] [e_slices_EqualFunc_i_Scope_i_Scope_i_Scope_i_Scope] [] L0 Try.func19 (fun hwf => ?_)
  refine Eq.mpr (β := (True ∧ (True ∧ (True ∧ (True ∧ (True ∧ (True ∧ (True ∧ (some TypeDesc.bool = some TypeDesc.bool ∧ (True ∧ (bif (eqO a.1 b.1) then (True ∧ (True ∧ (True ∧ (True ∧ (((∀ z0 w0 : GScope, True ∧ True) ∧ ∀ (_ : GScope → GScope → Bool) (_ _ : List GScope), true = true) ∧ (True ∧ (True ∧ (rB (allB (fun z0 w0 : GScope => eqT_Scope z0 w0) a.2 b.2) (eqT_Filter a b))))))))) else (True ∧ (True ∧ (rB false (eqT_Filter a b))))))))))))))) (by kernel_rfl) ?_
  simp only [SIA, eq_self]
  repeat' (first | apply And.intro | intro _)
  all_goals (first | trivial | (rw [Bool.eq_iff_iff]; simp_all [Prod.ext_iff, EQA, allB_eqT_Scope]; done) | (simp_all [Prod.ext_iff, EQA, allB_eqT_Scope]; done) | omega)
def e_i_SameFilter : Entry Try.prog := ⟨19, [.s tyFilter, .s tyFilter], fun x => True, fun x => .c (.bool (eqT_Filter x.1 x.2.1)), fun _ => [], fun x hx => b_i_SameFilter x.1 x.2.1, Try.call19⟩
def L_s_l1Texts (a : List ByteArray) (b : List ByteArray) : Nat → List AV → Mem → LoopA
  | 4, tm, M => ⟨Nat, fun y => (anyR (setA tm [(4, .any), (5, .c (.int .i64 ((y : Nat) : Int)))]) 11 15, M), fun y => (y ≤ List.length a ∧ ∀ j, j < y → nth_String a j = nth_String b j), fun y => (List.length a - y)⟩
  | _, _, _ => ⟨Unit, fun _ => ([], []), fun _ => False, fun _ => 0⟩
theorem b_s_l1Texts (a : List ByteArray) (b : List ByteArray) : BCalls Try.prog 53 [.c (.hs .no tyStr a), .c (.hs .no tyStr b)] (.c (.bool (eqT_LString a b))) [] := by
  refine bc0 [] [] [] [] (L_s_l1Texts a b) Try.func53 (fun hwf => ?_)
  refine Eq.mpr (β := (T6 (bif (neI ((List.length a : Nat) : Int) ((List.length b : Nat) : Int)) then (True ∧ (rB false (eqT_LString a b))) else (True ∧ ((∃ q : Nat, (q ≤ List.length a ∧ ∀ j, j < q → nth_String a j = nth_String b j) ∧ ((lxs [.c (.hs .no tyStr a), .c (.hs .no tyStr b), .tp [], .tp []] (True ∧ leV (.c (.int .i64 0)) (.c (.int .i64 ((q : Nat) : Int))) ∧ lxs [.c (.hs .no tyStr a), .c (.int .i64 ((List.length a : Nat) : Int)), .c (.hs .no tyStr b), .c (.int .i64 ((List.length b : Nat) : Int)), .c (.bool false)] (TN 15 True))) ∧ (True) ∧ true = true)) ∧ ∀ y0 : Nat, (y0 ≤ List.length a ∧ ∀ j, j < y0 → nth_String a j = nth_String b j) → (T4 (bif (ltI ((y0 : Nat) : Int) ((List.length a : Nat) : Int)) then ((true = true ∧ true = true) ∧ (T2 (((1 : Nat) = 1 ∧ (0 : Int) ≤ ((y0 : Nat) : Int) ∧ (((y0 : Nat) : Int) : Int) < ((List.length a : Nat) : Int)) ∧ (T3 (((1 : Nat) = 1 ∧ (0 : Int) ≤ ((y0 : Nat) : Int) ∧ (((y0 : Nat) : Int) : Int) < ((List.length b : Nat) : Int)) ∧ (T2 (bif (!eqS (nth_String a (Int.toNat ((y0 : Nat) : Int))) (nth_String b (Int.toNat ((y0 : Nat) : Int)))) then (True ∧ (rB false (eqT_LString a b))) else (T3 (∃ y0' : Nat, (y0' ≤ List.length a ∧ ∀ j, j < y0' → nth_String a j = nth_String b j) ∧ (List.length a - y0') < (List.length a - y0) ∧ ((lxs [.c (.hs .no tyStr a), .c (.hs .no tyStr b), .tp [], .tp []] (True ∧ leV (.c (.int .i64 (IntKind.wrap .i64 (((y0 : Nat) : Int) + 1)))) (.c (.int .i64 ((y0' : Nat) : Int))) ∧ lxs [.c (.hs .no tyStr a), .c (.int .i64 ((List.length a : Nat) : Int)), .c (.hs .no tyStr b), .c (.int .i64 ((List.length b : Nat) : Int)), .c (.bool false)] (TN 15 True))) ∧ (True) ∧ true = true)))))))))) else (True ∧ (rB true (eqT_LString a b)))))))))) (by kernel_rfl) ?_
  unfold T2 T3 T4 T6
  simp only [SIA, eq_self]
  have hm : List.length a ≤ maxLen := hwf.1.1
  refine ⟨fun hl => ?_, fun hl => ⟨⟨0, ⟨Nat.zero_le _, allN_zero⟩, rfl⟩, fun k hk => ⟨fun hlt => ⟨by omega, by omega, fun hp => ?_, fun hp => ?_⟩, fun hge => ?_⟩⟩⟩
  · exact (eqT_LString_false.2 (fun e => hl (by rw [e]))).symm
  · exact (eqT_LString_false.2 (fun e => hp (by rw [e]))).symm
  · exact ⟨k + 1, ⟨by omega, allN_step hk.2 (hp)⟩, by omega, wrapN (by omega)⟩
  · obtain rfl : k = List.length a := by omega
    have hl' : List.length a = List.length b := by omega
    exact (eqT_LString_true.2 (eq_of_nth (t := tyStr) hl' hk.2)).symm
def e_s_l1Texts : Entry Try.prog := ⟨53, [.v (.list tyStr), .v (.list tyStr)], fun x => True, fun x => .c (.bool (eqT_LString x.1 x.2.1)), fun _ => [], fun x hx => b_s_l1Texts x.1 x.2.1, Try.call53⟩
def L_s_SameFilter (a : GFilter) (b : GFilter) : Nat → List AV → Mem → LoopA
  | 4, tm, M => ⟨Nat, fun y => (anyR (setA tm [(4, .any), (5, .c (.int .i64 ((y : Nat) : Int)))]) 20 51, M), fun y => (y ≤ List.length a.2 ∧ ∀ j, j < y → nth_Scope a.2 j = nth_Scope b.2 j), fun y => (List.length a.2 - y)⟩
  | _, _, _ => ⟨Unit, fun _ => ([], []), fun _ => False, fun _ => 0⟩
def k05z44i (y0 : Nat) (a : GFilter) : Prop := ((3 : Nat) = 3 ∧ (0 : Int) ≤ ((y0 : Nat) : Int) ∧ (((y0 : Nat) : Int) : Int) < ((List.length a.2 : Nat) : Int))
def k15z44i (y0 : Nat) (b : GFilter) : Prop := ((3 : Nat) = 3 ∧ (0 : Int) ≤ ((y0 : Nat) : Int) ∧ (((y0 : Nat) : Int) : Int) < ((List.length b.2 : Nat) : Int))
theorem b_s_SameFilter (a : GFilter) (b : GFilter) : BCalls Try.prog 18 [.ag [.bool a.1, .hs .no tyScope a.2], .ag [.bool b.1, .hs .no tyScope b.2]] (.c (.bool (eqT_Filter a b))) [] := by
  refine bc0 [e_s_l1Texts] [] [] [] (L_s_SameFilter a b) Try.func18 (fun hwf => ?_)
  refine Eq.mpr (β := (T7 (some TypeDesc.bool = some TypeDesc.bool ∧ (True ∧ (bif (!eqO a.1 b.1) then (T2 (rB false (eqT_Filter a b))) else (T8 (bif (neI ((List.length a.2 : Nat) : Int) ((List.length b.2 : Nat) : Int)) then (True ∧ (rB false (eqT_Filter a b))) else (True ∧ ((∃ q : Nat, (q ≤ List.length a.2 ∧ ∀ j, j < q → nth_Scope a.2 j = nth_Scope b.2 j) ∧ ((lxs [.ag [.bool a.1, .hs .no tyScope a.2], .ag [.bool b.1, .hs .no tyScope b.2], .c (.bp 0 0), .c (.bp 1 0)] (True ∧ leV (.c (.int .i64 0)) (.c (.int .i64 ((q : Nat) : Int))) ∧ lxs [.c (.bp 0 0), .c (.bool a.1), .c (.bp 1 0), .c (.bool b.1), .c (.bool (!eqO a.1 b.1)), .c (.bool false), .c (.bp 0 1), .c (.hs .no tyScope a.2), .c (.int .i64 ((List.length a.2 : Nat) : Int)), .c (.bp 1 1), .c (.hs .no tyScope b.2), .c (.int .i64 ((List.length b.2 : Nat) : Int)), .c (.bool (neI ((List.length a.2 : Nat) : Int) ((List.length b.2 : Nat) : Int))), .c (.bool false)] (TN 51 True))) ∧ (lb (.box [.bool a.1, .hs .no tyScope a.2]) ∧ lb (.box [.bool b.1, .hs .no tyScope b.2]) ∧ True) ∧ true = true)) ∧ ∀ y0 : Nat, (y0 ≤ List.length a.2 ∧ ∀ j, j < y0 → nth_Scope a.2 j = nth_Scope b.2 j) → (T5 (bif (ltI ((y0 : Nat) : Int) ((List.length a.2 : Nat) : Int)) then ((true = true ∧ true = true) ∧ (T3 ((k05z44i y0 a) ∧ (T5 ((k15z44i y0 b) ∧ (T4 (bif (neI (nth_Scope a.2 (Int.toNat ((y0 : Nat) : Int))).1 (nth_Scope b.2 (Int.toNat ((y0 : Nat) : Int))).1) then (T4 (rB false (eqT_Filter a b))) else (T3 ((k05z44i y0 a) ∧ (T5 ((k15z44i y0 b) ∧ (T5 (bif (neI (nth_Scope a.2 (Int.toNat ((y0 : Nat) : Int))).2.2 (nth_Scope b.2 (Int.toNat ((y0 : Nat) : Int))).2.2) then (T2 (rB false (eqT_Filter a b))) else (T3 ((k05z44i y0 a) ∧ (T5 ((k15z44i y0 b) ∧ (T2 ((True ∧ true = true) ∧ (T2 (bif (!(eqT_LString (nth_Scope a.2 (Int.toNat ((y0 : Nat) : Int))).2.1 (nth_Scope b.2 (Int.toNat ((y0 : Nat) : Int))).2.1)) then (True ∧ (rB false (eqT_Filter a b))) else (T3 (∃ y0' : Nat, (y0' ≤ List.length a.2 ∧ ∀ j, j < y0' → nth_Scope a.2 j = nth_Scope b.2 j) ∧ (List.length a.2 - y0') < (List.length a.2 - y0) ∧ ((lxs [.ag [.bool a.1, .hs .no tyScope a.2], .ag [.bool b.1, .hs .no tyScope b.2], .c (.bp 0 0), .c (.bp 1 0)] (True ∧ leV (.c (.int .i64 (IntKind.wrap .i64 (((y0 : Nat) : Int) + 1)))) (.c (.int .i64 ((y0' : Nat) : Int))) ∧ lxs [.c (.bp 0 0), .c (.bool a.1), .c (.bp 1 0), .c (.bool b.1), .c (.bool (!eqO a.1 b.1)), .c (.bool false), .c (.bp 0 1), .c (.hs .no tyScope a.2), .c (.int .i64 ((List.length a.2 : Nat) : Int)), .c (.bp 1 1), .c (.hs .no tyScope b.2), .c (.int .i64 ((List.length b.2 : Nat) : Int)), .c (.bool (neI ((List.length a.2 : Nat) : Int) ((List.length b.2 : Nat) : Int))), .c (.bool false)] (TN 51 True))) ∧ (lb (.box [.bool a.1, .hs .no tyScope a.2]) ∧ lb (.box [.bool b.1, .hs .no tyScope b.2]) ∧ True) ∧ true = true)))))))))))))))))))))))) else (True ∧ (rB true (eqT_Filter a b)))))))))))))) (by kernel_rfl) ?_
  unfold k15z44i k05z44i T2 T3 T4 T5 T7 T8
  simp only [SIA, eq_self]
  have hm0 : List.length a.2 ≤ maxLen := hwf.1.2.1.1
  repeat' (first | apply And.intro | intro _)
  all_goals (first
    | trivial
    | omega
    | exact ⟨0, ⟨Nat.zero_le _, allN_zero⟩, rfl⟩
    | (refine ⟨_, ⟨?_, allN_step (And.right (by assumption)) ?_⟩, ?_, wrapN ?_⟩ <;> first | omega | (simp_all [Prod.ext_iff, EQA]; done))
    | exact (eqT_Filter_false.2 (fun e => by subst e; simp_all [EQA])).symm
    | exact (eqT_Filter_true.2 (by have hx := eq_of_nth (t := tyScope) (xs := a.2) (ys := b.2) (show List.length a.2 = List.length b.2 by omega) (fun j hj => (by assumption : _ ≤ List.length a.2 ∧ ∀ j, j < _ → nth_Scope a.2 j = nth_Scope b.2 j).2 j (by have hj' : j < List.length a.2 := hj; omega)); simp_all [Prod.ext_iff, EQA])).symm
    | (rw [Bool.eq_iff_iff]; simp_all [Prod.ext_iff, EQA]; done)
    | (simp_all [Prod.ext_iff, EQA]; done))
def e_s_SameFilter : Entry Try.prog := ⟨18, [.s tyFilter, .s tyFilter], fun x => True, fun x => .c (.bool (eqT_Filter x.1 x.2.1)), fun _ => [], fun x hx => b_s_SameFilter x.1 x.2.1, Try.call18⟩
end Go.Proofs.Ytoigkpkafgjeaaa
