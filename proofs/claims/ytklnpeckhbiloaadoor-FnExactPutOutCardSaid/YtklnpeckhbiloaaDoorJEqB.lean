/-
  Contracts of the laws' functions eqX.
  No condition but what the arguments' cells hold. Printed by vcgen.py.
-/
import Derived.Test.YtklnpeckhbiloaaDoorJBmTy
set_option linter.unusedSimpArgs false
set_option linter.unusedVariables false
set_option maxRecDepth 100000
set_option maxHeartbeats 4000000
namespace Go.Proofs.YtklnpeckhbiloaaDoor
open Go.ChangeShapes Go.WideShapes Go.ChangeAt Go.RowKit Go.Joins Go.Deep
open GoRep (rep bulk)

theorem b_l_eqReply (a : GCommit) (b : GCommit) : BCalls Tryd.prog 25 [.ag (cellsOf tyCommit a), .ag (cellsOf tyCommit b)] (.c (.bool (eqT_Commit a b))) [] := by
  refine bc0 [] [] [] [] L0 Tryd.func25 (fun hwf => ?_)
  refine Eq.mpr (β := (T8 (bif (neI a.1 b.1) then (True ∧ (rB false (eqT_Commit a b))) else (T5 (bif (neI a.2.1 b.2.1) then (True ∧ (rB false (eqT_Commit a b))) else (T5 (bif (neI a.2.2.1 b.2.2.1) then (True ∧ (rB false (eqT_Commit a b))) else (T5 (bif (neI a.2.2.2.1 b.2.2.2.1) then (True ∧ (rB false (eqT_Commit a b))) else (T5 (bif (!eqS a.2.2.2.2.1 b.2.2.2.2.1) then (True ∧ (rB false (eqT_Commit a b))) else (T5 (bif (!eqS a.2.2.2.2.2 b.2.2.2.2.2) then (True ∧ (rB false (eqT_Commit a b))) else (True ∧ (rB true (eqT_Commit a b)))))))))))))))) (by kernel_rfl) ?_
  unfold T5 T8
  simp only [SIA, eq_self]
  repeat' (first | apply And.intro | intro _)
  all_goals (first
    | trivial
    | omega
    | exact (eqT_Commit_false.2 (fun e => by subst e; simp_all [EQA])).symm
    | (rw [Bool.eq_iff_iff]; simp_all [Prod.ext_iff, EQA]; done)
    | (simp_all [Prod.ext_iff, EQA]; done))
def e_l_eqReply : Entry Tryd.prog := ⟨25, [.s tyCommit, .s tyCommit], fun x => True, fun x => .c (.bool (eqT_Commit x.1 x.2.1)), fun _ => [], fun x hx => b_l_eqReply x.1 x.2.1, Tryd.call25⟩
def L_l_eqReplyS (a : List GCommit) (b : List GCommit) : Nat → List AV → Mem → LoopA
  | 4, tm, M => ⟨Nat, fun y => (anyR (setA tm [(4, .any), (5, .c (.int .i64 ((y : Nat) : Int)))]) 11 16, M), fun y => (y ≤ List.length a ∧ ∀ j, j < y → nth_Commit a j = nth_Commit b j), fun y => (List.length a - y)⟩
  | _, _, _ => ⟨Unit, fun _ => ([], []), fun _ => False, fun _ => 0⟩
theorem b_l_eqReplyS (a : List GCommit) (b : List GCommit) : BCalls Tryd.prog 11 [.c (.hs .no tyCommit a), .c (.hs .no tyCommit b)] (.c (.bool (eqT_LCommit a b))) [] := by
  refine bc0 [e_l_eqReply] [] [] [] (L_l_eqReplyS a b) Tryd.func11 (fun hwf => ?_)
  refine Eq.mpr (β := (T6 (bif (neI ((List.length a : Nat) : Int) ((List.length b : Nat) : Int)) then (True ∧ (rB false (eqT_LCommit a b))) else (True ∧ ((∃ q : Nat, (q ≤ List.length a ∧ ∀ j, j < q → nth_Commit a j = nth_Commit b j) ∧ ((lxs [.c (.hs .no tyCommit a), .c (.hs .no tyCommit b), .tp [], .tp []] (True ∧ leV (.c (.int .i64 0)) (.c (.int .i64 ((q : Nat) : Int))) ∧ lxs [.c (.hs .no tyCommit a), .c (.int .i64 ((List.length a : Nat) : Int)), .c (.hs .no tyCommit b), .c (.int .i64 ((List.length b : Nat) : Int)), .c (.bool false)] (TN 16 True))) ∧ (True) ∧ true = true)) ∧ ∀ y0 : Nat, (y0 ≤ List.length a ∧ ∀ j, j < y0 → nth_Commit a j = nth_Commit b j) → (T4 (bif (ltI ((y0 : Nat) : Int) ((List.length a : Nat) : Int)) then ((true = true ∧ true = true) ∧ (T2 (((6 : Nat) = 6 ∧ (0 : Int) ≤ ((y0 : Nat) : Int) ∧ (((y0 : Nat) : Int) : Int) < ((List.length a : Nat) : Int)) ∧ (T3 (((6 : Nat) = 6 ∧ (0 : Int) ≤ ((y0 : Nat) : Int) ∧ (((y0 : Nat) : Int) : Int) < ((List.length b : Nat) : Int)) ∧ (True ∧ ((True ∧ true = true) ∧ (True ∧ (bif (!(eqT_Commit (nth_Commit a (Int.toNat ((y0 : Nat) : Int))) (nth_Commit b (Int.toNat ((y0 : Nat) : Int))))) then (True ∧ (rB false (eqT_LCommit a b))) else (T3 (∃ y0' : Nat, (y0' ≤ List.length a ∧ ∀ j, j < y0' → nth_Commit a j = nth_Commit b j) ∧ (List.length a - y0') < (List.length a - y0) ∧ ((lxs [.c (.hs .no tyCommit a), .c (.hs .no tyCommit b), .tp [], .tp []] (True ∧ leV (.c (.int .i64 (IntKind.wrap .i64 (((y0 : Nat) : Int) + 1)))) (.c (.int .i64 ((y0' : Nat) : Int))) ∧ lxs [.c (.hs .no tyCommit a), .c (.int .i64 ((List.length a : Nat) : Int)), .c (.hs .no tyCommit b), .c (.int .i64 ((List.length b : Nat) : Int)), .c (.bool false)] (TN 16 True))) ∧ (True) ∧ true = true)))))))))))) else (True ∧ (rB true (eqT_LCommit a b)))))))))) (by kernel_rfl) ?_
  unfold T2 T3 T4 T6
  simp only [SIA, eq_self]
  have hm0 : List.length a ≤ maxLen := hwf.1.1
  repeat' (first | apply And.intro | intro _)
  all_goals (first
    | trivial
    | omega
    | exact ⟨0, ⟨Nat.zero_le _, allN_zero⟩, rfl⟩
    | (refine ⟨_, ⟨?_, allN_step (And.right (by assumption)) ?_⟩, ?_, wrapN ?_⟩ <;> first | omega | (simp_all [Prod.ext_iff, EQA]; done))
    | exact (eqT_LCommit_false.2 (fun e => by subst e; simp_all [EQA])).symm
    | exact (eqT_LCommit_true.2 (by have hx := eq_of_nth (t := tyCommit) (xs := a) (ys := b) (show List.length a = List.length b by omega) (fun j hj => (by assumption : _ ≤ List.length a ∧ ∀ j, j < _ → nth_Commit a j = nth_Commit b j).2 j (by have hj' : j < List.length a := hj; omega)); simp_all [Prod.ext_iff, EQA])).symm
    | (rw [Bool.eq_iff_iff]; simp_all [Prod.ext_iff, EQA]; done)
    | (simp_all [Prod.ext_iff, EQA]; done))
def e_l_eqReplyS : Entry Tryd.prog := ⟨11, [.v (.list tyCommit), .v (.list tyCommit)], fun x => True, fun x => .c (.bool (eqT_LCommit x.1 x.2.1)), fun _ => [], fun x hx => b_l_eqReplyS x.1 x.2.1, Tryd.call11⟩
theorem b_l_eqOut (a : GOut) (b : GOut) : BCalls Tryd.prog 14 [.ag [.str a.1, .str a.2], .ag [.str b.1, .str b.2]] (.c (.bool (eqT_Out a b))) [] := by
  refine bc0 [] [] [] [] L0 Tryd.func14 (fun hwf => ?_)
  refine Eq.mpr (β := (True ∧ (True ∧ (True ∧ (True ∧ (True ∧ (True ∧ (True ∧ (True ∧ (bif (!eqS a.1 b.1) then (True ∧ (rB false (eqT_Out a b))) else (True ∧ (True ∧ (True ∧ (True ∧ (True ∧ (bif (!eqS a.2 b.2) then (True ∧ (rB false (eqT_Out a b))) else (True ∧ (rB true (eqT_Out a b))))))))))))))))))) (by kernel_rfl) ?_
  simp only [SIA, eq_self]
  repeat' (first | apply And.intro | intro _)
  all_goals (first
    | trivial
    | omega
    | exact (eqT_Out_false.2 (fun e => by subst e; simp_all [EQA])).symm
    | (rw [Bool.eq_iff_iff]; simp_all [Prod.ext_iff, EQA]; done)
    | (simp_all [Prod.ext_iff, EQA]; done))
def e_l_eqOut : Entry Tryd.prog := ⟨14, [.s tyOut, .s tyOut], fun x => True, fun x => .c (.bool (eqT_Out x.1 x.2.1)), fun _ => [], fun x hx => b_l_eqOut x.1 x.2.1, Tryd.call14⟩
end Go.Proofs.YtklnpeckhbiloaaDoor
