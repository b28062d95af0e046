/-
  Boxes of program and reference.
  No condition but what the arguments' cells hold. Printed by vcgen.py.
-/
import Derived.Test.YtoigkpkafgjeaaaGreatDoorOBxPerf
set_option linter.unusedSimpArgs false
set_option linter.unusedVariables false
set_option maxRecDepth 100000
set_option maxHeartbeats 4000000
namespace Go.Proofs.YtoigkpkafgjeaaaGreatDoor
open Go.ChangeShapes Go.WideShapes Go.ChangeAt Go.RowKit Go.Joins Go.Deep
open GoRep (rep bulk)

def flagsOk (b : Int) : Bool := btw b 0 31
theorem b_i_FlagsOk (b : Int) : BCalls Tryz.prog 34 [.c (.int .i64 b)] (.c (.bool (flagsOk b))) [] := by
  refine bc0 [e_i_within] [] [] [] L0 Tryz.func34 (fun hwf => ?_)
  refine Eq.mpr (β := (True ∧ (True ∧ ((True ∧ true = true) ∧ (True ∧ (rB (btw b 0 31) (flagsOk b))))))) (by kernel_rfl) ?_
  simp only [SIA, eq_self]
  repeat' (first | apply And.intro | intro _)
  all_goals (first | trivial | (rw [Bool.eq_iff_iff]; simp_all [Prod.ext_iff, EQA, flagsOk]; done) | (simp_all [Prod.ext_iff, EQA, flagsOk]; done) | omega)
def e_i_FlagsOk : Entry Tryz.prog := ⟨34, [.v tyInt], fun x => True, fun x => .c (.bool (flagsOk x.1)), fun _ => [], fun x hx => b_i_FlagsOk x.1, Tryz.call34⟩
theorem b_s_FlagsOk (b : Int) : BCalls Tryz.prog 62 [.c (.int .i64 b)] (.c (.bool (flagsOk b))) [] := by
  refine bc0 [e_s_l1In] [] [] [] L0 Tryz.func62 (fun hwf => ?_)
  refine Eq.mpr (β := (True ∧ (True ∧ ((True ∧ true = true) ∧ (True ∧ (rB (btw b 0 31) (flagsOk b))))))) (by kernel_rfl) ?_
  simp only [SIA, eq_self]
  repeat' (first | apply And.intro | intro _)
  all_goals (first | trivial | (rw [Bool.eq_iff_iff]; simp_all [Prod.ext_iff, EQA, flagsOk]; done) | (simp_all [Prod.ext_iff, EQA, flagsOk]; done) | omega)
def e_s_FlagsOk : Entry Tryz.prog := ⟨62, [.v tyInt], fun x => True, fun x => .c (.bool (flagsOk x.1)), fun _ => [], fun x hx => b_s_FlagsOk x.1, Tryz.call62⟩
theorem b_i_isId (n : Int) : BCalls Tryz.prog 33 [.c (.int .i64 n)] (.c (.bool (btw n 1 999999999))) [] := by
  refine bc0 [e_i_within] [] [] [] L0 Tryz.func33 (fun hwf => ?_)
  refine Eq.mpr (β := (True ∧ (True ∧ ((True ∧ true = true) ∧ (True ∧ (rB (btw n 1 999999999) (btw n 1 999999999))))))) (by kernel_rfl) ?_
  simp only [SIA, eq_self]
  repeat' (first | apply And.intro | intro _)
  all_goals (first | trivial | (rw [Bool.eq_iff_iff]; simp_all [Prod.ext_iff, EQA]; done) | (simp_all [Prod.ext_iff, EQA]; done) | omega)
def e_i_isId : Entry Tryz.prog := ⟨33, [.v tyInt], fun x => True, fun x => .c (.bool (btw x.1 1 999999999)), fun _ => [], fun x hx => b_i_isId x.1, Tryz.call33⟩
theorem b_s_l9Number (n : Int) : BCalls Tryz.prog 61 [.c (.int .i64 n)] (.c (.bool (btw n 1 999999999))) [] := by
  refine bc0 [e_s_l1In] [] [] [] L0 Tryz.func61 (fun hwf => ?_)
  refine Eq.mpr (β := (True ∧ (True ∧ ((True ∧ true = true) ∧ (True ∧ (rB (btw n 1 999999999) (btw n 1 999999999))))))) (by kernel_rfl) ?_
  simp only [SIA, eq_self]
  repeat' (first | apply And.intro | intro _)
  all_goals (first | trivial | (rw [Bool.eq_iff_iff]; simp_all [Prod.ext_iff, EQA]; done) | (simp_all [Prod.ext_iff, EQA]; done) | omega)
def e_s_l9Number : Entry Tryz.prog := ⟨61, [.v tyInt], fun x => True, fun x => .c (.bool (btw x.1 1 999999999)), fun _ => [], fun x hx => b_s_l9Number x.1, Tryz.call61⟩
theorem I64.lohi {x : Int} (h : (Lit.int .i64 x).wf = true) : -9223372036854775808 ≤ x ∧ x ≤ 9223372036854775807 := ⟨I64.lo h, I64.hi h⟩
def L_s_BoxOk (b : GBox) : Nat → List AV → Mem → LoopA
  | 4, tm, M => ⟨Nat, fun y => (anyR (setA tm [(2, .any), (3, .c (.int .i64 ((y : Nat) : Int))), (4, .any)]) 27 47, M), fun y => (y ≤ List.length b.2.2.2 ∧ (1 ≤ b.2.2.1 → ∀ j, j < y → ¬ msgBad b j)), fun y => (List.length b.2.2.2 - y)⟩
  | _, _, _ => ⟨Unit, fun _ => ([], []), fun _ => False, fun _ => 0⟩
def k1fw4lr (b : GBox) : List AC := [.str b.1, .int .i64 b.2.1, .int .i64 b.2.2.1, .hs .no tyMsg b.2.2.2]
def k0fw4lr (b : GBox) (y0 : Nat) : Prop := (T2 ((True ∧ true = true) ∧ (T3 (bif (!(flagsOk (nth_Msg b.2.2.2 (Int.toNat ((y0 : Nat) : Int))).2.1)) then (T2 (rB false (boxOk b))) else (T5 (bif (gtI ((ByteArray.size (nth_Msg b.2.2.2 (Int.toNat ((y0 : Nat) : Int))).2.2 : Nat) : Int) 40) then (True ∧ (rB false (boxOk b))) else (T3 (∃ y0' : Nat, (y0' ≤ List.length b.2.2.2 ∧ (1 ≤ b.2.2.1 → ∀ j, j < y0' → ¬ msgBad b j)) ∧ (List.length b.2.2.2 - y0') < (List.length b.2.2.2 - y0) ∧ ((lxs [.ag (k1fw4lr b), .c (.bp 0 0)] (True ∧ leV (.c (.int .i64 (IntKind.wrap .i64 (((y0 : Nat) : Int) + 1)))) (.c (.int .i64 ((y0' : Nat) : Int))) ∧ True ∧ lxs [.c (.bp 0 0), .c (.str b.1), .c (.bool (nameOk b.1)), .c (.bool (!(nameOk b.1))), .c (.bool false), .c (.bp 0 1), .c (.int .i64 b.2.1), .c (.bool (btw b.2.1 1 999999999)), .c (.bool (!(btw b.2.1 1 999999999))), .c (.bool (!(btw b.2.1 1 999999999))), .c (.bool false), .c (.bp 0 2), .c (.int .i64 b.2.2.1), .c (.bool (btw b.2.2.1 1 999999999)), .c (.bool (!(btw b.2.2.1 1 999999999))), .c (.bool (!(btw b.2.2.1 1 999999999))), .c (.bool false), .c (.bp 0 3), .c (.hs .no tyMsg b.2.2.2), .c (.int .i64 ((List.length b.2.2.2 : Nat) : Int)), .c (.bool (gtI ((List.length b.2.2.2 : Nat) : Int) 6)), .c (.bool false)] (TN 47 True))) ∧ (lb (.box (k1fw4lr b)) ∧ True) ∧ true = true)))))))))
theorem b_s_BoxOk (b : GBox) : BCalls Tryz.prog 89 [.ag (cellsOf tyBox b)] (.c (.bool (boxOk b))) [] := by
  refine bc0 [e_s_NameOk, e_s_l9Number, e_s_l1In, e_s_FlagsOk] [] [] [] (L_s_BoxOk b) Tryz.func89 (fun hwf => ?_)
  refine Eq.mpr (β := (T4 ((True ∧ true = true) ∧ (T2 (bif (!(nameOk b.1)) then (T6 (rB false (boxOk b))) else (T2 ((True ∧ true = true) ∧ (T3 (bif (!(btw b.2.1 1 999999999)) then (T4 (rB false (boxOk b))) else (T2 ((True ∧ true = true) ∧ (T3 (bif (!(btw b.2.2.1 1 999999999)) then (T2 (rB false (boxOk b))) else (T5 (bif (gtI ((List.length b.2.2.2 : Nat) : Int) 6) then (True ∧ (rB false (boxOk b))) else (True ∧ ((∃ q : Nat, (q ≤ List.length b.2.2.2 ∧ (1 ≤ b.2.2.1 → ∀ j, j < q → ¬ msgBad b j)) ∧ ((lxs [.ag (k1fw4lr b), .c (.bp 0 0)] (True ∧ leV (.c (.int .i64 0)) (.c (.int .i64 ((q : Nat) : Int))) ∧ True ∧ lxs [.c (.bp 0 0), .c (.str b.1), .c (.bool (nameOk b.1)), .c (.bool (!(nameOk b.1))), .c (.bool false), .c (.bp 0 1), .c (.int .i64 b.2.1), .c (.bool (btw b.2.1 1 999999999)), .c (.bool (!(btw b.2.1 1 999999999))), .c (.bool (!(btw b.2.1 1 999999999))), .c (.bool false), .c (.bp 0 2), .c (.int .i64 b.2.2.1), .c (.bool (btw b.2.2.1 1 999999999)), .c (.bool (!(btw b.2.2.1 1 999999999))), .c (.bool (!(btw b.2.2.1 1 999999999))), .c (.bool false), .c (.bp 0 3), .c (.hs .no tyMsg b.2.2.2), .c (.int .i64 ((List.length b.2.2.2 : Nat) : Int)), .c (.bool (gtI ((List.length b.2.2.2 : Nat) : Int) 6)), .c (.bool false)] (TN 47 True))) ∧ (lb (.box (k1fw4lr b)) ∧ True) ∧ true = true)) ∧ ∀ y0 : Nat, (y0 ≤ List.length b.2.2.2 ∧ (1 ≤ b.2.2.1 → ∀ j, j < y0 → ¬ msgBad b j)) → (T5 (bif (ltI ((y0 : Nat) : Int) ((List.length b.2.2.2 : Nat) : Int)) then (T3 (((3 : Nat) = 3 ∧ (0 : Int) ≤ ((y0 : Nat) : Int) ∧ (((y0 : Nat) : Int) : Int) < ((List.length b.2.2.2 : Nat) : Int)) ∧ (T3 ((true = true ∧ true = true) ∧ (T5 ((True ∧ true = true) ∧ (T2 (bif (!(btw (nth_Msg b.2.2.2 (Int.toNat ((y0 : Nat) : Int))).1 1 (IntKind.wrap .i64 (b.2.2.1 - 1)))) then (T6 (rB false (boxOk b))) else (T3 (bif (gtI ((y0 : Nat) : Int) 0) then (T4 (((3 : Nat) = 3 ∧ (0 : Int) ≤ (IntKind.wrap .i64 (((y0 : Nat) : Int) - 1)) ∧ ((IntKind.wrap .i64 (((y0 : Nat) : Int) - 1)) : Int) < ((List.length b.2.2.2 : Nat) : Int)) ∧ (T8 (bif (geI (nth_Msg b.2.2.2 (Int.toNat (IntKind.wrap .i64 (((y0 : Nat) : Int) - 1)))).1 (nth_Msg b.2.2.2 (Int.toNat ((y0 : Nat) : Int))).1) then (T4 (rB false (boxOk b))) else (k0fw4lr b y0))))) else (T3 (k0fw4lr b y0)))))))))))) else (True ∧ (rB true (boxOk b)))))))))))))))))))))) (by kernel_rfl) ?_
  unfold k0fw4lr k1fw4lr T2 T3 T4 T5 T6 T8
  have hm : List.length b.2.2.2 ≤ maxLen := hwf.1.2.2.2.1.1
  have hnx : -9223372036854775808 ≤ b.2.2.1 ∧ b.2.2.1 ≤ 9223372036854775807 := I64.lohi hwf.1.2.2.1
  unfold maxLen at hm
  have w1 : 1 ≤ b.2.2.1 → IntKind.wrap .i64 (b.2.2.1 - 1) = b.2.2.1 - 1 := fun h => wrapA (by omega) (by omega)
  have w2 := wrapD (b.2.2.1 - 1)
  simp only [btw_iff, btw_not, flagsOk, Bool.not_true, Bool.not_false, SI2A, eq_self]
  refine ⟨fun h1 => ?_, fun h1 => ⟨fun h2 => ?_, fun h2 => ⟨fun h3 => ?_, fun h3 => ⟨fun h4 => ?_, fun h4 => ⟨⟨0, ⟨Nat.zero_le _, fun _ => allN_zero⟩, rfl⟩, fun k hk => ⟨fun hlt => ?_, fun hge => ?_⟩⟩⟩⟩⟩⟩
  · exact (boxOk_out (fun q => by rw [q.1] at h1; cases h1)).symm
  · exact (boxOk_out (fun q => by omega)).symm
  · exact (boxOk_out (fun q => by omega)).symm
  · exact (boxOk_out (fun q => by omega)).symm
  · have e2 : IntKind.wrap .i64 (((k : Nat) : Int) - 1) = ((k : Nat) : Int) - 1 := wrapA (by omega) (by omega)
    have e3 : 1 ≤ k → nth_Msg b.2.2.2 (Int.toNat (((k : Nat) : Int) - 1)) = nth_Msg b.2.2.2 (k - 1) := fun h => by rw [show Int.toNat (((k : Nat) : Int) - 1) = k - 1 by omega]
    simp only [e2]
    repeat' (first | apply And.intro | intro _)
    all_goals first
      | trivial
      | omega
      | exact (boxOk_no (i := k) (by omega) (by unfold msgBad; first | omega | (rw [← e3 (by omega)]; omega) | (rw [e3 (by omega)] at *; omega))).symm
      | exact (boxOk_out (by rintro ⟨q1, q2, q3, q4⟩; omega)).symm
      | exact ⟨k + 1, ⟨by omega, fun hn => allN_step (hk.2 hn) (by unfold msgBad; first | omega | (rw [← e3 (by omega)]; omega) | (rw [e3 (by omega)] at *; omega))⟩, by omega, wrapN (by unfold maxLen; omega)⟩
      | exact ⟨k + 1, ⟨by omega, fun hn => allN_step (hk.2 hn) (by intro hbad; unfold msgBad at hbad; rw [e3 (by omega)] at *; omega)⟩, by omega, wrapN (by unfold maxLen; omega)⟩
  · obtain rfl : k = List.length b.2.2.2 := by omega
    exact (boxOk_yes (hk.2 (by omega)) ⟨h1, h2, h3, by omega⟩).symm
def e_s_BoxOk : Entry Tryz.prog := ⟨89, [.s tyBox], fun x => True, fun x => .c (.bool (boxOk x.1)), fun _ => [], fun x hx => b_s_BoxOk x.1, Tryz.call89⟩
end Go.Proofs.YtoigkpkafgjeaaaGreatDoor
