/-
  Boxes of program and reference.
  No condition but what the arguments' cells hold. Printed by vcgen.py.
-/
import Derived.Test.YtigebfhekmjhmaaGreatXBxPerf
set_option linter.unusedSimpArgs false
set_option linter.unusedVariables false
namespace Go.Proofs.YtigebfhekmjhmaaGreat
open Go.ChangeShapes Go.WideShapes Go.ChangeAt Go.RowKit Go.Joins Go.Deep
open GoRep (rep bulk)

def flagsOk (b : Int) : Bool := btw b 0 31
set_option maxRecDepth 100000 in
set_option maxHeartbeats 400000 in
theorem b_i_FlagsOk (b : Int) : BCalls Tryz.prog 228 [.c (.int .i64 b)] (.c (.bool (flagsOk b))) [] := by
  refine bcalls_of (T := ⟨[e_i_within], [], [], [], none, fun _ => [], 0, [], []⟩) (L := L0) Tryz.func228 ⟨⟨rfl, rfl⟩, rfl⟩ (fun hwf => ?_)
  refine Eq.mpr (β := (True ∧ (True ∧ ((True ∧ true = true) ∧ (True ∧ ((true = true ∧ leC (.bool (btw b 0 31)) (.bool (flagsOk b))) ∧ true = true)))))) (by kernel_rfl) ?_
  simp only [SIA, eq_self]
  repeat' (first | apply And.intro | intro _)
  all_goals (first | trivial | (rw [Bool.eq_iff_iff]; simp_all [Prod.ext_iff, EQA, flagsOk]; done) | (simp_all [Prod.ext_iff, EQA, flagsOk]; done) | omega)
def e_i_FlagsOk : Entry Tryz.prog := ⟨228, [.v tyInt], fun x => True, fun x => .c (.bool (flagsOk x.1)), fun _ => [], fun x hx => b_i_FlagsOk x.1, Tryz.call228⟩
set_option maxRecDepth 100000 in
set_option maxHeartbeats 400000 in
theorem b_s_FlagsOk (b : Int) : BCalls Tryz.prog 215 [.c (.int .i64 b)] (.c (.bool (flagsOk b))) [] := by
  refine bcalls_of (T := ⟨[e_s_l1In], [], [], [], none, fun _ => [], 0, [], []⟩) (L := L0) Tryz.func215 ⟨⟨rfl, rfl⟩, rfl⟩ (fun hwf => ?_)
  refine Eq.mpr (β := (True ∧ (True ∧ ((True ∧ true = true) ∧ (True ∧ ((true = true ∧ leC (.bool (btw b 0 31)) (.bool (flagsOk b))) ∧ true = true)))))) (by kernel_rfl) ?_
  simp only [SIA, eq_self]
  repeat' (first | apply And.intro | intro _)
  all_goals (first | trivial | (rw [Bool.eq_iff_iff]; simp_all [Prod.ext_iff, EQA, flagsOk]; done) | (simp_all [Prod.ext_iff, EQA, flagsOk]; done) | omega)
def e_s_FlagsOk : Entry Tryz.prog := ⟨215, [.v tyInt], fun x => True, fun x => .c (.bool (flagsOk x.1)), fun _ => [], fun x hx => b_s_FlagsOk x.1, Tryz.call215⟩
set_option maxRecDepth 100000 in
set_option maxHeartbeats 400000 in
theorem b_i_isId (n : Int) : BCalls Tryz.prog 173 [.c (.int .i64 n)] (.c (.bool (btw n 1 999999999))) [] := by
  refine bcalls_of (T := ⟨[e_i_within], [], [], [], none, fun _ => [], 0, [], []⟩) (L := L0) Tryz.func173 ⟨⟨rfl, rfl⟩, rfl⟩ (fun hwf => ?_)
  refine Eq.mpr (β := (True ∧ (True ∧ ((True ∧ true = true) ∧ (True ∧ ((true = true ∧ leC (.bool (btw n 1 999999999)) (.bool (btw n 1 999999999))) ∧ true = true)))))) (by kernel_rfl) ?_
  simp only [SIA, eq_self]
  repeat' (first | apply And.intro | intro _)
  all_goals (first | trivial | (rw [Bool.eq_iff_iff]; simp_all [Prod.ext_iff, EQA]; done) | (simp_all [Prod.ext_iff, EQA]; done) | omega)
def e_i_isId : Entry Tryz.prog := ⟨173, [.v tyInt], fun x => True, fun x => .c (.bool (btw x.1 1 999999999)), fun _ => [], fun x hx => b_i_isId x.1, Tryz.call173⟩
set_option maxRecDepth 100000 in
set_option maxHeartbeats 400000 in
theorem b_s_l9Number (n : Int) : BCalls Tryz.prog 153 [.c (.int .i64 n)] (.c (.bool (btw n 1 999999999))) [] := by
  refine bcalls_of (T := ⟨[e_s_l1In], [], [], [], none, fun _ => [], 0, [], []⟩) (L := L0) Tryz.func153 ⟨⟨rfl, rfl⟩, rfl⟩ (fun hwf => ?_)
  refine Eq.mpr (β := (True ∧ (True ∧ ((True ∧ true = true) ∧ (True ∧ ((true = true ∧ leC (.bool (btw n 1 999999999)) (.bool (btw n 1 999999999))) ∧ true = true)))))) (by kernel_rfl) ?_
  simp only [SIA, eq_self]
  repeat' (first | apply And.intro | intro _)
  all_goals (first | trivial | (rw [Bool.eq_iff_iff]; simp_all [Prod.ext_iff, EQA]; done) | (simp_all [Prod.ext_iff, EQA]; done) | omega)
def e_s_l9Number : Entry Tryz.prog := ⟨153, [.v tyInt], fun x => True, fun x => .c (.bool (btw x.1 1 999999999)), fun _ => [], fun x hx => b_s_l9Number x.1, Tryz.call153⟩
theorem boxOk_all {b : GBox} (h : 1 ≤ b.2.2.1 → ∀ i, i < b.2.2.2.length → ¬ msgBad b i) : boxOk b = (nameOk b.1 && (btw b.2.1 1 999999999 && (btw b.2.2.1 1 999999999 && decide (b.2.2.2.length ≤ 6)))) := by
  rw [Bool.eq_iff_iff, boxOk_iff]
  simp only [Bool.and_eq_true, btw_iff, decide_eq_true_eq]
  exact ⟨fun q => q.2, fun q => ⟨h q.2.2.1.1, q⟩⟩
theorem I64.lohi {x : Int} (h : (Lit.int .i64 x).wf = true) : -9223372036854775808 ≤ x ∧ x ≤ 9223372036854775807 := ⟨I64.lo h, I64.hi h⟩
def L_i_BoxOk (b : GBox) : Nat → List AV → Mem → LoopA
  | 2, tm, M => ⟨Nat, fun y => (setA tm [(2, .any), (3, .any), (4, .any), (8, .c (.int .i64 ((y : Nat) : Int))), (9, .any), (10, .any), (11, .any), (12, .any), (13, .any), (14, .any), (15, .any), (16, .any), (17, .any), (18, .any), (19, .any), (20, .any), (21, .any), (22, .any), (23, .any), (24, .any), (25, .any), (26, .any), (27, .any), (28, .any), (29, .any), (30, .any), (31, .any), (32, .any), (33, .any), (34, .any), (35, .any), (36, .any), (37, .any), (38, .any), (39, .any), (40, .any), (41, .any), (42, .any), (43, .any), (44, .any), (45, .any), (46, .any), (47, .any), (48, .any)], M), fun y => (y ≤ List.length b.2.2.2 ∧ (1 ≤ b.2.2.1 → ∀ j, j < y → ¬ msgBad b j)), fun y => (List.length b.2.2.2 - y)⟩
  | _, _, _ => ⟨Unit, fun _ => ([], []), fun _ => False, fun _ => 0⟩
def k1lwvdh (b : GBox) : List AC := [.str b.1, .int .i64 b.2.1, .int .i64 b.2.2.1, .hs .no tyMsg b.2.2.2]
def k0lwvdh (b : GBox) (y0 : Nat) : Prop := (T2 (∃ y0' : Nat, (y0' ≤ List.length b.2.2.2 ∧ (1 ≤ b.2.2.1 → ∀ j, j < y0' → ¬ msgBad b j)) ∧ (List.length b.2.2.2 - y0') < (List.length b.2.2.2 - y0) ∧ ((leV (.ag (k1lwvdh b)) (.ag (k1lwvdh b)) ∧ leV (.c (.bp 0 0)) (.c (.bp 0 0)) ∧ True ∧ True ∧ True ∧ leV (.c (.bp 0 3)) (.c (.bp 0 3)) ∧ leV (.c (.hs .no tyMsg b.2.2.2)) (.c (.hs .no tyMsg b.2.2.2)) ∧ leV (.c (.int .i64 ((List.length b.2.2.2 : Nat) : Int))) (.c (.int .i64 ((List.length b.2.2.2 : Nat) : Int))) ∧ leV (.c (.int .i64 (IntKind.wrap .i64 (((y0 : Nat) : Int) + 1)))) (.c (.int .i64 ((y0' : Nat) : Int))) ∧ True ∧ True ∧ True ∧ True ∧ True ∧ True ∧ True ∧ True ∧ True ∧ True ∧ True ∧ True ∧ True ∧ True ∧ True ∧ True ∧ True ∧ True ∧ True ∧ True ∧ True ∧ True ∧ True ∧ True ∧ True ∧ True ∧ True ∧ True ∧ True ∧ True ∧ True ∧ True ∧ True ∧ True ∧ True ∧ True ∧ True ∧ True ∧ True ∧ True ∧ leV (.tp []) (.tp []) ∧ leV (.tp []) (.tp []) ∧ leV (.tp []) (.tp []) ∧ leV (.tp []) (.tp []) ∧ leV (.tp []) (.tp []) ∧ leV (.tp []) (.tp []) ∧ leV (.tp []) (.tp []) ∧ leV (.tp []) (.tp []) ∧ leV (.tp []) (.tp []) ∧ leV (.tp []) (.tp []) ∧ leV (.tp []) (.tp []) ∧ leV (.tp []) (.tp []) ∧ leV (.tp []) (.tp []) ∧ leV (.tp []) (.tp []) ∧ leV (.tp []) (.tp []) ∧ leV (.tp []) (.tp []) ∧ leV (.tp []) (.tp []) ∧ leV (.tp []) (.tp []) ∧ leV (.tp []) (.tp []) ∧ True) ∧ (leB (.box (k1lwvdh b)) (.box (k1lwvdh b)) ∧ True) ∧ true = true)))
def k2lwvdh (b : GBox) : Prop := (True ∧ ((true = true ∧ leC (.bool false) (.bool (boxOk b))) ∧ true = true))
set_option maxRecDepth 100000 in
set_option maxHeartbeats 400000 in
theorem b_i_BoxOk (b : GBox) : BCalls Tryz.prog 295 [.ag (cellsOf tyBox b)] (.c (.bool (boxOk b))) [] := by
  refine bcalls_of (T := ⟨[e_i_within, e_i_FlagsOk, e_i_NameOk, e_i_isId], [], [], [], none, fun _ => [], 0, [], []⟩) (L := (L_i_BoxOk b)) Tryz.func295 ⟨⟨rfl, rfl⟩, rfl⟩ (fun hwf => ?_)
  refine Eq.mpr (β := (T6 ((∃ q : Nat, (q ≤ List.length b.2.2.2 ∧ (1 ≤ b.2.2.1 → ∀ j, j < q → ¬ msgBad b j)) ∧ ((leV (.ag (k1lwvdh b)) (.ag (k1lwvdh b)) ∧ leV (.c (.bp 0 0)) (.c (.bp 0 0)) ∧ True ∧ True ∧ True ∧ leV (.c (.bp 0 3)) (.c (.bp 0 3)) ∧ leV (.c (.hs .no tyMsg b.2.2.2)) (.c (.hs .no tyMsg b.2.2.2)) ∧ leV (.c (.int .i64 ((List.length b.2.2.2 : Nat) : Int))) (.c (.int .i64 ((List.length b.2.2.2 : Nat) : Int))) ∧ leV (.c (.int .i64 0)) (.c (.int .i64 ((q : Nat) : Int))) ∧ True ∧ True ∧ True ∧ True ∧ True ∧ True ∧ True ∧ True ∧ True ∧ True ∧ True ∧ True ∧ True ∧ True ∧ True ∧ True ∧ True ∧ True ∧ True ∧ True ∧ True ∧ True ∧ True ∧ True ∧ True ∧ True ∧ True ∧ True ∧ True ∧ True ∧ True ∧ True ∧ True ∧ True ∧ True ∧ True ∧ True ∧ True ∧ True ∧ True ∧ leV (.tp []) (.tp []) ∧ leV (.tp []) (.tp []) ∧ leV (.tp []) (.tp []) ∧ leV (.tp []) (.tp []) ∧ leV (.tp []) (.tp []) ∧ leV (.tp []) (.tp []) ∧ leV (.tp []) (.tp []) ∧ leV (.tp []) (.tp []) ∧ leV (.tp []) (.tp []) ∧ leV (.tp []) (.tp []) ∧ leV (.tp []) (.tp []) ∧ leV (.tp []) (.tp []) ∧ leV (.tp []) (.tp []) ∧ leV (.tp []) (.tp []) ∧ leV (.tp []) (.tp []) ∧ leV (.tp []) (.tp []) ∧ leV (.tp []) (.tp []) ∧ leV (.tp []) (.tp []) ∧ leV (.tp []) (.tp []) ∧ True) ∧ (leB (.box (k1lwvdh b)) (.box (k1lwvdh b)) ∧ True) ∧ true = true)) ∧ ∀ y0 : Nat, (y0 ≤ List.length b.2.2.2 ∧ (1 ≤ b.2.2.1 → ∀ j, j < y0 → ¬ msgBad b j)) → (True ∧ (bif (ltI ((y0 : Nat) : Int) ((List.length b.2.2.2 : Nat) : Int)) then (True ∧ (((3 : Nat) = 3 ∧ (0 : Int) ≤ ((y0 : Nat) : Int) ∧ (((y0 : Nat) : Int) : Int) < ((List.length b.2.2.2 : Nat) : Int)) ∧ (T4 ((true = true ∧ true = true) ∧ (T5 ((True ∧ true = true) ∧ (T2 (bif (!(btw (nth_Msg b.2.2.2 (Int.toNat ((y0 : Nat) : Int))).1 1 (IntKind.wrap .i64 (b.2.2.1 - 1)))) then (T5 (k2lwvdh b)) else (T2 ((True ∧ true = true) ∧ (T3 (bif (!(flagsOk (nth_Msg b.2.2.2 (Int.toNat ((y0 : Nat) : Int))).2.1)) then (T3 (k2lwvdh b)) else (T6 (bif (gtI ((ByteArray.size (nth_Msg b.2.2.2 (Int.toNat ((y0 : Nat) : Int))).2.2 : Nat) : Int) 40) then (True ∧ (k2lwvdh b)) else (T3 (bif (gtI ((y0 : Nat) : Int) 0) then (T6 (((3 : Nat) = 3 ∧ (0 : Int) ≤ (IntKind.wrap .i64 (((y0 : Nat) : Int) - 1)) ∧ ((IntKind.wrap .i64 (((y0 : Nat) : Int) - 1)) : Int) < ((List.length b.2.2.2 : Nat) : Int)) ∧ (T5 (bif (leI (nth_Msg b.2.2.2 (Int.toNat ((y0 : Nat) : Int))).1 (nth_Msg b.2.2.2 (Int.toNat (IntKind.wrap .i64 (((y0 : Nat) : Int) - 1)))).1) then (k2lwvdh b) else (k0lwvdh b y0))))) else (T2 (k0lwvdh b y0)))))))))))))))))) else (T2 ((True ∧ true = true) ∧ (True ∧ (bif nameOk b.1 then (T2 ((True ∧ true = true) ∧ (T2 (bif btw b.2.1 1 999999999 then (T2 ((True ∧ true = true) ∧ (T2 (bif btw b.2.2.1 1 999999999 then (T6 ((true = true ∧ leC (.bool (leI ((List.length b.2.2.2 : Nat) : Int) 6)) (.bool (boxOk b))) ∧ true = true)) else (True ∧ (k2lwvdh b)))))) else (T3 (k2lwvdh b)))))) else (T5 (k2lwvdh b))))))))))) (by kernel_rfl) ?_
  unfold k2lwvdh k0lwvdh k1lwvdh T2 T3 T4 T5 T6
  have hm : List.length b.2.2.2 ≤ maxLen := hwf.1.2.2.2.1.1
  have hnx : -9223372036854775808 ≤ b.2.2.1 ∧ b.2.2.1 ≤ 9223372036854775807 := I64.lohi hwf.1.2.2.1
  unfold maxLen at hm
  have w1 : 1 ≤ b.2.2.1 → IntKind.wrap .i64 (b.2.2.1 - 1) = b.2.2.1 - 1 := fun h => wrapA (by omega) (by omega)
  have w2 := wrapD (b.2.2.1 - 1)
  simp only [btw_iff, btw_not, flagsOk, Bool.not_true, Bool.not_false, SI2A, eq_self]
  refine ⟨⟨0, ⟨Nat.zero_le _, fun _ => allN_zero⟩, rfl⟩, fun k hk => ⟨fun hlt => ?_, fun hge => ?_⟩⟩
  · have e2 : IntKind.wrap .i64 (((k : Nat) : Int) - 1) = ((k : Nat) : Int) - 1 := wrapA (by omega) (by omega)
    have e3 : 1 ≤ k → nth_Msg b.2.2.2 (Int.toNat (((k : Nat) : Int) - 1)) = nth_Msg b.2.2.2 (k - 1) := fun h => by rw [show Int.toNat (((k : Nat) : Int) - 1) = k - 1 by omega]
    simp only [e2]
    repeat' (first | apply And.intro | intro _)
    all_goals first
      | trivial
      | omega
      | exact (boxOk_no (i := k) (by omega) (by unfold msgBad; first | omega | (rw [← e3 (by omega)]; omega) | (rw [e3 (by omega)] at *; omega))).symm
      | exact (boxOk_out (by rintro ⟨q1, q2, q3, q4⟩; omega)).symm
      | exact ⟨k + 1, ⟨by omega, fun hn => allN_step (hk.2 hn) (by unfold msgBad; first | omega | (rw [← e3 (by omega)]; omega) | (rw [e3 (by omega)] at *; omega))⟩, by omega, wrapN (by unfold maxLen; omega)⟩
      | exact ⟨k + 1, ⟨by omega, fun hn => allN_step (hk.2 hn) (by intro hbad; unfold msgBad at hbad; rw [e3 (by omega)] at *; omega)⟩, by omega, wrapN (by unfold maxLen; omega)⟩
  · obtain rfl : k = List.length b.2.2.2 := by omega
    have hall := boxOk_all hk.2
    repeat' (first | apply And.intro | intro _)
    all_goals first
      | trivial
      | (rw [hall, Bool.eq_iff_iff]; simp_all [btw_iff, btw_not, leI_true]; done)
      | (rw [hall, Bool.eq_iff_iff]; simp_all [btw_iff, btw_not, leI_true]; omega)
def e_i_BoxOk : Entry Tryz.prog := ⟨295, [.s tyBox], fun x => True, fun x => .c (.bool (boxOk x.1)), fun _ => [], fun x hx => b_i_BoxOk x.1, Tryz.call295⟩
def L_s_BoxOk (b : GBox) : Nat → List AV → Mem → LoopA
  | 4, tm, M => ⟨Nat, fun y => (setA tm [(2, .any), (3, .c (.int .i64 ((y : Nat) : Int))), (4, .any), (27, .any), (28, .any), (29, .any), (30, .any), (31, .any), (32, .any), (33, .any), (34, .any), (35, .any), (36, .any), (37, .any), (38, .any), (39, .any), (40, .any), (41, .any), (42, .any), (43, .any), (44, .any), (45, .any), (46, .any), (47, .any), (48, .any), (49, .any), (50, .any), (51, .any), (52, .any), (53, .any), (54, .any), (55, .any), (56, .any), (57, .any), (58, .any), (59, .any), (60, .any), (61, .any), (62, .any), (63, .any), (64, .any), (65, .any), (66, .any), (67, .any), (68, .any), (69, .any), (70, .any), (71, .any), (72, .any), (73, .any)], M), fun y => (y ≤ List.length b.2.2.2 ∧ (1 ≤ b.2.2.1 → ∀ j, j < y → ¬ msgBad b j)), fun y => (List.length b.2.2.2 - y)⟩
  | _, _, _ => ⟨Unit, fun _ => ([], []), fun _ => False, fun _ => 0⟩
def k1fw4lr (b : GBox) : Prop := (True ∧ ((true = true ∧ leC (.bool false) (.bool (boxOk b))) ∧ true = true))
def k2fw4lr (b : GBox) : List AC := [.str b.1, .int .i64 b.2.1, .int .i64 b.2.2.1, .hs .no tyMsg b.2.2.2]
def k0fw4lr (b : GBox) (y0 : Nat) : Prop := (T2 ((True ∧ true = true) ∧ (T3 (bif (!(flagsOk (nth_Msg b.2.2.2 (Int.toNat ((y0 : Nat) : Int))).2.1)) then (True ∧ (k1fw4lr b)) else (T5 (bif (gtI ((ByteArray.size (nth_Msg b.2.2.2 (Int.toNat ((y0 : Nat) : Int))).2.2 : Nat) : Int) 40) then (k1fw4lr b) else (T3 (∃ y0' : Nat, (y0' ≤ List.length b.2.2.2 ∧ (1 ≤ b.2.2.1 → ∀ j, j < y0' → ¬ msgBad b j)) ∧ (List.length b.2.2.2 - y0') < (List.length b.2.2.2 - y0) ∧ ((leV (.ag (k2fw4lr b)) (.ag (k2fw4lr b)) ∧ leV (.c (.bp 0 0)) (.c (.bp 0 0)) ∧ True ∧ leV (.c (.int .i64 (IntKind.wrap .i64 (((y0 : Nat) : Int) + 1)))) (.c (.int .i64 ((y0' : Nat) : Int))) ∧ True ∧ leV (.c (.bp 0 0)) (.c (.bp 0 0)) ∧ leV (.c (.str b.1)) (.c (.str b.1)) ∧ leV (.c (.bool (nameOk b.1))) (.c (.bool (nameOk b.1))) ∧ leV (.c (.bool (!(nameOk b.1)))) (.c (.bool (!(nameOk b.1)))) ∧ leV (.c (.bool false)) (.c (.bool false)) ∧ leV (.c (.bp 0 1)) (.c (.bp 0 1)) ∧ leV (.c (.int .i64 b.2.1)) (.c (.int .i64 b.2.1)) ∧ leV (.c (.bool (btw b.2.1 1 999999999))) (.c (.bool (btw b.2.1 1 999999999))) ∧ leV (.c (.bool (!(btw b.2.1 1 999999999)))) (.c (.bool (!(btw b.2.1 1 999999999)))) ∧ leV (.c (.bool (!(btw b.2.1 1 999999999)))) (.c (.bool (!(btw b.2.1 1 999999999)))) ∧ leV (.c (.bool false)) (.c (.bool false)) ∧ leV (.c (.bp 0 2)) (.c (.bp 0 2)) ∧ leV (.c (.int .i64 b.2.2.1)) (.c (.int .i64 b.2.2.1)) ∧ leV (.c (.bool (btw b.2.2.1 1 999999999))) (.c (.bool (btw b.2.2.1 1 999999999))) ∧ leV (.c (.bool (!(btw b.2.2.1 1 999999999)))) (.c (.bool (!(btw b.2.2.1 1 999999999)))) ∧ leV (.c (.bool (!(btw b.2.2.1 1 999999999)))) (.c (.bool (!(btw b.2.2.1 1 999999999)))) ∧ leV (.c (.bool false)) (.c (.bool false)) ∧ leV (.c (.bp 0 3)) (.c (.bp 0 3)) ∧ leV (.c (.hs .no tyMsg b.2.2.2)) (.c (.hs .no tyMsg b.2.2.2)) ∧ leV (.c (.int .i64 ((List.length b.2.2.2 : Nat) : Int))) (.c (.int .i64 ((List.length b.2.2.2 : Nat) : Int))) ∧ leV (.c (.bool (gtI ((List.length b.2.2.2 : Nat) : Int) 6))) (.c (.bool (gtI ((List.length b.2.2.2 : Nat) : Int) 6))) ∧ leV (.c (.bool false)) (.c (.bool false)) ∧ True ∧ True ∧ True ∧ True ∧ True ∧ True ∧ True ∧ True ∧ True ∧ True ∧ True ∧ True ∧ True ∧ True ∧ True ∧ True ∧ True ∧ True ∧ True ∧ True ∧ True ∧ True ∧ True ∧ True ∧ True ∧ True ∧ True ∧ True ∧ True ∧ True ∧ True ∧ True ∧ True ∧ True ∧ True ∧ True ∧ True ∧ True ∧ True ∧ True ∧ True ∧ True ∧ True ∧ True ∧ True ∧ True ∧ True ∧ True) ∧ (leB (.box (k2fw4lr b)) (.box (k2fw4lr b)) ∧ True) ∧ true = true)))))))))
set_option maxRecDepth 100000 in
set_option maxHeartbeats 400000 in
theorem b_s_BoxOk (b : GBox) : BCalls Tryz.prog 304 [.ag (cellsOf tyBox b)] (.c (.bool (boxOk b))) [] := by
  refine bcalls_of (T := ⟨[e_s_NameOk, e_s_l9Number, e_s_l1In, e_s_FlagsOk], [], [], [], none, fun _ => [], 0, [], []⟩) (L := (L_s_BoxOk b)) Tryz.func304 ⟨⟨rfl, rfl⟩, rfl⟩ (fun hwf => ?_)
  refine Eq.mpr (β := (T4 ((True ∧ true = true) ∧ (T2 (bif (!(nameOk b.1)) then (T5 (k1fw4lr b)) else (T2 ((True ∧ true = true) ∧ (T3 (bif (!(btw b.2.1 1 999999999)) then (T3 (k1fw4lr b)) else (T2 ((True ∧ true = true) ∧ (T3 (bif (!(btw b.2.2.1 1 999999999)) then (True ∧ (k1fw4lr b)) else (T5 (bif (gtI ((List.length b.2.2.2 : Nat) : Int) 6) then (k1fw4lr b) else (True ∧ ((∃ q : Nat, (q ≤ List.length b.2.2.2 ∧ (1 ≤ b.2.2.1 → ∀ j, j < q → ¬ msgBad b j)) ∧ ((leV (.ag (k2fw4lr b)) (.ag (k2fw4lr b)) ∧ leV (.c (.bp 0 0)) (.c (.bp 0 0)) ∧ True ∧ leV (.c (.int .i64 0)) (.c (.int .i64 ((q : Nat) : Int))) ∧ True ∧ leV (.c (.bp 0 0)) (.c (.bp 0 0)) ∧ leV (.c (.str b.1)) (.c (.str b.1)) ∧ leV (.c (.bool (nameOk b.1))) (.c (.bool (nameOk b.1))) ∧ leV (.c (.bool (!(nameOk b.1)))) (.c (.bool (!(nameOk b.1)))) ∧ leV (.c (.bool false)) (.c (.bool false)) ∧ leV (.c (.bp 0 1)) (.c (.bp 0 1)) ∧ leV (.c (.int .i64 b.2.1)) (.c (.int .i64 b.2.1)) ∧ leV (.c (.bool (btw b.2.1 1 999999999))) (.c (.bool (btw b.2.1 1 999999999))) ∧ leV (.c (.bool (!(btw b.2.1 1 999999999)))) (.c (.bool (!(btw b.2.1 1 999999999)))) ∧ leV (.c (.bool (!(btw b.2.1 1 999999999)))) (.c (.bool (!(btw b.2.1 1 999999999)))) ∧ leV (.c (.bool false)) (.c (.bool false)) ∧ leV (.c (.bp 0 2)) (.c (.bp 0 2)) ∧ leV (.c (.int .i64 b.2.2.1)) (.c (.int .i64 b.2.2.1)) ∧ leV (.c (.bool (btw b.2.2.1 1 999999999))) (.c (.bool (btw b.2.2.1 1 999999999))) ∧ leV (.c (.bool (!(btw b.2.2.1 1 999999999)))) (.c (.bool (!(btw b.2.2.1 1 999999999)))) ∧ leV (.c (.bool (!(btw b.2.2.1 1 999999999)))) (.c (.bool (!(btw b.2.2.1 1 999999999)))) ∧ leV (.c (.bool false)) (.c (.bool false)) ∧ leV (.c (.bp 0 3)) (.c (.bp 0 3)) ∧ leV (.c (.hs .no tyMsg b.2.2.2)) (.c (.hs .no tyMsg b.2.2.2)) ∧ leV (.c (.int .i64 ((List.length b.2.2.2 : Nat) : Int))) (.c (.int .i64 ((List.length b.2.2.2 : Nat) : Int))) ∧ leV (.c (.bool (gtI ((List.length b.2.2.2 : Nat) : Int) 6))) (.c (.bool (gtI ((List.length b.2.2.2 : Nat) : Int) 6))) ∧ leV (.c (.bool false)) (.c (.bool false)) ∧ True ∧ True ∧ True ∧ True ∧ True ∧ True ∧ True ∧ True ∧ True ∧ True ∧ True ∧ True ∧ True ∧ True ∧ True ∧ True ∧ True ∧ True ∧ True ∧ True ∧ True ∧ True ∧ True ∧ True ∧ True ∧ True ∧ True ∧ True ∧ True ∧ True ∧ True ∧ True ∧ True ∧ True ∧ True ∧ True ∧ True ∧ True ∧ True ∧ True ∧ True ∧ True ∧ True ∧ True ∧ True ∧ True ∧ True ∧ True) ∧ (leB (.box (k2fw4lr b)) (.box (k2fw4lr b)) ∧ True) ∧ true = true)) ∧ ∀ y0 : Nat, (y0 ≤ List.length b.2.2.2 ∧ (1 ≤ b.2.2.1 → ∀ j, j < y0 → ¬ msgBad b j)) → (T5 (bif (ltI ((y0 : Nat) : Int) ((List.length b.2.2.2 : Nat) : Int)) then (T3 (((3 : Nat) = 3 ∧ (0 : Int) ≤ ((y0 : Nat) : Int) ∧ (((y0 : Nat) : Int) : Int) < ((List.length b.2.2.2 : Nat) : Int)) ∧ (T3 ((true = true ∧ true = true) ∧ (T5 ((True ∧ true = true) ∧ (T2 (bif (!(btw (nth_Msg b.2.2.2 (Int.toNat ((y0 : Nat) : Int))).1 1 (IntKind.wrap .i64 (b.2.2.1 - 1)))) then (T5 (k1fw4lr b)) else (T3 (bif (gtI ((y0 : Nat) : Int) 0) then (T4 (((3 : Nat) = 3 ∧ (0 : Int) ≤ (IntKind.wrap .i64 (((y0 : Nat) : Int) - 1)) ∧ ((IntKind.wrap .i64 (((y0 : Nat) : Int) - 1)) : Int) < ((List.length b.2.2.2 : Nat) : Int)) ∧ (T8 (bif (geI (nth_Msg b.2.2.2 (Int.toNat (IntKind.wrap .i64 (((y0 : Nat) : Int) - 1)))).1 (nth_Msg b.2.2.2 (Int.toNat ((y0 : Nat) : Int))).1) then (T3 (k1fw4lr b)) else (k0fw4lr b y0))))) else (T3 (k0fw4lr b y0)))))))))))) else (True ∧ ((true = true ∧ leC (.bool true) (.bool (boxOk b))) ∧ true = true))))))))))))))))))))) (by kernel_rfl) ?_
  unfold k0fw4lr k2fw4lr k1fw4lr T2 T3 T4 T5 T8
  have hm : List.length b.2.2.2 ≤ maxLen := hwf.1.2.2.2.1.1
  have hnx : -9223372036854775808 ≤ b.2.2.1 ∧ b.2.2.1 ≤ 9223372036854775807 := I64.lohi hwf.1.2.2.1
  unfold maxLen at hm
  have w1 : 1 ≤ b.2.2.1 → IntKind.wrap .i64 (b.2.2.1 - 1) = b.2.2.1 - 1 := fun h => wrapA (by omega) (by omega)
  have w2 := wrapD (b.2.2.1 - 1)
  simp only [btw_iff, btw_not, flagsOk, Bool.not_true, Bool.not_false, SI2A, eq_self]
  refine ⟨fun h1 => ?_, fun h1 => ⟨fun h2 => ?_, fun h2 => ⟨fun h3 => ?_, fun h3 => ⟨fun h4 => ?_, fun h4 => ⟨⟨0, ⟨Nat.zero_le _, fun _ => allN_zero⟩, rfl⟩, fun k hk => ⟨fun hlt => ?_, fun hge => ?_⟩⟩⟩⟩⟩⟩
  · exact (boxOk_out (fun q => by rw [q.1] at h1; cases h1)).symm
  · exact (boxOk_out (fun q => by omega)).symm
  · exact (boxOk_out (fun q => by omega)).symm
  · exact (boxOk_out (fun q => by omega)).symm
  · have e2 : IntKind.wrap .i64 (((k : Nat) : Int) - 1) = ((k : Nat) : Int) - 1 := wrapA (by omega) (by omega)
    have e3 : 1 ≤ k → nth_Msg b.2.2.2 (Int.toNat (((k : Nat) : Int) - 1)) = nth_Msg b.2.2.2 (k - 1) := fun h => by rw [show Int.toNat (((k : Nat) : Int) - 1) = k - 1 by omega]
    simp only [e2]
    repeat' (first | apply And.intro | intro _)
    all_goals first
      | trivial
      | omega
      | exact (boxOk_no (i := k) (by omega) (by unfold msgBad; first | omega | (rw [← e3 (by omega)]; omega) | (rw [e3 (by omega)] at *; omega))).symm
      | exact (boxOk_out (by rintro ⟨q1, q2, q3, q4⟩; omega)).symm
      | exact ⟨k + 1, ⟨by omega, fun hn => allN_step (hk.2 hn) (by unfold msgBad; first | omega | (rw [← e3 (by omega)]; omega) | (rw [e3 (by omega)] at *; omega))⟩, by omega, wrapN (by unfold maxLen; omega)⟩
      | exact ⟨k + 1, ⟨by omega, fun hn => allN_step (hk.2 hn) (by intro hbad; unfold msgBad at hbad; rw [e3 (by omega)] at *; omega)⟩, by omega, wrapN (by unfold maxLen; omega)⟩
  · obtain rfl : k = List.length b.2.2.2 := by omega
    exact (boxOk_yes (hk.2 (by omega)) ⟨h1, h2, h3, by omega⟩).symm
def e_s_BoxOk : Entry Tryz.prog := ⟨304, [.s tyBox], fun x => True, fun x => .c (.bool (boxOk x.1)), fun _ => [], fun x hx => b_s_BoxOk x.1, Tryz.call304⟩
end Go.Proofs.YtigebfhekmjhmaaGreat
