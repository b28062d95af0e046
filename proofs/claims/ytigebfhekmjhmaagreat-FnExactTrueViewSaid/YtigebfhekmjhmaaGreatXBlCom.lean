/-
  Boxes and commits of program and reference.
  No condition but what the arguments' cells hold. Printed by vcgen.py.
-/
import Derived.Test.YtigebfhekmjhmaaGreatXBlBox
set_option linter.unusedSimpArgs false
set_option linter.unusedVariables false
namespace Go.Proofs.YtigebfhekmjhmaaGreat
open Go.ChangeShapes Go.WideShapes Go.ChangeAt Go.RowKit Go.Joins Go.Deep
open GoRep (rep bulk)

theorem blE (a b : ByteArray) : (Op.bytesLess a.toList b.toList || eqS a b) = !nmLt b a := by
  rw [← nmLt_tot]
  congr 1
theorem blN (a b : ByteArray) : Op.bytesLess a.toList b.toList = nmLt a b := rfl
def L_i_BoxesOk (l : List GBox) : Nat → List AV → Mem → LoopA
  | 2, tm, M => ⟨Nat, fun y => (setA tm [(2, .any), (3, .any), (4, .any), (7, .c (.int .i64 ((y : Nat) : Int))), (8, .any), (9, .any), (10, .any), (11, .any), (12, .any), (13, .any), (14, .any), (15, .any), (16, .any), (17, .any), (18, .any), (19, .any), (20, .any), (21, .any), (22, .any), (23, .any), (24, .any), (25, .any), (26, .any), (27, .any), (28, .any), (29, .any), (30, .any), (31, .any), (32, .any), (33, .any), (34, .any), (35, .any), (36, .any), (37, .any), (38, .any)], M), fun y => (y ≤ List.length l ∧ ∀ j, j < y → ¬ bxBad l j), fun y => (List.length l - y)⟩
  | _, _, _ => ⟨Unit, fun _ => ([], []), fun _ => False, fun _ => 0⟩
def k0o7567 (l : List GBox) (y0 : Nat) : Prop := (T4 ((True ∧ true = true) ∧ (T2 (bif (neI (boxW l (nth_Box l (Int.toNat ((y0 : Nat) : Int))).2.1) ((y0 : Nat) : Int)) then (True ∧ ((true = true ∧ leC (.bool false) (.bool (boxesOk l))) ∧ true = true)) else (T2 (∃ y0' : Nat, (y0' ≤ List.length l ∧ ∀ j, j < y0' → ¬ bxBad l j) ∧ (List.length l - y0') < (List.length l - y0) ∧ ((leV (.c (.hs .no tyBox l)) (.c (.hs .no tyBox l)) ∧ leV (.tp []) (.tp []) ∧ True ∧ True ∧ True ∧ leV (.c (.hs .no tyBox l)) (.c (.hs .no tyBox l)) ∧ leV (.c (.int .i64 ((List.length l : Nat) : Int))) (.c (.int .i64 ((List.length l : Nat) : Int))) ∧ leV (.c (.int .i64 (IntKind.wrap .i64 (((y0 : Nat) : Int) + 1)))) (.c (.int .i64 ((y0' : Nat) : Int))) ∧ True ∧ True ∧ True ∧ True ∧ True ∧ True ∧ True ∧ True ∧ True ∧ True ∧ True ∧ True ∧ True ∧ True ∧ True ∧ True ∧ True ∧ True ∧ True ∧ True ∧ True ∧ True ∧ True ∧ True ∧ True ∧ True ∧ True ∧ True ∧ True ∧ True ∧ True ∧ leV (.tp []) (.tp []) ∧ leV (.tp []) (.tp []) ∧ leV (.tp []) (.tp []) ∧ True) ∧ (True) ∧ true = true)))))))
set_option maxRecDepth 100000 in
set_option maxHeartbeats 400000 in
theorem b_i_BoxesOk (l : List GBox) : BCalls Tryz.prog 268 [.c (.hs .no tyBox l)] (.c (.bool (boxesOk l))) [] := by
  refine bcalls_of (T := ⟨[e_i_BoxOk, e_i_BoxWith], [], [], [], none, fun _ => [], 0, [], []⟩) (L := (L_i_BoxesOk l)) Tryz.func268 ⟨⟨rfl, rfl⟩, rfl⟩ (fun hwf => ?_)
  refine Eq.mpr (β := (T4 ((∃ q : Nat, (q ≤ List.length l ∧ ∀ j, j < q → ¬ bxBad l j) ∧ ((leV (.c (.hs .no tyBox l)) (.c (.hs .no tyBox l)) ∧ leV (.tp []) (.tp []) ∧ True ∧ True ∧ True ∧ leV (.c (.hs .no tyBox l)) (.c (.hs .no tyBox l)) ∧ leV (.c (.int .i64 ((List.length l : Nat) : Int))) (.c (.int .i64 ((List.length l : Nat) : Int))) ∧ leV (.c (.int .i64 0)) (.c (.int .i64 ((q : Nat) : Int))) ∧ True ∧ True ∧ True ∧ True ∧ True ∧ True ∧ True ∧ True ∧ True ∧ True ∧ True ∧ True ∧ True ∧ True ∧ True ∧ True ∧ True ∧ True ∧ True ∧ True ∧ True ∧ True ∧ True ∧ True ∧ True ∧ True ∧ True ∧ True ∧ True ∧ True ∧ True ∧ leV (.tp []) (.tp []) ∧ leV (.tp []) (.tp []) ∧ leV (.tp []) (.tp []) ∧ True) ∧ (True) ∧ true = true)) ∧ ∀ y0 : Nat, (y0 ≤ List.length l ∧ ∀ j, j < y0 → ¬ bxBad l j) → (True ∧ (bif (ltI ((y0 : Nat) : Int) ((List.length l : Nat) : Int)) then (True ∧ (((4 : Nat) = 4 ∧ (0 : Int) ≤ ((y0 : Nat) : Int) ∧ (((y0 : Nat) : Int) : Int) < ((List.length l : Nat) : Int)) ∧ (T4 ((true = true ∧ true = true) ∧ (True ∧ ((True ∧ true = true) ∧ (T2 (bif (!(boxOk (nth_Box l (Int.toNat ((y0 : Nat) : Int))))) then (T4 ((true = true ∧ leC (.bool false) (.bool (boxesOk l))) ∧ true = true)) else (T3 (bif (gtI ((y0 : Nat) : Int) 0) then (T5 (((4 : Nat) = 4 ∧ (0 : Int) ≤ (IntKind.wrap .i64 (((y0 : Nat) : Int) - 1)) ∧ ((IntKind.wrap .i64 (((y0 : Nat) : Int) - 1)) : Int) < ((List.length l : Nat) : Int)) ∧ (T6 (bif (Op.bytesLess (nth_Box l (Int.toNat ((y0 : Nat) : Int))).1.toList (nth_Box l (Int.toNat (IntKind.wrap .i64 (((y0 : Nat) : Int) - 1)))).1.toList || eqS (nth_Box l (Int.toNat ((y0 : Nat) : Int))).1 (nth_Box l (Int.toNat (IntKind.wrap .i64 (((y0 : Nat) : Int) - 1)))).1) then (T2 ((true = true ∧ leC (.bool false) (.bool (boxesOk l))) ∧ true = true)) else (k0o7567 l y0))))) else (T3 (k0o7567 l y0)))))))))))) else (T4 ((true = true ∧ leC (.bool (leI ((List.length l : Nat) : Int) 4)) (.bool (boxesOk l))) ∧ true = true))))))) (by kernel_rfl) ?_
  unfold k0o7567 T2 T3 T4 T5 T6
  have hm : List.length l ≤ maxLen := hwf.1.1
  have hi := fun i (h : i < List.length l) => boxW_at h
  have w2 := fun u => idxL_lt (p := fun z0 : GBox => eqI z0.2.1 u) l
  unfold maxLen at hm
  simp only [blE, blN, Int.toNat_zero, List.drop_zero, btw_iff, btw_not, flagsOk, Bool.not_true, Bool.not_false, SI2A, eq_self]
  refine ⟨⟨0, ⟨Nat.zero_le _, allN_zero⟩, rfl⟩, fun k hk => ⟨fun hlt => ?_, fun hge => ?_⟩⟩
  · have e2 : IntKind.wrap .i64 (((k : Nat) : Int) - 1) = ((k : Nat) : Int) - 1 := wrapA (by omega) (by omega)
    have e3 : 1 ≤ k → nth_Box l (Int.toNat (((k : Nat) : Int) - 1)) = nth_Box l (k - 1) := fun h => by rw [show Int.toNat (((k : Nat) : Int) - 1) = k - 1 by omega]
    simp only [e2]
    repeat' (first | apply And.intro | intro _)
    all_goals first
      | trivial
      | omega
      | exact (boxesOk_no (i := k) (by omega) (.inl (by assumption))).symm
      | exact (boxesOk_no (i := k) (by omega) (.inr (.inl ⟨by omega, by rw [← e3 (by omega)]; assumption⟩))).symm
      | exact (boxesOk_no (i := k) (by omega) (.inr (.inr (by assumption)))).symm
      | exact (boxesOk_no (i := k) (by omega) (.inr (.inr (fun h => by have := (hi k (by omega)).1 h; omega)))).symm
      | (refine ⟨k + 1, ⟨by omega, allN_step hk.2 (fun hb => ?_)⟩, by omega, wrapN (by unfold maxLen; omega)⟩
         rcases hb with hb | ⟨h1, hb⟩ | hb
         · simp_all
         · first | omega | (rw [← e3 (by omega)] at hb; simp_all)
         · first | exact hb (by assumption) | exact hb ((hi k (by omega)).2 (by omega)))
  · obtain rfl : k = List.length l := by omega
    rw [boxesOk_all hk.2, Bool.eq_iff_iff, leI_true, decide_eq_true_eq]
    omega
def e_i_BoxesOk : Entry Tryz.prog := ⟨268, [.v (.list tyBox)], fun x => True, fun x => .c (.bool (boxesOk x.1)), fun _ => [], fun x hx => b_i_BoxesOk x.1, Tryz.call268⟩
def L_s_BoxesOk (l : List GBox) : Nat → List AV → Mem → LoopA
  | 2, tm, M => ⟨Nat, fun y => (setA tm [(2, .any), (3, .c (.int .i64 ((y : Nat) : Int))), (4, .any), (5, .any), (6, .any), (7, .any), (8, .any), (9, .any), (10, .any), (11, .any), (12, .any), (13, .any), (14, .any), (15, .any), (16, .any), (17, .any), (18, .any), (19, .any), (20, .any), (21, .any), (22, .any), (23, .any), (24, .any), (25, .any), (26, .any), (27, .any), (28, .any), (29, .any), (30, .any), (31, .any), (32, .any), (33, .any), (34, .any), (35, .any), (36, .any), (37, .any), (38, .any), (39, .any), (40, .any), (41, .any), (42, .any), (43, .any), (44, .any), (45, .any)], M), fun y => (y ≤ List.length l ∧ ∀ j, j < y → ¬ bxBad l j), fun y => (List.length l - y)⟩
  | _, _, _ => ⟨Unit, fun _ => ([], []), fun _ => False, fun _ => 0⟩
def k1nq055 (y0 : Nat) (l : List GBox) : Prop := ((4 : Nat) = 4 ∧ (0 : Int) ≤ ((y0 : Nat) : Int) ∧ (((y0 : Nat) : Int) : Int) < ((List.length l : Nat) : Int))
def k0nq055 (y0 : Nat) (l : List GBox) : Prop := (T2 (((4 : Nat) = 4 ∧ ((0 : Int) ≤ 0 ∧ (0 : Int) ≤ ((y0 : Nat) : Int) ∧ (((y0 : Nat) : Int) : Int) ≤ ((List.length l : Nat) : Int))) ∧ (T2 ((k1nq055 y0 l) ∧ (T2 ((True ∧ true = true) ∧ (T2 (bif (geI (boxW (List.drop (Int.toNat 0) (List.take (Int.toNat ((y0 : Nat) : Int)) l)) (nth_Box l (Int.toNat ((y0 : Nat) : Int))).2.1) 0) then (True ∧ ((true = true ∧ leC (.bool false) (.bool (boxesOk l))) ∧ true = true)) else (T3 (∃ y0' : Nat, (y0' ≤ List.length l ∧ ∀ j, j < y0' → ¬ bxBad l j) ∧ (List.length l - y0') < (List.length l - y0) ∧ ((leV (.c (.hs .no tyBox l)) (.c (.hs .no tyBox l)) ∧ leV (.tp []) (.tp []) ∧ True ∧ leV (.c (.int .i64 (IntKind.wrap .i64 (((y0 : Nat) : Int) + 1)))) (.c (.int .i64 ((y0' : Nat) : Int))) ∧ True ∧ True ∧ True ∧ True ∧ True ∧ True ∧ True ∧ True ∧ True ∧ True ∧ True ∧ True ∧ True ∧ True ∧ True ∧ True ∧ True ∧ True ∧ True ∧ True ∧ True ∧ True ∧ True ∧ True ∧ True ∧ True ∧ True ∧ True ∧ True ∧ True ∧ True ∧ True ∧ True ∧ True ∧ True ∧ True ∧ True ∧ True ∧ True ∧ True ∧ True ∧ True ∧ leV (.tp []) (.tp []) ∧ leV (.tp []) (.tp []) ∧ leV (.tp []) (.tp []) ∧ True) ∧ (True) ∧ true = true)))))))))))
set_option maxRecDepth 100000 in
set_option maxHeartbeats 400000 in
theorem b_s_BoxesOk (l : List GBox) : BCalls Tryz.prog 291 [.c (.hs .no tyBox l)] (.c (.bool (boxesOk l))) [] := by
  refine bcalls_of (T := ⟨[e_s_BoxOk, e_s_BoxWith], [], [], [], none, fun _ => [], 0, [], []⟩) (L := (L_s_BoxesOk l)) Tryz.func291 ⟨⟨rfl, rfl⟩, rfl⟩ (fun hwf => ?_)
  refine Eq.mpr (β := (T2 ((∃ q : Nat, (q ≤ List.length l ∧ ∀ j, j < q → ¬ bxBad l j) ∧ ((leV (.c (.hs .no tyBox l)) (.c (.hs .no tyBox l)) ∧ leV (.tp []) (.tp []) ∧ True ∧ leV (.c (.int .i64 0)) (.c (.int .i64 ((q : Nat) : Int))) ∧ True ∧ True ∧ True ∧ True ∧ True ∧ True ∧ True ∧ True ∧ True ∧ True ∧ True ∧ True ∧ True ∧ True ∧ True ∧ True ∧ True ∧ True ∧ True ∧ True ∧ True ∧ True ∧ True ∧ True ∧ True ∧ True ∧ True ∧ True ∧ True ∧ True ∧ True ∧ True ∧ True ∧ True ∧ True ∧ True ∧ True ∧ True ∧ True ∧ True ∧ True ∧ True ∧ leV (.tp []) (.tp []) ∧ leV (.tp []) (.tp []) ∧ leV (.tp []) (.tp []) ∧ True) ∧ (True) ∧ true = true)) ∧ ∀ y0 : Nat, (y0 ≤ List.length l ∧ ∀ j, j < y0 → ¬ bxBad l j) → (T4 (bif (ltI ((y0 : Nat) : Int) ((List.length l : Nat) : Int)) then ((true = true ∧ true = true) ∧ (T2 ((k1nq055 y0 l) ∧ (True ∧ ((True ∧ true = true) ∧ (T2 (bif (!(boxOk (nth_Box l (Int.toNat ((y0 : Nat) : Int))))) then (T4 ((true = true ∧ leC (.bool false) (.bool (boxesOk l))) ∧ true = true)) else (T3 (bif (gtI ((y0 : Nat) : Int) 0) then (T3 (((4 : Nat) = 4 ∧ (0 : Int) ≤ (IntKind.wrap .i64 (((y0 : Nat) : Int) - 1)) ∧ ((IntKind.wrap .i64 (((y0 : Nat) : Int) - 1)) : Int) < ((List.length l : Nat) : Int)) ∧ (T4 ((k1nq055 y0 l) ∧ (T6 (bif (!Op.bytesLess (nth_Box l (Int.toNat (IntKind.wrap .i64 (((y0 : Nat) : Int) - 1)))).1.toList (nth_Box l (Int.toNat ((y0 : Nat) : Int))).1.toList) then (T2 ((true = true ∧ leC (.bool false) (.bool (boxesOk l))) ∧ true = true)) else (k0nq055 y0 l))))))) else (T3 (k0nq055 y0 l))))))))))) else (T4 ((true = true ∧ leC (.bool (leI ((List.length l : Nat) : Int) 4)) (.bool (boxesOk l))) ∧ true = true))))))) (by kernel_rfl) ?_
  unfold k0nq055 k1nq055 T2 T3 T4 T6
  have hm : List.length l ≤ maxLen := hwf.1.1
  have hi := fun i (h : i < List.length l) => boxW_at h
  have w2 := fun u => idxL_lt (p := fun z0 : GBox => eqI z0.2.1 u) l
  unfold maxLen at hm
  simp only [blE, blN, Int.toNat_zero, List.drop_zero, btw_iff, btw_not, flagsOk, Bool.not_true, Bool.not_false, SI2A, eq_self]
  refine ⟨⟨0, ⟨Nat.zero_le _, allN_zero⟩, rfl⟩, fun k hk => ⟨fun hlt => ?_, fun hge => ?_⟩⟩
  · have e2 : IntKind.wrap .i64 (((k : Nat) : Int) - 1) = ((k : Nat) : Int) - 1 := wrapA (by omega) (by omega)
    have e3 : 1 ≤ k → nth_Box l (Int.toNat (((k : Nat) : Int) - 1)) = nth_Box l (k - 1) := fun h => by rw [show Int.toNat (((k : Nat) : Int) - 1) = k - 1 by omega]
    simp only [e2]
    repeat' (first | apply And.intro | intro _)
    all_goals first
      | trivial
      | omega
      | exact (boxesOk_no (i := k) (by omega) (.inl (by assumption))).symm
      | exact (boxesOk_no (i := k) (by omega) (.inr (.inl ⟨by omega, by rw [← e3 (by omega)]; assumption⟩))).symm
      | exact (boxesOk_no (i := k) (by omega) (.inr (.inr (by assumption)))).symm
      | exact (boxesOk_no (i := k) (by omega) (.inr (.inr (fun h => by have := (hi k (by omega)).1 h; omega)))).symm
      | (refine ⟨k + 1, ⟨by omega, allN_step hk.2 (fun hb => ?_)⟩, by omega, wrapN (by unfold maxLen; omega)⟩
         rcases hb with hb | ⟨h1, hb⟩ | hb
         · simp_all
         · first | omega | (rw [← e3 (by omega)] at hb; simp_all)
         · first | exact hb (by assumption) | exact hb ((hi k (by omega)).2 (by omega)))
  · obtain rfl : k = List.length l := by omega
    rw [boxesOk_all hk.2, Bool.eq_iff_iff, leI_true, decide_eq_true_eq]
    omega
def e_s_BoxesOk : Entry Tryz.prog := ⟨291, [.v (.list tyBox)], fun x => True, fun x => .c (.bool (boxesOk x.1)), fun _ => [], fun x hx => b_s_BoxesOk x.1, Tryz.call291⟩
theorem commitOk_iff {m : GCommit} : commitOk m = true ↔ ((1 ≤ m.2.1 ∧ m.2.1 ≤ 999999999) ∧
  (((m.1 = 1 ∨ m.1 = 3) ∧ nameOk m.2.2.2.2.1 = true ∧ m.2.2.1 = 0 ∧ m.2.2.2.1 = 0 ∧ m.2.2.2.2.2 = (⟨#[]⟩ : ByteArray)) ∨
   (m.1 = 2 ∧ m.2.2.1 = 0 ∧ m.2.2.2.1 = 0 ∧ m.2.2.2.2.1 = (⟨#[]⟩ : ByteArray) ∧ m.2.2.2.2.2 = (⟨#[]⟩ : ByteArray)) ∨
   (m.1 = 4 ∧ (1 ≤ m.2.2.1 ∧ m.2.2.1 ≤ 999999998) ∧ (0 ≤ m.2.2.2.1 ∧ m.2.2.2.1 ≤ 31) ∧ m.2.2.2.2.2.size ≤ 40 ∧ m.2.2.2.2.1 = (⟨#[]⟩ : ByteArray)) ∨
   (m.1 = 5 ∧ (1 ≤ m.2.2.1 ∧ m.2.2.1 ≤ 999999998) ∧ (0 ≤ m.2.2.2.1 ∧ m.2.2.2.1 ≤ 31) ∧ m.2.2.2.2.1 = (⟨#[]⟩ : ByteArray) ∧ m.2.2.2.2.2 = (⟨#[]⟩ : ByteArray)) ∨
   (m.1 = 6 ∧ (1 ≤ m.2.2.1 ∧ m.2.2.1 ≤ 999999998) ∧ m.2.2.2.1 = 0 ∧ m.2.2.2.2.1 = (⟨#[]⟩ : ByteArray) ∧ m.2.2.2.2.2 = (⟨#[]⟩ : ByteArray)))) := by
  unfold commitOk
  rw [decide_eq_true_eq]
theorem eqC_Commit_iff {a b : GCommit} : eqC_Commit a b = true ↔ (a.1 = b.1 ∧ a.2.1 = b.2.1 ∧ a.2.2.1 = b.2.2.1 ∧ a.2.2.2.1 = b.2.2.2.1 ∧ a.2.2.2.2.1 = b.2.2.2.2.1 ∧ a.2.2.2.2.2 = b.2.2.2.2.2) := by
  rw [eqC_Commit_true]
  obtain ⟨a1, a2, a3, a4, a5, a6⟩ := a
  obtain ⟨b1, b2, b3, b4, b5, b6⟩ := b
  simp only [Prod.mk.injEq]
theorem eqC_Commit_no {a b : GCommit} : eqC_Commit a b = false ↔ ¬ (a.1 = b.1 ∧ a.2.1 = b.2.1 ∧ a.2.2.1 = b.2.2.1 ∧ a.2.2.2.1 = b.2.2.2.1 ∧ a.2.2.2.2.1 = b.2.2.2.2.1 ∧ a.2.2.2.2.2 = b.2.2.2.2.2) := by
  rw [← Bool.not_eq_true, eqC_Commit_iff]
theorem emp_size : ByteArray.size (⟨#[]⟩ : ByteArray) = 0 := rfl
def k0l9irp (m : GCommit) : Prop := (T2 ((true = true ∧ leC (.bool false) (.bool (commitOk m))) ∧ true = true))
def k1l9irp (m : GCommit) : Prop := (T2 ((True ∧ true = true) ∧ (T5 (bif nameOk m.2.2.2.2.1 then (T2 ((True ∧ true = true) ∧ (T2 (bif btw m.2.1 1 999999999 then (T2 (true = true ∧ (T2 ((true = true ∧ leC (.bool (eqC_Commit (0, (0, (m.2.2.1, (m.2.2.2.1, ((⟨#[]⟩ : ByteArray), m.2.2.2.2.2))))) (0, (0, (0, (0, ((⟨#[]⟩ : ByteArray), (⟨#[]⟩ : ByteArray)))))))) (.bool (commitOk m))) ∧ true = true)))) else (k0l9irp m))))) else (T2 (k0l9irp m))))))
def k2l9irp (m : GCommit) : Prop := (T10 (k0l9irp m))
set_option maxRecDepth 100000 in
set_option maxHeartbeats 400000 in
theorem b_i_CommitOk (m : GCommit) : BCalls Tryz.prog 269 [.ag (cellsOf tyCommit m)] (.c (.bool (commitOk m))) [] := by
  refine bcalls_of (T := ⟨[e_i_NameOk, e_i_isId, e_i_within, e_i_FlagsOk], [], [], [], none, fun _ => [], 0, [], []⟩) (L := L0) Tryz.func269 ⟨⟨rfl, rfl⟩, rfl⟩ (fun hwf => ?_)
  refine Eq.mpr (β := (T12 (T2 (bif (eqI m.1 1) then (k1l9irp m) else (T2 (bif (eqI m.1 3) then (k1l9irp m) else (T2 (bif (eqI m.1 2) then (T5 ((True ∧ true = true) ∧ (T2 (bif btw m.2.1 1 999999999 then (T2 (true = true ∧ (T2 ((true = true ∧ leC (.bool (eqC_Commit (0, (0, m.2.2)) (0, (0, (0, (0, ((⟨#[]⟩ : ByteArray), (⟨#[]⟩ : ByteArray)))))))) (.bool (commitOk m))) ∧ true = true)))) else (k0l9irp m))))) else (T2 (bif (eqI m.1 4) then (T2 ((True ∧ true = true) ∧ (True ∧ (bif btw m.2.2.1 1 999999998 then (T2 ((True ∧ true = true) ∧ (T2 (bif flagsOk m.2.2.2.1 then (T12 (T2 (bif (leI ((ByteArray.size m.2.2.2.2.2 : Nat) : Int) 40) then (T2 ((True ∧ true = true) ∧ (T2 (bif btw m.2.1 1 999999999 then (T2 (true = true ∧ (T2 ((true = true ∧ leC (.bool (eqC_Commit (0, (0, (0, (0, (m.2.2.2.2.1, (⟨#[]⟩ : ByteArray)))))) (0, (0, (0, (0, ((⟨#[]⟩ : ByteArray), (⟨#[]⟩ : ByteArray)))))))) (.bool (commitOk m))) ∧ true = true)))) else (k0l9irp m))))) else (T2 (k0l9irp m))))) else (T2 (k2l9irp m)))))) else (T4 (k2l9irp m)))))) else (T2 (bif (eqI m.1 5) then (T2 ((True ∧ true = true) ∧ (True ∧ (bif btw m.2.2.1 1 999999998 then (T2 ((True ∧ true = true) ∧ (T8 (bif flagsOk m.2.2.2.1 then (T2 ((True ∧ true = true) ∧ (T2 (bif btw m.2.1 1 999999999 then (T2 (true = true ∧ (T2 ((true = true ∧ leC (.bool (eqC_Commit (0, (0, (0, (0, m.2.2.2.2)))) (0, (0, (0, (0, ((⟨#[]⟩ : ByteArray), (⟨#[]⟩ : ByteArray)))))))) (.bool (commitOk m))) ∧ true = true)))) else (k0l9irp m))))) else (T2 (k0l9irp m)))))) else (k2l9irp m))))) else (T2 (bif (eqI m.1 6) then (T2 ((True ∧ true = true) ∧ (T5 (bif btw m.2.2.1 1 999999998 then (T2 ((True ∧ true = true) ∧ (T2 (bif btw m.2.1 1 999999999 then (T2 (true = true ∧ (T2 ((true = true ∧ leC (.bool (eqC_Commit (0, (0, (0, m.2.2.2))) (0, (0, (0, (0, ((⟨#[]⟩ : ByteArray), (⟨#[]⟩ : ByteArray)))))))) (.bool (commitOk m))) ∧ true = true)))) else (k0l9irp m))))) else (T2 (k0l9irp m)))))) else (T4 (k0l9irp m)))))))))))))))) (by kernel_rfl) ?_
  unfold k2l9irp k1l9irp k0l9irp T10 T12 T2 T4 T5 T8
  simp only [btw_iff, btw_not, flagsOk, Bool.not_true, Bool.not_false, SI2A, eq_self]
  repeat' (first | apply And.intro | intro _)
  all_goals
    rw [Bool.eq_iff_iff]
    simp only [commitOk_iff, eqC_Commit_iff, eqC_Commit_no, Bool.false_eq_true, false_iff, iff_false, true_iff, leI_true] at *
    first
      | omega
      | (simp_all [emp_size]; done)
      | (simp_all [emp_size]; omega)
def e_i_CommitOk : Entry Tryz.prog := ⟨269, [.s tyCommit], fun x => True, fun x => .c (.bool (commitOk x.1)), fun _ => [], fun x hx => b_i_CommitOk x.1, Tryz.call269⟩
def k1uw7xf (m : GCommit) : Prop := (True ∧ ((true = true ∧ leC (.bool false) (.bool (commitOk m))) ∧ true = true))
def k0uw7xf (m : GCommit) : Prop := (T4 (bif (eqI m.1 1) then (T3 ((True ∧ true = true) ∧ (True ∧ ((true = true ∧ leC (.bool (nameOk m.2.2.2.2.1)) (.bool (commitOk m))) ∧ true = true)))) else (T4 (bif (eqI m.1 3) then (T2 ((True ∧ true = true) ∧ (True ∧ ((true = true ∧ leC (.bool (nameOk m.2.2.2.2.1)) (.bool (commitOk m))) ∧ true = true)))) else (T4 (bif (eqI m.1 2) then (T2 ((true = true ∧ leC (.bool true) (.bool (commitOk m))) ∧ true = true)) else (T2 ((True ∧ true = true) ∧ (True ∧ (bif btw m.2.2.1 1 999999998 then (T2 ((True ∧ true = true) ∧ (T2 (bif flagsOk m.2.2.2.1 then (T7 ((true = true ∧ leC (.bool (leI ((ByteArray.size m.2.2.2.2.2 : Nat) : Int) 40)) (.bool (commitOk m))) ∧ true = true)) else (T2 (k1uw7xf m)))))) else (T4 (k1uw7xf m))))))))))))
def k2uw7xf (m : GCommit) : Prop := (T6 (true = true ∧ (bif (!(eqC_Commit m (m.1, (m.2.1, (0, (0, (m.2.2.2.2.1, (⟨#[]⟩ : ByteArray)))))))) then (k1uw7xf m) else (k0uw7xf m))))
set_option maxRecDepth 100000 in
set_option maxHeartbeats 400000 in
theorem b_s_CommitOk (m : GCommit) : BCalls Tryz.prog 292 [.ag (cellsOf tyCommit m)] (.c (.bool (commitOk m))) [] := by
  refine bcalls_of (T := ⟨[e_s_l1In, e_s_l9Number, e_s_NameOk, e_s_FlagsOk], [], [], [], none, fun _ => [], 0, [], []⟩) (L := L0) Tryz.func292 ⟨⟨rfl, rfl⟩, rfl⟩ (fun hwf => ?_)
  refine Eq.mpr (β := (T4 ((True ∧ true = true) ∧ (T2 (bif (!(btw m.1 1 6)) then (True ∧ (k1uw7xf m)) else (T2 ((True ∧ true = true) ∧ (T2 (bif (!(btw m.2.1 1 999999999)) then (k1uw7xf m) else (T11 (bif (eqI m.1 1) then (k2uw7xf m) else (T2 (bif (eqI m.1 3) then (k2uw7xf m) else (T2 (bif (eqI m.1 4) then (T12 (T2 (true = true ∧ (bif (!(eqC_Commit m (m.1, (m.2.1, (m.2.2.1, (m.2.2.2.1, ((⟨#[]⟩ : ByteArray), m.2.2.2.2.2))))))) then (k1uw7xf m) else (k0uw7xf m))))) else (T2 (bif (eqI m.1 5) then (T10 (true = true ∧ (bif (!(eqC_Commit m (m.1, (m.2.1, (m.2.2.1, (m.2.2.2.1, ((⟨#[]⟩ : ByteArray), (⟨#[]⟩ : ByteArray)))))))) then (k1uw7xf m) else (k0uw7xf m)))) else (T2 (bif (eqI m.1 6) then (T6 (true = true ∧ (bif (!(eqC_Commit m (m.1, (m.2.1, (m.2.2.1, (0, ((⟨#[]⟩ : ByteArray), (⟨#[]⟩ : ByteArray)))))))) then (k1uw7xf m) else (k0uw7xf m)))) else (T2 (true = true ∧ (bif (!(eqC_Commit m (m.1, (m.2.1, (0, (0, ((⟨#[]⟩ : ByteArray), (⟨#[]⟩ : ByteArray)))))))) then (k1uw7xf m) else (k0uw7xf m))))))))))))))))))))))) (by kernel_rfl) ?_
  unfold k2uw7xf k0uw7xf k1uw7xf T10 T11 T12 T2 T3 T4 T6 T7
  simp only [btw_iff, btw_not, flagsOk, Bool.not_true, Bool.not_false, SI2A, eq_self]
  repeat' (first | apply And.intro | intro _)
  all_goals
    rw [Bool.eq_iff_iff]
    simp only [commitOk_iff, eqC_Commit_iff, eqC_Commit_no, Bool.false_eq_true, false_iff, iff_false, true_iff, leI_true] at *
    first
      | omega
      | (simp_all [emp_size]; done)
      | (simp_all [emp_size]; omega)
def e_s_CommitOk : Entry Tryz.prog := ⟨292, [.s tyCommit], fun x => True, fun x => .c (.bool (commitOk x.1)), fun _ => [], fun x hx => b_s_CommitOk x.1, Tryz.call292⟩
end Go.Proofs.YtigebfhekmjhmaaGreat
