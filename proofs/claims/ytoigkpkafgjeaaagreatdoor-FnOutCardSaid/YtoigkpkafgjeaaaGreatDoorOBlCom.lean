/-
  Boxes and commits of program and reference.
  No condition but what the arguments' cells hold. Printed by vcgen.py.
-/
import Derived.Test.YtoigkpkafgjeaaaGreatDoorOBlBox
set_option linter.unusedSimpArgs false
set_option linter.unusedVariables false
set_option maxRecDepth 100000
set_option maxHeartbeats 4000000
namespace Go.Proofs.YtoigkpkafgjeaaaGreatDoor
open Go.ChangeShapes Go.WideShapes Go.ChangeAt Go.RowKit Go.Joins Go.Deep
open GoRep (rep bulk)

theorem blE (a b : ByteArray) : (Op.bytesLess a.toList b.toList || eqS a b) = !nmLt b a := by
  rw [← nmLt_tot]
  congr 1
theorem blN (a b : ByteArray) : Op.bytesLess a.toList b.toList = nmLt a b := rfl
def L_s_BoxesOk (l : List GBox) : Nat → List AV → Mem → LoopA
  | 2, tm, M => ⟨Nat, fun y => (anyR (setA tm [(2, .any), (3, .c (.int .i64 ((y : Nat) : Int)))]) 4 42, M), fun y => (y ≤ List.length l ∧ ∀ j, j < y → ¬ bxBad l j), fun y => (List.length l - y)⟩
  | _, _, _ => ⟨Unit, fun _ => ([], []), fun _ => False, fun _ => 0⟩
def k1nq055 (y0 : Nat) (l : List GBox) : Prop := ((4 : Nat) = 4 ∧ (0 : Int) ≤ ((y0 : Nat) : Int) ∧ (((y0 : Nat) : Int) : Int) < ((List.length l : Nat) : Int))
def k0nq055 (y0 : Nat) (l : List GBox) : Prop := (T2 (((4 : Nat) = 4 ∧ ((0 : Int) ≤ 0 ∧ (0 : Int) ≤ ((y0 : Nat) : Int) ∧ (((y0 : Nat) : Int) : Int) ≤ ((List.length l : Nat) : Int))) ∧ (T2 ((k1nq055 y0 l) ∧ (T2 ((True ∧ true = true) ∧ (T2 (bif (geI (boxW (List.drop (Int.toNat 0) (List.take (Int.toNat ((y0 : Nat) : Int)) l)) (nth_Box l (Int.toNat ((y0 : Nat) : Int))).2.1) 0) then (True ∧ (rB false (boxesOk l))) else (T3 (∃ y0' : Nat, (y0' ≤ List.length l ∧ ∀ j, j < y0' → ¬ bxBad l j) ∧ (List.length l - y0') < (List.length l - y0) ∧ ((lxs [.c (.hs .no tyBox l), .tp []] (True ∧ leV (.c (.int .i64 (IntKind.wrap .i64 (((y0 : Nat) : Int) + 1)))) (.c (.int .i64 ((y0' : Nat) : Int))) ∧ TN 42 (lxs [.tp [], .tp [], .tp []] True))) ∧ (True) ∧ true = true)))))))))))
theorem b_s_BoxesOk (l : List GBox) : BCalls Tryz.prog 109 [.c (.hs .no tyBox l)] (.c (.bool (boxesOk l))) [] := by
  refine bc0 [e_s_BoxOk, e_s_BoxWith] [] [] [] (L_s_BoxesOk l) Tryz.func109 (fun hwf => ?_)
  refine Eq.mpr (β := (T2 ((∃ q : Nat, (q ≤ List.length l ∧ ∀ j, j < q → ¬ bxBad l j) ∧ ((lxs [.c (.hs .no tyBox l), .tp []] (True ∧ leV (.c (.int .i64 0)) (.c (.int .i64 ((q : Nat) : Int))) ∧ TN 42 (lxs [.tp [], .tp [], .tp []] True))) ∧ (True) ∧ true = true)) ∧ ∀ y0 : Nat, (y0 ≤ List.length l ∧ ∀ j, j < y0 → ¬ bxBad l j) → (T4 (bif (ltI ((y0 : Nat) : Int) ((List.length l : Nat) : Int)) then ((true = true ∧ true = true) ∧ (T2 ((k1nq055 y0 l) ∧ (True ∧ ((True ∧ true = true) ∧ (T2 (bif (!(boxOk (nth_Box l (Int.toNat ((y0 : Nat) : Int))))) then (T4 (rB false (boxesOk l))) else (T3 (bif (gtI ((y0 : Nat) : Int) 0) then (T3 (((4 : Nat) = 4 ∧ (0 : Int) ≤ (IntKind.wrap .i64 (((y0 : Nat) : Int) - 1)) ∧ ((IntKind.wrap .i64 (((y0 : Nat) : Int) - 1)) : Int) < ((List.length l : Nat) : Int)) ∧ (T4 ((k1nq055 y0 l) ∧ (T6 (bif (!Op.bytesLess (nth_Box l (Int.toNat (IntKind.wrap .i64 (((y0 : Nat) : Int) - 1)))).1.toList (nth_Box l (Int.toNat ((y0 : Nat) : Int))).1.toList) then (T2 (rB false (boxesOk l))) else (k0nq055 y0 l))))))) else (T3 (k0nq055 y0 l))))))))))) else (T4 (rB (leI ((List.length l : Nat) : Int) 4) (boxesOk l)))))))) (by kernel_rfl) ?_
  unfold k0nq055 k1nq055 T2 T3 T4 T6
  have hm : List.length l ≤ maxLen := hwf.1.1
  have hi := fun i (h : i < List.length l) => boxW_at h
  have w2 := fun u => idxL_lt (p := fun z0 : GBox => eqI z0.2.1 u) l
  unfold maxLen at hm
  simp only [blE, blN, Int.toNat_zero, List.drop_zero, btw_iff, btw_not, flagsOk, Bool.not_true, Bool.not_false, SI2A, eq_self]
  refine ⟨⟨0, ⟨Nat.zero_le _, allN_zero⟩, rfl⟩, fun k hk => ⟨fun hlt => ?_, fun hge => ?_⟩⟩
  · have e2 : IntKind.wrap .i64 (((k : Nat) : Int) - 1) = ((k : Nat) : Int) - 1 := wrapA (by omega) (by omega)
    have e3 : 1 ≤ k → nth_Box l (Int.toNat (((k : Nat) : Int) - 1)) = nth_Box l (k - 1) := fun h => by rw [show Int.toNat (((k : Nat) : Int) - 1) = k - 1 by omega]
    simp only [e2]
    repeat' (first | apply And.intro | intro _)
    all_goals first
      | trivial
      | omega
      | exact (boxesOk_no (i := k) (by omega) (.inl (by assumption))).symm
      | exact (boxesOk_no (i := k) (by omega) (.inr (.inl ⟨by omega, by rw [← e3 (by omega)]; assumption⟩))).symm
      | exact (boxesOk_no (i := k) (by omega) (.inr (.inr (by assumption)))).symm
      | exact (boxesOk_no (i := k) (by omega) (.inr (.inr (fun h => by have := (hi k (by omega)).1 h; omega)))).symm
      | (refine ⟨k + 1, ⟨by omega, allN_step hk.2 (fun hb => ?_)⟩, by omega, wrapN (by unfold maxLen; omega)⟩
         rcases hb with hb | ⟨h1, hb⟩ | hb
         · simp_all
         · first | omega | (rw [← e3 (by omega)] at hb; simp_all)
         · first | exact hb (by assumption) | exact hb ((hi k (by omega)).2 (by omega)))
  · obtain rfl : k = List.length l := by omega
    rw [boxesOk_all hk.2, Bool.eq_iff_iff, leI_true, decide_eq_true_eq]
    omega
def e_s_BoxesOk : Entry Tryz.prog := ⟨109, [.v (.list tyBox)], fun x => True, fun x => .c (.bool (boxesOk x.1)), fun _ => [], fun x hx => b_s_BoxesOk x.1, Tryz.call109⟩
theorem commitOk_iff {m : GCommit} : commitOk m = true ↔ ((1 ≤ m.2.1 ∧ m.2.1 ≤ 999999999) ∧
  (((m.1 = 1 ∨ m.1 = 3) ∧ nameOk m.2.2.2.2.1 = true ∧ m.2.2.1 = 0 ∧ m.2.2.2.1 = 0 ∧ m.2.2.2.2.2 = (⟨#[]⟩ : ByteArray)) ∨
   (m.1 = 2 ∧ m.2.2.1 = 0 ∧ m.2.2.2.1 = 0 ∧ m.2.2.2.2.1 = (⟨#[]⟩ : ByteArray) ∧ m.2.2.2.2.2 = (⟨#[]⟩ : ByteArray)) ∨
   (m.1 = 4 ∧ (1 ≤ m.2.2.1 ∧ m.2.2.1 ≤ 999999998) ∧ (0 ≤ m.2.2.2.1 ∧ m.2.2.2.1 ≤ 31) ∧ m.2.2.2.2.2.size ≤ 40 ∧ m.2.2.2.2.1 = (⟨#[]⟩ : ByteArray)) ∨
   (m.1 = 5 ∧ (1 ≤ m.2.2.1 ∧ m.2.2.1 ≤ 999999998) ∧ (0 ≤ m.2.2.2.1 ∧ m.2.2.2.1 ≤ 31) ∧ m.2.2.2.2.1 = (⟨#[]⟩ : ByteArray) ∧ m.2.2.2.2.2 = (⟨#[]⟩ : ByteArray)) ∨
   (m.1 = 6 ∧ (1 ≤ m.2.2.1 ∧ m.2.2.1 ≤ 999999998) ∧ m.2.2.2.1 = 0 ∧ m.2.2.2.2.1 = (⟨#[]⟩ : ByteArray) ∧ m.2.2.2.2.2 = (⟨#[]⟩ : ByteArray)))) := by
  unfold commitOk
  rw [decide_eq_true_eq]
theorem eqC_Commit_iff {a b : GCommit} : eqC_Commit a b = true ↔ (a.1 = b.1 ∧ a.2.1 = b.2.1 ∧ a.2.2.1 = b.2.2.1 ∧ a.2.2.2.1 = b.2.2.2.1 ∧ a.2.2.2.2.1 = b.2.2.2.2.1 ∧ a.2.2.2.2.2 = b.2.2.2.2.2) := by
  rw [eqC_Commit_true]
  obtain ⟨a1, a2, a3, a4, a5, a6⟩ := a
  obtain ⟨b1, b2, b3, b4, b5, b6⟩ := b
  simp only [Prod.mk.injEq]
theorem eqC_Commit_no {a b : GCommit} : eqC_Commit a b = false ↔ ¬ (a.1 = b.1 ∧ a.2.1 = b.2.1 ∧ a.2.2.1 = b.2.2.1 ∧ a.2.2.2.1 = b.2.2.2.1 ∧ a.2.2.2.2.1 = b.2.2.2.2.1 ∧ a.2.2.2.2.2 = b.2.2.2.2.2) := by
  rw [← Bool.not_eq_true, eqC_Commit_iff]
theorem emp_size : ByteArray.size (⟨#[]⟩ : ByteArray) = 0 := rfl
def k0uw7xf (m : GCommit) : Prop := (T4 (bif (eqI m.1 1) then (T3 ((True ∧ true = true) ∧ (True ∧ (rB (nameOk m.2.2.2.2.1) (commitOk m))))) else (T4 (bif (eqI m.1 3) then (T2 ((True ∧ true = true) ∧ (True ∧ (rB (nameOk m.2.2.2.2.1) (commitOk m))))) else (T4 (bif (eqI m.1 2) then (T2 (rB true (commitOk m))) else (T2 ((True ∧ true = true) ∧ (True ∧ (bif btw m.2.2.1 1 999999998 then (T2 ((True ∧ true = true) ∧ (T2 (bif flagsOk m.2.2.2.1 then (T7 (rB (leI ((ByteArray.size m.2.2.2.2.2 : Nat) : Int) 40) (commitOk m))) else (T3 (rB false (commitOk m))))))) else (T5 (rB false (commitOk m)))))))))))))
def k1uw7xf (m : GCommit) : Prop := (T6 (true = true ∧ (bif (!(eqC_Commit m (m.1, (m.2.1, (0, (0, (m.2.2.2.2.1, (⟨#[]⟩ : ByteArray)))))))) then (True ∧ (rB false (commitOk m))) else (k0uw7xf m))))
theorem b_s_CommitOk (m : GCommit) : BCalls Tryz.prog 99 [.ag (cellsOf tyCommit m)] (.c (.bool (commitOk m))) [] := by
  refine bc0 [e_s_l1In, e_s_l9Number, e_s_NameOk, e_s_FlagsOk] [] [] [] L0 Tryz.func99 (fun hwf => ?_)
  refine Eq.mpr (β := (T4 ((True ∧ true = true) ∧ (T2 (bif (!(btw m.1 1 6)) then (T2 (rB false (commitOk m))) else (T2 ((True ∧ true = true) ∧ (T2 (bif (!(btw m.2.1 1 999999999)) then (True ∧ (rB false (commitOk m))) else (T11 (bif (eqI m.1 1) then (k1uw7xf m) else (T2 (bif (eqI m.1 3) then (k1uw7xf m) else (T2 (bif (eqI m.1 4) then (T12 (T2 (true = true ∧ (bif (!(eqC_Commit m (m.1, (m.2.1, (m.2.2.1, (m.2.2.2.1, ((⟨#[]⟩ : ByteArray), m.2.2.2.2.2))))))) then (True ∧ (rB false (commitOk m))) else (k0uw7xf m))))) else (T2 (bif (eqI m.1 5) then (T10 (true = true ∧ (bif (!(eqC_Commit m (m.1, (m.2.1, (m.2.2.1, (m.2.2.2.1, ((⟨#[]⟩ : ByteArray), (⟨#[]⟩ : ByteArray)))))))) then (True ∧ (rB false (commitOk m))) else (k0uw7xf m)))) else (T2 (bif (eqI m.1 6) then (T6 (true = true ∧ (bif (!(eqC_Commit m (m.1, (m.2.1, (m.2.2.1, (0, ((⟨#[]⟩ : ByteArray), (⟨#[]⟩ : ByteArray)))))))) then (True ∧ (rB false (commitOk m))) else (k0uw7xf m)))) else (T2 (true = true ∧ (bif (!(eqC_Commit m (m.1, (m.2.1, (0, (0, ((⟨#[]⟩ : ByteArray), (⟨#[]⟩ : ByteArray)))))))) then (True ∧ (rB false (commitOk m))) else (k0uw7xf m))))))))))))))))))))))) (by kernel_rfl) ?_
  unfold k1uw7xf k0uw7xf T10 T11 T12 T2 T3 T4 T5 T6 T7
  simp only [btw_iff, btw_not, flagsOk, Bool.not_true, Bool.not_false, SI2A, eq_self]
  repeat' (first | apply And.intro | intro _)
  all_goals
    rw [Bool.eq_iff_iff]
    simp only [commitOk_iff, eqC_Commit_iff, eqC_Commit_no, Bool.false_eq_true, false_iff, iff_false, true_iff, leI_true] at *
    first
      | omega
      | (simp_all [emp_size]; done)
      | (simp_all [emp_size]; omega)
def e_s_CommitOk : Entry Tryz.prog := ⟨99, [.s tyCommit], fun x => True, fun x => .c (.bool (commitOk x.1)), fun _ => [], fun x hx => b_s_CommitOk x.1, Tryz.call99⟩
end Go.Proofs.YtoigkpkafgjeaaaGreatDoor
