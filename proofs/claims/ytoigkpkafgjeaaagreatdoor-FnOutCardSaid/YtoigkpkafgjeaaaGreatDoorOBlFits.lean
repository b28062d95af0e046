/-
  Several texts in one.
-/
import Derived.Test.YtoigkpkafgjeaaaGreatDoorOBlRo
import Derived.Test.YtoigkpkafgjeaaaGreatDoorORep
import Derived.Shelf.Strings.BuilderK
set_option linter.unusedSimpArgs false
set_option linter.unusedVariables false
set_option maxRecDepth 100000
set_option maxHeartbeats 4000000
namespace Go.Proofs.YtoigkpkafgjeaaaGreatDoor
open Go.ChangeShapes Go.WideShapes Go.ChangeAt Go.RowKit Go.Joins Go.Deep
open GoRep (rep bulk)

def wordT (k : Int) : ByteArray := if k = 9 then (⟨#[67, 76, 79, 83, 69, 68]⟩ : ByteArray) else if k = 10 then (⟨#[79, 86, 69, 82, 70, 76, 79, 87]⟩ : ByteArray) else if k = 11 then (⟨#[66, 89, 69]⟩ : ByteArray) else (⟨#[72, 69, 76, 76, 79]⟩ : ByteArray)
theorem b_s_l14Word (k : Int) : BCalls Tryz.prog 41 [.c (.int .i64 k)] (.c (.str (wordT k))) [] := by
  refine bc0 [] [] [] [] L0 Tryz.func41 (fun hwf => ?_)
  refine Eq.mpr (β := (True ∧ (True ∧ (True ∧ (True ∧ (bif (eqI k 9) then (True ∧ (rS (⟨#[67, 76, 79, 83, 69, 68]⟩ : ByteArray) (wordT k))) else (True ∧ (True ∧ (bif (eqI k 10) then (True ∧ (rS (⟨#[79, 86, 69, 82, 70, 76, 79, 87]⟩ : ByteArray) (wordT k))) else (True ∧ (True ∧ (bif (eqI k 11) then (True ∧ (rS (⟨#[66, 89, 69]⟩ : ByteArray) (wordT k))) else (True ∧ (rS (⟨#[72, 69, 76, 76, 79]⟩ : ByteArray) (wordT k))))))))))))))) (by kernel_rfl) ?_
  unfold wordT
  simp only [btw_iff, btw_not, flagsOk, Bool.not_true, Bool.not_false, SI2A, eq_self]
  repeat' (with_reducible first | exact trivial | apply And.intro | intro _)
  all_goals first
    | (with_reducible trivial)
    | (simp_all; done)
def e_s_l14Word : Entry Tryz.prog := ⟨41, [.v tyInt], fun x => True, fun x => .c (.str (wordT x.1)), fun _ => [], fun x hx => b_s_l14Word x.1, Tryz.call41⟩
theorem szL (a : Array UInt8) : ByteArray.size ⟨a⟩ = a.size := rfl
theorem tagOk_size {s : ByteArray} (h : tagOk s = true) : s.size ≤ 1000 := by
  have := (of_decide_eq_true h).2.2
  omega
theorem nameOk_size {s : ByteArray} (h : nameOk s = true) : s.size ≤ 1000 := by
  have := (of_decide_eq_true h).2.2
  omega
theorem emp_sizeR {s : ByteArray} (h : emp s = true) : s.size = 0 := by rw [eqS_true.1 h]; rfl
theorem rok_facts {r : GReply} (h : replyOk r = true) : (0 ≤ r.2.1 ∧ r.2.1 ≤ 999999999) ∧ (0 ≤ r.2.2.1 ∧ r.2.2.1 ≤ 999999999) ∧ r.2.2.2.2.1.size ≤ 1000 ∧ r.2.2.2.2.2.size ≤ 40 := by
  obtain ⟨k, n, u, f, nm, tx⟩ := r
  unfold replyOk replyB at h
  simp only [Bool.and_eq_true] at h
  obtain ⟨_, h1, h2, _, h3, h4⟩ := h
  show (0 ≤ n ∧ n ≤ 999999999) ∧ (0 ≤ u ∧ u ≤ 999999999) ∧ nm.size ≤ 1000 ∧ tx.size ≤ 40
  refine ⟨?_, ?_, ?_, ?_⟩
  · split at h1
    · have := btw_iff.1 h1
      split at this <;> omega
    · have := eqI_true.1 h1
      omega
  · split at h2
    · have := btw_iff.1 h2
      omega
    · have := eqI_true.1 h2
      omega
  · split at h3
    · exact nameOk_size h3
    · split at h3
      · rw [Bool.or_eq_true] at h3
        rcases h3 with h3 | h3
        · exact tagOk_size h3
        · rw [eqS_true.1 h3]; exact (show 1 ≤ 1000 by decide)
      · have := emp_sizeR h3
        omega
  · split at h4
    · have := leI_true.1 h4
      omega
    · have := emp_sizeR h4
      omega
def hdT (s : ByteArray) : ByteArray := if s = (⟨#[]⟩ : ByteArray) then (⟨#[45]⟩ : ByteArray) else hexS s
theorem hdT_size (s : ByteArray) : (hdT s).size ≤ 2 * s.size + 1 := by
  unfold hdT
  split
  · rw [szL]; exact Nat.le_add_left 1 _
  · rw [hexS_size]; omega
theorem body_eq (a s : ByteArray) : a ++ (⟨#[32, 66, 79, 68, 89, 32]⟩ : ByteArray) ++ hdT s = (bif eqS s (⟨#[]⟩ : ByteArray) then a ++ (⟨#[32, 66, 79, 68, 89, 32, 45]⟩ : ByteArray) else a ++ (⟨#[32, 66, 79, 68, 89, 32]⟩ : ByteArray) ++ hexS s) := by
  unfold hdT
  cases h : eqS s (⟨#[]⟩ : ByteArray) with
  | true =>
    rw [if_pos (eqS_true.1 h), ByteArray.append_assoc]
    rfl
  | false =>
    rw [if_neg (eqS_false.1 h)]
    rfl
theorem wordT_size (k : Int) : (wordT k).size ≤ 8 := by
  unfold wordT
  repeat' split
  all_goals decide
theorem rok_k {r : GReply} (h : replyOk r = true) : 1 ≤ r.1 ∧ r.1 ≤ 16 := by
  rw [reply_law, Bool.and_eq_true] at h
  exact btw_iff.1 h.1
def replyT (r : GCommit) : ByteArray := (bif (!(replyOk r)) then (⟨#[]⟩ : ByteArray) else (bif (eqI r.1 1) then (((⟨#[42, 32]⟩ : ByteArray) ++ (⟨(Lib.itoa r.2.1).toArray⟩ : ByteArray)) ++ (⟨#[32, 69, 88, 73, 83, 84, 83]⟩ : ByteArray)) else (bif (eqI r.1 2) then (((⟨#[42, 32]⟩ : ByteArray) ++ (⟨(Lib.itoa r.2.1).toArray⟩ : ByteArray)) ++ (⟨#[32, 69, 88, 80, 85, 78, 71, 69]⟩ : ByteArray)) else (bif (eqI r.1 3) then (((((((⟨#[42, 32]⟩ : ByteArray) ++ (⟨(Lib.itoa r.2.1).toArray⟩ : ByteArray)) ++ (⟨#[32, 70, 69, 84, 67, 72, 32]⟩ : ByteArray)) ++ (⟨(Lib.itoa r.2.2.1).toArray⟩ : ByteArray)) ++ (⟨#[32, 40]⟩ : ByteArray)) ++ (flagT r.2.2.2.1)) ++ (⟨#[41]⟩ : ByteArray)) else (bif (eqI r.1 4) then (bif (eqS r.2.2.2.2.2 (⟨#[]⟩ : ByteArray)) then (((⟨#[42, 32]⟩ : ByteArray) ++ (⟨(Lib.itoa r.2.1).toArray⟩ : ByteArray)) ++ (⟨#[32, 66, 79, 68, 89, 32, 45]⟩ : ByteArray)) else ((((⟨#[42, 32]⟩ : ByteArray) ++ (⟨(Lib.itoa r.2.1).toArray⟩ : ByteArray)) ++ (⟨#[32, 66, 79, 68, 89, 32]⟩ : ByteArray)) ++ (hexS r.2.2.2.2.2))) else (bif (eqI r.1 5) then ((((((⟨#[42, 32, 83, 84, 65, 84, 85, 83, 32]⟩ : ByteArray) ++ r.2.2.2.2.1) ++ (⟨#[32]⟩ : ByteArray)) ++ (⟨(Lib.itoa r.2.1).toArray⟩ : ByteArray)) ++ (⟨#[32]⟩ : ByteArray)) ++ (⟨(Lib.itoa r.2.2.1).toArray⟩ : ByteArray)) else (bif (eqI r.1 6) then ((⟨#[42, 32, 76, 73, 83, 84, 32]⟩ : ByteArray) ++ r.2.2.2.2.1) else (bif (eqI r.1 7) then ((⟨#[42, 32, 71, 79, 78, 69, 32]⟩ : ByteArray) ++ r.2.2.2.2.1) else (bif (eqI r.1 8) then ((((⟨#[42, 32, 83, 69, 76, 69, 67, 84, 69, 68, 32]⟩ : ByteArray) ++ r.2.2.2.2.1) ++ (⟨#[32]⟩ : ByteArray)) ++ (⟨(Lib.itoa r.2.1).toArray⟩ : ByteArray)) else (bif (eqI r.1 15) then (⟨#[43, 32, 105, 100, 108, 101]⟩ : ByteArray) else (bif (eqI r.1 12) then (r.2.2.2.2.1 ++ (⟨#[32, 79, 75]⟩ : ByteArray)) else (bif (eqI r.1 13) then (r.2.2.2.2.1 ++ (⟨#[32, 78, 79]⟩ : ByteArray)) else (bif (eqI r.1 14) then (r.2.2.2.2.1 ++ (⟨#[32, 66, 65, 68]⟩ : ByteArray)) else ((⟨#[42, 32]⟩ : ByteArray) ++ (wordT r.1)))))))))))))))
theorem b_s_ReplyText (r : GCommit) : BCalls Tryz.prog 19 [.ag (cellsOf tyCommit r)] (.c (.str (replyT r))) [] := by
  refine bc0 [e_s_ReplyOk, e_s_Digits, e_s_FlagsText, e_s_Hex, e_s_l14Word] [] [] [] L0 Tryz.func19 (fun hwf => ?_)
  refine Eq.mpr (β := (T3 ((True ∧ true = true) ∧ (True ∧ (bif (!(replyOk r)) then (True ∧ (rS (⟨#[]⟩ : ByteArray) (replyT r))) else (T2 ((nonneg r.2.1 ∧ true = true) ∧ (T5 (bif (eqI r.1 1) then (True ∧ (ByteArray.size (⟨#[42, 32]⟩ : ByteArray) + ByteArray.size (⟨(Lib.itoa r.2.1).toArray⟩ : ByteArray) ≤ maxLen ∧ (ByteArray.size ((⟨#[42, 32]⟩ : ByteArray) ++ (⟨(Lib.itoa r.2.1).toArray⟩ : ByteArray)) + ByteArray.size (⟨#[32, 69, 88, 73, 83, 84, 83]⟩ : ByteArray) ≤ maxLen ∧ (True ∧ (rS (((⟨#[42, 32]⟩ : ByteArray) ++ (⟨(Lib.itoa r.2.1).toArray⟩ : ByteArray)) ++ (⟨#[32, 69, 88, 73, 83, 84, 83]⟩ : ByteArray)) (replyT r)))))) else (T2 (bif (eqI r.1 2) then (True ∧ (ByteArray.size (⟨#[42, 32]⟩ : ByteArray) + ByteArray.size (⟨(Lib.itoa r.2.1).toArray⟩ : ByteArray) ≤ maxLen ∧ (ByteArray.size ((⟨#[42, 32]⟩ : ByteArray) ++ (⟨(Lib.itoa r.2.1).toArray⟩ : ByteArray)) + ByteArray.size (⟨#[32, 69, 88, 80, 85, 78, 71, 69]⟩ : ByteArray) ≤ maxLen ∧ (True ∧ (rS (((⟨#[42, 32]⟩ : ByteArray) ++ (⟨(Lib.itoa r.2.1).toArray⟩ : ByteArray)) ++ (⟨#[32, 69, 88, 80, 85, 78, 71, 69]⟩ : ByteArray)) (replyT r)))))) else (T2 (bif (eqI r.1 3) then ((true = true ∧ true = true) ∧ (True ∧ (ByteArray.size (⟨#[42, 32]⟩ : ByteArray) + ByteArray.size (⟨(Lib.itoa r.2.1).toArray⟩ : ByteArray) ≤ maxLen ∧ (ByteArray.size ((⟨#[42, 32]⟩ : ByteArray) ++ (⟨(Lib.itoa r.2.1).toArray⟩ : ByteArray)) + ByteArray.size (⟨#[32, 70, 69, 84, 67, 72, 32]⟩ : ByteArray) ≤ maxLen ∧ (T4 ((nonneg r.2.2.1 ∧ true = true) ∧ (ByteArray.size (((⟨#[42, 32]⟩ : ByteArray) ++ (⟨(Lib.itoa r.2.1).toArray⟩ : ByteArray)) ++ (⟨#[32, 70, 69, 84, 67, 72, 32]⟩ : ByteArray)) + ByteArray.size (⟨(Lib.itoa r.2.2.1).toArray⟩ : ByteArray) ≤ maxLen ∧ (ByteArray.size ((((⟨#[42, 32]⟩ : ByteArray) ++ (⟨(Lib.itoa r.2.1).toArray⟩ : ByteArray)) ++ (⟨#[32, 70, 69, 84, 67, 72, 32]⟩ : ByteArray)) ++ (⟨(Lib.itoa r.2.2.1).toArray⟩ : ByteArray)) + ByteArray.size (⟨#[32, 40]⟩ : ByteArray) ≤ maxLen ∧ ((True ∧ true = true) ∧ (ByteArray.size (((((⟨#[42, 32]⟩ : ByteArray) ++ (⟨(Lib.itoa r.2.1).toArray⟩ : ByteArray)) ++ (⟨#[32, 70, 69, 84, 67, 72, 32]⟩ : ByteArray)) ++ (⟨(Lib.itoa r.2.2.1).toArray⟩ : ByteArray)) ++ (⟨#[32, 40]⟩ : ByteArray)) + ByteArray.size (flagT r.2.2.2.1) ≤ maxLen ∧ (ByteArray.size ((((((⟨#[42, 32]⟩ : ByteArray) ++ (⟨(Lib.itoa r.2.1).toArray⟩ : ByteArray)) ++ (⟨#[32, 70, 69, 84, 67, 72, 32]⟩ : ByteArray)) ++ (⟨(Lib.itoa r.2.2.1).toArray⟩ : ByteArray)) ++ (⟨#[32, 40]⟩ : ByteArray)) ++ (flagT r.2.2.2.1)) + ByteArray.size (⟨#[41]⟩ : ByteArray) ≤ maxLen ∧ (True ∧ (rS (((((((⟨#[42, 32]⟩ : ByteArray) ++ (⟨(Lib.itoa r.2.1).toArray⟩ : ByteArray)) ++ (⟨#[32, 70, 69, 84, 67, 72, 32]⟩ : ByteArray)) ++ (⟨(Lib.itoa r.2.2.1).toArray⟩ : ByteArray)) ++ (⟨#[32, 40]⟩ : ByteArray)) ++ (flagT r.2.2.2.1)) ++ (⟨#[41]⟩ : ByteArray)) (replyT r)))))))))))))) else (T2 (bif (eqI r.1 4) then (T3 (bif (eqS r.2.2.2.2.2 (⟨#[]⟩ : ByteArray)) then (True ∧ (ByteArray.size (⟨#[42, 32]⟩ : ByteArray) + ByteArray.size (⟨(Lib.itoa r.2.1).toArray⟩ : ByteArray) ≤ maxLen ∧ (ByteArray.size ((⟨#[42, 32]⟩ : ByteArray) ++ (⟨(Lib.itoa r.2.1).toArray⟩ : ByteArray)) + ByteArray.size (⟨#[32, 66, 79, 68, 89, 32, 45]⟩ : ByteArray) ≤ maxLen ∧ (True ∧ (rS (((⟨#[42, 32]⟩ : ByteArray) ++ (⟨(Lib.itoa r.2.1).toArray⟩ : ByteArray)) ++ (⟨#[32, 66, 79, 68, 89, 32, 45]⟩ : ByteArray)) (replyT r)))))) else (True ∧ (ByteArray.size (⟨#[42, 32]⟩ : ByteArray) + ByteArray.size (⟨(Lib.itoa r.2.1).toArray⟩ : ByteArray) ≤ maxLen ∧ (ByteArray.size ((⟨#[42, 32]⟩ : ByteArray) ++ (⟨(Lib.itoa r.2.1).toArray⟩ : ByteArray)) + ByteArray.size (⟨#[32, 66, 79, 68, 89, 32]⟩ : ByteArray) ≤ maxLen ∧ (T2 ((ByteArray.size r.2.2.2.2.2 ≤ 1048576 ∧ true = true) ∧ (ByteArray.size (((⟨#[42, 32]⟩ : ByteArray) ++ (⟨(Lib.itoa r.2.1).toArray⟩ : ByteArray)) ++ (⟨#[32, 66, 79, 68, 89, 32]⟩ : ByteArray)) + ByteArray.size (hexS r.2.2.2.2.2) ≤ maxLen ∧ (True ∧ (rS ((((⟨#[42, 32]⟩ : ByteArray) ++ (⟨(Lib.itoa r.2.1).toArray⟩ : ByteArray)) ++ (⟨#[32, 66, 79, 68, 89, 32]⟩ : ByteArray)) ++ (hexS r.2.2.2.2.2)) (replyT r))))))))))) else (T2 (bif (eqI r.1 5) then ((true = true ∧ true = true) ∧ (T2 (ByteArray.size (⟨#[42, 32, 83, 84, 65, 84, 85, 83, 32]⟩ : ByteArray) + ByteArray.size r.2.2.2.2.1 ≤ maxLen ∧ (ByteArray.size ((⟨#[42, 32, 83, 84, 65, 84, 85, 83, 32]⟩ : ByteArray) ++ r.2.2.2.2.1) + ByteArray.size (⟨#[32]⟩ : ByteArray) ≤ maxLen ∧ (True ∧ (ByteArray.size (((⟨#[42, 32, 83, 84, 65, 84, 85, 83, 32]⟩ : ByteArray) ++ r.2.2.2.2.1) ++ (⟨#[32]⟩ : ByteArray)) + ByteArray.size (⟨(Lib.itoa r.2.1).toArray⟩ : ByteArray) ≤ maxLen ∧ (ByteArray.size ((((⟨#[42, 32, 83, 84, 65, 84, 85, 83, 32]⟩ : ByteArray) ++ r.2.2.2.2.1) ++ (⟨#[32]⟩ : ByteArray)) ++ (⟨(Lib.itoa r.2.1).toArray⟩ : ByteArray)) + ByteArray.size (⟨#[32]⟩ : ByteArray) ≤ maxLen ∧ (T2 ((nonneg r.2.2.1 ∧ true = true) ∧ (ByteArray.size (((((⟨#[42, 32, 83, 84, 65, 84, 85, 83, 32]⟩ : ByteArray) ++ r.2.2.2.2.1) ++ (⟨#[32]⟩ : ByteArray)) ++ (⟨(Lib.itoa r.2.1).toArray⟩ : ByteArray)) ++ (⟨#[32]⟩ : ByteArray)) + ByteArray.size (⟨(Lib.itoa r.2.2.1).toArray⟩ : ByteArray) ≤ maxLen ∧ (True ∧ (rS ((((((⟨#[42, 32, 83, 84, 65, 84, 85, 83, 32]⟩ : ByteArray) ++ r.2.2.2.2.1) ++ (⟨#[32]⟩ : ByteArray)) ++ (⟨(Lib.itoa r.2.1).toArray⟩ : ByteArray)) ++ (⟨#[32]⟩ : ByteArray)) ++ (⟨(Lib.itoa r.2.2.1).toArray⟩ : ByteArray)) (replyT r))))))))))))) else (T2 (bif (eqI r.1 6) then (T2 (ByteArray.size (⟨#[42, 32, 76, 73, 83, 84, 32]⟩ : ByteArray) + ByteArray.size r.2.2.2.2.1 ≤ maxLen ∧ (True ∧ (rS ((⟨#[42, 32, 76, 73, 83, 84, 32]⟩ : ByteArray) ++ r.2.2.2.2.1) (replyT r))))) else (T2 (bif (eqI r.1 7) then (T2 (ByteArray.size (⟨#[42, 32, 71, 79, 78, 69, 32]⟩ : ByteArray) + ByteArray.size r.2.2.2.2.1 ≤ maxLen ∧ (True ∧ (rS ((⟨#[42, 32, 71, 79, 78, 69, 32]⟩ : ByteArray) ++ r.2.2.2.2.1) (replyT r))))) else (T2 (bif (eqI r.1 8) then (T2 (ByteArray.size (⟨#[42, 32, 83, 69, 76, 69, 67, 84, 69, 68, 32]⟩ : ByteArray) + ByteArray.size r.2.2.2.2.1 ≤ maxLen ∧ (ByteArray.size ((⟨#[42, 32, 83, 69, 76, 69, 67, 84, 69, 68, 32]⟩ : ByteArray) ++ r.2.2.2.2.1) + ByteArray.size (⟨#[32]⟩ : ByteArray) ≤ maxLen ∧ (True ∧ (ByteArray.size (((⟨#[42, 32, 83, 69, 76, 69, 67, 84, 69, 68, 32]⟩ : ByteArray) ++ r.2.2.2.2.1) ++ (⟨#[32]⟩ : ByteArray)) + ByteArray.size (⟨(Lib.itoa r.2.1).toArray⟩ : ByteArray) ≤ maxLen ∧ (True ∧ (rS ((((⟨#[42, 32, 83, 69, 76, 69, 67, 84, 69, 68, 32]⟩ : ByteArray) ++ r.2.2.2.2.1) ++ (⟨#[32]⟩ : ByteArray)) ++ (⟨(Lib.itoa r.2.1).toArray⟩ : ByteArray)) (replyT r)))))))) else (T2 (bif (eqI r.1 15) then (True ∧ (rS (⟨#[43, 32, 105, 100, 108, 101]⟩ : ByteArray) (replyT r))) else (T2 (bif (eqI r.1 12) then (T2 (ByteArray.size r.2.2.2.2.1 + ByteArray.size (⟨#[32, 79, 75]⟩ : ByteArray) ≤ maxLen ∧ (True ∧ (rS (r.2.2.2.2.1 ++ (⟨#[32, 79, 75]⟩ : ByteArray)) (replyT r))))) else (T2 (bif (eqI r.1 13) then (T2 (ByteArray.size r.2.2.2.2.1 + ByteArray.size (⟨#[32, 78, 79]⟩ : ByteArray) ≤ maxLen ∧ (True ∧ (rS (r.2.2.2.2.1 ++ (⟨#[32, 78, 79]⟩ : ByteArray)) (replyT r))))) else (T2 (bif (eqI r.1 14) then (T2 (ByteArray.size r.2.2.2.2.1 + ByteArray.size (⟨#[32, 66, 65, 68]⟩ : ByteArray) ≤ maxLen ∧ (True ∧ (rS (r.2.2.2.2.1 ++ (⟨#[32, 66, 65, 68]⟩ : ByteArray)) (replyT r))))) else (T2 ((True ∧ true = true) ∧ (ByteArray.size (⟨#[42, 32]⟩ : ByteArray) + ByteArray.size (wordT r.1) ≤ maxLen ∧ (True ∧ (rS ((⟨#[42, 32]⟩ : ByteArray) ++ (wordT r.1)) (replyT r))))))))))))))))))))))))))))))))))))) (by kernel_rfl) ?_
  unfold T2 T3 T4 T5
  cases ho : replyOk r with
  | false =>
    simp only [Bool.not_false, cond_true, SIU, eq_self]
    repeat' (with_reducible first | exact trivial | apply And.intro | apply bifI | intro _)
    all_goals first
      | (with_reducible rfl)
      | (exfalso; contradiction)
      | (simp only [replyT, ho, Bool.not_false, cond_true]; done)
  | true =>
    obtain ⟨hn, hu, hm, ht⟩ := rok_facts ho
    have d1 := itoa_len (n := r.2.1) (by omega)
    have d2 := itoa_len (n := r.2.2.1) (by omega)
    have d3 := flagT_size r.2.2.2.1
    have d4 := hexS_size r.2.2.2.2.2
    have d5 := wordT_size r.1
    simp only [Bool.not_true, cond_false, SIU, eq_self]
    repeat' (with_reducible first | exact trivial | apply And.intro | apply bifI | intro _)
    all_goals first
      | (with_reducible rfl)
      | exact hn.1
      | exact hu.1
      | omega
      | ((try simp only [ByteArray.size_append, szL, List.size_toArray, List.length_cons, List.length_nil]); unfold maxLen; omega)
      | (simp only [replyT, hdT, ho, Bool.not_true, cond_true, cond_false, *]; done)
      | (rw [body_eq]; simp only [replyT, ho, Bool.not_true, cond_true, cond_false, *]; done)
      | (rename_i h; have e := eqI_true.1 h; obtain ⟨k, n, u, f, nm, tx⟩ := r; simp only at e; subst e; simp only [replyT, ho, Bool.not_true, cond_false]; rfl)
      | (have e : r.1 = 16 := (by have b := rok_k ho; simp only [eqI_false] at *; omega)
         obtain ⟨k, n, u, f, nm, tx⟩ := r
         simp only at e
         subst e
         simp only [replyT, ho, Bool.not_true, cond_false]
         rfl)
def e_s_ReplyText : Entry Tryz.prog := ⟨19, [.s tyCommit], fun x => True, fun x => .c (.str (replyT x.1)), fun _ => [], fun x hx => b_s_ReplyText x.1, Tryz.call19⟩
theorem b_i_hexOrDash (s : ByteArray) (hpre : ByteArray.size s ≤ 1048576) : BCalls Tryz.prog 58 [.c (.str s)] (.c (.str (hdT s))) [] := by
  refine bc0 [e_i_Hex] [] [] [] L0 Tryz.func58 (fun hwf => ?_)
  refine Eq.mpr (β := (True ∧ (True ∧ (True ∧ (bif (eqS s (⟨#[]⟩ : ByteArray)) then (True ∧ (rS (⟨#[45]⟩ : ByteArray) (hdT s))) else (True ∧ ((ByteArray.size s ≤ 1048576 ∧ true = true) ∧ (True ∧ (rS (hexS s) (hdT s)))))))))) (by kernel_rfl) ?_
  simp only [btw_iff, btw_not, flagsOk, Bool.not_true, Bool.not_false, SI2A, eq_self]
  repeat' (with_reducible first | exact trivial | apply And.intro | intro _)
  all_goals first
    | (with_reducible trivial)
    | omega
    | (with_reducible assumption)
    | (unfold hdT; rw [if_pos (by assumption)])
    | (unfold hdT; rw [if_neg (by assumption)])
def e_i_hexOrDash : Entry Tryz.prog := ⟨58, [.v tyStr], fun x => ByteArray.size x.1 ≤ 1048576, fun x => .c (.str (hdT x.1)), fun _ => [], fun x hx => b_i_hexOrDash x.1 hx, Tryz.call58⟩
theorem b_i_ReplyText (r : GCommit) : BCalls Tryz.prog 27 [.ag (cellsOf tyCommit r)] (.c (.str (replyT r))) [] := by
  refine bc0 [e_i_ReplyOk, e_i_Digits, e_i_FlagsText, e_i_hexOrDash] [] [] [] L0 Tryz.func27 (fun hwf => ?_)
  refine Eq.mpr (β := (T3 ((True ∧ true = true) ∧ (True ∧ (bif (!(replyOk r)) then (True ∧ (rS (⟨#[]⟩ : ByteArray) (replyT r))) else ((true = true ∧ true = true) ∧ (T4 ((True ∧ true = true) ∧ ((True ∧ true = true) ∧ (T6 (bif (eqI r.1 1) then (True ∧ (ByteArray.size (⟨#[42, 32]⟩ : ByteArray) + ByteArray.size (⟨(Lib.itoa r.2.1).toArray⟩ : ByteArray) ≤ maxLen ∧ (ByteArray.size ((⟨#[42, 32]⟩ : ByteArray) ++ (⟨(Lib.itoa r.2.1).toArray⟩ : ByteArray)) + ByteArray.size (⟨#[32, 69, 88, 73, 83, 84, 83]⟩ : ByteArray) ≤ maxLen ∧ (True ∧ (rS (((⟨#[42, 32]⟩ : ByteArray) ++ (⟨(Lib.itoa r.2.1).toArray⟩ : ByteArray)) ++ (⟨#[32, 69, 88, 73, 83, 84, 83]⟩ : ByteArray)) (replyT r)))))) else (T2 (bif (eqI r.1 2) then (True ∧ (ByteArray.size (⟨#[42, 32]⟩ : ByteArray) + ByteArray.size (⟨(Lib.itoa r.2.1).toArray⟩ : ByteArray) ≤ maxLen ∧ (ByteArray.size ((⟨#[42, 32]⟩ : ByteArray) ++ (⟨(Lib.itoa r.2.1).toArray⟩ : ByteArray)) + ByteArray.size (⟨#[32, 69, 88, 80, 85, 78, 71, 69]⟩ : ByteArray) ≤ maxLen ∧ (True ∧ (rS (((⟨#[42, 32]⟩ : ByteArray) ++ (⟨(Lib.itoa r.2.1).toArray⟩ : ByteArray)) ++ (⟨#[32, 69, 88, 80, 85, 78, 71, 69]⟩ : ByteArray)) (replyT r)))))) else (T2 (bif (eqI r.1 3) then (True ∧ (ByteArray.size (⟨#[42, 32]⟩ : ByteArray) + ByteArray.size (⟨(Lib.itoa r.2.1).toArray⟩ : ByteArray) ≤ maxLen ∧ (ByteArray.size ((⟨#[42, 32]⟩ : ByteArray) ++ (⟨(Lib.itoa r.2.1).toArray⟩ : ByteArray)) + ByteArray.size (⟨#[32, 70, 69, 84, 67, 72, 32]⟩ : ByteArray) ≤ maxLen ∧ (True ∧ (ByteArray.size (((⟨#[42, 32]⟩ : ByteArray) ++ (⟨(Lib.itoa r.2.1).toArray⟩ : ByteArray)) ++ (⟨#[32, 70, 69, 84, 67, 72, 32]⟩ : ByteArray)) + ByteArray.size (⟨(Lib.itoa r.2.2.1).toArray⟩ : ByteArray) ≤ maxLen ∧ (ByteArray.size ((((⟨#[42, 32]⟩ : ByteArray) ++ (⟨(Lib.itoa r.2.1).toArray⟩ : ByteArray)) ++ (⟨#[32, 70, 69, 84, 67, 72, 32]⟩ : ByteArray)) ++ (⟨(Lib.itoa r.2.2.1).toArray⟩ : ByteArray)) + ByteArray.size (⟨#[32, 40]⟩ : ByteArray) ≤ maxLen ∧ (T2 ((True ∧ true = true) ∧ (ByteArray.size (((((⟨#[42, 32]⟩ : ByteArray) ++ (⟨(Lib.itoa r.2.1).toArray⟩ : ByteArray)) ++ (⟨#[32, 70, 69, 84, 67, 72, 32]⟩ : ByteArray)) ++ (⟨(Lib.itoa r.2.2.1).toArray⟩ : ByteArray)) ++ (⟨#[32, 40]⟩ : ByteArray)) + ByteArray.size (flagT r.2.2.2.1) ≤ maxLen ∧ (ByteArray.size ((((((⟨#[42, 32]⟩ : ByteArray) ++ (⟨(Lib.itoa r.2.1).toArray⟩ : ByteArray)) ++ (⟨#[32, 70, 69, 84, 67, 72, 32]⟩ : ByteArray)) ++ (⟨(Lib.itoa r.2.2.1).toArray⟩ : ByteArray)) ++ (⟨#[32, 40]⟩ : ByteArray)) ++ (flagT r.2.2.2.1)) + ByteArray.size (⟨#[41]⟩ : ByteArray) ≤ maxLen ∧ (True ∧ (rS (((((((⟨#[42, 32]⟩ : ByteArray) ++ (⟨(Lib.itoa r.2.1).toArray⟩ : ByteArray)) ++ (⟨#[32, 70, 69, 84, 67, 72, 32]⟩ : ByteArray)) ++ (⟨(Lib.itoa r.2.2.1).toArray⟩ : ByteArray)) ++ (⟨#[32, 40]⟩ : ByteArray)) ++ (flagT r.2.2.2.1)) ++ (⟨#[41]⟩ : ByteArray)) (replyT r))))))))))))) else (T2 (bif (eqI r.1 4) then (True ∧ (ByteArray.size (⟨#[42, 32]⟩ : ByteArray) + ByteArray.size (⟨(Lib.itoa r.2.1).toArray⟩ : ByteArray) ≤ maxLen ∧ (ByteArray.size ((⟨#[42, 32]⟩ : ByteArray) ++ (⟨(Lib.itoa r.2.1).toArray⟩ : ByteArray)) + ByteArray.size (⟨#[32, 66, 79, 68, 89, 32]⟩ : ByteArray) ≤ maxLen ∧ (T2 ((ByteArray.size r.2.2.2.2.2 ≤ 1048576 ∧ true = true) ∧ (ByteArray.size (((⟨#[42, 32]⟩ : ByteArray) ++ (⟨(Lib.itoa r.2.1).toArray⟩ : ByteArray)) ++ (⟨#[32, 66, 79, 68, 89, 32]⟩ : ByteArray)) + ByteArray.size (hdT r.2.2.2.2.2) ≤ maxLen ∧ (True ∧ (rS ((((⟨#[42, 32]⟩ : ByteArray) ++ (⟨(Lib.itoa r.2.1).toArray⟩ : ByteArray)) ++ (⟨#[32, 66, 79, 68, 89, 32]⟩ : ByteArray)) ++ (hdT r.2.2.2.2.2)) (replyT r))))))))) else (T2 (bif (eqI r.1 5) then (T2 (ByteArray.size (⟨#[42, 32, 83, 84, 65, 84, 85, 83, 32]⟩ : ByteArray) + ByteArray.size r.2.2.2.2.1 ≤ maxLen ∧ (ByteArray.size ((⟨#[42, 32, 83, 84, 65, 84, 85, 83, 32]⟩ : ByteArray) ++ r.2.2.2.2.1) + ByteArray.size (⟨#[32]⟩ : ByteArray) ≤ maxLen ∧ (True ∧ (ByteArray.size (((⟨#[42, 32, 83, 84, 65, 84, 85, 83, 32]⟩ : ByteArray) ++ r.2.2.2.2.1) ++ (⟨#[32]⟩ : ByteArray)) + ByteArray.size (⟨(Lib.itoa r.2.1).toArray⟩ : ByteArray) ≤ maxLen ∧ (ByteArray.size ((((⟨#[42, 32, 83, 84, 65, 84, 85, 83, 32]⟩ : ByteArray) ++ r.2.2.2.2.1) ++ (⟨#[32]⟩ : ByteArray)) ++ (⟨(Lib.itoa r.2.1).toArray⟩ : ByteArray)) + ByteArray.size (⟨#[32]⟩ : ByteArray) ≤ maxLen ∧ (True ∧ (ByteArray.size (((((⟨#[42, 32, 83, 84, 65, 84, 85, 83, 32]⟩ : ByteArray) ++ r.2.2.2.2.1) ++ (⟨#[32]⟩ : ByteArray)) ++ (⟨(Lib.itoa r.2.1).toArray⟩ : ByteArray)) ++ (⟨#[32]⟩ : ByteArray)) + ByteArray.size (⟨(Lib.itoa r.2.2.1).toArray⟩ : ByteArray) ≤ maxLen ∧ (True ∧ (rS ((((((⟨#[42, 32, 83, 84, 65, 84, 85, 83, 32]⟩ : ByteArray) ++ r.2.2.2.2.1) ++ (⟨#[32]⟩ : ByteArray)) ++ (⟨(Lib.itoa r.2.1).toArray⟩ : ByteArray)) ++ (⟨#[32]⟩ : ByteArray)) ++ (⟨(Lib.itoa r.2.2.1).toArray⟩ : ByteArray)) (replyT r))))))))))) else (T2 (bif (eqI r.1 6) then (T2 (ByteArray.size (⟨#[42, 32, 76, 73, 83, 84, 32]⟩ : ByteArray) + ByteArray.size r.2.2.2.2.1 ≤ maxLen ∧ (True ∧ (rS ((⟨#[42, 32, 76, 73, 83, 84, 32]⟩ : ByteArray) ++ r.2.2.2.2.1) (replyT r))))) else (T2 (bif (eqI r.1 7) then (T2 (ByteArray.size (⟨#[42, 32, 71, 79, 78, 69, 32]⟩ : ByteArray) + ByteArray.size r.2.2.2.2.1 ≤ maxLen ∧ (True ∧ (rS ((⟨#[42, 32, 71, 79, 78, 69, 32]⟩ : ByteArray) ++ r.2.2.2.2.1) (replyT r))))) else (T2 (bif (eqI r.1 8) then (T2 (ByteArray.size (⟨#[42, 32, 83, 69, 76, 69, 67, 84, 69, 68, 32]⟩ : ByteArray) + ByteArray.size r.2.2.2.2.1 ≤ maxLen ∧ (ByteArray.size ((⟨#[42, 32, 83, 69, 76, 69, 67, 84, 69, 68, 32]⟩ : ByteArray) ++ r.2.2.2.2.1) + ByteArray.size (⟨#[32]⟩ : ByteArray) ≤ maxLen ∧ (True ∧ (ByteArray.size (((⟨#[42, 32, 83, 69, 76, 69, 67, 84, 69, 68, 32]⟩ : ByteArray) ++ r.2.2.2.2.1) ++ (⟨#[32]⟩ : ByteArray)) + ByteArray.size (⟨(Lib.itoa r.2.1).toArray⟩ : ByteArray) ≤ maxLen ∧ (True ∧ (rS ((((⟨#[42, 32, 83, 69, 76, 69, 67, 84, 69, 68, 32]⟩ : ByteArray) ++ r.2.2.2.2.1) ++ (⟨#[32]⟩ : ByteArray)) ++ (⟨(Lib.itoa r.2.1).toArray⟩ : ByteArray)) (replyT r)))))))) else (T2 (bif (eqI r.1 9) then (True ∧ (rS (⟨#[42, 32, 67, 76, 79, 83, 69, 68]⟩ : ByteArray) (replyT r))) else (T2 (bif (eqI r.1 10) then (True ∧ (rS (⟨#[42, 32, 79, 86, 69, 82, 70, 76, 79, 87]⟩ : ByteArray) (replyT r))) else (T2 (bif (eqI r.1 11) then (True ∧ (rS (⟨#[42, 32, 66, 89, 69]⟩ : ByteArray) (replyT r))) else (T2 (bif (eqI r.1 12) then (T2 (ByteArray.size r.2.2.2.2.1 + ByteArray.size (⟨#[32, 79, 75]⟩ : ByteArray) ≤ maxLen ∧ (True ∧ (rS (r.2.2.2.2.1 ++ (⟨#[32, 79, 75]⟩ : ByteArray)) (replyT r))))) else (T2 (bif (eqI r.1 13) then (T2 (ByteArray.size r.2.2.2.2.1 + ByteArray.size (⟨#[32, 78, 79]⟩ : ByteArray) ≤ maxLen ∧ (True ∧ (rS (r.2.2.2.2.1 ++ (⟨#[32, 78, 79]⟩ : ByteArray)) (replyT r))))) else (T2 (bif (eqI r.1 14) then (T2 (ByteArray.size r.2.2.2.2.1 + ByteArray.size (⟨#[32, 66, 65, 68]⟩ : ByteArray) ≤ maxLen ∧ (True ∧ (rS (r.2.2.2.2.1 ++ (⟨#[32, 66, 65, 68]⟩ : ByteArray)) (replyT r))))) else (T2 (bif (eqI r.1 15) then (True ∧ (rS (⟨#[43, 32, 105, 100, 108, 101]⟩ : ByteArray) (replyT r))) else (True ∧ (rS (⟨#[42, 32, 72, 69, 76, 76, 79]⟩ : ByteArray) (replyT r)))))))))))))))))))))))))))))))))))))))))) (by kernel_rfl) ?_
  unfold T2 T3 T4 T6
  have dh : (hdT r.2.2.2.2.2).size ≤ 2 * r.2.2.2.2.2.size + 1 := hdT_size _
  cases ho : replyOk r with
  | false =>
    simp only [Bool.not_false, cond_true, SIU, eq_self]
    repeat' (with_reducible first | exact trivial | apply And.intro | apply bifI | intro _)
    all_goals first
      | (with_reducible rfl)
      | (exfalso; contradiction)
      | (simp only [replyT, ho, Bool.not_false, cond_true]; done)
  | true =>
    obtain ⟨hn, hu, hm, ht⟩ := rok_facts ho
    have d1 := itoa_len (n := r.2.1) (by omega)
    have d2 := itoa_len (n := r.2.2.1) (by omega)
    have d3 := flagT_size r.2.2.2.1
    have d4 := hexS_size r.2.2.2.2.2
    have d5 := wordT_size r.1
    simp only [Bool.not_true, cond_false, SIU, eq_self]
    repeat' (with_reducible first | exact trivial | apply And.intro | apply bifI | intro _)
    all_goals first
      | (with_reducible rfl)
      | exact hn.1
      | exact hu.1
      | omega
      | ((try simp only [ByteArray.size_append, szL, List.size_toArray, List.length_cons, List.length_nil]); unfold maxLen; omega)
      | (simp only [replyT, hdT, ho, Bool.not_true, cond_true, cond_false, *]; done)
      | (rw [body_eq]; simp only [replyT, ho, Bool.not_true, cond_true, cond_false, *]; done)
      | (rename_i h; have e := eqI_true.1 h; obtain ⟨k, n, u, f, nm, tx⟩ := r; simp only at e; subst e; simp only [replyT, ho, Bool.not_true, cond_false]; rfl)
      | (have e : r.1 = 16 := (by have b := rok_k ho; simp only [eqI_false] at *; omega)
         obtain ⟨k, n, u, f, nm, tx⟩ := r
         simp only at e
         subst e
         simp only [replyT, ho, Bool.not_true, cond_false]
         rfl)
end Go.Proofs.YtoigkpkafgjeaaaGreatDoor
set_option linter.unusedSimpArgs false
set_option linter.unusedVariables false
set_option maxRecDepth 100000
set_option maxHeartbeats 4000000
namespace Go.Proofs.YtoigkpkafgjeaaaGreatDoor
open Go.ChangeShapes Go.WideShapes Go.ChangeAt Go.RowKit Go.Joins Go.Deep
open GoRep (rep bulk)

theorem cond_size {c : Bool} {a b : ByteArray} {n : Nat} (h1 : a.size ≤ n) (h2 : b.size ≤ n) : (bif c then a else b).size ≤ n := by cases c <;> assumption
theorem replyT_size (r : GReply) : (replyT r).size ≤ 2200 := by
  unfold replyT
  cases ho : replyOk r with
  | false => exact Nat.zero_le _
  | true =>
    obtain ⟨hn, hu, hm, ht⟩ := rok_facts ho
    have d1 := itoa_len (n := r.2.1) (by omega)
    have d2 := itoa_len (n := r.2.2.1) (by omega)
    have d3 := flagT_size r.2.2.2.1
    have d4 := hexS_size r.2.2.2.2.2
    have d5 := wordT_size r.1
    simp only [Bool.not_true, cond_false]
    repeat' (with_reducible refine cond_size ?_ ?_)
    all_goals ((try simp only [ByteArray.size_append, szL, List.size_toArray, List.length_cons, List.length_nil]); omega)
def linesN (l : List GReply) : Nat → List Int
  | 0 => []
  | k + 1 => linesN l k ++ byteL (replyT (nth_Commit l k)) ++ [13, 10]
def linesT (l : List GReply) : ByteArray := bytesOf (linesN l l.length)
theorem linesN_len (l : List GReply) : ∀ k, (linesN l k).length ≤ 2202 * k
  | 0 => Nat.le_refl _
  | k + 1 => by
    have := linesN_len l k
    have h := replyT_size (nth_Commit l k)
    unfold linesN
    simp only [List.length_append, byteL_len, List.length_cons, List.length_nil]
    omega
def rightR (l : List GReply) : Bool := !List.any l (fun z => !replyOk z)
theorem right_no {l : List GReply} {k : Nat} (hk : k < l.length) (h : replyOk (nth_Commit l k) = false) : rightR l = false := by
  have e : List.any l (fun z : GReply => !replyOk z) = true := any_at_nth (t := tyCommit) (p := fun z : GReply => !replyOk z) hk (by show (!replyOk (nth_Commit l k)) = true; rw [h]; rfl)
  unfold rightR
  simp only [e, Bool.not_true]
theorem right_yes {l : List GReply} (h : ∀ j, j < l.length → replyOk (nth_Commit l j) = true) : rightR l = true := by
  have e : List.any l (fun z : GReply => !replyOk z) = false := any_of_nth (t := tyCommit) (p := fun z : GReply => !replyOk z) (fun j hj => by show (!replyOk (nth_Commit l j)) = false; rw [h j hj]; rfl)
  unfold rightR
  simp only [e, Bool.not_false]
def fitO (o : GOut) (l : List GReply) : Bool := outOk o && (rightR l && leI ((ByteArray.size o.1 + ByteArray.size (linesT l) : Nat) : Int) 1200)
def L_s_LinesText (l : List GCommit) : Nat → List AV → Mem → LoopA
  | 3, tm, M => ⟨Nat, fun y => (anyR (setA tm [(3, .c (.row 0 0)), (4, .c (.int .i64 ((y : Nat) : Int)))]) 5 17, setM M [(0, .row (.int .u8) (linesN l y) 0 0 none)]), fun y => (y ≤ List.length l), fun y => (List.length l - y)⟩
  | _, _, _ => ⟨Unit, fun _ => ([], []), fun _ => False, fun _ => 0⟩
theorem b_s_LinesText (l : List GCommit) (hpre : List.length l ≤ 1048576) : BCalls Tryz.prog 12 [.c (.hs .no tyCommit l)] (.c (.str (linesT l))) [] := by
  refine bc0 [e_s_ReplyText] [] [] [] (L_s_LinesText l) Tryz.func12 (fun hwf => ?_)
  refine Eq.mpr (β := (T4 ((∃ q : Nat, (q ≤ List.length l) ∧ ((lxs [.c (.hs .no tyCommit l), .tp [], .c (.str (⟨#[]⟩ : ByteArray)), .c (.row 0 0)] (leV (.c (.int .i64 0)) (.c (.int .i64 ((q : Nat) : Int))) ∧ TN 17 (lxs [.tp [], .tp []] True))) ∧ (leB (.row (.int .u8) ([] : List Int) 0 0 none) (.row (.int .u8) (linesN l q) 0 0 none) ∧ True) ∧ true = true)) ∧ ∀ y0 : Nat, (y0 ≤ List.length l) → (T4 (bif (ltI ((y0 : Nat) : Int) ((List.length l : Nat) : Int)) then (T3 (((6 : Nat) = 6 ∧ (0 : Int) ≤ ((y0 : Nat) : Int) ∧ (((y0 : Nat) : Int) : Int) < ((List.length l : Nat) : Int)) ∧ (True ∧ ((True ∧ true = true) ∧ (List.length (linesN l y0) + List.length (byteL (replyT (nth_Commit l (Int.toNat ((y0 : Nat) : Int))))) ≤ rowMax ∧ (T3 ((True ∧ List.length ((linesN l y0) ++ (byteL (replyT (nth_Commit l (Int.toNat ((y0 : Nat) : Int)))))) + List.length ([13, 10] : List Int) ≤ rowMax) ∧ (T4 (∃ y0' : Nat, (y0' ≤ List.length l) ∧ (List.length l - y0') < (List.length l - y0) ∧ ((lxs [.c (.hs .no tyCommit l), .tp [], .c (.str (⟨#[]⟩ : ByteArray)), .c (.row 0 0)] (leV (.c (.int .i64 (IntKind.wrap .i64 (((y0 : Nat) : Int) + 1)))) (.c (.int .i64 ((y0' : Nat) : Int))) ∧ TN 17 (lxs [.tp [], .tp []] True))) ∧ (leB (.row (.int .u8) (((linesN l y0) ++ (byteL (replyT (nth_Commit l (Int.toNat ((y0 : Nat) : Int)))))) ++ ([13, 10] : List Int)) 0 0 none) (.row (.int .u8) (linesN l y0') 0 0 none) ∧ True) ∧ true = true)))))))))) else (True ∧ (List.length (linesN l y0) ≤ maxLen ∧ (True ∧ (rS (bytesOf (linesN l y0)) (linesT l)))))))))) (by kernel_rfl) ?_
  unfold T3 T4
  have hp : List.length l ≤ 1048576 := hpre
  simp only [leB_rowU8, btw_iff, btw_not, flagsOk, Bool.not_true, Bool.not_false, SI2A, eq_self]
  refine ⟨⟨0, Nat.zero_le _, rfl, rfl⟩, fun y hy => ?_⟩
  have hl := linesN_len l y
  have hr := replyT_size (nth_Commit l y)
  repeat' (with_reducible first | exact trivial | apply And.intro | intro _)
  all_goals first
    | (with_reducible trivial)
    | omega
    | (with_reducible assumption)
    | ((try simp only [List.length_append, List.length_cons, List.length_nil, byteL_len]); (first | unfold rowMax | unfold maxLen); omega)
    | exact ⟨y + 1, by omega, by omega, wrapN (by unfold maxLen; omega), rfl⟩
    | (obtain rfl : y = List.length l := by omega
       rfl)
def e_s_LinesText : Entry Tryz.prog := ⟨12, [.v (.list tyCommit)], fun x => List.length x.1 ≤ 1048576, fun x => .c (.str (linesT x.1)), fun _ => [], fun x hx => b_s_LinesText x.1 hx, Tryz.call12⟩
def L_s_l17Right (l : List GCommit) : Nat → List AV → Mem → LoopA
  | 2, tm, M => ⟨Nat, fun y => (anyR (setA tm [(2, .any), (3, .c (.int .i64 ((y : Nat) : Int)))]) 4 12, M), fun y => (y ≤ List.length l ∧ ∀ j, j < y → replyOk (nth_Commit l j) = true), fun y => (List.length l - y)⟩
  | _, _, _ => ⟨Unit, fun _ => ([], []), fun _ => False, fun _ => 0⟩
theorem b_s_l17Right (l : List GCommit) : BCalls Tryz.prog 30 [.c (.hs .no tyCommit l)] (.c (.bool (rightR l))) [] := by
  refine bc0 [e_s_ReplyOk] [] [] [] (L_s_l17Right l) Tryz.func30 (fun hwf => ?_)
  refine Eq.mpr (β := (T2 ((∃ q : Nat, (q ≤ List.length l ∧ ∀ j, j < q → replyOk (nth_Commit l j) = true) ∧ ((lxs [.c (.hs .no tyCommit l), .tp []] (True ∧ leV (.c (.int .i64 0)) (.c (.int .i64 ((q : Nat) : Int))) ∧ TN 12 True)) ∧ (True) ∧ true = true)) ∧ ∀ y0 : Nat, (y0 ≤ List.length l ∧ ∀ j, j < y0 → replyOk (nth_Commit l j) = true) → (T4 (bif (ltI ((y0 : Nat) : Int) ((List.length l : Nat) : Int)) then (T2 (((6 : Nat) = 6 ∧ (0 : Int) ≤ ((y0 : Nat) : Int) ∧ (((y0 : Nat) : Int) : Int) < ((List.length l : Nat) : Int)) ∧ (True ∧ ((True ∧ true = true) ∧ (True ∧ (bif (!(replyOk (nth_Commit l (Int.toNat ((y0 : Nat) : Int))))) then (True ∧ (rB false (rightR l))) else (T3 (∃ y0' : Nat, (y0' ≤ List.length l ∧ ∀ j, j < y0' → replyOk (nth_Commit l j) = true) ∧ (List.length l - y0') < (List.length l - y0) ∧ ((lxs [.c (.hs .no tyCommit l), .tp []] (True ∧ leV (.c (.int .i64 (IntKind.wrap .i64 (((y0 : Nat) : Int) + 1)))) (.c (.int .i64 ((y0' : Nat) : Int))) ∧ TN 12 True)) ∧ (True) ∧ true = true))))))))) else (True ∧ (rB true (rightR l)))))))) (by kernel_rfl) ?_
  unfold T2 T3 T4
  have hm : List.length l ≤ maxLen := hwf.1.1
  simp only [SI2A, eq_self]
  refine ⟨⟨0, ⟨Nat.zero_le _, allN_zero⟩, rfl⟩, fun y hy => ?_⟩
  repeat' (with_reducible first | exact trivial | apply And.intro | intro _)
  all_goals first
    | (with_reducible trivial)
    | omega
    | (with_reducible assumption)
    | (rename_i h1 h2; exact (right_no (Int.ofNat_lt.1 h1) h2).symm)
    | (rename_i h1 h2; exact ⟨y + 1, ⟨by omega, allN_step hy.2 h2⟩, by omega, wrapN (by omega)⟩)
    | (rename_i hge; obtain rfl : y = List.length l := by omega
       exact (right_yes hy.2).symm)
def e_s_l17Right : Entry Tryz.prog := ⟨30, [.v (.list tyCommit)], fun x => True, fun x => .c (.bool (rightR x.1)), fun _ => [], fun x hx => b_s_l17Right x.1, Tryz.call30⟩
end Go.Proofs.YtoigkpkafgjeaaaGreatDoor
set_option linter.unusedSimpArgs false
set_option linter.unusedVariables false
set_option maxRecDepth 100000
namespace Go.Proofs.YtoigkpkafgjeaaaGreatDoor
open Go.ChangeShapes Go.WideShapes Go.ChangeAt Go.RowKit Go.Joins Go.Deep
open GoRep (rep)
theorem builderB {T e : TypeId} {B b : Nat} {bs : List Value} {W W' : World} (h : Lib.IsBuilderF T e B b bs W) (hb : Below W.heap.size W W') : Lib.IsBuilderF T e B b bs W' := by
  have key : ∀ p, Lib.BuilderAtF T e B b p bs W → Lib.BuilderAtF T e B b p bs W' := fun p h => by
    have hlt := h.lt
    obtain ⟨hB, v, hv, hown, hne⟩ := h
    exact ⟨hB, v, (hb.block b hlt).trans hv, hown.kept (row := none) ⟨hb.os, hb.tape, hb.output, hb.size, fun k hk _ => hb.block k hk⟩ (Classical.em _), hne⟩
  exact h.elim (fun x => .inl (key _ x)) (fun x => .inr (key _ x))
theorem byteL_back (s : ByteArray) : (byteL s).map (fun n => UInt8.ofNat n.toNat) = s.data.toList := by
  unfold byteL
  rw [List.map_map]
  conv => rhs; rw [← List.map_id s.data.toList]
  refine List.map_congr_left fun b _ => ?_
  show UInt8.ofNat b.toNat = b
  exact UInt8.ofNat_toNat
def lnB (l : List GReply) (k : Nat) : List UInt8 := (linesN l k).map fun n => UInt8.ofNat n.toNat
theorem bld_write (B b : Nat) (bs : List Value) (s : ByteArray) (w : World) (h : Lib.IsBuilderF 50 5 B b bs w) (hlen : bs.length + s.size ≤ 140737488355328) (hBw : B ≤ w.heap.size) :
    Calls Tryz.prog 26 #[.pointer (some ⟨b, 0, none⟩), .string s] w fun e w' => e = .returned (.tuple #[.int .i64 s.size, .nilIface]) ∧ Lib.IsBuilderF 50 5 B b (bs ++ Lib.strCells s) w' ∧ Below B w w' :=
  (Any.Builder_WriteString_k lay_join_166 joinExtra B b bs s w h hlen hBw).mono fun e w' h => ⟨h.1, .inr h.2.1, h.2.2.1⟩
theorem bld_string (B b : Nat) (l : List UInt8) (w : World) (h : Lib.IsBuilderF 50 5 B b (Lib.byteCells l) w) (hBw : B ≤ w.heap.size) :
    Calls Tryz.prog 28 #[.pointer (some ⟨b, 0, none⟩)] w fun e w' => e = .returned (.string ⟨l.toArray⟩) ∧ Below B w w' :=
  (Any.Builder_String_any_k lay_join_169 joinExtra B b l w h hBw).mono fun e w' h => ⟨h.1, h.2.2.1⟩
theorem lnB_succ (l : List GReply) (k : Nat) : Lib.byteCells (lnB l k) ++ Lib.strCells (replyT (nth_Commit l k) ++ (⟨#[13, 10]⟩ : ByteArray)) = Lib.byteCells (lnB l (k + 1)) := by
  rw [Lib.strCells_eq, ← Lib.byteCells_append]
  congr 1
  show lnB l k ++ _ = (linesN l k ++ byteL (replyT (nth_Commit l k)) ++ [13, 10]).map _
  rw [List.map_append, List.map_append, byteL_back, ByteArray.data_append, Array.toList_append, List.append_assoc]
  rfl
set_option maxHeartbeats 4000000 in
theorem linesI_walk (l : List GReply) (A : Option Addr) (c : Nat) (w : World) (hgl : Glob w []) (hp : l.length ≤ 1048576)
    (hcell : ∀ (k : Nat), k < l.length → ∃ b o, A = some ⟨b, o, none⟩ ∧ b < w.heap.size ∧ CellsAt w b (o + k * 6) [.int .i64 (nth_Commit l k).1, .int .i64 (nth_Commit l k).2.1, .int .i64 (nth_Commit l k).2.2.1, .int .i64 (nth_Commit l k).2.2.2.1, .string (nth_Commit l k).2.2.2.2.1, .string (nth_Commit l k).2.2.2.2.2] ∧
      (Lit.int .i64 (nth_Commit l k).1).wf = true ∧ (Lit.int .i64 (nth_Commit l k).2.1).wf = true ∧ (Lit.int .i64 (nth_Commit l k).2.2.1).wf = true ∧ (Lit.int .i64 (nth_Commit l k).2.2.2.1).wf = true ∧ (nth_Commit l k).2.2.2.2.1.size ≤ maxLen ∧ (nth_Commit l k).2.2.2.2.2.size ≤ maxLen) :
    Calls Tryz.prog 14 #[.slice A l.length c] w fun e w' => e = .returned (.string (linesT l)) ∧ Below w.heap.size w w' := by
  have hi := Lib.fresh_isBuilder 50 5 w
  go_enter Tryz.func14, Tryz.ntmps14
  go_wp2_with fail
  go_loopw [9] (fun i wr => ∃ k : Nat, k ≤ l.length ∧ i = .int .i64 k ∧ Lib.IsBuilderF 50 5 w.heap.size w.heap.size (Lib.byteCells (lnB l k)) wr ∧ Below w.heap.size w wr) (fun i _ => l.length - (intOf i).toNat)
  case atStart => exact ⟨0, Nat.zero_le _, rfl, Lib.IsBuilderF.of hi, (Below.refl _ w).alloc (Nat.le_refl _) _⟩
  case round =>
    obtain ⟨k, hk, rfl, hI, hb⟩ := hrel
    by_cases hlt : k < l.length
    · obtain ⟨b, o, rfl, hbw, hc, q1, q2, q3, q4, q5, q6⟩ := hcell k hlt
      have kc : ∀ j u, ([.int .i64 (nth_Commit l k).1, .int .i64 (nth_Commit l k).2.1, .int .i64 (nth_Commit l k).2.2.1, .int .i64 (nth_Commit l k).2.2.2.1, .string (nth_Commit l k).2.2.2.2.1, .string (nth_Commit l k).2.2.2.2.2] : List Value)[j]? = some u → wr.cell? ⟨b, o + k * 6 + j, none⟩ = some u := fun j u h => ((bcell hb).1 b _ hbw).trans (hc j u h).1
      have c0 := kc 0 _ rfl
      have c1 := kc 1 _ rfl
      have c2 := kc 2 _ rfl
      have c3 := kc 3 _ rfl
      have c4 := kc 4 _ rfl
      have c5 := kc 5 _ rfl
      clear kc hc
      rw [Nat.add_zero] at c0
      go_wp2_with fail
      obtain ⟨W1, hW1⟩ : ∃ W1, W1 = wr.alloc (.cells #[.int .i64 (nth_Commit l k).1, .int .i64 (nth_Commit l k).2.1, .int .i64 (nth_Commit l k).2.2.1, .int .i64 (nth_Commit l k).2.2.2.1, .string (nth_Commit l k).2.2.2.2.1, .string (nth_Commit l k).2.2.2.2.2] 39) := ⟨_, rfl⟩
      have b1 : Below wr.heap.size wr W1 := by rw [hW1]; exact (Below.refl _ wr).alloc (Nat.le_refl _) _
      have hI1 : Lib.IsBuilderF 50 5 w.heap.size w.heap.size (Lib.byteCells (lnB l k)) W1 := by rw [hW1]; exact hI.alloc _
      rw [← hW1]
      have hg1 : Glob W1 [] := (hgl.grow (Grow.of_below hb)).grow (Grow.of_below b1)
      refine (b_i_ReplyText (nth_Commit l k) [] W1 [_] (fun b hb => by cases hb) hg1 ⟨_, _, rfl, ⟨_, rfl, _, _, rfl, ⟨rfl, q1⟩, _, _, rfl, ⟨rfl, q2⟩, _, _, rfl, ⟨rfl, q3⟩, _, _, rfl, ⟨rfl, q4⟩, _, _, rfl, ⟨rfl, q5⟩, _, _, rfl, ⟨rfl, q6⟩, rfl⟩, rfl⟩).mono fun e W2 h => ?_
      obtain ⟨v2, E2, rfl, g2, m2, rv2⟩ := h
      have b2 : Below W1.heap.size W1 W2 := ⟨g2.os, g2.tape, g2.output, g2.size, fun b hb => g2.keep b hb (by simp [foots])⟩
      have hI2 := builderB hI1 b2
      obtain ⟨rfl, hz⟩ := rv2
      have hr := replyT_size (nth_Commit l k)
      have hn := linesN_len l k
      have s1 : w.heap.size ≤ wr.heap.size := hb.size
      have s2 : wr.heap.size ≤ W1.heap.size := b1.size
      have s3 : W1.heap.size ≤ W2.heap.size := b2.size
      have b4 : Below w.heap.size w W2 := (hb.trans (b1.mono s1)).trans (b2.mono (by omega))
      have hsz : (Lib.byteCells (lnB l k)).length + (replyT (nth_Commit l k) ++ (⟨#[13, 10]⟩ : ByteArray)).size ≤ 140737488355328 := by
        rw [Lib.byteCells_length]
        unfold lnB
        rw [List.length_map, ByteArray.size_append]
        show _ + (_ + 2) ≤ _
        omega
      have h22 : w.heap.size ≤ W2.heap.size := by omega
      have hcall := Lib.hid (bld_write w.heap.size w.heap.size _ (replyT (nth_Commit l k) ++ ⟨#[13, 10]⟩) W2 hI2 hsz h22)
      clear hI2 hI1 hI hsz
      go_wp2_with fail
      refine hcall.out.mono ?_
      rintro e W3 ⟨rfl, h3, b3⟩
      rw [lnB_succ] at h3
      go_wp2_with fail
      refine ⟨⟨k + 1, hlt, rfl, h3, b4.trans b3⟩, ?_⟩
      show l.length - ((k : Int) + 1).toNat < l.length - ((k : Int)).toNat
      omega
    · obtain rfl : k = l.length := by omega
      have hcall := Lib.hid (bld_string w.heap.size w.heap.size (lnB l l.length) wr hI hb.size)
      clear hcell hI
      go_wp2_with fail
      refine hcall.out.mono ?_
      rintro e W3 ⟨rfl, b3⟩
      go_wp2_with fail
      rw [show (⟨(lnB l l.length).toArray⟩ : ByteArray) = linesT l from rfl]
      refine ⟨rfl, .string (linesT l), ?_, And.intro rfl (hb.trans b3)⟩
      exact (by simp [results, Tryz.results14, go_sem])
theorem linesT_size {l : List GReply} (hp : l.length ≤ 1048576) : (linesT l).size ≤ maxLen := by
  have := linesN_len l l.length
  unfold linesT
  rw [bytesOf_size]
  unfold maxLen
  omega
theorem b_i_LinesText (l : List GReply) (hpre : List.length l ≤ 1048576) : BCalls Tryz.prog 14 [.c (.hs .no tyCommit l)] (.c (.str (linesT l))) [] := by
  intro X W vs hX hgl hr
  obtain ⟨v, r, rfl, hv, hn⟩ := hr
  obtain rfl : r = [] := hn
  obtain ⟨h1, F, ⟨A, c, e, hc, hm, hs⟩, hF⟩ := hv
  obtain rfl : v = _ := (List.cons.inj e).1
  refine (linesI_walk l A c W hgl hpre (fun k hk => ?_)).mono fun e W' he => ?_
  · rcases hs with ⟨rfl, _⟩ | ⟨hx, b, off, G, rfl, rfl, hR⟩
    · cases hk
    · obtain ⟨cs, Gk, r1, _, r3⟩ := hR.get k (nth_Commit l k) (nth_getElem? (t := tyCommit) hk)
      refine ⟨b, off, rfl, (hF b (by simp)).2, ?_⟩
      obtain ⟨c1, d1, F1, F2, ⟨rfl, w1, _⟩, ⟨c2, d2, F3, F4, ⟨rfl, w2, _⟩, ⟨c3, d3, F5, F6, ⟨rfl, w3, _⟩, ⟨c4, d4, F7, F8, ⟨rfl, w4, _⟩, ⟨c5, d5, F9, F10, ⟨rfl, w5, _⟩, ⟨rfl, w6, _⟩, rfl, _⟩, rfl, _⟩, rfl, _⟩, rfl, _⟩, rfl, _⟩ := r1
      exact ⟨r3, w1, w2, w3, w4, w5, w6⟩
  · obtain ⟨rfl, hb⟩ := he
    exact ⟨_, [], rfl, Grow.of_below hb, nilM (fun b hb' => Nat.lt_of_lt_of_le (hX b hb') hb.size), rfl, linesT_size hpre⟩
def e_i_LinesText : Entry Tryz.prog := ⟨14, [.v (.list tyCommit)], fun x => List.length x.1 ≤ 1048576, fun x => .c (.str (linesT x.1)), fun _ => [], fun x hx => b_i_LinesText x.1 hx, Tryz.call14⟩
end Go.Proofs.YtoigkpkafgjeaaaGreatDoor
set_option linter.unusedSimpArgs false
set_option linter.unusedVariables false
set_option maxRecDepth 100000
set_option maxHeartbeats 4000000
namespace Go.Proofs.YtoigkpkafgjeaaaGreatDoor
open Go.ChangeShapes Go.WideShapes Go.ChangeAt Go.RowKit Go.Joins Go.Deep
open GoRep (rep bulk)

def putB (o : GOut) (l : List GReply) : GOut := bif fitO o l then (o.1 ++ linesT l, o.2) else o
theorem putB_y {o : GOut} {l : List GReply} (h : fitO o l = true) : putB o l = (o.1 ++ linesT l, o.2) := by
  unfold putB
  rw [h]
  rfl
theorem putB_n {o : GOut} {l : List GReply} (h : fitO o l = false) : putB o l = o := by
  unfold putB
  rw [h]
  rfl
theorem fits_size {o : GOut} {l : List GReply} (h : fitO o l = true) : o.1.size + (linesT l).size ≤ 1200 := by
  unfold fitO at h
  rw [Bool.and_eq_true, Bool.and_eq_true] at h
  have := leI_true.1 h.2.2
  omega
theorem out_size {o : GOut} (h : outOk o = true) : o.1.size ≤ 1200 ∧ o.2.size ≤ 20000 := by
  unfold outOk at h
  rw [Bool.and_eq_true] at h
  have h1 := leI_true.1 h.1
  have h2 := leI_true.1 h.2
  exact ⟨by omega, by omega⟩
theorem b_i_FitsOut_1 (r : GCommit) : BCalls Tryz.prog 17 [.ag (cellsOf tyCommit r)] (.c (.bool (!replyOk r))) [] := by
  refine bc0 [e_i_ReplyOk] [] [] [] L0 Tryz.func17 (fun hwf => ?_)
  refine Eq.mpr (β := (True ∧ (True ∧ (True ∧ ((True ∧ true = true) ∧ (True ∧ (True ∧ (rB (!(replyOk r)) (!replyOk r))))))))) (by kernel_rfl) ?_
  simp only [SIA, eq_self]
  repeat' (first | apply And.intro | intro _)
  all_goals (first | trivial | (rw [Bool.eq_iff_iff]; simp_all [Prod.ext_iff, EQA, replyOk]; done) | (simp_all [Prod.ext_iff, EQA, replyOk]; done) | omega)
def e_i_FitsOut_1 : Entry Tryz.prog := ⟨17, [.s tyCommit], fun x => True, fun x => .c (.bool (!replyOk x.1)), fun _ => [], fun x hx => b_i_FitsOut_1 x.1, Tryz.call17⟩
theorem b_i_FitsOut (o : GOut) (l : List GCommit) (hpre : List.length l ≤ 1048576) : BCalls Tryz.prog 8 [.ag [.str o.1, .str o.2], .c (.hs .no tyCommit l)] (.c (.bool (fitO o l))) [] := by
  refine bc0 [e_i_OutOk, e_i_FitsOut_1, e_i_LinesText] [e_slices_ContainsFunc_i_Reply_i_Reply] [] [] L0 Tryz.func8 (fun hwf => ?_)
  refine Eq.mpr (β := (True ∧ (True ∧ ((true = true ∧ true = true) ∧ (True ∧ ((True ∧ true = true) ∧ (True ∧ (bif outOk o then (True ∧ (((∀ z0 : GCommit, True ∧ True) ∧ ∀ (_ : GCommit → Bool) (_ : List GCommit), true = true) ∧ (True ∧ (True ∧ (True ∧ (bif (!(List.any l (fun z0 : GCommit => !replyOk z0))) then (True ∧ (True ∧ (True ∧ (True ∧ ((List.length l ≤ 1048576 ∧ true = true) ∧ (True ∧ (True ∧ (True ∧ (True ∧ (True ∧ (rB (leI (IntKind.wrap .i64 (((ByteArray.size o.1 : Nat) : Int) + ((ByteArray.size (linesT l) : Nat) : Int))) 1200) (fitO o l)))))))))))) else (True ∧ (True ∧ (rB false (fitO o l)))))))))) else (True ∧ (True ∧ (True ∧ (True ∧ (rB false (fitO o l)))))))))))))) (by kernel_rfl) ?_
  have hz := linesT_size hpre
  have hn := linesN_len l l.length
  have hs : (linesT l).size = (linesN l l.length).length := by unfold linesT; exact bytesOf_size _
  have hl : List.length l ≤ 1048576 := hpre
  unfold fitO rightR
  simp only [SI2A, eq_self]
  repeat' (with_reducible first | exact trivial | apply And.intro | intro _)
  all_goals first
    | (with_reducible trivial)
    | omega
    | (with_reducible assumption)
    | (rename_i h1; simp only [h1, Bool.false_and]; done)
    | (rename_i h1 h2; have ho := out_size h1; rw [w64i (by omega) (by omega)]; simp only [h1, h2, Bool.true_and, Bool.not_false]; rfl)
    | (rename_i h1 h2; simp only [h1, h2, Bool.true_and, Bool.false_and, Bool.not_true]; done)
def e_i_FitsOut : Entry Tryz.prog := ⟨8, [.s tyOut, .v (.list tyCommit)], fun x => List.length x.2.1 ≤ 1048576, fun x => .c (.bool (fitO x.1 x.2.1)), fun _ => [], fun x hx => b_i_FitsOut x.1 x.2.1 hx, Tryz.call8⟩
theorem b_s_FitsOut (o : GOut) (l : List GCommit) (hpre : List.length l ≤ 1048576) : BCalls Tryz.prog 15 [.ag [.str o.1, .str o.2], .c (.hs .no tyCommit l)] (.c (.bool (fitO o l))) [] := by
  refine bc0 [e_s_OutOk, e_s_l17Right, e_s_LinesText] [] [] [] L0 Tryz.func15 (fun hwf => ?_)
  refine Eq.mpr (β := (True ∧ (True ∧ ((true = true ∧ true = true) ∧ (True ∧ ((True ∧ true = true) ∧ (True ∧ (bif outOk o then (True ∧ ((True ∧ true = true) ∧ (True ∧ (True ∧ (bif rightR l then (True ∧ (True ∧ (True ∧ (True ∧ ((List.length l ≤ 1048576 ∧ true = true) ∧ (True ∧ (True ∧ (True ∧ (True ∧ (True ∧ (rB (leI (IntKind.wrap .i64 (((ByteArray.size o.1 : Nat) : Int) + ((ByteArray.size (linesT l) : Nat) : Int))) 1200) (fitO o l)))))))))))) else (True ∧ (True ∧ (rB false (fitO o l))))))))) else (True ∧ (True ∧ (True ∧ (True ∧ (rB false (fitO o l)))))))))))))) (by kernel_rfl) ?_
  have hz := linesT_size hpre
  have hn := linesN_len l l.length
  have hs : (linesT l).size = (linesN l l.length).length := by unfold linesT; exact bytesOf_size _
  have hl : List.length l ≤ 1048576 := hpre
  unfold fitO rightR
  simp only [SI2A, eq_self]
  repeat' (with_reducible first | exact trivial | apply And.intro | intro _)
  all_goals first
    | (with_reducible trivial)
    | omega
    | (with_reducible assumption)
    | (rename_i h1; simp only [h1, Bool.false_and]; done)
    | (rename_i h1 h2; have ho := out_size h1; rw [w64i (by omega) (by omega)]; simp only [h1, h2, Bool.true_and, Bool.not_false]; rfl)
    | (rename_i h1 h2; simp only [h1, h2, Bool.true_and, Bool.false_and, Bool.not_true]; done)
def e_s_FitsOut : Entry Tryz.prog := ⟨15, [.s tyOut, .v (.list tyCommit)], fun x => List.length x.2.1 ≤ 1048576, fun x => .c (.bool (fitO x.1 x.2.1)), fun _ => [], fun x hx => b_s_FitsOut x.1 x.2.1 hx, Tryz.call15⟩
theorem b_i_PutOut (o : GOut) (l : List GCommit) (hpre : List.length l ≤ 1048576) : BCalls Tryz.prog 6 [.ag [.str o.1, .str o.2], .c (.hs .no tyCommit l)] (.tp [.ag [.str (putB o l).1, .str (putB o l).2], .c (.bool (fitO o l))]) [] := by
  refine bc0 [e_i_FitsOut, e_i_LinesText] [] [] [] L0 Tryz.func6 (fun hwf => ?_)
  refine Eq.mpr (β := (T5 ((List.length l ≤ 1048576 ∧ true = true) ∧ (True ∧ (bif (!(fitO o l)) then (T3 ((((((true = true ∧ leC (.str o.1) (.str (putB o l).1)) ∧ (true = true ∧ leC (.str o.2) (.str (putB o l).2)) ∧ True)) ∧ (true = true ∧ leC (.bool false) (.bool (fitO o l))) ∧ True)) ∧ true = true)) else ((true = true ∧ true = true) ∧ (T5 ((List.length l ≤ 1048576 ∧ true = true) ∧ (ByteArray.size o.1 + ByteArray.size (linesT l) ≤ maxLen ∧ (T3 ((((((true = true ∧ leC (.str (o.1 ++ (linesT l))) (.str (putB o l).1)) ∧ (true = true ∧ leC (.str o.2) (.str (putB o l).2)) ∧ True)) ∧ (true = true ∧ leC (.bool true) (.bool (fitO o l))) ∧ True)) ∧ true = true))))))))))) (by kernel_rfl) ?_
  unfold T3 T5
  have hl : List.length l ≤ 1048576 := hpre
  cases hf : fitO o l with
  | true =>
    have hs := fits_size hf
    rw [putB_y hf]
    simp only [hf, Bool.not_true, Bool.not_false, cond_true, cond_false]
    simp only [SI2A, eq_self]
    repeat' (with_reducible first | exact trivial | apply And.intro | intro _)
    all_goals first
      | (with_reducible trivial)
      | omega
      | (with_reducible assumption)
      | (unfold maxLen; omega)
  | false =>
    rw [putB_n hf]
    simp only [hf, Bool.not_true, Bool.not_false, cond_true, cond_false]
    simp only [SI2A, eq_self]
    repeat' (with_reducible first | exact trivial | apply And.intro | intro _)
    all_goals first
      | (with_reducible trivial)
      | omega
      | (with_reducible assumption)
def e_i_PutOut : Entry Tryz.prog := ⟨6, [.s tyOut, .v (.list tyCommit)], fun x => List.length x.2.1 ≤ 1048576, fun x => .tp [.ag [.str (putB x.1 x.2.1).1, .str (putB x.1 x.2.1).2], .c (.bool (fitO x.1 x.2.1))], fun _ => [], fun x hx => b_i_PutOut x.1 x.2.1 hx, Tryz.call6⟩
theorem b_s_PutOut (o : GOut) (l : List GCommit) (hpre : List.length l ≤ 1048576) : BCalls Tryz.prog 7 [.ag [.str o.1, .str o.2], .c (.hs .no tyCommit l)] (.tp [.ag [.str (putB o l).1, .str (putB o l).2], .c (.bool (fitO o l))]) [] := by
  refine bc0 [e_s_FitsOut, e_s_LinesText] [] [] [] L0 Tryz.func7 (fun hwf => ?_)
  refine Eq.mpr (β := (T5 ((List.length l ≤ 1048576 ∧ true = true) ∧ (True ∧ (bif (!(fitO o l)) then (T3 ((((((true = true ∧ leC (.str o.1) (.str (putB o l).1)) ∧ (true = true ∧ leC (.str o.2) (.str (putB o l).2)) ∧ True)) ∧ (true = true ∧ leC (.bool false) (.bool (fitO o l))) ∧ True)) ∧ true = true)) else ((true = true ∧ true = true) ∧ (T3 ((List.length l ≤ 1048576 ∧ true = true) ∧ (ByteArray.size o.1 + ByteArray.size (linesT l) ≤ maxLen ∧ (T5 ((((((true = true ∧ leC (.str (o.1 ++ (linesT l))) (.str (putB o l).1)) ∧ (true = true ∧ leC (.str o.2) (.str (putB o l).2)) ∧ True)) ∧ (true = true ∧ leC (.bool true) (.bool (fitO o l))) ∧ True)) ∧ true = true))))))))))) (by kernel_rfl) ?_
  unfold T3 T5
  have hl : List.length l ≤ 1048576 := hpre
  cases hf : fitO o l with
  | true =>
    have hs := fits_size hf
    rw [putB_y hf]
    simp only [hf, Bool.not_true, Bool.not_false, cond_true, cond_false]
    simp only [SI2A, eq_self]
    repeat' (with_reducible first | exact trivial | apply And.intro | intro _)
    all_goals first
      | (with_reducible trivial)
      | omega
      | (with_reducible assumption)
      | (unfold maxLen; omega)
  | false =>
    rw [putB_n hf]
    simp only [hf, Bool.not_true, Bool.not_false, cond_true, cond_false]
    simp only [SI2A, eq_self]
    repeat' (with_reducible first | exact trivial | apply And.intro | intro _)
    all_goals first
      | (with_reducible trivial)
      | omega
      | (with_reducible assumption)
def e_s_PutOut : Entry Tryz.prog := ⟨7, [.s tyOut, .v (.list tyCommit)], fun x => List.length x.2.1 ≤ 1048576, fun x => .tp [.ag [.str (putB x.1 x.2.1).1, .str (putB x.1 x.2.1).2], .c (.bool (fitO x.1 x.2.1))], fun _ => [], fun x hx => b_s_PutOut x.1 x.2.1 hx, Tryz.call7⟩
end Go.Proofs.YtoigkpkafgjeaaaGreatDoor
