/-
  Lines of replies: the reference.
  No condition but what the arguments' cells hold. Printed by vcgen.py.
-/
import Derived.Test.YtoigkpkafgjeaaaBBlL15f
set_option linter.unusedSimpArgs false
set_option linter.unusedVariables false
set_option maxRecDepth 100000
set_option maxHeartbeats 4000000
namespace Go.Proofs.Ytoigkpkafgjeaaa
open Go.ChangeShapes Go.WideShapes Go.ChangeAt Go.RowKit Go.Joins Go.Deep
open GoRep (rep bulk)

def wordT (k : Int) : ByteArray := if k = 9 then (⟨#[67, 76, 79, 83, 69, 68]⟩ : ByteArray) else if k = 10 then (⟨#[79, 86, 69, 82, 70, 76, 79, 87]⟩ : ByteArray) else if k = 11 then (⟨#[66, 89, 69]⟩ : ByteArray) else (⟨#[72, 69, 76, 76, 79]⟩ : ByteArray)
theorem b_s_l14Word (k : Int) : BCalls Try.prog 98 [.c (.int .i64 k)] (.c (.str (wordT k))) [] := by
  refine bc0 [] [] [] [] L0 Try.func98 (fun hwf => ?_)
  refine Eq.mpr (β := (True ∧ (True ∧ (True ∧ (True ∧ (bif (eqI k 9) then (True ∧ (rS (⟨#[67, 76, 79, 83, 69, 68]⟩ : ByteArray) (wordT k))) else (True ∧ (True ∧ (bif (eqI k 10) then (True ∧ (rS (⟨#[79, 86, 69, 82, 70, 76, 79, 87]⟩ : ByteArray) (wordT k))) else (True ∧ (True ∧ (bif (eqI k 11) then (True ∧ (rS (⟨#[66, 89, 69]⟩ : ByteArray) (wordT k))) else (True ∧ (rS (⟨#[72, 69, 76, 76, 79]⟩ : ByteArray) (wordT k))))))))))))))) (by kernel_rfl) ?_
  unfold wordT
  simp only [btw_iff, btw_not, flagsOk, Bool.not_true, Bool.not_false, SI2A, eq_self]
  repeat' (with_reducible first | exact trivial | apply And.intro | intro _)
  all_goals first
    | (with_reducible trivial)
    | (simp_all; done)
def e_s_l14Word : Entry Try.prog := ⟨98, [.v tyInt], fun x => True, fun x => .c (.str (wordT x.1)), fun _ => [], fun x hx => b_s_l14Word x.1, Try.call98⟩
theorem szL (a : Array UInt8) : ByteArray.size ⟨a⟩ = a.size := rfl
theorem tagOk_size {s : ByteArray} (h : tagOk s = true) : s.size ≤ 1000 := by
  have := (of_decide_eq_true h).2.2
  omega
theorem nameOk_size {s : ByteArray} (h : nameOk s = true) : s.size ≤ 1000 := by
  have := (of_decide_eq_true h).2.2
  omega
theorem emp_sizeR {s : ByteArray} (h : emp s = true) : s.size = 0 := by rw [eqS_true.1 h]; rfl
theorem rok_facts {r : GReply} (h : replyOk r = true) : (0 ≤ r.2.1 ∧ r.2.1 ≤ 999999999) ∧ (0 ≤ r.2.2.1 ∧ r.2.2.1 ≤ 999999999) ∧ r.2.2.2.2.1.size ≤ 1000 ∧ r.2.2.2.2.2.size ≤ 40 := by
  obtain ⟨k, n, u, f, nm, tx⟩ := r
  unfold replyOk replyB at h
  simp only [Bool.and_eq_true] at h
  obtain ⟨_, h1, h2, _, h3, h4⟩ := h
  show (0 ≤ n ∧ n ≤ 999999999) ∧ (0 ≤ u ∧ u ≤ 999999999) ∧ nm.size ≤ 1000 ∧ tx.size ≤ 40
  refine ⟨?_, ?_, ?_, ?_⟩
  · split at h1
    · have := btw_iff.1 h1
      split at this <;> omega
    · have := eqI_true.1 h1
      omega
  · split at h2
    · have := btw_iff.1 h2
      omega
    · have := eqI_true.1 h2
      omega
  · split at h3
    · exact nameOk_size h3
    · split at h3
      · rw [Bool.or_eq_true] at h3
        rcases h3 with h3 | h3
        · exact tagOk_size h3
        · rw [eqS_true.1 h3]; exact (show 1 ≤ 1000 by decide)
      · have := emp_sizeR h3
        omega
  · split at h4
    · have := leI_true.1 h4
      omega
    · have := emp_sizeR h4
      omega
def hdT (s : ByteArray) : ByteArray := if s = (⟨#[]⟩ : ByteArray) then (⟨#[45]⟩ : ByteArray) else hexS s
theorem body_eq (a s : ByteArray) : a ++ (⟨#[32, 66, 79, 68, 89, 32]⟩ : ByteArray) ++ hdT s = (bif eqS s (⟨#[]⟩ : ByteArray) then a ++ (⟨#[32, 66, 79, 68, 89, 32, 45]⟩ : ByteArray) else a ++ (⟨#[32, 66, 79, 68, 89, 32]⟩ : ByteArray) ++ hexS s) := by
  unfold hdT
  cases h : eqS s (⟨#[]⟩ : ByteArray) with
  | true =>
    rw [if_pos (eqS_true.1 h), ByteArray.append_assoc]
    rfl
  | false =>
    rw [if_neg (eqS_false.1 h)]
    rfl
theorem wordT_size (k : Int) : (wordT k).size ≤ 8 := by
  unfold wordT
  repeat' split
  all_goals decide
theorem rok_k {r : GReply} (h : replyOk r = true) : 1 ≤ r.1 ∧ r.1 ≤ 16 := by
  rw [reply_law, Bool.and_eq_true] at h
  exact btw_iff.1 h.1
def replyT (r : GCommit) : ByteArray := (bif (!(replyOk r)) then (⟨#[]⟩ : ByteArray) else (bif (eqI r.1 1) then (((⟨#[42, 32]⟩ : ByteArray) ++ (⟨(Lib.itoa r.2.1).toArray⟩ : ByteArray)) ++ (⟨#[32, 69, 88, 73, 83, 84, 83]⟩ : ByteArray)) else (bif (eqI r.1 2) then (((⟨#[42, 32]⟩ : ByteArray) ++ (⟨(Lib.itoa r.2.1).toArray⟩ : ByteArray)) ++ (⟨#[32, 69, 88, 80, 85, 78, 71, 69]⟩ : ByteArray)) else (bif (eqI r.1 3) then (((((((⟨#[42, 32]⟩ : ByteArray) ++ (⟨(Lib.itoa r.2.1).toArray⟩ : ByteArray)) ++ (⟨#[32, 70, 69, 84, 67, 72, 32]⟩ : ByteArray)) ++ (⟨(Lib.itoa r.2.2.1).toArray⟩ : ByteArray)) ++ (⟨#[32, 40]⟩ : ByteArray)) ++ (flagT r.2.2.2.1)) ++ (⟨#[41]⟩ : ByteArray)) else (bif (eqI r.1 4) then (bif (eqS r.2.2.2.2.2 (⟨#[]⟩ : ByteArray)) then (((⟨#[42, 32]⟩ : ByteArray) ++ (⟨(Lib.itoa r.2.1).toArray⟩ : ByteArray)) ++ (⟨#[32, 66, 79, 68, 89, 32, 45]⟩ : ByteArray)) else ((((⟨#[42, 32]⟩ : ByteArray) ++ (⟨(Lib.itoa r.2.1).toArray⟩ : ByteArray)) ++ (⟨#[32, 66, 79, 68, 89, 32]⟩ : ByteArray)) ++ (hexS r.2.2.2.2.2))) else (bif (eqI r.1 5) then ((((((⟨#[42, 32, 83, 84, 65, 84, 85, 83, 32]⟩ : ByteArray) ++ r.2.2.2.2.1) ++ (⟨#[32]⟩ : ByteArray)) ++ (⟨(Lib.itoa r.2.1).toArray⟩ : ByteArray)) ++ (⟨#[32]⟩ : ByteArray)) ++ (⟨(Lib.itoa r.2.2.1).toArray⟩ : ByteArray)) else (bif (eqI r.1 6) then ((⟨#[42, 32, 76, 73, 83, 84, 32]⟩ : ByteArray) ++ r.2.2.2.2.1) else (bif (eqI r.1 7) then ((⟨#[42, 32, 71, 79, 78, 69, 32]⟩ : ByteArray) ++ r.2.2.2.2.1) else (bif (eqI r.1 8) then ((((⟨#[42, 32, 83, 69, 76, 69, 67, 84, 69, 68, 32]⟩ : ByteArray) ++ r.2.2.2.2.1) ++ (⟨#[32]⟩ : ByteArray)) ++ (⟨(Lib.itoa r.2.1).toArray⟩ : ByteArray)) else (bif (eqI r.1 15) then (⟨#[43, 32, 105, 100, 108, 101]⟩ : ByteArray) else (bif (eqI r.1 12) then (r.2.2.2.2.1 ++ (⟨#[32, 79, 75]⟩ : ByteArray)) else (bif (eqI r.1 13) then (r.2.2.2.2.1 ++ (⟨#[32, 78, 79]⟩ : ByteArray)) else (bif (eqI r.1 14) then (r.2.2.2.2.1 ++ (⟨#[32, 66, 65, 68]⟩ : ByteArray)) else ((⟨#[42, 32]⟩ : ByteArray) ++ (wordT r.1)))))))))))))))
theorem b_s_ReplyText (r : GCommit) : BCalls Try.prog 84 [.ag (cellsOf tyCommit r)] (.c (.str (replyT r))) [] := by
  refine bc0 [e_s_ReplyOk, e_s_Digits, e_s_FlagsText, e_s_Hex, e_s_l14Word] [] [] [] L0 Try.func84 (fun hwf => ?_)
  refine Eq.mpr (β := (T3 ((True ∧ true = true) ∧ (True ∧ (bif (!(replyOk r)) then (True ∧ (rS (⟨#[]⟩ : ByteArray) (replyT r))) else (T2 ((nonneg r.2.1 ∧ true = true) ∧ (T5 (bif (eqI r.1 1) then (True ∧ (ByteArray.size (⟨#[42, 32]⟩ : ByteArray) + ByteArray.size (⟨(Lib.itoa r.2.1).toArray⟩ : ByteArray) ≤ maxLen ∧ (ByteArray.size ((⟨#[42, 32]⟩ : ByteArray) ++ (⟨(Lib.itoa r.2.1).toArray⟩ : ByteArray)) + ByteArray.size (⟨#[32, 69, 88, 73, 83, 84, 83]⟩ : ByteArray) ≤ maxLen ∧ (True ∧ (rS (((⟨#[42, 32]⟩ : ByteArray) ++ (⟨(Lib.itoa r.2.1).toArray⟩ : ByteArray)) ++ (⟨#[32, 69, 88, 73, 83, 84, 83]⟩ : ByteArray)) (replyT r)))))) else (T2 (bif (eqI r.1 2) then (True ∧ (ByteArray.size (⟨#[42, 32]⟩ : ByteArray) + ByteArray.size (⟨(Lib.itoa r.2.1).toArray⟩ : ByteArray) ≤ maxLen ∧ (ByteArray.size ((⟨#[42, 32]⟩ : ByteArray) ++ (⟨(Lib.itoa r.2.1).toArray⟩ : ByteArray)) + ByteArray.size (⟨#[32, 69, 88, 80, 85, 78, 71, 69]⟩ : ByteArray) ≤ maxLen ∧ (True ∧ (rS (((⟨#[42, 32]⟩ : ByteArray) ++ (⟨(Lib.itoa r.2.1).toArray⟩ : ByteArray)) ++ (⟨#[32, 69, 88, 80, 85, 78, 71, 69]⟩ : ByteArray)) (replyT r)))))) else (T2 (bif (eqI r.1 3) then ((true = true ∧ true = true) ∧ (True ∧ (ByteArray.size (⟨#[42, 32]⟩ : ByteArray) + ByteArray.size (⟨(Lib.itoa r.2.1).toArray⟩ : ByteArray) ≤ maxLen ∧ (ByteArray.size ((⟨#[42, 32]⟩ : ByteArray) ++ (⟨(Lib.itoa r.2.1).toArray⟩ : ByteArray)) + ByteArray.size (⟨#[32, 70, 69, 84, 67, 72, 32]⟩ : ByteArray) ≤ maxLen ∧ (T4 ((nonneg r.2.2.1 ∧ true = true) ∧ (ByteArray.size (((⟨#[42, 32]⟩ : ByteArray) ++ (⟨(Lib.itoa r.2.1).toArray⟩ : ByteArray)) ++ (⟨#[32, 70, 69, 84, 67, 72, 32]⟩ : ByteArray)) + ByteArray.size (⟨(Lib.itoa r.2.2.1).toArray⟩ : ByteArray) ≤ maxLen ∧ (ByteArray.size ((((⟨#[42, 32]⟩ : ByteArray) ++ (⟨(Lib.itoa r.2.1).toArray⟩ : ByteArray)) ++ (⟨#[32, 70, 69, 84, 67, 72, 32]⟩ : ByteArray)) ++ (⟨(Lib.itoa r.2.2.1).toArray⟩ : ByteArray)) + ByteArray.size (⟨#[32, 40]⟩ : ByteArray) ≤ maxLen ∧ ((True ∧ true = true) ∧ (ByteArray.size (((((⟨#[42, 32]⟩ : ByteArray) ++ (⟨(Lib.itoa r.2.1).toArray⟩ : ByteArray)) ++ (⟨#[32, 70, 69, 84, 67, 72, 32]⟩ : ByteArray)) ++ (⟨(Lib.itoa r.2.2.1).toArray⟩ : ByteArray)) ++ (⟨#[32, 40]⟩ : ByteArray)) + ByteArray.size (flagT r.2.2.2.1) ≤ maxLen ∧ (ByteArray.size ((((((⟨#[42, 32]⟩ : ByteArray) ++ (⟨(Lib.itoa r.2.1).toArray⟩ : ByteArray)) ++ (⟨#[32, 70, 69, 84, 67, 72, 32]⟩ : ByteArray)) ++ (⟨(Lib.itoa r.2.2.1).toArray⟩ : ByteArray)) ++ (⟨#[32, 40]⟩ : ByteArray)) ++ (flagT r.2.2.2.1)) + ByteArray.size (⟨#[41]⟩ : ByteArray) ≤ maxLen ∧ (True ∧ (rS (((((((⟨#[42, 32]⟩ : ByteArray) ++ (⟨(Lib.itoa r.2.1).toArray⟩ : ByteArray)) ++ (⟨#[32, 70, 69, 84, 67, 72, 32]⟩ : ByteArray)) ++ (⟨(Lib.itoa r.2.2.1).toArray⟩ : ByteArray)) ++ (⟨#[32, 40]⟩ : ByteArray)) ++ (flagT r.2.2.2.1)) ++ (⟨#[41]⟩ : ByteArray)) (replyT r)))))))))))))) else (T2 (bif (eqI r.1 4) then (T3 (bif (eqS r.2.2.2.2.2 (⟨#[]⟩ : ByteArray)) then (True ∧ (ByteArray.size (⟨#[42, 32]⟩ : ByteArray) + ByteArray.size (⟨(Lib.itoa r.2.1).toArray⟩ : ByteArray) ≤ maxLen ∧ (ByteArray.size ((⟨#[42, 32]⟩ : ByteArray) ++ (⟨(Lib.itoa r.2.1).toArray⟩ : ByteArray)) + ByteArray.size (⟨#[32, 66, 79, 68, 89, 32, 45]⟩ : ByteArray) ≤ maxLen ∧ (True ∧ (rS (((⟨#[42, 32]⟩ : ByteArray) ++ (⟨(Lib.itoa r.2.1).toArray⟩ : ByteArray)) ++ (⟨#[32, 66, 79, 68, 89, 32, 45]⟩ : ByteArray)) (replyT r)))))) else (True ∧ (ByteArray.size (⟨#[42, 32]⟩ : ByteArray) + ByteArray.size (⟨(Lib.itoa r.2.1).toArray⟩ : ByteArray) ≤ maxLen ∧ (ByteArray.size ((⟨#[42, 32]⟩ : ByteArray) ++ (⟨(Lib.itoa r.2.1).toArray⟩ : ByteArray)) + ByteArray.size (⟨#[32, 66, 79, 68, 89, 32]⟩ : ByteArray) ≤ maxLen ∧ (T2 ((ByteArray.size r.2.2.2.2.2 ≤ 1048576 ∧ true = true) ∧ (ByteArray.size (((⟨#[42, 32]⟩ : ByteArray) ++ (⟨(Lib.itoa r.2.1).toArray⟩ : ByteArray)) ++ (⟨#[32, 66, 79, 68, 89, 32]⟩ : ByteArray)) + ByteArray.size (hexS r.2.2.2.2.2) ≤ maxLen ∧ (True ∧ (rS ((((⟨#[42, 32]⟩ : ByteArray) ++ (⟨(Lib.itoa r.2.1).toArray⟩ : ByteArray)) ++ (⟨#[32, 66, 79, 68, 89, 32]⟩ : ByteArray)) ++ (hexS r.2.2.2.2.2)) (replyT r))))))))))) else (T2 (bif (eqI r.1 5) then ((true = true ∧ true = true) ∧ (T2 (ByteArray.size (⟨#[42, 32, 83, 84, 65, 84, 85, 83, 32]⟩ : ByteArray) + ByteArray.size r.2.2.2.2.1 ≤ maxLen ∧ (ByteArray.size ((⟨#[42, 32, 83, 84, 65, 84, 85, 83, 32]⟩ : ByteArray) ++ r.2.2.2.2.1) + ByteArray.size (⟨#[32]⟩ : ByteArray) ≤ maxLen ∧ (True ∧ (ByteArray.size (((⟨#[42, 32, 83, 84, 65, 84, 85, 83, 32]⟩ : ByteArray) ++ r.2.2.2.2.1) ++ (⟨#[32]⟩ : ByteArray)) + ByteArray.size (⟨(Lib.itoa r.2.1).toArray⟩ : ByteArray) ≤ maxLen ∧ (ByteArray.size ((((⟨#[42, 32, 83, 84, 65, 84, 85, 83, 32]⟩ : ByteArray) ++ r.2.2.2.2.1) ++ (⟨#[32]⟩ : ByteArray)) ++ (⟨(Lib.itoa r.2.1).toArray⟩ : ByteArray)) + ByteArray.size (⟨#[32]⟩ : ByteArray) ≤ maxLen ∧ (T2 ((nonneg r.2.2.1 ∧ true = true) ∧ (ByteArray.size (((((⟨#[42, 32, 83, 84, 65, 84, 85, 83, 32]⟩ : ByteArray) ++ r.2.2.2.2.1) ++ (⟨#[32]⟩ : ByteArray)) ++ (⟨(Lib.itoa r.2.1).toArray⟩ : ByteArray)) ++ (⟨#[32]⟩ : ByteArray)) + ByteArray.size (⟨(Lib.itoa r.2.2.1).toArray⟩ : ByteArray) ≤ maxLen ∧ (True ∧ (rS ((((((⟨#[42, 32, 83, 84, 65, 84, 85, 83, 32]⟩ : ByteArray) ++ r.2.2.2.2.1) ++ (⟨#[32]⟩ : ByteArray)) ++ (⟨(Lib.itoa r.2.1).toArray⟩ : ByteArray)) ++ (⟨#[32]⟩ : ByteArray)) ++ (⟨(Lib.itoa r.2.2.1).toArray⟩ : ByteArray)) (replyT r))))))))))))) else (T2 (bif (eqI r.1 6) then (T2 (ByteArray.size (⟨#[42, 32, 76, 73, 83, 84, 32]⟩ : ByteArray) + ByteArray.size r.2.2.2.2.1 ≤ maxLen ∧ (True ∧ (rS ((⟨#[42, 32, 76, 73, 83, 84, 32]⟩ : ByteArray) ++ r.2.2.2.2.1) (replyT r))))) else (T2 (bif (eqI r.1 7) then (T2 (ByteArray.size (⟨#[42, 32, 71, 79, 78, 69, 32]⟩ : ByteArray) + ByteArray.size r.2.2.2.2.1 ≤ maxLen ∧ (True ∧ (rS ((⟨#[42, 32, 71, 79, 78, 69, 32]⟩ : ByteArray) ++ r.2.2.2.2.1) (replyT r))))) else (T2 (bif (eqI r.1 8) then (T2 (ByteArray.size (⟨#[42, 32, 83, 69, 76, 69, 67, 84, 69, 68, 32]⟩ : ByteArray) + ByteArray.size r.2.2.2.2.1 ≤ maxLen ∧ (ByteArray.size ((⟨#[42, 32, 83, 69, 76, 69, 67, 84, 69, 68, 32]⟩ : ByteArray) ++ r.2.2.2.2.1) + ByteArray.size (⟨#[32]⟩ : ByteArray) ≤ maxLen ∧ (True ∧ (ByteArray.size (((⟨#[42, 32, 83, 69, 76, 69, 67, 84, 69, 68, 32]⟩ : ByteArray) ++ r.2.2.2.2.1) ++ (⟨#[32]⟩ : ByteArray)) + ByteArray.size (⟨(Lib.itoa r.2.1).toArray⟩ : ByteArray) ≤ maxLen ∧ (True ∧ (rS ((((⟨#[42, 32, 83, 69, 76, 69, 67, 84, 69, 68, 32]⟩ : ByteArray) ++ r.2.2.2.2.1) ++ (⟨#[32]⟩ : ByteArray)) ++ (⟨(Lib.itoa r.2.1).toArray⟩ : ByteArray)) (replyT r)))))))) else (T2 (bif (eqI r.1 15) then (True ∧ (rS (⟨#[43, 32, 105, 100, 108, 101]⟩ : ByteArray) (replyT r))) else (T2 (bif (eqI r.1 12) then (T2 (ByteArray.size r.2.2.2.2.1 + ByteArray.size (⟨#[32, 79, 75]⟩ : ByteArray) ≤ maxLen ∧ (True ∧ (rS (r.2.2.2.2.1 ++ (⟨#[32, 79, 75]⟩ : ByteArray)) (replyT r))))) else (T2 (bif (eqI r.1 13) then (T2 (ByteArray.size r.2.2.2.2.1 + ByteArray.size (⟨#[32, 78, 79]⟩ : ByteArray) ≤ maxLen ∧ (True ∧ (rS (r.2.2.2.2.1 ++ (⟨#[32, 78, 79]⟩ : ByteArray)) (replyT r))))) else (T2 (bif (eqI r.1 14) then (T2 (ByteArray.size r.2.2.2.2.1 + ByteArray.size (⟨#[32, 66, 65, 68]⟩ : ByteArray) ≤ maxLen ∧ (True ∧ (rS (r.2.2.2.2.1 ++ (⟨#[32, 66, 65, 68]⟩ : ByteArray)) (replyT r))))) else (T2 ((True ∧ true = true) ∧ (ByteArray.size (⟨#[42, 32]⟩ : ByteArray) + ByteArray.size (wordT r.1) ≤ maxLen ∧ (True ∧ (rS ((⟨#[42, 32]⟩ : ByteArray) ++ (wordT r.1)) (replyT r))))))))))))))))))))))))))))))))))))) (by kernel_rfl) ?_
  unfold T2 T3 T4 T5
  cases ho : replyOk r with
  | false =>
    simp only [Bool.not_false, cond_true, SIU, eq_self]
    repeat' (with_reducible first | exact trivial | apply And.intro | apply bifI | intro _)
    all_goals first
      | (with_reducible rfl)
      | (exfalso; contradiction)
      | (simp only [replyT, ho, Bool.not_false, cond_true]; done)
  | true =>
    obtain ⟨hn, hu, hm, ht⟩ := rok_facts ho
    have d1 := itoa_len (n := r.2.1) (by omega)
    have d2 := itoa_len (n := r.2.2.1) (by omega)
    have d3 := flagT_size r.2.2.2.1
    have d4 := hexS_size r.2.2.2.2.2
    have d5 := wordT_size r.1
    simp only [Bool.not_true, cond_false, SIU, eq_self]
    repeat' (with_reducible first | exact trivial | apply And.intro | apply bifI | intro _)
    all_goals first
      | (with_reducible rfl)
      | exact hn.1
      | exact hu.1
      | omega
      | ((try simp only [ByteArray.size_append, szL, List.size_toArray, List.length_cons, List.length_nil]); unfold maxLen; omega)
      | (simp only [replyT, hdT, ho, Bool.not_true, cond_true, cond_false, *]; done)
      | (rw [body_eq]; simp only [replyT, ho, Bool.not_true, cond_true, cond_false, *]; done)
      | (rename_i h; have e := eqI_true.1 h; obtain ⟨k, n, u, f, nm, tx⟩ := r; simp only at e; subst e; simp only [replyT, ho, Bool.not_true, cond_false]; rfl)
      | (have e : r.1 = 16 := (by have b := rok_k ho; simp only [eqI_false] at *; omega)
         obtain ⟨k, n, u, f, nm, tx⟩ := r
         simp only at e
         subst e
         simp only [replyT, ho, Bool.not_true, cond_false]
         rfl)
def e_s_ReplyText : Entry Try.prog := ⟨84, [.s tyCommit], fun x => True, fun x => .c (.str (replyT x.1)), fun _ => [], fun x hx => b_s_ReplyText x.1, Try.call84⟩
theorem cond_size {c : Bool} {a b : ByteArray} {n : Nat} (h1 : a.size ≤ n) (h2 : b.size ≤ n) : (bif c then a else b).size ≤ n := by cases c <;> assumption
theorem replyT_size (r : GReply) : (replyT r).size ≤ 2200 := by
  unfold replyT
  cases ho : replyOk r with
  | false => exact Nat.zero_le _
  | true =>
    obtain ⟨hn, hu, hm, ht⟩ := rok_facts ho
    have d1 := itoa_len (n := r.2.1) (by omega)
    have d2 := itoa_len (n := r.2.2.1) (by omega)
    have d3 := flagT_size r.2.2.2.1
    have d4 := hexS_size r.2.2.2.2.2
    have d5 := wordT_size r.1
    simp only [Bool.not_true, cond_false]
    repeat' (with_reducible refine cond_size ?_ ?_)
    all_goals ((try simp only [ByteArray.size_append, szL, List.size_toArray, List.length_cons, List.length_nil]); omega)
def linesN (l : List GReply) : Nat → List Int
  | 0 => []
  | k + 1 => linesN l k ++ byteL (replyT (nth_Commit l k)) ++ [13, 10]
def linesT (l : List GReply) : ByteArray := bytesOf (linesN l l.length)
theorem linesN_len (l : List GReply) : ∀ k, (linesN l k).length ≤ 2202 * k
  | 0 => Nat.le_refl _
  | k + 1 => by
    have := linesN_len l k
    have h := replyT_size (nth_Commit l k)
    unfold linesN
    simp only [List.length_append, byteL_len, List.length_cons, List.length_nil]
    omega
def L_s_LinesText (l : List GCommit) : Nat → List AV → Mem → LoopA
  | 3, tm, M => ⟨Nat, fun y => (anyR (setA tm [(3, .c (.row 0 0)), (4, .c (.int .i64 ((y : Nat) : Int)))]) 5 17, setM M [(0, .row (.int .u8) (linesN l y) 0 0 none)]), fun y => (y ≤ List.length l), fun y => (List.length l - y)⟩
  | _, _, _ => ⟨Unit, fun _ => ([], []), fun _ => False, fun _ => 0⟩
theorem b_s_LinesText (l : List GCommit) (hpre : List.length l ≤ 1048576) : BCalls Try.prog 77 [.c (.hs .no tyCommit l)] (.c (.str (linesT l))) [] := by
  refine bc0 [e_s_ReplyText] [] [] [] (L_s_LinesText l) Try.func77 (fun hwf => ?_)
  refine Eq.mpr (β := (T4 ((∃ q : Nat, (q ≤ List.length l) ∧ ((lxs [.c (.hs .no tyCommit l), .tp [], .c (.str (⟨#[]⟩ : ByteArray)), .c (.row 0 0)] (leV (.c (.int .i64 0)) (.c (.int .i64 ((q : Nat) : Int))) ∧ TN 17 (lxs [.tp [], .tp []] True))) ∧ (leB (.row (.int .u8) ([] : List Int) 0 0 none) (.row (.int .u8) (linesN l q) 0 0 none) ∧ True) ∧ true = true)) ∧ ∀ y0 : Nat, (y0 ≤ List.length l) → (T4 (bif (ltI ((y0 : Nat) : Int) ((List.length l : Nat) : Int)) then (T3 (((6 : Nat) = 6 ∧ (0 : Int) ≤ ((y0 : Nat) : Int) ∧ (((y0 : Nat) : Int) : Int) < ((List.length l : Nat) : Int)) ∧ (True ∧ ((True ∧ true = true) ∧ (List.length (linesN l y0) + List.length (byteL (replyT (nth_Commit l (Int.toNat ((y0 : Nat) : Int))))) ≤ rowMax ∧ (T3 ((True ∧ List.length ((linesN l y0) ++ (byteL (replyT (nth_Commit l (Int.toNat ((y0 : Nat) : Int)))))) + List.length ([13, 10] : List Int) ≤ rowMax) ∧ (T4 (∃ y0' : Nat, (y0' ≤ List.length l) ∧ (List.length l - y0') < (List.length l - y0) ∧ ((lxs [.c (.hs .no tyCommit l), .tp [], .c (.str (⟨#[]⟩ : ByteArray)), .c (.row 0 0)] (leV (.c (.int .i64 (IntKind.wrap .i64 (((y0 : Nat) : Int) + 1)))) (.c (.int .i64 ((y0' : Nat) : Int))) ∧ TN 17 (lxs [.tp [], .tp []] True))) ∧ (leB (.row (.int .u8) (((linesN l y0) ++ (byteL (replyT (nth_Commit l (Int.toNat ((y0 : Nat) : Int)))))) ++ ([13, 10] : List Int)) 0 0 none) (.row (.int .u8) (linesN l y0') 0 0 none) ∧ True) ∧ true = true)))))))))) else (True ∧ (List.length (linesN l y0) ≤ maxLen ∧ (True ∧ (rS (bytesOf (linesN l y0)) (linesT l)))))))))) (by kernel_rfl) ?_
  unfold T3 T4
  have hp : List.length l ≤ 1048576 := hpre
  simp only [leB_rowU8, btw_iff, btw_not, flagsOk, Bool.not_true, Bool.not_false, SI2A, eq_self]
  refine ⟨⟨0, Nat.zero_le _, rfl, rfl⟩, fun y hy => ?_⟩
  have hl := linesN_len l y
  have hr := replyT_size (nth_Commit l y)
  repeat' (with_reducible first | exact trivial | apply And.intro | intro _)
  all_goals first
    | (with_reducible trivial)
    | omega
    | (with_reducible assumption)
    | ((try simp only [List.length_append, List.length_cons, List.length_nil, byteL_len]); (first | unfold rowMax | unfold maxLen); omega)
    | exact ⟨y + 1, by omega, by omega, wrapN (by unfold maxLen; omega), rfl⟩
    | (obtain rfl : y = List.length l := by omega
       rfl)
def e_s_LinesText : Entry Try.prog := ⟨77, [.v (.list tyCommit)], fun x => List.length x.1 ≤ 1048576, fun x => .c (.str (linesT x.1)), fun _ => [], fun x hx => b_s_LinesText x.1 hx, Try.call77⟩
end Go.Proofs.Ytoigkpkafgjeaaa
