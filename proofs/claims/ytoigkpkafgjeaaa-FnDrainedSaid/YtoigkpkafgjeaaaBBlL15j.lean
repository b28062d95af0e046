/-
  Outputs drained.
  No condition but what the arguments' cells hold. Printed by vcgen.py.
-/
import Derived.Test.YtoigkpkafgjeaaaBBlL15i
set_option linter.unusedSimpArgs false
set_option linter.unusedVariables false
set_option maxRecDepth 100000
set_option maxHeartbeats 4000000
namespace Go.Proofs.Ytoigkpkafgjeaaa
open Go.ChangeShapes Go.WideShapes Go.ChangeAt Go.RowKit Go.Joins Go.Deep
open GoRep (rep bulk)

def drC (o : GOut) (n : Int) : Int := if outOk o = true ∧ 0 ≤ n then min n (min (o.1.size : Int) (20000 - (o.2.size : Int))) else 0
def drO (o : GOut) (n : Int) : GOut := if outOk o = true ∧ 0 ≤ n then (o.1.extract (drC o n).toNat o.1.size, o.2 ++ o.1.extract 0 (drC o n).toNat) else o
theorem wA {x : Int} (h0 : -9223372036854775808 ≤ x) (h1 : x ≤ 9223372036854775807) : IntKind.wrap .i64 x = x := IntWalk.i64_in _ (by omega)
theorem ifmin {a b : Int} : (if b < a then b else a) = min a b := by omega
theorem extAll (s : ByteArray) : ByteArray.extract s 0 s.size = s := by
  apply ByteArray.ext
  rw [ByteArray.data_extract]
  exact Array.extract_size
theorem extNil (a b : ByteArray) : a ++ ByteArray.extract b 0 0 = a := by
  apply ByteArray.ext
  rw [ByteArray.data_append, ByteArray.data_extract]
  simp
theorem outOk_iff {o : GOut} : outOk o = true ↔ o.1.size ≤ 1200 ∧ o.2.size ≤ 20000 := by
  unfold outOk
  rw [Bool.and_eq_true, leI_true, leI_true]
  omega
theorem i64W {x : Int} (h : (Lit.int .i64 x).wf = true) : -9223372036854775808 ≤ x ∧ x ≤ 9223372036854775807 := by
  rw [lit_wf] at h
  have hmm : IntKind.i64.min = -9223372036854775808 ∧ IntKind.i64.max = 9223372036854775807 := by decide
  omega
def k0v88q5 (o : GOut) (n : Int) : Prop := (T3 ((((((true = true ∧ leC (.str o.1) (.str (drO o n).1)) ∧ (true = true ∧ leC (.str o.2) (.str (drO o n).2)) ∧ True)) ∧ (true = true ∧ leC (.int .i64 0) (.int .i64 (drC o n))) ∧ True)) ∧ true = true))
theorem b_i_Drained (o : GOut) (n : Int) : BCalls Try.prog 7 [.ag [.str o.1, .str o.2], .c (.int .i64 n)] (.tp [.ag [.str (drO o n).1, .str (drO o n).2], .c (.int .i64 (drC o n))]) [] := by
  refine bc0 [e_i_OutOk] [] [] [] L0 Try.func7 (fun hwf => ?_)
  refine Eq.mpr (β := (T4 ((True ∧ true = true) ∧ (T2 (bif (!(outOk o)) then (True ∧ (k0v88q5 o n)) else (T3 (bif (ltI n 0) then (k0v88q5 o n) else (T8 ((IntKind.i64 = IntKind.i64 ∧ IntKind.i64 = IntKind.i64) ∧ (True ∧ ((true = true ∧ true = true) ∧ (T3 (((0 : Int) ≤ (if ((IntKind.wrap .i64 (20000 - ((ByteArray.size o.2 : Nat) : Int))) : Int) < (if (((ByteArray.size o.1 : Nat) : Int) : Int) < n then ((ByteArray.size o.1 : Nat) : Int) else n) then (IntKind.wrap .i64 (20000 - ((ByteArray.size o.2 : Nat) : Int))) else (if (((ByteArray.size o.1 : Nat) : Int) : Int) < n then ((ByteArray.size o.1 : Nat) : Int) else n)) ∧ ((if ((IntKind.wrap .i64 (20000 - ((ByteArray.size o.2 : Nat) : Int))) : Int) < (if (((ByteArray.size o.1 : Nat) : Int) : Int) < n then ((ByteArray.size o.1 : Nat) : Int) else n) then (IntKind.wrap .i64 (20000 - ((ByteArray.size o.2 : Nat) : Int))) else (if (((ByteArray.size o.1 : Nat) : Int) : Int) < n then ((ByteArray.size o.1 : Nat) : Int) else n)) : Int) ≤ ((ByteArray.size o.1 : Nat) : Int) ∧ (((ByteArray.size o.1 : Nat) : Int) : Int) ≤ ((ByteArray.size o.1 : Nat) : Int)) ∧ (T5 (((0 : Int) ≤ 0 ∧ (0 : Int) ≤ (if ((IntKind.wrap .i64 (20000 - ((ByteArray.size o.2 : Nat) : Int))) : Int) < (if (((ByteArray.size o.1 : Nat) : Int) : Int) < n then ((ByteArray.size o.1 : Nat) : Int) else n) then (IntKind.wrap .i64 (20000 - ((ByteArray.size o.2 : Nat) : Int))) else (if (((ByteArray.size o.1 : Nat) : Int) : Int) < n then ((ByteArray.size o.1 : Nat) : Int) else n)) ∧ ((if ((IntKind.wrap .i64 (20000 - ((ByteArray.size o.2 : Nat) : Int))) : Int) < (if (((ByteArray.size o.1 : Nat) : Int) : Int) < n then ((ByteArray.size o.1 : Nat) : Int) else n) then (IntKind.wrap .i64 (20000 - ((ByteArray.size o.2 : Nat) : Int))) else (if (((ByteArray.size o.1 : Nat) : Int) : Int) < n then ((ByteArray.size o.1 : Nat) : Int) else n)) : Int) ≤ ((ByteArray.size o.1 : Nat) : Int)) ∧ (ByteArray.size o.2 + ByteArray.size (ByteArray.extract o.1 (Int.toNat 0) (Int.toNat (if ((IntKind.wrap .i64 (20000 - ((ByteArray.size o.2 : Nat) : Int))) : Int) < (if (((ByteArray.size o.1 : Nat) : Int) : Int) < n then ((ByteArray.size o.1 : Nat) : Int) else n) then (IntKind.wrap .i64 (20000 - ((ByteArray.size o.2 : Nat) : Int))) else (if (((ByteArray.size o.1 : Nat) : Int) : Int) < n then ((ByteArray.size o.1 : Nat) : Int) else n)))) ≤ maxLen ∧ (T4 ((((((true = true ∧ leC (.str (ByteArray.extract o.1 (Int.toNat (if ((IntKind.wrap .i64 (20000 - ((ByteArray.size o.2 : Nat) : Int))) : Int) < (if (((ByteArray.size o.1 : Nat) : Int) : Int) < n then ((ByteArray.size o.1 : Nat) : Int) else n) then (IntKind.wrap .i64 (20000 - ((ByteArray.size o.2 : Nat) : Int))) else (if (((ByteArray.size o.1 : Nat) : Int) : Int) < n then ((ByteArray.size o.1 : Nat) : Int) else n))) (Int.toNat ((ByteArray.size o.1 : Nat) : Int)))) (.str (drO o n).1)) ∧ (true = true ∧ leC (.str (o.2 ++ (ByteArray.extract o.1 (Int.toNat 0) (Int.toNat (if ((IntKind.wrap .i64 (20000 - ((ByteArray.size o.2 : Nat) : Int))) : Int) < (if (((ByteArray.size o.1 : Nat) : Int) : Int) < n then ((ByteArray.size o.1 : Nat) : Int) else n) then (IntKind.wrap .i64 (20000 - ((ByteArray.size o.2 : Nat) : Int))) else (if (((ByteArray.size o.1 : Nat) : Int) : Int) < n then ((ByteArray.size o.1 : Nat) : Int) else n)))))) (.str (drO o n).2)) ∧ True)) ∧ (true = true ∧ leC (.int .i64 (if ((IntKind.wrap .i64 (20000 - ((ByteArray.size o.2 : Nat) : Int))) : Int) < (if (((ByteArray.size o.1 : Nat) : Int) : Int) < n then ((ByteArray.size o.1 : Nat) : Int) else n) then (IntKind.wrap .i64 (20000 - ((ByteArray.size o.2 : Nat) : Int))) else (if (((ByteArray.size o.1 : Nat) : Int) : Int) < n then ((ByteArray.size o.1 : Nat) : Int) else n))) (.int .i64 (drC o n))) ∧ True)) ∧ true = true)))))))))))))))))) (by kernel_rfl) ?_
  unfold k0v88q5 T2 T3 T4 T5 T8
  try simp only [SI2A]
  have h1 : ByteArray.size o.1 ≤ maxLen := hwf.1.1
  have h2 : ByteArray.size o.2 ≤ maxLen := hwf.1.2.1
  have hn : -9223372036854775808 ≤ n ∧ n ≤ 9223372036854775807 := i64W hwf.2.1
  unfold maxLen at h1 h2
  cases ho : outOk o with
  | false =>
    have hf : ¬ (outOk o = true ∧ 0 ≤ n) := fun q => by rw [ho] at q; cases q.1
    have E : drO o n = o := if_neg hf
    have EN : drC o n = 0 := if_neg hf
    rw [E, EN]
    simp only [ho, forall_eq, Bool.true_eq_false, Bool.false_eq_true, false_implies, true_implies, not_true_eq_false, not_false_eq_true, Bool.not_true, Bool.not_false, Bool.and_true, Bool.and_false, Bool.true_and, Bool.false_and, List.length_set, List.set_set, and_true, true_and, and_self, btw_iff, btw_not, SI2A, eq_self]
    repeat' (with_reducible first | exact trivial | apply And.intro | intro _)
    all_goals first | omega | (with_reducible rfl) | (with_reducible assumption) | (with_reducible exact ⟨by omega, by omega⟩) | (exfalso; omega) | (exfalso; contradiction)
  | true =>
    obtain ⟨q1, q2⟩ := outOk_iff.1 ho
    have w : IntKind.wrap .i64 (20000 - ((ByteArray.size o.2 : Nat) : Int)) = 20000 - ((ByteArray.size o.2 : Nat) : Int) := wA (by omega) (by omega)
    have e0 : Int.toNat 0 = 0 := rfl
    rw [w]
    by_cases h0 : 0 ≤ n
    · have hl : ltI n 0 = false := ltI_false.2 (by omega)
      have hp : outOk o = true ∧ 0 ≤ n := ⟨ho, h0⟩
      have c1 : min (min n ((ByteArray.size o.1 : Nat) : Int)) (20000 - ((ByteArray.size o.2 : Nat) : Int)) = drC o n := by unfold drC; rw [if_pos hp]; omega
      have c2 : max 0 (min n (min ((ByteArray.size o.1 : Nat) : Int) (20000 - ((ByteArray.size o.2 : Nat) : Int)))) = drC o n := by unfold drC; rw [if_pos hp]; omega
      have c3 : 0 ≤ drC o n ∧ drC o n ≤ ((ByteArray.size o.1 : Nat) : Int) ∧ drC o n ≤ 20000 - ((ByteArray.size o.2 : Nat) : Int) := by rw [← c1]; omega
      have E : drO o n = (o.1.extract (drC o n).toNat o.1.size, o.2 ++ o.1.extract 0 (drC o n).toNat) := if_pos hp
      have hz : ByteArray.size (ByteArray.extract o.1 0 (drC o n).toNat) ≤ 1200 := by rw [ByteArray.size_extract]; omega
      rw [E]
      simp only [ho, hl, ifmin, c1, c2, e0, Int.toNat_natCast, forall_eq, Bool.true_eq_false, Bool.false_eq_true, false_implies, true_implies, not_true_eq_false, not_false_eq_true, Bool.not_true, Bool.not_false, Bool.and_true, Bool.and_false, Bool.true_and, Bool.false_and, List.length_set, List.set_set, and_true, true_and, and_self, btw_iff, btw_not, SI2A, eq_self]
      repeat' (with_reducible first | exact trivial | apply And.intro | intro _)
      all_goals first | omega | (with_reducible rfl) | (with_reducible assumption) | (unfold maxLen; omega) | (with_reducible exact ⟨by omega, by omega⟩) | (exfalso; omega) | (exfalso; contradiction)
    · have hl : ltI n 0 = true := ltI_true.2 (by omega)
      have hf : ¬ (outOk o = true ∧ 0 ≤ n) := fun q => h0 q.2
      have c2 : max 0 (min n (min ((ByteArray.size o.1 : Nat) : Int) (20000 - ((ByteArray.size o.2 : Nat) : Int)))) = 0 := by omega
      have E : drO o n = o := if_neg hf
      have EN : drC o n = 0 := if_neg hf
      have hz : ByteArray.size (ByteArray.extract o.1 0 0) ≤ 1200 := by rw [ByteArray.size_extract]; omega
      rw [E, EN]
      simp only [ho, hl, c2, e0, extAll, extNil, Int.toNat_natCast, forall_eq, Bool.true_eq_false, Bool.false_eq_true, false_implies, true_implies, not_true_eq_false, not_false_eq_true, Bool.not_true, Bool.not_false, Bool.and_true, Bool.and_false, Bool.true_and, Bool.false_and, List.length_set, List.set_set, and_true, true_and, and_self, btw_iff, btw_not, SI2A, eq_self]
      repeat' (with_reducible first | exact trivial | apply And.intro | intro _)
      all_goals first | omega | (with_reducible rfl) | (with_reducible assumption) | (unfold maxLen; omega) | exact (extAll _).symm | (with_reducible exact ⟨by omega, by omega⟩) | (exfalso; omega) | (exfalso; contradiction)
def e_i_Drained : Entry Try.prog := ⟨7, [.s tyOut, .v tyInt], fun x => True, fun x => .tp [.ag [.str (drO x.1 x.2.1).1, .str (drO x.1 x.2.1).2], .c (.int .i64 (drC x.1 x.2.1))], fun _ => [], fun x hx => b_i_Drained x.1 x.2.1, Try.call7⟩
theorem b_s_Drained (o : GOut) (n : Int) : BCalls Try.prog 8 [.ag [.str o.1, .str o.2], .c (.int .i64 n)] (.tp [.ag [.str (drO o n).1, .str (drO o n).2], .c (.int .i64 (drC o n))]) [] := by
  refine bc0 [e_s_OutOk, e_s_l1Min, e_s_l1Max] [] [] [] L0 Try.func8 (fun hwf => ?_)
  refine Eq.mpr (β := (T4 ((True ∧ true = true) ∧ (True ∧ (bif (!(outOk o)) then (T3 ((((((true = true ∧ leC (.str o.1) (.str (drO o n).1)) ∧ (true = true ∧ leC (.str o.2) (.str (drO o n).2)) ∧ True)) ∧ (true = true ∧ leC (.int .i64 0) (.int .i64 (drC o n))) ∧ True)) ∧ true = true)) else (T8 ((True ∧ true = true) ∧ ((True ∧ true = true) ∧ ((True ∧ true = true) ∧ (True ∧ ((true = true ∧ true = true) ∧ (T3 (((0 : Int) ≤ max 0 (min n (min ((ByteArray.size o.1 : Nat) : Int) (IntKind.wrap .i64 (20000 - ((ByteArray.size o.2 : Nat) : Int))))) ∧ (max 0 (min n (min ((ByteArray.size o.1 : Nat) : Int) (IntKind.wrap .i64 (20000 - ((ByteArray.size o.2 : Nat) : Int))))) : Int) ≤ ((ByteArray.size o.1 : Nat) : Int) ∧ (((ByteArray.size o.1 : Nat) : Int) : Int) ≤ ((ByteArray.size o.1 : Nat) : Int)) ∧ (T5 (((0 : Int) ≤ 0 ∧ (0 : Int) ≤ max 0 (min n (min ((ByteArray.size o.1 : Nat) : Int) (IntKind.wrap .i64 (20000 - ((ByteArray.size o.2 : Nat) : Int))))) ∧ (max 0 (min n (min ((ByteArray.size o.1 : Nat) : Int) (IntKind.wrap .i64 (20000 - ((ByteArray.size o.2 : Nat) : Int))))) : Int) ≤ ((ByteArray.size o.1 : Nat) : Int)) ∧ (ByteArray.size o.2 + ByteArray.size (ByteArray.extract o.1 (Int.toNat 0) (Int.toNat (max 0 (min n (min ((ByteArray.size o.1 : Nat) : Int) (IntKind.wrap .i64 (20000 - ((ByteArray.size o.2 : Nat) : Int)))))))) ≤ maxLen ∧ (T4 ((((((true = true ∧ leC (.str (ByteArray.extract o.1 (Int.toNat (max 0 (min n (min ((ByteArray.size o.1 : Nat) : Int) (IntKind.wrap .i64 (20000 - ((ByteArray.size o.2 : Nat) : Int))))))) (Int.toNat ((ByteArray.size o.1 : Nat) : Int)))) (.str (drO o n).1)) ∧ (true = true ∧ leC (.str (o.2 ++ (ByteArray.extract o.1 (Int.toNat 0) (Int.toNat (max 0 (min n (min ((ByteArray.size o.1 : Nat) : Int) (IntKind.wrap .i64 (20000 - ((ByteArray.size o.2 : Nat) : Int)))))))))) (.str (drO o n).2)) ∧ True)) ∧ (true = true ∧ leC (.int .i64 (max 0 (min n (min ((ByteArray.size o.1 : Nat) : Int) (IntKind.wrap .i64 (20000 - ((ByteArray.size o.2 : Nat) : Int))))))) (.int .i64 (drC o n))) ∧ True)) ∧ true = true)))))))))))))))))) (by kernel_rfl) ?_
  unfold T3 T4 T5 T8
  try simp only [SI2A]
  have h1 : ByteArray.size o.1 ≤ maxLen := hwf.1.1
  have h2 : ByteArray.size o.2 ≤ maxLen := hwf.1.2.1
  have hn : -9223372036854775808 ≤ n ∧ n ≤ 9223372036854775807 := i64W hwf.2.1
  unfold maxLen at h1 h2
  cases ho : outOk o with
  | false =>
    have hf : ¬ (outOk o = true ∧ 0 ≤ n) := fun q => by rw [ho] at q; cases q.1
    have E : drO o n = o := if_neg hf
    have EN : drC o n = 0 := if_neg hf
    rw [E, EN]
    simp only [ho, forall_eq, Bool.true_eq_false, Bool.false_eq_true, false_implies, true_implies, not_true_eq_false, not_false_eq_true, Bool.not_true, Bool.not_false, Bool.and_true, Bool.and_false, Bool.true_and, Bool.false_and, List.length_set, List.set_set, and_true, true_and, and_self, btw_iff, btw_not, SI2A, eq_self]
    repeat' (with_reducible first | exact trivial | apply And.intro | intro _)
    all_goals first | omega | (with_reducible rfl) | (with_reducible assumption) | (with_reducible exact ⟨by omega, by omega⟩) | (exfalso; omega) | (exfalso; contradiction)
  | true =>
    obtain ⟨q1, q2⟩ := outOk_iff.1 ho
    have w : IntKind.wrap .i64 (20000 - ((ByteArray.size o.2 : Nat) : Int)) = 20000 - ((ByteArray.size o.2 : Nat) : Int) := wA (by omega) (by omega)
    have e0 : Int.toNat 0 = 0 := rfl
    rw [w]
    by_cases h0 : 0 ≤ n
    · have hl : ltI n 0 = false := ltI_false.2 (by omega)
      have hp : outOk o = true ∧ 0 ≤ n := ⟨ho, h0⟩
      have c1 : min (min n ((ByteArray.size o.1 : Nat) : Int)) (20000 - ((ByteArray.size o.2 : Nat) : Int)) = drC o n := by unfold drC; rw [if_pos hp]; omega
      have c2 : max 0 (min n (min ((ByteArray.size o.1 : Nat) : Int) (20000 - ((ByteArray.size o.2 : Nat) : Int)))) = drC o n := by unfold drC; rw [if_pos hp]; omega
      have c3 : 0 ≤ drC o n ∧ drC o n ≤ ((ByteArray.size o.1 : Nat) : Int) ∧ drC o n ≤ 20000 - ((ByteArray.size o.2 : Nat) : Int) := by rw [← c1]; omega
      have E : drO o n = (o.1.extract (drC o n).toNat o.1.size, o.2 ++ o.1.extract 0 (drC o n).toNat) := if_pos hp
      have hz : ByteArray.size (ByteArray.extract o.1 0 (drC o n).toNat) ≤ 1200 := by rw [ByteArray.size_extract]; omega
      rw [E]
      simp only [ho, hl, ifmin, c1, c2, e0, Int.toNat_natCast, forall_eq, Bool.true_eq_false, Bool.false_eq_true, false_implies, true_implies, not_true_eq_false, not_false_eq_true, Bool.not_true, Bool.not_false, Bool.and_true, Bool.and_false, Bool.true_and, Bool.false_and, List.length_set, List.set_set, and_true, true_and, and_self, btw_iff, btw_not, SI2A, eq_self]
      repeat' (with_reducible first | exact trivial | apply And.intro | intro _)
      all_goals first | omega | (with_reducible rfl) | (with_reducible assumption) | (unfold maxLen; omega) | (with_reducible exact ⟨by omega, by omega⟩) | (exfalso; omega) | (exfalso; contradiction)
    · have hl : ltI n 0 = true := ltI_true.2 (by omega)
      have hf : ¬ (outOk o = true ∧ 0 ≤ n) := fun q => h0 q.2
      have c2 : max 0 (min n (min ((ByteArray.size o.1 : Nat) : Int) (20000 - ((ByteArray.size o.2 : Nat) : Int)))) = 0 := by omega
      have E : drO o n = o := if_neg hf
      have EN : drC o n = 0 := if_neg hf
      have hz : ByteArray.size (ByteArray.extract o.1 0 0) ≤ 1200 := by rw [ByteArray.size_extract]; omega
      rw [E, EN]
      simp only [ho, hl, c2, e0, extAll, extNil, Int.toNat_natCast, forall_eq, Bool.true_eq_false, Bool.false_eq_true, false_implies, true_implies, not_true_eq_false, not_false_eq_true, Bool.not_true, Bool.not_false, Bool.and_true, Bool.and_false, Bool.true_and, Bool.false_and, List.length_set, List.set_set, and_true, true_and, and_self, btw_iff, btw_not, SI2A, eq_self]
      repeat' (with_reducible first | exact trivial | apply And.intro | intro _)
      all_goals first | omega | (with_reducible rfl) | (with_reducible assumption) | (unfold maxLen; omega) | exact (extAll _).symm | (with_reducible exact ⟨by omega, by omega⟩) | (exfalso; omega) | (exfalso; contradiction)
def e_s_Drained : Entry Try.prog := ⟨8, [.s tyOut, .v tyInt], fun x => True, fun x => .tp [.ag [.str (drO x.1 x.2.1).1, .str (drO x.1 x.2.1).2], .c (.int .i64 (drC x.1 x.2.1))], fun _ => [], fun x hx => b_s_Drained x.1 x.2.1, Try.call8⟩
end Go.Proofs.Ytoigkpkafgjeaaa
