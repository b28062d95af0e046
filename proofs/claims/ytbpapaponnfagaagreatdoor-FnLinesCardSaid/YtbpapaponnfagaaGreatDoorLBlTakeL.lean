/-
  The next line: program and reference.
  No condition but what the arguments' cells hold. Printed by vcgen.py.
-/
import Derived.Test.YtbpapaponnfagaaGreatDoorLBlLine2
import Derived.Test.YtbpapaponnfagaaGreatDoorLBlLine3
import Derived.Test.YtbpapaponnfagaaGreatDoorLBlOk
set_option linter.unusedSimpArgs false
set_option linter.unusedVariables false
set_option maxRecDepth 100000
set_option maxHeartbeats 4000000
namespace Go.Proofs.YtbpapaponnfagaaGreatDoor
open Go.ChangeShapes Go.WideShapes Go.ChangeAt Go.RowKit Go.Joins Go.Deep
open GoRep (rep bulk)

def noSkip (x : GIn) : Prop := x.2 = false
def takeO (t : ByteArray) : GIn × ByteArray × Int :=
  if 0 ≤ lineF t 0 ∧ lineF t 0 ≤ 200 then ((ByteArray.extract t (Int.toNat (lineF t 0 + 2)) t.size, false), ByteArray.extract t 0 (Int.toNat (lineF t 0)), 1)
  else if 200 < lineF t 0 ∨ 201 < t.size then ((restF t, decide (twoI t 0 < 0)), ⟨#[]⟩, 2) else ((t, false), ⟨#[]⟩, 0)
def takeF (x : GIn) : GIn × ByteArray × Int :=
  if x.1.size ≤ 600 then (if x.2 = true then (if twoI x.1 0 < 0 then ((restF x.1, true), ⟨#[]⟩, 0) else takeO (restF x.1)) else takeO x.1) else (x, ⟨#[]⟩, 0)
theorem lineF_ge (s : ByteArray) : ∀ a, a ≤ s.size → lineF s a = -1 ∨ (0 ≤ lineF s a ∧ lineF s a + 2 ≤ ((s.size : Nat) : Int)) := by
  intro a ha
  induction hn : s.size - a using Nat.strongRecOn generalizing a with
  | _ n ih =>
    have ht := twoI_ge s a
    by_cases h : twoI s a < 0
    · exact .inl (lineF_none h)
    · by_cases h1 : litV (ByteArray.extract s a (twoI s a).toNat) < 0
      · rw [lineF_here h h1]
        exact .inr (by omega)
      · by_cases h2 : ((s.size : Nat) : Int) < twoI s a + 2 + litV (ByteArray.extract s a (twoI s a).toNat)
        · exact .inl (lineF_out h h1 h2)
        · rw [lineF_next h h1 h2]
          exact ih _ (by omega) _ (by omega) rfl
theorem rest_size {s : ByteArray} : (restF s).size ≤ s.size := by
  unfold restF crF
  split
  · split
    · rename_i h
      have := ends_pos h
      show 1 ≤ _
      exact this
    · exact Nat.zero_le _
  · rw [ByteArray.size_extract]
    omega
theorem rest_none {s : ByteArray} (h : twoI s 0 < 0) : restF s = crF s := if_pos h
theorem rest_some {s : ByteArray} (h : ¬ twoI s 0 < 0) : restF s = ByteArray.extract s (Int.toNat (twoI s 0 + 2)) s.size := if_neg h
theorem cr_yes {s : ByteArray} (h : endsB s 13 = true) : crF s = ⟨#[13]⟩ := if_pos h
theorem cr_no {s : ByteArray} (h : endsB s 13 = false) : crF s = ⟨#[]⟩ := if_neg (by rw [h]; decide)
theorem tk_big {i : GIn} (h : ¬ i.1.size ≤ 600) : takeF i = (i, ⟨#[]⟩, 0) := if_neg h
theorem tk_skip {i : GIn} (h : i.1.size ≤ 600) (h2 : i.2 = true) (h3 : twoI i.1 0 < 0) : takeF i = ((restF i.1, true), ⟨#[]⟩, 0) := by unfold takeF; rw [if_pos h, if_pos h2, if_pos h3]
theorem tk_go {i : GIn} (h : i.1.size ≤ 600) (h2 : i.2 = true) (h3 : ¬ twoI i.1 0 < 0) : takeF i = takeO (restF i.1) := by unfold takeF; rw [if_pos h, if_pos h2, if_neg h3]
theorem tk_no {i : GIn} (h : i.1.size ≤ 600) (h2 : i.2 = false) : takeF i = takeO i.1 := by unfold takeF; rw [if_pos h, if_neg (by rw [h2]; decide)]
theorem to_line {t : ByteArray} (h : 0 ≤ lineF t 0 ∧ lineF t 0 ≤ 200) : takeO t = ((ByteArray.extract t (Int.toNat (lineF t 0 + 2)) t.size, false), ByteArray.extract t 0 (Int.toNat (lineF t 0)), 1) := if_pos h
theorem to_long {t : ByteArray} (h : ¬ (0 ≤ lineF t 0 ∧ lineF t 0 ≤ 200)) (h2 : 200 < lineF t 0 ∨ 201 < t.size) : takeO t = ((restF t, decide (twoI t 0 < 0)), ⟨#[]⟩, 2) := by unfold takeO; rw [if_neg h, if_pos h2]
theorem to_wait {t : ByteArray} (h : ¬ (0 ≤ lineF t 0 ∧ lineF t 0 ≤ 200)) (h2 : ¬ (200 < lineF t 0 ∨ 201 < t.size)) : takeO t = ((t, false), ⟨#[]⟩, 0) := by unfold takeO; rw [if_neg h, if_neg h2]
theorem tk_rec {i : GIn} (h : i.1.size ≤ 600) (h2 : i.2 = true) (h3 : ¬ twoI i.1 0 < 0) : takeF (ByteArray.extract i.1 (Int.toNat (twoI i.1 0 + 2)) i.1.size, false) = takeF i := by
  rw [tk_go h h2 h3, rest_some h3]
  exact tk_no (by show (ByteArray.extract _ _ _).size ≤ 600; rw [ByteArray.size_extract]; omega) rfl
theorem b_i_cutLine (s : ByteArray) (hpre : ByteArray.size s ≤ 1048576) : BCalls Tryz.prog 44 [.c (.str s)] (.tp [.c (.str (restF s)), .c (.bool (!decide (twoI s 0 < 0)))]) [] := by
  refine bc0 [e_strings_Cut, e_strings_HasSuffix] [] [] [] L0 Tryz.func44 (fun hwf => ?_)
  refine Eq.mpr (β := (T3 ((ByteArray.size s < 4294967281 ∧ true = true) ∧ (T8 (bif (cutB s (⟨#[13, 10]⟩ : ByteArray)).2.2 then (T3 ((((true = true ∧ leC (.str (cutB s (⟨#[13, 10]⟩ : ByteArray)).2.1) (.str (restF s))) ∧ (true = true ∧ leC (.bool true) (.bool (!decide (twoI s 0 < 0)))) ∧ True)) ∧ true = true)) else (True ∧ ((True ∧ true = true) ∧ (bif Lib.hasSuffix s.data.toList (⟨#[13]⟩ : ByteArray).data.toList then (T2 ((((true = true ∧ leC (.str (⟨#[13]⟩ : ByteArray)) (.str (restF s))) ∧ (true = true ∧ leC (.bool false) (.bool (!decide (twoI s 0 < 0)))) ∧ True)) ∧ true = true)) else (T2 ((((true = true ∧ leC (.str (⟨#[]⟩ : ByteArray)) (.str (restF s))) ∧ (true = true ∧ leC (.bool false) (.bool (!decide (twoI s 0 < 0)))) ∧ True)) ∧ true = true)))))))))) (by kernel_rfl) ?_
  unfold T2 T3 T8
  have hsz : ByteArray.size s ≤ 1048576 := hpre
  have hsuf : Lib.hasSuffix s.data.toList (⟨#[13]⟩ : ByteArray).data.toList = endsB s 13 := suffix_one (c := 13)
  by_cases h : twoI s 0 < 0
  · simp only [cut_none h, hsuf, rest_none h, decide_eq_true h, SI2A, eq_self]
    repeat' (with_reducible first | exact trivial | apply And.intro | intro _)
    all_goals first | omega | decide | (with_reducible rfl) | (with_reducible exact (cr_yes (by assumption)).symm) | (with_reducible exact (cr_no (by assumption)).symm) | (exfalso; simp_all; done)
  · simp only [(cut_some h).1, (cut_some h).2, hsuf, rest_some h, decide_eq_false h, SI2A, eq_self]
    repeat' (with_reducible first | exact trivial | apply And.intro | intro _)
    all_goals first | omega | decide | (with_reducible rfl) | (exfalso; simp_all; done)
def e_i_cutLine : Entry Tryz.prog := ⟨44, [.v tyStr], fun x => ByteArray.size x.1 ≤ 1048576, fun x => .tp [.c (.str (restF x.1)), .c (.bool (!decide (twoI x.1 0 < 0)))], fun _ => [], fun x hx => b_i_cutLine x.1 hx, Tryz.call44⟩
theorem b_s_l18Left (s : ByteArray) (hpre : ByteArray.size s ≤ 1048576) : BCalls Tryz.prog 49 [.c (.str s)] (.c (.str (crF s))) [] := by
  refine bc0 [] [] [] [] L0 Tryz.func49 (fun hwf => ?_)
  refine Eq.mpr (β := (True ∧ (True ∧ (True ∧ (True ∧ (True ∧ (bif (gtI ((ByteArray.size s : Nat) : Int) 0) then (True ∧ (True ∧ (True ∧ (True ∧ (((0 : Int) ≤ (IntKind.wrap .i64 (((ByteArray.size s : Nat) : Int) - 1)) ∧ ((IntKind.wrap .i64 (((ByteArray.size s : Nat) : Int) - 1)) : Int) < ((ByteArray.size s : Nat) : Int)) ∧ (True ∧ (True ∧ (bif (eqI (byteAt s (Int.toNat (IntKind.wrap .i64 (((ByteArray.size s : Nat) : Int) - 1)))) 13) then (True ∧ (rS (⟨#[13]⟩ : ByteArray) (crF s))) else (True ∧ (rS (⟨#[]⟩ : ByteArray) (crF s))))))))))) else (True ∧ (True ∧ (rS (⟨#[]⟩ : ByteArray) (crF s))))))))))) (by kernel_rfl) ?_
  have hsz : ByteArray.size s ≤ 1048576 := hpre
  by_cases h : 1 ≤ ByteArray.size s
  · have w : IntKind.wrap .i64 (((ByteArray.size s : Nat) : Int) - 1) = ((ByteArray.size s : Nat) : Int) - 1 := w64i (by omega) (by omega)
    have w2 : Int.toNat (((ByteArray.size s : Nat) : Int) - 1) = ByteArray.size s - 1 := by omega
    simp only [w, w2, SI2A, eq_self]
    repeat' (with_reducible first | exact trivial | apply And.intro | intro _)
    all_goals first | omega | exact (cr_yes (ends_yes h (by assumption))).symm | exact (cr_no (ends_no h (by assumption))).symm
  · have e : endsB s 13 = false := by
      cases q : endsB s 13 with
      | false => rfl
      | true => exact absurd (ends_pos q) h
    simp only [SI2A, eq_self]
    repeat' (with_reducible first | exact trivial | apply And.intro | intro _)
    all_goals first | omega | exact (cr_no e).symm
def e_s_l18Left : Entry Tryz.prog := ⟨49, [.v tyStr], fun x => ByteArray.size x.1 ≤ 1048576, fun x => .c (.str (crF x.1)), fun _ => [], fun x hx => b_s_l18Left x.1 hx, Tryz.call49⟩
def k0yswih (i : GIn) : Prop := (T2 ((((((true = true ∧ leC (.str (ByteArray.extract (restF i.1) (Int.toNat (IntKind.wrap .i64 (lineF (restF i.1) 0 + 2))) (Int.toNat ((ByteArray.size (restF i.1) : Nat) : Int)))) (.str (takeF i).1.1)) ∧ (true = true ∧ leC (.bool false) (.bool (takeF i).1.2)) ∧ True)) ∧ (true = true ∧ leC (.str (ByteArray.extract (restF i.1) (Int.toNat 0) (Int.toNat (lineF (restF i.1) 0)))) (.str (takeF i).2.1)) ∧ (true = true ∧ leC (.int .i64 1) (.int .i64 (takeF i).2.2)) ∧ True)) ∧ true = true))
def k1yswih (i : GIn) : Prop := (T2 ((((((true = true ∧ leC (.str (ByteArray.extract i.1 (Int.toNat (IntKind.wrap .i64 (lineF i.1 0 + 2))) (Int.toNat ((ByteArray.size i.1 : Nat) : Int)))) (.str (takeF i).1.1)) ∧ (true = true ∧ leC (.bool false) (.bool (takeF i).1.2)) ∧ True)) ∧ (true = true ∧ leC (.str (ByteArray.extract i.1 (Int.toNat 0) (Int.toNat (lineF i.1 0)))) (.str (takeF i).2.1)) ∧ (true = true ∧ leC (.int .i64 1) (.int .i64 (takeF i).2.2)) ∧ True)) ∧ true = true))
def k8yswih (i : GIn) : Prop := (true = true ∧ leC (.str (⟨#[]⟩ : ByteArray)) (.str (takeF i).2.1))
def k2yswih (i : GIn) : Prop := (T2 ((ByteArray.size (restF i.1) ≤ 1048576 ∧ true = true) ∧ (T12 ((((((true = true ∧ leC (.str (restF (restF i.1))) (.str (takeF i).1.1)) ∧ (true = true ∧ leC (.bool (!(!decide (twoI (restF i.1) 0 < 0)))) (.bool (takeF i).1.2)) ∧ True)) ∧ (k8yswih i) ∧ (true = true ∧ leC (.int .i64 2) (.int .i64 (takeF i).2.2)) ∧ True)) ∧ true = true))))
def k9yswih (i : GIn) : Prop := ((true = true ∧ leC (.str (restF i.1)) (.str (takeF i).1.1)) ∧ (true = true ∧ leC (.bool (!(!decide (twoI i.1 0 < 0)))) (.bool (takeF i).1.2)) ∧ True)
def k3yswih (i : GIn) : Prop := (T2 ((ByteArray.size i.1 ≤ 1048576 ∧ true = true) ∧ (T12 (((((k9yswih i)) ∧ (k8yswih i) ∧ (true = true ∧ leC (.int .i64 2) (.int .i64 (takeF i).2.2)) ∧ True)) ∧ true = true))))
def k4yswih (i : GIn) : Prop := (T4 (((((k9yswih i)) ∧ (k8yswih i) ∧ (true = true ∧ leC (.int .i64 0) (.int .i64 (takeF i).2.2)) ∧ True)) ∧ true = true))
def k5yswih (i : GIn) : Prop := ((0 : Int) ≤ 0 ∧ (0 : Int) ≤ lineF (restF i.1) 0 ∧ (lineF (restF i.1) 0 : Int) ≤ ((ByteArray.size (restF i.1) : Nat) : Int))
def k6yswih (i : GIn) : Prop := (T4 ((((((true = true ∧ leC (.str i.1) (.str (takeF i).1.1)) ∧ (true = true ∧ leC (.bool i.2) (.bool (takeF i).1.2)) ∧ True)) ∧ (k8yswih i) ∧ (true = true ∧ leC (.int .i64 0) (.int .i64 (takeF i).2.2)) ∧ True)) ∧ true = true))
def k7yswih (i : GIn) : Prop := ((0 : Int) ≤ 0 ∧ (0 : Int) ≤ lineF i.1 0 ∧ (lineF i.1 0 : Int) ≤ ((ByteArray.size i.1 : Nat) : Int))
theorem b_i_TakeLine (i : GIn) : BCalls Tryz.prog 14 [.ag [.str i.1, .bool i.2]] (.tp [.ag [.str (takeF i).1.1, .bool (takeF i).1.2], .c (.str (takeF i).2.1), .c (.int .i64 (takeF i).2.2)]) [] := by
  refine bc0 [e_i_InOk, e_i_cutLine, e_i_LineEnd, e_i_within] [] [] [] L0 Tryz.func14 (fun hwf => ?_)
  refine Eq.mpr (β := (T5 ((True ∧ true = true) ∧ (True ∧ (bif (!(inOk i)) then (k6yswih i) else (T2 (bif i.2 then (T2 ((ByteArray.size i.1 ≤ 1048576 ∧ true = true) ∧ (T12 (bif (!(!decide (twoI i.1 0 < 0))) then (k4yswih i) else (T2 ((ByteArray.size (restF i.1) ≤ 1048576 ∧ true = true) ∧ (T2 ((True ∧ true = true) ∧ (bif btw (lineF (restF i.1) 0) 0 200 then ((true = true ∧ true = true) ∧ (T4 (((0 : Int) ≤ (IntKind.wrap .i64 (lineF (restF i.1) 0 + 2)) ∧ ((IntKind.wrap .i64 (lineF (restF i.1) 0 + 2)) : Int) ≤ ((ByteArray.size (restF i.1) : Nat) : Int) ∧ (((ByteArray.size (restF i.1) : Nat) : Int) : Int) ≤ ((ByteArray.size (restF i.1) : Nat) : Int)) ∧ (T2 ((True ∧ ((True ∧ (((k5yswih i) ∧ (True ∧ (k0yswih i))) ∧ ((True ∧ ((k5yswih i) ∧ (k0yswih i)))))) ∧ ((T2 ((k5yswih i) ∧ (k0yswih i)))))) ∧ ((T3 ((k5yswih i) ∧ (k0yswih i))))))))) else (T3 (bif (gtI (lineF (restF i.1) 0) 200) then (True ∧ (k2yswih i)) else (T5 (bif (gtI ((ByteArray.size (restF i.1) : Nat) : Int) 201) then (k2yswih i) else (k4yswih i)))))))))))))) else (T2 ((ByteArray.size i.1 ≤ 1048576 ∧ true = true) ∧ (T2 ((True ∧ true = true) ∧ (bif btw (lineF i.1 0) 0 200 then ((true = true ∧ true = true) ∧ (T4 (((0 : Int) ≤ (IntKind.wrap .i64 (lineF i.1 0 + 2)) ∧ ((IntKind.wrap .i64 (lineF i.1 0 + 2)) : Int) ≤ ((ByteArray.size i.1 : Nat) : Int) ∧ (((ByteArray.size i.1 : Nat) : Int) : Int) ≤ ((ByteArray.size i.1 : Nat) : Int)) ∧ (T2 ((True ∧ ((True ∧ (((k7yswih i) ∧ (True ∧ (k1yswih i))) ∧ ((True ∧ ((k7yswih i) ∧ (k1yswih i)))))) ∧ ((T2 ((k7yswih i) ∧ (k1yswih i)))))) ∧ ((T3 ((k7yswih i) ∧ (k1yswih i))))))))) else (T3 (bif (gtI (lineF i.1 0) 200) then (True ∧ (k3yswih i)) else (T5 (bif (gtI ((ByteArray.size i.1 : Nat) : Int) 201) then (k3yswih i) else (k6yswih i))))))))))))))))) (by kernel_rfl) ?_
  unfold k7yswih k6yswih k5yswih k4yswih k3yswih k9yswih k2yswih k8yswih k1yswih k0yswih T12 T2 T3 T4 T5
  have hr := rest_size (s := i.1)
  have hg := lineF_ge i.1 0 (Nat.zero_le _)
  have hg2 := lineF_ge (restF i.1) 0 (Nat.zero_le _)
  have ht := twoI_ge i.1 0
  have hs : ByteArray.size i.1 ≤ maxLen := hwf.1.1
  by_cases h6 : ByteArray.size i.1 ≤ 600
  · have ho : inOk i = true := leI_true.2 (by omega)
    have w1 : IntKind.wrap .i64 (lineF i.1 0 + 2) = lineF i.1 0 + 2 := w64i (by omega) (by omega)
    have w2 : IntKind.wrap .i64 (lineF (restF i.1) 0 + 2) = lineF (restF i.1) 0 + 2 := w64i (by omega) (by omega)
    have w3 : IntKind.wrap .i64 (twoI i.1 0 + 2) = twoI i.1 0 + 2 := w64i (by omega) (by omega)
    have e0 : Int.toNat 0 = 0 := rfl
    cases h2 : i.2 with
    | false =>
      by_cases a : 0 ≤ lineF i.1 0 ∧ lineF i.1 0 ≤ 200
      · skip
        have E := (tk_no h6 h2).trans (to_line a)
        rw [E]
        simp only [ho, h2, w1, w2, w3, e0, h2, a, Int.toNat_zero, Bool.not_not, decide_eq_true_eq, decide_eq_false_iff_not, Bool.not_true, Bool.not_false, btw_iff, btw_not, true_implies, false_implies, not_true_eq_false, not_false_eq_true, Bool.false_eq_true, Bool.true_eq_false, false_and, true_and, and_true, SI2A, eq_self]
        repeat' (with_reducible first | exact trivial | apply And.intro | intro _)
        all_goals first | omega | (with_reducible rfl) | (with_reducible assumption) | (show noSkip _; rfl) | (show smallA _ _; exact ⟨by omega, by omega, by omega⟩) | (with_reducible exact (decide_eq_true (by omega)).symm) | (with_reducible exact (decide_eq_false (by omega)).symm) | (with_reducible exact (rest_some (by omega)).symm) | (with_reducible exact (rest_none (by omega)).symm) | (exfalso; omega) | (exfalso; contradiction) | (with_reducible exact decide_eq_true (by omega)) | (with_reducible exact decide_eq_false (by omega)) | (with_reducible exact (congrArg (fun z => z.1.1) E)) | (with_reducible exact (congrArg (fun z => z.1.2) E)) | (with_reducible exact (congrArg (fun z => z.2.1) E)) | (with_reducible exact (congrArg (fun z => z.2.2) E)) | decide
      · by_cases b : 200 < lineF i.1 0 ∨ 201 < ByteArray.size i.1
        · skip
          have E := (tk_no h6 h2).trans (to_long a b)
          rw [E]
          simp only [ho, h2, w1, w2, w3, e0, h2, a, Int.toNat_zero, Bool.not_not, decide_eq_true_eq, decide_eq_false_iff_not, Bool.not_true, Bool.not_false, btw_iff, btw_not, true_implies, false_implies, not_true_eq_false, not_false_eq_true, Bool.false_eq_true, Bool.true_eq_false, false_and, true_and, and_true, SI2A, eq_self]
          repeat' (with_reducible first | exact trivial | apply And.intro | intro _)
          all_goals first | omega | (with_reducible rfl) | (with_reducible assumption) | (show noSkip _; rfl) | (show smallA _ _; exact ⟨by omega, by omega, by omega⟩) | (with_reducible exact (decide_eq_true (by omega)).symm) | (with_reducible exact (decide_eq_false (by omega)).symm) | (with_reducible exact (rest_some (by omega)).symm) | (with_reducible exact (rest_none (by omega)).symm) | (exfalso; omega) | (exfalso; contradiction) | (with_reducible exact decide_eq_true (by omega)) | (with_reducible exact decide_eq_false (by omega)) | (with_reducible exact (congrArg (fun z => z.1.1) E)) | (with_reducible exact (congrArg (fun z => z.1.2) E)) | (with_reducible exact (congrArg (fun z => z.2.1) E)) | (with_reducible exact (congrArg (fun z => z.2.2) E)) | decide
        · skip
          have E := (tk_no h6 h2).trans (to_wait a b)
          rw [E]
          simp only [ho, h2, w1, w2, w3, e0, h2, a, Int.toNat_zero, Bool.not_not, decide_eq_true_eq, decide_eq_false_iff_not, Bool.not_true, Bool.not_false, btw_iff, btw_not, true_implies, false_implies, not_true_eq_false, not_false_eq_true, Bool.false_eq_true, Bool.true_eq_false, false_and, true_and, and_true, SI2A, eq_self]
          repeat' (with_reducible first | exact trivial | apply And.intro | intro _)
          all_goals first | omega | (with_reducible rfl) | (with_reducible assumption) | (show noSkip _; rfl) | (show smallA _ _; exact ⟨by omega, by omega, by omega⟩) | (with_reducible exact (decide_eq_true (by omega)).symm) | (with_reducible exact (decide_eq_false (by omega)).symm) | (with_reducible exact (rest_some (by omega)).symm) | (with_reducible exact (rest_none (by omega)).symm) | (exfalso; omega) | (exfalso; contradiction) | (with_reducible exact decide_eq_true (by omega)) | (with_reducible exact decide_eq_false (by omega)) | (with_reducible exact (congrArg (fun z => z.1.1) E)) | (with_reducible exact (congrArg (fun z => z.1.2) E)) | (with_reducible exact (congrArg (fun z => z.2.1) E)) | (with_reducible exact (congrArg (fun z => z.2.2) E)) | decide
    | true =>
      by_cases h3 : twoI i.1 0 < 0
      · skip
        have E := tk_skip h6 h2 h3
        rw [E]
        simp only [ho, h2, w1, w2, w3, e0, h3, rest_none h3, Int.toNat_zero, Bool.not_not, decide_eq_true_eq, decide_eq_false_iff_not, Bool.not_true, Bool.not_false, btw_iff, btw_not, true_implies, false_implies, not_true_eq_false, not_false_eq_true, Bool.false_eq_true, Bool.true_eq_false, false_and, true_and, and_true, SI2A, eq_self]
        repeat' (with_reducible first | exact trivial | apply And.intro | intro _)
        all_goals first | omega | (with_reducible rfl) | (with_reducible assumption) | (show noSkip _; rfl) | (show smallA _ _; exact ⟨by omega, by omega, by omega⟩) | (with_reducible exact (decide_eq_true (by omega)).symm) | (with_reducible exact (decide_eq_false (by omega)).symm) | (with_reducible exact (rest_some (by omega)).symm) | (with_reducible exact (rest_none (by omega)).symm) | (exfalso; omega) | (exfalso; contradiction) | (with_reducible exact decide_eq_true (by omega)) | (with_reducible exact decide_eq_false (by omega)) | (with_reducible exact (congrArg (fun z => z.1.1) E)) | (with_reducible exact (congrArg (fun z => z.1.2) E)) | (with_reducible exact (congrArg (fun z => z.2.1) E)) | (with_reducible exact (congrArg (fun z => z.2.2) E)) | decide
      · skip
        by_cases a : 0 ≤ lineF (restF i.1) 0 ∧ lineF (restF i.1) 0 ≤ 200
        · skip
          have E := (tk_go h6 h2 h3).trans (to_line a)
          rw [E]
          simp only [ho, h2, w1, w2, w3, e0, h3, a, Int.toNat_zero, Bool.not_not, decide_eq_true_eq, decide_eq_false_iff_not, Bool.not_true, Bool.not_false, btw_iff, btw_not, true_implies, false_implies, not_true_eq_false, not_false_eq_true, Bool.false_eq_true, Bool.true_eq_false, false_and, true_and, and_true, SI2A, eq_self]
          repeat' (with_reducible first | exact trivial | apply And.intro | intro _)
          all_goals first | omega | (with_reducible rfl) | (with_reducible assumption) | (show noSkip _; rfl) | (show smallA _ _; exact ⟨by omega, by omega, by omega⟩) | (with_reducible exact (decide_eq_true (by omega)).symm) | (with_reducible exact (decide_eq_false (by omega)).symm) | (with_reducible exact (rest_some (by omega)).symm) | (with_reducible exact (rest_none (by omega)).symm) | (exfalso; omega) | (exfalso; contradiction) | (with_reducible exact decide_eq_true (by omega)) | (with_reducible exact decide_eq_false (by omega)) | (with_reducible exact (congrArg (fun z => z.1.1) E)) | (with_reducible exact (congrArg (fun z => z.1.2) E)) | (with_reducible exact (congrArg (fun z => z.2.1) E)) | (with_reducible exact (congrArg (fun z => z.2.2) E)) | decide
        · by_cases b : 200 < lineF (restF i.1) 0 ∨ 201 < ByteArray.size (restF i.1)
          · skip
            have E := (tk_go h6 h2 h3).trans (to_long a b)
            rw [E]
            simp only [ho, h2, w1, w2, w3, e0, h3, a, Int.toNat_zero, Bool.not_not, decide_eq_true_eq, decide_eq_false_iff_not, Bool.not_true, Bool.not_false, btw_iff, btw_not, true_implies, false_implies, not_true_eq_false, not_false_eq_true, Bool.false_eq_true, Bool.true_eq_false, false_and, true_and, and_true, SI2A, eq_self]
            repeat' (with_reducible first | exact trivial | apply And.intro | intro _)
            all_goals first | omega | (with_reducible rfl) | (with_reducible assumption) | (show noSkip _; rfl) | (show smallA _ _; exact ⟨by omega, by omega, by omega⟩) | (with_reducible exact (decide_eq_true (by omega)).symm) | (with_reducible exact (decide_eq_false (by omega)).symm) | (with_reducible exact (rest_some (by omega)).symm) | (with_reducible exact (rest_none (by omega)).symm) | (exfalso; omega) | (exfalso; contradiction) | (with_reducible exact decide_eq_true (by omega)) | (with_reducible exact decide_eq_false (by omega)) | (with_reducible exact (congrArg (fun z => z.1.1) E)) | (with_reducible exact (congrArg (fun z => z.1.2) E)) | (with_reducible exact (congrArg (fun z => z.2.1) E)) | (with_reducible exact (congrArg (fun z => z.2.2) E)) | decide
          · skip
            have E := (tk_go h6 h2 h3).trans (to_wait a b)
            rw [E]
            simp only [ho, h2, w1, w2, w3, e0, h3, a, Int.toNat_zero, Bool.not_not, decide_eq_true_eq, decide_eq_false_iff_not, Bool.not_true, Bool.not_false, btw_iff, btw_not, true_implies, false_implies, not_true_eq_false, not_false_eq_true, Bool.false_eq_true, Bool.true_eq_false, false_and, true_and, and_true, SI2A, eq_self]
            repeat' (with_reducible first | exact trivial | apply And.intro | intro _)
            all_goals first | omega | (with_reducible rfl) | (with_reducible assumption) | (show noSkip _; rfl) | (show smallA _ _; exact ⟨by omega, by omega, by omega⟩) | (with_reducible exact (decide_eq_true (by omega)).symm) | (with_reducible exact (decide_eq_false (by omega)).symm) | (with_reducible exact (rest_some (by omega)).symm) | (with_reducible exact (rest_none (by omega)).symm) | (exfalso; omega) | (exfalso; contradiction) | (with_reducible exact decide_eq_true (by omega)) | (with_reducible exact decide_eq_false (by omega)) | (with_reducible exact (congrArg (fun z => z.1.1) E)) | (with_reducible exact (congrArg (fun z => z.1.2) E)) | (with_reducible exact (congrArg (fun z => z.2.1) E)) | (with_reducible exact (congrArg (fun z => z.2.2) E)) | decide
  · have ho : inOk i = false := leI_false.2 (by omega)
    rw [tk_big h6]
    simp only [ho, Bool.not_false, SI2A, eq_self]
    repeat' (with_reducible first | exact trivial | apply And.intro | intro _)
    all_goals first | (with_reducible rfl) | (exfalso; simp_all; done)
def e_i_TakeLine : Entry Tryz.prog := ⟨14, [.s tyIn], fun x => True, fun x => .tp [.ag [.str (takeF x.1).1.1, .bool (takeF x.1).1.2], .c (.str (takeF x.1).2.1), .c (.int .i64 (takeF x.1).2.2)], fun _ => [], fun x hx => b_i_TakeLine x.1, Tryz.call14⟩
def k0orv2t (i : GIn) : Prop := (T2 ((((((true = true ∧ leC (.str (ByteArray.extract i.1 (Int.toNat (IntKind.wrap .i64 (lineF i.1 0 + 2))) (Int.toNat ((ByteArray.size i.1 : Nat) : Int)))) (.str (takeF i).1.1)) ∧ (true = true ∧ leC (.bool false) (.bool (takeF i).1.2)) ∧ True)) ∧ (true = true ∧ leC (.str (ByteArray.extract i.1 (Int.toNat 0) (Int.toNat (lineF i.1 0)))) (.str (takeF i).2.1)) ∧ (true = true ∧ leC (.int .i64 1) (.int .i64 (takeF i).2.2)) ∧ True)) ∧ true = true))
def k4orv2t (i : GIn) : Prop := ((0 : Int) ≤ (IntKind.wrap .i64 (twoI i.1 (Int.toNat 0) + 2)) ∧ ((IntKind.wrap .i64 (twoI i.1 (Int.toNat 0) + 2)) : Int) ≤ ((ByteArray.size i.1 : Nat) : Int) ∧ (((ByteArray.size i.1 : Nat) : Int) : Int) ≤ ((ByteArray.size i.1 : Nat) : Int))
def k5orv2t (i : GIn) : Prop := (true = true ∧ leC (.str (⟨#[]⟩ : ByteArray)) (.str (takeF i).2.1))
def k1orv2t (i : GIn) : Prop := (T2 ((smallA i.1 0 ∧ true = true) ∧ (T3 (bif (geI (twoI i.1 (Int.toNat 0)) 0) then (T4 ((k4orv2t i) ∧ (T4 ((((((true = true ∧ leC (.str (ByteArray.extract i.1 (Int.toNat (IntKind.wrap .i64 (twoI i.1 (Int.toNat 0) + 2))) (Int.toNat ((ByteArray.size i.1 : Nat) : Int)))) (.str (takeF i).1.1)) ∧ (true = true ∧ leC (.bool false) (.bool (takeF i).1.2)) ∧ True)) ∧ (k5orv2t i) ∧ (true = true ∧ leC (.int .i64 2) (.int .i64 (takeF i).2.2)) ∧ True)) ∧ true = true)))) else (T2 ((ByteArray.size i.1 ≤ 1048576 ∧ true = true) ∧ (T4 ((((((true = true ∧ leC (.str (crF i.1)) (.str (takeF i).1.1)) ∧ (true = true ∧ leC (.bool true) (.bool (takeF i).1.2)) ∧ True)) ∧ (k5orv2t i) ∧ (true = true ∧ leC (.int .i64 2) (.int .i64 (takeF i).2.2)) ∧ True)) ∧ true = true))))))))
def k2orv2t (i : GIn) : Prop := (T4 ((((((true = true ∧ leC (.str i.1) (.str (takeF i).1.1)) ∧ (true = true ∧ leC (.bool i.2) (.bool (takeF i).1.2)) ∧ True)) ∧ (k5orv2t i) ∧ (true = true ∧ leC (.int .i64 0) (.int .i64 (takeF i).2.2)) ∧ True)) ∧ true = true))
def k3orv2t (i : GIn) : Prop := ((0 : Int) ≤ 0 ∧ (0 : Int) ≤ lineF i.1 0 ∧ (lineF i.1 0 : Int) ≤ ((ByteArray.size i.1 : Nat) : Int))
theorem b_s_TakeLine0 (i : GIn) (hpre : noSkip i) : BCalls Tryz.prog 15 [.ag [.str i.1, .bool i.2]] (.tp [.ag [.str (takeF i).1.1, .bool (takeF i).1.2], .c (.str (takeF i).2.1), .c (.int .i64 (takeF i).2.2)]) [] := by
  refine bc0 [e_s_InOk, e_s_l18Two, e_s_l18Left, e_s_LineEnd, e_s_l1In] [] [] [] L0 Tryz.func15 (fun hwf => ?_)
  refine Eq.mpr (β := (T5 ((True ∧ true = true) ∧ (True ∧ (bif (!(inOk i)) then (k2orv2t i) else (T2 (bif i.2 then (T2 ((smallA i.1 0 ∧ true = true) ∧ (T3 (bif (ltI (twoI i.1 (Int.toNat 0)) 0) then (T2 ((ByteArray.size i.1 ≤ 1048576 ∧ true = true) ∧ (T6 ((((((true = true ∧ leC (.str (crF i.1)) (.str (takeF i).1.1)) ∧ (true = true ∧ leC (.bool i.2) (.bool (takeF i).1.2)) ∧ True)) ∧ (k5orv2t i) ∧ (true = true ∧ leC (.int .i64 0) (.int .i64 (takeF i).2.2)) ∧ True)) ∧ true = true)))) else (T4 ((k4orv2t i) ∧ (True ∧ False))))))) else (T2 ((ByteArray.size i.1 ≤ 1048576 ∧ true = true) ∧ (T2 ((True ∧ true = true) ∧ (bif btw (lineF i.1 0) 0 200 then ((true = true ∧ true = true) ∧ (T4 (((0 : Int) ≤ (IntKind.wrap .i64 (lineF i.1 0 + 2)) ∧ ((IntKind.wrap .i64 (lineF i.1 0 + 2)) : Int) ≤ ((ByteArray.size i.1 : Nat) : Int) ∧ (((ByteArray.size i.1 : Nat) : Int) : Int) ≤ ((ByteArray.size i.1 : Nat) : Int)) ∧ (T2 ((True ∧ ((True ∧ (((k3orv2t i) ∧ (True ∧ (k0orv2t i))) ∧ ((True ∧ ((k3orv2t i) ∧ (k0orv2t i)))))) ∧ ((T2 ((k3orv2t i) ∧ (k0orv2t i)))))) ∧ ((T3 ((k3orv2t i) ∧ (k0orv2t i))))))))) else (T3 (bif (gtI (lineF i.1 0) 200) then (True ∧ (k1orv2t i)) else (T5 (bif (gtI ((ByteArray.size i.1 : Nat) : Int) 201) then (k1orv2t i) else (k2orv2t i))))))))))))))))) (by kernel_rfl) ?_
  unfold k3orv2t k2orv2t k1orv2t k5orv2t k4orv2t k0orv2t T2 T3 T4 T5 T6
  have hr := rest_size (s := i.1)
  have hg := lineF_ge i.1 0 (Nat.zero_le _)
  have hg2 := lineF_ge (restF i.1) 0 (Nat.zero_le _)
  have ht := twoI_ge i.1 0
  have hs : ByteArray.size i.1 ≤ maxLen := hwf.1.1
  by_cases h6 : ByteArray.size i.1 ≤ 600
  · have ho : inOk i = true := leI_true.2 (by omega)
    have w1 : IntKind.wrap .i64 (lineF i.1 0 + 2) = lineF i.1 0 + 2 := w64i (by omega) (by omega)
    have w2 : IntKind.wrap .i64 (lineF (restF i.1) 0 + 2) = lineF (restF i.1) 0 + 2 := w64i (by omega) (by omega)
    have w3 : IntKind.wrap .i64 (twoI i.1 0 + 2) = twoI i.1 0 + 2 := w64i (by omega) (by omega)
    have e0 : Int.toNat 0 = 0 := rfl
    cases h2 : i.2 with
    | false =>
      by_cases a : 0 ≤ lineF i.1 0 ∧ lineF i.1 0 ≤ 200
      · skip
        have E := (tk_no h6 h2).trans (to_line a)
        rw [E]
        simp only [ho, h2, w1, w2, w3, e0, h2, a, Int.toNat_zero, Bool.not_not, decide_eq_true_eq, decide_eq_false_iff_not, Bool.not_true, Bool.not_false, btw_iff, btw_not, true_implies, false_implies, not_true_eq_false, not_false_eq_true, Bool.false_eq_true, Bool.true_eq_false, false_and, true_and, and_true, SI2A, eq_self]
        repeat' (with_reducible first | exact trivial | apply And.intro | intro _)
        all_goals first | omega | (with_reducible rfl) | (with_reducible assumption) | (show noSkip _; rfl) | (show smallA _ _; exact ⟨by omega, by omega, by omega⟩) | (with_reducible exact (decide_eq_true (by omega)).symm) | (with_reducible exact (decide_eq_false (by omega)).symm) | (with_reducible exact (rest_some (by omega)).symm) | (with_reducible exact (rest_none (by omega)).symm) | (exfalso; omega) | (exfalso; contradiction) | (with_reducible exact decide_eq_true (by omega)) | (with_reducible exact decide_eq_false (by omega)) | (with_reducible exact (congrArg (fun z => z.1.1) E)) | (with_reducible exact (congrArg (fun z => z.1.2) E)) | (with_reducible exact (congrArg (fun z => z.2.1) E)) | (with_reducible exact (congrArg (fun z => z.2.2) E)) | decide
      · by_cases b : 200 < lineF i.1 0 ∨ 201 < ByteArray.size i.1
        · skip
          have E := (tk_no h6 h2).trans (to_long a b)
          rw [E]
          simp only [ho, h2, w1, w2, w3, e0, h2, a, Int.toNat_zero, Bool.not_not, decide_eq_true_eq, decide_eq_false_iff_not, Bool.not_true, Bool.not_false, btw_iff, btw_not, true_implies, false_implies, not_true_eq_false, not_false_eq_true, Bool.false_eq_true, Bool.true_eq_false, false_and, true_and, and_true, SI2A, eq_self]
          repeat' (with_reducible first | exact trivial | apply And.intro | intro _)
          all_goals first | omega | (with_reducible rfl) | (with_reducible assumption) | (show noSkip _; rfl) | (show smallA _ _; exact ⟨by omega, by omega, by omega⟩) | (with_reducible exact (decide_eq_true (by omega)).symm) | (with_reducible exact (decide_eq_false (by omega)).symm) | (with_reducible exact (rest_some (by omega)).symm) | (with_reducible exact (rest_none (by omega)).symm) | (exfalso; omega) | (exfalso; contradiction) | (with_reducible exact decide_eq_true (by omega)) | (with_reducible exact decide_eq_false (by omega)) | (with_reducible exact (congrArg (fun z => z.1.1) E)) | (with_reducible exact (congrArg (fun z => z.1.2) E)) | (with_reducible exact (congrArg (fun z => z.2.1) E)) | (with_reducible exact (congrArg (fun z => z.2.2) E)) | decide
        · skip
          have E := (tk_no h6 h2).trans (to_wait a b)
          rw [E]
          simp only [ho, h2, w1, w2, w3, e0, h2, a, Int.toNat_zero, Bool.not_not, decide_eq_true_eq, decide_eq_false_iff_not, Bool.not_true, Bool.not_false, btw_iff, btw_not, true_implies, false_implies, not_true_eq_false, not_false_eq_true, Bool.false_eq_true, Bool.true_eq_false, false_and, true_and, and_true, SI2A, eq_self]
          repeat' (with_reducible first | exact trivial | apply And.intro | intro _)
          all_goals first | omega | (with_reducible rfl) | (with_reducible assumption) | (show noSkip _; rfl) | (show smallA _ _; exact ⟨by omega, by omega, by omega⟩) | (with_reducible exact (decide_eq_true (by omega)).symm) | (with_reducible exact (decide_eq_false (by omega)).symm) | (with_reducible exact (rest_some (by omega)).symm) | (with_reducible exact (rest_none (by omega)).symm) | (exfalso; omega) | (exfalso; contradiction) | (with_reducible exact decide_eq_true (by omega)) | (with_reducible exact decide_eq_false (by omega)) | (with_reducible exact (congrArg (fun z => z.1.1) E)) | (with_reducible exact (congrArg (fun z => z.1.2) E)) | (with_reducible exact (congrArg (fun z => z.2.1) E)) | (with_reducible exact (congrArg (fun z => z.2.2) E)) | decide
    | true =>
      exact absurd hpre (by show ¬ i.2 = false; rw [h2]; decide)
  · have ho : inOk i = false := leI_false.2 (by omega)
    rw [tk_big h6]
    simp only [ho, Bool.not_false, SI2A, eq_self]
    repeat' (with_reducible first | exact trivial | apply And.intro | intro _)
    all_goals first | (with_reducible rfl) | (exfalso; simp_all; done)
def e_s_TakeLine0 : Entry Tryz.prog := ⟨15, [.s tyIn], fun x => noSkip x.1, fun x => .tp [.ag [.str (takeF x.1).1.1, .bool (takeF x.1).1.2], .c (.str (takeF x.1).2.1), .c (.int .i64 (takeF x.1).2.2)], fun _ => [], fun x hx => b_s_TakeLine0 x.1 hx, Tryz.call15⟩
def k08flo7 (i : GIn) : Prop := (T2 ((((((true = true ∧ leC (.str (ByteArray.extract i.1 (Int.toNat (IntKind.wrap .i64 (lineF i.1 0 + 2))) (Int.toNat ((ByteArray.size i.1 : Nat) : Int)))) (.str (takeF i).1.1)) ∧ (true = true ∧ leC (.bool false) (.bool (takeF i).1.2)) ∧ True)) ∧ (true = true ∧ leC (.str (ByteArray.extract i.1 (Int.toNat 0) (Int.toNat (lineF i.1 0)))) (.str (takeF i).2.1)) ∧ (true = true ∧ leC (.int .i64 1) (.int .i64 (takeF i).2.2)) ∧ True)) ∧ true = true))
def k48flo7 (i : GIn) : Prop := ((0 : Int) ≤ (IntKind.wrap .i64 (twoI i.1 (Int.toNat 0) + 2)) ∧ ((IntKind.wrap .i64 (twoI i.1 (Int.toNat 0) + 2)) : Int) ≤ ((ByteArray.size i.1 : Nat) : Int) ∧ (((ByteArray.size i.1 : Nat) : Int) : Int) ≤ ((ByteArray.size i.1 : Nat) : Int))
def k58flo7 (i : GIn) : Prop := (true = true ∧ leC (.str (⟨#[]⟩ : ByteArray)) (.str (takeF i).2.1))
def k18flo7 (i : GIn) : Prop := (T2 ((smallA i.1 0 ∧ true = true) ∧ (T3 (bif (geI (twoI i.1 (Int.toNat 0)) 0) then (T4 ((k48flo7 i) ∧ (T4 ((((((true = true ∧ leC (.str (ByteArray.extract i.1 (Int.toNat (IntKind.wrap .i64 (twoI i.1 (Int.toNat 0) + 2))) (Int.toNat ((ByteArray.size i.1 : Nat) : Int)))) (.str (takeF i).1.1)) ∧ (true = true ∧ leC (.bool false) (.bool (takeF i).1.2)) ∧ True)) ∧ (k58flo7 i) ∧ (true = true ∧ leC (.int .i64 2) (.int .i64 (takeF i).2.2)) ∧ True)) ∧ true = true)))) else (T2 ((ByteArray.size i.1 ≤ 1048576 ∧ true = true) ∧ (T4 ((((((true = true ∧ leC (.str (crF i.1)) (.str (takeF i).1.1)) ∧ (true = true ∧ leC (.bool true) (.bool (takeF i).1.2)) ∧ True)) ∧ (k58flo7 i) ∧ (true = true ∧ leC (.int .i64 2) (.int .i64 (takeF i).2.2)) ∧ True)) ∧ true = true))))))))
def k28flo7 (i : GIn) : Prop := (T4 ((((((true = true ∧ leC (.str i.1) (.str (takeF i).1.1)) ∧ (true = true ∧ leC (.bool i.2) (.bool (takeF i).1.2)) ∧ True)) ∧ (k58flo7 i) ∧ (true = true ∧ leC (.int .i64 0) (.int .i64 (takeF i).2.2)) ∧ True)) ∧ true = true))
def k38flo7 (i : GIn) : Prop := ((0 : Int) ≤ 0 ∧ (0 : Int) ≤ lineF i.1 0 ∧ (lineF i.1 0 : Int) ≤ ((ByteArray.size i.1 : Nat) : Int))
theorem b_s_TakeLine (i : GIn) : BCalls Tryz.prog 15 [.ag [.str i.1, .bool i.2]] (.tp [.ag [.str (takeF i).1.1, .bool (takeF i).1.2], .c (.str (takeF i).2.1), .c (.int .i64 (takeF i).2.2)]) [] := by
  refine bc0 [e_s_InOk, e_s_l18Two, e_s_l18Left, e_s_TakeLine0, e_s_LineEnd, e_s_l1In] [] [] [] L0 Tryz.func15 (fun hwf => ?_)
  refine Eq.mpr (β := (T5 ((True ∧ true = true) ∧ (True ∧ (bif (!(inOk i)) then (k28flo7 i) else (T2 (bif i.2 then (T2 ((smallA i.1 0 ∧ true = true) ∧ (T3 (bif (ltI (twoI i.1 (Int.toNat 0)) 0) then (T2 ((ByteArray.size i.1 ≤ 1048576 ∧ true = true) ∧ (T6 ((((((true = true ∧ leC (.str (crF i.1)) (.str (takeF i).1.1)) ∧ (true = true ∧ leC (.bool i.2) (.bool (takeF i).1.2)) ∧ True)) ∧ (k58flo7 i) ∧ (true = true ∧ leC (.int .i64 0) (.int .i64 (takeF i).2.2)) ∧ True)) ∧ true = true)))) else (T4 ((k48flo7 i) ∧ (True ∧ ((noSkip ((ByteArray.extract i.1 (Int.toNat (IntKind.wrap .i64 (twoI i.1 (Int.toNat 0) + 2))) (Int.toNat ((ByteArray.size i.1 : Nat) : Int))), false) ∧ true = true) ∧ (T6 ((((((true = true ∧ leC (.str (takeF ((ByteArray.extract i.1 (Int.toNat (IntKind.wrap .i64 (twoI i.1 (Int.toNat 0) + 2))) (Int.toNat ((ByteArray.size i.1 : Nat) : Int))), false)).1.1) (.str (takeF i).1.1)) ∧ (true = true ∧ leC (.bool (takeF ((ByteArray.extract i.1 (Int.toNat (IntKind.wrap .i64 (twoI i.1 (Int.toNat 0) + 2))) (Int.toNat ((ByteArray.size i.1 : Nat) : Int))), false)).1.2) (.bool (takeF i).1.2)) ∧ True)) ∧ (true = true ∧ leC (.str (takeF ((ByteArray.extract i.1 (Int.toNat (IntKind.wrap .i64 (twoI i.1 (Int.toNat 0) + 2))) (Int.toNat ((ByteArray.size i.1 : Nat) : Int))), false)).2.1) (.str (takeF i).2.1)) ∧ (true = true ∧ leC (.int .i64 (takeF ((ByteArray.extract i.1 (Int.toNat (IntKind.wrap .i64 (twoI i.1 (Int.toNat 0) + 2))) (Int.toNat ((ByteArray.size i.1 : Nat) : Int))), false)).2.2) (.int .i64 (takeF i).2.2)) ∧ True)) ∧ true = true)))))))))) else (T2 ((ByteArray.size i.1 ≤ 1048576 ∧ true = true) ∧ (T2 ((True ∧ true = true) ∧ (bif btw (lineF i.1 0) 0 200 then ((true = true ∧ true = true) ∧ (T4 (((0 : Int) ≤ (IntKind.wrap .i64 (lineF i.1 0 + 2)) ∧ ((IntKind.wrap .i64 (lineF i.1 0 + 2)) : Int) ≤ ((ByteArray.size i.1 : Nat) : Int) ∧ (((ByteArray.size i.1 : Nat) : Int) : Int) ≤ ((ByteArray.size i.1 : Nat) : Int)) ∧ (T2 ((True ∧ ((True ∧ (((k38flo7 i) ∧ (True ∧ (k08flo7 i))) ∧ ((True ∧ ((k38flo7 i) ∧ (k08flo7 i)))))) ∧ ((T2 ((k38flo7 i) ∧ (k08flo7 i)))))) ∧ ((T3 ((k38flo7 i) ∧ (k08flo7 i))))))))) else (T3 (bif (gtI (lineF i.1 0) 200) then (True ∧ (k18flo7 i)) else (T5 (bif (gtI ((ByteArray.size i.1 : Nat) : Int) 201) then (k18flo7 i) else (k28flo7 i))))))))))))))))) (by kernel_rfl) ?_
  unfold k38flo7 k28flo7 k18flo7 k58flo7 k48flo7 k08flo7 T2 T3 T4 T5 T6
  have hr := rest_size (s := i.1)
  have hg := lineF_ge i.1 0 (Nat.zero_le _)
  have hg2 := lineF_ge (restF i.1) 0 (Nat.zero_le _)
  have ht := twoI_ge i.1 0
  have hs : ByteArray.size i.1 ≤ maxLen := hwf.1.1
  by_cases h6 : ByteArray.size i.1 ≤ 600
  · have ho : inOk i = true := leI_true.2 (by omega)
    have w1 : IntKind.wrap .i64 (lineF i.1 0 + 2) = lineF i.1 0 + 2 := w64i (by omega) (by omega)
    have w2 : IntKind.wrap .i64 (lineF (restF i.1) 0 + 2) = lineF (restF i.1) 0 + 2 := w64i (by omega) (by omega)
    have w3 : IntKind.wrap .i64 (twoI i.1 0 + 2) = twoI i.1 0 + 2 := w64i (by omega) (by omega)
    have e0 : Int.toNat 0 = 0 := rfl
    cases h2 : i.2 with
    | false =>
      by_cases a : 0 ≤ lineF i.1 0 ∧ lineF i.1 0 ≤ 200
      · skip
        have E := (tk_no h6 h2).trans (to_line a)
        rw [E]
        simp only [ho, h2, w1, w2, w3, e0, h2, a, Int.toNat_zero, Bool.not_not, decide_eq_true_eq, decide_eq_false_iff_not, Bool.not_true, Bool.not_false, btw_iff, btw_not, true_implies, false_implies, not_true_eq_false, not_false_eq_true, Bool.false_eq_true, Bool.true_eq_false, false_and, true_and, and_true, SI2A, eq_self]
        repeat' (with_reducible first | exact trivial | apply And.intro | intro _)
        all_goals first | omega | (with_reducible rfl) | (with_reducible assumption) | (show noSkip _; rfl) | (show smallA _ _; exact ⟨by omega, by omega, by omega⟩) | (with_reducible exact (decide_eq_true (by omega)).symm) | (with_reducible exact (decide_eq_false (by omega)).symm) | (with_reducible exact (rest_some (by omega)).symm) | (with_reducible exact (rest_none (by omega)).symm) | (exfalso; omega) | (exfalso; contradiction) | (with_reducible exact decide_eq_true (by omega)) | (with_reducible exact decide_eq_false (by omega)) | (with_reducible exact (congrArg (fun z => z.1.1) E)) | (with_reducible exact (congrArg (fun z => z.1.2) E)) | (with_reducible exact (congrArg (fun z => z.2.1) E)) | (with_reducible exact (congrArg (fun z => z.2.2) E)) | decide
      · by_cases b : 200 < lineF i.1 0 ∨ 201 < ByteArray.size i.1
        · skip
          have E := (tk_no h6 h2).trans (to_long a b)
          rw [E]
          simp only [ho, h2, w1, w2, w3, e0, h2, a, Int.toNat_zero, Bool.not_not, decide_eq_true_eq, decide_eq_false_iff_not, Bool.not_true, Bool.not_false, btw_iff, btw_not, true_implies, false_implies, not_true_eq_false, not_false_eq_true, Bool.false_eq_true, Bool.true_eq_false, false_and, true_and, and_true, SI2A, eq_self]
          repeat' (with_reducible first | exact trivial | apply And.intro | intro _)
          all_goals first | omega | (with_reducible rfl) | (with_reducible assumption) | (show noSkip _; rfl) | (show smallA _ _; exact ⟨by omega, by omega, by omega⟩) | (with_reducible exact (decide_eq_true (by omega)).symm) | (with_reducible exact (decide_eq_false (by omega)).symm) | (with_reducible exact (rest_some (by omega)).symm) | (with_reducible exact (rest_none (by omega)).symm) | (exfalso; omega) | (exfalso; contradiction) | (with_reducible exact decide_eq_true (by omega)) | (with_reducible exact decide_eq_false (by omega)) | (with_reducible exact (congrArg (fun z => z.1.1) E)) | (with_reducible exact (congrArg (fun z => z.1.2) E)) | (with_reducible exact (congrArg (fun z => z.2.1) E)) | (with_reducible exact (congrArg (fun z => z.2.2) E)) | decide
        · skip
          have E := (tk_no h6 h2).trans (to_wait a b)
          rw [E]
          simp only [ho, h2, w1, w2, w3, e0, h2, a, Int.toNat_zero, Bool.not_not, decide_eq_true_eq, decide_eq_false_iff_not, Bool.not_true, Bool.not_false, btw_iff, btw_not, true_implies, false_implies, not_true_eq_false, not_false_eq_true, Bool.false_eq_true, Bool.true_eq_false, false_and, true_and, and_true, SI2A, eq_self]
          repeat' (with_reducible first | exact trivial | apply And.intro | intro _)
          all_goals first | omega | (with_reducible rfl) | (with_reducible assumption) | (show noSkip _; rfl) | (show smallA _ _; exact ⟨by omega, by omega, by omega⟩) | (with_reducible exact (decide_eq_true (by omega)).symm) | (with_reducible exact (decide_eq_false (by omega)).symm) | (with_reducible exact (rest_some (by omega)).symm) | (with_reducible exact (rest_none (by omega)).symm) | (exfalso; omega) | (exfalso; contradiction) | (with_reducible exact decide_eq_true (by omega)) | (with_reducible exact decide_eq_false (by omega)) | (with_reducible exact (congrArg (fun z => z.1.1) E)) | (with_reducible exact (congrArg (fun z => z.1.2) E)) | (with_reducible exact (congrArg (fun z => z.2.1) E)) | (with_reducible exact (congrArg (fun z => z.2.2) E)) | decide
    | true =>
      by_cases h3 : twoI i.1 0 < 0
      · skip
        have E := tk_skip h6 h2 h3
        rw [E]
        simp only [ho, h2, w1, w2, w3, e0, h3, rest_none h3, Int.toNat_zero, Bool.not_not, decide_eq_true_eq, decide_eq_false_iff_not, Bool.not_true, Bool.not_false, btw_iff, btw_not, true_implies, false_implies, not_true_eq_false, not_false_eq_true, Bool.false_eq_true, Bool.true_eq_false, false_and, true_and, and_true, SI2A, eq_self]
        repeat' (with_reducible first | exact trivial | apply And.intro | intro _)
        all_goals first | omega | (with_reducible rfl) | (with_reducible assumption) | (show noSkip _; rfl) | (show smallA _ _; exact ⟨by omega, by omega, by omega⟩) | (with_reducible exact (decide_eq_true (by omega)).symm) | (with_reducible exact (decide_eq_false (by omega)).symm) | (with_reducible exact (rest_some (by omega)).symm) | (with_reducible exact (rest_none (by omega)).symm) | (exfalso; omega) | (exfalso; contradiction) | (with_reducible exact decide_eq_true (by omega)) | (with_reducible exact decide_eq_false (by omega)) | (with_reducible exact (congrArg (fun z => z.1.1) E)) | (with_reducible exact (congrArg (fun z => z.1.2) E)) | (with_reducible exact (congrArg (fun z => z.2.1) E)) | (with_reducible exact (congrArg (fun z => z.2.2) E)) | decide
      · skip
        have TR := tk_rec h6 h2 h3
        simp only [ho, h2, w1, w2, w3, e0, h3, TR, Int.toNat_zero, Bool.not_not, decide_eq_true_eq, decide_eq_false_iff_not, Bool.not_true, Bool.not_false, btw_iff, btw_not, true_implies, false_implies, not_true_eq_false, not_false_eq_true, Bool.false_eq_true, Bool.true_eq_false, false_and, true_and, and_true, SI2A, eq_self]
        repeat' (with_reducible first | exact trivial | apply And.intro | intro _)
        all_goals first | omega | (with_reducible rfl) | (with_reducible assumption) | (show noSkip _; rfl) | (show smallA _ _; exact ⟨by omega, by omega, by omega⟩) | (with_reducible exact (decide_eq_true (by omega)).symm) | (with_reducible exact (decide_eq_false (by omega)).symm) | (with_reducible exact (rest_some (by omega)).symm) | (with_reducible exact (rest_none (by omega)).symm) | (exfalso; omega) | (exfalso; contradiction) | (with_reducible exact decide_eq_true (by omega)) | (with_reducible exact decide_eq_false (by omega)) | (with_reducible exact (congrArg (fun z => z.1.1) TR)) | (with_reducible exact (congrArg (fun z => z.1.2) TR)) | (with_reducible exact (congrArg (fun z => z.2.1) TR)) | (with_reducible exact (congrArg (fun z => z.2.2) TR)) | decide
  · have ho : inOk i = false := leI_false.2 (by omega)
    rw [tk_big h6]
    simp only [ho, Bool.not_false, SI2A, eq_self]
    repeat' (with_reducible first | exact trivial | apply And.intro | intro _)
    all_goals first | (with_reducible rfl) | (exfalso; simp_all; done)
def e_s_TakeLine : Entry Tryz.prog := ⟨15, [.s tyIn], fun x => True, fun x => .tp [.ag [.str (takeF x.1).1.1, .bool (takeF x.1).1.2], .c (.str (takeF x.1).2.1), .c (.int .i64 (takeF x.1).2.2)], fun _ => [], fun x hx => b_s_TakeLine x.1, Tryz.call15⟩
end Go.Proofs.YtbpapaponnfagaaGreatDoor
