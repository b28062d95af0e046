/-
  The law on taken lines.
  No condition but what the arguments' cells hold. Printed by vcgen.py.
-/
import Derived.Test.YtdfanfpembebmaaGreatDoorBBlDraw6
import Derived.Test.YtdfanfpembebmaaGreatDoorBBlTakeL
import Derived.Test.YtdfanfpembebmaaGreatDoorBLinePre
set_option linter.unusedSimpArgs false
set_option linter.unusedVariables false
set_option maxRecDepth 100000
set_option maxHeartbeats 4000000
namespace Go.Proofs.YtdfanfpembebmaaGreatDoor
open Go.ChangeShapes Go.WideShapes Go.ChangeAt Go.RowKit Go.Joins Go.Deep
open GoRep (rep bulk)

theorem takeO_facts (t : ByteArray) (h6 : t.size ≤ 600) : (takeO t).2.1.size ≤ 200 ∧ ((takeO t).2.2 = 1 ∨ (takeO t).2.1 = ⟨#[]⟩) ∧ (takeO t).1.1.size ≤ t.size ∧ ((takeO t).2.2 = 1 → lineF ((takeO t).2.1 ++ (⟨#[13, 10]⟩ : ByteArray)) 0 = (((takeO t).2.1.size : Nat) : Int)) := by
  by_cases a : 0 ≤ lineF t 0 ∧ lineF t 0 ≤ 200
  · rw [to_line a]
    have hg := lineF_ge t 0 (Nat.zero_le _)
    obtain ⟨n, hn⟩ : ∃ n : Nat, lineF t 0 = (n : Int) := ⟨(lineF t 0).toNat, by omega⟩
    have e : (lineF t 0).toNat = n := by omega
    have hs : (ByteArray.extract t 0 n).size = n := size_pre (by omega)
    refine ⟨?_, .inl rfl, ?_, fun _ => ?_⟩
    · show (ByteArray.extract t 0 (lineF t 0).toNat).size ≤ 200
      rw [e, hs]; omega
    · show (ByteArray.extract t _ t.size).size ≤ t.size
      rw [ByteArray.size_extract]; omega
    · show lineF (ByteArray.extract t 0 (lineF t 0).toNat ++ _) 0 = (((ByteArray.extract t 0 (lineF t 0).toNat).size : Nat) : Int)
      rw [e, hs]
      exact line_back hn
  · by_cases b : 200 < lineF t 0 ∨ 201 < t.size
    · rw [to_long a b]
      exact ⟨Nat.zero_le _, .inr rfl, rest_size, fun h => by cases h⟩
    · rw [to_wait a b]
      exact ⟨Nat.zero_le _, .inr rfl, Nat.le_refl _, fun h => by cases h⟩
theorem takeF_facts (i : GIn) : (takeF i).2.1.size ≤ 200 ∧ ((takeF i).2.2 = 1 ∨ (takeF i).2.1 = ⟨#[]⟩) ∧ (takeF i).1.1.size ≤ i.1.size ∧ ((takeF i).2.2 = 1 → lineF ((takeF i).2.1 ++ (⟨#[13, 10]⟩ : ByteArray)) 0 = (((takeF i).2.1.size : Nat) : Int)) := by
  by_cases h : i.1.size ≤ 600
  · cases h2 : i.2 with
    | false =>
      rw [tk_no h h2]
      exact takeO_facts i.1 h
    | true =>
      by_cases h3 : twoI i.1 0 < 0
      · rw [tk_skip h h2 h3]
        exact ⟨Nat.zero_le _, .inr rfl, rest_size, fun h => by cases h⟩
      · rw [tk_go h h2 h3]
        have hr := rest_size (s := i.1)
        obtain ⟨f1, f2, f3, f4⟩ := takeO_facts (restF i.1) (by omega)
        exact ⟨f1, f2, Nat.le_trans f3 hr, f4⟩
  · rw [tk_big h]
    exact ⟨Nat.zero_le _, .inr rfl, Nat.le_refl _, fun h => by cases h⟩
theorem takeF_ok {i : GIn} (h : inOk i = true) : inOk (takeF i).1 = true := leI_true.2 (by have := leI_true.1 h; have := (takeF_facts i).2.2.1; omega)
theorem b_l_big (code : List Int) : BCalls Tryz.prog 13 [.c (.hs .no (.int .u8) code)] (.c (.bool (gtI ((List.length code : Nat) : Int) 1048576))) [] := by
  refine bc0 [] [] [] [] L0 Tryz.func13 (fun hwf => ?_)
  refine Eq.mpr (β := (True ∧ (True ∧ (True ∧ (True ∧ (True ∧ (rB (gtI ((List.length code : Nat) : Int) 1048576) (gtI ((List.length code : Nat) : Int) 1048576)))))))) (by kernel_rfl) ?_
  simp only [SI2A, eq_self]
  repeat' (with_reducible first | exact trivial | apply And.intro | intro _)
  all_goals first
    | (with_reducible trivial)
    | omega
    | (with_reducible assumption)
def e_l_big : Entry Tryz.prog := ⟨13, [.v (.list (.int .u8))], fun x => True, fun x => .c (.bool (gtI ((List.length x.1 : Nat) : Int) 1048576)), fun _ => [], fun x hx => b_l_big x.1, Tryz.call13⟩
def drawTk (code : List Int) : GIn := (in18 (newC code)).1
theorem b_s_DrawTakeLine (code : List Int) : BCalls Tryz.prog 14 [.c (.hs .no (.int .u8) code)] (.ag [.str (drawTk code).1, .bool (drawTk code).2]) [] := by
  refine bc0 [e_s_l1New] [] [] [e_s_l18In] L0 Tryz.func14 (fun hwf => ?_)
  refine Eq.mpr (β := (True ∧ (True ∧ ((True ∧ true = true) ∧ ((cu (newC code)) ∧ (True ∧ ((((true = true ∧ leC (.str (in18 (newC code)).1.1) (.str (drawTk code).1)) ∧ (true = true ∧ leC (.bool (in18 (newC code)).1.2) (.bool (drawTk code).2)) ∧ True)) ∧ true = true))))))) (by kernel_rfl) ?_
  haveI := newC_ok (code := code) hwf.1.1
  simp only [SIU, cuE_eq, cu_eq, eq_self]
  repeat' (with_reducible first | exact trivial | apply And.intro | apply bifI | intro _)
  all_goals first
    | (with_reducible trivial)
    | omega
    | (with_reducible infer_instance)
    | (simp only [drawTk, cond_true, cond_false, Int.toNat_natCast, *]; done)
    | (subst_vars; simp only [drawTk, cond_true, cond_false, Int.toNat_natCast, *]; done)
    | (simp only [drawTk, cond_true, cond_false, *]; exact leC_refl)
def e_s_DrawTakeLine : Entry Tryz.prog := ⟨14, [.v (.list (.int .u8))], fun x => True, fun x => .ag [.str (drawTk x.1).1, .bool (drawTk x.1).2], fun _ => [], fun x hx => b_s_DrawTakeLine x.1, Tryz.call14⟩
def k1npi56 (code : List Int) : Prop := (T3 (bif (neI (takeF (drawTk code)).2.2 1) then (T3 (rB true true)) else (True ∧ (ByteArray.size (takeF (drawTk code)).2.1 + ByteArray.size (⟨#[13, 10]⟩ : ByteArray) ≤ maxLen ∧ ((ByteArray.size ((takeF (drawTk code)).2.1 ++ (⟨#[13, 10]⟩ : ByteArray)) ≤ 1048576 ∧ true = true) ∧ (T6 (rB (eqI (lineF ((takeF (drawTk code)).2.1 ++ (⟨#[13, 10]⟩ : ByteArray)) 0) ((ByteArray.size (takeF (drawTk code)).2.1 : Nat) : Int)) true)))))))
def k0npi56 (code : List Int) : Prop := (T9 (bif (leI ((ByteArray.size (takeF (drawTk code)).1.1 : Nat) : Int) ((ByteArray.size (drawTk code).1 : Nat) : Int)) then (True ∧ ((True ∧ true = true) ∧ (T2 (bif (!(inOk (drawTk code))) then (T3 (k1npi56 code)) else (True ∧ ((True ∧ true = true) ∧ (T3 (bif inOk (takeF (drawTk code)).1 then (k1npi56 code) else (T2 (rB false true)))))))))) else (T4 (rB false true))))
theorem b_l_FnTakeLine (code : List Int) : BCalls Tryz.prog 5 [.c (.hs .no (.int .u8) code)] (.c (.bool true)) [] := by
  refine bc0 [e_l_big, e_s_DrawTakeLine, e_i_TakeLine, e_s_TakeLine, e_i_InOk, e_i_LineEnd] [] [] [] L0 Tryz.func5 (fun hwf => ?_)
  refine Eq.mpr (β := (T2 ((True ∧ true = true) ∧ (bif gtI ((List.length code : Nat) : Int) 1048576 then (True ∧ (rB true true)) else (True ∧ ((True ∧ true = true) ∧ (T3 ((True ∧ true = true) ∧ (T9 ((True ∧ true = true) ∧ (T12 (bif (!eqS (takeF (drawTk code)).2.1 (takeF (drawTk code)).2.1) then (T4 (rB false true)) else (T5 (bif (neI (takeF (drawTk code)).2.2 (takeF (drawTk code)).2.2) then (T2 (rB false true)) else (T2 (true = true ∧ (True ∧ (bif (!(eqC_In (takeF (drawTk code)).1 (takeF (drawTk code)).1)) then (True ∧ (rB false true)) else (T4 (bif (leI ((ByteArray.size (takeF (drawTk code)).2.1 : Nat) : Int) 200) then (T3 (bif (eqI (takeF (drawTk code)).2.2 1) then (T3 (k0npi56 code)) else (T5 (bif (eqS (takeF (drawTk code)).2.1 (⟨#[]⟩ : ByteArray)) then (k0npi56 code) else (T6 (rB false true)))))) else (T8 (rB false true)))))))))))))))))))))) (by kernel_rfl) ?_
  unfold k0npi56 k1npi56 T12 T2 T3 T4 T5 T6 T8 T9
  simp only [SI2A, eq_self]
  generalize drawTk code = i at *
  obtain ⟨f1, f2, f3, f4⟩ := takeF_facts i
  have f5 := takeF_ok (i := i)
  have c2 : (⟨#[13, 10]⟩ : ByteArray).size = 2 := rfl
  repeat' (with_reducible first | exact trivial | apply And.intro | intro _)
  all_goals first
    | (with_reducible trivial)
    | omega
    | (with_reducible assumption)
    | (exfalso; contradiction)
    | ((try simp only [ByteArray.size_append, c2]); unfold maxLen; omega)
    | ((try simp only [ByteArray.size_append, c2]); omega)
    | exact f5 (by assumption)
    | (rename_i h; exact absurd rfl (eqC_In_false.1 h))
    | (rename_i h1 h2; rw [f5 h1] at h2; cases h2)
    | exact f4 (by assumption)
    | (exfalso; rcases f2 with f2 | f2 <;> contradiction)
end Go.Proofs.YtdfanfpembebmaaGreatDoor
