/-
  Tokens and their texts.
  No condition but what the arguments' cells hold. Printed by vcgen.py.
-/
import Derived.Test.YtoigkpkafgjeaaaABlPart
import Derived.Test.YtoigkpkafgjeaaaANumLaw
import Derived.Test.YtoigkpkafgjeaaaALawA
set_option linter.unusedSimpArgs false
set_option linter.unusedVariables false
set_option maxRecDepth 100000
set_option maxHeartbeats 4000000
namespace Go.Proofs.Ytoigkpkafgjeaaa
open Go.ChangeShapes Go.WideShapes Go.ChangeAt Go.RowKit Go.Joins Go.Deep
open GoRep (rep bulk)

theorem SIU : type_of% (And.intro @ix_eq (And.intro @vI_eq (And.intro @cI_eq (And.intro @cB_eq (And.intro @cS_eq (And.intro @w64_eq (And.intro @tpn_eq (And.intro @ci_eq (And.intro @hn_eq (And.intro @pt_eq (And.intro @T2_eq (And.intro @T3_eq (And.intro @T4_eq (And.intro @T5_eq (And.intro @T6_eq (And.intro @T7_eq (And.intro @T8_eq (And.intro @T9_eq (And.intro @T10_eq (And.intro @T11_eq (And.intro @T12_eq (And.intro @TN_eq (And.intro @lxs_eq (And.intro @lb_true (And.intro @rB_eq (And.intro @rI_eq (And.intro @rS_eq (And.intro @leB_mp (And.intro @true_and (And.intro @and_true (And.intro @not_true (And.intro @not_false (And.intro @leV_any (And.intro @leV_int (And.intro @leV_bool (And.intro @leV_str (And.intro @leV_refl (And.intro @leB_refl (And.intro @leC_int (And.intro @leC_bool (And.intro @leC_str (And.intro @leC_hs (And.intro @leB_row (And.intro @leB_rowInt (And.intro @leB_rowStr (And.intro @leB_rowBool (And.intro @leB_rowToken (And.intro @leB_rowSpan (And.intro @leB_rowScope (And.intro @leB_rowFilter (And.intro @leB_rowCommand (And.intro @leB_rowMsg (And.intro @leB_rowBox (And.intro @leB_rowCommit (And.intro @leB_rowStore (And.intro @leB_rowClient (And.intro @leB_rowNote (And.intro @leB_rowQueue (And.intro @leB_rowOut (And.intro @leB_rowIn (And.intro @leB_rowSession (And.intro @leB_rowServer (And.intro @leB_rowOutcome (@Int.toNat_natCast)))))))))))))))))))))))))))))))))))))))))))))))))))))))))))))))) := And.intro @ix_eq (And.intro @vI_eq (And.intro @cI_eq (And.intro @cB_eq (And.intro @cS_eq (And.intro @w64_eq (And.intro @tpn_eq (And.intro @ci_eq (And.intro @hn_eq (And.intro @pt_eq (And.intro @T2_eq (And.intro @T3_eq (And.intro @T4_eq (And.intro @T5_eq (And.intro @T6_eq (And.intro @T7_eq (And.intro @T8_eq (And.intro @T9_eq (And.intro @T10_eq (And.intro @T11_eq (And.intro @T12_eq (And.intro @TN_eq (And.intro @lxs_eq (And.intro @lb_true (And.intro @rB_eq (And.intro @rI_eq (And.intro @rS_eq (And.intro @leB_mp (And.intro @true_and (And.intro @and_true (And.intro @not_true (And.intro @not_false (And.intro @leV_any (And.intro @leV_int (And.intro @leV_bool (And.intro @leV_str (And.intro @leV_refl (And.intro @leB_refl (And.intro @leC_int (And.intro @leC_bool (And.intro @leC_str (And.intro @leC_hs (And.intro @leB_row (And.intro @leB_rowInt (And.intro @leB_rowStr (And.intro @leB_rowBool (And.intro @leB_rowToken (And.intro @leB_rowSpan (And.intro @leB_rowScope (And.intro @leB_rowFilter (And.intro @leB_rowCommand (And.intro @leB_rowMsg (And.intro @leB_rowBox (And.intro @leB_rowCommit (And.intro @leB_rowStore (And.intro @leB_rowClient (And.intro @leB_rowNote (And.intro @leB_rowQueue (And.intro @leB_rowOut (And.intro @leB_rowIn (And.intro @leB_rowSession (And.intro @leB_rowServer (And.intro @leB_rowOutcome (@Int.toNat_natCast)))))))))))))))))))))))))))))))))))))))))))))))))))))))))))))))
theorem bifI {b : Bool} {P Q : Prop} (h : b = true → P) (k : b = false → Q) : bif b then P else Q := by
  cases b
  · exact k rfl
  · exact h rfl
theorem bif_if {α : Type} {b : Bool} {x y : α} : (bif b then x else y) = if b = true then x else y := by cases b <;> rfl
theorem leB_rowU8 {x y : List Int} {v c : Nat} : leB (.row (.int .u8) x v c none) (.row (.int .u8) y v c none) = (x = y) := leB_row (t := .int .u8)
def atCh (x : Int) : Prop := (33 ≤ x ∧ x ≤ 126) ∧ ((x ≠ 40 ∧ x ≠ 41) ∧ (x ≠ 123 ∧ (x ≠ 34 ∧ x ≠ 92)))
instance (x : Int) : Decidable (atCh x) := by unfold atCh; infer_instance
def quCh (x : Int) : Prop := 32 ≤ x ∧ x ≤ 126
instance (x : Int) : Decidable (quCh x) := by unfold quCh; infer_instance
def atomK (s : ByteArray) : GToken := (1, s)
theorem b_s_l6Atom (s : ByteArray) : BCalls Try.prog 49 [.c (.str s)] (.ag [.int .i64 (atomK s).1, .str (atomK s).2]) [] := by
  refine bc0 [] [] [] [] L0 Try.func49 (fun hwf => ?_)
  refine Eq.mpr (β := (True ∧ (True ∧ (True ∧ (True ∧ ((((true = true ∧ leC (.int .i64 1) (.int .i64 (atomK s).1)) ∧ (true = true ∧ leC (.str s) (.str (atomK s).2)) ∧ True)) ∧ true = true)))))) (by kernel_rfl) ?_
  simp only [SIU, eq_self]
  repeat' (with_reducible first | exact trivial | apply And.intro | apply bifI | intro _)
  all_goals first
    | (with_reducible trivial)
    | omega
    | (with_reducible infer_instance)
    | (simp only [atomK, cond_true, cond_false, Int.toNat_natCast, *]; done)
    | (subst_vars; simp only [atomK, cond_true, cond_false, Int.toNat_natCast, *]; done)
    | (simp only [atomK, cond_true, cond_false, *]; exact leC_refl)
def e_s_l6Atom : Entry Try.prog := ⟨49, [.v tyStr], fun x => True, fun x => .ag [.int .i64 (atomK x.1).1, .str (atomK x.1).2], fun _ => [], fun x hx => b_s_l6Atom x.1, Try.call49⟩
def openK  : GToken := (3, (⟨#[]⟩ : ByteArray))
theorem b_s_l6Open  : BCalls Try.prog 50 [] (.ag [.int .i64 (openK ).1, .str (openK ).2]) [] := by
  refine bc0 [] [] [] [] L0 Try.func50 (fun hwf => ?_)
  refine Eq.mpr (β := (True ∧ (True ∧ (True ∧ ((((true = true ∧ leC (.int .i64 3) (.int .i64 (openK ).1)) ∧ (true = true ∧ leC (.str (⟨#[]⟩ : ByteArray)) (.str (openK ).2)) ∧ True)) ∧ true = true))))) (by kernel_rfl) ?_
  simp only [SIU, eq_self]
  repeat' (with_reducible first | exact trivial | apply And.intro | apply bifI | intro _)
  all_goals first
    | (with_reducible trivial)
    | omega
    | (with_reducible infer_instance)
    | (simp only [openK, cond_true, cond_false, Int.toNat_natCast, *]; done)
    | (subst_vars; simp only [openK, cond_true, cond_false, Int.toNat_natCast, *]; done)
    | (simp only [openK, cond_true, cond_false, *]; exact leC_refl)
def e_s_l6Open : Entry Try.prog := ⟨50, [], fun x => True, fun x => .ag [.int .i64 (openK ).1, .str (openK ).2], fun _ => [], fun x hx => b_s_l6Open , Try.call50⟩
def closeK  : GToken := (4, (⟨#[]⟩ : ByteArray))
theorem b_s_l6Close  : BCalls Try.prog 51 [] (.ag [.int .i64 (closeK ).1, .str (closeK ).2]) [] := by
  refine bc0 [] [] [] [] L0 Try.func51 (fun hwf => ?_)
  refine Eq.mpr (β := (True ∧ (True ∧ (True ∧ ((((true = true ∧ leC (.int .i64 4) (.int .i64 (closeK ).1)) ∧ (true = true ∧ leC (.str (⟨#[]⟩ : ByteArray)) (.str (closeK ).2)) ∧ True)) ∧ true = true))))) (by kernel_rfl) ?_
  simp only [SIU, eq_self]
  repeat' (with_reducible first | exact trivial | apply And.intro | apply bifI | intro _)
  all_goals first
    | (with_reducible trivial)
    | omega
    | (with_reducible infer_instance)
    | (simp only [closeK, cond_true, cond_false, Int.toNat_natCast, *]; done)
    | (subst_vars; simp only [closeK, cond_true, cond_false, Int.toNat_natCast, *]; done)
    | (simp only [closeK, cond_true, cond_false, *]; exact leC_refl)
def e_s_l6Close : Entry Try.prog := ⟨51, [], fun x => True, fun x => .ag [.int .i64 (closeK ).1, .str (closeK ).2], fun _ => [], fun x hx => b_s_l6Close , Try.call51⟩
end Go.Proofs.Ytoigkpkafgjeaaa
