/-
  Tokens and their texts.
  No condition but what the arguments' cells hold. Printed by vcgen.py.
-/
import Derived.Test.YtoigkpkafgjeaaaBBlPart
import Derived.Test.YtoigkpkafgjeaaaBNumLaw
import Derived.Test.YtoigkpkafgjeaaaBLawA
set_option linter.unusedSimpArgs false
set_option linter.unusedVariables false
set_option maxRecDepth 100000
set_option maxHeartbeats 4000000
namespace Go.Proofs.Ytoigkpkafgjeaaa
open Go.ChangeShapes Go.WideShapes Go.ChangeAt Go.RowKit Go.Joins Go.Deep
open GoRep (rep bulk)

theorem SIU : type_of% (And.intro @ix_eq (And.intro @vI_eq (And.intro @cI_eq (And.intro @cB_eq (And.intro @cS_eq (And.intro @w64_eq (And.intro @tpn_eq (And.intro @ci_eq (And.intro @hn_eq (And.intro @pt_eq (And.intro @T2_eq (And.intro @T3_eq (And.intro @T4_eq (And.intro @T5_eq (And.intro @T6_eq (And.intro @T7_eq (And.intro @T8_eq (And.intro @T9_eq (And.intro @T10_eq (And.intro @T11_eq (And.intro @T12_eq (And.intro @TN_eq (And.intro @lxs_eq (And.intro @lb_true (And.intro @rB_eq (And.intro @rI_eq (And.intro @rS_eq (And.intro @leB_mp (And.intro @true_and (And.intro @and_true (And.intro @not_true (And.intro @not_false (And.intro @leV_any (And.intro @leV_int (And.intro @leV_bool (And.intro @leV_str (And.intro @leV_refl (And.intro @leB_refl (And.intro @leC_int (And.intro @leC_bool (And.intro @leC_str (And.intro @leC_hs (And.intro @leB_row (And.intro @leB_rowInt (And.intro @leB_rowStr (And.intro @leB_rowBool (And.intro @leB_rowToken (And.intro @leB_rowSpan (And.intro @leB_rowScope (And.intro @leB_rowFilter (And.intro @leB_rowCommand (And.intro @leB_rowMsg (And.intro @leB_rowBox (And.intro @leB_rowCommit (And.intro @leB_rowStore (And.intro @leB_rowClient (And.intro @leB_rowNote (And.intro @leB_rowQueue (And.intro @leB_rowOut (And.intro @leB_rowIn (And.intro @leB_rowSession (And.intro @leB_rowServer (And.intro @leB_rowOutcome (@Int.toNat_natCast)))))))))))))))))))))))))))))))))))))))))))))))))))))))))))))))) := And.intro @ix_eq (And.intro @vI_eq (And.intro @cI_eq (And.intro @cB_eq (And.intro @cS_eq (And.intro @w64_eq (And.intro @tpn_eq (And.intro @ci_eq (And.intro @hn_eq (And.intro @pt_eq (And.intro @T2_eq (And.intro @T3_eq (And.intro @T4_eq (And.intro @T5_eq (And.intro @T6_eq (And.intro @T7_eq (And.intro @T8_eq (And.intro @T9_eq (And.intro @T10_eq (And.intro @T11_eq (And.intro @T12_eq (And.intro @TN_eq (And.intro @lxs_eq (And.intro @lb_true (And.intro @rB_eq (And.intro @rI_eq (And.intro @rS_eq (And.intro @leB_mp (And.intro @true_and (And.intro @and_true (And.intro @not_true (And.intro @not_false (And.intro @leV_any (And.intro @leV_int (And.intro @leV_bool (And.intro @leV_str (And.intro @leV_refl (And.intro @leB_refl (And.intro @leC_int (And.intro @leC_bool (And.intro @leC_str (And.intro @leC_hs (And.intro @leB_row (And.intro @leB_rowInt (And.intro @leB_rowStr (And.intro @leB_rowBool (And.intro @leB_rowToken (And.intro @leB_rowSpan (And.intro @leB_rowScope (And.intro @leB_rowFilter (And.intro @leB_rowCommand (And.intro @leB_rowMsg (And.intro @leB_rowBox (And.intro @leB_rowCommit (And.intro @leB_rowStore (And.intro @leB_rowClient (And.intro @leB_rowNote (And.intro @leB_rowQueue (And.intro @leB_rowOut (And.intro @leB_rowIn (And.intro @leB_rowSession (And.intro @leB_rowServer (And.intro @leB_rowOutcome (@Int.toNat_natCast)))))))))))))))))))))))))))))))))))))))))))))))))))))))))))))))
theorem bifI {b : Bool} {P Q : Prop} (h : b = true → P) (k : b = false → Q) : bif b then P else Q := by
  cases b
  · exact k rfl
  · exact h rfl
theorem bif_if {α : Type} {b : Bool} {x y : α} : (bif b then x else y) = if b = true then x else y := by cases b <;> rfl
theorem leB_rowU8 {x y : List Int} {v c : Nat} : leB (.row (.int .u8) x v c none) (.row (.int .u8) y v c none) = (x = y) := leB_row (t := .int .u8)
def atCh (x : Int) : Prop := (33 ≤ x ∧ x ≤ 126) ∧ ((x ≠ 40 ∧ x ≠ 41) ∧ (x ≠ 123 ∧ (x ≠ 34 ∧ x ≠ 92)))
instance (x : Int) : Decidable (atCh x) := by unfold atCh; infer_instance
def quCh (x : Int) : Prop := 32 ≤ x ∧ x ≤ 126
instance (x : Int) : Decidable (quCh x) := by unfold quCh; infer_instance
def L_s_Digits (n : Int) : Nat → List AV → Mem → LoopA
  | 5, tm, M => ⟨Nat × ByteArray, fun y => (anyR (setA tm [(0, .c (.int .i64 ((y.1 : Nat) : Int))), (4, .c (.str y.2)), (5, .any)]) 10 17, M), fun y => (digI y.1 y.2 n), fun y => y.1⟩
  | _, _, _ => ⟨Unit, fun _ => ([], []), fun _ => False, fun _ => 0⟩
theorem b_s_Digits (n : Int) (hpre : nonneg n) : BCalls Try.prog 95 [.c (.int .i64 n)] (.c (.str (⟨(Lib.itoa n).toArray⟩ : ByteArray))) [] := by
  refine bc0 [] [] [] [] (L_s_Digits n) Try.func95 (fun hwf => ?_)
  refine Eq.mpr (β := (T3 (bif (eqI n 0) then (True ∧ (rS (⟨#[48]⟩ : ByteArray) (⟨(Lib.itoa n).toArray⟩ : ByteArray))) else (T4 ((∃ q : Nat × ByteArray, (digI q.1 q.2 n) ∧ ((leV (.c (.int .i64 n)) (.c (.int .i64 ((q.1 : Nat) : Int))) ∧ lxs [.tp [], .c (.str (⟨#[]⟩ : ByteArray)), .c (.bool (ltI n 0))] (leV (.c (.str (⟨#[]⟩ : ByteArray))) (.c (.str q.2)) ∧ True ∧ lxs [.c (.int .i64 n), .c (.bool false), .c (.int .i64 n), .c (.bool (ltI n 0))] (TN 17 (lxs [.tp [], .tp [], .tp [], .tp []] True)))) ∧ (True) ∧ true = true)) ∧ ∀ y0 : Nat × ByteArray, (digI y0.1 y0.2 n) → (T2 (bif (neI ((y0.1 : Nat) : Int) 0) then (True ∧ ((10 : Int) ≠ 0 ∧ (T3 (bif (ltI (Int.tmod ((y0.1 : Nat) : Int) 10) 0) then (T5 (true = true ∧ (True ∧ (List.length ([(IntKind.wrap .u8 (IntKind.wrap .i64 (48 + (IntKind.wrap .i64 (0 - (Int.tmod ((y0.1 : Nat) : Int) 10))))))] : List Int) ≤ maxLen ∧ (True ∧ (ByteArray.size (bytesOf ([(IntKind.wrap .u8 (IntKind.wrap .i64 (48 + (IntKind.wrap .i64 (0 - (Int.tmod ((y0.1 : Nat) : Int) 10))))))] : List Int)) + ByteArray.size y0.2 ≤ maxLen ∧ (T2 ((10 : Int) ≠ 0 ∧ (True ∧ (∃ y0' : Nat × ByteArray, (digI y0'.1 y0'.2 n) ∧ y0'.1 < y0.1 ∧ ((leV (.c (.int .i64 (IntKind.wrap .i64 (Int.tdiv ((y0.1 : Nat) : Int) 10)))) (.c (.int .i64 ((y0'.1 : Nat) : Int))) ∧ lxs [.tp [], .c (.str (⟨#[]⟩ : ByteArray)), .c (.bool (ltI n 0))] (leV (.c (.str ((bytesOf ([(IntKind.wrap .u8 (IntKind.wrap .i64 (48 + (IntKind.wrap .i64 (0 - (Int.tmod ((y0.1 : Nat) : Int) 10))))))] : List Int)) ++ y0.2))) (.c (.str y0'.2)) ∧ True ∧ lxs [.c (.int .i64 n), .c (.bool false), .c (.int .i64 n), .c (.bool (ltI n 0))] (TN 17 (lxs [.tp [], .tp [], .tp [], .tp []] True)))) ∧ (True) ∧ true = true))))))))))) else (T2 (true = true ∧ (True ∧ (List.length ([(IntKind.wrap .u8 (IntKind.wrap .i64 (48 + (Int.tmod ((y0.1 : Nat) : Int) 10))))] : List Int) ≤ maxLen ∧ (True ∧ (ByteArray.size (bytesOf ([(IntKind.wrap .u8 (IntKind.wrap .i64 (48 + (Int.tmod ((y0.1 : Nat) : Int) 10))))] : List Int)) + ByteArray.size y0.2 ≤ maxLen ∧ (T2 ((10 : Int) ≠ 0 ∧ (True ∧ (∃ y0' : Nat × ByteArray, (digI y0'.1 y0'.2 n) ∧ y0'.1 < y0.1 ∧ ((leV (.c (.int .i64 (IntKind.wrap .i64 (Int.tdiv ((y0.1 : Nat) : Int) 10)))) (.c (.int .i64 ((y0'.1 : Nat) : Int))) ∧ lxs [.tp [], .c (.str (⟨#[]⟩ : ByteArray)), .c (.bool (ltI n 0))] (leV (.c (.str ((bytesOf ([(IntKind.wrap .u8 (IntKind.wrap .i64 (48 + (Int.tmod ((y0.1 : Nat) : Int) 10))))] : List Int)) ++ y0.2))) (.c (.str y0'.2)) ∧ True ∧ lxs [.c (.int .i64 n), .c (.bool false), .c (.int .i64 n), .c (.bool (ltI n 0))] (TN 17 (lxs [.tp [], .tp [], .tp [], .tp []] True)))) ∧ (True) ∧ true = true))))))))))))))) else (True ∧ (bif (ltI n 0) then (True ∧ (ByteArray.size (⟨#[45]⟩ : ByteArray) + ByteArray.size y0.2 ≤ maxLen ∧ (True ∧ (rS ((⟨#[45]⟩ : ByteArray) ++ y0.2) (⟨(Lib.itoa n).toArray⟩ : ByteArray))))) else (T2 (rS y0.2 (⟨(Lib.itoa n).toArray⟩ : ByteArray)))))))))))) (by kernel_rfl) ?_
  unfold T2 T3 T4 T5
  have h0 : 0 ≤ n := hpre
  have hb := i64_b hwf.1
  have e1 : ∀ k : Nat, Int.tmod ((k : Nat) : Int) 10 = ((k % 10 : Nat) : Int) := fun k => rfl
  have e2 : ∀ k : Nat, Int.tdiv ((k : Nat) : Int) 10 = ((k / 10 : Nat) : Int) := fun k => rfl
  have e3 : ∀ k : Nat, IntKind.wrap .u8 (IntKind.wrap .i64 (48 + ((k % 10 : Nat) : Int))) = ((48 + k % 10 : Nat) : Int) := fun k => by rw [w64i (by omega) (by omega), w8 (by omega) (by omega)]; omega
  simp only [e1, e2, e3]
  simp only [btw_iff, btw_not, flagsOk, Bool.not_true, Bool.not_false, SI2A, eq_self]
  repeat' (first | apply And.intro | intro _)
  all_goals first
    | (with_reducible trivial)
    | omega
    | (with_reducible assumption)
    | exact dig_zero (by assumption)
    | exact ⟨(n.toNat, _), digI_init h0 (by assumption), by omega, rfl⟩
    | (unfold maxLen; simp; done)
    | (rename_i y hy hk hx; have := digI_size hb.2 h0 hy; rw [bytesOf_size]; unfold maxLen; simp only [List.length_singleton]; omega)
    | exact dig_next hb.2 h0 (by omega) (by assumption)
    | (rename_i y hy hk hneg; obtain ⟨k, o⟩ := y; obtain rfl : k = 0 := by have : ((k : Nat) : Int) = 0 := hk; omega
       exact digI_end h0 hy)
def e_s_Digits : Entry Try.prog := ⟨95, [.v tyInt], fun x => nonneg x.1, fun x => .c (.str (⟨(Lib.itoa x.1).toArray⟩ : ByteArray)), fun _ => [], fun x hx => b_s_Digits x.1 hx, Try.call95⟩
end Go.Proofs.Ytoigkpkafgjeaaa
