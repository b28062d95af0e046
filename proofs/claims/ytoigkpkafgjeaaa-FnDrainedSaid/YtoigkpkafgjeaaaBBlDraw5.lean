/-
  Draws of input.
  No condition but what the arguments' cells hold. Printed by vcgen.py.
-/
import Derived.Test.YtoigkpkafgjeaaaBBlDraw4
set_option linter.unusedSimpArgs false
set_option linter.unusedVariables false
set_option maxRecDepth 100000
set_option maxHeartbeats 4000000
namespace Go.Proofs.Ytoigkpkafgjeaaa
open Go.ChangeShapes Go.WideShapes Go.ChangeAt Go.RowKit Go.Joins Go.Deep
open GoRep (rep bulk)

def longB (n k : Nat) : List Int := List.replicate k 120 ++ List.replicate (n - k) 0
theorem longB_len {n k : Nat} (h : k ≤ n) : (longB n k).length = n := by unfold longB; rw [List.length_append, List.length_replicate, List.length_replicate]; omega
theorem longB_set {n k : Nat} (h : k < n) : List.set (longB n k) k 120 = longB n (k + 1) := by
  obtain ⟨m, hm⟩ : ∃ m, n - k = m + 1 := ⟨n - k - 1, by omega⟩
  unfold longB
  rw [hm, show n - (k + 1) = m by omega, List.replicate_succ, List.set_append_right _ _ (by simp)]
  simp [List.replicate_succ']
theorem longB_zero (n : Nat) : longB n 0 = List.replicate n 0 := by unfold longB; simp
def longS (n : Nat) : ByteArray := bytesOf (longB n n)
theorem longS_size (n : Nat) : (longS n).size = n := by unfold longS; rw [bytesOf_size, longB_len (Nat.le_refl _)]
def mid (n : Int) : Prop := 0 ≤ n ∧ n ≤ 1048576
def L_s_l17Long (n : Int) : Nat → List AV → Mem → LoopA
  | 3, tm, M => ⟨Nat, fun y => (anyR (setA tm [(4, .c (.int .i64 ((y : Nat) : Int)))]) 7 8, setM M [(0, .row (.int .u8) (longB (Int.toNat n) y) 0 0 none)]), fun y => (y ≤ Int.toNat n), fun y => (Int.toNat n - y)⟩
  | _, _, _ => ⟨Unit, fun _ => ([], []), fun _ => False, fun _ => 0⟩
theorem b_s_l17Long (n : Int) (hpre : mid n) : BCalls Try.prog 59 [.c (.int .i64 n)] (.c (.str (longS (Int.toNat n)))) [] := by
  refine bc0 [] [] [] [] (L_s_l17Long n) Try.func59 (fun hwf => ?_)
  refine Eq.mpr (β := (T2 (((n : Int) = n ∧ (0 : Int) ≤ n ∧ (n : Int) ≤ ((rowMax : Nat) : Int)) ∧ (T2 ((∃ q : Nat, (q ≤ Int.toNat n) ∧ ((lxs [.c (.int .i64 n), .tp [], .c (.str (⟨#[]⟩ : ByteArray)), .c (.row 0 0)] (leV (.c (.int .i64 0)) (.c (.int .i64 ((q : Nat) : Int))) ∧ lxs [.c (.int .i64 n), .c (.row 0 0)] (TN 8 (lxs [.tp [], .tp []] True)))) ∧ (leB (.row (.int .u8) (List.replicate (Int.toNat n) (0 : Int)) 0 0 none) (.row (.int .u8) (longB (Int.toNat n) q) 0 0 none) ∧ True) ∧ true = true)) ∧ ∀ y0 : Nat, (y0 ≤ Int.toNat n) → (T3 (bif (ltI ((y0 : Nat) : Int) n) then (T2 (((1 : Nat) = 1 ∧ (0 : Int) ≤ ((y0 : Nat) : Int) ∧ (((y0 : Nat) : Int) : Int) < ((List.length (longB (Int.toNat n) y0) : Nat) : Int)) ∧ (True ∧ ∀ r1 : List Int, r1 = (List.set (longB (Int.toNat n) y0) (Int.toNat ((y0 : Nat) : Int)) 120) → (T3 (∃ y0' : Nat, (y0' ≤ Int.toNat n) ∧ (Int.toNat n - y0') < (Int.toNat n - y0) ∧ ((lxs [.c (.int .i64 n), .tp [], .c (.str (⟨#[]⟩ : ByteArray)), .c (.row 0 0)] (leV (.c (.int .i64 (IntKind.wrap .i64 (((y0 : Nat) : Int) + 1)))) (.c (.int .i64 ((y0' : Nat) : Int))) ∧ lxs [.c (.int .i64 n), .c (.row 0 0)] (TN 8 (lxs [.tp [], .tp []] True)))) ∧ (leB (.row (.int .u8) r1 0 0 none) (.row (.int .u8) (longB (Int.toNat n) y0') 0 0 none) ∧ True) ∧ true = true)))))) else (True ∧ (List.length (longB (Int.toNat n) y0) ≤ maxLen ∧ (True ∧ (rS (bytesOf (longB (Int.toNat n) y0)) (longS (Int.toNat n))))))))))))) (by kernel_rfl) ?_
  unfold T2 T3
  obtain ⟨p1, p2⟩ := hpre
  simp only [leB_rowU8, SI2A, eq_self]
  repeat' (with_reducible first | exact trivial | apply And.intro | intro _)
  all_goals first
    | (with_reducible trivial)
    | omega
    | (with_reducible assumption)
    | (unfold rowMax; omega)
    | (refine ⟨0, Nat.zero_le _, rfl, ?_⟩; rw [longB_zero]; exact Eq.mpr leB_refl trivial)
    | (rw [longB_len (by assumption)]; omega)
    | (rw [longB_len (by assumption)]; unfold maxLen; omega)
    | (rename_i y hy hlt; refine ⟨y + 1, by omega, by omega, wrapN (by unfold maxLen; omega), ?_⟩; subst_vars; exact longB_set (by omega))
    | (rename_i y hy hlt r hr; refine ⟨y + 1, by omega, by omega, wrapN (by unfold maxLen; omega), ?_⟩; rw [hr]; exact longB_set (by omega))
    | (rename_i y hy hge; obtain rfl : y = Int.toNat n := by omega
       rfl)
def e_s_l17Long : Entry Try.prog := ⟨59, [.v tyInt], fun x => mid x.1, fun x => .c (.str (longS (Int.toNat x.1))), fun _ => [], fun x hx => b_s_l17Long x.1 hx, Try.call59⟩
end Go.Proofs.Ytoigkpkafgjeaaa
