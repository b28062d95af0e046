/-
  Lines of the reference.
  No condition but what the arguments' cells hold. Printed by vcgen.py.
-/
import Derived.Test.YtbpapaponnfagaaGreatDoorLBlLine1
set_option linter.unusedSimpArgs false
set_option linter.unusedVariables false
set_option maxRecDepth 100000
set_option maxHeartbeats 4000000
namespace Go.Proofs.YtbpapaponnfagaaGreatDoor
open Go.ChangeShapes Go.WideShapes Go.ChangeAt Go.RowKit Go.Joins Go.Deep
open GoRep (rep bulk)

def L_s_LineEnd (s : ByteArray) : Nat → List AV → Mem → LoopA
  | 2, tm, M => ⟨Nat, fun y => (anyR (setA tm [(2, .any), (3, .c (.int .i64 ((y : Nat) : Int)))]) 4 26, M), fun y => (y ≤ ByteArray.size s ∧ lineF s y = lineF s 0), fun y => (ByteArray.size s - y)⟩
  | _, _, _ => ⟨Unit, fun _ => ([], []), fun _ => False, fun _ => 0⟩
theorem b_s_LineEnd (s : ByteArray) (hpre : ByteArray.size s ≤ 1048576) : BCalls Tryz.prog 50 [.c (.str s)] (.c (.int .i64 (lineF s 0))) [] := by
  refine bc0 [e_s_l18Two, e_s_LiteralAt] [] [] [] (L_s_LineEnd s) Tryz.func50 (fun hwf => ?_)
  refine Eq.mpr (β := (T2 ((∃ q : Nat, (q ≤ ByteArray.size s ∧ lineF s q = lineF s 0) ∧ ((lxs [.c (.str s), .tp []] (True ∧ leV (.c (.int .i64 0)) (.c (.int .i64 ((q : Nat) : Int))) ∧ TN 26 True)) ∧ (True) ∧ true = true)) ∧ ∀ y0 : Nat, (y0 ≤ ByteArray.size s ∧ lineF s y0 = lineF s 0) → (T2 ((smallA s ((y0 : Nat) : Int) ∧ true = true) ∧ (T3 (bif (ltI (twoI s (Int.toNat ((y0 : Nat) : Int))) 0) then (True ∧ (rI (-1) (lineF s 0))) else (T3 (((0 : Int) ≤ ((y0 : Nat) : Int) ∧ (((y0 : Nat) : Int) : Int) ≤ twoI s (Int.toNat ((y0 : Nat) : Int)) ∧ (twoI s (Int.toNat ((y0 : Nat) : Int)) : Int) ≤ ((ByteArray.size s : Nat) : Int)) ∧ ((ByteArray.size (ByteArray.extract s (Int.toNat ((y0 : Nat) : Int)) (Int.toNat (twoI s (Int.toNat ((y0 : Nat) : Int))))) ≤ 1048576 ∧ true = true) ∧ (T3 (bif (ltI (litV (ByteArray.extract s (Int.toNat ((y0 : Nat) : Int)) (Int.toNat (twoI s (Int.toNat ((y0 : Nat) : Int)))))) 0) then (T2 (rI (twoI s (Int.toNat ((y0 : Nat) : Int))) (lineF s 0))) else (T7 (bif (gtI (litV (ByteArray.extract s (Int.toNat ((y0 : Nat) : Int)) (Int.toNat (twoI s (Int.toNat ((y0 : Nat) : Int)))))) (IntKind.wrap .i64 ((IntKind.wrap .i64 (((ByteArray.size s : Nat) : Int) - twoI s (Int.toNat ((y0 : Nat) : Int)))) - 2))) then (True ∧ (rI (-1) (lineF s 0))) else (T5 (∃ y0' : Nat, (y0' ≤ ByteArray.size s ∧ lineF s y0' = lineF s 0) ∧ (ByteArray.size s - y0') < (ByteArray.size s - y0) ∧ ((lxs [.c (.str s), .tp []] (True ∧ leV (.c (.int .i64 (IntKind.wrap .i64 ((IntKind.wrap .i64 (twoI s (Int.toNat ((y0 : Nat) : Int)) + 2)) + litV (ByteArray.extract s (Int.toNat ((y0 : Nat) : Int)) (Int.toNat (twoI s (Int.toNat ((y0 : Nat) : Int))))))))) (.c (.int .i64 ((y0' : Nat) : Int))) ∧ TN 26 True)) ∧ (True) ∧ true = true))))))))))))))))) (by kernel_rfl) ?_
  unfold T2 T3 T5 T7
  have hs : ByteArray.size s ≤ 1048576 := hpre
  simp only [btw_iff, btw_not, flagsOk, Bool.not_true, Bool.not_false, SI2A, eq_self]
  refine ⟨⟨0, ⟨Nat.zero_le _, rfl⟩, rfl⟩, fun y hy => ?_⟩
  have ht := twoI_ge s y
  have hl := litV_ge (ByteArray.extract s y (Int.toNat (twoI s y)))
  have e1 : IntKind.wrap .i64 (twoI s y + 2) = twoI s y + 2 := w64i (by omega) (by omega)
  have e2 : IntKind.wrap .i64 (twoI s y + 2 + litV (ByteArray.extract s y (Int.toNat (twoI s y)))) = twoI s y + 2 + litV (ByteArray.extract s y (Int.toNat (twoI s y))) := w64i (by omega) (by omega)
  have e3 : IntKind.wrap .i64 (((ByteArray.size s : Nat) : Int) - twoI s y) = ((ByteArray.size s : Nat) : Int) - twoI s y := w64i (by omega) (by omega)
  have e4 : IntKind.wrap .i64 (((ByteArray.size s : Nat) : Int) - twoI s y - 2) = ((ByteArray.size s : Nat) : Int) - twoI s y - 2 := w64i (by omega) (by omega)
  simp only [e1, e2, e3, e4]
  repeat' (first | apply And.intro | intro _)
  all_goals first
    | (with_reducible trivial)
    | omega
    | (with_reducible assumption)
    | exact ⟨hs, by omega, by omega⟩
    | (with_reducible exact ext_le hs)
    | (with_reducible exact Nat.lt_of_le_of_lt (ext_le hs) (by omega))
    | (rw [← hy.2]; with_reducible exact (lineF_none (by assumption)).symm)
    | (rw [← hy.2]; with_reducible exact (lineF_here (by assumption) (by assumption)).symm)
    | (rw [← hy.2]; with_reducible exact (lineF_out (by assumption) (by assumption) (by omega)).symm)
    | (with_reducible exact line_step hy (by assumption) (by assumption) (by omega))
def e_s_LineEnd : Entry Tryz.prog := ⟨50, [.v tyStr], fun x => ByteArray.size x.1 ≤ 1048576, fun x => .c (.int .i64 (lineF x.1 0)), fun _ => [], fun x hx => b_s_LineEnd x.1 hx, Tryz.call50⟩
end Go.Proofs.YtbpapaponnfagaaGreatDoor
