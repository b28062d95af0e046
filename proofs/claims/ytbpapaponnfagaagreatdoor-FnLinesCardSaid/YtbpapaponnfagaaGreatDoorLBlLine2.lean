/-
  Lines of the program.
  No condition but what the arguments' cells hold. Printed by vcgen.py.
-/
import Derived.Test.YtbpapaponnfagaaGreatDoorLBlLit
set_option linter.unusedSimpArgs false
set_option linter.unusedVariables false
set_option maxRecDepth 100000
set_option maxHeartbeats 4000000
namespace Go.Proofs.YtbpapaponnfagaaGreatDoor
open Go.ChangeShapes Go.WideShapes Go.ChangeAt Go.RowKit Go.Joins Go.Deep
open GoRep (rep bulk)

def L_i_LineEnd (s : ByteArray) : Nat → List AV → Mem → LoopA
  | 2, tm, M => ⟨Nat, fun y => (anyR (setA tm [(2, .any), (3, .c (.int .i64 ((y : Nat) : Int)))]) 4 30, M), fun y => (y ≤ ByteArray.size s ∧ lineF s y = lineF s 0), fun y => (ByteArray.size s - y)⟩
  | _, _, _ => ⟨Unit, fun _ => ([], []), fun _ => False, fun _ => 0⟩
theorem b_i_LineEnd (s : ByteArray) (hpre : ByteArray.size s ≤ 1048576) : BCalls Tryz.prog 45 [.c (.str s)] (.c (.int .i64 (lineF s 0))) [] := by
  refine bc0 [e_strings_Index, e_i_LiteralAt] [] [] [] (L_i_LineEnd s) Tryz.func45 (fun hwf => ?_)
  refine Eq.mpr (β := (T2 ((∃ q : Nat, (q ≤ ByteArray.size s ∧ lineF s q = lineF s 0) ∧ ((lxs [.c (.str s), .tp []] (True ∧ leV (.c (.int .i64 0)) (.c (.int .i64 ((q : Nat) : Int))) ∧ TN 30 True)) ∧ (True) ∧ true = true)) ∧ ∀ y0 : Nat, (y0 ≤ ByteArray.size s ∧ lineF s y0 = lineF s 0) → (T2 (((0 : Int) ≤ ((y0 : Nat) : Int) ∧ (((y0 : Nat) : Int) : Int) ≤ ((ByteArray.size s : Nat) : Int) ∧ (((ByteArray.size s : Nat) : Int) : Int) ≤ ((ByteArray.size s : Nat) : Int)) ∧ ((ByteArray.size (ByteArray.extract s (Int.toNat ((y0 : Nat) : Int)) (Int.toNat ((ByteArray.size s : Nat) : Int))) < 4294967281 ∧ true = true) ∧ (T3 (bif (ltI (Lib.index (ByteArray.extract s (Int.toNat ((y0 : Nat) : Int)) (Int.toNat ((ByteArray.size s : Nat) : Int))).data.toList (⟨#[13, 10]⟩ : ByteArray).data.toList) 0) then (True ∧ (rI (-1) (lineF s 0))) else (T5 (((0 : Int) ≤ ((y0 : Nat) : Int) ∧ (((y0 : Nat) : Int) : Int) ≤ (IntKind.wrap .i64 (((y0 : Nat) : Int) + Lib.index (ByteArray.extract s (Int.toNat ((y0 : Nat) : Int)) (Int.toNat ((ByteArray.size s : Nat) : Int))).data.toList (⟨#[13, 10]⟩ : ByteArray).data.toList)) ∧ ((IntKind.wrap .i64 (((y0 : Nat) : Int) + Lib.index (ByteArray.extract s (Int.toNat ((y0 : Nat) : Int)) (Int.toNat ((ByteArray.size s : Nat) : Int))).data.toList (⟨#[13, 10]⟩ : ByteArray).data.toList)) : Int) ≤ ((ByteArray.size s : Nat) : Int)) ∧ ((ByteArray.size (ByteArray.extract s (Int.toNat ((y0 : Nat) : Int)) (Int.toNat (IntKind.wrap .i64 (((y0 : Nat) : Int) + Lib.index (ByteArray.extract s (Int.toNat ((y0 : Nat) : Int)) (Int.toNat ((ByteArray.size s : Nat) : Int))).data.toList (⟨#[13, 10]⟩ : ByteArray).data.toList)))) ≤ 1048576 ∧ true = true) ∧ (T3 (bif (ltI (litV (ByteArray.extract s (Int.toNat ((y0 : Nat) : Int)) (Int.toNat (IntKind.wrap .i64 (((y0 : Nat) : Int) + Lib.index (ByteArray.extract s (Int.toNat ((y0 : Nat) : Int)) (Int.toNat ((ByteArray.size s : Nat) : Int))).data.toList (⟨#[13, 10]⟩ : ByteArray).data.toList))))) 0) then (T4 (rI (IntKind.wrap .i64 (((y0 : Nat) : Int) + Lib.index (ByteArray.extract s (Int.toNat ((y0 : Nat) : Int)) (Int.toNat ((ByteArray.size s : Nat) : Int))).data.toList (⟨#[13, 10]⟩ : ByteArray).data.toList)) (lineF s 0))) else (T11 (bif (gtI (IntKind.wrap .i64 (((y0 : Nat) : Int) + (IntKind.wrap .i64 ((IntKind.wrap .i64 (Lib.index (ByteArray.extract s (Int.toNat ((y0 : Nat) : Int)) (Int.toNat ((ByteArray.size s : Nat) : Int))).data.toList (⟨#[13, 10]⟩ : ByteArray).data.toList + 2)) + litV (ByteArray.extract s (Int.toNat ((y0 : Nat) : Int)) (Int.toNat (IntKind.wrap .i64 (((y0 : Nat) : Int) + Lib.index (ByteArray.extract s (Int.toNat ((y0 : Nat) : Int)) (Int.toNat ((ByteArray.size s : Nat) : Int))).data.toList (⟨#[13, 10]⟩ : ByteArray).data.toList)))))))) ((ByteArray.size s : Nat) : Int)) then (True ∧ (rI (-1) (lineF s 0))) else (∃ y0' : Nat, (y0' ≤ ByteArray.size s ∧ lineF s y0' = lineF s 0) ∧ (ByteArray.size s - y0') < (ByteArray.size s - y0) ∧ ((lxs [.c (.str s), .tp []] (True ∧ leV (.c (.int .i64 (IntKind.wrap .i64 (((y0 : Nat) : Int) + (IntKind.wrap .i64 ((IntKind.wrap .i64 (Lib.index (ByteArray.extract s (Int.toNat ((y0 : Nat) : Int)) (Int.toNat ((ByteArray.size s : Nat) : Int))).data.toList (⟨#[13, 10]⟩ : ByteArray).data.toList + 2)) + litV (ByteArray.extract s (Int.toNat ((y0 : Nat) : Int)) (Int.toNat (IntKind.wrap .i64 (((y0 : Nat) : Int) + Lib.index (ByteArray.extract s (Int.toNat ((y0 : Nat) : Int)) (Int.toNat ((ByteArray.size s : Nat) : Int))).data.toList (⟨#[13, 10]⟩ : ByteArray).data.toList)))))))))) (.c (.int .i64 ((y0' : Nat) : Int))) ∧ TN 30 True)) ∧ (True) ∧ true = true))))))))))))))))) (by kernel_rfl) ?_
  unfold T11 T2 T3 T4 T5
  have hs : ByteArray.size s ≤ 1048576 := hpre
  simp only [btw_iff, btw_not, flagsOk, Bool.not_true, Bool.not_false, SI2A, eq_self]
  refine ⟨⟨0, ⟨Nat.zero_le _, rfl⟩, rfl⟩, fun y hy => ?_⟩
  have ht := twoI_ge s y
  have hl := litV_ge (ByteArray.extract s y (Int.toNat (twoI s y)))
  have hi := index_twoI s y
  by_cases q : twoI s y < 0
  · rw [if_pos q] at hi
    simp only [hi]
    repeat' (first | apply And.intro | intro _)
    all_goals first
      | (with_reducible trivial)
      | omega
      | (with_reducible exact ext_le hs)
      | (with_reducible exact Nat.lt_of_le_of_lt (ext_le hs) (by omega))
      | (rw [← hy.2]; with_reducible exact (lineF_none q).symm)
      | (exfalso; omega)
  · rw [if_neg q] at hi
    have e : IntKind.wrap .i64 (((y : Nat) : Int) + (twoI s y - ((y : Nat) : Int))) = twoI s y := by rw [w64i (by omega) (by omega)]; omega
    have e2 : IntKind.wrap .i64 (twoI s y - ((y : Nat) : Int) + 2) = twoI s y - ((y : Nat) : Int) + 2 := w64i (by omega) (by omega)
    have e3 : IntKind.wrap .i64 (twoI s y - ((y : Nat) : Int) + 2 + litV (ByteArray.extract s y (Int.toNat (twoI s y)))) = twoI s y - ((y : Nat) : Int) + 2 + litV (ByteArray.extract s y (Int.toNat (twoI s y))) := w64i (by omega) (by omega)
    have e4 : IntKind.wrap .i64 (((y : Nat) : Int) + (twoI s y - ((y : Nat) : Int) + 2 + litV (ByteArray.extract s y (Int.toNat (twoI s y))))) = twoI s y + 2 + litV (ByteArray.extract s y (Int.toNat (twoI s y))) := by rw [w64i (by omega) (by omega)]; omega
    simp only [hi, e, e2, e3, e4]
    repeat' (first | apply And.intro | intro _)
    all_goals first
      | (with_reducible trivial)
      | omega
      | (with_reducible assumption)
      | exact ⟨hs, by omega, by omega⟩
      | (with_reducible exact ext_le hs)
      | (with_reducible exact Nat.lt_of_le_of_lt (ext_le hs) (by omega))
      | (rw [← hy.2]; with_reducible exact (lineF_none (by assumption)).symm)
      | (rw [← hy.2]; with_reducible exact (lineF_here (by assumption) (by assumption)).symm)
      | (rw [← hy.2]; with_reducible exact (lineF_out (by assumption) (by assumption) (by omega)).symm)
      | (with_reducible exact line_step hy (by assumption) (by assumption) (by omega))
def e_i_LineEnd : Entry Tryz.prog := ⟨45, [.v tyStr], fun x => ByteArray.size x.1 ≤ 1048576, fun x => .c (.int .i64 (lineF x.1 0)), fun _ => [], fun x hx => b_i_LineEnd x.1 hx, Tryz.call45⟩
end Go.Proofs.YtbpapaponnfagaaGreatDoor
