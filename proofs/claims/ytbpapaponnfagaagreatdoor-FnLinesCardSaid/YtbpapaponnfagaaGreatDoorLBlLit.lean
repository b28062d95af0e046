/-
  Literals of program and reference.
  No condition but what the arguments' cells hold. Printed by vcgen.py.
-/
import Derived.Test.YtbpapaponnfagaaGreatDoorLBlLit0
set_option linter.unusedSimpArgs false
set_option linter.unusedVariables false
set_option maxRecDepth 100000
set_option maxHeartbeats 4000000
namespace Go.Proofs.YtbpapaponnfagaaGreatDoor
open Go.ChangeShapes Go.WideShapes Go.ChangeAt Go.RowKit Go.Joins Go.Deep
open GoRep (rep bulk)

theorem b_i_LiteralAt (s : ByteArray) (hpre : ByteArray.size s ≤ 1048576) : BCalls Tryz.prog 122 [.c (.str s)] (.c (.int .i64 (litV s))) [] := by
  refine bc0 [e_strings_HasSuffix, e_strings_LastIndexByte, e_i_Number, e_strings_Contains] [] [] [] L0 Tryz.func122 (fun hwf => ?_)
  refine Eq.mpr (β := (T2 ((True ∧ true = true) ∧ (True ∧ (bif (!(Lib.hasSuffix s.data.toList (⟨#[125]⟩ : ByteArray).data.toList)) then (True ∧ (rI (-1) (litV s))) else (T2 ((ByteArray.size s ≤ 1048576 ∧ true = true) ∧ (T4 (((0 : Int) ≤ (IntKind.wrap .i64 (Lib.lastIndexByte s 123 + 1)) ∧ ((IntKind.wrap .i64 (Lib.lastIndexByte s 123 + 1)) : Int) ≤ (IntKind.wrap .i64 (((ByteArray.size s : Nat) : Int) - 1)) ∧ ((IntKind.wrap .i64 (((ByteArray.size s : Nat) : Int) - 1)) : Int) ≤ ((ByteArray.size s : Nat) : Int)) ∧ ((ByteArray.size (ByteArray.extract s (Int.toNat (IntKind.wrap .i64 (Lib.lastIndexByte s 123 + 1))) (Int.toNat (IntKind.wrap .i64 (((ByteArray.size s : Nat) : Int) - 1)))) ≤ 1048576 ∧ true = true) ∧ (T8 (bif (!(numB (ByteArray.extract s (Int.toNat (IntKind.wrap .i64 (Lib.lastIndexByte s 123 + 1))) (Int.toNat (IntKind.wrap .i64 (((ByteArray.size s : Nat) : Int) - 1)))))) then (T2 (rI (-1) (litV s))) else (True ∧ ((ByteArray.size s < 4294967281 ∧ true = true) ∧ (T2 (bif (!(subB s (⟨#[123]⟩ : ByteArray))) then (True ∧ (rI (-1) (litV s))) else (T2 (rI (numV (ByteArray.extract s (Int.toNat (IntKind.wrap .i64 (Lib.lastIndexByte s 123 + 1))) (Int.toNat (IntKind.wrap .i64 (((ByteArray.size s : Nat) : Int) - 1))))) (litV s))))))))))))))))))) (by kernel_rfl) ?_
  unfold T2 T4 T8
  have hs : ByteArray.size s ≤ 1048576 := hpre
  have hsuf : Lib.hasSuffix s.data.toList (⟨#[125]⟩ : ByteArray).data.toList = endsB s 125 := suffix_one (c := 125)
  have hl : -1 ≤ Lib.lastIndexByte s 123 ∧ Lib.lastIndexByte s 123 ≤ ByteArray.size s - 1 := last_bd s 123
  have hsub : subB s (⟨#[123]⟩ : ByteArray) = decide (0 ≤ Lib.lastIndexByte s 123) := index_last (c := 123)
  have w1 : IntKind.wrap .i64 (Lib.lastIndexByte s 123 + 1) = Lib.lastIndexByte s 123 + 1 := w64i (by omega) (by omega)
  have w2 : IntKind.wrap .i64 (((ByteArray.size s : Nat) : Int) - 1) = ((ByteArray.size s : Nat) : Int) - 1 := w64i (by omega) (by omega)
  have w3 : Int.toNat (((ByteArray.size s : Nat) : Int) - 1) = ByteArray.size s - 1 := by omega
  have w4 : IntKind.wrap .i64 (((ByteArray.size s : Nat) : Int) - 2) = ((ByteArray.size s : Nat) : Int) - 2 := w64i (by omega) (by omega)
  have hT : ByteArray.size (litT s) ≤ 1048576 := litT_size hs
  have eT : ByteArray.extract s (Int.toNat (Lib.lastIndexByte s 123 + 1)) (ByteArray.size s - 1) = litT s := rfl
  simp only [hsuf, w1, w2, w3, eT, hsub]
  simp only [btw_iff, btw_not, flagsOk, Bool.not_true, Bool.not_false, SI2A, eq_self]
  repeat' (first | apply And.intro | intro _)
  all_goals first
    | (with_reducible trivial)
    | omega
    | (with_reducible assumption)
    | exact (lit_no1 (by assumption)).symm
    | exact (lit_no3 (by assumption)).symm
    | exact (lit_no2 (of_decide_eq_false (by assumption))).symm
    | (rename_i h1 h2 h3; exact (lit_yes h1 (of_decide_eq_true h3) h2).symm)
    | (have h1 := ends_pos (by assumption : endsB s 125 = true); have h2 := last_brace (by assumption : endsB s 125 = true); omega)
def e_i_LiteralAt : Entry Tryz.prog := ⟨122, [.v tyStr], fun x => ByteArray.size x.1 ≤ 1048576, fun x => .c (.int .i64 (litV x.1)), fun _ => [], fun x hx => b_i_LiteralAt x.1 hx, Tryz.call122⟩
def L_s_LiteralAt (s : ByteArray) : Nat → List AV → Mem → LoopA
  | 5, tm, M => ⟨Nat, fun y => (anyR (setA tm [(2, .any), (4, .c (.int .i64 (((y : Nat) : Int) - 1))), (5, .any), (6, .any)]) 20 20, M), fun y => (y ≤ ByteArray.size s - 1 ∧ ∀ j, y ≤ j → j < ByteArray.size s - 1 → ¬ byteAt s j = 123), fun y => y⟩
  | _, _, _ => ⟨Unit, fun _ => ([], []), fun _ => False, fun _ => 0⟩
theorem b_s_LiteralAt (s : ByteArray) (hpre : ByteArray.size s ≤ 1048576) : BCalls Tryz.prog 123 [.c (.str s)] (.c (.int .i64 (litV s))) [] := by
  refine bc0 [e_s_Number] [] [] [] (L_s_LiteralAt s) Tryz.func123 (fun hwf => ?_)
  refine Eq.mpr (β := (T7 (bif (ltI ((ByteArray.size s : Nat) : Int) 3) then (T2 (rI (-1) (litV s))) else (T3 (((0 : Int) ≤ (IntKind.wrap .i64 (((ByteArray.size s : Nat) : Int) - 1)) ∧ ((IntKind.wrap .i64 (((ByteArray.size s : Nat) : Int) - 1)) : Int) < ((ByteArray.size s : Nat) : Int)) ∧ (T2 (bif (neI (byteAt s (Int.toNat (IntKind.wrap .i64 (((ByteArray.size s : Nat) : Int) - 1)))) 125) then (True ∧ (rI (-1) (litV s))) else (T3 ((∃ q : Nat, (q ≤ ByteArray.size s - 1 ∧ ∀ j, q ≤ j → j < ByteArray.size s - 1 → ¬ byteAt s j = 123) ∧ ((lxs [.c (.str s), .tp []] (True ∧ lxs [.c (.int .i64 ((ByteArray.size s : Nat) : Int))] (leV (.c (.int .i64 (IntKind.wrap .i64 (((ByteArray.size s : Nat) : Int) - 2)))) (.c (.int .i64 (((q : Nat) : Int) - 1))) ∧ True ∧ True ∧ lxs [.c (.str s), .c (.int .i64 ((ByteArray.size s : Nat) : Int)), .c (.int .i64 ((ByteArray.size s : Nat) : Int)), .c (.bool (ltI ((ByteArray.size s : Nat) : Int) 3)), .c (.bool false), .c (.str s), .c (.int .i64 ((ByteArray.size s : Nat) : Int)), .c (.int .i64 (IntKind.wrap .i64 (((ByteArray.size s : Nat) : Int) - 1))), .c (.int .u8 (byteAt s (Int.toNat (IntKind.wrap .i64 (((ByteArray.size s : Nat) : Int) - 1))))), .c (.bool (neI (byteAt s (Int.toNat (IntKind.wrap .i64 (((ByteArray.size s : Nat) : Int) - 1)))) 125)), .c (.bool false), .c (.int .i64 ((ByteArray.size s : Nat) : Int)), .c (.int .i64 (IntKind.wrap .i64 (((ByteArray.size s : Nat) : Int) - 2)))] (TN 20 True)))) ∧ (True) ∧ true = true)) ∧ ∀ y0 : Nat, (y0 ≤ ByteArray.size s - 1 ∧ ∀ j, y0 ≤ j → j < ByteArray.size s - 1 → ¬ byteAt s j = 123) → (T2 (bif (geI (((y0 : Nat) : Int) - 1) 0) then (T2 (((0 : Int) ≤ (((y0 : Nat) : Int) - 1) ∧ ((((y0 : Nat) : Int) - 1) : Int) < ((ByteArray.size s : Nat) : Int)) ∧ (True ∧ (bif (eqI (byteAt s (Int.toNat (((y0 : Nat) : Int) - 1))) 123) then (T5 (((0 : Int) ≤ (IntKind.wrap .i64 ((((y0 : Nat) : Int) - 1) + 1)) ∧ ((IntKind.wrap .i64 ((((y0 : Nat) : Int) - 1) + 1)) : Int) ≤ (IntKind.wrap .i64 (((ByteArray.size s : Nat) : Int) - 1)) ∧ ((IntKind.wrap .i64 (((ByteArray.size s : Nat) : Int) - 1)) : Int) ≤ ((ByteArray.size s : Nat) : Int)) ∧ ((ByteArray.size (ByteArray.extract s (Int.toNat (IntKind.wrap .i64 ((((y0 : Nat) : Int) - 1) + 1))) (Int.toNat (IntKind.wrap .i64 (((ByteArray.size s : Nat) : Int) - 1)))) ≤ 1048576 ∧ true = true) ∧ (T6 (bif numB (ByteArray.extract s (Int.toNat (IntKind.wrap .i64 ((((y0 : Nat) : Int) - 1) + 1))) (Int.toNat (IntKind.wrap .i64 (((ByteArray.size s : Nat) : Int) - 1)))) then (T2 (rI (numV (ByteArray.extract s (Int.toNat (IntKind.wrap .i64 ((((y0 : Nat) : Int) - 1) + 1))) (Int.toNat (IntKind.wrap .i64 (((ByteArray.size s : Nat) : Int) - 1))))) (litV s))) else (True ∧ (rI (-1) (litV s)))))))) else (T3 (∃ y0' : Nat, (y0' ≤ ByteArray.size s - 1 ∧ ∀ j, y0' ≤ j → j < ByteArray.size s - 1 → ¬ byteAt s j = 123) ∧ y0' < y0 ∧ ((lxs [.c (.str s), .tp []] (True ∧ lxs [.c (.int .i64 ((ByteArray.size s : Nat) : Int))] (leV (.c (.int .i64 (IntKind.wrap .i64 ((((y0 : Nat) : Int) - 1) - 1)))) (.c (.int .i64 (((y0' : Nat) : Int) - 1))) ∧ True ∧ True ∧ lxs [.c (.str s), .c (.int .i64 ((ByteArray.size s : Nat) : Int)), .c (.int .i64 ((ByteArray.size s : Nat) : Int)), .c (.bool (ltI ((ByteArray.size s : Nat) : Int) 3)), .c (.bool false), .c (.str s), .c (.int .i64 ((ByteArray.size s : Nat) : Int)), .c (.int .i64 (IntKind.wrap .i64 (((ByteArray.size s : Nat) : Int) - 1))), .c (.int .u8 (byteAt s (Int.toNat (IntKind.wrap .i64 (((ByteArray.size s : Nat) : Int) - 1))))), .c (.bool (neI (byteAt s (Int.toNat (IntKind.wrap .i64 (((ByteArray.size s : Nat) : Int) - 1)))) 125)), .c (.bool false), .c (.int .i64 ((ByteArray.size s : Nat) : Int)), .c (.int .i64 (IntKind.wrap .i64 (((ByteArray.size s : Nat) : Int) - 2)))] (TN 20 True)))) ∧ (True) ∧ true = true))))))) else (True ∧ (rI (-1) (litV s)))))))))))))) (by kernel_rfl) ?_
  unfold T2 T3 T5 T6 T7
  have hs : ByteArray.size s ≤ 1048576 := hpre
  have hsuf : Lib.hasSuffix s.data.toList (⟨#[125]⟩ : ByteArray).data.toList = endsB s 125 := suffix_one (c := 125)
  have hl : -1 ≤ Lib.lastIndexByte s 123 ∧ Lib.lastIndexByte s 123 ≤ ByteArray.size s - 1 := last_bd s 123
  have hsub : subB s (⟨#[123]⟩ : ByteArray) = decide (0 ≤ Lib.lastIndexByte s 123) := index_last (c := 123)
  have w1 : IntKind.wrap .i64 (Lib.lastIndexByte s 123 + 1) = Lib.lastIndexByte s 123 + 1 := w64i (by omega) (by omega)
  have w2 : IntKind.wrap .i64 (((ByteArray.size s : Nat) : Int) - 1) = ((ByteArray.size s : Nat) : Int) - 1 := w64i (by omega) (by omega)
  have w3 : Int.toNat (((ByteArray.size s : Nat) : Int) - 1) = ByteArray.size s - 1 := by omega
  have w4 : IntKind.wrap .i64 (((ByteArray.size s : Nat) : Int) - 2) = ((ByteArray.size s : Nat) : Int) - 2 := w64i (by omega) (by omega)
  have hT : ByteArray.size (litT s) ≤ 1048576 := litT_size hs
  have eT : ByteArray.extract s (Int.toNat (Lib.lastIndexByte s 123 + 1)) (ByteArray.size s - 1) = litT s := rfl
  simp only [w2, w3, w4]
  simp only [btw_iff, btw_not, flagsOk, Bool.not_true, Bool.not_false, SI2A, eq_self]
  repeat' (first | apply And.intro | intro _)
  all_goals first
    | (with_reducible trivial)
    | omega
    | (with_reducible assumption)
    | exact (lit_short (by omega)).symm
    | (rename_i h1 h2; exact (lit_no1 (ends_no (by omega) h2)).symm)
    | (rename_i h1 h2; exact ⟨ByteArray.size s - 1, ⟨Nat.le_refl _, fun j h1 h2 => by omega⟩, by omega⟩)
    | (rw [w64i (by omega) (by omega)]; omega)
    | exact ext_le hs
    | exact lit_step hs (by assumption) (by omega) (by assumption)
    | exact lit_end (by omega) (by assumption) (by assumption) (by omega)
    | exact (lit_hit hs (by omega) (by assumption) (by assumption) (by omega) (by assumption)).1 (by assumption)
    | exact (lit_hit hs (by omega) (by assumption) (by assumption) (by omega) (by assumption)).2 (by assumption)
def e_s_LiteralAt : Entry Tryz.prog := ⟨123, [.v tyStr], fun x => ByteArray.size x.1 ≤ 1048576, fun x => .c (.int .i64 (litV x.1)), fun _ => [], fun x hx => b_s_LiteralAt x.1 hx, Tryz.call123⟩
end Go.Proofs.YtbpapaponnfagaaGreatDoor
