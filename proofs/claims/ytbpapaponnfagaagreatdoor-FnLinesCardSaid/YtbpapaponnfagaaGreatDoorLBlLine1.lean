/-
  Ends of lines of the reference.
  No condition but what the arguments' cells hold. Printed by vcgen.py.
-/
import Derived.Test.YtbpapaponnfagaaGreatDoorLBlLit
set_option linter.unusedSimpArgs false
set_option linter.unusedVariables false
set_option maxRecDepth 100000
set_option maxHeartbeats 4000000
namespace Go.Proofs.YtbpapaponnfagaaGreatDoor
open Go.ChangeShapes Go.WideShapes Go.ChangeAt Go.RowKit Go.Joins Go.Deep
open GoRep (rep bulk)

def L_s_l18Two (s : ByteArray) (a : Int) : Nat → List AV → Mem → LoopA
  | 2, tm, M => ⟨Nat, fun y => (anyR (setA tm [(4, .any), (5, .c (.int .i64 ((y : Nat) : Int)))]) 7 19, M), fun y => ((Int.toNat a ≤ y ∧ y ≤ ByteArray.size s + Int.toNat a) ∧ ∀ j, Int.toNat a ≤ j → j < y → ¬ two s j), fun y => (ByteArray.size s + Int.toNat a + 1 - y)⟩
  | _, _, _ => ⟨Unit, fun _ => ([], []), fun _ => False, fun _ => 0⟩
def k0x41pp (a : Int) (s : ByteArray) (y0 : Nat) : Prop := (T3 (∃ y0' : Nat, ((Int.toNat a ≤ y0' ∧ y0' ≤ ByteArray.size s + Int.toNat a) ∧ ∀ j, Int.toNat a ≤ j → j < y0' → ¬ two s j) ∧ (ByteArray.size s + Int.toNat a + 1 - y0') < (ByteArray.size s + Int.toNat a + 1 - y0) ∧ ((lxs [.c (.str s), .c (.int .i64 a), .tp [], .tp []] (True ∧ leV (.c (.int .i64 (IntKind.wrap .i64 (((y0 : Nat) : Int) + 1)))) (.c (.int .i64 ((y0' : Nat) : Int))) ∧ lxs [.c (.int .i64 a)] (TN 19 True))) ∧ (True) ∧ true = true)))
theorem b_s_l18Two (s : ByteArray) (a : Int) (hpre : smallA s a) : BCalls Tryz.prog 48 [.c (.str s), .c (.int .i64 a)] (.c (.int .i64 (twoI s (Int.toNat a)))) [] := by
  refine bc0 [] [] [] [] (L_s_l18Two s a) Tryz.func48 (fun hwf => ?_)
  refine Eq.mpr (β := (T3 ((∃ q : Nat, ((Int.toNat a ≤ q ∧ q ≤ ByteArray.size s + Int.toNat a) ∧ ∀ j, Int.toNat a ≤ j → j < q → ¬ two s j) ∧ ((lxs [.c (.str s), .c (.int .i64 a), .tp [], .tp []] (True ∧ leV (.c (.int .i64 a)) (.c (.int .i64 ((q : Nat) : Int))) ∧ lxs [.c (.int .i64 a)] (TN 19 True))) ∧ (True) ∧ true = true)) ∧ ∀ y0 : Nat, ((Int.toNat a ≤ y0 ∧ y0 ≤ ByteArray.size s + Int.toNat a) ∧ ∀ j, Int.toNat a ≤ j → j < y0 → ¬ two s j) → (T5 (bif (ltI (IntKind.wrap .i64 (((y0 : Nat) : Int) + 1)) ((ByteArray.size s : Nat) : Int)) then (T2 (((0 : Int) ≤ ((y0 : Nat) : Int) ∧ (((y0 : Nat) : Int) : Int) < ((ByteArray.size s : Nat) : Int)) ∧ (T2 (bif (eqI (byteAt s (Int.toNat ((y0 : Nat) : Int))) 13) then (T3 (((0 : Int) ≤ (IntKind.wrap .i64 (((y0 : Nat) : Int) + 1)) ∧ ((IntKind.wrap .i64 (((y0 : Nat) : Int) + 1)) : Int) < ((ByteArray.size s : Nat) : Int)) ∧ (T2 (bif (eqI (byteAt s (Int.toNat (IntKind.wrap .i64 (((y0 : Nat) : Int) + 1)))) 10) then (T2 (rI ((y0 : Nat) : Int) (twoI s (Int.toNat a)))) else (k0x41pp a s y0))))) else (True ∧ (k0x41pp a s y0)))))) else (True ∧ (rI (-1) (twoI s (Int.toNat a))))))))) (by kernel_rfl) ?_
  unfold k0x41pp T2 T3 T5
  obtain ⟨hs, ha0, ha1⟩ : ByteArray.size s ≤ 1048576 ∧ (0 ≤ a ∧ a ≤ 1048576) := hpre
  simp only [btw_iff, btw_not, flagsOk, Bool.not_true, Bool.not_false, SI2A, eq_self]
  refine ⟨⟨Int.toNat a, ⟨⟨Nat.le_refl _, by omega⟩, fun j h1 h2 => by omega⟩, by omega⟩, fun y hy => ?_⟩
  have e : IntKind.wrap .i64 (((y : Nat) : Int) + 1) = ((y : Nat) : Int) + 1 := w64i (by omega) (by omega)
  simp only [e]
  repeat' (first | apply And.intro | intro _)
  all_goals first
    | (with_reducible trivial)
    | omega
    | (with_reducible assumption)
    | exact two_found hy (by assumption) (by assumption) (by assumption)
    | exact two_step hy (by assumption) (fun q => absurd q.2 (by assumption))
    | exact two_step hy (by assumption) (fun q => absurd q.1 (by assumption))
    | exact two_end hy (by assumption)
def e_s_l18Two : Entry Tryz.prog := ⟨48, [.v tyStr, .v tyInt], fun x => smallA x.1 x.2.1, fun x => .c (.int .i64 (twoI x.1 (Int.toNat x.2.1))), fun _ => [], fun x hx => b_s_l18Two x.1 x.2.1 hx, Tryz.call48⟩
end Go.Proofs.YtbpapaponnfagaaGreatDoor
