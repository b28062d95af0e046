/-
  Draws of input.
  No condition but what the arguments' cells hold. Printed by vcgen.py.
-/
import Derived.Test.YtoigkpkafgjeaaaBBlDraw5
set_option linter.unusedSimpArgs false
set_option linter.unusedVariables false
set_option maxRecDepth 100000
set_option maxHeartbeats 4000000
namespace Go.Proofs.Ytoigkpkafgjeaaa
open Go.ChangeShapes Go.WideShapes Go.ChangeAt Go.RowKit Go.Joins Go.Deep
open GoRep (rep bulk)

def hashN (code : List Int) : Nat → Int
  | 0 => IntKind.wrap .i64 (28544 + ((List.length code : Nat) : Int))
  | k + 1 => IntKind.wrap .i64 (((BitVec.ofInt (IntKind.bits .i64) (IntKind.wrap .i64 (IntKind.wrap .i64 (IntKind.wrap .i64 (hashN code k * 131) + IntKind.wrap .i64 (nth (.int .u8) code k)) + 7)) &&& BitVec.ofInt (IntKind.bits .i64) 1073741823).toNat : Nat))
def newC (code : List Int) : GCur := (code, 0, hashN code (min code.length 4000))
theorem newC_ok {code : List Int} (h : code.length ≤ maxLen) : CurOk (newC code) := ⟨Int.le_refl _, Int.natCast_nonneg _, h⟩
def L_s_l1New (code : List Int) : Nat → List AV → Mem → LoopA
  | 3, tm, M => ⟨Nat, fun y => (anyR (setA tm [(3, .c (.int .i64 (hashN code y))), (4, .c (.int .i64 ((y : Nat) : Int)))]) 8 20, M), fun y => (y ≤ List.length code ∧ y ≤ 4000), fun y => (List.length code - y)⟩
  | _, _, _ => ⟨Unit, fun _ => ([], []), fun _ => False, fun _ => 0⟩
def k0onu1v (code : List Int) (y0 : Nat) : Prop := (T5 ((((true = true ∧ leC (.hs .no (.int .u8) code) (.hs .no (.int .u8) (newC code).1)) ∧ (true = true ∧ leC (.int .i64 0) (.int .i64 (newC code).2.1)) ∧ (true = true ∧ leC (.int .i64 (hashN code y0)) (.int .i64 (newC code).2.2)) ∧ True)) ∧ true = true))
theorem b_s_l1New (code : List Int) : BCalls Try.prog 20 [.c (.hs .no (.int .u8) code)] (.c (.bp 0 0)) [.box [.hs .no (.int .u8) (newC code).1, .int .i64 (newC code).2.1, .int .i64 (newC code).2.2]] := by
  refine bc0 [] [] [] [] (L_s_l1New code) Try.func20 (fun hwf => ?_)
  refine Eq.mpr (β := (T6 ((∃ q : Nat, (q ≤ List.length code ∧ q ≤ 4000) ∧ ((lxs [.c (.hs .no (.int .u8) code), .tp [], .c (.raw (.pointer none))] (leV (.c (.int .i64 (IntKind.wrap .i64 (28544 + ((List.length code : Nat) : Int))))) (.c (.int .i64 (hashN code q))) ∧ leV (.c (.int .i64 0)) (.c (.int .i64 ((q : Nat) : Int))) ∧ lxs [.c (.hs .no (.int .u8) code), .c (.int .i64 ((List.length code : Nat) : Int)), .c (.int .i64 (IntKind.wrap .i64 (28544 + ((List.length code : Nat) : Int))))] (TN 20 (lxs [.tp [], .tp [], .tp [], .tp []] True)))) ∧ (True) ∧ true = true)) ∧ ∀ y0 : Nat, (y0 ≤ List.length code ∧ y0 ≤ 4000) → (T5 (bif (ltI ((y0 : Nat) : Int) ((List.length code : Nat) : Int)) then (T3 (bif (ltI ((y0 : Nat) : Int) 4000) then (T4 (((1 : Nat) = 1 ∧ (0 : Int) ≤ ((y0 : Nat) : Int) ∧ (((y0 : Nat) : Int) : Int) < ((List.length code : Nat) : Int)) ∧ (True ∧ (true = true ∧ (T7 (∃ y0' : Nat, (y0' ≤ List.length code ∧ y0' ≤ 4000) ∧ (List.length code - y0') < (List.length code - y0) ∧ ((lxs [.c (.hs .no (.int .u8) code), .tp [], .c (.raw (.pointer none))] (leV (.c (.int .i64 (IntKind.wrap .i64 (((BitVec.ofInt (IntKind.bits .i64) (IntKind.wrap .i64 ((IntKind.wrap .i64 ((IntKind.wrap .i64 ((hashN code y0) * 131)) + (IntKind.wrap .i64 (nth (.int .u8) code (Int.toNat ((y0 : Nat) : Int)))))) + 7)) &&& BitVec.ofInt (IntKind.bits .i64) 1073741823).toNat : Nat))))) (.c (.int .i64 (hashN code y0'))) ∧ leV (.c (.int .i64 (IntKind.wrap .i64 (((y0 : Nat) : Int) + 1)))) (.c (.int .i64 ((y0' : Nat) : Int))) ∧ lxs [.c (.hs .no (.int .u8) code), .c (.int .i64 ((List.length code : Nat) : Int)), .c (.int .i64 (IntKind.wrap .i64 (28544 + ((List.length code : Nat) : Int))))] (TN 20 (lxs [.tp [], .tp [], .tp [], .tp []] True)))) ∧ (True) ∧ true = true))))))) else (k0onu1v code y0))) else (True ∧ (k0onu1v code y0))))))) (by kernel_rfl) ?_
  unfold k0onu1v T3 T4 T5 T6 T7
  have hm : List.length code ≤ maxLen := hwf.1.1
  unfold maxLen at hm
  simp only [cuE_eq, cu_eq, leB_cur, SI2A, eq_self]
  repeat' (with_reducible first | exact trivial | apply And.intro | intro _)
  all_goals first
    | (with_reducible trivial)
    | omega
    | (with_reducible assumption)
    | exact ⟨0, ⟨Nat.zero_le _, Nat.zero_le _⟩, rfl, rfl⟩
    | (rename_i y hy _ _; exact ⟨y + 1, ⟨by omega, by omega⟩, by omega, rfl, wrapN (by unfold maxLen; omega)⟩)
    | exact leC_refl
    | rfl
    | (rename_i y hy _ _; show _ = hashN code (min _ _); rw [show min (List.length code) 4000 = y by omega])
    | (rename_i y hy _; show _ = hashN code (min _ _); rw [show min (List.length code) 4000 = y by omega])
def e_s_l1New : Entry Try.prog := ⟨20, [.v (.list (.int .u8))], fun x => True, fun x => .c (.bp 0 0), fun x => [.box [.hs .no (.int .u8) (newC x.1).1, .int .i64 (newC x.1).2.1, .int .i64 (newC x.1).2.2]], fun x hx => b_s_l1New x.1, Try.call20⟩
end Go.Proofs.Ytoigkpkafgjeaaa
