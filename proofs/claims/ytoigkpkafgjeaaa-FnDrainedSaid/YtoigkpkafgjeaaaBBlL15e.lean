/-
  Hexadecimal digits, decimal digits: the reference.
  No condition but what the arguments' cells hold. Printed by vcgen.py.
-/
import Derived.Test.YtoigkpkafgjeaaaBBlCmd2
set_option linter.unusedSimpArgs false
set_option linter.unusedVariables false
set_option maxRecDepth 100000
set_option maxHeartbeats 4000000
namespace Go.Proofs.Ytoigkpkafgjeaaa
open Go.ChangeShapes Go.WideShapes Go.ChangeAt Go.RowKit Go.Joins Go.Deep
open GoRep (rep bulk)

def hexI (x : Int) : Int := if x < 10 then x + 48 else x + 87
def hexP (x : Int) : Prop := 0 ≤ x ∧ x < 16
def hexN (s : ByteArray) : Nat → List Int
  | 0 => []
  | k + 1 => hexN s k ++ [hexI (Int.tdiv (byteAt s k) 16), hexI (Int.tmod (byteAt s k) 16)]
def hexS (s : ByteArray) : ByteArray := bytesOf (hexN s s.size)
theorem hex_q (s : ByteArray) (i : Nat) : hexP (Int.tdiv (byteAt s i) 16) ∧ hexP (Int.tmod (byteAt s i) 16) := by
  have h := byteAt_b s i
  rw [Int.tdiv_eq_ediv_of_nonneg h.1, Int.tmod_eq_emod_of_nonneg h.1]
  unfold hexP
  omega
theorem hexN_len (s : ByteArray) : ∀ k, (hexN s k).length = 2 * k
  | 0 => rfl
  | k + 1 => by
    have := hexN_len s k
    unfold hexN
    rw [List.length_append, this]
    simp only [List.length_cons, List.length_nil]
    omega
theorem b_s_l1Hex (x : Int) (hpre : hexP x) : BCalls Try.prog 119 [.c (.int .u8 x)] (.c (.int .u8 (hexI x))) [] := by
  refine bc0 [] [] [] [] L0 Try.func119 (fun hwf => ?_)
  refine Eq.mpr (β := (True ∧ (True ∧ (True ∧ (bif (ltI x 10) then (True ∧ (True ∧ (True ∧ ((true = true ∧ leC (.int .u8 (IntKind.wrap .u8 (x + 48))) (.int .u8 (hexI x))) ∧ true = true)))) else (True ∧ (True ∧ (True ∧ (True ∧ ((true = true ∧ leC (.int .u8 (IntKind.wrap .u8 ((IntKind.wrap .u8 (x - 10)) + 97))) (.int .u8 (hexI x))) ∧ true = true)))))))))) (by kernel_rfl) ?_
  obtain ⟨p0, p1⟩ : 0 ≤ x ∧ x < 16 := hpre
  simp only [btw_iff, btw_not, flagsOk, Bool.not_true, Bool.not_false, SI2A, eq_self]
  repeat' (with_reducible first | exact trivial | apply And.intro | intro _)
  all_goals first
    | (with_reducible trivial)
    | omega
    | (with_reducible assumption)
    | (rename_i h; rw [w8 (by omega) (by omega)]; exact (if_pos h).symm)
    | (rename_i h; rw [w8 (x := x - 10) (by omega) (by omega), w8 (by omega) (by omega)]; unfold hexI; rw [if_neg h]; omega)
def e_s_l1Hex : Entry Try.prog := ⟨119, [.v (.int .u8)], fun x => hexP x.1, fun x => .c (.int .u8 (hexI x.1)), fun _ => [], fun x hx => b_s_l1Hex x.1 hx, Try.call119⟩
def L_s_Hex (s : ByteArray) : Nat → List AV → Mem → LoopA
  | 3, tm, M => ⟨Nat, fun y => (anyR (setA tm [(3, .c (.row 0 0)), (4, .c (.int .i64 ((y : Nat) : Int)))]) 5 20, setM M [(0, .row (.int .u8) (hexN s y) 0 0 none)]), fun y => (y ≤ ByteArray.size s), fun y => (ByteArray.size s - y)⟩
  | _, _, _ => ⟨Unit, fun _ => ([], []), fun _ => False, fun _ => 0⟩
theorem b_s_Hex (s : ByteArray) (hpre : ByteArray.size s ≤ 1048576) : BCalls Try.prog 97 [.c (.str s)] (.c (.str (hexS s))) [] := by
  refine bc0 [e_s_l1Hex] [] [] [] (L_s_Hex s) Try.func97 (fun hwf => ?_)
  refine Eq.mpr (β := (T4 ((∃ q : Nat, (q ≤ ByteArray.size s) ∧ ((lxs [.c (.str s), .tp [], .c (.str (⟨#[]⟩ : ByteArray)), .c (.row 0 0)] (leV (.c (.int .i64 0)) (.c (.int .i64 ((q : Nat) : Int))) ∧ TN 20 (lxs [.tp [], .tp []] True))) ∧ (leB (.row (.int .u8) ([] : List Int) 0 0 none) (.row (.int .u8) (hexN s q) 0 0 none) ∧ True) ∧ true = true)) ∧ ∀ y0 : Nat, (y0 ≤ ByteArray.size s) → (T4 (bif (ltI ((y0 : Nat) : Int) ((ByteArray.size s : Nat) : Int)) then ((true = true ∧ true = true) ∧ (T3 (((0 : Int) ≤ ((y0 : Nat) : Int) ∧ (((y0 : Nat) : Int) : Int) < ((ByteArray.size s : Nat) : Int)) ∧ ((16 : Int) ≠ 0 ∧ (T2 (((0 : Int) ≤ ((y0 : Nat) : Int) ∧ (((y0 : Nat) : Int) : Int) < ((ByteArray.size s : Nat) : Int)) ∧ ((16 : Int) ≠ 0 ∧ ((hexP (IntKind.wrap .u8 (Int.tdiv (byteAt s (Int.toNat ((y0 : Nat) : Int))) 16)) ∧ true = true) ∧ ((hexP (Int.tmod (byteAt s (Int.toNat ((y0 : Nat) : Int))) 16) ∧ true = true) ∧ (True ∧ ((True ∧ List.length (hexN s y0) + List.length ([hexI (IntKind.wrap .u8 (Int.tdiv (byteAt s (Int.toNat ((y0 : Nat) : Int))) 16)), hexI (Int.tmod (byteAt s (Int.toNat ((y0 : Nat) : Int))) 16)] : List Int) ≤ rowMax) ∧ (T4 (∃ y0' : Nat, (y0' ≤ ByteArray.size s) ∧ (ByteArray.size s - y0') < (ByteArray.size s - y0) ∧ ((lxs [.c (.str s), .tp [], .c (.str (⟨#[]⟩ : ByteArray)), .c (.row 0 0)] (leV (.c (.int .i64 (IntKind.wrap .i64 (((y0 : Nat) : Int) + 1)))) (.c (.int .i64 ((y0' : Nat) : Int))) ∧ TN 20 (lxs [.tp [], .tp []] True))) ∧ (leB (.row (.int .u8) ((hexN s y0) ++ ([hexI (IntKind.wrap .u8 (Int.tdiv (byteAt s (Int.toNat ((y0 : Nat) : Int))) 16)), hexI (Int.tmod (byteAt s (Int.toNat ((y0 : Nat) : Int))) 16)] : List Int)) 0 0 none) (.row (.int .u8) (hexN s y0') 0 0 none) ∧ True) ∧ true = true)))))))))))))) else (True ∧ (List.length (hexN s y0) ≤ maxLen ∧ (True ∧ (rS (bytesOf (hexN s y0)) (hexS s)))))))))) (by kernel_rfl) ?_
  unfold T2 T3 T4
  have hp : ByteArray.size s ≤ 1048576 := hpre
  have hw : ∀ i, IntKind.wrap .u8 (Int.tdiv (byteAt s i) 16) = Int.tdiv (byteAt s i) 16 := fun i => by
    have h : 0 ≤ Int.tdiv (byteAt s i) 16 ∧ Int.tdiv (byteAt s i) 16 < 16 := (hex_q s i).1
    exact w8 h.1 (by omega)
  simp only [hw]
  simp only [btw_iff, btw_not, flagsOk, Bool.not_true, Bool.not_false, SI2A, eq_self]
  repeat' (with_reducible first | exact trivial | apply And.intro | intro _)
  all_goals first
    | (with_reducible trivial)
    | omega
    | (with_reducible assumption)
    | exact Int.natCast_nonneg _
    | exact ⟨0, Nat.zero_le _, rfl, Eq.mpr (leB_row (t := .int .u8)) rfl⟩
    | exact (hex_q s _).1
    | exact (hex_q s _).2
    | (rw [hexN_len]; show _ + 2 ≤ rowMax; unfold rowMax; omega)
    | (rw [hexN_len]; unfold maxLen; omega)
    | (rename_i y hy hlt; exact ⟨y + 1, by omega, by omega, wrapN (by unfold maxLen; omega), Eq.mpr (leB_row (t := .int .u8)) rfl⟩)
    | (rename_i y hy hge; obtain rfl : y = s.size := by omega
       rfl)
def e_s_Hex : Entry Try.prog := ⟨97, [.v tyStr], fun x => ByteArray.size x.1 ≤ 1048576, fun x => .c (.str (hexS x.1)), fun _ => [], fun x hx => b_s_Hex x.1 hx, Try.call97⟩
theorem hexS_size (s : ByteArray) : (hexS s).size = 2 * s.size := by
  unfold hexS
  rw [bytesOf_size, hexN_len]
end Go.Proofs.Ytoigkpkafgjeaaa
