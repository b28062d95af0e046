/-
  Tokens and their texts.
  No condition but what the arguments' cells hold. Printed by vcgen.py.
-/
import Derived.Test.YtbpapaponnfagaaGreatDoorLBlPart
import Derived.Test.YtbpapaponnfagaaGreatDoorLNumLaw
import Derived.Test.YtbpapaponnfagaaGreatDoorLLawA
set_option linter.unusedSimpArgs false
set_option linter.unusedVariables false
set_option maxRecDepth 100000
set_option maxHeartbeats 4000000
namespace Go.Proofs.YtbpapaponnfagaaGreatDoor
open Go.ChangeShapes Go.WideShapes Go.ChangeAt Go.RowKit Go.Joins Go.Deep
open GoRep (rep bulk)

theorem SIU : type_of% (And.intro @ix_eq (And.intro @vI_eq (And.intro @cI_eq (And.intro @cB_eq (And.intro @cS_eq (And.intro @w64_eq (And.intro @tpn_eq (And.intro @ci_eq (And.intro @hn_eq (And.intro @pt_eq (And.intro @T2_eq (And.intro @T3_eq (And.intro @T4_eq (And.intro @T5_eq (And.intro @T6_eq (And.intro @T7_eq (And.intro @T8_eq (And.intro @T9_eq (And.intro @T10_eq (And.intro @T11_eq (And.intro @T12_eq (And.intro @TN_eq (And.intro @lxs_eq (And.intro @lb_true (And.intro @rB_eq (And.intro @rI_eq (And.intro @rS_eq (And.intro @leB_mp (And.intro @true_and (And.intro @and_true (And.intro @not_true (And.intro @not_false (And.intro @leV_any (And.intro @leV_int (And.intro @leV_bool (And.intro @leV_str (And.intro @leV_refl (And.intro @leB_refl (And.intro @leC_int (And.intro @leC_bool (And.intro @leC_str (And.intro @leC_hs (And.intro @leB_row (And.intro @leB_rowInt (And.intro @leB_rowStr (And.intro @leB_rowBool (And.intro @leB_rowToken (And.intro @leB_rowSpan (And.intro @leB_rowScope (And.intro @leB_rowFilter (And.intro @leB_rowCommand (And.intro @leB_rowMsg (And.intro @leB_rowBox (And.intro @leB_rowCommit (And.intro @leB_rowStore (And.intro @leB_rowClient (And.intro @leB_rowNote (And.intro @leB_rowQueue (And.intro @leB_rowOut (And.intro @leB_rowIn (And.intro @leB_rowSession (And.intro @leB_rowServer (And.intro @leB_rowOutcome (@Int.toNat_natCast)))))))))))))))))))))))))))))))))))))))))))))))))))))))))))))))) := And.intro @ix_eq (And.intro @vI_eq (And.intro @cI_eq (And.intro @cB_eq (And.intro @cS_eq (And.intro @w64_eq (And.intro @tpn_eq (And.intro @ci_eq (And.intro @hn_eq (And.intro @pt_eq (And.intro @T2_eq (And.intro @T3_eq (And.intro @T4_eq (And.intro @T5_eq (And.intro @T6_eq (And.intro @T7_eq (And.intro @T8_eq (And.intro @T9_eq (And.intro @T10_eq (And.intro @T11_eq (And.intro @T12_eq (And.intro @TN_eq (And.intro @lxs_eq (And.intro @lb_true (And.intro @rB_eq (And.intro @rI_eq (And.intro @rS_eq (And.intro @leB_mp (And.intro @true_and (And.intro @and_true (And.intro @not_true (And.intro @not_false (And.intro @leV_any (And.intro @leV_int (And.intro @leV_bool (And.intro @leV_str (And.intro @leV_refl (And.intro @leB_refl (And.intro @leC_int (And.intro @leC_bool (And.intro @leC_str (And.intro @leC_hs (And.intro @leB_row (And.intro @leB_rowInt (And.intro @leB_rowStr (And.intro @leB_rowBool (And.intro @leB_rowToken (And.intro @leB_rowSpan (And.intro @leB_rowScope (And.intro @leB_rowFilter (And.intro @leB_rowCommand (And.intro @leB_rowMsg (And.intro @leB_rowBox (And.intro @leB_rowCommit (And.intro @leB_rowStore (And.intro @leB_rowClient (And.intro @leB_rowNote (And.intro @leB_rowQueue (And.intro @leB_rowOut (And.intro @leB_rowIn (And.intro @leB_rowSession (And.intro @leB_rowServer (And.intro @leB_rowOutcome (@Int.toNat_natCast)))))))))))))))))))))))))))))))))))))))))))))))))))))))))))))))
theorem bifI {b : Bool} {P Q : Prop} (h : b = true → P) (k : b = false → Q) : bif b then P else Q := by
  cases b
  · exact k rfl
  · exact h rfl
theorem bif_if {α : Type} {b : Bool} {x y : α} : (bif b then x else y) = if b = true then x else y := by cases b <;> rfl
theorem leB_rowU8 {x y : List Int} {v c : Nat} : leB (.row (.int .u8) x v c none) (.row (.int .u8) y v c none) = (x = y) := leB_row (t := .int .u8)

def atCh (x : Int) : Prop := (33 ≤ x ∧ x ≤ 126) ∧ ((x ≠ 40 ∧ x ≠ 41) ∧ (x ≠ 123 ∧ (x ≠ 34 ∧ x ≠ 92)))
instance (x : Int) : Decidable (atCh x) := by unfold atCh; infer_instance
def atomOk (s : ByteArray) : Bool := decide (∀ i, i < s.size → atCh (byteAt s i)) && btw ((s.size : Nat) : Int) 1 40
theorem atom_no {s : ByteArray} {i : Nat} (hi : i < s.size) (h : ¬ atCh (byteAt s i)) : atomOk s = false := by
  unfold atomOk
  rw [decide_eq_false (fun q => h (q i hi))]
  rfl
theorem atom_all {s : ByteArray} {k : Nat} (hk : ¬ ((k : Nat) : Int) < ((s.size : Nat) : Int)) (h : ∀ i, i < k → atCh (byteAt s i)) : atomOk s = btw ((s.size : Nat) : Int) 1 40 := by
  unfold atomOk
  rw [decide_eq_true (fun i hi => h i (by omega))]
  rfl
def quCh (x : Int) : Prop := 32 ≤ x ∧ x ≤ 126
instance (x : Int) : Decidable (quCh x) := by unfold quCh; infer_instance
def quN (s : ByteArray) : Nat → List Int
  | 0 => [34]
  | k + 1 => (if byteAt s k = 34 ∨ byteAt s k = 92 then quN s k ++ [92] else quN s k) ++ [byteAt s k]
def quoteS (s : ByteArray) : ByteArray := if s.size ≤ 40 ∧ ∀ i, i < s.size → quCh (byteAt s i) then bytesOf (quN s s.size ++ [34]) else ⟨#[]⟩
theorem quN_len (s : ByteArray) : ∀ k, (quN s k).length ≤ 2 * k + 1
  | 0 => Nat.le_refl _
  | k + 1 => by
    have := quN_len s k
    unfold quN
    split <;> simp only [List.length_append, List.length_cons, List.length_nil] <;> omega
theorem quote_long {s : ByteArray} (h : (40 : Int) < ((s.size : Nat) : Int)) : quoteS s = ⟨#[]⟩ := if_neg (fun q => by omega)
theorem quote_no {s : ByteArray} {i : Nat} (hi : i < s.size) (h : ¬ quCh (byteAt s i)) : quoteS s = ⟨#[]⟩ := if_neg (fun q => h (q.2 i hi))
theorem quote_all {s : ByteArray} {k : Nat} (h1 : ¬ (40 : Int) < ((s.size : Nat) : Int)) (hk : k ≤ s.size) (hk2 : ¬ ((k : Nat) : Int) < ((s.size : Nat) : Int)) (h : ∀ i, i < k → quCh (byteAt s i)) : quoteS s = bytesOf (quN s k ++ [34]) := by
  obtain rfl : k = s.size := by omega
  exact if_pos ⟨by omega, h⟩
theorem quN_a {s : ByteArray} {k : Nat} (h : byteAt s k = 34) : quN s (k + 1) = quN s k ++ [92] ++ [byteAt s k] := by
  show (if byteAt s k = 34 ∨ byteAt s k = 92 then quN s k ++ [92] else quN s k) ++ [byteAt s k] = _
  rw [if_pos (.inl h)]
theorem quN_b {s : ByteArray} {k : Nat} (h : byteAt s k = 92) : quN s (k + 1) = quN s k ++ [92] ++ [byteAt s k] := by
  show (if byteAt s k = 34 ∨ byteAt s k = 92 then quN s k ++ [92] else quN s k) ++ [byteAt s k] = _
  rw [if_pos (.inr h)]
theorem quN_c {s : ByteArray} {k : Nat} (h1 : ¬ byteAt s k = 34) (h2 : ¬ byteAt s k = 92) : quN s (k + 1) = quN s k ++ [byteAt s k] := by
  show (if byteAt s k = 34 ∨ byteAt s k = 92 then quN s k ++ [92] else quN s k) ++ [byteAt s k] = _
  rw [if_neg (fun q => q.elim h1 h2)]
theorem quote_size (s : ByteArray) : (quoteS s).size ≤ 100 := by
  unfold quoteS
  split
  · rename_i h
    rw [bytesOf_size, List.length_append, List.length_singleton]
    have := quN_len s s.size
    omega
  · exact Nat.zero_le _
def L_s_AtomOk (s : ByteArray) : Nat → List AV → Mem → LoopA
  | 2, tm, M => ⟨Nat, fun y => (anyR (setA tm [(2, .any), (3, .c (.int .i64 ((y : Nat) : Int)))]) 4 46, M), fun y => (y ≤ ByteArray.size s ∧ ∀ j, j < y → atCh (byteAt s j)), fun y => (ByteArray.size s - y)⟩
  | _, _, _ => ⟨Unit, fun _ => ([], []), fun _ => False, fun _ => 0⟩
def k0tmh4x (y0 : Nat) (s : ByteArray) : Prop := ((0 : Int) ≤ ((y0 : Nat) : Int) ∧ (((y0 : Nat) : Int) : Int) < ((ByteArray.size s : Nat) : Int))
def k1tmh4x (s : ByteArray) : Prop := (T6 (rB false (atomOk s)))
theorem b_s_AtomOk (s : ByteArray) : BCalls Tryz.prog 217 [.c (.str s)] (.c (.bool (atomOk s))) [] := by
  refine bc0 [e_s_l1In] [] [] [] (L_s_AtomOk s) Tryz.func217 (fun hwf => ?_)
  refine Eq.mpr (β := (T2 ((∃ q : Nat, (q ≤ ByteArray.size s ∧ ∀ j, j < q → atCh (byteAt s j)) ∧ ((lxs [.c (.str s), .tp []] (True ∧ leV (.c (.int .i64 0)) (.c (.int .i64 ((q : Nat) : Int))) ∧ TN 46 (lxs [.tp [], .tp [], .tp []] True))) ∧ (True) ∧ true = true)) ∧ ∀ y0 : Nat, (y0 ≤ ByteArray.size s ∧ ∀ j, j < y0 → atCh (byteAt s j)) → (T4 (bif (ltI ((y0 : Nat) : Int) ((ByteArray.size s : Nat) : Int)) then (T2 ((k0tmh4x y0 s) ∧ (T2 (bif (ltI (byteAt s (Int.toNat ((y0 : Nat) : Int))) 33) then (T6 (k1tmh4x s)) else (T2 ((k0tmh4x y0 s) ∧ (T3 (bif (gtI (byteAt s (Int.toNat ((y0 : Nat) : Int))) 126) then (T4 (k1tmh4x s)) else (T2 ((k0tmh4x y0 s) ∧ (T3 (bif (eqI (byteAt s (Int.toNat ((y0 : Nat) : Int))) 40) then (T2 (k1tmh4x s)) else (T2 ((k0tmh4x y0 s) ∧ (T3 (bif (eqI (byteAt s (Int.toNat ((y0 : Nat) : Int))) 41) then (k1tmh4x s) else (T2 ((k0tmh4x y0 s) ∧ (T3 (bif (eqI (byteAt s (Int.toNat ((y0 : Nat) : Int))) 123) then (T4 (rB false (atomOk s))) else (T2 ((k0tmh4x y0 s) ∧ (T3 (bif (eqI (byteAt s (Int.toNat ((y0 : Nat) : Int))) 34) then (T2 (rB false (atomOk s))) else (T2 ((k0tmh4x y0 s) ∧ (T2 (bif (eqI (byteAt s (Int.toNat ((y0 : Nat) : Int))) 92) then (True ∧ (rB false (atomOk s))) else (T3 (∃ y0' : Nat, (y0' ≤ ByteArray.size s ∧ ∀ j, j < y0' → atCh (byteAt s j)) ∧ (ByteArray.size s - y0') < (ByteArray.size s - y0) ∧ ((lxs [.c (.str s), .tp []] (True ∧ leV (.c (.int .i64 (IntKind.wrap .i64 (((y0 : Nat) : Int) + 1)))) (.c (.int .i64 ((y0' : Nat) : Int))) ∧ TN 46 (lxs [.tp [], .tp [], .tp []] True))) ∧ (True) ∧ true = true))))))))))))))))))))))))))))))) else (T2 ((True ∧ true = true) ∧ (True ∧ (rB (btw ((ByteArray.size s : Nat) : Int) 1 40) (atomOk s)))))))))) (by kernel_rfl) ?_
  unfold k1tmh4x k0tmh4x T2 T3 T4 T6
  have hm : s.size ≤ maxLen := hwf.1
  unfold maxLen at hm
  simp only [btw_iff, btw_not, flagsOk, Bool.not_true, Bool.not_false, SI2A, eq_self]
  repeat' (with_reducible first | exact trivial | apply And.intro | intro _)
  all_goals first
    | (with_reducible trivial)
    | omega
    | (with_reducible assumption)
    | exact ⟨0, ⟨Nat.zero_le _, allN_zero⟩, rfl⟩
    | exact (atom_no (Int.ofNat_lt.1 (by assumption)) (by unfold atCh; omega)).symm
    | (rename_i y hy _ _ _ _ _ _ _ _; exact ⟨y + 1, ⟨by omega, allN_step hy.2 (by unfold atCh; omega)⟩, by omega, wrapN (by unfold maxLen; omega)⟩)
    | (rename_i y hy hge; exact (atom_all hge hy.2).symm)
def e_s_AtomOk : Entry Tryz.prog := ⟨217, [.v tyStr], fun x => True, fun x => .c (.bool (atomOk x.1)), fun _ => [], fun x hx => b_s_AtomOk x.1, Tryz.call217⟩
def L_s_Quote (s : ByteArray) : Nat → List AV → Mem → LoopA
  | 5, tm, M => ⟨Nat, fun y => (anyR (setA tm [(2, .any), (3, .c (.row 0 0)), (4, .c (.int .i64 ((y : Nat) : Int)))]) 8 36, setM M [(0, .row (.int .u8) (quN s y) 0 0 none)]), fun y => (y ≤ ByteArray.size s ∧ ∀ j, j < y → quCh (byteAt s j)), fun y => (ByteArray.size s - y)⟩
  | _, _, _ => ⟨Unit, fun _ => ([], []), fun _ => False, fun _ => 0⟩
def k1pwcw8 (y0 : Nat) (s : ByteArray) : Prop := ((0 : Int) ≤ ((y0 : Nat) : Int) ∧ (((y0 : Nat) : Int) : Int) < ((ByteArray.size s : Nat) : Int))
def k2pwcw8 (y0 : Nat) (y0' : Nat) (s : ByteArray) : Prop := (True ∧ lxs [.c (.row 0 0)] (leV (.c (.int .i64 (IntKind.wrap .i64 (((y0 : Nat) : Int) + 1)))) (.c (.int .i64 ((y0' : Nat) : Int))) ∧ lxs [.c (.str s), .c (.int .i64 ((ByteArray.size s : Nat) : Int)), .c (.bool false)] (TN 36 (lxs [.tp [], .tp [], .tp [], .tp []] True))))
def k0pwcw8 (s : ByteArray) (y0 : Nat) : Prop := (T2 ((True ∧ List.length (quN s y0) + List.length ([92] : List Int) ≤ rowMax) ∧ (T4 ((k1pwcw8 y0 s) ∧ (True ∧ ((True ∧ List.length ((quN s y0) ++ ([92] : List Int)) + List.length ([(byteAt s (Int.toNat ((y0 : Nat) : Int)))] : List Int) ≤ rowMax) ∧ (T4 (∃ y0' : Nat, (y0' ≤ ByteArray.size s ∧ ∀ j, j < y0' → quCh (byteAt s j)) ∧ (ByteArray.size s - y0') < (ByteArray.size s - y0) ∧ ((lxs [.c (.str s), .tp []] (k2pwcw8 y0 y0' s)) ∧ (leB (.row (.int .u8) (((quN s y0) ++ ([92] : List Int)) ++ ([(byteAt s (Int.toNat ((y0 : Nat) : Int)))] : List Int)) 0 0 none) (.row (.int .u8) (quN s y0') 0 0 none) ∧ True) ∧ true = true)))))))))
theorem b_s_Quote (s : ByteArray) : BCalls Tryz.prog 218 [.c (.str s)] (.c (.str (quoteS s))) [] := by
  refine bc0 [] [] [] [] (L_s_Quote s) Tryz.func218 (fun hwf => ?_)
  refine Eq.mpr (β := (T4 (bif (gtI ((ByteArray.size s : Nat) : Int) 40) then (True ∧ (rS (⟨#[]⟩ : ByteArray) (quoteS s))) else (T3 ((∃ q : Nat, (q ≤ ByteArray.size s ∧ ∀ j, j < q → quCh (byteAt s j)) ∧ ((lxs [.c (.str s), .tp []] (True ∧ lxs [.c (.row 0 0)] (leV (.c (.int .i64 0)) (.c (.int .i64 ((q : Nat) : Int))) ∧ lxs [.c (.str s), .c (.int .i64 ((ByteArray.size s : Nat) : Int)), .c (.bool false)] (TN 36 (lxs [.tp [], .tp [], .tp [], .tp []] True))))) ∧ (leB (.row (.int .u8) ([34] : List Int) 0 0 none) (.row (.int .u8) (quN s q) 0 0 none) ∧ True) ∧ true = true)) ∧ ∀ y0 : Nat, (y0 ≤ ByteArray.size s ∧ ∀ j, j < y0 → quCh (byteAt s j)) → (T4 (bif (ltI ((y0 : Nat) : Int) ((ByteArray.size s : Nat) : Int)) then (T2 ((k1pwcw8 y0 s) ∧ (T2 (bif (ltI (byteAt s (Int.toNat ((y0 : Nat) : Int))) 32) then (T2 (rS (⟨#[]⟩ : ByteArray) (quoteS s))) else (T2 ((k1pwcw8 y0 s) ∧ (T2 (bif (gtI (byteAt s (Int.toNat ((y0 : Nat) : Int))) 126) then (True ∧ (rS (⟨#[]⟩ : ByteArray) (quoteS s))) else (T2 ((k1pwcw8 y0 s) ∧ (T2 (bif (eqI (byteAt s (Int.toNat ((y0 : Nat) : Int))) 34) then (True ∧ (k0pwcw8 s y0)) else (T2 ((k1pwcw8 y0 s) ∧ (T2 (bif (eqI (byteAt s (Int.toNat ((y0 : Nat) : Int))) 92) then (k0pwcw8 s y0) else (T3 ((k1pwcw8 y0 s) ∧ (True ∧ ((True ∧ List.length (quN s y0) + List.length ([(byteAt s (Int.toNat ((y0 : Nat) : Int)))] : List Int) ≤ rowMax) ∧ (T4 (∃ y0' : Nat, (y0' ≤ ByteArray.size s ∧ ∀ j, j < y0' → quCh (byteAt s j)) ∧ (ByteArray.size s - y0') < (ByteArray.size s - y0) ∧ ((lxs [.c (.str s), .tp []] (k2pwcw8 y0 y0' s)) ∧ (leB (.row (.int .u8) ((quN s y0) ++ ([(byteAt s (Int.toNat ((y0 : Nat) : Int)))] : List Int)) 0 0 none) (.row (.int .u8) (quN s y0') 0 0 none) ∧ True) ∧ true = true))))))))))))))))))))))) else (T2 ((True ∧ List.length (quN s y0) + List.length ([34] : List Int) ≤ rowMax) ∧ (List.length ((quN s y0) ++ ([34] : List Int)) ≤ maxLen ∧ (True ∧ (rS (bytesOf ((quN s y0) ++ ([34] : List Int))) (quoteS s))))))))))))) (by kernel_rfl) ?_
  unfold k0pwcw8 k2pwcw8 k1pwcw8 T2 T3 T4
  have hm : s.size ≤ maxLen := hwf.1
  unfold maxLen at hm
  have hl := quN_len s
  simp only [leB_rowU8, btw_iff, btw_not, flagsOk, Bool.not_true, Bool.not_false, SI2A, eq_self]
  repeat' (with_reducible first | exact trivial | apply And.intro | intro _)
  all_goals first
    | (with_reducible trivial)
    | omega
    | (with_reducible assumption)
    | exact (quote_long (by assumption)).symm
    | exact ⟨0, ⟨Nat.zero_le _, allN_zero⟩, rfl, rfl⟩
    | exact (quote_no (Int.ofNat_lt.1 (by assumption)) (by unfold quCh; omega)).symm
    | (rename_i y hy _ _ _ _; have := hl y; rw [List.length_singleton]; unfold rowMax; omega)
    | (rename_i y hy _ _ _ _; have := hl y; rw [List.length_append, List.length_singleton, List.length_singleton]; unfold rowMax; omega)
    | (rename_i y hy _ _ _ _ _; have := hl y; rw [List.length_singleton]; unfold rowMax; omega)
    | (rename_i y hy _ _ _ _ _; have := hl y; rw [List.length_append, List.length_singleton, List.length_singleton]; unfold rowMax; omega)
    | (rename_i y hy _ _ _ h1; exact ⟨y + 1, ⟨by omega, allN_step hy.2 (by unfold quCh; omega)⟩, by omega, wrapN (by unfold maxLen; omega), (quN_a h1).symm⟩)
    | (rename_i y hy _ _ _ _ h1; exact ⟨y + 1, ⟨by omega, allN_step hy.2 (by unfold quCh; omega)⟩, by omega, wrapN (by unfold maxLen; omega), (quN_b h1).symm⟩)
    | (rename_i y hy _ _ _ h1 h2; exact ⟨y + 1, ⟨by omega, allN_step hy.2 (by unfold quCh; omega)⟩, by omega, wrapN (by unfold maxLen; omega), (quN_c h1 h2).symm⟩)
    | (rename_i y hy _; have := hl y; rw [List.length_singleton]; unfold rowMax; omega)
    | (rename_i y hy _; have := hl y; rw [List.length_append, List.length_singleton]; unfold maxLen; omega)
    | (rename_i h1 y hy h2; exact (quote_all h1 hy.1 h2 hy.2).symm)
def e_s_Quote : Entry Tryz.prog := ⟨218, [.v tyStr], fun x => True, fun x => .c (.str (quoteS x.1)), fun _ => [], fun x hx => b_s_Quote x.1, Tryz.call218⟩
def L_s_Digits (n : Int) : Nat → List AV → Mem → LoopA
  | 5, tm, M => ⟨Nat × ByteArray, fun y => (anyR (setA tm [(0, .c (.int .i64 ((y.1 : Nat) : Int))), (4, .c (.str y.2)), (5, .any)]) 10 17, M), fun y => (digI y.1 y.2 n), fun y => y.1⟩
  | _, _, _ => ⟨Unit, fun _ => ([], []), fun _ => False, fun _ => 0⟩
theorem b_s_Digits (n : Int) (hpre : nonneg n) : BCalls Tryz.prog 16 [.c (.int .i64 n)] (.c (.str (⟨(Lib.itoa n).toArray⟩ : ByteArray))) [] := by
  refine bc0 [] [] [] [] (L_s_Digits n) Tryz.func16 (fun hwf => ?_)
  refine Eq.mpr (β := (T3 (bif (eqI n 0) then (True ∧ (rS (⟨#[48]⟩ : ByteArray) (⟨(Lib.itoa n).toArray⟩ : ByteArray))) else (T4 ((∃ q : Nat × ByteArray, (digI q.1 q.2 n) ∧ ((leV (.c (.int .i64 n)) (.c (.int .i64 ((q.1 : Nat) : Int))) ∧ lxs [.tp [], .c (.str (⟨#[]⟩ : ByteArray)), .c (.bool (ltI n 0))] (leV (.c (.str (⟨#[]⟩ : ByteArray))) (.c (.str q.2)) ∧ True ∧ lxs [.c (.int .i64 n), .c (.bool false), .c (.int .i64 n), .c (.bool (ltI n 0))] (TN 17 (lxs [.tp [], .tp [], .tp [], .tp []] True)))) ∧ (True) ∧ true = true)) ∧ ∀ y0 : Nat × ByteArray, (digI y0.1 y0.2 n) → (T2 (bif (neI ((y0.1 : Nat) : Int) 0) then (True ∧ ((10 : Int) ≠ 0 ∧ (T3 (bif (ltI (Int.tmod ((y0.1 : Nat) : Int) 10) 0) then (T5 (true = true ∧ (True ∧ (List.length ([(IntKind.wrap .u8 (IntKind.wrap .i64 (48 + (IntKind.wrap .i64 (0 - (Int.tmod ((y0.1 : Nat) : Int) 10))))))] : List Int) ≤ maxLen ∧ (True ∧ (ByteArray.size (bytesOf ([(IntKind.wrap .u8 (IntKind.wrap .i64 (48 + (IntKind.wrap .i64 (0 - (Int.tmod ((y0.1 : Nat) : Int) 10))))))] : List Int)) + ByteArray.size y0.2 ≤ maxLen ∧ (T2 ((10 : Int) ≠ 0 ∧ (True ∧ (∃ y0' : Nat × ByteArray, (digI y0'.1 y0'.2 n) ∧ y0'.1 < y0.1 ∧ ((leV (.c (.int .i64 (IntKind.wrap .i64 (Int.tdiv ((y0.1 : Nat) : Int) 10)))) (.c (.int .i64 ((y0'.1 : Nat) : Int))) ∧ lxs [.tp [], .c (.str (⟨#[]⟩ : ByteArray)), .c (.bool (ltI n 0))] (leV (.c (.str ((bytesOf ([(IntKind.wrap .u8 (IntKind.wrap .i64 (48 + (IntKind.wrap .i64 (0 - (Int.tmod ((y0.1 : Nat) : Int) 10))))))] : List Int)) ++ y0.2))) (.c (.str y0'.2)) ∧ True ∧ lxs [.c (.int .i64 n), .c (.bool false), .c (.int .i64 n), .c (.bool (ltI n 0))] (TN 17 (lxs [.tp [], .tp [], .tp [], .tp []] True)))) ∧ (True) ∧ true = true))))))))))) else (T2 (true = true ∧ (True ∧ (List.length ([(IntKind.wrap .u8 (IntKind.wrap .i64 (48 + (Int.tmod ((y0.1 : Nat) : Int) 10))))] : List Int) ≤ maxLen ∧ (True ∧ (ByteArray.size (bytesOf ([(IntKind.wrap .u8 (IntKind.wrap .i64 (48 + (Int.tmod ((y0.1 : Nat) : Int) 10))))] : List Int)) + ByteArray.size y0.2 ≤ maxLen ∧ (T2 ((10 : Int) ≠ 0 ∧ (True ∧ (∃ y0' : Nat × ByteArray, (digI y0'.1 y0'.2 n) ∧ y0'.1 < y0.1 ∧ ((leV (.c (.int .i64 (IntKind.wrap .i64 (Int.tdiv ((y0.1 : Nat) : Int) 10)))) (.c (.int .i64 ((y0'.1 : Nat) : Int))) ∧ lxs [.tp [], .c (.str (⟨#[]⟩ : ByteArray)), .c (.bool (ltI n 0))] (leV (.c (.str ((bytesOf ([(IntKind.wrap .u8 (IntKind.wrap .i64 (48 + (Int.tmod ((y0.1 : Nat) : Int) 10))))] : List Int)) ++ y0.2))) (.c (.str y0'.2)) ∧ True ∧ lxs [.c (.int .i64 n), .c (.bool false), .c (.int .i64 n), .c (.bool (ltI n 0))] (TN 17 (lxs [.tp [], .tp [], .tp [], .tp []] True)))) ∧ (True) ∧ true = true))))))))))))))) else (True ∧ (bif (ltI n 0) then (True ∧ (ByteArray.size (⟨#[45]⟩ : ByteArray) + ByteArray.size y0.2 ≤ maxLen ∧ (True ∧ (rS ((⟨#[45]⟩ : ByteArray) ++ y0.2) (⟨(Lib.itoa n).toArray⟩ : ByteArray))))) else (T2 (rS y0.2 (⟨(Lib.itoa n).toArray⟩ : ByteArray)))))))))))) (by kernel_rfl) ?_
  unfold T2 T3 T4 T5
  have h0 : 0 ≤ n := hpre
  have hb := i64_b hwf.1
  have e1 : ∀ k : Nat, Int.tmod ((k : Nat) : Int) 10 = ((k % 10 : Nat) : Int) := fun k => rfl
  have e2 : ∀ k : Nat, Int.tdiv ((k : Nat) : Int) 10 = ((k / 10 : Nat) : Int) := fun k => rfl
  have e3 : ∀ k : Nat, IntKind.wrap .u8 (IntKind.wrap .i64 (48 + ((k % 10 : Nat) : Int))) = ((48 + k % 10 : Nat) : Int) := fun k => by rw [w64i (by omega) (by omega), w8 (by omega) (by omega)]; omega
  simp only [e1, e2, e3]
  simp only [btw_iff, btw_not, flagsOk, Bool.not_true, Bool.not_false, SI2A, eq_self]
  repeat' (first | apply And.intro | intro _)
  all_goals first
    | (with_reducible trivial)
    | omega
    | (with_reducible assumption)
    | exact dig_zero (by assumption)
    | exact ⟨(n.toNat, _), digI_init h0 (by assumption), by omega, rfl⟩
    | (unfold maxLen; simp; done)
    | (rename_i y hy hk hx; have := digI_size hb.2 h0 hy; rw [bytesOf_size]; unfold maxLen; simp only [List.length_singleton]; omega)
    | exact dig_next hb.2 h0 (by omega) (by assumption)
    | (rename_i y hy hk hneg; obtain ⟨k, o⟩ := y; obtain rfl : k = 0 := by have : ((k : Nat) : Int) = 0 := hk; omega
       exact digI_end h0 hy)
def e_s_Digits : Entry Tryz.prog := ⟨16, [.v tyInt], fun x => nonneg x.1, fun x => .c (.str (⟨(Lib.itoa x.1).toArray⟩ : ByteArray)), fun _ => [], fun x hx => b_s_Digits x.1 hx, Tryz.call16⟩
theorem itoa_sz {n : Int} (h : -9223372036854775808 ≤ n ∧ n ≤ 9223372036854775807) : (⟨(Lib.itoa n).toArray⟩ : ByteArray).size ≤ 20 := by
  have := itoa_len h
  show (Lib.itoa n).toArray.size ≤ 20
  rwa [List.size_toArray]
def lit3 (s : ByteArray) : ByteArray := (bif (gtI ((ByteArray.size s : Nat) : Int) 40) then (⟨#[]⟩ : ByteArray) else ((((⟨#[123]⟩ : ByteArray) ++ (⟨(Lib.itoa ((ByteArray.size s : Nat) : Int)).toArray⟩ : ByteArray)) ++ (⟨#[125, 13, 10]⟩ : ByteArray)) ++ s))
theorem b_s_l3Literal (s : ByteArray) : BCalls Tryz.prog 219 [.c (.str s)] (.c (.str (lit3 s))) [] := by
  refine bc0 [e_s_Digits] [] [] [] L0 Tryz.func219 (fun hwf => ?_)
  refine Eq.mpr (β := (T4 (bif (gtI ((ByteArray.size s : Nat) : Int) 40) then (True ∧ (rS (⟨#[]⟩ : ByteArray) (lit3 s))) else (T2 ((nonneg ((ByteArray.size s : Nat) : Int) ∧ true = true) ∧ (ByteArray.size (⟨#[123]⟩ : ByteArray) + ByteArray.size (⟨(Lib.itoa ((ByteArray.size s : Nat) : Int)).toArray⟩ : ByteArray) ≤ maxLen ∧ (ByteArray.size ((⟨#[123]⟩ : ByteArray) ++ (⟨(Lib.itoa ((ByteArray.size s : Nat) : Int)).toArray⟩ : ByteArray)) + ByteArray.size (⟨#[125, 13, 10]⟩ : ByteArray) ≤ maxLen ∧ (True ∧ (ByteArray.size (((⟨#[123]⟩ : ByteArray) ++ (⟨(Lib.itoa ((ByteArray.size s : Nat) : Int)).toArray⟩ : ByteArray)) ++ (⟨#[125, 13, 10]⟩ : ByteArray)) + ByteArray.size s ≤ maxLen ∧ (True ∧ (rS ((((⟨#[123]⟩ : ByteArray) ++ (⟨(Lib.itoa ((ByteArray.size s : Nat) : Int)).toArray⟩ : ByteArray)) ++ (⟨#[125, 13, 10]⟩ : ByteArray)) ++ s) (lit3 s)))))))))))) (by kernel_rfl) ?_
  unfold T2 T4
  have hm : s.size ≤ maxLen := hwf.1
  have h1 : (⟨#[123]⟩ : ByteArray).size = 1 := rfl
  have h3 : (⟨#[125, 13, 10]⟩ : ByteArray).size = 3 := rfl
  have hz : nonneg ((s.size : Nat) : Int) := Int.natCast_nonneg _
  unfold maxLen at hm
  have hd := itoa_sz (n := ((s.size : Nat) : Int)) (by omega)
  simp only [SIU, eq_self]
  repeat' (with_reducible first | exact trivial | apply And.intro | apply bifI | intro _)
  all_goals first
    | (with_reducible trivial)
    | omega
    | (with_reducible infer_instance)
    | (simp only [lit3, cond_true, cond_false, Int.toNat_natCast, *]; done)
    | (subst_vars; simp only [lit3, cond_true, cond_false, Int.toNat_natCast, *]; done)
    | (simp only [lit3, cond_true, cond_false, *]; exact leC_refl)
    | exact hz
    | (rename_i h; have h' := gtI_false.1 h; (try simp only [ByteArray.size_append]); unfold maxLen; omega)
def e_s_l3Literal : Entry Tryz.prog := ⟨219, [.v tyStr], fun x => True, fun x => .c (.str (lit3 x.1)), fun _ => [], fun x hx => b_s_l3Literal x.1, Tryz.call219⟩
def tokT (t : GToken) : ByteArray := (bif (eqI t.1 1) then (bif atomOk t.2 then t.2 else (⟨#[]⟩ : ByteArray)) else (bif (eqI t.1 2) then (bif (eqS (quoteS t.2) (⟨#[]⟩ : ByteArray)) then (lit3 t.2) else quoteS t.2) else (bif (eqI t.1 3) then (bif (eqS t.2 (⟨#[]⟩ : ByteArray)) then (⟨#[40]⟩ : ByteArray) else (⟨#[]⟩ : ByteArray)) else (bif (eqI t.1 4) then (bif (eqS t.2 (⟨#[]⟩ : ByteArray)) then (⟨#[41]⟩ : ByteArray) else (⟨#[]⟩ : ByteArray)) else (⟨#[]⟩ : ByteArray)))))
theorem b_s_TokenText (t : GToken) : BCalls Tryz.prog 167 [.ag [.int .i64 t.1, .str t.2]] (.c (.str (tokT t))) [] := by
  refine bc0 [e_s_AtomOk, e_s_Quote, e_s_l3Literal] [] [] [] L0 Tryz.func167 (fun hwf => ?_)
  refine Eq.mpr (β := (T6 (bif (eqI t.1 1) then (T2 ((True ∧ true = true) ∧ (bif atomOk t.2 then (T3 (rS t.2 (tokT t))) else (True ∧ (rS (⟨#[]⟩ : ByteArray) (tokT t)))))) else (T2 (bif (eqI t.1 2) then (T2 ((True ∧ true = true) ∧ (T3 (bif (eqS (quoteS t.2) (⟨#[]⟩ : ByteArray)) then (T2 ((True ∧ true = true) ∧ (True ∧ (rS (lit3 t.2) (tokT t))))) else (T2 (rS (quoteS t.2) (tokT t))))))) else (T2 (bif (eqI t.1 3) then (T3 (bif (eqS t.2 (⟨#[]⟩ : ByteArray)) then (True ∧ (rS (⟨#[40]⟩ : ByteArray) (tokT t))) else (True ∧ (rS (⟨#[]⟩ : ByteArray) (tokT t))))) else (T2 (bif (eqI t.1 4) then (T3 (bif (eqS t.2 (⟨#[]⟩ : ByteArray)) then (True ∧ (rS (⟨#[41]⟩ : ByteArray) (tokT t))) else (True ∧ (rS (⟨#[]⟩ : ByteArray) (tokT t))))) else (True ∧ (rS (⟨#[]⟩ : ByteArray) (tokT t)))))))))))) (by kernel_rfl) ?_
  unfold T2 T3 T6
  simp only [SIU, eq_self]
  repeat' (with_reducible first | exact trivial | apply And.intro | apply bifI | intro _)
  all_goals first
    | (with_reducible trivial)
    | omega
    | (with_reducible infer_instance)
    | (simp only [tokT, cond_true, cond_false, Int.toNat_natCast, *]; done)
    | (subst_vars; simp only [tokT, cond_true, cond_false, Int.toNat_natCast, *]; done)
    | (simp only [tokT, cond_true, cond_false, *]; exact leC_refl)
def e_s_TokenText : Entry Tryz.prog := ⟨167, [.s tyToken], fun x => True, fun x => .c (.str (tokT x.1)), fun _ => [], fun x hx => b_s_TokenText x.1, Tryz.call167⟩
def gap3 (a : GToken) (b : GToken) : Bool := (bif (neI a.1 3) then (neI b.1 4) else false)
theorem b_s_l3Gap (a : GToken) (b : GToken) : BCalls Tryz.prog 168 [.ag [.int .i64 a.1, .str a.2], .ag [.int .i64 b.1, .str b.2]] (.c (.bool (gap3 a b))) [] := by
  refine bc0 [] [] [] [] L0 Tryz.func168 (fun hwf => ?_)
  refine Eq.mpr (β := (True ∧ (True ∧ (True ∧ (True ∧ (True ∧ (True ∧ (True ∧ (bif (neI a.1 3) then (True ∧ (True ∧ (True ∧ (True ∧ (True ∧ (rB (neI b.1 4) (gap3 a b))))))) else (True ∧ (True ∧ (rB false (gap3 a b))))))))))))) (by kernel_rfl) ?_
  simp only [SIU, eq_self]
  repeat' (with_reducible first | exact trivial | apply And.intro | apply bifI | intro _)
  all_goals first
    | (with_reducible trivial)
    | omega
    | (with_reducible infer_instance)
    | (simp only [gap3, cond_true, cond_false, Int.toNat_natCast, *]; done)
    | (subst_vars; simp only [gap3, cond_true, cond_false, Int.toNat_natCast, *]; done)
    | (simp only [gap3, cond_true, cond_false, *]; exact leC_refl)
def e_s_l3Gap : Entry Tryz.prog := ⟨168, [.s tyToken, .s tyToken], fun x => True, fun x => .c (.bool (gap3 x.1 x.2.1)), fun _ => [], fun x hx => b_s_l3Gap x.1 x.2.1, Tryz.call168⟩
def atomK (s : ByteArray) : GToken := (1, s)
theorem b_s_l6Atom (s : ByteArray) : BCalls Tryz.prog 124 [.c (.str s)] (.ag [.int .i64 (atomK s).1, .str (atomK s).2]) [] := by
  refine bc0 [] [] [] [] L0 Tryz.func124 (fun hwf => ?_)
  refine Eq.mpr (β := (True ∧ (True ∧ (True ∧ (True ∧ ((((true = true ∧ leC (.int .i64 1) (.int .i64 (atomK s).1)) ∧ (true = true ∧ leC (.str s) (.str (atomK s).2)) ∧ True)) ∧ true = true)))))) (by kernel_rfl) ?_
  simp only [SIU, eq_self]
  repeat' (with_reducible first | exact trivial | apply And.intro | apply bifI | intro _)
  all_goals first
    | (with_reducible trivial)
    | omega
    | (with_reducible infer_instance)
    | (simp only [atomK, cond_true, cond_false, Int.toNat_natCast, *]; done)
    | (subst_vars; simp only [atomK, cond_true, cond_false, Int.toNat_natCast, *]; done)
    | (simp only [atomK, cond_true, cond_false, *]; exact leC_refl)
def e_s_l6Atom : Entry Tryz.prog := ⟨124, [.v tyStr], fun x => True, fun x => .ag [.int .i64 (atomK x.1).1, .str (atomK x.1).2], fun _ => [], fun x hx => b_s_l6Atom x.1, Tryz.call124⟩
def openK  : GToken := (3, (⟨#[]⟩ : ByteArray))
theorem b_s_l6Open  : BCalls Tryz.prog 127 [] (.ag [.int .i64 (openK ).1, .str (openK ).2]) [] := by
  refine bc0 [] [] [] [] L0 Tryz.func127 (fun hwf => ?_)
  refine Eq.mpr (β := (True ∧ (True ∧ (True ∧ ((((true = true ∧ leC (.int .i64 3) (.int .i64 (openK ).1)) ∧ (true = true ∧ leC (.str (⟨#[]⟩ : ByteArray)) (.str (openK ).2)) ∧ True)) ∧ true = true))))) (by kernel_rfl) ?_
  simp only [SIU, eq_self]
  repeat' (with_reducible first | exact trivial | apply And.intro | apply bifI | intro _)
  all_goals first
    | (with_reducible trivial)
    | omega
    | (with_reducible infer_instance)
    | (simp only [openK, cond_true, cond_false, Int.toNat_natCast, *]; done)
    | (subst_vars; simp only [openK, cond_true, cond_false, Int.toNat_natCast, *]; done)
    | (simp only [openK, cond_true, cond_false, *]; exact leC_refl)
def e_s_l6Open : Entry Tryz.prog := ⟨127, [], fun x => True, fun x => .ag [.int .i64 (openK ).1, .str (openK ).2], fun _ => [], fun x hx => b_s_l6Open , Tryz.call127⟩
def closeK  : GToken := (4, (⟨#[]⟩ : ByteArray))
theorem b_s_l6Close  : BCalls Tryz.prog 130 [] (.ag [.int .i64 (closeK ).1, .str (closeK ).2]) [] := by
  refine bc0 [] [] [] [] L0 Tryz.func130 (fun hwf => ?_)
  refine Eq.mpr (β := (True ∧ (True ∧ (True ∧ ((((true = true ∧ leC (.int .i64 4) (.int .i64 (closeK ).1)) ∧ (true = true ∧ leC (.str (⟨#[]⟩ : ByteArray)) (.str (closeK ).2)) ∧ True)) ∧ true = true))))) (by kernel_rfl) ?_
  simp only [SIU, eq_self]
  repeat' (with_reducible first | exact trivial | apply And.intro | apply bifI | intro _)
  all_goals first
    | (with_reducible trivial)
    | omega
    | (with_reducible infer_instance)
    | (simp only [closeK, cond_true, cond_false, Int.toNat_natCast, *]; done)
    | (subst_vars; simp only [closeK, cond_true, cond_false, Int.toNat_natCast, *]; done)
    | (simp only [closeK, cond_true, cond_false, *]; exact leC_refl)
def e_s_l6Close : Entry Tryz.prog := ⟨130, [], fun x => True, fun x => .ag [.int .i64 (closeK ).1, .str (closeK ).2], fun _ => [], fun x hx => b_s_l6Close , Tryz.call130⟩
theorem lit_size {s : ByteArray} : (lit3 s).size ≤ 64 := by
  unfold lit3
  cases h : gtI ((ByteArray.size s : Nat) : Int) 40 with
  | true => exact Nat.zero_le _
  | false =>
    have h' := gtI_false.1 h
    have hd := itoa_sz (n := ((s.size : Nat) : Int)) (by omega)
    simp only [cond_false, ByteArray.size_append]
    show 1 + _ + 3 + s.size ≤ 64
    omega
theorem tok_size (t : GToken) : (tokT t).size ≤ 100 := by
  unfold tokT
  simp only [bif_if]
  repeat' split
  · rename_i h
    have : btw ((t.2.size : Nat) : Int) 1 40 = true := by
      unfold atomOk at h
      rw [Bool.and_eq_true] at h
      exact h.2
    have := (btw_iff.1 this).2
    omega
  all_goals first
    | exact Nat.zero_le _
    | exact Nat.le_trans lit_size (by decide)
    | exact quote_size _
    | exact (show 1 ≤ 100 by decide)
def lnN (l : List GToken) : Nat → List Int
  | 0 => []
  | k + 1 => (if 0 < k ∧ gap3 (nth_Token l (k - 1)) (nth_Token l k) = true then lnN l k ++ [32] else lnN l k) ++ byteL (tokT (nth_Token l k))
theorem lnN_len (l : List GToken) : ∀ k, (lnN l k).length ≤ 101 * k
  | 0 => Nat.le_refl _
  | k + 1 => by
    have := lnN_len l k
    have h2 := tok_size (nth_Token l k)
    unfold lnN
    split <;> simp only [List.length_append, List.length_cons, List.length_nil, byteL_len] <;> omega
def lineOf (l : List GToken) : ByteArray := if ∀ i, i < l.length → tokT (nth_Token l i) ≠ (⟨#[]⟩ : ByteArray) then bytesOf (lnN l l.length) else ⟨#[]⟩
theorem line_no {l : List GToken} {i : Nat} (hi : i < l.length) (h : tokT (nth_Token l i) = (⟨#[]⟩ : ByteArray)) : lineOf l = ⟨#[]⟩ := if_neg (fun q => q i hi h)
theorem line_all {l : List GToken} {k : Nat} (hk : k ≤ l.length) (hk2 : ¬ ((k : Nat) : Int) < ((l.length : Nat) : Int)) (h : ∀ i, i < k → tokT (nth_Token l i) ≠ (⟨#[]⟩ : ByteArray)) : lineOf l = bytesOf (lnN l k) := by
  obtain rfl : k = l.length := by omega
  exact if_pos h
theorem line_size (l : List GToken) : (lineOf l).size ≤ 101 * l.length := by
  unfold lineOf
  split
  · rw [bytesOf_size]; exact lnN_len l _
  · exact Nat.zero_le _
theorem lnN_gap {l : List GToken} {k : Nat} (h : 0 < k) (h2 : gap3 (nth_Token l (k - 1)) (nth_Token l k) = true) : lnN l (k + 1) = lnN l k ++ [32] ++ byteL (tokT (nth_Token l k)) := by
  show (if _ then _ else _) ++ _ = _
  rw [if_pos ⟨h, h2⟩]
theorem lnN_no {l : List GToken} {k : Nat} (h : ¬ (0 < k ∧ gap3 (nth_Token l (k - 1)) (nth_Token l k) = true)) : lnN l (k + 1) = lnN l k ++ byteL (tokT (nth_Token l k)) := by
  show (if _ then _ else _) ++ _ = _
  rw [if_neg h]
def L_s_LineOf (l : List GToken) : Nat → List AV → Mem → LoopA
  | 3, tm, M => ⟨Nat, fun y => (anyR (setA tm [(2, .any), (3, .c (.row 0 0)), (4, .c (.int .i64 ((y : Nat) : Int)))]) 5 35, setM M [(0, .row (.int .u8) (lnN l y) 0 0 none)]), fun y => (y ≤ List.length l ∧ ∀ j, j < y → tokT (nth_Token l j) ≠ (⟨#[]⟩ : ByteArray)), fun y => (List.length l - y)⟩
  | _, _, _ => ⟨Unit, fun _ => ([], []), fun _ => False, fun _ => 0⟩
def k1l1j2n (y0 : Nat) (y0' : Nat) : Prop := (True ∧ lxs [.c (.row 0 0)] (leV (.c (.int .i64 (IntKind.wrap .i64 (((y0 : Nat) : Int) + 1)))) (.c (.int .i64 ((y0' : Nat) : Int))) ∧ TN 35 (lxs [.tp [], .tp []] True)))
def k0l1j2n (l : List GToken) (y0 : Nat) : Prop := (T2 (List.length (lnN l y0) + List.length (byteL (tokT (nth_Token l (Int.toNat ((y0 : Nat) : Int))))) ≤ rowMax ∧ (T4 (∃ y0' : Nat, (y0' ≤ List.length l ∧ ∀ j, j < y0' → tokT (nth_Token l j) ≠ (⟨#[]⟩ : ByteArray)) ∧ (List.length l - y0') < (List.length l - y0) ∧ ((lxs [.c (.hs .no tyToken l), .tp []] (k1l1j2n y0 y0')) ∧ (leB (.row (.int .u8) ((lnN l y0) ++ (byteL (tokT (nth_Token l (Int.toNat ((y0 : Nat) : Int)))))) 0 0 none) (.row (.int .u8) (lnN l y0') 0 0 none) ∧ True) ∧ true = true)))))
theorem b_s_LineOf (l : List GToken) (hpre : List.length l ≤ 1048576) : BCalls Tryz.prog 98 [.c (.hs .no tyToken l)] (.c (.str (lineOf l))) [] := by
  refine bc0 [e_s_TokenText, e_s_l3Gap] [] [] [] (L_s_LineOf l) Tryz.func98 (fun hwf => ?_)
  refine Eq.mpr (β := (T4 ((∃ q : Nat, (q ≤ List.length l ∧ ∀ j, j < q → tokT (nth_Token l j) ≠ (⟨#[]⟩ : ByteArray)) ∧ ((lxs [.c (.hs .no tyToken l), .tp []] (True ∧ lxs [.c (.row 0 0)] (leV (.c (.int .i64 0)) (.c (.int .i64 ((q : Nat) : Int))) ∧ TN 35 (lxs [.tp [], .tp []] True)))) ∧ (leB (.row (.int .u8) ([] : List Int) 0 0 none) (.row (.int .u8) (lnN l q) 0 0 none) ∧ True) ∧ true = true)) ∧ ∀ y0 : Nat, (y0 ≤ List.length l ∧ ∀ j, j < y0 → tokT (nth_Token l j) ≠ (⟨#[]⟩ : ByteArray)) → (T4 (bif (ltI ((y0 : Nat) : Int) ((List.length l : Nat) : Int)) then (T2 (((2 : Nat) = 2 ∧ (0 : Int) ≤ ((y0 : Nat) : Int) ∧ (((y0 : Nat) : Int) : Int) < ((List.length l : Nat) : Int)) ∧ (True ∧ ((True ∧ true = true) ∧ (T3 (bif (eqS (tokT (nth_Token l (Int.toNat ((y0 : Nat) : Int)))) (⟨#[]⟩ : ByteArray)) then (True ∧ (rS (⟨#[]⟩ : ByteArray) (lineOf l))) else ((true = true ∧ true = true) ∧ (T3 (bif (gtI ((y0 : Nat) : Int) 0) then (T3 (((2 : Nat) = 2 ∧ (0 : Int) ≤ (IntKind.wrap .i64 (((y0 : Nat) : Int) - 1)) ∧ ((IntKind.wrap .i64 (((y0 : Nat) : Int) - 1)) : Int) < ((List.length l : Nat) : Int)) ∧ (T3 (((2 : Nat) = 2 ∧ (0 : Int) ≤ ((y0 : Nat) : Int) ∧ (((y0 : Nat) : Int) : Int) < ((List.length l : Nat) : Int)) ∧ (True ∧ ((True ∧ true = true) ∧ (True ∧ (bif (gap3 (nth_Token l (Int.toNat (IntKind.wrap .i64 (((y0 : Nat) : Int) - 1)))) (nth_Token l (Int.toNat ((y0 : Nat) : Int)))) then (T2 ((True ∧ List.length (lnN l y0) + List.length ([32] : List Int) ≤ rowMax) ∧ (T3 (List.length ((lnN l y0) ++ ([32] : List Int)) + List.length (byteL (tokT (nth_Token l (Int.toNat ((y0 : Nat) : Int))))) ≤ rowMax ∧ (T4 (∃ y0' : Nat, (y0' ≤ List.length l ∧ ∀ j, j < y0' → tokT (nth_Token l j) ≠ (⟨#[]⟩ : ByteArray)) ∧ (List.length l - y0') < (List.length l - y0) ∧ ((lxs [.c (.hs .no tyToken l), .tp []] (k1l1j2n y0 y0')) ∧ (leB (.row (.int .u8) (((lnN l y0) ++ ([32] : List Int)) ++ (byteL (tokT (nth_Token l (Int.toNat ((y0 : Nat) : Int)))))) 0 0 none) (.row (.int .u8) (lnN l y0') 0 0 none) ∧ True) ∧ true = true))))))) else (k0l1j2n l y0))))))))) else (True ∧ (k0l1j2n l y0))))))))))) else (True ∧ (List.length (lnN l y0) ≤ maxLen ∧ (True ∧ (rS (bytesOf (lnN l y0)) (lineOf l)))))))))) (by kernel_rfl) ?_
  unfold k0l1j2n k1l1j2n T2 T3 T4
  have hp : List.length l ≤ 1048576 := hpre
  simp only [leB_rowU8, btw_iff, btw_not, flagsOk, Bool.not_true, Bool.not_false, SI2A, eq_self]
  refine ⟨⟨0, ⟨Nat.zero_le _, allN_zero⟩, rfl, rfl⟩, fun y hy => ?_⟩
  have hl := lnN_len l y
  have ht := tok_size (nth_Token l y)
  by_cases h0 : 0 < y
  · have w : IntKind.wrap .i64 (((y : Nat) : Int) - 1) = ((y - 1 : Nat) : Int) := by rw [w64i (by omega) (by omega)]; omega
    simp only [w, Int.toNat_natCast]
    repeat' (with_reducible first | exact trivial | apply And.intro | intro _)
    all_goals first
      | (with_reducible trivial)
      | omega
      | (with_reducible assumption)
      | exact (line_no (Int.ofNat_lt.1 (by assumption)) (by assumption)).symm
      | ((try simp only [List.length_append, List.length_cons, List.length_nil, byteL_len]); (first | unfold rowMax | unfold maxLen); omega)
      | exact ⟨y + 1, ⟨by omega, allN_step hy.2 (by assumption)⟩, by omega, wrapN (by unfold maxLen; omega), (lnN_gap h0 (by assumption)).symm⟩
      | exact ⟨y + 1, ⟨by omega, allN_step hy.2 (by assumption)⟩, by omega, wrapN (by unfold maxLen; omega), (lnN_no (fun q => absurd (q.2.symm.trans (by assumption)) (by decide))).symm⟩
      | exact ⟨y + 1, ⟨by omega, allN_step hy.2 (by assumption)⟩, by omega, wrapN (by unfold maxLen; omega), (lnN_no (fun q => h0 q.1)).symm⟩
      | exact (line_all hy.1 (by assumption) hy.2).symm
  · skip
    repeat' (with_reducible first | exact trivial | apply And.intro | intro _)
    all_goals first
      | (with_reducible trivial)
      | omega
      | (with_reducible assumption)
      | exact (line_no (Int.ofNat_lt.1 (by assumption)) (by assumption)).symm
      | ((try simp only [List.length_append, List.length_cons, List.length_nil, byteL_len]); (first | unfold rowMax | unfold maxLen); omega)
      | exact ⟨y + 1, ⟨by omega, allN_step hy.2 (by assumption)⟩, by omega, wrapN (by unfold maxLen; omega), (lnN_gap h0 (by assumption)).symm⟩
      | exact ⟨y + 1, ⟨by omega, allN_step hy.2 (by assumption)⟩, by omega, wrapN (by unfold maxLen; omega), (lnN_no (fun q => absurd (q.2.symm.trans (by assumption)) (by decide))).symm⟩
      | exact ⟨y + 1, ⟨by omega, allN_step hy.2 (by assumption)⟩, by omega, wrapN (by unfold maxLen; omega), (lnN_no (fun q => h0 q.1)).symm⟩
      | exact (line_all hy.1 (by assumption) hy.2).symm
def e_s_LineOf : Entry Tryz.prog := ⟨98, [.v (.list tyToken)], fun x => List.length x.1 ≤ 1048576, fun x => .c (.str (lineOf x.1)), fun _ => [], fun x hx => b_s_LineOf x.1 hx, Tryz.call98⟩
end Go.Proofs.YtbpapaponnfagaaGreatDoor
