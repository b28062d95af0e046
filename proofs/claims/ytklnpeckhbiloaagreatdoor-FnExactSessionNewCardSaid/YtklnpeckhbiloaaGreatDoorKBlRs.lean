/-
  Names, tags, flags, identities.
  No condition but what the arguments' cells hold. Printed by vcgen.py.
-/
import Derived.Test.YtklnpeckhbiloaaGreatDoorKBlLib
import Derived.Test.YtklnpeckhbiloaaGreatDoorKOkLaw
import Derived.Test.YtklnpeckhbiloaaGreatDoorKBlNum
import Derived.Test.YtklnpeckhbiloaaGreatDoorKLawA
import Derived.Test.YtklnpeckhbiloaaGreatDoorKUpper
set_option linter.unusedSimpArgs false
set_option linter.unusedVariables false
set_option maxRecDepth 100000
set_option maxHeartbeats 4000000
namespace Go.Proofs.YtklnpeckhbiloaaGreatDoor
open Go.ChangeShapes Go.WideShapes Go.ChangeAt Go.RowKit Go.Joins Go.Deep
open GoRep (rep bulk)

theorem b_i_within (n : Int) (lo : Int) (hi : Int) : BCalls Tryz.prog 58 [.c (.int .i64 n), .c (.int .i64 lo), .c (.int .i64 hi)] (.c (.bool (btw n lo hi))) [] := by
  refine bc0 [] [] [] [] L0 Tryz.func58 (fun hwf => ?_)
  refine Eq.mpr (β := (True ∧ (True ∧ (True ∧ (True ∧ (True ∧ (bif (geI n lo) then (True ∧ (True ∧ (True ∧ (True ∧ (True ∧ (rB (leI n hi) (btw n lo hi))))))) else (True ∧ (True ∧ (rB false (btw n lo hi))))))))))) (by kernel_rfl) ?_
  simp only [SI2A, eq_self]
  repeat' (first | apply And.intro | intro _)
  all_goals first | trivial | omega | (simp [btw]; omega) | (rw [Bool.eq_iff_iff]; simp [btw, leI_true]; omega)
def e_i_within : Entry Tryz.prog := ⟨58, [.v tyInt, .v tyInt, .v tyInt], fun x => True, fun x => .c (.bool (btw x.1 x.2.1 x.2.2.1)), fun _ => [], fun x hx => b_i_within x.1 x.2.1 x.2.2.1, Tryz.call58⟩
theorem b_s_l1In (n : Int) (lo : Int) (hi : Int) : BCalls Tryz.prog 82 [.c (.int .i64 n), .c (.int .i64 lo), .c (.int .i64 hi)] (.c (.bool (btw n lo hi))) [] := by
  refine bc0 [] [] [] [] L0 Tryz.func82 (fun hwf => ?_)
  refine Eq.mpr (β := (True ∧ (True ∧ (True ∧ (True ∧ (True ∧ (bif (geI n lo) then (True ∧ (True ∧ (True ∧ (True ∧ (True ∧ (rB (leI n hi) (btw n lo hi))))))) else (True ∧ (True ∧ (rB false (btw n lo hi))))))))))) (by kernel_rfl) ?_
  simp only [SI2A, eq_self]
  repeat' (first | apply And.intro | intro _)
  all_goals first | trivial | omega | (simp [btw]; omega) | (rw [Bool.eq_iff_iff]; simp [btw, leI_true]; omega)
def e_s_l1In : Entry Tryz.prog := ⟨82, [.v tyInt, .v tyInt, .v tyInt], fun x => True, fun x => .c (.bool (btw x.1 x.2.1 x.2.2.1)), fun _ => [], fun x hx => b_s_l1In x.1 x.2.1 x.2.2.1, Tryz.call82⟩
def nmCh (x : Int) : Prop := x = 47 ∨ (97 ≤ x ∧ x ≤ 122)
theorem nm_char {s : ByteArray} {i : Nat} (hi : i < s.size) (h : ¬ nmCh (byteAt s i)) : nameOk s = false := nameOk_no hi (by unfold nmCh at h; unfold nmBad; right; omega)
theorem nm_first {s : ByteArray} (hi : 1 ≤ s.size) (h : byteAt s 0 = 47) : nameOk s = false := nameOk_no (i := 0) (by omega) (by unfold nmBad; left; omega)
theorem nm_last {s : ByteArray} (hi : 1 ≤ s.size) (h : byteAt s (s.size - 1) = 47) : nameOk s = false := nameOk_no (i := s.size - 1) (by omega) (by unfold nmBad; left; omega)
theorem nm_sub {s : ByteArray} (hc : ∀ j, j < s.size → nmCh (byteAt s j)) (hb : btw ((s.size : Nat) : Int) 1 12 = true) (h0 : ¬ byteAt s 0 = 47) (h1 : ¬ byteAt s (s.size - 1) = 47) : (!subB s (⟨#[47, 47]⟩ : ByteArray)) = nameOk s := by
  cases hs : subB s (⟨#[47, 47]⟩ : ByteArray) with
  | true =>
    obtain ⟨i, hi, ha, hb'⟩ := (sub_slashes s).1 hs
    exact (nameOk_no (i := i + 1) hi (by unfold nmBad; left; exact ⟨hb', .inr (.inr (by simpa using ha))⟩)).symm
  | false =>
    rw [nameOk_all, hb]
    · rfl
    · intro i hi hbad
      have hci := hc i hi
      unfold nmBad at hbad
      unfold nmCh at hci
      rcases hbad with ⟨q, rfl | q2 | q2⟩ | ⟨q, q2⟩
      · exact h0 q
      · exact h1 (by rw [show s.size - 1 = i by omega]; exact q)
      · have h2 : subB s (⟨#[47, 47]⟩ : ByteArray) = true := (sub_slashes s).2 ⟨i - 1, by
          have : i ≠ 0 := fun e => by subst e; exact h0 q
          omega, q2, by
          have : i ≠ 0 := fun e => by subst e; exact h0 q
          rw [show i - 1 + 1 = i by omega]; exact q⟩
        rw [hs] at h2
        cases h2
      · omega
def L_i_NameOk (s : ByteArray) : Nat → List AV → Mem → LoopA
  | 2, tm, M => ⟨Nat, fun y => (anyR (setA tm [(2, .any), (3, .any), (6, .c (.int .i64 ((y : Nat) : Int)))]) 7 19, M), fun y => (y ≤ ByteArray.size s ∧ ∀ j, j < y → nmCh (byteAt s j)), fun y => (ByteArray.size s - y)⟩
  | _, _, _ => ⟨Unit, fun _ => ([], []), fun _ => False, fun _ => 0⟩
def k0k6815 (s : ByteArray) (y0 : Nat) : Prop := (T2 (∃ y0' : Nat, (y0' ≤ ByteArray.size s ∧ ∀ j, j < y0' → nmCh (byteAt s j)) ∧ (ByteArray.size s - y0') < (ByteArray.size s - y0) ∧ ((lxs [.c (.str s), .tp []] (True ∧ True ∧ lxs [.c (.str s), .c (.int .i64 ((ByteArray.size s : Nat) : Int))] (leV (.c (.int .i64 (IntKind.wrap .i64 (((y0 : Nat) : Int) + 1)))) (.c (.int .i64 ((y0' : Nat) : Int))) ∧ TN 19 (lxs [.tp [], .tp [], .tp [], .tp [], .tp [], .tp [], .tp [], .tp [], .tp [], .tp [], .tp [], .tp [], .tp [], .tp [], .tp [], .tp [], .tp [], .tp [], .tp [], .tp [], .tp []] True)))) ∧ (True) ∧ true = true)))
def k1k6815 (y0 : Nat) (s : ByteArray) : Prop := ((0 : Int) ≤ ((y0 : Nat) : Int) ∧ (((y0 : Nat) : Int) : Int) < ((ByteArray.size s : Nat) : Int))
theorem b_i_NameOk (s : ByteArray) : BCalls Tryz.prog 61 [.c (.str s)] (.c (.bool (nameOk s))) [] := by
  refine bc0 [e_i_within, e_strings_Contains] [] [] [] (L_i_NameOk s) Tryz.func61 (fun hwf => ?_)
  refine Eq.mpr (β := (T4 ((∃ q : Nat, (q ≤ ByteArray.size s ∧ ∀ j, j < q → nmCh (byteAt s j)) ∧ ((lxs [.c (.str s), .tp []] (True ∧ True ∧ lxs [.c (.str s), .c (.int .i64 ((ByteArray.size s : Nat) : Int))] (leV (.c (.int .i64 0)) (.c (.int .i64 ((q : Nat) : Int))) ∧ TN 19 (lxs [.tp [], .tp [], .tp [], .tp [], .tp [], .tp [], .tp [], .tp [], .tp [], .tp [], .tp [], .tp [], .tp [], .tp [], .tp [], .tp [], .tp [], .tp [], .tp [], .tp [], .tp []] True)))) ∧ (True) ∧ true = true)) ∧ ∀ y0 : Nat, (y0 ≤ ByteArray.size s ∧ ∀ j, j < y0 → nmCh (byteAt s j)) → (True ∧ (bif (ltI ((y0 : Nat) : Int) ((ByteArray.size s : Nat) : Int)) then (T4 ((k1k6815 y0 s) ∧ (T2 (bif (neI (byteAt s (Int.toNat ((y0 : Nat) : Int))) 47) then (T2 ((k1k6815 y0 s) ∧ (T2 (bif (ltI (byteAt s (Int.toNat ((y0 : Nat) : Int))) 97) then (T3 (rB false (nameOk s))) else (T2 ((k1k6815 y0 s) ∧ (T3 (bif (gtI (byteAt s (Int.toNat ((y0 : Nat) : Int))) 122) then (True ∧ (rB false (nameOk s))) else (k0k6815 s y0))))))))) else (True ∧ (k0k6815 s y0)))))) else (T2 ((True ∧ true = true) ∧ (True ∧ (bif btw ((ByteArray.size s : Nat) : Int) 1 12 then (True ∧ (((0 : Int) ≤ 0 ∧ (0 : Int) < ((ByteArray.size s : Nat) : Int)) ∧ (T3 (bif (neI (byteAt s (Int.toNat 0)) 47) then (T4 (((0 : Int) ≤ (IntKind.wrap .i64 (((ByteArray.size s : Nat) : Int) - 1)) ∧ ((IntKind.wrap .i64 (((ByteArray.size s : Nat) : Int) - 1)) : Int) < ((ByteArray.size s : Nat) : Int)) ∧ (T3 (bif (neI (byteAt s (Int.toNat (IntKind.wrap .i64 (((ByteArray.size s : Nat) : Int) - 1)))) 47) then (True ∧ ((ByteArray.size s < 4294967281 ∧ true = true) ∧ (T3 (rB (!(subB s (⟨#[47, 47]⟩ : ByteArray))) (nameOk s))))) else (T2 (rB false (nameOk s))))))) else (T4 (rB false (nameOk s))))))) else (T6 (rB false (nameOk s)))))))))))) (by kernel_rfl) ?_
  unfold k1k6815 k0k6815 T2 T3 T4 T6
  have hm : s.size ≤ maxLen := hwf.1
  unfold maxLen at hm
  have e1 : 1 ≤ s.size → Int.toNat (IntKind.wrap .i64 (((ByteArray.size s : Nat) : Int) - 1)) = s.size - 1 := fun h => by rw [wrapA (by omega) (by omega)]; omega
  have e2 : IntKind.wrap .i64 (((ByteArray.size s : Nat) : Int) - 1) = ((ByteArray.size s : Nat) : Int) - 1 := wrapA (by omega) (by omega)
  simp only [SI2A, eq_self]
  refine ⟨⟨0, ⟨Nat.zero_le _, fun j hj => absurd hj (Nat.not_lt_zero j)⟩, rfl⟩, fun k hk => ⟨fun hlt => ?_, fun hge => ?_⟩⟩
  · have hb := byteAt_b s k
    repeat' (first | apply And.intro | intro _)
    all_goals first
      | trivial
      | omega
      | exact (nm_char (i := k) (by omega) (by unfold nmCh; omega)).symm
      | exact ⟨k + 1, ⟨by omega, fun j hj => if h : j < k then hk.2 j h else by obtain rfl : j = k := (by omega); unfold nmCh; omega⟩, by omega, wrapN (by unfold maxLen; omega)⟩
  · obtain rfl : k = s.size := by omega
    repeat' (first | apply And.intro | intro _)
    all_goals first
      | trivial
      | (rw [btw_iff] at *; omega)
      | (have hb1 := btw_iff.1 (by assumption : btw ((ByteArray.size s : Nat) : Int) 1 12 = true); first | omega | (rw [e1 (by omega)] at *; first | exact nm_sub hk.2 (by assumption) (by assumption) (by assumption) | exact (nm_last (by omega) (by assumption)).symm) | exact (nm_first (by omega) (by assumption)).symm)
      | exact (nameOk_long (by assumption)).symm
def e_i_NameOk : Entry Tryz.prog := ⟨61, [.v tyStr], fun x => True, fun x => .c (.bool (nameOk x.1)), fun _ => [], fun x hx => b_i_NameOk x.1, Tryz.call61⟩
def L_s_NameOk (s : ByteArray) : Nat → List AV → Mem → LoopA
  | 2, tm, M => ⟨Nat, fun y => (anyR (setA tm [(2, .any), (3, .c (.int .i64 ((y : Nat) : Int)))]) 4 36, M), fun y => (y ≤ ByteArray.size s ∧ ∀ j, j < y → ¬ nmBad s j), fun y => (ByteArray.size s - y)⟩
  | _, _, _ => ⟨Unit, fun _ => ([], []), fun _ => False, fun _ => 0⟩
def k0ngt5j (s : ByteArray) (y0 : Nat) : Prop := (T3 (∃ y0' : Nat, (y0' ≤ ByteArray.size s ∧ ∀ j, j < y0' → ¬ nmBad s j) ∧ (ByteArray.size s - y0') < (ByteArray.size s - y0) ∧ ((lxs [.c (.str s), .tp []] (True ∧ leV (.c (.int .i64 (IntKind.wrap .i64 (((y0 : Nat) : Int) + 1)))) (.c (.int .i64 ((y0' : Nat) : Int))) ∧ TN 36 (lxs [.tp [], .tp [], .tp []] True))) ∧ (True) ∧ true = true)))
def k1ngt5j (y0 : Nat) (s : ByteArray) : Prop := ((0 : Int) ≤ ((y0 : Nat) : Int) ∧ (((y0 : Nat) : Int) : Int) < ((ByteArray.size s : Nat) : Int))
theorem b_s_NameOk (s : ByteArray) : BCalls Tryz.prog 95 [.c (.str s)] (.c (.bool (nameOk s))) [] := by
  refine bc0 [e_s_l1In] [] [] [] (L_s_NameOk s) Tryz.func95 (fun hwf => ?_)
  refine Eq.mpr (β := (T2 ((∃ q : Nat, (q ≤ ByteArray.size s ∧ ∀ j, j < q → ¬ nmBad s j) ∧ ((lxs [.c (.str s), .tp []] (True ∧ leV (.c (.int .i64 0)) (.c (.int .i64 ((q : Nat) : Int))) ∧ TN 36 (lxs [.tp [], .tp [], .tp []] True))) ∧ (True) ∧ true = true)) ∧ ∀ y0 : Nat, (y0 ≤ ByteArray.size s ∧ ∀ j, j < y0 → ¬ nmBad s j) → (T4 (bif (ltI ((y0 : Nat) : Int) ((ByteArray.size s : Nat) : Int)) then (T2 ((k1ngt5j y0 s) ∧ (True ∧ (bif (eqI (byteAt s (Int.toNat ((y0 : Nat) : Int))) 47) then (T3 (bif (eqI ((y0 : Nat) : Int) 0) then (T4 (rB false (nameOk s))) else (T7 (bif (eqI ((y0 : Nat) : Int) (IntKind.wrap .i64 (((ByteArray.size s : Nat) : Int) - 1))) then (T2 (rB false (nameOk s))) else (T3 (((0 : Int) ≤ (IntKind.wrap .i64 (((y0 : Nat) : Int) - 1)) ∧ ((IntKind.wrap .i64 (((y0 : Nat) : Int) - 1)) : Int) < ((ByteArray.size s : Nat) : Int)) ∧ (T2 (bif (eqI (byteAt s (Int.toNat (IntKind.wrap .i64 (((y0 : Nat) : Int) - 1)))) 47) then (True ∧ (rB false (nameOk s))) else (k0ngt5j s y0))))))))) else (T2 ((k1ngt5j y0 s) ∧ (T2 (bif (ltI (byteAt s (Int.toNat ((y0 : Nat) : Int))) 97) then (T2 (rB false (nameOk s))) else (T2 ((k1ngt5j y0 s) ∧ (T2 (bif (gtI (byteAt s (Int.toNat ((y0 : Nat) : Int))) 122) then (True ∧ (rB false (nameOk s))) else (k0ngt5j s y0))))))))))))) else (T2 ((True ∧ true = true) ∧ (True ∧ (rB (btw ((ByteArray.size s : Nat) : Int) 1 12) (nameOk s)))))))))) (by kernel_rfl) ?_
  unfold k1ngt5j k0ngt5j T2 T3 T4 T7
  have hm : s.size ≤ maxLen := hwf.1
  unfold maxLen at hm
  have e2 : IntKind.wrap .i64 (((ByteArray.size s : Nat) : Int) - 1) = ((ByteArray.size s : Nat) : Int) - 1 := wrapA (by omega) (by omega)
  simp only [SI2A, eq_self]
  refine ⟨⟨0, ⟨Nat.zero_le _, fun j hj => absurd hj (Nat.not_lt_zero j)⟩, rfl⟩, fun k hk => ⟨fun hlt => ?_, fun hge => ?_⟩⟩
  · have hb := byteAt_b s k
    have e3 : IntKind.wrap .i64 (((k : Nat) : Int) - 1) = ((k : Nat) : Int) - 1 := wrapA (by omega) (by omega)
    have e4 : 1 ≤ k → Int.toNat (((k : Nat) : Int) - 1) = k - 1 := fun h => by omega
    simp only [e2, e3]
    repeat' (first | apply And.intro | intro _)
    all_goals first
      | trivial
      | omega
      | exact (nameOk_no (i := k) (by omega) (by unfold nmBad; first | (right; omega) | (left; refine ⟨by assumption, ?_⟩; first | (left; omega) | (right; left; omega) | (right; right; rw [← e4 (by omega)]; assumption)))).symm
      | exact ⟨k + 1, ⟨by omega, fun j hj => if h : j < k then hk.2 j h else by obtain rfl : j = k := (by omega); unfold nmBad; first | (rintro (⟨q, q2⟩ | ⟨q, q2⟩) <;> omega) | (rw [e4 (by omega)] at *; rintro (⟨q, rfl | q2 | q2⟩ | ⟨q, q2⟩) <;> first | omega | contradiction)⟩, by omega, wrapN (by unfold maxLen; omega)⟩
  · obtain rfl : k = s.size := by omega
    first | exact (nameOk_all hk.2).symm | exact ⟨trivial, (nameOk_all hk.2).symm⟩
def e_s_NameOk : Entry Tryz.prog := ⟨95, [.v tyStr], fun x => True, fun x => .c (.bool (nameOk x.1)), fun _ => [], fun x hx => b_s_NameOk x.1, Tryz.call95⟩
theorem toN0 : Int.toNat 0 = 0 := rfl
def flagsOk (b : Int) : Bool := btw b 0 31
def outOk (x : GOut) : Bool := leI ((ByteArray.size x.1 : Nat) : Int) 1200 && leI ((ByteArray.size x.2 : Nat) : Int) 20000
def L_i_TagOk (s : ByteArray) : Nat → List AV → Mem → LoopA
  | 2, tm, M => ⟨Nat, fun y => (anyR (anyR (setA tm [(7, .c (.int .i64 ((y : Nat) : Int)))]) 2 3) 8 25, M), fun y => (y ≤ ByteArray.size s ∧ ∀ j, j < y → ¬ tgBad (byteAt s j)), fun y => (ByteArray.size s - y)⟩
  | _, _, _ => ⟨Unit, fun _ => ([], []), fun _ => False, fun _ => 0⟩
def k1r2u0k (s : ByteArray) (y0 : Nat) : Prop := (T2 (∃ y0' : Nat, (y0' ≤ ByteArray.size s ∧ ∀ j, j < y0' → ¬ tgBad (byteAt s j)) ∧ (ByteArray.size s - y0') < (ByteArray.size s - y0) ∧ ((lxs [.c (.str s), .tp []] (TN 3 (lxs [.c (.str s), .c (.int .i64 ((ByteArray.size s : Nat) : Int))] (leV (.c (.int .i64 (IntKind.wrap .i64 (((y0 : Nat) : Int) + 1)))) (.c (.int .i64 ((y0' : Nat) : Int))) ∧ TN 25 (lxs [.tp [], .tp [], .tp []] True))))) ∧ (True) ∧ true = true)))
def k0r2u0k (s : ByteArray) (y0 : Nat) : Prop := (T3 (bif (geI (byteAt (upT (ByteArray.extract s (Int.toNat ((y0 : Nat) : Int)) (Int.toNat (IntKind.wrap .i64 (((y0 : Nat) : Int) + 1))))) (Int.toNat 0)) 48) then (T5 (bif (!(leI (byteAt (upT (ByteArray.extract s (Int.toNat ((y0 : Nat) : Int)) (Int.toNat (IntKind.wrap .i64 (((y0 : Nat) : Int) + 1))))) (Int.toNat 0)) 57)) then (True ∧ (rB false (tagOk s))) else (k1r2u0k s y0))) else (T4 (rB false (tagOk s)))))
theorem b_i_TagOk (s : ByteArray) : BCalls Tryz.prog 62 [.c (.str s)] (.c (.bool (tagOk s))) [] := by
  refine bc0 [e_i_Upper, e_i_within] [] [] [] (L_i_TagOk s) Tryz.func62 (fun hwf => ?_)
  refine Eq.mpr (β := (T4 ((∃ q : Nat, (q ≤ ByteArray.size s ∧ ∀ j, j < q → ¬ tgBad (byteAt s j)) ∧ ((lxs [.c (.str s), .tp []] (TN 3 (lxs [.c (.str s), .c (.int .i64 ((ByteArray.size s : Nat) : Int))] (leV (.c (.int .i64 0)) (.c (.int .i64 ((q : Nat) : Int))) ∧ TN 25 (lxs [.tp [], .tp [], .tp []] True))))) ∧ (True) ∧ true = true)) ∧ ∀ y0 : Nat, (y0 ≤ ByteArray.size s ∧ ∀ j, j < y0 → ¬ tgBad (byteAt s j)) → (True ∧ (bif (ltI ((y0 : Nat) : Int) ((ByteArray.size s : Nat) : Int)) then (T6 (((0 : Int) ≤ ((y0 : Nat) : Int) ∧ (((y0 : Nat) : Int) : Int) ≤ (IntKind.wrap .i64 (((y0 : Nat) : Int) + 1)) ∧ ((IntKind.wrap .i64 (((y0 : Nat) : Int) + 1)) : Int) ≤ ((ByteArray.size s : Nat) : Int)) ∧ ((True ∧ true = true) ∧ (((0 : Int) ≤ 0 ∧ (0 : Int) < ((ByteArray.size (upT (ByteArray.extract s (Int.toNat ((y0 : Nat) : Int)) (Int.toNat (IntKind.wrap .i64 (((y0 : Nat) : Int) + 1))))) : Nat) : Int)) ∧ (T4 (bif (geI (byteAt (upT (ByteArray.extract s (Int.toNat ((y0 : Nat) : Int)) (Int.toNat (IntKind.wrap .i64 (((y0 : Nat) : Int) + 1))))) (Int.toNat 0)) 65) then (T4 (bif (leI (byteAt (upT (ByteArray.extract s (Int.toNat ((y0 : Nat) : Int)) (Int.toNat (IntKind.wrap .i64 (((y0 : Nat) : Int) + 1))))) (Int.toNat 0)) 90) then (T2 (k1r2u0k s y0)) else (k0r2u0k s y0))) else (T2 (k0r2u0k s y0)))))))) else (T2 ((True ∧ true = true) ∧ (True ∧ (rB (btw ((ByteArray.size s : Nat) : Int) 1 8) (tagOk s)))))))))) (by kernel_rfl) ?_
  unfold k0r2u0k k1r2u0k T2 T3 T4 T5 T6
  have hm : s.size ≤ maxLen := hwf.1
  unfold maxLen at hm
  simp only [SI2A, eq_self]
  refine ⟨⟨0, ⟨Nat.zero_le _, fun j hj => absurd hj (Nat.not_lt_zero j)⟩, rfl⟩, fun k hk => ⟨fun hlt => ?_, fun hge => ?_⟩⟩
  · have hu := up_one (s := s) (i := k) (by omega)
    have e3 : IntKind.wrap .i64 ((k : Int) + 1) = (k : Int) + 1 := wrapA (by omega) (by omega)
    have e1 : Int.toNat ((k : Int) + 1) = k + 1 := by omega
    have hui : upI (byteAt s k) = if 97 ≤ byteAt s k ∧ byteAt s k ≤ 122 then byteAt s k - 32 else byteAt s k := rfl
    simp only [e3, e1, toN0, hu.1, hu.2, Int.toNat_natCast]
    repeat' (first | apply And.intro | intro _)
    all_goals as_aux_lemma => first
      | trivial
      | omega
      | exact (tagOk_no (i := k) (by omega) (by unfold tgBad; omega)).symm
      | exact ⟨k + 1, ⟨by omega, fun j hj => if h : j < k then hk.2 j h else by obtain rfl : j = k := (by omega); unfold tgBad; omega⟩, by omega, by omega⟩
  · obtain rfl : k = s.size := by omega
    first | exact (tagOk_all hk.2).symm | exact ⟨trivial, (tagOk_all hk.2).symm⟩
def e_i_TagOk : Entry Tryz.prog := ⟨62, [.v tyStr], fun x => True, fun x => .c (.bool (tagOk x.1)), fun _ => [], fun x hx => b_i_TagOk x.1, Tryz.call62⟩
def L_s_TagOk (s : ByteArray) : Nat → List AV → Mem → LoopA
  | 2, tm, M => ⟨Nat, fun y => (anyR (setA tm [(2, .any), (3, .c (.int .i64 ((y : Nat) : Int)))]) 4 24, M), fun y => (y ≤ ByteArray.size s ∧ ∀ j, j < y → ¬ tgBad (byteAt s j)), fun y => (ByteArray.size s - y)⟩
  | _, _, _ => ⟨Unit, fun _ => ([], []), fun _ => False, fun _ => 0⟩
def k0l238u (s : ByteArray) (y0 : Nat) : Prop := (T3 (∃ y0' : Nat, (y0' ≤ ByteArray.size s ∧ ∀ j, j < y0' → ¬ tgBad (byteAt s j)) ∧ (ByteArray.size s - y0') < (ByteArray.size s - y0) ∧ ((lxs [.c (.str s), .tp []] (True ∧ leV (.c (.int .i64 (IntKind.wrap .i64 (((y0 : Nat) : Int) + 1)))) (.c (.int .i64 ((y0' : Nat) : Int))) ∧ TN 24 (lxs [.tp [], .tp [], .tp []] True))) ∧ (True) ∧ true = true)))
theorem b_s_TagOk (s : ByteArray) : BCalls Tryz.prog 96 [.c (.str s)] (.c (.bool (tagOk s))) [] := by
  refine bc0 [e_s_l1In] [] [] [] (L_s_TagOk s) Tryz.func96 (fun hwf => ?_)
  refine Eq.mpr (β := (T2 ((∃ q : Nat, (q ≤ ByteArray.size s ∧ ∀ j, j < q → ¬ tgBad (byteAt s j)) ∧ ((lxs [.c (.str s), .tp []] (True ∧ leV (.c (.int .i64 0)) (.c (.int .i64 ((q : Nat) : Int))) ∧ TN 24 (lxs [.tp [], .tp [], .tp []] True))) ∧ (True) ∧ true = true)) ∧ ∀ y0 : Nat, (y0 ≤ ByteArray.size s ∧ ∀ j, j < y0 → ¬ tgBad (byteAt s j)) → (T4 (bif (ltI ((y0 : Nat) : Int) ((ByteArray.size s : Nat) : Int)) then (T2 (((0 : Int) ≤ ((y0 : Nat) : Int) ∧ (((y0 : Nat) : Int) : Int) < ((ByteArray.size s : Nat) : Int)) ∧ (true = true ∧ (T2 ((True ∧ true = true) ∧ (T2 (bif (!(btw (IntKind.wrap .i64 (byteAt s (Int.toNat ((y0 : Nat) : Int)))) 97 122)) then (True ∧ ((True ∧ true = true) ∧ (T3 (bif (!(btw (IntKind.wrap .i64 (byteAt s (Int.toNat ((y0 : Nat) : Int)))) 65 90)) then (True ∧ ((True ∧ true = true) ∧ (T2 (bif (!(btw (IntKind.wrap .i64 (byteAt s (Int.toNat ((y0 : Nat) : Int)))) 48 57)) then (True ∧ (rB false (tagOk s))) else (k0l238u s y0))))) else (True ∧ (k0l238u s y0)))))) else (T3 (k0l238u s y0))))))))) else (T2 ((True ∧ true = true) ∧ (True ∧ (rB (btw ((ByteArray.size s : Nat) : Int) 1 8) (tagOk s)))))))))) (by kernel_rfl) ?_
  unfold k0l238u T2 T3 T4
  have hm : s.size ≤ maxLen := hwf.1
  unfold maxLen at hm
  simp only [SI2A, eq_self]
  refine ⟨⟨0, ⟨Nat.zero_le _, fun j hj => absurd hj (Nat.not_lt_zero j)⟩, rfl⟩, fun k hk => ⟨fun hlt => ?_, fun hge => ?_⟩⟩
  · have hb := byteAt_b s k
    have e0 : IntKind.wrap .i64 (byteAt s k) = byteAt s k := wrapA (by omega) (by omega)
    simp only [e0, btw_iff, btw_not, Int.toNat_natCast]
    repeat' (first | apply And.intro | intro _)
    all_goals as_aux_lemma => first
      | trivial
      | omega
      | exact (tagOk_no (i := k) (by omega) (by unfold tgBad; omega)).symm
      | exact ⟨k + 1, ⟨by omega, fun j hj => if h : j < k then hk.2 j h else by obtain rfl : j = k := (by omega); unfold tgBad; omega⟩, by omega, wrapN (by unfold maxLen; omega)⟩
  · obtain rfl : k = s.size := by omega
    first | exact (tagOk_all hk.2).symm | exact ⟨trivial, (tagOk_all hk.2).symm⟩
def e_s_TagOk : Entry Tryz.prog := ⟨96, [.v tyStr], fun x => True, fun x => .c (.bool (tagOk x.1)), fun _ => [], fun x hx => b_s_TagOk x.1, Tryz.call96⟩
theorem b_i_FlagsOk (b : Int) : BCalls Tryz.prog 60 [.c (.int .i64 b)] (.c (.bool (flagsOk b))) [] := by
  refine bc0 [e_i_within] [] [] [] L0 Tryz.func60 (fun hwf => ?_)
  refine Eq.mpr (β := (True ∧ (True ∧ ((True ∧ true = true) ∧ (True ∧ (rB (btw b 0 31) (flagsOk b))))))) (by kernel_rfl) ?_
  simp only [SIA, eq_self]
  repeat' (first | apply And.intro | intro _)
  all_goals (first | trivial | (rw [Bool.eq_iff_iff]; simp_all [Prod.ext_iff, EQA, flagsOk]; done) | (simp_all [Prod.ext_iff, EQA, flagsOk]; done) | omega)
def e_i_FlagsOk : Entry Tryz.prog := ⟨60, [.v tyInt], fun x => True, fun x => .c (.bool (flagsOk x.1)), fun _ => [], fun x hx => b_i_FlagsOk x.1, Tryz.call60⟩
theorem b_s_FlagsOk (b : Int) : BCalls Tryz.prog 94 [.c (.int .i64 b)] (.c (.bool (flagsOk b))) [] := by
  refine bc0 [e_s_l1In] [] [] [] L0 Tryz.func94 (fun hwf => ?_)
  refine Eq.mpr (β := (True ∧ (True ∧ ((True ∧ true = true) ∧ (True ∧ (rB (btw b 0 31) (flagsOk b))))))) (by kernel_rfl) ?_
  simp only [SIA, eq_self]
  repeat' (first | apply And.intro | intro _)
  all_goals (first | trivial | (rw [Bool.eq_iff_iff]; simp_all [Prod.ext_iff, EQA, flagsOk]; done) | (simp_all [Prod.ext_iff, EQA, flagsOk]; done) | omega)
def e_s_FlagsOk : Entry Tryz.prog := ⟨94, [.v tyInt], fun x => True, fun x => .c (.bool (flagsOk x.1)), fun _ => [], fun x hx => b_s_FlagsOk x.1, Tryz.call94⟩
theorem b_s_OutOk (x : GOut) : BCalls Tryz.prog 55 [.ag [.str x.1, .str x.2]] (.c (.bool (outOk x))) [] := by
  refine bc0 [] [] [] [] L0 Tryz.func55 (fun hwf => ?_)
  refine Eq.mpr (β := (True ∧ (True ∧ (True ∧ (True ∧ (True ∧ (True ∧ (True ∧ (bif (leI ((ByteArray.size x.1 : Nat) : Int) 1200) then (True ∧ (True ∧ (True ∧ (True ∧ (True ∧ (True ∧ (rB (leI ((ByteArray.size x.2 : Nat) : Int) 20000) (outOk x)))))))) else (True ∧ (True ∧ (rB false (outOk x))))))))))))) (by kernel_rfl) ?_
  simp only [SI2A, eq_self]
  repeat' (first | apply And.intro | intro _)
  all_goals first
    | trivial
    | omega
    | (have h1 : leI ((ByteArray.size x.1 : Nat) : Int) 1200 = true := leI_true.2 (by assumption)
       unfold outOk
       rw [h1]
       rfl)
    | (have h1 : leI ((ByteArray.size x.1 : Nat) : Int) 1200 = false := leI_false.2 (by omega)
       unfold outOk
       rw [h1]
       rfl)
def e_s_OutOk : Entry Tryz.prog := ⟨55, [.s tyOut], fun x => True, fun x => .c (.bool (outOk x.1)), fun _ => [], fun x hx => b_s_OutOk x.1, Tryz.call55⟩
theorem b_i_isId (n : Int) : BCalls Tryz.prog 59 [.c (.int .i64 n)] (.c (.bool (btw n 1 999999999))) [] := by
  refine bc0 [e_i_within] [] [] [] L0 Tryz.func59 (fun hwf => ?_)
  refine Eq.mpr (β := (True ∧ (True ∧ ((True ∧ true = true) ∧ (True ∧ (rB (btw n 1 999999999) (btw n 1 999999999))))))) (by kernel_rfl) ?_
  simp only [SIA, eq_self]
  repeat' (first | apply And.intro | intro _)
  all_goals (first | trivial | (rw [Bool.eq_iff_iff]; simp_all [Prod.ext_iff, EQA]; done) | (simp_all [Prod.ext_iff, EQA]; done) | omega)
def e_i_isId : Entry Tryz.prog := ⟨59, [.v tyInt], fun x => True, fun x => .c (.bool (btw x.1 1 999999999)), fun _ => [], fun x hx => b_i_isId x.1, Tryz.call59⟩
theorem b_s_l9Number (n : Int) : BCalls Tryz.prog 93 [.c (.int .i64 n)] (.c (.bool (btw n 1 999999999))) [] := by
  refine bc0 [e_s_l1In] [] [] [] L0 Tryz.func93 (fun hwf => ?_)
  refine Eq.mpr (β := (True ∧ (True ∧ ((True ∧ true = true) ∧ (True ∧ (rB (btw n 1 999999999) (btw n 1 999999999))))))) (by kernel_rfl) ?_
  simp only [SIA, eq_self]
  repeat' (first | apply And.intro | intro _)
  all_goals (first | trivial | (rw [Bool.eq_iff_iff]; simp_all [Prod.ext_iff, EQA]; done) | (simp_all [Prod.ext_iff, EQA]; done) | omega)
def e_s_l9Number : Entry Tryz.prog := ⟨93, [.v tyInt], fun x => True, fun x => .c (.bool (btw x.1 1 999999999)), fun _ => [], fun x hx => b_s_l9Number x.1, Tryz.call93⟩
end Go.Proofs.YtklnpeckhbiloaaGreatDoor
