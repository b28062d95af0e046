/-
  Names and notes.
  No condition but what the arguments' cells hold. Printed by vcgen.py.
-/
import Derived.Test.YtpokjemdpgjngaaBlLib
import Derived.Test.YtpokjemdpgjngaaBlStr
import Derived.Test.YtpokjemdpgjngaaOkLaw
set_option linter.unusedSimpArgs false
set_option linter.unusedVariables false
namespace Go.Proofs.Ytpokjemdpgjngaa
open Go.ChangeShapes Go.WideShapes Go.ChangeAt Go.RowKit Go.Joins Go.Deep
open GoRep (rep bulk)

set_option maxRecDepth 100000 in
set_option maxHeartbeats 400000 in
theorem b_i_within (n : Int) (lo : Int) (hi : Int) : BCalls Try.prog 78 [.c (.int .i64 n), .c (.int .i64 lo), .c (.int .i64 hi)] (.c (.bool (btw n lo hi))) [] := by
  refine bcalls_of (T := ⟨[], [], [], [], none, fun _ => [], 0, [], []⟩) (L := L0) Try.func78 ⟨⟨rfl, rfl⟩, rfl⟩ (fun hwf => ?_)
  refine Eq.mpr (β := (True ∧ (True ∧ (True ∧ (True ∧ (True ∧ (bif (geI n lo) then (True ∧ (True ∧ (True ∧ (True ∧ (True ∧ ((true = true ∧ leC (.bool (leI n hi)) (.bool (btw n lo hi))) ∧ true = true)))))) else (True ∧ (True ∧ ((true = true ∧ leC (.bool false) (.bool (btw n lo hi))) ∧ true = true)))))))))) (by kernel_rfl) ?_
  simp only [true_and, and_true, cond_iff, eqI_true, eqI_false, neI_true, neI_false, ltI_true, ltI_false, leI_true, leI_false, gtI_true, gtI_false, geI_true, geI_false, eqS_true, eqS_false, eqO_true, eqO_false, not_true, not_false, Bool.not_eq_true', Bool.not_eq_false', eq_self, leV_any, leV_int, leV_bool, leV_str, leV_refl, leB_refl, leC_int, leC_bool, leC_str, leC_hs, leB_row, leB_rowInt, leB_rowStr, leB_rowBool, leB_rowToken, leB_rowSpan, leB_rowScope, leB_rowFilter, leB_rowCommand, leB_rowMsg, leB_rowBox, leB_rowCommit, leB_rowStore, leB_rowClient, leB_rowNote, leB_rowQueue, leB_rowOut, leB_rowIn, leB_rowSession, leB_rowServer, leB_rowOutcome, Int.toNat_natCast]
  repeat' (first | apply And.intro | intro _)
  all_goals first | trivial | omega | (simp [btw]; omega) | (rw [Bool.eq_iff_iff]; simp [btw, leI_true]; omega)
def e_i_within : Entry Try.prog := ⟨78, [.v tyInt, .v tyInt, .v tyInt], fun x => True, fun x => .c (.bool (btw x.1 x.2.1 x.2.2.1)), fun _ => [], fun x hx => b_i_within x.1 x.2.1 x.2.2.1, Try.call78⟩
set_option maxRecDepth 100000 in
set_option maxHeartbeats 400000 in
theorem b_s_l1In (n : Int) (lo : Int) (hi : Int) : BCalls Try.prog 47 [.c (.int .i64 n), .c (.int .i64 lo), .c (.int .i64 hi)] (.c (.bool (btw n lo hi))) [] := by
  refine bcalls_of (T := ⟨[], [], [], [], none, fun _ => [], 0, [], []⟩) (L := L0) Try.func47 ⟨⟨rfl, rfl⟩, rfl⟩ (fun hwf => ?_)
  refine Eq.mpr (β := (True ∧ (True ∧ (True ∧ (True ∧ (True ∧ (bif (geI n lo) then (True ∧ (True ∧ (True ∧ (True ∧ (True ∧ ((true = true ∧ leC (.bool (leI n hi)) (.bool (btw n lo hi))) ∧ true = true)))))) else (True ∧ (True ∧ ((true = true ∧ leC (.bool false) (.bool (btw n lo hi))) ∧ true = true)))))))))) (by kernel_rfl) ?_
  simp only [true_and, and_true, cond_iff, eqI_true, eqI_false, neI_true, neI_false, ltI_true, ltI_false, leI_true, leI_false, gtI_true, gtI_false, geI_true, geI_false, eqS_true, eqS_false, eqO_true, eqO_false, not_true, not_false, Bool.not_eq_true', Bool.not_eq_false', eq_self, leV_any, leV_int, leV_bool, leV_str, leV_refl, leB_refl, leC_int, leC_bool, leC_str, leC_hs, leB_row, leB_rowInt, leB_rowStr, leB_rowBool, leB_rowToken, leB_rowSpan, leB_rowScope, leB_rowFilter, leB_rowCommand, leB_rowMsg, leB_rowBox, leB_rowCommit, leB_rowStore, leB_rowClient, leB_rowNote, leB_rowQueue, leB_rowOut, leB_rowIn, leB_rowSession, leB_rowServer, leB_rowOutcome, Int.toNat_natCast]
  repeat' (first | apply And.intro | intro _)
  all_goals first | trivial | omega | (simp [btw]; omega) | (rw [Bool.eq_iff_iff]; simp [btw, leI_true]; omega)
def e_s_l1In : Entry Try.prog := ⟨47, [.v tyInt, .v tyInt, .v tyInt], fun x => True, fun x => .c (.bool (btw x.1 x.2.1 x.2.2.1)), fun _ => [], fun x hx => b_s_l1In x.1 x.2.1 x.2.2.1, Try.call47⟩
set_option maxRecDepth 100000 in
set_option maxHeartbeats 400000 in
theorem b_s_l1Max (a : Int) (b : Int) : BCalls Try.prog 85 [.c (.int .i64 a), .c (.int .i64 b)] (.c (.int .i64 (max a b))) [] := by
  refine bcalls_of (T := ⟨[], [], [], [], none, fun _ => [], 0, [], []⟩) (L := L0) Try.func85 ⟨⟨rfl, rfl⟩, rfl⟩ (fun hwf => ?_)
  refine Eq.mpr (β := (True ∧ (True ∧ (True ∧ (True ∧ (bif (gtI a b) then (True ∧ (True ∧ ((true = true ∧ leC (.int .i64 a) (.int .i64 (max a b))) ∧ true = true))) else (True ∧ (True ∧ ((true = true ∧ leC (.int .i64 b) (.int .i64 (max a b))) ∧ true = true))))))))) (by kernel_rfl) ?_
  simp only [true_and, and_true, cond_iff, eqI_true, eqI_false, neI_true, neI_false, ltI_true, ltI_false, leI_true, leI_false, gtI_true, gtI_false, geI_true, geI_false, eqS_true, eqS_false, eqO_true, eqO_false, not_true, not_false, Bool.not_eq_true', Bool.not_eq_false', eq_self, leV_any, leV_int, leV_bool, leV_str, leV_refl, leB_refl, leC_int, leC_bool, leC_str, leC_hs, leB_row, leB_rowInt, leB_rowStr, leB_rowBool, leB_rowToken, leB_rowSpan, leB_rowScope, leB_rowFilter, leB_rowCommand, leB_rowMsg, leB_rowBox, leB_rowCommit, leB_rowStore, leB_rowClient, leB_rowNote, leB_rowQueue, leB_rowOut, leB_rowIn, leB_rowSession, leB_rowServer, leB_rowOutcome, Int.toNat_natCast]
  repeat' (first | apply And.intro | intro _)
  all_goals first | trivial | omega
def e_s_l1Max : Entry Try.prog := ⟨85, [.v tyInt, .v tyInt], fun x => True, fun x => .c (.int .i64 (max x.1 x.2.1)), fun _ => [], fun x hx => b_s_l1Max x.1 x.2.1, Try.call85⟩
def nmCh (x : Int) : Prop := x = 47 ∨ (97 ≤ x ∧ x ≤ 122)
theorem nm_char {s : ByteArray} {i : Nat} (hi : i < s.size) (h : ¬ nmCh (byteAt s i)) : nameOk s = false := nameOk_no hi (by unfold nmCh at h; unfold nmBad; right; omega)
theorem nm_first {s : ByteArray} (hi : 1 ≤ s.size) (h : byteAt s 0 = 47) : nameOk s = false := nameOk_no (i := 0) (by omega) (by unfold nmBad; left; omega)
theorem nm_last {s : ByteArray} (hi : 1 ≤ s.size) (h : byteAt s (s.size - 1) = 47) : nameOk s = false := nameOk_no (i := s.size - 1) (by omega) (by unfold nmBad; left; omega)
theorem nm_at {s : ByteArray} {i : Nat} (hi : i < s.size) (h : byteAt s i = 47) (h2 : i = 0 ∨ i + 1 = s.size ∨ byteAt s (i - 1) = 47) : nameOk s = false := nameOk_no hi (by unfold nmBad; left; exact ⟨h, h2⟩)
theorem nm_sub {s : ByteArray} (hc : ∀ j, j < s.size → nmCh (byteAt s j)) (hb : btw ((s.size : Nat) : Int) 1 12 = true) (h0 : ¬ byteAt s 0 = 47) (h1 : ¬ byteAt s (s.size - 1) = 47) : (!subB s (⟨#[47, 47]⟩ : ByteArray)) = nameOk s := by
  cases hs : subB s (⟨#[47, 47]⟩ : ByteArray) with
  | true =>
    obtain ⟨i, hi, ha, hb'⟩ := (sub_slashes s).1 hs
    exact (nameOk_no (i := i + 1) hi (by unfold nmBad; left; exact ⟨hb', .inr (.inr (by simpa using ha))⟩)).symm
  | false =>
    rw [nameOk_all, hb]
    · rfl
    · intro i hi hbad
      have hci := hc i hi
      unfold nmBad at hbad
      unfold nmCh at hci
      rcases hbad with ⟨q, rfl | q2 | q2⟩ | ⟨q, q2⟩
      · exact h0 q
      · exact h1 (by rw [show s.size - 1 = i by omega]; exact q)
      · have h2 : subB s (⟨#[47, 47]⟩ : ByteArray) = true := (sub_slashes s).2 ⟨i - 1, by
          have : i ≠ 0 := fun e => by subst e; exact h0 q
          omega, q2, by
          have : i ≠ 0 := fun e => by subst e; exact h0 q
          rw [show i - 1 + 1 = i by omega]; exact q⟩
        rw [hs] at h2
        cases h2
      · omega
def L_i_NameOk (s : ByteArray) : Nat → List AV → Mem → LoopA
  | 2, tm, M => ⟨Nat, fun y => (setA tm [(2, .any), (3, .any), (6, .c (.int .i64 ((y : Nat) : Int))), (7, .any), (8, .any), (9, .any), (10, .any), (11, .any), (12, .any), (13, .any), (14, .any), (15, .any), (16, .any), (17, .any), (18, .any), (19, .any), (20, .any), (21, .any), (22, .any), (23, .any), (24, .any), (25, .any)], M), fun y => (y ≤ ByteArray.size s ∧ ∀ j, j < y → nmCh (byteAt s j)), fun y => (ByteArray.size s - y)⟩
  | _, _, _ => ⟨Unit, fun _ => ([], []), fun _ => False, fun _ => 0⟩
set_option maxRecDepth 100000 in
set_option maxHeartbeats 400000 in
theorem b_i_NameOk (s : ByteArray) : BCalls Try.prog 95 [.c (.str s)] (.c (.bool (nameOk s))) [] := by
  refine bcalls_of (T := ⟨[e_i_within, e_strings_Contains], [], [], [], none, fun _ => [], 0, [], []⟩) (L := (L_i_NameOk s)) Try.func95 ⟨⟨rfl, rfl⟩, rfl⟩ (fun hwf => ?_)
  refine Eq.mpr (β := (True ∧ (True ∧ (True ∧ (True ∧ ((∃ q : Nat, (q ≤ ByteArray.size s ∧ ∀ j, j < q → nmCh (byteAt s j)) ∧ ((leV (.c (.str s)) (.c (.str s)) ∧ leV (.tp []) (.tp []) ∧ True ∧ True ∧ leV (.c (.str s)) (.c (.str s)) ∧ leV (.c (.int .i64 ((ByteArray.size s : Nat) : Int))) (.c (.int .i64 ((ByteArray.size s : Nat) : Int))) ∧ leV (.c (.int .i64 0)) (.c (.int .i64 ((q : Nat) : Int))) ∧ True ∧ True ∧ True ∧ True ∧ True ∧ True ∧ True ∧ True ∧ True ∧ True ∧ True ∧ True ∧ True ∧ True ∧ True ∧ True ∧ True ∧ True ∧ True ∧ leV (.tp []) (.tp []) ∧ leV (.tp []) (.tp []) ∧ leV (.tp []) (.tp []) ∧ leV (.tp []) (.tp []) ∧ leV (.tp []) (.tp []) ∧ leV (.tp []) (.tp []) ∧ leV (.tp []) (.tp []) ∧ leV (.tp []) (.tp []) ∧ leV (.tp []) (.tp []) ∧ leV (.tp []) (.tp []) ∧ leV (.tp []) (.tp []) ∧ leV (.tp []) (.tp []) ∧ leV (.tp []) (.tp []) ∧ leV (.tp []) (.tp []) ∧ leV (.tp []) (.tp []) ∧ leV (.tp []) (.tp []) ∧ leV (.tp []) (.tp []) ∧ leV (.tp []) (.tp []) ∧ leV (.tp []) (.tp []) ∧ leV (.tp []) (.tp []) ∧ leV (.tp []) (.tp []) ∧ True) ∧ (True) ∧ true = true)) ∧ ∀ y0 : Nat, (y0 ≤ ByteArray.size s ∧ ∀ j, j < y0 → nmCh (byteAt s j)) → (True ∧ (bif (ltI ((y0 : Nat) : Int) ((ByteArray.size s : Nat) : Int)) then (True ∧ (True ∧ (True ∧ (True ∧ (((0 : Int) ≤ ((y0 : Nat) : Int) ∧ (((y0 : Nat) : Int) : Int) < ((ByteArray.size s : Nat) : Int)) ∧ (True ∧ (True ∧ (bif (neI (byteAt s (Int.toNat ((y0 : Nat) : Int))) 47) then (True ∧ (True ∧ (((0 : Int) ≤ ((y0 : Nat) : Int) ∧ (((y0 : Nat) : Int) : Int) < ((ByteArray.size s : Nat) : Int)) ∧ (True ∧ (True ∧ (bif (ltI (byteAt s (Int.toNat ((y0 : Nat) : Int))) 97) then (True ∧ (True ∧ (True ∧ ((true = true ∧ leC (.bool false) (.bool (nameOk s))) ∧ true = true)))) else (True ∧ (True ∧ (((0 : Int) ≤ ((y0 : Nat) : Int) ∧ (((y0 : Nat) : Int) : Int) < ((ByteArray.size s : Nat) : Int)) ∧ (True ∧ (True ∧ (True ∧ (bif (gtI (byteAt s (Int.toNat ((y0 : Nat) : Int))) 122) then (True ∧ ((true = true ∧ leC (.bool false) (.bool (nameOk s))) ∧ true = true)) else (True ∧ (True ∧ (∃ y0' : Nat, (y0' ≤ ByteArray.size s ∧ ∀ j, j < y0' → nmCh (byteAt s j)) ∧ (ByteArray.size s - y0') < (ByteArray.size s - y0) ∧ ((leV (.c (.str s)) (.c (.str s)) ∧ leV (.tp []) (.tp []) ∧ True ∧ True ∧ leV (.c (.str s)) (.c (.str s)) ∧ leV (.c (.int .i64 ((ByteArray.size s : Nat) : Int))) (.c (.int .i64 ((ByteArray.size s : Nat) : Int))) ∧ leV (.c (.int .i64 (IntKind.wrap .i64 (((y0 : Nat) : Int) + 1)))) (.c (.int .i64 ((y0' : Nat) : Int))) ∧ True ∧ True ∧ True ∧ True ∧ True ∧ True ∧ True ∧ True ∧ True ∧ True ∧ True ∧ True ∧ True ∧ True ∧ True ∧ True ∧ True ∧ True ∧ True ∧ leV (.tp []) (.tp []) ∧ leV (.tp []) (.tp []) ∧ leV (.tp []) (.tp []) ∧ leV (.tp []) (.tp []) ∧ leV (.tp []) (.tp []) ∧ leV (.tp []) (.tp []) ∧ leV (.tp []) (.tp []) ∧ leV (.tp []) (.tp []) ∧ leV (.tp []) (.tp []) ∧ leV (.tp []) (.tp []) ∧ leV (.tp []) (.tp []) ∧ leV (.tp []) (.tp []) ∧ leV (.tp []) (.tp []) ∧ leV (.tp []) (.tp []) ∧ leV (.tp []) (.tp []) ∧ leV (.tp []) (.tp []) ∧ leV (.tp []) (.tp []) ∧ leV (.tp []) (.tp []) ∧ leV (.tp []) (.tp []) ∧ leV (.tp []) (.tp []) ∧ leV (.tp []) (.tp []) ∧ True) ∧ (True) ∧ true = true))))))))))))))))) else (True ∧ (True ∧ (True ∧ (∃ y0' : Nat, (y0' ≤ ByteArray.size s ∧ ∀ j, j < y0' → nmCh (byteAt s j)) ∧ (ByteArray.size s - y0') < (ByteArray.size s - y0) ∧ ((leV (.c (.str s)) (.c (.str s)) ∧ leV (.tp []) (.tp []) ∧ True ∧ True ∧ leV (.c (.str s)) (.c (.str s)) ∧ leV (.c (.int .i64 ((ByteArray.size s : Nat) : Int))) (.c (.int .i64 ((ByteArray.size s : Nat) : Int))) ∧ leV (.c (.int .i64 (IntKind.wrap .i64 (((y0 : Nat) : Int) + 1)))) (.c (.int .i64 ((y0' : Nat) : Int))) ∧ True ∧ True ∧ True ∧ True ∧ True ∧ True ∧ True ∧ True ∧ True ∧ True ∧ True ∧ True ∧ True ∧ True ∧ True ∧ True ∧ True ∧ True ∧ True ∧ leV (.tp []) (.tp []) ∧ leV (.tp []) (.tp []) ∧ leV (.tp []) (.tp []) ∧ leV (.tp []) (.tp []) ∧ leV (.tp []) (.tp []) ∧ leV (.tp []) (.tp []) ∧ leV (.tp []) (.tp []) ∧ leV (.tp []) (.tp []) ∧ leV (.tp []) (.tp []) ∧ leV (.tp []) (.tp []) ∧ leV (.tp []) (.tp []) ∧ leV (.tp []) (.tp []) ∧ leV (.tp []) (.tp []) ∧ leV (.tp []) (.tp []) ∧ leV (.tp []) (.tp []) ∧ leV (.tp []) (.tp []) ∧ leV (.tp []) (.tp []) ∧ leV (.tp []) (.tp []) ∧ leV (.tp []) (.tp []) ∧ leV (.tp []) (.tp []) ∧ leV (.tp []) (.tp []) ∧ True) ∧ (True) ∧ true = true))))))))))))) else (True ∧ (True ∧ ((True ∧ true = true) ∧ (True ∧ (bif btw ((ByteArray.size s : Nat) : Int) 1 12 then (True ∧ (((0 : Int) ≤ 0 ∧ (0 : Int) < ((ByteArray.size s : Nat) : Int)) ∧ (True ∧ (True ∧ (True ∧ (bif (neI (byteAt s (Int.toNat 0)) 47) then (True ∧ (True ∧ (True ∧ (True ∧ (((0 : Int) ≤ (IntKind.wrap .i64 (((ByteArray.size s : Nat) : Int) - 1)) ∧ ((IntKind.wrap .i64 (((ByteArray.size s : Nat) : Int) - 1)) : Int) < ((ByteArray.size s : Nat) : Int)) ∧ (True ∧ (True ∧ (True ∧ (bif (neI (byteAt s (Int.toNat (IntKind.wrap .i64 (((ByteArray.size s : Nat) : Int) - 1)))) 47) then (True ∧ ((ByteArray.size s < 4294967281 ∧ true = true) ∧ (True ∧ (True ∧ (True ∧ ((true = true ∧ leC (.bool (!(subB s (⟨#[47, 47]⟩ : ByteArray)))) (.bool (nameOk s))) ∧ true = true)))))) else (True ∧ (True ∧ ((true = true ∧ leC (.bool false) (.bool (nameOk s))) ∧ true = true)))))))))))) else (True ∧ (True ∧ (True ∧ (True ∧ ((true = true ∧ leC (.bool false) (.bool (nameOk s))) ∧ true = true))))))))))) else (True ∧ (True ∧ (True ∧ (True ∧ (True ∧ (True ∧ ((true = true ∧ leC (.bool false) (.bool (nameOk s))) ∧ true = true)))))))))))))))))))) (by kernel_rfl) ?_
  have hm : s.size ≤ maxLen := hwf.1
  unfold maxLen at hm
  have e1 : 1 ≤ s.size → Int.toNat (IntKind.wrap .i64 (((ByteArray.size s : Nat) : Int) - 1)) = s.size - 1 := fun h => by rw [wrapA (by omega) (by omega)]; omega
  have e2 : IntKind.wrap .i64 (((ByteArray.size s : Nat) : Int) - 1) = ((ByteArray.size s : Nat) : Int) - 1 := wrapA (by omega) (by omega)
  simp only [true_and, and_true, cond_iff, eqI_true, eqI_false, neI_true, neI_false, ltI_true, ltI_false, leI_true, leI_false, gtI_true, gtI_false, geI_true, geI_false, eqS_true, eqS_false, eqO_true, eqO_false, not_true, not_false, Bool.not_eq_true', Bool.not_eq_false', eq_self, leV_any, leV_int, leV_bool, leV_str, leV_refl, leB_refl, leC_int, leC_bool, leC_str, leC_hs, leB_row, leB_rowInt, leB_rowStr, leB_rowBool, leB_rowToken, leB_rowSpan, leB_rowScope, leB_rowFilter, leB_rowCommand, leB_rowMsg, leB_rowBox, leB_rowCommit, leB_rowStore, leB_rowClient, leB_rowNote, leB_rowQueue, leB_rowOut, leB_rowIn, leB_rowSession, leB_rowServer, leB_rowOutcome, Int.toNat_natCast]
  refine ⟨⟨0, ⟨Nat.zero_le _, fun j hj => absurd hj (Nat.not_lt_zero j)⟩, rfl⟩, fun k hk => ⟨fun hlt => ?_, fun hge => ?_⟩⟩
  · have hb := byteAt_b s k
    repeat' (first | apply And.intro | intro _)
    all_goals first
      | trivial
      | omega
      | exact (nm_char (i := k) (by omega) (by unfold nmCh; omega)).symm
      | exact ⟨k + 1, ⟨by omega, fun j hj => if h : j < k then hk.2 j h else by obtain rfl : j = k := (by omega); unfold nmCh; omega⟩, by omega, wrapN (by unfold maxLen; omega)⟩
  · obtain rfl : k = s.size := by omega
    repeat' (first | apply And.intro | intro _)
    all_goals first
      | trivial
      | (rw [btw_iff] at *; omega)
      | (have hb1 := btw_iff.1 (by assumption : btw ((ByteArray.size s : Nat) : Int) 1 12 = true); first | omega | (rw [e1 (by omega)] at *; first | exact nm_sub hk.2 (by assumption) (by assumption) (by assumption) | exact (nm_last (by omega) (by assumption)).symm) | exact (nm_first (by omega) (by assumption)).symm)
      | exact (nameOk_long (by assumption)).symm
def e_i_NameOk : Entry Try.prog := ⟨95, [.v tyStr], fun x => True, fun x => .c (.bool (nameOk x.1)), fun _ => [], fun x hx => b_i_NameOk x.1, Try.call95⟩
def L_s_NameOk (s : ByteArray) : Nat → List AV → Mem → LoopA
  | 2, tm, M => ⟨Nat, fun y => (setA tm [(2, .any), (3, .c (.int .i64 ((y : Nat) : Int))), (4, .any), (5, .any), (6, .any), (7, .any), (8, .any), (9, .any), (10, .any), (11, .any), (12, .any), (13, .any), (14, .any), (15, .any), (16, .any), (17, .any), (18, .any), (19, .any), (20, .any), (21, .any), (22, .any), (23, .any), (24, .any), (25, .any), (26, .any), (27, .any), (28, .any), (29, .any), (30, .any), (31, .any), (32, .any), (33, .any), (34, .any), (35, .any), (36, .any), (37, .any), (38, .any), (39, .any)], M), fun y => (y ≤ ByteArray.size s ∧ ∀ j, j < y → ¬ nmBad s j), fun y => (ByteArray.size s - y)⟩
  | _, _, _ => ⟨Unit, fun _ => ([], []), fun _ => False, fun _ => 0⟩
set_option maxRecDepth 100000 in
set_option maxHeartbeats 400000 in
theorem b_s_NameOk (s : ByteArray) : BCalls Try.prog 76 [.c (.str s)] (.c (.bool (nameOk s))) [] := by
  refine bcalls_of (T := ⟨[e_s_l1In], [], [], [], none, fun _ => [], 0, [], []⟩) (L := (L_s_NameOk s)) Try.func76 ⟨⟨rfl, rfl⟩, rfl⟩ (fun hwf => ?_)
  refine Eq.mpr (β := (True ∧ (True ∧ ((∃ q : Nat, (q ≤ ByteArray.size s ∧ ∀ j, j < q → ¬ nmBad s j) ∧ ((leV (.c (.str s)) (.c (.str s)) ∧ leV (.tp []) (.tp []) ∧ True ∧ leV (.c (.int .i64 0)) (.c (.int .i64 ((q : Nat) : Int))) ∧ True ∧ True ∧ True ∧ True ∧ True ∧ True ∧ True ∧ True ∧ True ∧ True ∧ True ∧ True ∧ True ∧ True ∧ True ∧ True ∧ True ∧ True ∧ True ∧ True ∧ True ∧ True ∧ True ∧ True ∧ True ∧ True ∧ True ∧ True ∧ True ∧ True ∧ True ∧ True ∧ True ∧ True ∧ True ∧ True ∧ leV (.tp []) (.tp []) ∧ leV (.tp []) (.tp []) ∧ leV (.tp []) (.tp []) ∧ True) ∧ (True) ∧ true = true)) ∧ ∀ y0 : Nat, (y0 ≤ ByteArray.size s ∧ ∀ j, j < y0 → ¬ nmBad s j) → (True ∧ (True ∧ (True ∧ (True ∧ (bif (ltI ((y0 : Nat) : Int) ((ByteArray.size s : Nat) : Int)) then (True ∧ (True ∧ (((0 : Int) ≤ ((y0 : Nat) : Int) ∧ (((y0 : Nat) : Int) : Int) < ((ByteArray.size s : Nat) : Int)) ∧ (True ∧ (bif (eqI (byteAt s (Int.toNat ((y0 : Nat) : Int))) 47) then (True ∧ (True ∧ (True ∧ (bif (eqI ((y0 : Nat) : Int) 0) then (True ∧ (True ∧ (True ∧ (True ∧ ((true = true ∧ leC (.bool false) (.bool (nameOk s))) ∧ true = true))))) else (True ∧ (True ∧ (True ∧ (True ∧ (True ∧ (True ∧ (True ∧ (bif (eqI ((y0 : Nat) : Int) (IntKind.wrap .i64 (((ByteArray.size s : Nat) : Int) - 1))) then (True ∧ (True ∧ ((true = true ∧ leC (.bool false) (.bool (nameOk s))) ∧ true = true))) else (True ∧ (True ∧ (True ∧ (((0 : Int) ≤ (IntKind.wrap .i64 (((y0 : Nat) : Int) - 1)) ∧ ((IntKind.wrap .i64 (((y0 : Nat) : Int) - 1)) : Int) < ((ByteArray.size s : Nat) : Int)) ∧ (True ∧ (True ∧ (bif (eqI (byteAt s (Int.toNat (IntKind.wrap .i64 (((y0 : Nat) : Int) - 1)))) 47) then (True ∧ ((true = true ∧ leC (.bool false) (.bool (nameOk s))) ∧ true = true)) else (True ∧ (True ∧ (True ∧ (∃ y0' : Nat, (y0' ≤ ByteArray.size s ∧ ∀ j, j < y0' → ¬ nmBad s j) ∧ (ByteArray.size s - y0') < (ByteArray.size s - y0) ∧ ((leV (.c (.str s)) (.c (.str s)) ∧ leV (.tp []) (.tp []) ∧ True ∧ leV (.c (.int .i64 (IntKind.wrap .i64 (((y0 : Nat) : Int) + 1)))) (.c (.int .i64 ((y0' : Nat) : Int))) ∧ True ∧ True ∧ True ∧ True ∧ True ∧ True ∧ True ∧ True ∧ True ∧ True ∧ True ∧ True ∧ True ∧ True ∧ True ∧ True ∧ True ∧ True ∧ True ∧ True ∧ True ∧ True ∧ True ∧ True ∧ True ∧ True ∧ True ∧ True ∧ True ∧ True ∧ True ∧ True ∧ True ∧ True ∧ True ∧ True ∧ leV (.tp []) (.tp []) ∧ leV (.tp []) (.tp []) ∧ leV (.tp []) (.tp []) ∧ True) ∧ (True) ∧ true = true)))))))))))))))))))))))) else (True ∧ (True ∧ (((0 : Int) ≤ ((y0 : Nat) : Int) ∧ (((y0 : Nat) : Int) : Int) < ((ByteArray.size s : Nat) : Int)) ∧ (True ∧ (True ∧ (bif (ltI (byteAt s (Int.toNat ((y0 : Nat) : Int))) 97) then (True ∧ (True ∧ ((true = true ∧ leC (.bool false) (.bool (nameOk s))) ∧ true = true))) else (True ∧ (True ∧ (((0 : Int) ≤ ((y0 : Nat) : Int) ∧ (((y0 : Nat) : Int) : Int) < ((ByteArray.size s : Nat) : Int)) ∧ (True ∧ (True ∧ (bif (gtI (byteAt s (Int.toNat ((y0 : Nat) : Int))) 122) then (True ∧ ((true = true ∧ leC (.bool false) (.bool (nameOk s))) ∧ true = true)) else (True ∧ (True ∧ (True ∧ (∃ y0' : Nat, (y0' ≤ ByteArray.size s ∧ ∀ j, j < y0' → ¬ nmBad s j) ∧ (ByteArray.size s - y0') < (ByteArray.size s - y0) ∧ ((leV (.c (.str s)) (.c (.str s)) ∧ leV (.tp []) (.tp []) ∧ True ∧ leV (.c (.int .i64 (IntKind.wrap .i64 (((y0 : Nat) : Int) + 1)))) (.c (.int .i64 ((y0' : Nat) : Int))) ∧ True ∧ True ∧ True ∧ True ∧ True ∧ True ∧ True ∧ True ∧ True ∧ True ∧ True ∧ True ∧ True ∧ True ∧ True ∧ True ∧ True ∧ True ∧ True ∧ True ∧ True ∧ True ∧ True ∧ True ∧ True ∧ True ∧ True ∧ True ∧ True ∧ True ∧ True ∧ True ∧ True ∧ True ∧ True ∧ True ∧ leV (.tp []) (.tp []) ∧ leV (.tp []) (.tp []) ∧ leV (.tp []) (.tp []) ∧ True) ∧ (True) ∧ true = true)))))))))))))))))))))) else (True ∧ (True ∧ ((True ∧ true = true) ∧ (True ∧ ((true = true ∧ leC (.bool (btw ((ByteArray.size s : Nat) : Int) 1 12)) (.bool (nameOk s))) ∧ true = true)))))))))))))) (by kernel_rfl) ?_
  have hm : s.size ≤ maxLen := hwf.1
  unfold maxLen at hm
  have e2 : IntKind.wrap .i64 (((ByteArray.size s : Nat) : Int) - 1) = ((ByteArray.size s : Nat) : Int) - 1 := wrapA (by omega) (by omega)
  simp only [true_and, and_true, cond_iff, eqI_true, eqI_false, neI_true, neI_false, ltI_true, ltI_false, leI_true, leI_false, gtI_true, gtI_false, geI_true, geI_false, eqS_true, eqS_false, eqO_true, eqO_false, not_true, not_false, Bool.not_eq_true', Bool.not_eq_false', eq_self, leV_any, leV_int, leV_bool, leV_str, leV_refl, leB_refl, leC_int, leC_bool, leC_str, leC_hs, leB_row, leB_rowInt, leB_rowStr, leB_rowBool, leB_rowToken, leB_rowSpan, leB_rowScope, leB_rowFilter, leB_rowCommand, leB_rowMsg, leB_rowBox, leB_rowCommit, leB_rowStore, leB_rowClient, leB_rowNote, leB_rowQueue, leB_rowOut, leB_rowIn, leB_rowSession, leB_rowServer, leB_rowOutcome, Int.toNat_natCast]
  refine ⟨⟨0, ⟨Nat.zero_le _, fun j hj => absurd hj (Nat.not_lt_zero j)⟩, rfl⟩, fun k hk => ⟨fun hlt => ?_, fun hge => ?_⟩⟩
  · have hb := byteAt_b s k
    have e3 : IntKind.wrap .i64 (((k : Nat) : Int) - 1) = ((k : Nat) : Int) - 1 := wrapA (by omega) (by omega)
    have e4 : 1 ≤ k → Int.toNat (((k : Nat) : Int) - 1) = k - 1 := fun h => by omega
    simp only [e2, e3]
    repeat' (first | apply And.intro | intro _)
    all_goals first
      | trivial
      | omega
      | exact (nameOk_no (i := k) (by omega) (by unfold nmBad; first | (right; omega) | (left; refine ⟨by assumption, ?_⟩; first | (left; omega) | (right; left; omega) | (right; right; rw [← e4 (by omega)]; assumption)))).symm
      | exact ⟨k + 1, ⟨by omega, fun j hj => if h : j < k then hk.2 j h else by obtain rfl : j = k := (by omega); unfold nmBad; first | (rintro (⟨q, q2⟩ | ⟨q, q2⟩) <;> omega) | (rw [e4 (by omega)] at *; rintro (⟨q, rfl | q2 | q2⟩ | ⟨q, q2⟩) <;> first | omega | contradiction)⟩, by omega, wrapN (by unfold maxLen; omega)⟩
  · obtain rfl : k = s.size := by omega
    first | exact (nameOk_all hk.2).symm | exact ⟨trivial, (nameOk_all hk.2).symm⟩
def e_s_NameOk : Entry Try.prog := ⟨76, [.v tyStr], fun x => True, fun x => .c (.bool (nameOk x.1)), fun _ => [], fun x hx => b_s_NameOk x.1, Try.call76⟩
def noteOk (n : GNote) : Bool := if n.1 = 1 then (btw n.2.1 0 300 && (btw n.2.2.1 0 999999998 && eqS n.2.2.2 (⟨#[]⟩ : ByteArray))) else (btw n.1 2 4 && (eqI n.2.1 0 && (eqI n.2.2.1 0 && nameOk n.2.2.2)))
theorem ifmaxQ {a b : Int} : (if b > a then b else a) = max a b := by omega
def lastB (l : List GNote) : Nat → Int
  | 0 => -1
  | k + 1 => if (nth_Note l k).1 = 1 then max (lastB l k) (nth_Note l k).2.1 else lastB l k
def aboveB (l : List GNote) (n : Int) : Bool := !List.any l (fun z0 : GNote => eqI z0.1 1 && geI z0.2.1 n)
def statB (l : List GNote) (s : ByteArray) : Bool := List.any l (fun z0 : GNote => eqI z0.1 2 && eqS z0.2.2.2 s)
theorem lastB_ge (l : List GNote) : ∀ k, -1 ≤ lastB l k
  | 0 => Int.le_refl _
  | k + 1 => by have := lastB_ge l k; unfold lastB; split <;> omega
theorem lastB_le {l : List GNote} {n : Int} : ∀ {k : Nat}, n ≤ lastB l k ↔ n ≤ -1 ∨ ∃ j, j < k ∧ (nth_Note l j).1 = 1 ∧ n ≤ (nth_Note l j).2.1
  | 0 => by
    unfold lastB
    constructor
    · exact .inl
    · rintro (h | ⟨j, hj, _⟩)
      · exact h
      · omega
  | k + 1 => by
    have ih := lastB_le (l := l) (n := n) (k := k)
    unfold lastB
    constructor
    · intro h
      split at h
      · rename_i h1
        by_cases h2 : n ≤ lastB l k
        · rcases ih.1 h2 with h3 | ⟨j, a, b⟩
          · exact .inl h3
          · exact .inr ⟨j, by omega, b⟩
        · exact .inr ⟨k, by omega, h1, by omega⟩
      · rcases ih.1 h with h3 | ⟨j, a, b⟩
        · exact .inl h3
        · exact .inr ⟨j, by omega, b⟩
    · intro h
      have : n ≤ lastB l k ∨ ((nth_Note l k).1 = 1 ∧ n ≤ (nth_Note l k).2.1) := by
        rcases h with h | ⟨j, a, b, c⟩
        · exact .inl (ih.2 (.inl h))
        · by_cases hj : j = k
          · subst hj; exact .inr ⟨b, c⟩
          · exact .inl (ih.2 (.inr ⟨j, by omega, b, c⟩))
      split
      · rcases this with h | h <;> omega
      · rename_i h1
        rcases this with h | h
        · exact h
        · exact absurd h.1 h1
theorem nthN_of {l : List GNote} {j : Nat} {z : GNote} (hj : j < List.length l) (e : l[j] = z) : nth_Note l j = z := by
  have h : l[j]? = some z := by rw [List.getElem?_eq_getElem hj, e]
  exact nth_of_get (t := tyNote) h
theorem above_last {l : List GNote} {n : Int} (h : 0 ≤ n) : aboveB l n = decide (lastB l (List.length l) < n) := by
  rw [Bool.eq_iff_iff, decide_eq_true_eq]
  have h1 := lastB_le (l := l) (n := n) (k := List.length l)
  unfold aboveB
  rw [Bool.not_eq_true', ← Bool.not_eq_true, List.any_eq_true]
  constructor
  · intro q
    refine Int.not_le.1 fun hn => ?_
    rcases h1.1 hn with h2 | ⟨j, a, b, c⟩
    · omega
    · exact q ⟨nth_Note l j, List.mem_of_getElem? (nth_getElem? (t := tyNote) a), by rw [Bool.and_eq_true, eqI_true, geI_true]; exact ⟨b, c⟩⟩
  · rintro q ⟨z, hz, hp⟩
    obtain ⟨j, hj, e⟩ := List.getElem_of_mem hz
    have e2 : nth_Note l j = z := nthN_of hj e
    rw [Bool.and_eq_true, eqI_true, geI_true] at hp
    exact absurd (h1.2 (.inr ⟨j, hj, by rw [e2]; exact hp.1, by rw [e2]; exact hp.2⟩)) (by omega)
def onlyN (l : List GNote) (b : Bool) : Nat → List GNote
  | 0 => []
  | k + 1 => if eqI (nth_Note l k).1 1 = b then onlyN l b k ++ [nth_Note l k] else onlyN l b k
theorem onlyN_len {l : List GNote} {b : Bool} : ∀ k, (onlyN l b k).length ≤ k
  | 0 => Nat.le_refl _
  | k + 1 => by have := onlyN_len (l := l) (b := b) k; unfold onlyN; split <;> simp <;> omega
theorem takeN_nth {l : List GNote} {k : Nat} (h : k < List.length l) : List.take (k + 1) l = List.take k l ++ [nth_Note l k] := by
  have h0 : l[k]? = some (nth_Note l k) := nth_getElem? (t := tyNote) h
  rw [List.take_add_one, h0]
  rfl
/-- all are kept -/
theorem onlyN_take {l : List GNote} {b : Bool} : ∀ {k : Nat}, k ≤ List.length l → (∀ j, j < k → eqI (nth_Note l j).1 1 = b) → onlyN l b k = List.take k l
  | 0, _, _ => by simp [onlyN]
  | k + 1, hk, h => by
    unfold onlyN
    rw [if_pos (h k (by omega)), onlyN_take (by omega) (fun j hj => h j (by omega)), takeN_nth (by omega)]
def hasN (l : List GNote) (v : GNote) : Bool := List.any l (fun z0 : GNote => eqC_Note v z0)
def qBad (q : GQueue) (i : Nat) : Bool := !noteOk (nth_Note q.1 i) || ((eqI (nth_Note q.1 i).1 1 && (q.2.1 || !aboveB (List.take i q.1) (nth_Note q.1 i).2.1)) || ((neI (nth_Note q.1 i).1 1 && q.2.2) || (eqI (nth_Note q.1 i).1 2 && statB (List.take i q.1) (nth_Note q.1 i).2.2.2)))
def iBad (q : GQueue) (i : Nat) : Bool := !noteOk (nth_Note q.1 i) || ((eqI (nth_Note q.1 i).1 1 && (q.2.1 || leI (nth_Note q.1 i).2.1 (lastB (List.take i q.1) (List.length (List.take i q.1))))) || ((neI (nth_Note q.1 i).1 1 && q.2.2) || (eqI (nth_Note q.1 i).1 2 && hasN (List.take i q.1) (nth_Note q.1 i))))
def queueOk (q : GQueue) : Bool := decide ((∀ i, i < List.length q.1 → qBad q i = false) ∧ List.length q.1 ≤ 6)
theorem queueOk_no {q : GQueue} {i : Nat} (hi : i < List.length q.1) (h : qBad q i = true) : queueOk q = false := decide_eq_false fun z => by rw [z.1 i hi] at h; cases h
theorem queueOk_all {q : GQueue} (h : ∀ i, i < List.length q.1 → qBad q i = false) : queueOk q = leI ((List.length q.1 : Nat) : Int) 6 := by
  unfold queueOk
  rw [Bool.eq_iff_iff, decide_eq_true_eq, leI_true]
  exact ⟨fun z => by have := z.2; omega, fun z => ⟨h, by omega⟩⟩
theorem noteOk_box {n : GNote} (h : noteOk n = true) (h1 : n.1 = 1) : 0 ≤ n.2.1 := by
  unfold noteOk at h
  rw [if_pos h1, Bool.and_eq_true, btw_iff] at h
  omega
theorem noteOk_other {n : GNote} (h : noteOk n = true) (h1 : n.1 ≠ 1) : n.2.1 = 0 ∧ n.2.2.1 = 0 := by
  unfold noteOk at h
  rw [if_neg h1, Bool.and_eq_true, Bool.and_eq_true, Bool.and_eq_true, eqI_true, eqI_true] at h
  exact ⟨h.2.1, h.2.2.1⟩
theorem has_stat {l : List GNote} {v : GNote} (hl : ∀ j, j < List.length l → noteOk (nth_Note l j) = true) (hv : noteOk v = true) (h2 : v.1 = 2) : hasN l v = statB l v.2.2.2 := by
  unfold hasN statB
  rw [Bool.eq_iff_iff, List.any_eq_true, List.any_eq_true]
  constructor
  · rintro ⟨z, hz, he⟩
    have e := eqC_Note_true.1 he
    exact ⟨z, hz, by rw [← e, Bool.and_eq_true, eqI_true, eqS_true]; exact ⟨h2, rfl⟩⟩
  · rintro ⟨z, hz, he⟩
    rw [Bool.and_eq_true, eqI_true, eqS_true] at he
    obtain ⟨j, hj, e⟩ := List.getElem_of_mem hz
    have e2 : nth_Note l j = z := nthN_of hj e
    have hz' := hl j hj
    rw [e2] at hz'
    have p1 := noteOk_other hz' (by omega)
    have p2 := noteOk_other hv (by omega)
    exact ⟨z, hz, eqC_Note_true.2 (Prod.ext (by omega) (Prod.ext (by omega) (Prod.ext (by omega) he.2.symm)))⟩
theorem qBad_ok {q : GQueue} {j : Nat} (h : qBad q j = false) : noteOk (nth_Note q.1 j) = true := by
  unfold qBad at h
  cases hn : noteOk (nth_Note q.1 j) with
  | true => rfl
  | false => rw [hn] at h; cases h
theorem nth_take {l : List GNote} {i j : Nat} (h : j < i) (hi : i ≤ List.length l) : nth_Note (List.take i l) j = nth_Note l j := by
  have h0 : l[j]? = some (nth_Note l j) := nth_getElem? (t := tyNote) (by have : i ≤ List.length l := hi; show j < List.length l; omega)
  have h1 : (List.take i l)[j]? = some (nth_Note l j) := by rw [List.getElem?_take, if_pos h]; exact h0
  exact nth_of_get (t := tyNote) h1
theorem aboveB_no {l : List GNote} {n : Int} {k : Nat} (hk : k < List.length l) (h : (nth_Note l k).1 = 1 ∧ n ≤ (nth_Note l k).2.1) : aboveB l n = false := by
  have h' : List.any l (fun z0 : GNote => eqI z0.1 1 && geI z0.2.1 n) = true := any_at_nth (t := tyNote) (xs := l) (p := fun z0 : GNote => eqI z0.1 1 && geI z0.2.1 n) hk (by show (eqI (nth_Note l k).1 1 && geI (nth_Note l k).2.1 n) = true; rw [Bool.and_eq_true, eqI_true, geI_true]; exact h)
  unfold aboveB
  rw [h']
  rfl
theorem aboveB_yes {l : List GNote} {n : Int} (h : ∀ j, j < List.length l → ¬ ((nth_Note l j).1 = 1 ∧ n ≤ (nth_Note l j).2.1)) : aboveB l n = true := by
  have h' : List.any l (fun z0 : GNote => eqI z0.1 1 && geI z0.2.1 n) = false := any_of_nth (t := tyNote) (xs := l) (p := fun z0 : GNote => eqI z0.1 1 && geI z0.2.1 n) (fun j hj => by show (eqI (nth_Note l j).1 1 && geI (nth_Note l j).2.1 n) = false; rw [← Bool.not_eq_true, Bool.and_eq_true, eqI_true, geI_true]; exact h j hj)
  unfold aboveB
  rw [h']
  rfl
theorem statB_yes {l : List GNote} {n : ByteArray} {k : Nat} (hk : k < List.length l) (h : (nth_Note l k).1 = 2 ∧ (nth_Note l k).2.2.2 = n) : statB l n = true :=
  any_at_nth (t := tyNote) (xs := l) (p := fun z0 : GNote => eqI z0.1 2 && eqS z0.2.2.2 n) hk (by show (eqI (nth_Note l k).1 2 && eqS (nth_Note l k).2.2.2 n) = true; rw [Bool.and_eq_true, eqI_true, eqS_true]; exact h)
theorem statB_no {l : List GNote} {n : ByteArray} (h : ∀ j, j < List.length l → ¬ ((nth_Note l j).1 = 2 ∧ (nth_Note l j).2.2.2 = n)) : statB l n = false :=
  any_of_nth (t := tyNote) (xs := l) (p := fun z0 : GNote => eqI z0.1 2 && eqS z0.2.2.2 n) (fun j hj => by show (eqI (nth_Note l j).1 2 && eqS (nth_Note l j).2.2.2 n) = false; rw [← Bool.not_eq_true, Bool.and_eq_true, eqI_true, eqS_true]; exact h j hj)
theorem iBad_eq {q : GQueue} {i : Nat} (hi : i < List.length q.1) (h : ∀ j, j < i → qBad q j = false) : iBad q i = qBad q i := by
  unfold iBad qBad
  cases hn : noteOk (nth_Note q.1 i) with
  | false => rfl
  | true =>
    have hlen : List.length (List.take i q.1) = i := by rw [List.length_take]; omega
    by_cases h1 : (nth_Note q.1 i).1 = 1
    · rw [above_last (noteOk_box hn h1), hlen, eqI_true.2 h1]
      have e : leI (nth_Note q.1 i).2.1 (lastB (List.take i q.1) i) = !decide (lastB (List.take i q.1) i < (nth_Note q.1 i).2.1) := by
        rw [Bool.eq_iff_iff, leI_true, Bool.not_eq_true', decide_eq_false_iff_not]
        omega
      rw [e, eqI_false.2 (show ¬ (nth_Note q.1 i).1 = 2 by omega)]
      rfl
    · rw [eqI_false.2 h1]
      by_cases h2 : (nth_Note q.1 i).1 = 2
      · rw [has_stat (fun j hj => by rw [hlen] at hj; rw [nth_take hj (by omega)]; exact qBad_ok (h j hj)) hn h2]
        rfl
      · rw [eqI_false.2 h2]
        rfl
end Go.Proofs.Ytpokjemdpgjngaa
