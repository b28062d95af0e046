/-
  Several texts in one.
-/
import Derived.Test.YtoigkpkafgjeaaaBBmTy
import Derived.Shelf.Strings.Search3
import Derived.Test.YtoigkpkafgjeaaaBLawA
import Derived.Lib.IndexMore
import Derived.Test.YtoigkpkafgjeaaaBBlLib
set_option linter.unusedSimpArgs false
set_option linter.unusedVariables false
namespace Go.Proofs.Ytoigkpkafgjeaaa
open Go.ChangeShapes Go.WideShapes Go.ChangeAt Go.RowKit Go.Joins Go.Deep
open GoRep (rep bulk)
end Go.Proofs.Ytoigkpkafgjeaaa
set_option linter.unusedSimpArgs false
set_option linter.unusedVariables false
namespace Go.Proofs.Ytoigkpkafgjeaaa
open Go.ChangeShapes Go.WideShapes Go.ChangeAt Go.RowKit Go.Joins Go.Deep
open GoRep (rep bulk)

theorem bl_tot : ∀ (x y : List UInt8), (Op.bytesLess x y || decide (x = y)) = !Op.bytesLess y x
  | [], [] => by simp [Op.bytesLess]
  | _ :: _, [] => by simp [Op.bytesLess]
  | [], _ :: _ => by simp [Op.bytesLess]
  | a :: x, b :: y => by
    have ih := bl_tot x y
    rw [Op.bytesLess, Op.bytesLess]
    rcases Nat.lt_trichotomy a.toNat b.toNat with h | h | h
    · have h1 : a < b := h
      have h2 : ¬ b < a := fun h' => by have : b.toNat < a.toNat := h'; omega
      have h3 : a ≠ b := fun e => by subst e; omega
      simp [h1, h2, h3, h3.symm]
    · have e : a = b := UInt8.toNat_inj.1 h
      subst e
      have h2 : ¬ a < a := fun h' => by have : a.toNat < a.toNat := h'; omega
      simpa [h2] using ih
    · have h1 : b < a := h
      have h2 : ¬ a < b := fun h' => by have : a.toNat < b.toNat := h'; omega
      have h3 : a ≠ b := fun e => by subst e; omega
      simp [h1, h2, h3, h3.symm]
theorem leS_ge (a b : ByteArray) : (Op.bytesLess a.toList b.toList || decide (a = b)) = !Op.bytesLess b.toList a.toList := by
  rw [← bl_tot]
  congr 1
  rw [decide_eq_decide, ByteArray.toList_eq, ByteArray.toList_eq]
  exact ⟨fun h => by rw [h], fun h => ByteArray.ext (Array.toList_inj.1 h)⟩

theorem byteAt_b (s : ByteArray) (i : Nat) : 0 ≤ byteAt s i ∧ byteAt s i ≤ 255 := by
  unfold byteAt
  have := (s.data.toList.getD i 0).toNat_lt
  omega
/-- a place of a name that is wrong -/
def nmBad (s : ByteArray) (i : Nat) : Prop := (byteAt s i = 47 ∧ (i = 0 ∨ i + 1 = s.size ∨ byteAt s (i - 1) = 47)) ∨ (byteAt s i ≠ 47 ∧ (byteAt s i < 97 ∨ 122 < byteAt s i))
instance (s : ByteArray) (i : Nat) : Decidable (nmBad s i) := by unfold nmBad; infer_instance
def nameOk (s : ByteArray) : Bool := decide ((∀ i, i < s.size → ¬ nmBad s i) ∧ 1 ≤ s.size ∧ s.size ≤ 12)
theorem nameOk_no {s : ByteArray} {i : Nat} (hi : i < s.size) (h : nmBad s i) : nameOk s = false := decide_eq_false fun q => q.1 i hi h
theorem nameOk_all {s : ByteArray} (h : ∀ i, i < s.size → ¬ nmBad s i) : nameOk s = btw (s.size : Nat) 1 12 := by
  unfold nameOk
  rw [Bool.eq_iff_iff, decide_eq_true_eq, btw_iff]
  exact ⟨fun q => by omega, fun q => ⟨h, by omega⟩⟩
/-- no letter, no digit -/
def tgBad (x : Int) : Prop := ¬ ((97 ≤ x ∧ x ≤ 122) ∨ (65 ≤ x ∧ x ≤ 90) ∨ (48 ≤ x ∧ x ≤ 57))
instance (x : Int) : Decidable (tgBad x) := by unfold tgBad; infer_instance
def tagOk (s : ByteArray) : Bool := decide ((∀ i, i < s.size → ¬ tgBad (byteAt s i)) ∧ 1 ≤ s.size ∧ s.size ≤ 8)
theorem tagOk_no {s : ByteArray} {i : Nat} (hi : i < s.size) (h : tgBad (byteAt s i)) : tagOk s = false := decide_eq_false fun q => q.1 i hi h
theorem tagOk_all {s : ByteArray} (h : ∀ i, i < s.size → ¬ tgBad (byteAt s i)) : tagOk s = btw (s.size : Nat) 1 8 := by
  unfold tagOk
  rw [Bool.eq_iff_iff, decide_eq_true_eq, btw_iff]
  exact ⟨fun q => by omega, fun q => ⟨h, by omega⟩⟩
end Go.Proofs.Ytoigkpkafgjeaaa
set_option linter.unusedSimpArgs false
set_option linter.unusedVariables false
set_option maxRecDepth 100000
set_option maxHeartbeats 4000000
namespace Go.Proofs.Ytoigkpkafgjeaaa
open Go.ChangeShapes Go.WideShapes Go.ChangeAt Go.RowKit Go.Joins Go.Deep
open GoRep (rep bulk)

theorem b_s_l1In (n : Int) (lo : Int) (hi : Int) : BCalls Try.prog 48 [.c (.int .i64 n), .c (.int .i64 lo), .c (.int .i64 hi)] (.c (.bool (btw n lo hi))) [] := by
  refine bc0 [] [] [] [] L0 Try.func48 (fun hwf => ?_)
  refine Eq.mpr (β := (True ∧ (True ∧ (True ∧ (True ∧ (True ∧ (bif (geI n lo) then (True ∧ (True ∧ (True ∧ (True ∧ (True ∧ (rB (leI n hi) (btw n lo hi))))))) else (True ∧ (True ∧ (rB false (btw n lo hi))))))))))) (by kernel_rfl) ?_
  simp only [SI2A, eq_self]
  repeat' (first | apply And.intro | intro _)
  all_goals first | trivial | omega | (simp [btw]; omega) | (rw [Bool.eq_iff_iff]; simp [btw, leI_true]; omega)
def e_s_l1In : Entry Try.prog := ⟨48, [.v tyInt, .v tyInt, .v tyInt], fun x => True, fun x => .c (.bool (btw x.1 x.2.1 x.2.2.1)), fun _ => [], fun x hx => b_s_l1In x.1 x.2.1 x.2.2.1, Try.call48⟩
theorem b_s_l1Min (a : Int) (b : Int) : BCalls Try.prog 26 [.c (.int .i64 a), .c (.int .i64 b)] (.c (.int .i64 (min a b))) [] := by
  refine bc0 [] [] [] [] L0 Try.func26 (fun hwf => ?_)
  refine Eq.mpr (β := (True ∧ (True ∧ (True ∧ (True ∧ (bif (ltI a b) then (True ∧ (True ∧ (rI a (min a b)))) else (True ∧ (True ∧ (rI b (min a b)))))))))) (by kernel_rfl) ?_
  simp only [SI2A, eq_self]
  repeat' (first | apply And.intro | intro _)
  all_goals first | trivial | omega
def e_s_l1Min : Entry Try.prog := ⟨26, [.v tyInt, .v tyInt], fun x => True, fun x => .c (.int .i64 (min x.1 x.2.1)), fun _ => [], fun x hx => b_s_l1Min x.1 x.2.1, Try.call26⟩
theorem b_s_l1Max (a : Int) (b : Int) : BCalls Try.prog 25 [.c (.int .i64 a), .c (.int .i64 b)] (.c (.int .i64 (max a b))) [] := by
  refine bc0 [] [] [] [] L0 Try.func25 (fun hwf => ?_)
  refine Eq.mpr (β := (True ∧ (True ∧ (True ∧ (True ∧ (bif (gtI a b) then (True ∧ (True ∧ (rI a (max a b)))) else (True ∧ (True ∧ (rI b (max a b)))))))))) (by kernel_rfl) ?_
  simp only [SI2A, eq_self]
  repeat' (first | apply And.intro | intro _)
  all_goals first | trivial | omega
def e_s_l1Max : Entry Try.prog := ⟨25, [.v tyInt, .v tyInt], fun x => True, fun x => .c (.int .i64 (max x.1 x.2.1)), fun _ => [], fun x hx => b_s_l1Max x.1 x.2.1, Try.call25⟩
def L_s_NameOk (s : ByteArray) : Nat → List AV → Mem → LoopA
  | 2, tm, M => ⟨Nat, fun y => (anyR (setA tm [(2, .any), (3, .c (.int .i64 ((y : Nat) : Int)))]) 4 36, M), fun y => (y ≤ ByteArray.size s ∧ ∀ j, j < y → ¬ nmBad s j), fun y => (ByteArray.size s - y)⟩
  | _, _, _ => ⟨Unit, fun _ => ([], []), fun _ => False, fun _ => 0⟩
def k0ngt5j (s : ByteArray) (y0 : Nat) : Prop := (T3 (∃ y0' : Nat, (y0' ≤ ByteArray.size s ∧ ∀ j, j < y0' → ¬ nmBad s j) ∧ (ByteArray.size s - y0') < (ByteArray.size s - y0) ∧ ((lxs [.c (.str s), .tp []] (True ∧ leV (.c (.int .i64 (IntKind.wrap .i64 (((y0 : Nat) : Int) + 1)))) (.c (.int .i64 ((y0' : Nat) : Int))) ∧ TN 36 (lxs [.tp [], .tp [], .tp []] True))) ∧ (True) ∧ true = true)))
def k1ngt5j (y0 : Nat) (s : ByteArray) : Prop := ((0 : Int) ≤ ((y0 : Nat) : Int) ∧ (((y0 : Nat) : Int) : Int) < ((ByteArray.size s : Nat) : Int))
theorem b_s_NameOk (s : ByteArray) : BCalls Try.prog 75 [.c (.str s)] (.c (.bool (nameOk s))) [] := by
  refine bc0 [e_s_l1In] [] [] [] (L_s_NameOk s) Try.func75 (fun hwf => ?_)
  refine Eq.mpr (β := (T2 ((∃ q : Nat, (q ≤ ByteArray.size s ∧ ∀ j, j < q → ¬ nmBad s j) ∧ ((lxs [.c (.str s), .tp []] (True ∧ leV (.c (.int .i64 0)) (.c (.int .i64 ((q : Nat) : Int))) ∧ TN 36 (lxs [.tp [], .tp [], .tp []] True))) ∧ (True) ∧ true = true)) ∧ ∀ y0 : Nat, (y0 ≤ ByteArray.size s ∧ ∀ j, j < y0 → ¬ nmBad s j) → (T4 (bif (ltI ((y0 : Nat) : Int) ((ByteArray.size s : Nat) : Int)) then (T2 ((k1ngt5j y0 s) ∧ (True ∧ (bif (eqI (byteAt s (Int.toNat ((y0 : Nat) : Int))) 47) then (T3 (bif (eqI ((y0 : Nat) : Int) 0) then (T4 (rB false (nameOk s))) else (T7 (bif (eqI ((y0 : Nat) : Int) (IntKind.wrap .i64 (((ByteArray.size s : Nat) : Int) - 1))) then (T2 (rB false (nameOk s))) else (T3 (((0 : Int) ≤ (IntKind.wrap .i64 (((y0 : Nat) : Int) - 1)) ∧ ((IntKind.wrap .i64 (((y0 : Nat) : Int) - 1)) : Int) < ((ByteArray.size s : Nat) : Int)) ∧ (T2 (bif (eqI (byteAt s (Int.toNat (IntKind.wrap .i64 (((y0 : Nat) : Int) - 1)))) 47) then (True ∧ (rB false (nameOk s))) else (k0ngt5j s y0))))))))) else (T2 ((k1ngt5j y0 s) ∧ (T2 (bif (ltI (byteAt s (Int.toNat ((y0 : Nat) : Int))) 97) then (T2 (rB false (nameOk s))) else (T2 ((k1ngt5j y0 s) ∧ (T2 (bif (gtI (byteAt s (Int.toNat ((y0 : Nat) : Int))) 122) then (True ∧ (rB false (nameOk s))) else (k0ngt5j s y0))))))))))))) else (T2 ((True ∧ true = true) ∧ (True ∧ (rB (btw ((ByteArray.size s : Nat) : Int) 1 12) (nameOk s)))))))))) (by kernel_rfl) ?_
  unfold k1ngt5j k0ngt5j T2 T3 T4 T7
  have hm : s.size ≤ maxLen := hwf.1
  unfold maxLen at hm
  have e2 : IntKind.wrap .i64 (((ByteArray.size s : Nat) : Int) - 1) = ((ByteArray.size s : Nat) : Int) - 1 := wrapA (by omega) (by omega)
  simp only [SI2A, eq_self]
  refine ⟨⟨0, ⟨Nat.zero_le _, fun j hj => absurd hj (Nat.not_lt_zero j)⟩, rfl⟩, fun k hk => ⟨fun hlt => ?_, fun hge => ?_⟩⟩
  · have hb := byteAt_b s k
    have e3 : IntKind.wrap .i64 (((k : Nat) : Int) - 1) = ((k : Nat) : Int) - 1 := wrapA (by omega) (by omega)
    have e4 : 1 ≤ k → Int.toNat (((k : Nat) : Int) - 1) = k - 1 := fun h => by omega
    simp only [e2, e3]
    repeat' (first | apply And.intro | intro _)
    all_goals first
      | trivial
      | omega
      | exact (nameOk_no (i := k) (by omega) (by unfold nmBad; first | (right; omega) | (left; refine ⟨by assumption, ?_⟩; first | (left; omega) | (right; left; omega) | (right; right; rw [← e4 (by omega)]; assumption)))).symm
      | exact ⟨k + 1, ⟨by omega, fun j hj => if h : j < k then hk.2 j h else by obtain rfl : j = k := (by omega); unfold nmBad; first | (rintro (⟨q, q2⟩ | ⟨q, q2⟩) <;> omega) | (rw [e4 (by omega)] at *; rintro (⟨q, rfl | q2 | q2⟩ | ⟨q, q2⟩) <;> first | omega | contradiction)⟩, by omega, wrapN (by unfold maxLen; omega)⟩
  · obtain rfl : k = s.size := by omega
    first | exact (nameOk_all hk.2).symm | exact ⟨trivial, (nameOk_all hk.2).symm⟩
def e_s_NameOk : Entry Try.prog := ⟨75, [.v tyStr], fun x => True, fun x => .c (.bool (nameOk x.1)), fun _ => [], fun x hx => b_s_NameOk x.1, Try.call75⟩
end Go.Proofs.Ytoigkpkafgjeaaa
