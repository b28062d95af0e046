/-
  Numbers in decimal, ends of lines, literals: plain facts.
  Plain: no program. No condition.
-/
import Derived.Test.YtoigkpkafgjeaaaGreatDoorOBmTy
import Derived.Lib.ItoaNum
import Derived.Lib.AtoiAll
import Derived.Lib.LastIndexByte
import Derived.Lib.Index
import Derived.Lib.IndexMore
import Derived.Lib.Strings
set_option linter.unusedSimpArgs false
set_option linter.unusedVariables false
namespace Go.Proofs.YtoigkpkafgjeaaaGreatDoor
theorem dec_len {u k : Nat} (h : u < 10 ^ k) (hk : 0 < k) : (Lib.decDigits u).length ≤ k := by
  induction k generalizing u with
  | zero => omega
  | succ k ih =>
    rw [Lib.decDigits]
    split
    · simp
    · rename_i h1
      rw [List.length_append]
      rcases Nat.eq_zero_or_pos k with rfl | h2
      · simp at h; omega
      · have := ih (u := u / 10) (by rw [Nat.pow_succ] at h; omega) h2
        simp
        omega
theorem ext_list (s : ByteArray) (a b : Nat) : (ByteArray.extract s a b).data.toList = (s.data.toList.drop a).take (b - a) := by
  rw [ByteArray.data_extract, Array.toList_extract, List.extract_eq_take_drop]
theorem toList_size (s : ByteArray) : s.data.toList.length = s.size := Array.length_toList
/-- the two bytes of a line's end stand at i -/
def two (s : ByteArray) (i : Nat) : Prop := i + 1 < s.size ∧ byteAt s i = 13 ∧ byteAt s (i + 1) = 10
instance (s : ByteArray) (i : Nat) : Decidable (two s i) := by unfold two; infer_instance
theorem w8 {x : Int} (h0 : 0 ≤ x) (h1 : x ≤ 255) : IntKind.wrap .u8 x = x := by
  have hk : IntKind.u8.min = 0 ∧ IntKind.u8.max = 255 := by decide
  unfold IntKind.wrap
  simp [IntKind.bits, IntKind.signed]
  omega
theorem w64i {x : Int} (h0 : -9223372036854775808 ≤ x) (h1 : x ≤ 9223372036854775807) : IntKind.wrap .i64 x = x := IntWalk.i64_in _ (by omega)
theorem bytes_cat (l : List Int) (o : ByteArray) : (bytesOf l ++ o).data.toList = (bytesOf l).data.toList ++ o.data.toList := by
  rw [ByteArray.data_append, Array.toList_append]
/-- digits of n: those of k, and o behind them -/
def digI (k : Nat) (o : ByteArray) (n : Int) : Prop := (¬ n = 0 ∧ k ≤ n.toNat) ∧ Lib.decDigits n.toNat = (if k = 0 then [] else Lib.decDigits k) ++ o.data.toList
theorem digI_init {n : Int} (h0 : 0 ≤ n) (h : ¬ n = 0) : digI n.toNat (⟨#[]⟩ : ByteArray) n := ⟨⟨h, Nat.le_refl _⟩, by rw [if_neg (by omega)]; simp⟩
theorem dec_split {k : Nat} (hk : ¬ k = 0) : Lib.decDigits k = (if k / 10 = 0 then [] else Lib.decDigits (k / 10)) ++ [UInt8.ofNat (48 + k % 10)] := by
  rw [Lib.decDigits]
  split
  · rename_i h
    rw [if_pos (by omega), show k % 10 = k from by omega]
    rfl
  · rw [if_neg (by omega)]
theorem digI_step {k : Nat} {o : ByteArray} {n : Int} (hk : ¬ k = 0) (h : digI k o n) : digI (k / 10) (bytesOf [((48 + k % 10 : Nat) : Int)] ++ o) n := by
  refine ⟨⟨h.1.1, by have := h.1.2; omega⟩, ?_⟩
  rw [h.2, if_neg hk, dec_split hk, bytes_cat, List.append_assoc]
  rfl
theorem dig_next {y : Nat × ByteArray} {n : Int} (hb : n ≤ 9223372036854775807) (h0 : 0 ≤ n) (hk : ¬ y.1 = 0) (h : digI y.1 y.2 n) :
    ∃ y' : Nat × ByteArray, digI y'.1 y'.2 n ∧ y'.1 < y.1 ∧ IntKind.wrap .i64 ((y.1 / 10 : Nat) : Int) = ((y'.1 : Nat) : Int) ∧ bytesOf [((48 + y.1 % 10 : Nat) : Int)] ++ y.2 = y'.2 :=
  ⟨(y.1 / 10, bytesOf [((48 + y.1 % 10 : Nat) : Int)] ++ y.2), digI_step hk h, by show y.1 / 10 < y.1; omega, w64i (by omega) (by have := h.1.2; omega), rfl⟩
def nonneg (n : Int) : Prop := 0 ≤ n
theorem digI_end {o : ByteArray} {n : Int} (h0 : 0 ≤ n) (h : digI 0 o n) : o = (⟨(Lib.itoa n).toArray⟩ : ByteArray) := by
  have h1 := h.2
  rw [if_pos rfl, List.nil_append] at h1
  apply ByteArray.ext
  unfold Lib.itoa
  rw [if_neg (by omega), h1]
theorem digI_size {k : Nat} {o : ByteArray} {n : Int} (hb : n ≤ 9223372036854775807) (h0 : 0 ≤ n) (h : digI k o n) : o.size ≤ 20 := by
  have e : (10 : Nat) ^ 19 = 10000000000000000000 := by decide
  have h1 := dec_len (u := n.toNat) (k := 19) (by omega) (by decide)
  have h2 := congrArg List.length h.2
  rw [List.length_append, toList_size] at h2
  omega
theorem dig_zero {n : Int} (h : n = 0) : (⟨#[48]⟩ : ByteArray) = ⟨(Lib.itoa n).toArray⟩ := by
  subst h
  apply ByteArray.ext
  show _ = (Lib.itoa 0).toArray
  unfold Lib.itoa
  rw [if_neg (by decide), Int.toNat_zero, Lib.decDigits_one (by decide)]
  rfl
theorem i64_b {x : Int} (h : (Lit.int .i64 x).wf = true) : -9223372036854775808 ≤ x ∧ x ≤ 9223372036854775807 := by
  rw [lit_wf] at h
  have hmm : IntKind.i64.min = -9223372036854775808 ∧ IntKind.i64.max = 9223372036854775807 := by decide
  omega
theorem itoa_len {n : Int} (h : -9223372036854775808 ≤ n ∧ n ≤ 9223372036854775807) : (Lib.itoa n).length ≤ 20 := by
  have e : (10 : Nat) ^ 19 = 10000000000000000000 := by decide
  unfold Lib.itoa
  split
  · have := dec_len (u := n.natAbs) (k := 19) (by omega) (by decide)
    rw [List.length_cons]
    omega
  · have := dec_len (u := n.toNat) (k := 19) (by omega) (by decide)
    omega
theorem itoa_size (n : Int) (h : -9223372036854775808 ≤ n ∧ n ≤ 9223372036854775807) : (⟨(Lib.itoa n).toArray⟩ : ByteArray).size ≤ maxLen := by
  have h1 := itoa_len h
  show (Lib.itoa n).toArray.size ≤ _
  rw [List.size_toArray]
  unfold maxLen
  omega
end Go.Proofs.YtoigkpkafgjeaaaGreatDoor
