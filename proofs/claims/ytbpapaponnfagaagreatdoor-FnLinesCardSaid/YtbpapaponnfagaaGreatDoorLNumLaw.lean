/-
  Numbers in decimal, ends of lines, literals: plain facts.
  Plain: no program. No condition.
-/
import Derived.Test.YtbpapaponnfagaaGreatDoorLBmTy
import Derived.Lib.ItoaNum
import Derived.Lib.AtoiAll
import Derived.Lib.LastIndexByte
import Derived.Lib.Index
import Derived.Lib.IndexMore
import Derived.Lib.Strings
set_option linter.unusedSimpArgs false
set_option linter.unusedVariables false
namespace Go.Proofs.YtbpapaponnfagaaGreatDoor
/-- what digits spell behind an accumulator -/
def valD : Nat → List UInt8 → Nat
  | acc, [] => acc
  | acc, b :: r => valD (acc * 10 + (b.toNat - 48)) r
theorem valD_snoc : ∀ (l : List UInt8) (acc : Nat) (b : UInt8), valD acc (l ++ [b]) = valD acc l * 10 + (b.toNat - 48)
  | [], _, _ => rfl
  | x :: l, acc, b => valD_snoc l _ b
def isD (b : UInt8) : Prop := 48 ≤ b.toNat ∧ b.toNat ≤ 57
theorem valD_lt : ∀ (l : List UInt8) (acc k : Nat), acc < 10 ^ k → (∀ b ∈ l, isD b) → valD acc l < 10 ^ (k + l.length)
  | [], acc, k, h, _ => h
  | b :: l, acc, k, h, hd => by
    have h1 := hd b (by simp)
    have h2 := valD_lt l (acc * 10 + (b.toNat - 48)) (k + 1) (by have := h1.2; rw [Nat.pow_succ]; omega) (fun c hc => hd c (by simp [hc]))
    unfold valD
    rw [List.length_cons, show k + (l.length + 1) = k + 1 + l.length from by omega]
    exact h2
theorem dig_toNat {u : Nat} (h : u < 10) : (UInt8.ofNat (48 + u)).toNat = 48 + u := by
  rw [UInt8.toNat_ofNat']
  omega
theorem dec_dig (u : Nat) : ∀ b ∈ Lib.decDigits u, isD b := by
  induction u using Nat.strongRecOn with
  | _ u ih =>
    rw [Lib.decDigits]
    split
    · rename_i h
      intro b hb
      obtain rfl := List.mem_singleton.1 hb
      unfold isD
      rw [dig_toNat h]
      omega
    · rename_i h
      intro b hb
      rcases List.mem_append.1 hb with hb | hb
      · exact ih (u / 10) (by omega) b hb
      · obtain rfl := List.mem_singleton.1 hb
        unfold isD
        rw [dig_toNat (by omega)]
        omega
theorem dec_val (u : Nat) : valD 0 (Lib.decDigits u) = u := by
  induction u using Nat.strongRecOn with
  | _ u ih =>
    rw [Lib.decDigits]
    split
    · rename_i h
      show 0 * 10 + ((UInt8.ofNat (48 + u)).toNat - 48) = u
      rw [dig_toNat h]
      omega
    · rename_i h
      rw [valD_snoc, ih (u / 10) (by omega), dig_toNat (by omega)]
      omega
theorem dec_ne (u : Nat) : Lib.decDigits u ≠ [] := by
  rw [Lib.decDigits]
  split
  · simp
  · simp
theorem dec_len {u k : Nat} (h : u < 10 ^ k) (hk : 0 < k) : (Lib.decDigits u).length ≤ k := by
  induction k generalizing u with
  | zero => omega
  | succ k ih =>
    rw [Lib.decDigits]
    split
    · simp
    · rename_i h1
      rw [List.length_append]
      rcases Nat.eq_zero_or_pos k with rfl | h2
      · simp at h; omega
      · have := ih (u := u / 10) (by rw [Nat.pow_succ] at h; omega) h2
        simp
        omega
theorem parse_snoc : ∀ (l : List UInt8) (acc v : Nat) (b : UInt8), Lib.parseUint10 acc l = .ok v → isD b → v * 10 + (b.toNat - 48) < 18446744073709551616 → Lib.parseUint10 acc (l ++ [b]) = .ok (v * 10 + (b.toNat - 48))
  | [], acc, v, b, h, hb, hv => by
    simp only [Lib.parseUint10] at h
    injection h with h
    subst h
    show Lib.parseUint10 acc [b] = _
    unfold Lib.parseUint10
    rw [if_pos (show 48 ≤ b.toNat ∧ b.toNat ≤ 57 from hb), if_neg (by omega), if_neg (by omega)]
    rfl
  | x :: l, acc, v, b, h, hb, hv => by
    show Lib.parseUint10 acc (x :: (l ++ [b])) = _
    unfold Lib.parseUint10 at h ⊢
    split at h
    · rename_i h1
      rw [if_pos h1]
      split at h
      · cases h
      · rename_i h2
        rw [if_neg h2]
        split at h
        · cases h
        · rename_i h3
          rw [if_neg h3]
          exact parse_snoc l _ v b h hb hv
    · cases h
theorem parse_dec {u : Nat} (h : u < 18446744073709551616) : Lib.parseUint10 0 (Lib.decDigits u) = .ok u := by
  induction u using Nat.strongRecOn with
  | _ u ih =>
    rw [Lib.decDigits]
    split
    · rename_i h1
      have h2 := parse_snoc [] 0 0 (UInt8.ofNat (48 + u)) rfl (by unfold isD; rw [dig_toNat h1]; omega) (by rw [dig_toNat h1]; omega)
      rw [List.nil_append] at h2
      rw [h2, dig_toNat h1]
      congr 1
      omega
    · rename_i h1
      have h2 := parse_snoc _ 0 _ (UInt8.ofNat (48 + u % 10)) (ih (u / 10) (by omega) (by omega)) (by unfold isD; rw [dig_toNat (by omega)]; omega) (by rw [dig_toNat (by omega)]; omega)
      rw [h2, dig_toNat (by omega)]
      congr 1
      omega
theorem atoi_dec {u : Nat} (h : u < 9223372036854775808) : Lib.atoiAll (Lib.decDigits u) = .ok (u : Int) := by
  have hp := parse_dec (u := u) (by omega)
  have hd := dec_dig u
  have hn := dec_ne u
  cases hl : Lib.decDigits u with
  | nil => exact absurd hl hn
  | cons c r =>
    rw [hl] at hp hd
    have hc := hd c (by simp)
    unfold isD at hc
    unfold Lib.atoiAll
    have e1 : ¬ c.toNat = 45 := by omega
    have e2 : ¬ (c.toNat = 43 ∨ c.toNat = 45) := by omega
    have e3 : Lib.parseMag (c :: r) = .ok u := by
      unfold Lib.parseMag
      rw [if_neg (by simp), hp]
    simp only [if_neg e2, e3]
    rw [if_neg (by omega), if_neg (by omega), if_neg e1]
/-- a number as Number reads it -/
def numB (t : ByteArray) : Bool := decide (Lib.decDigits (valD 0 t.data.toList) = t.data.toList ∧ valD 0 t.data.toList ≤ 999999999)
def numV (t : ByteArray) : Int := if numB t = true then ((valD 0 t.data.toList : Nat) : Int) else 0
theorem itoa_nat (n : Nat) : Lib.itoa (n : Int) = Lib.decDigits n := by
  unfold Lib.itoa
  rw [if_neg (by omega), Int.toNat_natCast]
theorem num_of {t : ByteArray} {n : Int} (h0 : 0 ≤ n) (h1 : n ≤ 999999999) (h : Lib.itoa n = t.data.toList) : numB t = true ∧ numV t = n := by
  obtain ⟨k, rfl⟩ : ∃ k : Nat, n = (k : Int) := ⟨n.toNat, by omega⟩
  rw [itoa_nat] at h
  have hv : valD 0 t.data.toList = k := by rw [← h, dec_val]
  have hb : numB t = true := decide_eq_true ⟨by rw [hv, h], by omega⟩
  refine ⟨hb, ?_⟩
  unfold numV
  rw [if_pos hb, hv]
theorem num_iff {t : ByteArray} (h : numB t = true) : 0 ≤ numV t ∧ numV t ≤ 999999999 ∧ Lib.itoa (numV t) = t.data.toList ∧ Lib.atoiAll t.data.toList = .ok (numV t) := by
  have h1 := of_decide_eq_true h
  unfold numV
  rw [if_pos h]
  refine ⟨by omega, by omega, by rw [itoa_nat]; exact h1.1, ?_⟩
  conv => lhs; rw [← h1.1]
  exact atoi_dec (by omega)
/-- the reference's reading: nine digits at most, and nothing else spells the number -/
theorem num_spec {t : ByteArray} (h1 : 1 ≤ t.size) (h2 : t.size ≤ 9) (hd : ∀ b ∈ t.data.toList, isD b) (h : Lib.decDigits (valD 0 t.data.toList) = t.data.toList) : numB t = true ∧ numV t = ((valD 0 t.data.toList : Nat) : Int) := by
  have hl : t.data.toList.length = t.size := Array.length_toList
  have h3 := valD_lt t.data.toList 0 0 (by decide) hd
  have h4 : valD 0 t.data.toList < 10 ^ 9 := Nat.lt_of_lt_of_le h3 (Nat.pow_le_pow_right (by decide) (by omega))
  have e : (10 : Nat) ^ 9 = 1000000000 := by decide
  have hb : numB t = true := decide_eq_true ⟨h, by omega⟩
  exact ⟨hb, by unfold numV; rw [if_pos hb]⟩
theorem num_facts {t : ByteArray} (h : numB t = true) : 1 ≤ t.size ∧ t.size ≤ 9 ∧ (∀ b ∈ t.data.toList, isD b) ∧ Lib.decDigits (valD 0 t.data.toList) = t.data.toList := by
  obtain ⟨h1, h2⟩ := of_decide_eq_true h
  have hl : t.data.toList.length = t.size := Array.length_toList
  have e : (10 : Nat) ^ 9 = 1000000000 := by decide
  refine ⟨?_, ?_, ?_, h1⟩
  · rw [← hl, ← h1]
    exact List.length_pos_iff.2 (dec_ne _)
  · rw [← hl, ← h1]
    exact dec_len (by omega) (by decide)
  · rw [← h1]
    exact dec_dig _
theorem ext_list (s : ByteArray) (a b : Nat) : (ByteArray.extract s a b).data.toList = (s.data.toList.drop a).take (b - a) := by
  rw [ByteArray.data_extract, Array.toList_extract, List.extract_eq_take_drop]
theorem ext_size {s : ByteArray} {a b : Nat} (h : b ≤ s.size) : (ByteArray.extract s a b).size = b - a := by
  rw [ByteArray.size_extract]
  omega
theorem toList_size (s : ByteArray) : s.data.toList.length = s.size := Array.length_toList
theorem byteAt_iff {s : ByteArray} {n : Nat} {c : UInt8} (h : n < s.size) : byteAt s n = (c.toNat : Nat) ↔ s.data.toList[n]? = some c := by
  unfold byteAt
  rw [List.getD_eq_getElem?_getD, List.getElem?_eq_getElem (by rw [toList_size]; exact h)]
  simp only [Option.getD_some, Option.some.injEq]
  constructor
  · intro h1
    exact UInt8.toNat_inj.1 (by omega)
  · intro h1
    rw [h1]
/-- the two bytes of a line's end stand at i -/
def two (s : ByteArray) (i : Nat) : Prop := i + 1 < s.size ∧ byteAt s i = 13 ∧ byteAt s (i + 1) = 10
instance (s : ByteArray) (i : Nat) : Decidable (two s i) := by unfold two; infer_instance
theorem occ2 {l : List UInt8} : [13, 10].isPrefixOf l = true ↔ l[0]? = some 13 ∧ l[1]? = some 10 := by
  match l with
  | [] => simp
  | [a] => simp
  | a :: b :: r => simp [List.isPrefixOf]; constructor <;> (rintro ⟨h1, h2⟩; exact ⟨h1.symm, h2.symm⟩)
theorem occ_twoI {s : ByteArray} {a b i : Nat} (hb : b ≤ s.size) : Lib.occAt (ByteArray.extract s a b).data.toList [13, 10] i = true ↔ a + i + 1 < b ∧ two s (a + i) := by
  unfold Lib.occAt
  rw [occ2, ext_list]
  simp only [List.getElem?_drop, List.getElem?_take]
  constructor
  · rintro ⟨h1, h2⟩
    split at h1
    · split at h2
      · rename_i q1 q2
        rw [show a + (i + 0) = a + i from rfl] at h1
        have l1 : a + i < s.size := by omega
        refine ⟨by omega, by omega, (byteAt_iff (c := 13) l1).2 h1, (byteAt_iff (c := 10) (by omega)).2 (by rw [show a + (i + 1) = a + i + 1 from rfl] at h2; exact h2)⟩
      · cases h2
    · cases h1
  · rintro ⟨h0, h1, h2, h3⟩
    rw [if_pos (by omega), if_pos (by omega)]
    exact ⟨(byteAt_iff (c := 13) (by omega)).1 h2, (byteAt_iff (c := 10) h1).1 h3⟩
/-- the place of the first line's end from a on; -1: none -/
def twoI (s : ByteArray) (a : Nat) : Int := if Lib.index (ByteArray.extract s a s.size).data.toList [13, 10] < 0 then -1 else Lib.index (ByteArray.extract s a s.size).data.toList [13, 10] + (a : Int)
theorem occ_false {s : ByteArray} {a i : Nat} (h : ¬ two s (a + i)) : Lib.occAt (ByteArray.extract s a s.size).data.toList [13, 10] i = false := by
  rw [Bool.eq_false_iff]
  intro q
  exact h ((occ_twoI (Nat.le_refl _)).1 q).2
theorem twoI_at {s : ByteArray} {a i : Nat} (ha : a ≤ i) (h : two s i) (hn : ∀ j, a ≤ j → j < i → ¬ two s j) : twoI s a = (i : Int) := by
  have e : Lib.index (ByteArray.extract s a s.size).data.toList [13, 10] = ((i - a : Nat) : Int) :=
    Lib.index_first (by rw [toList_size, ext_size (Nat.le_refl _)]; have := h.1; omega) ((occ_twoI (Nat.le_refl _)).2 (by rw [show a + (i - a) = i from by omega]; exact ⟨h.1, h⟩)) (fun j hj => occ_false (hn (a + j) (by omega) (by omega)))
  unfold twoI
  rw [e, if_neg (by omega)]
  omega
theorem twoI_none {s : ByteArray} {a : Nat} (hn : ∀ j, a ≤ j → ¬ two s j) : twoI s a = -1 := by
  have e : Lib.index (ByteArray.extract s a s.size).data.toList [13, 10] = -1 := Lib.index_none (fun j _ => occ_false (hn (a + j) (by omega)))
  unfold twoI
  rw [e]
  rfl
theorem twoI_cases (s : ByteArray) (a : Nat) : (twoI s a = -1 ∧ ∀ j, a ≤ j → ¬ two s j) ∨ ∃ i : Nat, twoI s a = (i : Int) ∧ a ≤ i ∧ two s i ∧ ∀ j, a ≤ j → j < i → ¬ two s j := by
  by_cases h : ∃ i, a ≤ i ∧ two s i
  · obtain ⟨i, h1, h2⟩ := h
    have : ∃ i, (a ≤ i ∧ two s i) ∧ ∀ j, j < i → ¬ (a ≤ j ∧ two s j) := by
      induction i using Nat.strongRecOn with
      | _ i ih =>
        by_cases q : ∃ j, j < i ∧ (a ≤ j ∧ two s j)
        · obtain ⟨j, q1, q2, q3⟩ := q
          exact ih j q1 q2 q3
        · exact ⟨i, ⟨h1, h2⟩, fun j hj hq => q ⟨j, hj, hq⟩⟩
    obtain ⟨k, ⟨k1, k2⟩, k3⟩ := this
    exact .inr ⟨k, twoI_at k1 k2 (fun j h1 h2 h3 => k3 j h2 ⟨h1, h3⟩), k1, k2, fun j h1 h2 h3 => k3 j h2 ⟨h1, h3⟩⟩
  · exact .inl ⟨twoI_none (fun j h1 h2 => h ⟨j, h1, h2⟩), fun j h1 h2 => h ⟨j, h1, h2⟩⟩
theorem twoI_ge (s : ByteArray) (a : Nat) : twoI s a = -1 ∨ ((a : Int) ≤ twoI s a ∧ twoI s a + 2 ≤ (s.size : Int)) := by
  rcases twoI_cases s a with ⟨h, _⟩ | ⟨i, h, h1, h2, _⟩
  · exact .inl h
  · have := h2.1
    exact .inr (by omega)
/-- strings.Index behind a place, from its start -/
theorem index_twoI (s : ByteArray) (a : Nat) : Lib.index (ByteArray.extract s a s.size).data.toList [13, 10] = if twoI s a < 0 then -1 else twoI s a - (a : Int) := by
  have h := Lib.index_ge (ByteArray.extract s a s.size).data.toList [13, 10]
  unfold twoI
  by_cases h1 : Lib.index (ByteArray.extract s a s.size).data.toList [13, 10] < 0
  · simp only [if_pos h1]
    rw [if_pos (by decide)]
    omega
  · simp only [if_neg h1]
    rw [if_neg (by omega)]
    omega
/-- strings.LastIndexByte, by its places -/
theorem last_cases (s : ByteArray) (c : UInt8) : (Lib.lastIndexByte s (c.toNat : Nat) = -1 ∧ ∀ j, j < s.size → byteAt s j ≠ (c.toNat : Nat)) ∨ ∃ i : Nat, i < s.size ∧ Lib.lastIndexByte s (c.toNat : Nat) = (i : Int) ∧ byteAt s i = (c.toNat : Nat) ∧ ∀ j, i < j → j < s.size → byteAt s j ≠ (c.toNat : Nat) := by
  have e : ∀ j, j < s.size → ((s.data[j]!).toNat : Int) = byteAt s j := fun j hj => by
    unfold byteAt
    rw [List.getD_eq_getElem?_getD, List.getElem?_eq_getElem (by rw [toList_size]; exact hj), getElem!_pos s.data j hj]
    simp
  rcases Lib.lastIdx_spec s (c.toNat : Nat) s.size with ⟨h1, h2⟩ | ⟨i, h0, h1, h2, h3⟩
  · exact .inl ⟨h1, fun j hj => by rw [← e j hj]; exact h2 j hj⟩
  · exact .inr ⟨i, h0, h1, by rw [← e i h0]; exact h2, fun j h4 h5 => by rw [← e j h5]; exact h3 j h4 h5⟩
/-- does the text end with this byte? -/
def endsB (t : ByteArray) (c : Int) : Bool := decide (1 ≤ t.size ∧ byteAt t (t.size - 1) = c)
theorem suffix_one {t : ByteArray} {c : UInt8} : Lib.hasSuffix t.data.toList [c] = endsB t (c.toNat : Nat) := by
  rw [Bool.eq_iff_iff]
  unfold Lib.hasSuffix endsB
  rw [decide_eq_true_iff, List.isSuffixOf_iff_suffix]
  constructor
  · rintro ⟨p, hp⟩
    have hl : p.length + 1 = t.size := by rw [← toList_size, ← hp]; simp
    refine ⟨by omega, (byteAt_iff (by omega)).2 ?_⟩
    rw [← hp, List.getElem?_append_right (by omega), show t.size - 1 - p.length = 0 from by omega]
    rfl
  · rintro ⟨h1, h2⟩
    have h3 := (byteAt_iff (c := c) (n := t.size - 1) (by omega)).1 h2
    refine ⟨t.data.toList.take (t.size - 1), ?_⟩
    have h4 := List.take_add_one (l := t.data.toList) (i := t.size - 1)
    rw [h3, show t.size - 1 + 1 = t.size from by omega, List.take_of_length_le (by rw [toList_size]; exact Nat.le_refl _)] at h4
    exact h4.symm
theorem occ1 {l : List UInt8} {c : UInt8} {i : Nat} : Lib.occAt l [c] i = true ↔ l[i]? = some c := by
  unfold Lib.occAt
  have h : ∀ m : List UInt8, [c].isPrefixOf m = true ↔ m[0]? = some c := fun m => by
    match m with
    | [] => simp
    | a :: r => simp [List.isPrefixOf]; exact eq_comm
  rw [h, List.getElem?_drop]
  rfl
theorem index_last {t : ByteArray} {c : UInt8} : decide (0 ≤ Lib.index t.data.toList [c]) = decide (0 ≤ Lib.lastIndexByte t (c.toNat : Nat)) := by
  rw [decide_eq_decide]
  have hl := last_cases t c
  rcases Lib.index_spec t.data.toList [c] with ⟨h1, h2⟩ | ⟨i, h1, h2, h3, _⟩
  · rw [h1]
    rcases hl with ⟨h4, _⟩ | ⟨j, h4, h5, h6, _⟩
    · rw [h4]
    · have h7 := (byteAt_iff h4).1 h6
      have h8 := h2 j (by rw [toList_size]; omega)
      rw [occ1.2 h7] at h8
      cases h8
  · have h7 := occ1.1 h3
    have hi : i < t.size := by rw [← toList_size]; exact (List.getElem?_eq_some_iff.1 h7).1
    rcases hl with ⟨_, h5⟩ | ⟨j, _, h5, _, _⟩
    · exact absurd ((byteAt_iff hi).2 h7) (h5 i hi)
    · rw [h1, h5]
      constructor <;> intro _ <;> omega
def litT (t : ByteArray) : ByteArray := ByteArray.extract t (Int.toNat (Lib.lastIndexByte t 123 + 1)) (t.size - 1)
/-- the number in braces at the end -/
def litV (t : ByteArray) : Int := if endsB t 125 = true ∧ 0 ≤ Lib.lastIndexByte t 123 ∧ numB (litT t) = true then numV (litT t) else -1
theorem litV_ge (t : ByteArray) : -1 ≤ litV t ∧ litV t ≤ 999999999 := by
  unfold litV
  split
  · rename_i h
    have := num_iff h.2.2
    omega
  · omega
/-- the end of the first line behind a -/
def lineF (s : ByteArray) (a : Nat) : Int :=
  if twoI s a < 0 then -1
  else if litV (ByteArray.extract s a (twoI s a).toNat) < 0 then twoI s a
  else if (s.size : Int) < twoI s a + 2 + litV (ByteArray.extract s a (twoI s a).toNat) then -1
  else lineF s (twoI s a + 2 + litV (ByteArray.extract s a (twoI s a).toNat)).toNat
termination_by s.size - a
decreasing_by
  have := twoI_ge s a
  omega
theorem lineF_none {s : ByteArray} {a : Nat} (h : twoI s a < 0) : lineF s a = -1 := by rw [lineF, if_pos h]
theorem lineF_here {s : ByteArray} {a : Nat} (h : ¬ twoI s a < 0) (h1 : litV (ByteArray.extract s a (twoI s a).toNat) < 0) : lineF s a = twoI s a := by rw [lineF, if_neg h, if_pos h1]
theorem lineF_out {s : ByteArray} {a : Nat} (h : ¬ twoI s a < 0) (h1 : ¬ litV (ByteArray.extract s a (twoI s a).toNat) < 0) (h2 : (s.size : Int) < twoI s a + 2 + litV (ByteArray.extract s a (twoI s a).toNat)) : lineF s a = -1 := by rw [lineF, if_neg h, if_neg h1, if_pos h2]
theorem lineF_next {s : ByteArray} {a : Nat} (h : ¬ twoI s a < 0) (h1 : ¬ litV (ByteArray.extract s a (twoI s a).toNat) < 0) (h2 : ¬ (s.size : Int) < twoI s a + 2 + litV (ByteArray.extract s a (twoI s a).toNat)) : lineF s a = lineF s (twoI s a + 2 + litV (ByteArray.extract s a (twoI s a).toNat)).toNat := by rw [lineF, if_neg h, if_neg h1, if_neg h2]
theorem w8 {x : Int} (h0 : 0 ≤ x) (h1 : x ≤ 255) : IntKind.wrap .u8 x = x := by
  have hk : IntKind.u8.min = 0 ∧ IntKind.u8.max = 255 := by decide
  unfold IntKind.wrap
  simp [IntKind.bits, IntKind.signed]
  omega
theorem w64i {x : Int} (h0 : -9223372036854775808 ≤ x) (h1 : x ≤ 9223372036854775807) : IntKind.wrap .i64 x = x := IntWalk.i64_in _ (by omega)
theorem bytes_cat (l : List Int) (o : ByteArray) : (bytesOf l ++ o).data.toList = (bytesOf l).data.toList ++ o.data.toList := by
  rw [ByteArray.data_append, Array.toList_append]
/-- digits of n: those of k, and o behind them -/
def digI (k : Nat) (o : ByteArray) (n : Int) : Prop := (¬ n = 0 ∧ k ≤ n.toNat) ∧ Lib.decDigits n.toNat = (if k = 0 then [] else Lib.decDigits k) ++ o.data.toList
theorem digI_init {n : Int} (h0 : 0 ≤ n) (h : ¬ n = 0) : digI n.toNat (⟨#[]⟩ : ByteArray) n := ⟨⟨h, Nat.le_refl _⟩, by rw [if_neg (by omega)]; simp⟩
theorem dec_split {k : Nat} (hk : ¬ k = 0) : Lib.decDigits k = (if k / 10 = 0 then [] else Lib.decDigits (k / 10)) ++ [UInt8.ofNat (48 + k % 10)] := by
  rw [Lib.decDigits]
  split
  · rename_i h
    rw [if_pos (by omega), show k % 10 = k from by omega]
    rfl
  · rw [if_neg (by omega)]
theorem digI_step {k : Nat} {o : ByteArray} {n : Int} (hk : ¬ k = 0) (h : digI k o n) : digI (k / 10) (bytesOf [((48 + k % 10 : Nat) : Int)] ++ o) n := by
  refine ⟨⟨h.1.1, by have := h.1.2; omega⟩, ?_⟩
  rw [h.2, if_neg hk, dec_split hk, bytes_cat, List.append_assoc]
  rfl
theorem dig_next {y : Nat × ByteArray} {n : Int} (hb : n ≤ 9223372036854775807) (h0 : 0 ≤ n) (hk : ¬ y.1 = 0) (h : digI y.1 y.2 n) :
    ∃ y' : Nat × ByteArray, digI y'.1 y'.2 n ∧ y'.1 < y.1 ∧ IntKind.wrap .i64 ((y.1 / 10 : Nat) : Int) = ((y'.1 : Nat) : Int) ∧ bytesOf [((48 + y.1 % 10 : Nat) : Int)] ++ y.2 = y'.2 :=
  ⟨(y.1 / 10, bytesOf [((48 + y.1 % 10 : Nat) : Int)] ++ y.2), digI_step hk h, by show y.1 / 10 < y.1; omega, w64i (by omega) (by have := h.1.2; omega), rfl⟩
def nonneg (n : Int) : Prop := 0 ≤ n
theorem digI_end {o : ByteArray} {n : Int} (h0 : 0 ≤ n) (h : digI 0 o n) : o = (⟨(Lib.itoa n).toArray⟩ : ByteArray) := by
  have h1 := h.2
  rw [if_pos rfl, List.nil_append] at h1
  apply ByteArray.ext
  unfold Lib.itoa
  rw [if_neg (by omega), h1]
theorem digI_size {k : Nat} {o : ByteArray} {n : Int} (hb : n ≤ 9223372036854775807) (h0 : 0 ≤ n) (h : digI k o n) : o.size ≤ 20 := by
  have e : (10 : Nat) ^ 19 = 10000000000000000000 := by decide
  have h1 := dec_len (u := n.toNat) (k := 19) (by omega) (by decide)
  have h2 := congrArg List.length h.2
  rw [List.length_append, toList_size] at h2
  omega
theorem dig_zero {n : Int} (h : n = 0) : (⟨#[48]⟩ : ByteArray) = ⟨(Lib.itoa n).toArray⟩ := by
  subst h
  apply ByteArray.ext
  show _ = (Lib.itoa 0).toArray
  unfold Lib.itoa
  rw [if_neg (by decide), Int.toNat_zero, Lib.decDigits_one (by decide)]
  rfl
theorem isD_byte {s : ByteArray} {j : Nat} (hj : j < s.size) {b : UInt8} (h : s.data.toList[j]? = some b) : isD b ↔ 48 ≤ byteAt s j ∧ byteAt s j ≤ 57 := by
  rw [(byteAt_iff hj).2 h]
  unfold isD
  omega
theorem nno1 {s : ByteArray} (h : s.size < 1 ∨ 9 < s.size ∨ ∃ j, j < s.size ∧ ¬ (48 ≤ byteAt s j ∧ byteAt s j ≤ 57)) : numB s = false := by
  cases hb : numB s with
  | false => rfl
  | true =>
    obtain ⟨h1, h2, h3, _⟩ := num_facts hb
    rcases h with h | h | ⟨j, hj, hn⟩
    · omega
    · omega
    · have hg : s.data.toList[j]? = some (s.data.toList[j]'(by rw [toList_size]; exact hj)) := List.getElem?_eq_getElem _
      exact absurd ((isD_byte hj hg).1 (h3 _ (List.getElem_mem _))) hn
theorem digs_mem {s : ByteArray} {k : Nat} (hk : k ≤ s.size) (h : ∀ j, j < k → 48 ≤ byteAt s j ∧ byteAt s j ≤ 57) : ∀ b ∈ List.take k s.data.toList, isD b := by
  intro b hb
  obtain ⟨j, hj, rfl⟩ := List.mem_iff_getElem.1 hb
  have hj' : j < k := by rw [List.length_take] at hj; omega
  refine (isD_byte (s := s) (j := j) (by omega) ?_).2 (h j hj')
  rw [List.getElem_take, List.getElem?_eq_getElem]
theorem val_lt {s : ByteArray} {k : Nat} (h9 : s.size ≤ 9) (hk : k ≤ s.size) (h : ∀ j, j < k → 48 ≤ byteAt s j ∧ byteAt s j ≤ 57) : valD 0 (List.take k s.data.toList) < 1000000000 := by
  have h1 := valD_lt (List.take k s.data.toList) 0 0 (by decide) (digs_mem hk h)
  have e : (10 : Nat) ^ 9 = 1000000000 := by decide
  rw [← e]
  refine Nat.lt_of_lt_of_le h1 (Nat.pow_le_pow_right (by decide) ?_)
  rw [List.length_take, toList_size]
  omega
theorem val_snoc {s : ByteArray} {k : Nat} (hk : k < s.size) : ((valD 0 (List.take (k + 1) s.data.toList) : Nat) : Int) = ((valD 0 (List.take k s.data.toList) : Nat) : Int) * 10 + ((byteAt s k).toNat - 48 : Nat) := by
  have hg : s.data.toList[k]? = some (s.data.toList[k]'(by rw [toList_size]; exact hk)) := List.getElem?_eq_getElem _
  have hb := (byteAt_iff hk).2 hg
  rw [List.take_add_one, hg, Option.toList_some, valD_snoc, hb, Int.toNat_natCast]
  omega
theorem num_step {s : ByteArray} {y : Nat} (h9 : s.size ≤ 9) (hy : y ≤ s.size ∧ ∀ j, j < y → 48 ≤ byteAt s j ∧ byteAt s j ≤ 57) (hlt : y < s.size) (h1 : 48 ≤ byteAt s y) (h2 : byteAt s y ≤ 57) :
    ∃ y' : Nat, (y' ≤ s.size ∧ ∀ j, j < y' → 48 ≤ byteAt s j ∧ byteAt s j ≤ 57) ∧ s.size - y' < s.size - y ∧
      IntKind.wrap .i64 (IntKind.wrap .i64 (10 * ((valD 0 (List.take y s.data.toList) : Nat) : Int)) + IntKind.wrap .i64 (IntKind.wrap .u8 (byteAt s y - 48))) = ((valD 0 (List.take y' s.data.toList) : Nat) : Int) ∧ IntKind.wrap .i64 ((y : Int) + 1) = ((y' : Nat) : Int) := by
  have hv := val_lt h9 hy.1 hy.2
  refine ⟨y + 1, ⟨hlt, allN_step hy.2 ⟨h1, h2⟩⟩, by omega, ?_, ?_⟩
  · rw [val_snoc hlt, w8 (by omega) (by omega), w64i (x := 10 * ((valD 0 (List.take y s.data.toList) : Nat) : Int)) (by omega) (by omega), w64i (x := byteAt s y - 48) (by omega) (by omega), w64i (by omega) (by omega)]
    omega
  · rw [w64i (by omega) (by omega)]
    rfl
theorem take_all {s : ByteArray} {y : Nat} (h : y = s.size) : List.take y s.data.toList = s.data.toList := List.take_of_length_le (by rw [toList_size]; omega)
theorem num_yes {s : ByteArray} {y : Nat} (h1 : 1 ≤ s.size) (h9 : s.size ≤ 9) (hy : y ≤ s.size ∧ ∀ j, j < y → 48 ≤ byteAt s j ∧ byteAt s j ≤ 57) (he : y = s.size)
    (hd : (⟨(Lib.itoa ((valD 0 (List.take y s.data.toList) : Nat) : Int)).toArray⟩ : ByteArray) = s) : ((valD 0 (List.take y s.data.toList) : Nat) : Int) = numV s ∧ true = numB s := by
  have hm := digs_mem hy.1 hy.2
  rw [take_all he] at hm hd ⊢
  have h2 := num_spec h1 h9 hm (by have := congrArg (fun z : ByteArray => z.data.toList) hd; rw [← itoa_nat]; simpa using this)
  exact ⟨h2.2.symm, h2.1.symm⟩
theorem num_not {s : ByteArray} {y : Nat} (he : y = s.size) (hd : ¬ (⟨(Lib.itoa ((valD 0 (List.take y s.data.toList) : Nat) : Int)).toArray⟩ : ByteArray) = s) : numB s = false := by
  rw [take_all he] at hd
  cases hb : numB s with
  | false => rfl
  | true =>
    refine absurd ?_ hd
    apply ByteArray.ext
    show (Lib.itoa _).toArray = _
    rw [itoa_nat, (num_facts hb).2.2.2]
theorem num_no {s : ByteArray} (h : numB s = false) : numV s = 0 := by unfold numV; rw [h]; rfl
theorem last_bd (s : ByteArray) (c : UInt8) : -1 ≤ Lib.lastIndexByte s (c.toNat : Nat) ∧ Lib.lastIndexByte s (c.toNat : Nat) ≤ ((s.size : Nat) : Int) - 1 := by
  rcases last_cases s c with ⟨h, _⟩ | ⟨i, h1, h2, _⟩ <;> omega
theorem litT_size {s : ByteArray} (h : s.size ≤ 1048576) : (litT s).size ≤ 1048576 := by
  unfold litT
  rw [ByteArray.size_extract]
  omega
theorem ext_le {s : ByteArray} {a b : Nat} (h : s.size ≤ 1048576) : (ByteArray.extract s a b).size ≤ 1048576 := by
  rw [ByteArray.size_extract]
  omega
theorem ends_pos {s : ByteArray} {c : Int} (h : endsB s c = true) : 1 ≤ s.size := (of_decide_eq_true h).1
theorem ends_no {s : ByteArray} {c : Int} (h1 : 1 ≤ s.size) (h : ¬ byteAt s (s.size - 1) = c) : endsB s c = false := decide_eq_false (fun q => h q.2)
theorem ends_yes {s : ByteArray} {c : Int} (h1 : 1 ≤ s.size) (h : byteAt s (s.size - 1) = c) : endsB s c = true := decide_eq_true ⟨h1, h⟩
theorem last_brace {s : ByteArray} (h : endsB s 125 = true) : Lib.lastIndexByte s 123 + 1 ≤ ((s.size : Nat) : Int) - 1 := by
  obtain ⟨h1, h2⟩ := of_decide_eq_true h
  rcases last_cases s 123 with ⟨q, _⟩ | ⟨i, q1, q2, q3, _⟩
  · have q' : Lib.lastIndexByte s 123 = -1 := q
    omega
  · have q' : Lib.lastIndexByte s 123 = (i : Int) := q2
    have q3' : byteAt s i = 123 := q3
    have : i ≠ s.size - 1 := fun e => by rw [e, h2] at q3'; omega
    omega
theorem lit_no1 {s : ByteArray} (h : endsB s 125 = false) : litV s = -1 := if_neg (fun q => by rw [h] at q; cases q.1)
theorem lit_no2 {s : ByteArray} (h : ¬ 0 ≤ Lib.lastIndexByte s 123) : litV s = -1 := if_neg (fun q => h q.2.1)
theorem lit_no3 {s : ByteArray} (h : numB (litT s) = false) : litV s = -1 := if_neg (fun q => by rw [h] at q; cases q.2.2)
theorem lit_yes {s : ByteArray} (h1 : endsB s 125 = true) (h2 : 0 ≤ Lib.lastIndexByte s 123) (h3 : numB (litT s) = true) : litV s = numV (litT s) := if_pos ⟨h1, h2, h3⟩
theorem lit_short {s : ByteArray} (h : s.size < 3) : litV s = -1 := by
  cases h1 : endsB s 125 with
  | false => exact lit_no1 h1
  | true =>
    by_cases h2 : 0 ≤ Lib.lastIndexByte s 123
    · refine lit_no3 (nno1 (.inl ?_))
      have := last_brace h1
      unfold litT
      rw [ByteArray.size_extract]
      omega
    · exact lit_no2 h2
theorem lit_at {s : ByteArray} {i : Nat} (h1 : endsB s 125 = true) (hi : i + 1 < s.size) (hb : byteAt s i = 123) (hn : ∀ j, i < j → j < s.size - 1 → ¬ byteAt s j = 123) : Lib.lastIndexByte s 123 = (i : Int) := by
  obtain ⟨_, h2⟩ := of_decide_eq_true h1
  rcases last_cases s 123 with ⟨q, q2⟩ | ⟨k, q1, q2, q3, q4⟩
  · exact absurd hb (q2 i (by omega))
  · have q3' : byteAt s k = 123 := q3
    have k1 : k ≠ s.size - 1 := fun e => by rw [e, h2] at q3'; omega
    have k2 : ¬ i < k := fun e => hn k e (by omega) q3'
    have k3 : ¬ k < i := fun e => q4 i e (by omega) hb
    obtain rfl : k = i := by omega
    exact q2
theorem lit_none {s : ByteArray} (h1 : endsB s 125 = true) (hn : ∀ j, j < s.size - 1 → ¬ byteAt s j = 123) : litV s = -1 := by
  obtain ⟨_, h2⟩ := of_decide_eq_true h1
  refine lit_no2 (fun q => ?_)
  rcases last_cases s 123 with ⟨q1, _⟩ | ⟨k, q1, q2, q3, q4⟩
  · have q' : Lib.lastIndexByte s 123 = -1 := q1
    omega
  · have q3' : byteAt s k = 123 := q3
    have k1 : k ≠ s.size - 1 := fun e => by rw [e, h2] at q3'; omega
    exact hn k (by omega) q3'
/-- a brace found at i, coming from the end -/
theorem lit_found {s : ByteArray} {y : Nat} (h1 : 3 ≤ s.size) (h2 : byteAt s (s.size - 1) = 125) (hy : y ≤ s.size - 1 ∧ ∀ j, y ≤ j → j < s.size - 1 → ¬ byteAt s j = 123) (hp : 0 ≤ ((y : Nat) : Int) - 1) (hb : byteAt s (Int.toNat (((y : Nat) : Int) - 1)) = 123) :
    ByteArray.extract s y (s.size - 1) = litT s ∧ 0 ≤ Lib.lastIndexByte s 123 := by
  have e : Int.toNat (((y : Nat) : Int) - 1) = y - 1 := by omega
  rw [e] at hb
  have := lit_at (ends_yes (by omega) h2) (i := y - 1) (by omega) hb (fun j h1 h2 => hy.2 j (by omega) h2)
  unfold litT
  rw [this]
  exact ⟨by congr 1; omega, by omega⟩
theorem lit_step {s : ByteArray} {y : Nat} (hs : s.size ≤ 1048576) (hy : y ≤ s.size - 1 ∧ ∀ j, y ≤ j → j < s.size - 1 → ¬ byteAt s j = 123) (hp : 0 ≤ ((y : Nat) : Int) - 1) (hb : ¬ byteAt s (Int.toNat (((y : Nat) : Int) - 1)) = 123) :
    ∃ y' : Nat, (y' ≤ s.size - 1 ∧ ∀ j, y' ≤ j → j < s.size - 1 → ¬ byteAt s j = 123) ∧ y' < y ∧ IntKind.wrap .i64 (((y : Nat) : Int) - 1 - 1) = ((y' : Nat) : Int) - 1 := by
  have e : Int.toNat (((y : Nat) : Int) - 1) = y - 1 := by omega
  rw [e] at hb
  refine ⟨y - 1, ⟨by omega, fun j h1 h2 => ?_⟩, by omega, by rw [w64i (by omega) (by omega)]; omega⟩
  rcases Nat.eq_or_lt_of_le h1 with rfl | h3
  · exact hb
  · exact hy.2 j (by omega) h2
theorem lit_w {y : Nat} (h : y ≤ 1048576) : Int.toNat (IntKind.wrap .i64 (((y : Nat) : Int) - 1 + 1)) = y := by rw [w64i (by omega) (by omega)]; omega
theorem lit_end {s : ByteArray} {y : Nat} (h1 : 3 ≤ s.size) (h2 : byteAt s (s.size - 1) = 125) (hy : y ≤ s.size - 1 ∧ ∀ j, y ≤ j → j < s.size - 1 → ¬ byteAt s j = 123) (hp : ¬ 0 ≤ ((y : Nat) : Int) - 1) : -1 = litV s :=
  (lit_none (ends_yes (by omega) h2) (fun j hj => hy.2 j (by omega) hj)).symm
theorem lit_hit {s : ByteArray} {y : Nat} (hs : s.size ≤ 1048576) (h1 : 3 ≤ s.size) (h2 : byteAt s (s.size - 1) = 125) (hy : y ≤ s.size - 1 ∧ ∀ j, y ≤ j → j < s.size - 1 → ¬ byteAt s j = 123) (hp : 0 ≤ ((y : Nat) : Int) - 1) (hb : byteAt s (Int.toNat (((y : Nat) : Int) - 1)) = 123) :
    (numB (ByteArray.extract s (Int.toNat (IntKind.wrap .i64 (((y : Nat) : Int) - 1 + 1))) (s.size - 1)) = true → numV (ByteArray.extract s (Int.toNat (IntKind.wrap .i64 (((y : Nat) : Int) - 1 + 1))) (s.size - 1)) = litV s) ∧
    (numB (ByteArray.extract s (Int.toNat (IntKind.wrap .i64 (((y : Nat) : Int) - 1 + 1))) (s.size - 1)) = false → -1 = litV s) := by
  obtain ⟨q1, q2⟩ := lit_found h1 h2 hy hp hb
  rw [lit_w (by omega), q1]
  exact ⟨fun h => (lit_yes (ends_yes (by omega) h2) q2 h).symm, fun h => (lit_no3 h).symm⟩
theorem two_found {s : ByteArray} {a y : Nat} (hy : (a ≤ y ∧ y ≤ s.size + a) ∧ ∀ j, a ≤ j → j < y → ¬ two s j) (h1 : ((y : Nat) : Int) + 1 < ((s.size : Nat) : Int)) (h2 : byteAt s y = 13) (h3 : byteAt s (Int.toNat (((y : Nat) : Int) + 1)) = 10) : ((y : Nat) : Int) = twoI s a :=
  (twoI_at hy.1.1 ⟨by omega, h2, by rw [show Int.toNat (((y : Nat) : Int) + 1) = y + 1 from by omega] at h3; exact h3⟩ hy.2).symm
theorem two_step {s : ByteArray} {a y : Nat} (hy : (a ≤ y ∧ y ≤ s.size + a) ∧ ∀ j, a ≤ j → j < y → ¬ two s j) (h1 : ((y : Nat) : Int) + 1 < ((s.size : Nat) : Int)) (h : ¬ (byteAt s y = 13 ∧ byteAt s (Int.toNat (((y : Nat) : Int) + 1)) = 10)) :
    ∃ y' : Nat, ((a ≤ y' ∧ y' ≤ s.size + a) ∧ ∀ j, a ≤ j → j < y' → ¬ two s j) ∧ s.size + a + 1 - y' < s.size + a + 1 - y ∧ ((y : Nat) : Int) + 1 = ((y' : Nat) : Int) := by
  refine ⟨y + 1, ⟨⟨by omega, by omega⟩, fun j h2 h3 q => ?_⟩, by omega, by omega⟩
  rcases Nat.lt_or_ge j y with h4 | h4
  · exact hy.2 j h2 h4 q
  · obtain rfl : j = y := by omega
    exact h ⟨q.2.1, by rw [show Int.toNat (((j : Nat) : Int) + 1) = j + 1 from by omega]; exact q.2.2⟩
theorem two_end {s : ByteArray} {a y : Nat} (hy : (a ≤ y ∧ y ≤ s.size + a) ∧ ∀ j, a ≤ j → j < y → ¬ two s j) (h1 : ¬ ((y : Nat) : Int) + 1 < ((s.size : Nat) : Int)) : -1 = twoI s a :=
  (twoI_none (fun j hj q => by
    rcases Nat.lt_or_ge j y with h4 | h4
    · exact hy.2 j hj h4 q
    · have := q.1; omega)).symm
theorem line_step {s : ByteArray} {y : Nat} (hy : y ≤ s.size ∧ lineF s y = lineF s 0) (h : ¬ twoI s y < 0) (h1 : ¬ litV (ByteArray.extract s y (Int.toNat (twoI s y))) < 0) (h2 : ¬ ((s.size : Nat) : Int) < twoI s y + 2 + litV (ByteArray.extract s y (Int.toNat (twoI s y)))) :
    ∃ y' : Nat, (y' ≤ s.size ∧ lineF s y' = lineF s 0) ∧ s.size - y' < s.size - y ∧ twoI s y + 2 + litV (ByteArray.extract s y (Int.toNat (twoI s y))) = ((y' : Nat) : Int) := by
  have ht := twoI_ge s y
  exact ⟨(twoI s y + 2 + litV (ByteArray.extract s y (Int.toNat (twoI s y)))).toNat, ⟨by omega, by rw [← lineF_next h h1 h2]; exact hy.2⟩, by omega, by omega⟩
def smallA (s : ByteArray) (a : Int) : Prop := s.size ≤ 1048576 ∧ (0 ≤ a ∧ a ≤ 1048576)
theorem wf64 {x : Int} (h1 : -9223372036854775808 ≤ x) (h2 : x ≤ 9223372036854775807) : (Lit.int .i64 x).wf = true := by
  rw [lit_wf]
  have hmm : IntKind.i64.min = -9223372036854775808 ∧ IntKind.i64.max = 9223372036854775807 := by decide
  omega
theorem i64_b {x : Int} (h : (Lit.int .i64 x).wf = true) : -9223372036854775808 ≤ x ∧ x ≤ 9223372036854775807 := by
  rw [lit_wf] at h
  have hmm : IntKind.i64.min = -9223372036854775808 ∧ IntKind.i64.max = 9223372036854775807 := by decide
  omega
theorem itoa_len {n : Int} (h : -9223372036854775808 ≤ n ∧ n ≤ 9223372036854775807) : (Lib.itoa n).length ≤ 20 := by
  have e : (10 : Nat) ^ 19 = 10000000000000000000 := by decide
  unfold Lib.itoa
  split
  · have := dec_len (u := n.natAbs) (k := 19) (by omega) (by decide)
    rw [List.length_cons]
    omega
  · have := dec_len (u := n.toNat) (k := 19) (by omega) (by decide)
    omega
theorem itoa_size (n : Int) (h : -9223372036854775808 ≤ n ∧ n ≤ 9223372036854775807) : (⟨(Lib.itoa n).toArray⟩ : ByteArray).size ≤ maxLen := by
  have h1 := itoa_len h
  show (Lib.itoa n).toArray.size ≤ _
  rw [List.size_toArray]
  unfold maxLen
  omega
end Go.Proofs.YtbpapaponnfagaaGreatDoor
