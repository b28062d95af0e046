/-
  Several texts in one.
-/
import Derived.Test.YtklnpeckhbiloaaGreatDoorKBmTy
import Derived.Shelf.Strings.Search3
import Derived.Test.YtklnpeckhbiloaaGreatDoorKLawA
import Derived.Lib.IndexMore
set_option linter.unusedSimpArgs false
set_option linter.unusedVariables false
namespace Go.Proofs.YtklnpeckhbiloaaGreatDoor
open Go.ChangeShapes Go.WideShapes Go.ChangeAt Go.RowKit Go.Joins Go.Deep
open GoRep (rep bulk)
/-- the library's numbers, in this program -/
def sren : Go.Shelf.Ren := ⟨fun | 143 => 110 | 144 => 91 | 217 => 137 | 219 => 121 | 224 => 139 | 225 => 138 | 266 => 149 | 267 => 140 | 314 => 150 | n => n,
  fun | 3 => 3 | 4 => 4 | 5 => 5 | 9 => 9 | 46 => 114 | 51 => 168 | 146 => 169 | n => n,
  fun | 1 => 0 | n => n⟩
open Go.Shelf in
theorem slays : Lays.n144 Tryz.prog sren where
  mixed := by kernel_rfl
  f143 := Tryz.func110.trans (congrArg some (by kernel_rfl))
  f144 := Tryz.func91.trans (congrArg some (by kernel_rfl))
  f217 := Tryz.func137.trans (congrArg some (by kernel_rfl))
  f219 := Tryz.func121.trans (congrArg some (by kernel_rfl))
  f224 := Tryz.func139.trans (congrArg some (by kernel_rfl))
  f225 := Tryz.func138.trans (congrArg some (by kernel_rfl))
  f266 := Tryz.func149.trans (congrArg some (by kernel_rfl))
  f267 := Tryz.func140.trans (congrArg some (by kernel_rfl))
  f314 := Tryz.func150.trans (congrArg some (by kernel_rfl))
  t3 := Tryz.underlying3
  a3 := Tryz.isAgg3
  z3 := Tryz.sizeOf3
  v3 := Tryz.zeroValue3
  t4 := Tryz.underlying4
  a4 := Tryz.isAgg4
  z4 := Tryz.sizeOf4
  v4 := Tryz.zeroValue4
  t5 := Tryz.underlying5
  a5 := Tryz.isAgg5
  z5 := Tryz.sizeOf5
  v5 := Tryz.zeroValue5
  t9 := Tryz.underlying9
  a9 := Tryz.isAgg9
  z9 := Tryz.sizeOf9
  v9 := Tryz.zeroValue9
  t46 := Tryz.underlying114
  a46 := Tryz.isAgg114
  z46 := Tryz.sizeOf114
  v46 := Tryz.zeroValue114
  t51 := Tryz.underlying168
  a51 := Tryz.isAgg168
  z51 := Tryz.sizeOf168
  v51 := Tryz.zeroValue168
  t146 := Tryz.underlying169
  a146 := Tryz.isAgg169
  z146 := Tryz.sizeOf169
  v146 := Tryz.zeroValue169
  g1 := by kernel_rfl
/-- does a text stand in another? -/
def subB (s t : ByteArray) : Bool := Lib.contains s.data.toList t.data.toList
theorem b_strings_Contains (s t : ByteArray) (h : s.size < 4294967281) : BCalls Tryz.prog 91 [.c (.str s), .c (.str t)] (.c (.bool (subB s t))) [] := by
  intro X W vs hX hgl hr
  obtain ⟨v, r, rfl, ⟨rfl, hw⟩, u, r2, rfl, ⟨rfl, hu⟩, hn⟩ := hr
  obtain rfl : r2 = [] := hn
  obtain ⟨m, hm⟩ := hgl.int (g := 0) (by simp [globs])
  refine (Any.strings_Contains slays s t m W h hm).mono fun e W' he => ?_
  obtain ⟨rfl, rfl⟩ := he
  exact ⟨_, [], rfl, Grow.refl W' [], nilM hX, rfl⟩
def e_strings_Contains : Entry Tryz.prog := ⟨91, [.v tyStr, .v tyStr], fun x => ByteArray.size x.1 < 4294967281, fun x => .c (.bool (subB x.1 x.2.1)), fun _ => [], fun x hx => b_strings_Contains x.1 x.2.1 hx, Tryz.call91⟩
end Go.Proofs.YtklnpeckhbiloaaGreatDoor
set_option linter.unusedSimpArgs false
set_option linter.unusedVariables false
namespace Go.Proofs.YtklnpeckhbiloaaGreatDoor
open Go.ChangeShapes Go.WideShapes Go.ChangeAt Go.RowKit Go.Joins Go.Deep
open GoRep (rep bulk)

theorem byteAt_get {s : ByteArray} {i : Nat} (h : i < s.size) : ∃ b, s.data.toList[i]? = some b ∧ byteAt s i = (b.toNat : Nat) := by
  have hl : i < s.data.toList.length := h
  refine ⟨s.data.toList[i], List.getElem?_eq_getElem hl, ?_⟩
  unfold byteAt
  rw [List.getD_eq_getElem?_getD, List.getElem?_eq_getElem hl]
  rfl
theorem byteAt_b (s : ByteArray) (i : Nat) : 0 ≤ byteAt s i ∧ byteAt s i ≤ 255 := by
  unfold byteAt
  have := (s.data.toList.getD i 0).toNat_lt
  omega
theorem occ_two (l : List UInt8) (a b : UInt8) (i : Nat) : Lib.occAt l [a, b] i = true ↔ l[i]? = some a ∧ l[i + 1]? = some b := by
  unfold Lib.occAt
  have h0 : (l.drop i)[0]? = l[i]? := by rw [List.getElem?_drop]; rfl
  have h1 : (l.drop i)[1]? = l[i + 1]? := by rw [List.getElem?_drop]
  rw [← h0, ← h1]
  cases l.drop i with
  | nil => simp
  | cons x r =>
    cases r with
    | nil => simp [List.isPrefixOf]
    | cons y r =>
      simp only [List.isPrefixOf, Bool.and_true, Bool.and_eq_true, beq_iff_eq, List.getElem?_cons_zero, List.getElem?_cons_succ, Option.some.injEq]
      exact ⟨fun h => ⟨h.1.symm, h.2.symm⟩, fun h => ⟨h.1.symm, h.2.symm⟩⟩
theorem sub_slashes (s : ByteArray) : subB s (⟨#[47, 47]⟩ : ByteArray) = true ↔ ∃ i, i + 1 < s.size ∧ byteAt s i = 47 ∧ byteAt s (i + 1) = 47 := by
  have hb : ∀ i, i < s.size → (byteAt s i = 47 ↔ s.data.toList[i]? = some 47) := fun i hi => by
    obtain ⟨b, h1, h2⟩ := byteAt_get hi
    rw [h1, h2]
    constructor
    · intro h
      have : b.toNat = 47 := by omega
      exact congrArg some (UInt8.toNat_inj.1 this)
    · intro h
      obtain rfl := Option.some.inj h
      rfl
  have hlen : s.data.toList.length = s.size := rfl
  show Lib.contains s.data.toList [47, 47] = true ↔ _
  unfold Lib.contains
  rw [decide_eq_true_eq]
  rcases Lib.index_spec s.data.toList [47, 47] with ⟨h1, h2⟩ | ⟨i, h1, h2, h3, _⟩
  · constructor
    · intro h; omega
    · rintro ⟨i, hi, ha, hc⟩
      have := h2 i (by omega)
      rw [(occ_two _ _ _ _).2 ⟨(hb i (by omega)).1 ha, (hb (i + 1) hi).1 hc⟩] at this
      cases this
  · constructor
    · intro _
      obtain ⟨ha, hc⟩ := (occ_two _ _ _ _).1 h3
      have hi : i + 1 < s.size := (List.getElem?_eq_some_iff.1 hc).1
      exact ⟨i, hi, (hb i (by omega)).2 ha, (hb (i + 1) hi).2 hc⟩
    · intro _; omega
/-- a place of a name that is wrong -/
def nmBad (s : ByteArray) (i : Nat) : Prop := (byteAt s i = 47 ∧ (i = 0 ∨ i + 1 = s.size ∨ byteAt s (i - 1) = 47)) ∨ (byteAt s i ≠ 47 ∧ (byteAt s i < 97 ∨ 122 < byteAt s i))
instance (s : ByteArray) (i : Nat) : Decidable (nmBad s i) := by unfold nmBad; infer_instance
def nameOk (s : ByteArray) : Bool := decide ((∀ i, i < s.size → ¬ nmBad s i) ∧ 1 ≤ s.size ∧ s.size ≤ 12)
theorem nameOk_no {s : ByteArray} {i : Nat} (hi : i < s.size) (h : nmBad s i) : nameOk s = false := decide_eq_false fun q => q.1 i hi h
theorem nameOk_all {s : ByteArray} (h : ∀ i, i < s.size → ¬ nmBad s i) : nameOk s = btw (s.size : Nat) 1 12 := by
  unfold nameOk
  rw [Bool.eq_iff_iff, decide_eq_true_eq, btw_iff]
  exact ⟨fun q => by omega, fun q => ⟨h, by omega⟩⟩
theorem nameOk_long {s : ByteArray} (h : btw (s.size : Nat) 1 12 = false) : nameOk s = false := decide_eq_false fun q => by rw [btw_not] at h; omega
def upI (x : Int) : Int := if 97 ≤ x ∧ x ≤ 122 then x - 32 else x
def upB (x : UInt8) : UInt8 := if 97 ≤ x.toNat ∧ x.toNat ≤ 122 then x - 32 else x
def upT (s : ByteArray) : ByteArray := ⟨s.data.map upB⟩
theorem upT_size (s : ByteArray) : (upT s).size = s.size := by show (s.data.map upB).size = s.data.size; simp
theorem upB_nat (x : UInt8) : ((upB x).toNat : Int) = upI x.toNat := by
  unfold upB upI
  split
  · rw [if_pos (by omega), UInt8.toNat_sub]
    simp
    omega
  · rw [if_neg (by omega)]
theorem upT_at {s : ByteArray} {i : Nat} (h : i < s.size) : byteAt (upT s) i = upI (byteAt s i) := by
  obtain ⟨b, h1, h2⟩ := byteAt_get h
  obtain ⟨c, h3, h4⟩ := byteAt_get (s := upT s) (i := i) (by rw [upT_size]; exact h)
  rw [h2, h4, ← upB_nat]
  have : (upT s).data.toList[i]? = some (upB b) := by
    show (s.data.map upB).toList[i]? = _
    rw [Array.toList_map, List.getElem?_map, h1]
    rfl
  rw [this] at h3
  obtain rfl := Option.some.inj h3
  rfl
theorem ext_one {s : ByteArray} {i : Nat} (h : i < s.size) : (s.extract i (i + 1)).size = 1 ∧ byteAt (s.extract i (i + 1)) 0 = byteAt s i := by
  have hs : (s.extract i (i + 1)).size = 1 := by rw [ByteArray.size_extract]; omega
  refine ⟨hs, ?_⟩
  obtain ⟨b, h1, h2⟩ := byteAt_get h
  obtain ⟨c, h3, h4⟩ := byteAt_get (s := s.extract i (i + 1)) (i := 0) (by omega)
  rw [h2, h4]
  have : (s.extract i (i + 1)).data.toList[0]? = some b := by
    rw [ByteArray.data_extract, Array.toList_extract, List.extract_eq_take_drop, List.getElem?_take, if_pos (by omega), List.getElem?_drop]
    exact h1
  rw [this] at h3
  obtain rfl := Option.some.inj h3
  rfl
theorem up_one {s : ByteArray} {i : Nat} (h : i < s.size) : (upT (s.extract i (i + 1))).size = 1 ∧ byteAt (upT (s.extract i (i + 1))) 0 = upI (byteAt s i) := by
  have := ext_one h
  exact ⟨by rw [upT_size]; exact this.1, by rw [upT_at (by omega), this.2]⟩
/-- no letter, no digit -/
def tgBad (x : Int) : Prop := ¬ ((97 ≤ x ∧ x ≤ 122) ∨ (65 ≤ x ∧ x ≤ 90) ∨ (48 ≤ x ∧ x ≤ 57))
instance (x : Int) : Decidable (tgBad x) := by unfold tgBad; infer_instance
def tagOk (s : ByteArray) : Bool := decide ((∀ i, i < s.size → ¬ tgBad (byteAt s i)) ∧ 1 ≤ s.size ∧ s.size ≤ 8)
theorem tagOk_no {s : ByteArray} {i : Nat} (hi : i < s.size) (h : tgBad (byteAt s i)) : tagOk s = false := decide_eq_false fun q => q.1 i hi h
theorem tagOk_all {s : ByteArray} (h : ∀ i, i < s.size → ¬ tgBad (byteAt s i)) : tagOk s = btw (s.size : Nat) 1 8 := by
  unfold tagOk
  rw [Bool.eq_iff_iff, decide_eq_true_eq, btw_iff]
  exact ⟨fun q => by omega, fun q => ⟨h, by omega⟩⟩
end Go.Proofs.YtklnpeckhbiloaaGreatDoor
