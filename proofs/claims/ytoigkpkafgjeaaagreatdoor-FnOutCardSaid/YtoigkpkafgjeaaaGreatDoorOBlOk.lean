/-
  Several texts in one.
-/
import Derived.Test.YtoigkpkafgjeaaaGreatDoorOBmTy
import Derived.Shelf.Strings.Search3
import Derived.Test.YtoigkpkafgjeaaaGreatDoorOLawA
import Derived.Lib.IndexMore
import Derived.Test.YtoigkpkafgjeaaaGreatDoorOBlLib
set_option linter.unusedSimpArgs false
set_option linter.unusedVariables false
namespace Go.Proofs.YtoigkpkafgjeaaaGreatDoor
open Go.ChangeShapes Go.WideShapes Go.ChangeAt Go.RowKit Go.Joins Go.Deep
open GoRep (rep bulk)
/-- the library's numbers, in this program -/
def sren : Go.Shelf.Ren := ⟨fun | 143 => 77 | 144 => 59 | 217 => 104 | 219 => 88 | 224 => 106 | 225 => 105 | 266 => 116 | 267 => 107 | 314 => 117 | n => n,
  fun | 3 => 3 | 4 => 4 | 5 => 5 | 9 => 9 | 46 => 73 | 51 => 132 | 146 => 133 | n => n,
  fun | 1 => 0 | n => n⟩
open Go.Shelf in
theorem slays : Lays.n144 Tryz.prog sren where
  mixed := by kernel_rfl
  f143 := Tryz.func77.trans (congrArg some (by kernel_rfl))
  f144 := Tryz.func59.trans (congrArg some (by kernel_rfl))
  f217 := Tryz.func104.trans (congrArg some (by kernel_rfl))
  f219 := Tryz.func88.trans (congrArg some (by kernel_rfl))
  f224 := Tryz.func106.trans (congrArg some (by kernel_rfl))
  f225 := Tryz.func105.trans (congrArg some (by kernel_rfl))
  f266 := Tryz.func116.trans (congrArg some (by kernel_rfl))
  f267 := Tryz.func107.trans (congrArg some (by kernel_rfl))
  f314 := Tryz.func117.trans (congrArg some (by kernel_rfl))
  t3 := Tryz.underlying3
  a3 := Tryz.isAgg3
  z3 := Tryz.sizeOf3
  v3 := Tryz.zeroValue3
  t4 := Tryz.underlying4
  a4 := Tryz.isAgg4
  z4 := Tryz.sizeOf4
  v4 := Tryz.zeroValue4
  t5 := Tryz.underlying5
  a5 := Tryz.isAgg5
  z5 := Tryz.sizeOf5
  v5 := Tryz.zeroValue5
  t9 := Tryz.underlying9
  a9 := Tryz.isAgg9
  z9 := Tryz.sizeOf9
  v9 := Tryz.zeroValue9
  t46 := Tryz.underlying73
  a46 := Tryz.isAgg73
  z46 := Tryz.sizeOf73
  v46 := Tryz.zeroValue73
  t51 := Tryz.underlying132
  a51 := Tryz.isAgg132
  z51 := Tryz.sizeOf132
  v51 := Tryz.zeroValue132
  t146 := Tryz.underlying133
  a146 := Tryz.isAgg133
  z146 := Tryz.sizeOf133
  v146 := Tryz.zeroValue133
  g1 := by kernel_rfl
/-- does a text stand in another? -/
def subB (s t : ByteArray) : Bool := Lib.contains s.data.toList t.data.toList
theorem b_strings_Contains (s t : ByteArray) (h : s.size < 4294967281) : BCalls Tryz.prog 59 [.c (.str s), .c (.str t)] (.c (.bool (subB s t))) [] := by
  intro X W vs hX hgl hr
  obtain ⟨v, r, rfl, ⟨rfl, hw⟩, u, r2, rfl, ⟨rfl, hu⟩, hn⟩ := hr
  obtain rfl : r2 = [] := hn
  obtain ⟨m, hm⟩ := hgl.int (g := 0) (by simp [globs])
  refine (Any.strings_Contains slays s t m W h hm).mono fun e W' he => ?_
  obtain ⟨rfl, rfl⟩ := he
  exact ⟨_, [], rfl, Grow.refl W' [], nilM hX, rfl⟩
def e_strings_Contains : Entry Tryz.prog := ⟨59, [.v tyStr, .v tyStr], fun x => ByteArray.size x.1 < 4294967281, fun x => .c (.bool (subB x.1 x.2.1)), fun _ => [], fun x hx => b_strings_Contains x.1 x.2.1 hx, Tryz.call59⟩
end Go.Proofs.YtoigkpkafgjeaaaGreatDoor
set_option linter.unusedSimpArgs false
set_option linter.unusedVariables false
namespace Go.Proofs.YtoigkpkafgjeaaaGreatDoor
open Go.ChangeShapes Go.WideShapes Go.ChangeAt Go.RowKit Go.Joins Go.Deep
open GoRep (rep bulk)

theorem bl_tot : ∀ (x y : List UInt8), (Op.bytesLess x y || decide (x = y)) = !Op.bytesLess y x
  | [], [] => by simp [Op.bytesLess]
  | _ :: _, [] => by simp [Op.bytesLess]
  | [], _ :: _ => by simp [Op.bytesLess]
  | a :: x, b :: y => by
    have ih := bl_tot x y
    rw [Op.bytesLess, Op.bytesLess]
    rcases Nat.lt_trichotomy a.toNat b.toNat with h | h | h
    · have h1 : a < b := h
      have h2 : ¬ b < a := fun h' => by have : b.toNat < a.toNat := h'; omega
      have h3 : a ≠ b := fun e => by subst e; omega
      simp [h1, h2, h3, h3.symm]
    · have e : a = b := UInt8.toNat_inj.1 h
      subst e
      have h2 : ¬ a < a := fun h' => by have : a.toNat < a.toNat := h'; omega
      simpa [h2] using ih
    · have h1 : b < a := h
      have h2 : ¬ a < b := fun h' => by have : a.toNat < b.toNat := h'; omega
      have h3 : a ≠ b := fun e => by subst e; omega
      simp [h1, h2, h3, h3.symm]
theorem leS_ge (a b : ByteArray) : (Op.bytesLess a.toList b.toList || decide (a = b)) = !Op.bytesLess b.toList a.toList := by
  rw [← bl_tot]
  congr 1
  rw [decide_eq_decide, ByteArray.toList_eq, ByteArray.toList_eq]
  exact ⟨fun h => by rw [h], fun h => ByteArray.ext (Array.toList_inj.1 h)⟩

theorem byteAt_get {s : ByteArray} {i : Nat} (h : i < s.size) : ∃ b, s.data.toList[i]? = some b ∧ byteAt s i = (b.toNat : Nat) := by
  have hl : i < s.data.toList.length := h
  refine ⟨s.data.toList[i], List.getElem?_eq_getElem hl, ?_⟩
  unfold byteAt
  rw [List.getD_eq_getElem?_getD, List.getElem?_eq_getElem hl]
  rfl
theorem byteAt_b (s : ByteArray) (i : Nat) : 0 ≤ byteAt s i ∧ byteAt s i ≤ 255 := by
  unfold byteAt
  have := (s.data.toList.getD i 0).toNat_lt
  omega
theorem occ_two (l : List UInt8) (a b : UInt8) (i : Nat) : Lib.occAt l [a, b] i = true ↔ l[i]? = some a ∧ l[i + 1]? = some b := by
  unfold Lib.occAt
  have h0 : (l.drop i)[0]? = l[i]? := by rw [List.getElem?_drop]; rfl
  have h1 : (l.drop i)[1]? = l[i + 1]? := by rw [List.getElem?_drop]
  rw [← h0, ← h1]
  cases l.drop i with
  | nil => simp
  | cons x r =>
    cases r with
    | nil => simp [List.isPrefixOf]
    | cons y r =>
      simp only [List.isPrefixOf, Bool.and_true, Bool.and_eq_true, beq_iff_eq, List.getElem?_cons_zero, List.getElem?_cons_succ, Option.some.injEq]
      exact ⟨fun h => ⟨h.1.symm, h.2.symm⟩, fun h => ⟨h.1.symm, h.2.symm⟩⟩
theorem sub_slashes (s : ByteArray) : subB s (⟨#[47, 47]⟩ : ByteArray) = true ↔ ∃ i, i + 1 < s.size ∧ byteAt s i = 47 ∧ byteAt s (i + 1) = 47 := by
  have hb : ∀ i, i < s.size → (byteAt s i = 47 ↔ s.data.toList[i]? = some 47) := fun i hi => by
    obtain ⟨b, h1, h2⟩ := byteAt_get hi
    rw [h1, h2]
    constructor
    · intro h
      have : b.toNat = 47 := by omega
      exact congrArg some (UInt8.toNat_inj.1 this)
    · intro h
      obtain rfl := Option.some.inj h
      rfl
  have hlen : s.data.toList.length = s.size := rfl
  show Lib.contains s.data.toList [47, 47] = true ↔ _
  unfold Lib.contains
  rw [decide_eq_true_eq]
  rcases Lib.index_spec s.data.toList [47, 47] with ⟨h1, h2⟩ | ⟨i, h1, h2, h3, _⟩
  · constructor
    · intro h; omega
    · rintro ⟨i, hi, ha, hc⟩
      have := h2 i (by omega)
      rw [(occ_two _ _ _ _).2 ⟨(hb i (by omega)).1 ha, (hb (i + 1) hi).1 hc⟩] at this
      cases this
  · constructor
    · intro _
      obtain ⟨ha, hc⟩ := (occ_two _ _ _ _).1 h3
      have hi : i + 1 < s.size := (List.getElem?_eq_some_iff.1 hc).1
      exact ⟨i, hi, (hb i (by omega)).2 ha, (hb (i + 1) hi).2 hc⟩
    · intro _; omega
/-- a place of a name that is wrong -/
def nmBad (s : ByteArray) (i : Nat) : Prop := (byteAt s i = 47 ∧ (i = 0 ∨ i + 1 = s.size ∨ byteAt s (i - 1) = 47)) ∨ (byteAt s i ≠ 47 ∧ (byteAt s i < 97 ∨ 122 < byteAt s i))
instance (s : ByteArray) (i : Nat) : Decidable (nmBad s i) := by unfold nmBad; infer_instance
def nameOk (s : ByteArray) : Bool := decide ((∀ i, i < s.size → ¬ nmBad s i) ∧ 1 ≤ s.size ∧ s.size ≤ 12)
theorem nameOk_no {s : ByteArray} {i : Nat} (hi : i < s.size) (h : nmBad s i) : nameOk s = false := decide_eq_false fun q => q.1 i hi h
theorem nameOk_all {s : ByteArray} (h : ∀ i, i < s.size → ¬ nmBad s i) : nameOk s = btw (s.size : Nat) 1 12 := by
  unfold nameOk
  rw [Bool.eq_iff_iff, decide_eq_true_eq, btw_iff]
  exact ⟨fun q => by omega, fun q => ⟨h, by omega⟩⟩
theorem nameOk_long {s : ByteArray} (h : btw (s.size : Nat) 1 12 = false) : nameOk s = false := decide_eq_false fun q => by rw [btw_not] at h; omega
def upI (x : Int) : Int := if 97 ≤ x ∧ x ≤ 122 then x - 32 else x
def upB (x : UInt8) : UInt8 := if 97 ≤ x.toNat ∧ x.toNat ≤ 122 then x - 32 else x
def upT (s : ByteArray) : ByteArray := ⟨s.data.map upB⟩
theorem upT_size (s : ByteArray) : (upT s).size = s.size := by show (s.data.map upB).size = s.data.size; simp
theorem upB_nat (x : UInt8) : ((upB x).toNat : Int) = upI x.toNat := by
  unfold upB upI
  split
  · rw [if_pos (by omega), UInt8.toNat_sub]
    simp
    omega
  · rw [if_neg (by omega)]
theorem upT_at {s : ByteArray} {i : Nat} (h : i < s.size) : byteAt (upT s) i = upI (byteAt s i) := by
  obtain ⟨b, h1, h2⟩ := byteAt_get h
  obtain ⟨c, h3, h4⟩ := byteAt_get (s := upT s) (i := i) (by rw [upT_size]; exact h)
  rw [h2, h4, ← upB_nat]
  have : (upT s).data.toList[i]? = some (upB b) := by
    show (s.data.map upB).toList[i]? = _
    rw [Array.toList_map, List.getElem?_map, h1]
    rfl
  rw [this] at h3
  obtain rfl := Option.some.inj h3
  rfl
theorem ext_one {s : ByteArray} {i : Nat} (h : i < s.size) : (s.extract i (i + 1)).size = 1 ∧ byteAt (s.extract i (i + 1)) 0 = byteAt s i := by
  have hs : (s.extract i (i + 1)).size = 1 := by rw [ByteArray.size_extract]; omega
  refine ⟨hs, ?_⟩
  obtain ⟨b, h1, h2⟩ := byteAt_get h
  obtain ⟨c, h3, h4⟩ := byteAt_get (s := s.extract i (i + 1)) (i := 0) (by omega)
  rw [h2, h4]
  have : (s.extract i (i + 1)).data.toList[0]? = some b := by
    rw [ByteArray.data_extract, Array.toList_extract, List.extract_eq_take_drop, List.getElem?_take, if_pos (by omega), List.getElem?_drop]
    exact h1
  rw [this] at h3
  obtain rfl := Option.some.inj h3
  rfl
theorem up_one {s : ByteArray} {i : Nat} (h : i < s.size) : (upT (s.extract i (i + 1))).size = 1 ∧ byteAt (upT (s.extract i (i + 1))) 0 = upI (byteAt s i) := by
  have := ext_one h
  exact ⟨by rw [upT_size]; exact this.1, by rw [upT_at (by omega), this.2]⟩
/-- no letter, no digit -/
def tgBad (x : Int) : Prop := ¬ ((97 ≤ x ∧ x ≤ 122) ∨ (65 ≤ x ∧ x ≤ 90) ∨ (48 ≤ x ∧ x ≤ 57))
instance (x : Int) : Decidable (tgBad x) := by unfold tgBad; infer_instance
def tagOk (s : ByteArray) : Bool := decide ((∀ i, i < s.size → ¬ tgBad (byteAt s i)) ∧ 1 ≤ s.size ∧ s.size ≤ 8)
theorem tagOk_no {s : ByteArray} {i : Nat} (hi : i < s.size) (h : tgBad (byteAt s i)) : tagOk s = false := decide_eq_false fun q => q.1 i hi h
theorem tagOk_all {s : ByteArray} (h : ∀ i, i < s.size → ¬ tgBad (byteAt s i)) : tagOk s = btw (s.size : Nat) 1 8 := by
  unfold tagOk
  rw [Bool.eq_iff_iff, decide_eq_true_eq, btw_iff]
  exact ⟨fun q => by omega, fun q => ⟨h, by omega⟩⟩
end Go.Proofs.YtoigkpkafgjeaaaGreatDoor
set_option linter.unusedSimpArgs false
set_option linter.unusedVariables false
set_option maxRecDepth 100000
set_option maxHeartbeats 4000000
namespace Go.Proofs.YtoigkpkafgjeaaaGreatDoor
open Go.ChangeShapes Go.WideShapes Go.ChangeAt Go.RowKit Go.Joins Go.Deep
open GoRep (rep bulk)

theorem b_i_within (n : Int) (lo : Int) (hi : Int) : BCalls Tryz.prog 32 [.c (.int .i64 n), .c (.int .i64 lo), .c (.int .i64 hi)] (.c (.bool (btw n lo hi))) [] := by
  refine bc0 [] [] [] [] L0 Tryz.func32 (fun hwf => ?_)
  refine Eq.mpr (β := (True ∧ (True ∧ (True ∧ (True ∧ (True ∧ (bif (geI n lo) then (True ∧ (True ∧ (True ∧ (True ∧ (True ∧ (rB (leI n hi) (btw n lo hi))))))) else (True ∧ (True ∧ (rB false (btw n lo hi))))))))))) (by kernel_rfl) ?_
  simp only [SI2A, eq_self]
  repeat' (first | apply And.intro | intro _)
  all_goals first | trivial | omega | (simp [btw]; omega) | (rw [Bool.eq_iff_iff]; simp [btw, leI_true]; omega)
def e_i_within : Entry Tryz.prog := ⟨32, [.v tyInt, .v tyInt, .v tyInt], fun x => True, fun x => .c (.bool (btw x.1 x.2.1 x.2.2.1)), fun _ => [], fun x hx => b_i_within x.1 x.2.1 x.2.2.1, Tryz.call32⟩
theorem b_s_l1In (n : Int) (lo : Int) (hi : Int) : BCalls Tryz.prog 46 [.c (.int .i64 n), .c (.int .i64 lo), .c (.int .i64 hi)] (.c (.bool (btw n lo hi))) [] := by
  refine bc0 [] [] [] [] L0 Tryz.func46 (fun hwf => ?_)
  refine Eq.mpr (β := (True ∧ (True ∧ (True ∧ (True ∧ (True ∧ (bif (geI n lo) then (True ∧ (True ∧ (True ∧ (True ∧ (True ∧ (rB (leI n hi) (btw n lo hi))))))) else (True ∧ (True ∧ (rB false (btw n lo hi))))))))))) (by kernel_rfl) ?_
  simp only [SI2A, eq_self]
  repeat' (first | apply And.intro | intro _)
  all_goals first | trivial | omega | (simp [btw]; omega) | (rw [Bool.eq_iff_iff]; simp [btw, leI_true]; omega)
def e_s_l1In : Entry Tryz.prog := ⟨46, [.v tyInt, .v tyInt, .v tyInt], fun x => True, fun x => .c (.bool (btw x.1 x.2.1 x.2.2.1)), fun _ => [], fun x hx => b_s_l1In x.1 x.2.1 x.2.2.1, Tryz.call46⟩
def nmCh (x : Int) : Prop := x = 47 ∨ (97 ≤ x ∧ x ≤ 122)
theorem nm_char {s : ByteArray} {i : Nat} (hi : i < s.size) (h : ¬ nmCh (byteAt s i)) : nameOk s = false := nameOk_no hi (by unfold nmCh at h; unfold nmBad; right; omega)
theorem nm_first {s : ByteArray} (hi : 1 ≤ s.size) (h : byteAt s 0 = 47) : nameOk s = false := nameOk_no (i := 0) (by omega) (by unfold nmBad; left; omega)
theorem nm_last {s : ByteArray} (hi : 1 ≤ s.size) (h : byteAt s (s.size - 1) = 47) : nameOk s = false := nameOk_no (i := s.size - 1) (by omega) (by unfold nmBad; left; omega)
theorem nm_sub {s : ByteArray} (hc : ∀ j, j < s.size → nmCh (byteAt s j)) (hb : btw ((s.size : Nat) : Int) 1 12 = true) (h0 : ¬ byteAt s 0 = 47) (h1 : ¬ byteAt s (s.size - 1) = 47) : (!subB s (⟨#[47, 47]⟩ : ByteArray)) = nameOk s := by
  cases hs : subB s (⟨#[47, 47]⟩ : ByteArray) with
  | true =>
    obtain ⟨i, hi, ha, hb'⟩ := (sub_slashes s).1 hs
    exact (nameOk_no (i := i + 1) hi (by unfold nmBad; left; exact ⟨hb', .inr (.inr (by simpa using ha))⟩)).symm
  | false =>
    rw [nameOk_all, hb]
    · rfl
    · intro i hi hbad
      have hci := hc i hi
      unfold nmBad at hbad
      unfold nmCh at hci
      rcases hbad with ⟨q, rfl | q2 | q2⟩ | ⟨q, q2⟩
      · exact h0 q
      · exact h1 (by rw [show s.size - 1 = i by omega]; exact q)
      · have h2 : subB s (⟨#[47, 47]⟩ : ByteArray) = true := (sub_slashes s).2 ⟨i - 1, by
          have : i ≠ 0 := fun e => by subst e; exact h0 q
          omega, q2, by
          have : i ≠ 0 := fun e => by subst e; exact h0 q
          rw [show i - 1 + 1 = i by omega]; exact q⟩
        rw [hs] at h2
        cases h2
      · omega
def L_i_NameOk (s : ByteArray) : Nat → List AV → Mem → LoopA
  | 2, tm, M => ⟨Nat, fun y => (anyR (setA tm [(2, .any), (3, .any), (6, .c (.int .i64 ((y : Nat) : Int)))]) 7 19, M), fun y => (y ≤ ByteArray.size s ∧ ∀ j, j < y → nmCh (byteAt s j)), fun y => (ByteArray.size s - y)⟩
  | _, _, _ => ⟨Unit, fun _ => ([], []), fun _ => False, fun _ => 0⟩
def k0k6815 (s : ByteArray) (y0 : Nat) : Prop := (T2 (∃ y0' : Nat, (y0' ≤ ByteArray.size s ∧ ∀ j, j < y0' → nmCh (byteAt s j)) ∧ (ByteArray.size s - y0') < (ByteArray.size s - y0) ∧ ((lxs [.c (.str s), .tp []] (True ∧ True ∧ lxs [.c (.str s), .c (.int .i64 ((ByteArray.size s : Nat) : Int))] (leV (.c (.int .i64 (IntKind.wrap .i64 (((y0 : Nat) : Int) + 1)))) (.c (.int .i64 ((y0' : Nat) : Int))) ∧ TN 19 (lxs [.tp [], .tp [], .tp [], .tp [], .tp [], .tp [], .tp [], .tp [], .tp [], .tp [], .tp [], .tp [], .tp [], .tp [], .tp [], .tp [], .tp [], .tp [], .tp [], .tp [], .tp []] True)))) ∧ (True) ∧ true = true)))
def k1k6815 (y0 : Nat) (s : ByteArray) : Prop := ((0 : Int) ≤ ((y0 : Nat) : Int) ∧ (((y0 : Nat) : Int) : Int) < ((ByteArray.size s : Nat) : Int))
theorem b_i_NameOk (s : ByteArray) : BCalls Tryz.prog 35 [.c (.str s)] (.c (.bool (nameOk s))) [] := by
  refine bc0 [e_i_within, e_strings_Contains] [] [] [] (L_i_NameOk s) Tryz.func35 (fun hwf => ?_)
  refine Eq.mpr (β := (T4 ((∃ q : Nat, (q ≤ ByteArray.size s ∧ ∀ j, j < q → nmCh (byteAt s j)) ∧ ((lxs [.c (.str s), .tp []] (True ∧ True ∧ lxs [.c (.str s), .c (.int .i64 ((ByteArray.size s : Nat) : Int))] (leV (.c (.int .i64 0)) (.c (.int .i64 ((q : Nat) : Int))) ∧ TN 19 (lxs [.tp [], .tp [], .tp [], .tp [], .tp [], .tp [], .tp [], .tp [], .tp [], .tp [], .tp [], .tp [], .tp [], .tp [], .tp [], .tp [], .tp [], .tp [], .tp [], .tp [], .tp []] True)))) ∧ (True) ∧ true = true)) ∧ ∀ y0 : Nat, (y0 ≤ ByteArray.size s ∧ ∀ j, j < y0 → nmCh (byteAt s j)) → (True ∧ (bif (ltI ((y0 : Nat) : Int) ((ByteArray.size s : Nat) : Int)) then (T4 ((k1k6815 y0 s) ∧ (T2 (bif (neI (byteAt s (Int.toNat ((y0 : Nat) : Int))) 47) then (T2 ((k1k6815 y0 s) ∧ (T2 (bif (ltI (byteAt s (Int.toNat ((y0 : Nat) : Int))) 97) then (T3 (rB false (nameOk s))) else (T2 ((k1k6815 y0 s) ∧ (T3 (bif (gtI (byteAt s (Int.toNat ((y0 : Nat) : Int))) 122) then (True ∧ (rB false (nameOk s))) else (k0k6815 s y0))))))))) else (True ∧ (k0k6815 s y0)))))) else (T2 ((True ∧ true = true) ∧ (True ∧ (bif btw ((ByteArray.size s : Nat) : Int) 1 12 then (True ∧ (((0 : Int) ≤ 0 ∧ (0 : Int) < ((ByteArray.size s : Nat) : Int)) ∧ (T3 (bif (neI (byteAt s (Int.toNat 0)) 47) then (T4 (((0 : Int) ≤ (IntKind.wrap .i64 (((ByteArray.size s : Nat) : Int) - 1)) ∧ ((IntKind.wrap .i64 (((ByteArray.size s : Nat) : Int) - 1)) : Int) < ((ByteArray.size s : Nat) : Int)) ∧ (T3 (bif (neI (byteAt s (Int.toNat (IntKind.wrap .i64 (((ByteArray.size s : Nat) : Int) - 1)))) 47) then (True ∧ ((ByteArray.size s < 4294967281 ∧ true = true) ∧ (T3 (rB (!(subB s (⟨#[47, 47]⟩ : ByteArray))) (nameOk s))))) else (T2 (rB false (nameOk s))))))) else (T4 (rB false (nameOk s))))))) else (T6 (rB false (nameOk s)))))))))))) (by kernel_rfl) ?_
  unfold k1k6815 k0k6815 T2 T3 T4 T6
  have hm : s.size ≤ maxLen := hwf.1
  unfold maxLen at hm
  have e1 : 1 ≤ s.size → Int.toNat (IntKind.wrap .i64 (((ByteArray.size s : Nat) : Int) - 1)) = s.size - 1 := fun h => by rw [wrapA (by omega) (by omega)]; omega
  have e2 : IntKind.wrap .i64 (((ByteArray.size s : Nat) : Int) - 1) = ((ByteArray.size s : Nat) : Int) - 1 := wrapA (by omega) (by omega)
  simp only [SI2A, eq_self]
  refine ⟨⟨0, ⟨Nat.zero_le _, fun j hj => absurd hj (Nat.not_lt_zero j)⟩, rfl⟩, fun k hk => ⟨fun hlt => ?_, fun hge => ?_⟩⟩
  · have hb := byteAt_b s k
    repeat' (first | apply And.intro | intro _)
    all_goals first
      | trivial
      | omega
      | exact (nm_char (i := k) (by omega) (by unfold nmCh; omega)).symm
      | exact ⟨k + 1, ⟨by omega, fun j hj => if h : j < k then hk.2 j h else by obtain rfl : j = k := (by omega); unfold nmCh; omega⟩, by omega, wrapN (by unfold maxLen; omega)⟩
  · obtain rfl : k = s.size := by omega
    repeat' (first | apply And.intro | intro _)
    all_goals first
      | trivial
      | (rw [btw_iff] at *; omega)
      | (have hb1 := btw_iff.1 (by assumption : btw ((ByteArray.size s : Nat) : Int) 1 12 = true); first | omega | (rw [e1 (by omega)] at *; first | exact nm_sub hk.2 (by assumption) (by assumption) (by assumption) | exact (nm_last (by omega) (by assumption)).symm) | exact (nm_first (by omega) (by assumption)).symm)
      | exact (nameOk_long (by assumption)).symm
def e_i_NameOk : Entry Tryz.prog := ⟨35, [.v tyStr], fun x => True, fun x => .c (.bool (nameOk x.1)), fun _ => [], fun x hx => b_i_NameOk x.1, Tryz.call35⟩
def L_s_NameOk (s : ByteArray) : Nat → List AV → Mem → LoopA
  | 2, tm, M => ⟨Nat, fun y => (anyR (setA tm [(2, .any), (3, .c (.int .i64 ((y : Nat) : Int)))]) 4 36, M), fun y => (y ≤ ByteArray.size s ∧ ∀ j, j < y → ¬ nmBad s j), fun y => (ByteArray.size s - y)⟩
  | _, _, _ => ⟨Unit, fun _ => ([], []), fun _ => False, fun _ => 0⟩
def k0ngt5j (s : ByteArray) (y0 : Nat) : Prop := (T3 (∃ y0' : Nat, (y0' ≤ ByteArray.size s ∧ ∀ j, j < y0' → ¬ nmBad s j) ∧ (ByteArray.size s - y0') < (ByteArray.size s - y0) ∧ ((lxs [.c (.str s), .tp []] (True ∧ leV (.c (.int .i64 (IntKind.wrap .i64 (((y0 : Nat) : Int) + 1)))) (.c (.int .i64 ((y0' : Nat) : Int))) ∧ TN 36 (lxs [.tp [], .tp [], .tp []] True))) ∧ (True) ∧ true = true)))
def k1ngt5j (y0 : Nat) (s : ByteArray) : Prop := ((0 : Int) ≤ ((y0 : Nat) : Int) ∧ (((y0 : Nat) : Int) : Int) < ((ByteArray.size s : Nat) : Int))
theorem b_s_NameOk (s : ByteArray) : BCalls Tryz.prog 63 [.c (.str s)] (.c (.bool (nameOk s))) [] := by
  refine bc0 [e_s_l1In] [] [] [] (L_s_NameOk s) Tryz.func63 (fun hwf => ?_)
  refine Eq.mpr (β := (T2 ((∃ q : Nat, (q ≤ ByteArray.size s ∧ ∀ j, j < q → ¬ nmBad s j) ∧ ((lxs [.c (.str s), .tp []] (True ∧ leV (.c (.int .i64 0)) (.c (.int .i64 ((q : Nat) : Int))) ∧ TN 36 (lxs [.tp [], .tp [], .tp []] True))) ∧ (True) ∧ true = true)) ∧ ∀ y0 : Nat, (y0 ≤ ByteArray.size s ∧ ∀ j, j < y0 → ¬ nmBad s j) → (T4 (bif (ltI ((y0 : Nat) : Int) ((ByteArray.size s : Nat) : Int)) then (T2 ((k1ngt5j y0 s) ∧ (True ∧ (bif (eqI (byteAt s (Int.toNat ((y0 : Nat) : Int))) 47) then (T3 (bif (eqI ((y0 : Nat) : Int) 0) then (T4 (rB false (nameOk s))) else (T7 (bif (eqI ((y0 : Nat) : Int) (IntKind.wrap .i64 (((ByteArray.size s : Nat) : Int) - 1))) then (T2 (rB false (nameOk s))) else (T3 (((0 : Int) ≤ (IntKind.wrap .i64 (((y0 : Nat) : Int) - 1)) ∧ ((IntKind.wrap .i64 (((y0 : Nat) : Int) - 1)) : Int) < ((ByteArray.size s : Nat) : Int)) ∧ (T2 (bif (eqI (byteAt s (Int.toNat (IntKind.wrap .i64 (((y0 : Nat) : Int) - 1)))) 47) then (True ∧ (rB false (nameOk s))) else (k0ngt5j s y0))))))))) else (T2 ((k1ngt5j y0 s) ∧ (T2 (bif (ltI (byteAt s (Int.toNat ((y0 : Nat) : Int))) 97) then (T2 (rB false (nameOk s))) else (T2 ((k1ngt5j y0 s) ∧ (T2 (bif (gtI (byteAt s (Int.toNat ((y0 : Nat) : Int))) 122) then (True ∧ (rB false (nameOk s))) else (k0ngt5j s y0))))))))))))) else (T2 ((True ∧ true = true) ∧ (True ∧ (rB (btw ((ByteArray.size s : Nat) : Int) 1 12) (nameOk s)))))))))) (by kernel_rfl) ?_
  unfold k1ngt5j k0ngt5j T2 T3 T4 T7
  have hm : s.size ≤ maxLen := hwf.1
  unfold maxLen at hm
  have e2 : IntKind.wrap .i64 (((ByteArray.size s : Nat) : Int) - 1) = ((ByteArray.size s : Nat) : Int) - 1 := wrapA (by omega) (by omega)
  simp only [SI2A, eq_self]
  refine ⟨⟨0, ⟨Nat.zero_le _, fun j hj => absurd hj (Nat.not_lt_zero j)⟩, rfl⟩, fun k hk => ⟨fun hlt => ?_, fun hge => ?_⟩⟩
  · have hb := byteAt_b s k
    have e3 : IntKind.wrap .i64 (((k : Nat) : Int) - 1) = ((k : Nat) : Int) - 1 := wrapA (by omega) (by omega)
    have e4 : 1 ≤ k → Int.toNat (((k : Nat) : Int) - 1) = k - 1 := fun h => by omega
    simp only [e2, e3]
    repeat' (first | apply And.intro | intro _)
    all_goals first
      | trivial
      | omega
      | exact (nameOk_no (i := k) (by omega) (by unfold nmBad; first | (right; omega) | (left; refine ⟨by assumption, ?_⟩; first | (left; omega) | (right; left; omega) | (right; right; rw [← e4 (by omega)]; assumption)))).symm
      | exact ⟨k + 1, ⟨by omega, fun j hj => if h : j < k then hk.2 j h else by obtain rfl : j = k := (by omega); unfold nmBad; first | (rintro (⟨q, q2⟩ | ⟨q, q2⟩) <;> omega) | (rw [e4 (by omega)] at *; rintro (⟨q, rfl | q2 | q2⟩ | ⟨q, q2⟩) <;> first | omega | contradiction)⟩, by omega, wrapN (by unfold maxLen; omega)⟩
  · obtain rfl : k = s.size := by omega
    first | exact (nameOk_all hk.2).symm | exact ⟨trivial, (nameOk_all hk.2).symm⟩
def e_s_NameOk : Entry Tryz.prog := ⟨63, [.v tyStr], fun x => True, fun x => .c (.bool (nameOk x.1)), fun _ => [], fun x hx => b_s_NameOk x.1, Tryz.call63⟩
end Go.Proofs.YtoigkpkafgjeaaaGreatDoor
