/-
  One commit by the reference.
  No condition but what the arguments' cells hold. Printed by vcgen.py.
-/
import Derived.Test.YtoigkpkafgjeaaaGreatDoorOBlApp
set_option linter.unusedSimpArgs false
set_option linter.unusedVariables false
set_option maxRecDepth 100000
set_option maxHeartbeats 4000000
namespace Go.Proofs.YtoigkpkafgjeaaaGreatDoor
open Go.ChangeShapes Go.WideShapes Go.ChangeAt Go.RowKit Go.Joins Go.Deep
open GoRep (rep bulk)

def apB (l : List GBox) (m : GCommit) : List GBox := bif appl l m then perfB l m else l
def preA (l : List GBox) (m : GCommit) : Prop := smallB l ∧ ¬ (appl l m = true ∧ m.1 = 3)
def k46119n (l : List GBox) (m : GCommit) : Prop := ((4 : Nat) = 4 ∧ (0 : Int) ≤ boxW l m.2.1 ∧ (boxW l m.2.1 : Int) < ((List.length l : Nat) : Int))
def k76119n (r0 : List GBox) (l : List GBox) (m : GCommit) : Prop := (T3 ((((r0 = (apB l m)) ∧ (true = true ∧ leC (.bool true) (.bool (appl l m))) ∧ True)) ∧ true = true))
def k06119n (l : List GBox) (m : GCommit) : Prop := ((True ∧ List.length (([] : List GMsg) ++ (List.drop (Int.toNat 0) (List.take (Int.toNat (placeO (nth_Box l (Int.toNat (boxW l m.2.1))).2.2.2 m.2.2.1)) (nth_Box l (Int.toNat (boxW l m.2.1))).2.2.2))) + List.length (List.drop (Int.toNat (IntKind.wrap .i64 (placeO (nth_Box l (Int.toNat (boxW l m.2.1))).2.2.2 m.2.2.1 + 1))) (List.take (Int.toNat ((List.length (nth_Box l (Int.toNat (boxW l m.2.1))).2.2.2 : Nat) : Int)) (nth_Box l (Int.toNat (boxW l m.2.1))).2.2.2)) ≤ rowMax) ∧ ((k46119n l m) ∧ (T2 (∀ r0 : List GBox, r0 = (List.set l (Int.toNat (boxW l m.2.1)) ((nth_Box l (Int.toNat (boxW l m.2.1))).1, ((nth_Box l (Int.toNat (boxW l m.2.1))).2.1, ((nth_Box l (Int.toNat (boxW l m.2.1))).2.2.1, ((([] : List GMsg) ++ (List.drop (Int.toNat 0) (List.take (Int.toNat (placeO (nth_Box l (Int.toNat (boxW l m.2.1))).2.2.2 m.2.2.1)) (nth_Box l (Int.toNat (boxW l m.2.1))).2.2.2))) ++ (List.drop (Int.toNat (IntKind.wrap .i64 (placeO (nth_Box l (Int.toNat (boxW l m.2.1))).2.2.2 m.2.2.1 + 1))) (List.take (Int.toNat ((List.length (nth_Box l (Int.toNat (boxW l m.2.1))).2.2.2 : Nat) : Int)) (nth_Box l (Int.toNat (boxW l m.2.1))).2.2.2))))))) → (k76119n r0 l m)))))
def k26119n (l : List GBox) (m : GCommit) : Prop := ((3 : Nat) = 3 ∧ ((0 : Int) ≤ (IntKind.wrap .i64 (placeO (nth_Box l (Int.toNat (boxW l m.2.1))).2.2.2 m.2.2.1 + 1)) ∧ ((IntKind.wrap .i64 (placeO (nth_Box l (Int.toNat (boxW l m.2.1))).2.2.2 m.2.2.1 + 1)) : Int) ≤ ((List.length (nth_Box l (Int.toNat (boxW l m.2.1))).2.2.2 : Nat) : Int) ∧ (((List.length (nth_Box l (Int.toNat (boxW l m.2.1))).2.2.2 : Nat) : Int) : Int) ≤ ((List.length (nth_Box l (Int.toNat (boxW l m.2.1))).2.2.2 : Nat) : Int)))
def k36119n (l : List GBox) (m : GCommit) : Prop := (True ∧ List.length ([] : List GMsg) + List.length (List.drop (Int.toNat 0) (List.take (Int.toNat (placeO (nth_Box l (Int.toNat (boxW l m.2.1))).2.2.2 m.2.2.1)) (nth_Box l (Int.toNat (boxW l m.2.1))).2.2.2)) ≤ rowMax)
def k16119n (l : List GBox) (m : GCommit) : Prop := (True ∧ (((k36119n l m) ∧ (True ∧ ((k26119n l m) ∧ (k06119n l m)))) ∧ ((True ∧ (((k36119n l m) ∧ ((k26119n l m) ∧ (k06119n l m))) ∧ (((k26119n l m) ∧ ((k36119n l m) ∧ (k06119n l m)))))))))
def k56119n (l : List GBox) (m : GCommit) : Prop := (True ∧ ((k16119n l m) ∧ ((True ∧ ((True ∧ (((k36119n l m) ∧ ((k26119n l m) ∧ (k06119n l m))) ∧ (((k26119n l m) ∧ ((k36119n l m) ∧ (k06119n l m)))))) ∧ (((k26119n l m) ∧ (True ∧ ((k36119n l m) ∧ (k06119n l m))))))))))
def k66119n (l : List GBox) (m : GCommit) : Prop := (T2 ((k26119n l m) ∧ (k06119n l m)))
def k86119n (l : List GBox) (m : GCommit) : Prop := (((k36119n l m) ∧ (True ∧ (k66119n l m))) ∧ ((True ∧ (((k36119n l m) ∧ (k66119n l m)) ∧ ((k16119n l m) ∧ ((k16119n l m))))) ∧ ((True ∧ (((k36119n l m) ∧ (k66119n l m)) ∧ ((k16119n l m)))))))
theorem b_Applied_no (l : List GBox) (m : GCommit) (hpre : preA l m) : BCalls Tryz.prog 82 [.c (.hs .no tyBox l), .ag (cellsOf tyCommit m)] (.tp [.c (.row 0 0), .c (.bool (appl l m))]) [.row tyBox (apB l m) 0 0 none] := by
  refine bc0 [e_s_l9Copies, e_s_Applies, e_s_BoxWith, e_s_PlaceOf] [] [] [e_s_l10Lay, e_s_l10Without] L0 Tryz.func82 (fun hwf => ?_)
  refine Eq.mpr (β := (T4 ((smallB l ∧ true = true) ∧ (T3 ((True ∧ true = true) ∧ (True ∧ (bif (!(appl l m)) then (T3 ((((l = (apB l m)) ∧ (true = true ∧ leC (.bool false) (.bool (appl l m))) ∧ True)) ∧ true = true)) else (T3 ((True ∧ true = true) ∧ (T5 (bif (eqI m.1 1) then (T6 (((preY l ∧ ((l = l) ∧ (((true = true ∧ leC (.str m.2.2.2.2.1) (.str m.2.2.2.2.1)) ∧ (true = true ∧ leC (.int .i64 m.2.1) (.int .i64 m.2.1)) ∧ (true = true ∧ leC (.int .i64 1) (.int .i64 1)) ∧ (([] : List GMsg) = []) ∧ True)) ∧ True)) ∧ true = true) ∧ ∀ r0 : List GBox, r0 = ([] : List GBox) → (T2 (((((layB l (m.2.2.2.2.1, (m.2.1, (1, ([] : List GMsg))))) = (apB l m)) ∧ (true = true ∧ leC (.bool true) (.bool (appl l m))) ∧ True)) ∧ true = true)))) else (T2 (bif (eqI m.1 2) then (T2 (((preB l (boxW l m.2.1) ∧ ((l = l) ∧ True)) ∧ true = true) ∧ ∀ r0 : List GBox, r0 = ([] : List GBox) → (T2 (((((outB l (Int.toNat (boxW l m.2.1))) = (apB l m)) ∧ (true = true ∧ leC (.bool true) (.bool (appl l m))) ∧ True)) ∧ true = true)))) else (T2 (bif (eqI m.1 3) then (T2 ((k46119n l m) ∧ (T7 ((true = true ∧ true = true) ∧ (T2 ((((preB l (boxW l m.2.1) ∧ ((l = l) ∧ True)) ∧ true = true) ∧ ∀ r0 : List GBox, r0 = ([] : List GBox) → (True ∧ False)) ∧ ((True ∧ (((preB l (boxW l m.2.1) ∧ ((l = l) ∧ True)) ∧ true = true) ∧ ∀ r0 : List GBox, r0 = ([] : List GBox) → False))))))))) else (T2 (bif (eqI m.1 4) then ((true = true ∧ true = true) ∧ (T4 ((k46119n l m) ∧ (T10 ((True ∧ List.length (nth_Box l (Int.toNat (boxW l m.2.1))).2.2.2 + List.length ([(m.2.2.1, (m.2.2.2.1, m.2.2.2.2.2))]) ≤ rowMax) ∧ ((k46119n l m) ∧ (True ∧ (((Int.toNat (boxW l m.2.1)) : Nat) = (Int.toNat (boxW l m.2.1)) ∧ (T5 (((4 : Nat) = 4 ∧ (0 : Int) ≤ boxW l m.2.1 ∧ (boxW l m.2.1 : Int) < ((List.length (List.set l (Int.toNat (boxW l m.2.1)) ((nth_Box l (Int.toNat (boxW l m.2.1))).1, ((nth_Box l (Int.toNat (boxW l m.2.1))).2.1, ((nth_Box l (Int.toNat (boxW l m.2.1))).2.2.1, ((nth_Box l (Int.toNat (boxW l m.2.1))).2.2.2 ++ [(m.2.2.1, (m.2.2.2.1, m.2.2.2.2.2))]))))) : Nat) : Int)) ∧ (T2 (∀ r0 : List GBox, r0 = (List.set (List.set l (Int.toNat (boxW l m.2.1)) ((nth_Box l (Int.toNat (boxW l m.2.1))).1, ((nth_Box l (Int.toNat (boxW l m.2.1))).2.1, ((nth_Box l (Int.toNat (boxW l m.2.1))).2.2.1, ((nth_Box l (Int.toNat (boxW l m.2.1))).2.2.2 ++ [(m.2.2.1, (m.2.2.2.1, m.2.2.2.2.2))]))))) (Int.toNat (boxW l m.2.1)) ((nth_Box (List.set l (Int.toNat (boxW l m.2.1)) ((nth_Box l (Int.toNat (boxW l m.2.1))).1, ((nth_Box l (Int.toNat (boxW l m.2.1))).2.1, ((nth_Box l (Int.toNat (boxW l m.2.1))).2.2.1, ((nth_Box l (Int.toNat (boxW l m.2.1))).2.2.2 ++ [(m.2.2.1, (m.2.2.2.1, m.2.2.2.2.2))]))))) (Int.toNat (boxW l m.2.1))).1, ((nth_Box (List.set l (Int.toNat (boxW l m.2.1)) ((nth_Box l (Int.toNat (boxW l m.2.1))).1, ((nth_Box l (Int.toNat (boxW l m.2.1))).2.1, ((nth_Box l (Int.toNat (boxW l m.2.1))).2.2.1, ((nth_Box l (Int.toNat (boxW l m.2.1))).2.2.2 ++ [(m.2.2.1, (m.2.2.2.1, m.2.2.2.2.2))]))))) (Int.toNat (boxW l m.2.1))).2.1, ((IntKind.wrap .i64 (m.2.2.1 + 1)), (nth_Box (List.set l (Int.toNat (boxW l m.2.1)) ((nth_Box l (Int.toNat (boxW l m.2.1))).1, ((nth_Box l (Int.toNat (boxW l m.2.1))).2.1, ((nth_Box l (Int.toNat (boxW l m.2.1))).2.2.1, ((nth_Box l (Int.toNat (boxW l m.2.1))).2.2.2 ++ [(m.2.2.1, (m.2.2.2.1, m.2.2.2.2.2))]))))) (Int.toNat (boxW l m.2.1))).2.2.2)))) → (k76119n r0 l m))))))))))))) else ((true = true ∧ true = true) ∧ (T2 ((k46119n l m) ∧ (T3 ((True ∧ true = true ∧ true = true) ∧ (T4 (bif (eqI m.1 5) then ((true = true ∧ true = true) ∧ (T2 ((k46119n l m) ∧ (T5 (((3 : Nat) = 3 ∧ (0 : Int) ≤ placeO (nth_Box l (Int.toNat (boxW l m.2.1))).2.2.2 m.2.2.1 ∧ (placeO (nth_Box l (Int.toNat (boxW l m.2.1))).2.2.2 m.2.2.1 : Int) < ((List.length (nth_Box l (Int.toNat (boxW l m.2.1))).2.2.2 : Nat) : Int)) ∧ (T2 (∀ r0 : List GBox, r0 = (List.set l (Int.toNat (boxW l m.2.1)) ((nth_Box l (Int.toNat (boxW l m.2.1))).1, ((nth_Box l (Int.toNat (boxW l m.2.1))).2.1, ((nth_Box l (Int.toNat (boxW l m.2.1))).2.2.1, (List.set (nth_Box l (Int.toNat (boxW l m.2.1))).2.2.2 (Int.toNat (placeO (nth_Box l (Int.toNat (boxW l m.2.1))).2.2.2 m.2.2.1)) ((nth_Msg (nth_Box l (Int.toNat (boxW l m.2.1))).2.2.2 (Int.toNat (placeO (nth_Box l (Int.toNat (boxW l m.2.1))).2.2.2 m.2.2.1))).1, (m.2.2.2.1, (nth_Msg (nth_Box l (Int.toNat (boxW l m.2.1))).2.2.2 (Int.toNat (placeO (nth_Box l (Int.toNat (boxW l m.2.1))).2.2.2 m.2.2.1))).2.2))))))) → (k76119n r0 l m)))))))) else ((true = true ∧ true = true) ∧ (T4 ((k46119n l m) ∧ (T3 (((3 : Nat) = 3 ∧ ((0 : Int) ≤ 0 ∧ (0 : Int) ≤ placeO (nth_Box l (Int.toNat (boxW l m.2.1))).2.2.2 m.2.2.1 ∧ (placeO (nth_Box l (Int.toNat (boxW l m.2.1))).2.2.2 m.2.2.1 : Int) ≤ ((List.length (nth_Box l (Int.toNat (boxW l m.2.1))).2.2.2 : Nat) : Int))) ∧ (T3 ((True ∧ (((k36119n l m) ∧ ((k46119n l m) ∧ (True ∧ (k66119n l m)))) ∧ (((k46119n l m) ∧ (k86119n l m)) ∧ ((True ∧ (((k36119n l m) ∧ ((k46119n l m) ∧ (k66119n l m))) ∧ (((k46119n l m) ∧ (((k36119n l m) ∧ (k66119n l m)) ∧ ((k16119n l m))))))))))) ∧ (((k46119n l m) ∧ ((True ∧ (k86119n l m)) ∧ ((True ∧ ((True ∧ (((k36119n l m) ∧ (k66119n l m)) ∧ ((k16119n l m) ∧ ((k16119n l m))))) ∧ ((k56119n l m) ∧ ((k56119n l m))))) ∧ ((True ∧ ((True ∧ (((k36119n l m) ∧ (k66119n l m)) ∧ ((k16119n l m)))) ∧ ((k56119n l m)))))))) ∧ ((True ∧ ((True ∧ (((k36119n l m) ∧ ((k46119n l m) ∧ (k66119n l m))) ∧ (((k46119n l m) ∧ (((k36119n l m) ∧ (k66119n l m)) ∧ ((k16119n l m))))))) ∧ (((k46119n l m) ∧ ((True ∧ (((k36119n l m) ∧ (k66119n l m)) ∧ ((k16119n l m)))) ∧ ((k56119n l m)))))))))))))))))))))))))))))))))))))))) (by kernel_rfl) ?_
  unfold k86119n k66119n k56119n k16119n k36119n k26119n k06119n k76119n k46119n T10 T2 T3 T4 T5 T6 T7
  simp only [btw_iff, btw_not, flagsOk, Bool.not_true, Bool.not_false, SI2A, eq_self]
  refine ⟨hpre.1, fun hf => ?_, fun ha => ?_⟩
  · unfold apB
    rw [hf]
    exact ⟨rfl, rfl⟩
  · have hap : apB l m = perfB l m := by
      unfold apB
      rw [ha]
      rfl
    simp only [hap, ha]
    obtain ⟨hs, hl4, hbx, hcm, hft⟩ := appl_facts ha
    have hw := boxW_lt l m.2.1
    have hm := boxIx_lt l m.2.2.2.2.1
    have hp := placeO_lt (bxB l m).2.2.2 m.2.2.1
    have hc := commitOk_iff.1 hcm
    have hne : m.1 ≠ 1 → 0 ≤ boxW l m.2.1 := fun h => by
      rcases Int.lt_or_le (boxW l m.2.1) 0 with h1 | h1
      · exfalso
        unfold fitsB at hft
        rw [if_neg h, if_pos h1] at hft
        cases hft
      · exact h1
    have hk : m.1 ≠ 1 → Int.toNat (boxW l m.2.1) < l.length := fun h => by have := hne h; omega
    have hb6 : m.1 ≠ 1 → (bxB l m).2.2.2.length ≤ 6 ∧ (1 ≤ (bxB l m).2.2.1 ∧ (bxB l m).2.2.1 ≤ 999999999) := fun h => by
      have := boxOk_iff.1 (hbx _ (hk h))
      exact ⟨this.2.2.2.2, this.2.2.2.1⟩
    have hpm : m.1 = 5 ∨ m.1 = 6 → 0 ≤ placeO (bxB l m).2.2.2 m.2.2.1 := fun h => by
      have h1 : ¬ boxW l m.2.1 < 0 := by have := hne (by omega); omega
      unfold fitsB at hft
      rw [if_neg (by omega), if_neg h1, if_neg (by omega), if_neg (by omega), if_pos h] at hft
      simpa using hft
    have hwr : IntKind.wrap .i64 (boxW l m.2.1 + 1) = boxW l m.2.1 + 1 := wrapA (by omega) (by omega)
    have hwp : m.1 ≠ 1 → IntKind.wrap .i64 (placeO (bxB l m).2.2.2 m.2.2.1 + 1) = placeO (bxB l m).2.2.2 m.2.2.1 + 1 := fun h => by have := hb6 h; exact wrapA (by omega) (by omega)
    have hf := fitsB_iff.1 hft
    refine ⟨fun h1 => ⟨by show List.length l ≤ 1048576; omega, fun _ _ => ⟨by unfold perfB; rw [if_pos h1], trivial⟩⟩, fun h1 => ⟨fun h2 => ⟨⟨hne h1, hw.2, by omega⟩, fun _ _ => ⟨by unfold perfB; rw [if_neg h1, if_pos h2], trivial⟩⟩, fun h2 => ⟨fun h3 => absurd ⟨ha, h3⟩ hpre.2, fun h3 => ⟨fun h4 => ?_, fun h4 => ⟨⟨hne h1, hw.2⟩, fun h5 => ?_, fun h5 => ?_⟩⟩⟩⟩⟩
    · have e : ∀ X : GBox, nth_Box (l.set (Int.toNat (boxW l m.2.1)) X) (Int.toNat (boxW l m.2.1)) = X := fun X => nth_set_self (t := tyBox) (hk h1)
      have h6 : List.length (nth_Box l (Int.toNat (boxW l m.2.1))).2.2.2 ≤ 6 ∧ 1 ≤ (nth_Box l (Int.toNat (boxW l m.2.1))).2.2.1 ∧ (nth_Box l (Int.toNat (boxW l m.2.1))).2.2.1 ≤ 999999999 := hb6 h1
      have hu : m.2.2.1 = (nth_Box l (Int.toNat (boxW l m.2.1))).2.2.1 := by
        rcases hf with h | ⟨_, _, h | h | h | h⟩
        · omega
        · omega
        · exact h.2.1
        · omega
        · omega
      simp only [e, List.set_set, List.length_set]
      rw [wrapA (by omega) (by omega)]
      refine ⟨⟨hne h1, hw.2⟩, by unfold rowMax; simp; omega, ⟨hne h1, hw.2⟩, ⟨hne h1, hw.2⟩, fun r0 hr0 => ⟨?_, trivial⟩⟩
      subst hr0
      unfold perfB
      rw [if_neg h1, if_neg h2, if_neg h3, if_pos h4, hu]
    · refine ⟨⟨hne h1, hw.2⟩, ⟨hpm (.inl h5), hp.2⟩, fun r0 hr0 => ⟨?_, trivial⟩⟩
      subst hr0
      unfold perfB
      rw [if_neg h1, if_neg h2, if_neg h3, if_neg h4, if_pos h5]
    · have h6 : m.1 = 6 := by rcases hc.2 with h | h | h | h | h <;> omega
      obtain ⟨ms, hms⟩ : ∃ ms, ms = (nth_Box l (Int.toNat (boxW l m.2.1))).2.2.2 := ⟨_, rfl⟩
      obtain ⟨p, hpe⟩ : ∃ p, p = placeO ms m.2.2.1 := ⟨_, rfl⟩
      have hml : List.length ms ≤ 6 := by rw [hms]; exact (hb6 h1).1
      have hp0 : 0 ≤ p := by rw [hpe, hms]; exact hpm (.inr h6)
      have hpl : p < ((List.length ms : Nat) : Int) := by rw [hpe, hms]; exact hp.2
      have hres : perfB l m = l.set (Int.toNat (boxW l m.2.1)) ((nth_Box l (Int.toNat (boxW l m.2.1))).1, (nth_Box l (Int.toNat (boxW l m.2.1))).2.1, (nth_Box l (Int.toNat (boxW l m.2.1))).2.2.1, List.take (Int.toNat p) ms ++ List.drop (Int.toNat p + 1) ms) := by
        unfold perfB
        rw [if_neg h1, if_neg h2, if_neg h3, if_neg h4, if_neg h5, hpe, hms]
      rw [hres]
      simp only [← hms, ← hpe]
      have hk2 := hne h1
      have hw2 := hw.2
      have e1 : Int.toNat (p + 1) = Int.toNat p + 1 := by omega
      simp only [wrapA (show -9223372036854775808 ≤ p + 1 by omega) (show p + 1 ≤ 9223372036854775807 by omega), e1, Int.toNat_zero, List.drop_zero, List.nil_append, List.take_length, List.length_nil, Nat.zero_add, List.length_append, List.length_take, List.length_drop]
      clear hres hpe hms hft hpm hp hb6 hwp hbx
      unfold rowMax
      repeat' (first | apply And.intro | intro _)
      all_goals first
        | trivial
        | omega
        | assumption
end Go.Proofs.YtoigkpkafgjeaaaGreatDoor
