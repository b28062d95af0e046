/-
  Several texts in one.
-/
import Derived.Test.YtdfanfpembebmaaGreatDoorABmTy
import Derived.Shelf.Strings.Search3
import Derived.Test.YtdfanfpembebmaaGreatDoorALawA
import Derived.Lib.IndexMore
import Derived.Test.YtdfanfpembebmaaGreatDoorABlLib
set_option linter.unusedSimpArgs false
set_option linter.unusedVariables false
namespace Go.Proofs.YtdfanfpembebmaaGreatDoor
open Go.ChangeShapes Go.WideShapes Go.ChangeAt Go.RowKit Go.Joins Go.Deep
open GoRep (rep bulk)
/-- the library's numbers, in this program -/
def sren : Go.Shelf.Ren := ⟨fun | 143 => 46 | 144 => 72 | 217 => 94 | 219 => 69 | 224 => 96 | 225 => 95 | 266 => 108 | 267 => 97 | 314 => 109 | n => n,
  fun | 3 => 3 | 4 => 4 | 5 => 5 | 9 => 9 | 46 => 134 | 51 => 148 | 146 => 149 | n => n,
  fun | 1 => 0 | n => n⟩
open Go.Shelf in
theorem slays : Lays.n144 Tryz.prog sren where
  mixed := by kernel_rfl
  f143 := Tryz.func46.trans (congrArg some (by kernel_rfl))
  f144 := Tryz.func72.trans (congrArg some (by kernel_rfl))
  f217 := Tryz.func94.trans (congrArg some (by kernel_rfl))
  f219 := Tryz.func69.trans (congrArg some (by kernel_rfl))
  f224 := Tryz.func96.trans (congrArg some (by kernel_rfl))
  f225 := Tryz.func95.trans (congrArg some (by kernel_rfl))
  f266 := Tryz.func108.trans (congrArg some (by kernel_rfl))
  f267 := Tryz.func97.trans (congrArg some (by kernel_rfl))
  f314 := Tryz.func109.trans (congrArg some (by kernel_rfl))
  t3 := Tryz.underlying3
  a3 := Tryz.isAgg3
  z3 := Tryz.sizeOf3
  v3 := Tryz.zeroValue3
  t4 := Tryz.underlying4
  a4 := Tryz.isAgg4
  z4 := Tryz.sizeOf4
  v4 := Tryz.zeroValue4
  t5 := Tryz.underlying5
  a5 := Tryz.isAgg5
  z5 := Tryz.sizeOf5
  v5 := Tryz.zeroValue5
  t9 := Tryz.underlying9
  a9 := Tryz.isAgg9
  z9 := Tryz.sizeOf9
  v9 := Tryz.zeroValue9
  t46 := Tryz.underlying134
  a46 := Tryz.isAgg134
  z46 := Tryz.sizeOf134
  v46 := Tryz.zeroValue134
  t51 := Tryz.underlying148
  a51 := Tryz.isAgg148
  z51 := Tryz.sizeOf148
  v51 := Tryz.zeroValue148
  t146 := Tryz.underlying149
  a146 := Tryz.isAgg149
  z146 := Tryz.sizeOf149
  v146 := Tryz.zeroValue149
  g1 := by kernel_rfl
/-- does a text stand in another? -/
def subB (s t : ByteArray) : Bool := Lib.contains s.data.toList t.data.toList
theorem b_strings_Contains (s t : ByteArray) (h : s.size < 4294967281) : BCalls Tryz.prog 72 [.c (.str s), .c (.str t)] (.c (.bool (subB s t))) [] := by
  intro X W vs hX hgl hr
  obtain ⟨v, r, rfl, ⟨rfl, hw⟩, u, r2, rfl, ⟨rfl, hu⟩, hn⟩ := hr
  obtain rfl : r2 = [] := hn
  obtain ⟨m, hm⟩ := hgl.int (g := 0) (by simp [globs])
  refine (Any.strings_Contains slays s t m W h hm).mono fun e W' he => ?_
  obtain ⟨rfl, rfl⟩ := he
  exact ⟨_, [], rfl, Grow.refl W' [], nilM hX, rfl⟩
def e_strings_Contains : Entry Tryz.prog := ⟨72, [.v tyStr, .v tyStr], fun x => ByteArray.size x.1 < 4294967281, fun x => .c (.bool (subB x.1 x.2.1)), fun _ => [], fun x hx => b_strings_Contains x.1 x.2.1 hx, Tryz.call72⟩
end Go.Proofs.YtdfanfpembebmaaGreatDoor
set_option linter.unusedSimpArgs false
set_option linter.unusedVariables false
namespace Go.Proofs.YtdfanfpembebmaaGreatDoor
open Go.ChangeShapes Go.WideShapes Go.ChangeAt Go.RowKit Go.Joins Go.Deep
open GoRep (rep bulk)

/-- a place of a name that is wrong -/
def nmBad (s : ByteArray) (i : Nat) : Prop := (byteAt s i = 47 ∧ (i = 0 ∨ i + 1 = s.size ∨ byteAt s (i - 1) = 47)) ∨ (byteAt s i ≠ 47 ∧ (byteAt s i < 97 ∨ 122 < byteAt s i))
instance (s : ByteArray) (i : Nat) : Decidable (nmBad s i) := by unfold nmBad; infer_instance
/-- no letter, no digit -/
def tgBad (x : Int) : Prop := ¬ ((97 ≤ x ∧ x ≤ 122) ∨ (65 ≤ x ∧ x ≤ 90) ∨ (48 ≤ x ∧ x ≤ 57))
instance (x : Int) : Decidable (tgBad x) := by unfold tgBad; infer_instance
end Go.Proofs.YtdfanfpembebmaaGreatDoor
set_option linter.unusedSimpArgs false
set_option linter.unusedVariables false
set_option maxRecDepth 100000
set_option maxHeartbeats 4000000
namespace Go.Proofs.YtdfanfpembebmaaGreatDoor
open Go.ChangeShapes Go.WideShapes Go.ChangeAt Go.RowKit Go.Joins Go.Deep
open GoRep (rep bulk)

theorem b_i_within (n : Int) (lo : Int) (hi : Int) : BCalls Tryz.prog 40 [.c (.int .i64 n), .c (.int .i64 lo), .c (.int .i64 hi)] (.c (.bool (btw n lo hi))) [] := by
  refine bc0 [] [] [] [] L0 Tryz.func40 (fun hwf => ?_)
  refine Eq.mpr (β := (True ∧ (True ∧ (True ∧ (True ∧ (True ∧ (bif (geI n lo) then (True ∧ (True ∧ (True ∧ (True ∧ (True ∧ (rB (leI n hi) (btw n lo hi))))))) else (True ∧ (True ∧ (rB false (btw n lo hi))))))))))) (by kernel_rfl) ?_
  simp only [SI2A, eq_self]
  repeat' (first | apply And.intro | intro _)
  all_goals first | trivial | omega | (simp [btw]; omega) | (rw [Bool.eq_iff_iff]; simp [btw, leI_true]; omega)
def e_i_within : Entry Tryz.prog := ⟨40, [.v tyInt, .v tyInt, .v tyInt], fun x => True, fun x => .c (.bool (btw x.1 x.2.1 x.2.2.1)), fun _ => [], fun x hx => b_i_within x.1 x.2.1 x.2.2.1, Tryz.call40⟩
theorem b_s_l1In (n : Int) (lo : Int) (hi : Int) : BCalls Tryz.prog 45 [.c (.int .i64 n), .c (.int .i64 lo), .c (.int .i64 hi)] (.c (.bool (btw n lo hi))) [] := by
  refine bc0 [] [] [] [] L0 Tryz.func45 (fun hwf => ?_)
  refine Eq.mpr (β := (True ∧ (True ∧ (True ∧ (True ∧ (True ∧ (bif (geI n lo) then (True ∧ (True ∧ (True ∧ (True ∧ (True ∧ (rB (leI n hi) (btw n lo hi))))))) else (True ∧ (True ∧ (rB false (btw n lo hi))))))))))) (by kernel_rfl) ?_
  simp only [SI2A, eq_self]
  repeat' (first | apply And.intro | intro _)
  all_goals first | trivial | omega | (simp [btw]; omega) | (rw [Bool.eq_iff_iff]; simp [btw, leI_true]; omega)
def e_s_l1In : Entry Tryz.prog := ⟨45, [.v tyInt, .v tyInt, .v tyInt], fun x => True, fun x => .c (.bool (btw x.1 x.2.1 x.2.2.1)), fun _ => [], fun x hx => b_s_l1In x.1 x.2.1 x.2.2.1, Tryz.call45⟩
theorem b_i_isBoxNote (n : GNote) : BCalls Tryz.prog 85 [.ag (cellsOf tyNote n)] (.c (.bool (eqI n.1 1))) [] := by
  refine bc0 [] [] [] [] L0 Tryz.func85 (fun hwf => ?_)
  refine Eq.mpr (β := (True ∧ (True ∧ (True ∧ (True ∧ (True ∧ (True ∧ (rB (eqI n.1 1) (eqI n.1 1))))))))) (by kernel_rfl) ?_
  simp only [SIA, eq_self]
  repeat' (first | apply And.intro | intro _)
  all_goals (first | trivial | (rw [Bool.eq_iff_iff]; simp_all [Prod.ext_iff, EQA]; done) | (simp_all [Prod.ext_iff, EQA]; done) | omega)
def e_i_isBoxNote : Entry Tryz.prog := ⟨85, [.s tyNote], fun x => True, fun x => .c (.bool (eqI x.1.1 1)), fun _ => [], fun x hx => b_i_isBoxNote x.1, Tryz.call85⟩
theorem b_i_isOtherNote (n : GNote) : BCalls Tryz.prog 86 [.ag (cellsOf tyNote n)] (.c (.bool (neI n.1 1))) [] := by
  refine bc0 [] [] [] [] L0 Tryz.func86 (fun hwf => ?_)
  refine Eq.mpr (β := (True ∧ (True ∧ (True ∧ (True ∧ (True ∧ (True ∧ (rB (neI n.1 1) (neI n.1 1))))))))) (by kernel_rfl) ?_
  simp only [SIA, eq_self]
  repeat' (first | apply And.intro | intro _)
  all_goals (first | trivial | (rw [Bool.eq_iff_iff]; simp_all [Prod.ext_iff, EQA]; done) | (simp_all [Prod.ext_iff, EQA]; done) | omega)
def e_i_isOtherNote : Entry Tryz.prog := ⟨86, [.s tyNote], fun x => True, fun x => .c (.bool (neI x.1.1 1)), fun _ => [], fun x hx => b_i_isOtherNote x.1, Tryz.call86⟩
end Go.Proofs.YtdfanfpembebmaaGreatDoor
