/-
  strings.Contains by the library's contract, as an entry of the machine's tables.
  No condition but what the arguments' cells hold.
-/
import Derived.Test.YtkompmgleojmlaaDoorEBmTy
import Derived.Shelf.Strings.Search3
set_option linter.unusedSimpArgs false
set_option linter.unusedVariables false
namespace Go.Proofs.YtkompmgleojmlaaDoor
open Go.ChangeShapes Go.WideShapes Go.ChangeAt Go.RowKit Go.Joins Go.Deep
open GoRep (rep bulk)
/-- the library's numbers, in this program -/
def sren : Go.Shelf.Ren := ⟨fun | 143 => 14 | 144 => 27 | 217 => 30 | 219 => 23 | 224 => 32 | 225 => 31 | 266 => 39 | 267 => 33 | 314 => 40 | n => n,
  fun | 3 => 3 | 4 => 4 | 5 => 5 | 9 => 9 | 46 => 48 | 51 => 54 | 146 => 55 | n => n,
  fun | 1 => 0 | n => n⟩
open Go.Shelf in
theorem slays : Lays.n144 Tryd.prog sren where
  mixed := by kernel_rfl
  f143 := Tryd.func14.trans (congrArg some (by kernel_rfl))
  f144 := Tryd.func27.trans (congrArg some (by kernel_rfl))
  f217 := Tryd.func30.trans (congrArg some (by kernel_rfl))
  f219 := Tryd.func23.trans (congrArg some (by kernel_rfl))
  f224 := Tryd.func32.trans (congrArg some (by kernel_rfl))
  f225 := Tryd.func31.trans (congrArg some (by kernel_rfl))
  f266 := Tryd.func39.trans (congrArg some (by kernel_rfl))
  f267 := Tryd.func33.trans (congrArg some (by kernel_rfl))
  f314 := Tryd.func40.trans (congrArg some (by kernel_rfl))
  t3 := Tryd.underlying3
  a3 := Tryd.isAgg3
  z3 := Tryd.sizeOf3
  v3 := Tryd.zeroValue3
  t4 := Tryd.underlying4
  a4 := Tryd.isAgg4
  z4 := Tryd.sizeOf4
  v4 := Tryd.zeroValue4
  t5 := Tryd.underlying5
  a5 := Tryd.isAgg5
  z5 := Tryd.sizeOf5
  v5 := Tryd.zeroValue5
  t9 := Tryd.underlying9
  a9 := Tryd.isAgg9
  z9 := Tryd.sizeOf9
  v9 := Tryd.zeroValue9
  t46 := Tryd.underlying48
  a46 := Tryd.isAgg48
  z46 := Tryd.sizeOf48
  v46 := Tryd.zeroValue48
  t51 := Tryd.underlying54
  a51 := Tryd.isAgg54
  z51 := Tryd.sizeOf54
  v51 := Tryd.zeroValue54
  t146 := Tryd.underlying55
  a146 := Tryd.isAgg55
  z146 := Tryd.sizeOf55
  v146 := Tryd.zeroValue55
  g1 := by kernel_rfl
/-- does a text stand in another? -/
def subB (s t : ByteArray) : Bool := Lib.contains s.data.toList t.data.toList
theorem b_strings_Contains (s t : ByteArray) (h : s.size < 4294967281) : BCalls Tryd.prog 27 [.c (.str s), .c (.str t)] (.c (.bool (subB s t))) [] := by
  intro X W vs hX hgl hr
  obtain ⟨v, r, rfl, ⟨rfl, hw⟩, u, r2, rfl, ⟨rfl, hu⟩, hn⟩ := hr
  obtain rfl : r2 = [] := hn
  obtain ⟨m, hm⟩ := hgl.int (g := 0) (by simp [globs])
  refine (Any.strings_Contains slays s t m W h hm).mono fun e W' he => ?_
  obtain ⟨rfl, rfl⟩ := he
  exact ⟨_, [], rfl, Grow.refl W' [], nilM hX, rfl⟩
def e_strings_Contains : Entry Tryd.prog := ⟨27, [.v tyStr, .v tyStr], fun x => ByteArray.size x.1 < 4294967281, fun x => .c (.bool (subB x.1 x.2.1)), fun _ => [], fun x hx => b_strings_Contains x.1 x.2.1 hx, Tryd.call27⟩
end Go.Proofs.YtkompmgleojmlaaDoor
