/-
  strings.Contains by the library's contract, as an entry of the machine's tables.
  No condition but what the arguments' cells hold.
-/
import Derived.Test.YtpokjemdpgjngaaBmTy
import Derived.Shelf.Strings.Search3
set_option linter.unusedSimpArgs false
set_option linter.unusedVariables false
namespace Go.Proofs.Ytpokjemdpgjngaa
open Go.ChangeShapes Go.WideShapes Go.ChangeAt Go.RowKit Go.Joins Go.Deep
open GoRep (rep bulk)
/-- the library's numbers, in this program -/
def sren : Go.Shelf.Ren := ⟨fun | 143 => 113 | 144 => 105 | 217 => 118 | 219 => 117 | 224 => 120 | 225 => 119 | 266 => 122 | 267 => 121 | 314 => 123 | n => n,
  fun | 3 => 3 | 4 => 4 | 5 => 5 | 9 => 9 | 46 => 81 | 51 => 160 | 146 => 161 | n => n,
  fun | 1 => 0 | n => n⟩
open Go.Shelf in
theorem slays : Lays.n144 Try.prog sren where
  mixed := by kernel_rfl
  f143 := Try.func113.trans (congrArg some (by kernel_rfl))
  f144 := Try.func105.trans (congrArg some (by kernel_rfl))
  f217 := Try.func118.trans (congrArg some (by kernel_rfl))
  f219 := Try.func117.trans (congrArg some (by kernel_rfl))
  f224 := Try.func120.trans (congrArg some (by kernel_rfl))
  f225 := Try.func119.trans (congrArg some (by kernel_rfl))
  f266 := Try.func122.trans (congrArg some (by kernel_rfl))
  f267 := Try.func121.trans (congrArg some (by kernel_rfl))
  f314 := Try.func123.trans (congrArg some (by kernel_rfl))
  t3 := Try.underlying3
  a3 := Try.isAgg3
  z3 := Try.sizeOf3
  v3 := Try.zeroValue3
  t4 := Try.underlying4
  a4 := Try.isAgg4
  z4 := Try.sizeOf4
  v4 := Try.zeroValue4
  t5 := Try.underlying5
  a5 := Try.isAgg5
  z5 := Try.sizeOf5
  v5 := Try.zeroValue5
  t9 := Try.underlying9
  a9 := Try.isAgg9
  z9 := Try.sizeOf9
  v9 := Try.zeroValue9
  t46 := Try.underlying81
  a46 := Try.isAgg81
  z46 := Try.sizeOf81
  v46 := Try.zeroValue81
  t51 := Try.underlying160
  a51 := Try.isAgg160
  z51 := Try.sizeOf160
  v51 := Try.zeroValue160
  t146 := Try.underlying161
  a146 := Try.isAgg161
  z146 := Try.sizeOf161
  v146 := Try.zeroValue161
  g1 := by kernel_rfl
/-- does a text stand in another? -/
def subB (s t : ByteArray) : Bool := Lib.contains s.data.toList t.data.toList
theorem b_strings_Contains (s t : ByteArray) (h : s.size < 4294967281) : BCalls Try.prog 105 [.c (.str s), .c (.str t)] (.c (.bool (subB s t))) [] := by
  intro X W vs hX hgl hr
  obtain ⟨v, r, rfl, ⟨rfl, hw⟩, u, r2, rfl, ⟨rfl, hu⟩, hn⟩ := hr
  obtain rfl : r2 = [] := hn
  obtain ⟨⟨m, hm⟩, _⟩ := hgl 0 (List.mem_cons_self)
  refine (Any.strings_Contains slays s t m W h hm).mono fun e W' he => ?_
  obtain ⟨rfl, rfl⟩ := he
  exact ⟨_, [], rfl, Grow.refl W' [], nilM hX, rfl⟩
def e_strings_Contains : Entry Try.prog := ⟨105, [.v tyStr, .v tyStr], fun x => ByteArray.size x.1 < 4294967281, fun x => .c (.bool (subB x.1 x.2.1)), fun _ => [], fun x hx => b_strings_Contains x.1 x.2.1 hx, Try.call105⟩
end Go.Proofs.Ytpokjemdpgjngaa
