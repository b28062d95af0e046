/-
  The law's function markText, for the abstract machine.
  No condition.
-/
import Derived.Test.YtpokjemdpgjngaaMarkText
import Derived.Test.YtpokjemdpgjngaaLawA
set_option linter.unusedSimpArgs false
set_option linter.unusedVariables false
namespace Go.Proofs.Ytpokjemdpgjngaa
open Go.ChangeShapes Go.WideShapes Go.ChangeAt Go.RowKit Go.Joins Go.Deep
open GoRep (rep bulk)
open GoMark (mrk cnt mrkI cntI)

abbrev markP (k : Int) : Prop := 0 ≤ k ∧ k ≤ 4611686018427387904
theorem grow_of_ext (W : World) (E : Array Obj) (d : Nat) : Grow W [] (ext W E d) [] := by
  have h := bl_ext (Below.refl W.heap.size W) E d
  exact ⟨h.os, h.tape, h.output, h.size, fun k hk _ => h.block k hk, fun b hb => by simp [foots] at hb, fun i e he => by simp at he⟩
theorem b_l_markText (k : Int) (h : markP k) : BCalls Try.prog 34 [.c (.int .i64 k)] (.c (.str (markT k))) [] := by
  intro X W vs hX _ hr
  obtain ⟨v, r, rfl, ⟨rfl, hw⟩, hn⟩ := hr
  obtain rfl : r = [] := hn
  refine (l_markText k W h.1 h.2).mono fun e W' he => ?_
  obtain ⟨rfl, E, d, rfl⟩ := he
  refine ⟨_, [], rfl, grow_of_ext W E d, ⟨rfl, by simp [foots], fun i b e hb => by simp at hb, by simp [foots], by simp [foots], fun b hb => Nat.lt_of_lt_of_le (hX b hb) (grow_of_ext W E d).size⟩, rfl, markT_size h.2⟩
def e_l_markText : Entry Try.prog := ⟨34, [.v tyInt], fun x => markP x.1, fun x => .c (.str (markT x.1)), fun _ => [], fun x hx => b_l_markText x.1 hx, Try.call34⟩
end Go.Proofs.Ytpokjemdpgjngaa
