/-
  Rows of elements under writing, fresh memory, and the marks that a law lays on what a call returned.
  Plain: no program. No condition.
-/
import Derived.Test.YtigebfhekmjhmaaGreatRep
namespace Go.Proofs.YtigebfhekmjhmaaGreat
open Go.ChangeShapes Go.WideShapes Go.ChangeAt Go.RowKit Go.Joins Go.Deep
open GoRep (rep bulk)

section
variable {α : Type} [GoRep α]
end

def dgt (n : Nat) : UInt8 := UInt8.ofNat (48 + n % 10)
/-- decimal digits, none of 0 -/
def decL (k : Nat) : List UInt8 := if k = 0 then [] else decL (k / 10) ++ [dgt k]
termination_by k
decreasing_by omega
def markT (k : Int) : ByteArray := ⟨(109 :: (if k ≤ 0 then [48] else decL k.toNat)).toArray⟩

class GoMark (α : Type) where
  mrk : α → Int → α
  cnt : α → Nat
  /-- what a struct's own cells hold stays; what its slices hold is marked -/
  mrkI : α → Int → α
  cntI : α → Nat
open GoMark (mrk cnt mrkI cntI)
instance : GoMark Int := ⟨fun _ k => k, fun _ => 1, fun x _ => x, fun _ => 0⟩
instance : GoMark Bool := ⟨fun _ k => decide (k % 3 = 0), fun _ => 1, fun x _ => x, fun _ => 0⟩
instance : GoMark ByteArray := ⟨fun _ k => markT k, fun _ => 1, fun x _ => x, fun _ => 0⟩
instance {α β : Type} [GoMark α] [GoMark β] : GoMark (α × β) :=
  ⟨fun x k => (mrk x.1 k, mrk x.2 (k + cnt x.1)), fun x => cnt x.1 + cnt x.2, fun x k => (mrkI x.1 k, mrkI x.2 (k + cntI x.1)), fun x => cntI x.1 + cntI x.2⟩
def markL {α : Type} [GoMark α] : List α → Int → List α
  | [], _ => []
  | x :: xs, k => mrk x k :: markL xs (k + cnt x)
def cntL {α : Type} [GoMark α] : List α → Nat
  | [] => 0
  | x :: xs => cnt x + cntL xs
instance {α : Type} [GoMark α] : GoMark (List α) := ⟨markL, cntL, markL, cntL⟩
section
variable {α : Type} [GoMark α]
end
section
variable {α : Type} [GoRep α]
end

/-- Only the blocks F have turned; new blocks may have come. -/
structure Turned (F : List Nat) (w w' : World) : Prop where
  os : w'.os = w.os
  tape : w'.tape = w.tape
  output : w'.output = w.output
  size : w.heap.size ≤ w'.heap.size
  block : ∀ k, k < w.heap.size → k ∉ F → w'.heap[k]? = w.heap[k]?
/-- cs laid over arr from p on -/
def setRow (arr : Array Value) (p : Nat) : List Value → Array Value
  | [] => arr
  | c :: cs => setRow (arr.setIfInBounds p c) (p + 1) cs
end Go.Proofs.YtigebfhekmjhmaaGreat
