/-
  Rows of elements under writing, fresh memory, and the marks that a law lays on what a call returned.
  Plain: no program. No condition.
-/
import Derived.Test.YtoigkpkafgjeaaaGreatDoorORep
namespace Go.Proofs.YtoigkpkafgjeaaaGreatDoor
open Go.ChangeShapes Go.WideShapes Go.ChangeAt Go.RowKit Go.Joins Go.Deep
open GoRep (rep bulk)

section
variable {α : Type} [GoRep α]
end

def dgt (n : Nat) : UInt8 := UInt8.ofNat (48 + n % 10)
/-- decimal digits, none of 0 -/
def decL (k : Nat) : List UInt8 := if k = 0 then [] else decL (k / 10) ++ [dgt k]
termination_by k
decreasing_by omega
def markT (k : Int) : ByteArray := ⟨(109 :: (if k ≤ 0 then [48] else decL k.toNat)).toArray⟩

class GoMark (α : Type) where
  mrk : α → Int → α
  cnt : α → Nat
  /-- what a struct's own cells hold stays; what its slices hold is marked -/
  mrkI : α → Int → α
  cntI : α → Nat
open GoMark (mrk cnt mrkI cntI)
instance : GoMark Int := ⟨fun _ k => k, fun _ => 1, fun x _ => x, fun _ => 0⟩
instance : GoMark Bool := ⟨fun _ k => decide (k % 3 = 0), fun _ => 1, fun x _ => x, fun _ => 0⟩
instance : GoMark ByteArray := ⟨fun _ k => markT k, fun _ => 1, fun x _ => x, fun _ => 0⟩
instance {α β : Type} [GoMark α] [GoMark β] : GoMark (α × β) :=
  ⟨fun x k => (mrk x.1 k, mrk x.2 (k + cnt x.1)), fun x => cnt x.1 + cnt x.2, fun x k => (mrkI x.1 k, mrkI x.2 (k + cntI x.1)), fun x => cntI x.1 + cntI x.2⟩
def markL {α : Type} [GoMark α] : List α → Int → List α
  | [], _ => []
  | x :: xs, k => mrk x k :: markL xs (k + cnt x)
def cntL {α : Type} [GoMark α] : List α → Nat
  | [] => 0
  | x :: xs => cnt x + cntL xs
instance {α : Type} [GoMark α] : GoMark (List α) := ⟨markL, cntL, markL, cntL⟩
section
variable {α : Type} [GoMark α]
end
section
variable {α : Type} [GoRep α]
end

/-- Only the blocks F have turned; new blocks may have come. -/
structure Turned (F : List Nat) (w w' : World) : Prop where
  os : w'.os = w.os
  tape : w'.tape = w.tape
  output : w'.output = w.output
  size : w.heap.size ≤ w'.heap.size
  block : ∀ k, k < w.heap.size → k ∉ F → w'.heap[k]? = w.heap[k]?
theorem Turned.refl (F : List Nat) (w : World) : Turned F w w := ⟨rfl, rfl, rfl, Nat.le_refl _, fun _ _ _ => rfl⟩
theorem Turned.trans {F : List Nat} {a b c : World} (h : Turned F a b) (k : Turned F b c) : Turned F a c :=
  ⟨k.os.trans h.os, k.tape.trans h.tape, k.output.trans h.output, Nat.le_trans h.size k.size, fun i hi hn => (k.block i (Nat.lt_of_lt_of_le hi h.size) hn).trans (h.block i hi hn)⟩
theorem Turned.mono {F G : List Nat} {a b : World} (h : Turned F a b) (hs : ∀ x ∈ F, x ∈ G) : Turned G a b := ⟨h.os, h.tape, h.output, h.size, fun i hi hn => h.block i hi (fun hf => hn (hs i hf))⟩
theorem Turned.ext {F : List Nat} {a b : World} (h : Turned F a b) (E : Array Obj) (d : Nat) : Turned F a (ext b E d) :=
  h.trans ⟨rfl, rfl, rfl, by simp, fun k hk _ => heap_ext_past b E d hk⟩
theorem Turned.alloc {F : List Nat} {a b : World} (h : Turned F a b) (o : Obj) : Turned F a (b.alloc o) :=
  h.trans ⟨rfl, rfl, rfl, by simp, fun k hk _ => Below.heap_alloc b o k hk⟩
theorem Turned.set {F : List Nat} {a b : World} (h : Turned F a b) {p : Addr} (hp : p.block ∈ F) (u : Value) : Turned F a (b.setCell p u) :=
  h.trans ⟨rfl, rfl, rfl, by simp [World.setCell], fun k _ hn => Below.heap_setCell b p u k (fun e => hn (e ▸ hp))⟩
theorem Turned.drew {F : List Nat} {a b : World} (h : Turned F a b) : Turned F a b.drew := ⟨h.os, h.tape, h.output, h.size, h.block⟩
theorem Turned.of_below {F : List Nat} {a b : World} (h : Below a.heap.size a b) : Turned F a b := ⟨h.os, h.tape, h.output, h.size, fun k hk _ => h.block k hk⟩
theorem Turned.rep {α : Type} [GoRep α] {F G : List Nat} {a b : World} (h : Turned F a b) {x : α} {cs : List Value} (hr : GoRep.rep a x cs G) (hd : ∀ g ∈ G, g ∉ F) : GoRep.rep b x cs G :=
  GoRep.keep hr (fun g hg => h.block g (GoRep.lt hr g hg) (hd g hg))
/-- All that turned came with the call: below the size of w nothing has. -/
theorem Turned.below {F : List Nat} {w a b : World} (hw : Below w.heap.size w a) (h : Turned F a b) (hF : ∀ f ∈ F, w.heap.size ≤ f) : Below w.heap.size w b :=
  hw.trans ⟨h.os, h.tape, h.output, h.size, fun k hk => h.block k (Nat.lt_of_lt_of_le hk hw.size) (fun hf => by have := hF k hf; omega)⟩
theorem SliceRep.at_ {α : Type} [GoRep α] {w : World} {xs : List α} {A : Option Addr} {c : Nat} {F : List Nat} (h : SliceRep w xs A c F) {k : Nat} (hk : k < xs.length) :
    ∃ b off x cs Gk, A = some ⟨b, off, none⟩ ∧ xs[k]? = some x ∧ rep w x cs Gk ∧ (∀ g ∈ Gk, g ∈ F) ∧ b ∈ F ∧ b < w.heap.size ∧ CellsAt w b (off + k * GoRep.n α) cs := by
  obtain ⟨_, _, h3⟩ := h
  rcases h3 with ⟨rfl, _⟩ | ⟨hx, b, off, G, rfl, rfl, hr⟩
  · simp at hk
  · have hx' := List.getElem?_eq_getElem hk
    obtain ⟨cs, Gk, h1, h2, h3⟩ := hr.get k _ hx'
    exact ⟨b, off, _, cs, Gk, rfl, hx', h1, fun g hg => by simp [h2 g hg], by simp, hr.blk hx, h3⟩

end Go.Proofs.YtoigkpkafgjeaaaGreatDoor
