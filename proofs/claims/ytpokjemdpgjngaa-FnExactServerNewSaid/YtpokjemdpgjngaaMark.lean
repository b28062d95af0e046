/-
  Rows of elements under writing, fresh memory, and the marks that a law lays on what a call returned.
  Plain: no program. No condition.
-/
import Derived.Test.YtpokjemdpgjngaaRep
namespace Go.Proofs.Ytpokjemdpgjngaa
open Go.ChangeShapes Go.WideShapes Go.ChangeAt Go.RowKit Go.Joins Go.Deep
open GoRep (rep bulk)

section
variable {α : Type} [GoRep α]
theorem RowRep.move {w w' : World} {b : Nat} {xs : List α} : ∀ {off : Nat} {G : List Nat}, RowRep w b off xs G →
    (∀ o, off ≤ o → o < off + xs.length * GoRep.n α → w'.cell? ⟨b, o, none⟩ = w.cell? ⟨b, o, none⟩ ∧ w'.frozen? ⟨b, o, none⟩ = w.frozen? ⟨b, o, none⟩) →
    (∀ g ∈ G, w'.heap[g]? = w.heap[g]?) → RowRep w' b off xs G := by
  induction xs with
  | nil => intro off G h _ _; exact h
  | cons x xs ih =>
    intro off G h hb hG
    obtain ⟨cs, G1, G2, h1, h2, h3, rfl⟩ := h
    have hl := GoRep.len h1
    have hlen : (x :: xs).length * GoRep.n α = GoRep.n α + xs.length * GoRep.n α := by rw [List.length_cons, Nat.add_mul]; omega
    refine ⟨cs, G1, G2, GoRep.keep h1 (fun g hg => hG g (by simp [hg])), fun j u hj => ?_, ih h3 (fun o ho1 ho2 => hb o (by omega) (by omega)) (fun g hg => hG g (by simp [hg])), rfl⟩
    have hjl : j < cs.length := (List.getElem?_eq_some_iff.1 hj).1
    obtain ⟨e1, e2⟩ := hb (off + j) (by omega) (by omega)
    rw [e1, e2]
    exact h2 j u hj
theorem RowRep.snoc {w : World} {b : Nat} {xs : List α} {y : α} {cs : List Value} {G1 : List Nat} : ∀ {off : Nat} {G : List Nat}, RowRep w b off xs G → rep w y cs G1 → CellsAt w b (off + xs.length * GoRep.n α) cs →
    RowRep w b off (xs ++ [y]) (G ++ G1) := by
  induction xs with
  | nil => intro off G h h1 h2; rw [show G = [] from h]; exact ⟨cs, G1, [], h1, by simpa using h2, rfl, by simp⟩
  | cons x xs ih =>
    intro off G h h1 h2
    obtain ⟨cs', A, B, a1, a2, a3, rfl⟩ := h
    refine ⟨cs', A, B ++ G1, a1, a2, ih a3 h1 ?_, by simp⟩
    rw [show off + GoRep.n α + xs.length * GoRep.n α = off + (x :: xs).length * GoRep.n α from by rw [List.length_cons, Nat.add_mul]; omega]
    exact h2
theorem nodup_app {F G : List Nat} {B : Nat} (hF : F.Nodup) (hG : G.Nodup) (h1 : ∀ b ∈ F, b < B) (h2 : ∀ b ∈ G, B ≤ b) : (F ++ G).Nodup := by
  rw [List.nodup_append]
  refine ⟨hF, hG, fun a ha b hb e => ?_⟩
  have := h1 a ha
  have := h2 b hb
  omega
end

def dgt (n : Nat) : UInt8 := UInt8.ofNat (48 + n % 10)
theorem bytes_app (a b : List UInt8) : (⟨a.toArray⟩ ++ ⟨b.toArray⟩ : ByteArray) = ⟨(a ++ b).toArray⟩ := by
  apply ByteArray.ext
  simp
/-- decimal digits, none of 0 -/
def decL (k : Nat) : List UInt8 := if k = 0 then [] else decL (k / 10) ++ [dgt k]
termination_by k
decreasing_by omega
theorem decL_zero : decL 0 = [] := by unfold decL; simp
theorem decL_pos {k : Nat} (h : k ≠ 0) : decL k = decL (k / 10) ++ [dgt k] := by rw [decL]; simp [h]
theorem decL_len (k : Nat) : (decL k).length ≤ k := by
  induction k using Nat.strongRecOn with
  | _ k ih =>
    by_cases h : k = 0
    · subst h; simp [decL_zero]
    · rw [decL_pos h]
      have := ih (k / 10) (by omega)
      simp
      omega
def markT (k : Int) : ByteArray := ⟨(109 :: (if k ≤ 0 then [48] else decL k.toNat)).toArray⟩

class GoMark (α : Type) where
  mrk : α → Int → α
  cnt : α → Nat
  /-- what a struct's own cells hold stays; what its slices hold is marked -/
  mrkI : α → Int → α
  cntI : α → Nat
open GoMark (mrk cnt mrkI cntI)
instance : GoMark Int := ⟨fun _ k => k, fun _ => 1, fun x _ => x, fun _ => 0⟩
instance : GoMark Bool := ⟨fun _ k => decide (k % 3 = 0), fun _ => 1, fun x _ => x, fun _ => 0⟩
instance : GoMark ByteArray := ⟨fun _ k => markT k, fun _ => 1, fun x _ => x, fun _ => 0⟩
instance {α β : Type} [GoMark α] [GoMark β] : GoMark (α × β) :=
  ⟨fun x k => (mrk x.1 k, mrk x.2 (k + cnt x.1)), fun x => cnt x.1 + cnt x.2, fun x k => (mrkI x.1 k, mrkI x.2 (k + cntI x.1)), fun x => cntI x.1 + cntI x.2⟩
def markL {α : Type} [GoMark α] : List α → Int → List α
  | [], _ => []
  | x :: xs, k => mrk x k :: markL xs (k + cnt x)
def cntL {α : Type} [GoMark α] : List α → Nat
  | [] => 0
  | x :: xs => cnt x + cntL xs
instance {α : Type} [GoMark α] : GoMark (List α) := ⟨markL, cntL, markL, cntL⟩
section
variable {α : Type} [GoMark α]
theorem markL_len (xs : List α) : ∀ k, (markL xs k).length = xs.length := by
  induction xs with
  | nil => intro k; rfl
  | cons x xs ih => intro k; simp [markL, ih]
theorem cntL_append (xs ys : List α) : cntL (xs ++ ys) = cntL xs + cntL ys := by
  induction xs with
  | nil => simp [cntL]
  | cons x xs ih => simp [cntL, ih]; omega
theorem markL_append (xs ys : List α) : ∀ k, markL (xs ++ ys) k = markL xs k ++ markL ys (k + cntL xs) := by
  induction xs with
  | nil => intro k; simp [markL, cntL]
  | cons x xs ih => intro k; simp [markL, cntL, ih]; congr 1; omega
theorem markL_get (xs : List α) : ∀ (k : Int) (i : Nat) (x : α), xs[i]? = some x → (markL xs k)[i]? = some (mrk x (k + cntL (xs.take i))) := by
  induction xs with
  | nil => intro k i x h; simp at h
  | cons y xs ih =>
    intro k i x h
    cases i with
    | zero => simp at h; subst h; simp [markL, cntL]
    | succ i =>
      simp at h
      simp only [markL, List.getElem?_cons_succ, List.take_succ_cons, cntL]
      rw [ih _ i x h]
      congr 2
      omega
theorem cntL_take_succ {xs : List α} {i : Nat} {x : α} (h : xs[i]? = some x) : cntL (xs.take (i + 1)) = cntL (xs.take i) + cnt x := by
  rw [List.take_add_one, h, Option.toList_some, cntL_append]
  simp [cntL]
theorem cntL_take_le (xs : List α) (i : Nat) : cntL (xs.take i) ≤ cntL xs := by
  conv => rhs; rw [← List.take_append_drop i xs, cntL_append]
  omega
end
section
variable {α : Type} [GoRep α]
theorem bulkL_take_succ {xs : List α} {i : Nat} {x : α} (h : xs[i]? = some x) : bulkL (xs.take (i + 1)) = bulkL (xs.take i) + bulk x := by
  rw [List.take_add_one, h, Option.toList_some, bulkL_append]
  simp [bulkL]
theorem bulkL_take_le (xs : List α) (i : Nat) : bulkL (xs.take i) ≤ bulkL xs := by
  conv => rhs; rw [← List.take_append_drop i xs, bulkL_append]
  omega
end

/-- Only the blocks F have turned; new blocks may have come. -/
structure Turned (F : List Nat) (w w' : World) : Prop where
  os : w'.os = w.os
  tape : w'.tape = w.tape
  output : w'.output = w.output
  size : w.heap.size ≤ w'.heap.size
  block : ∀ k, k < w.heap.size → k ∉ F → w'.heap[k]? = w.heap[k]?
theorem Turned.refl (F : List Nat) (w : World) : Turned F w w := ⟨rfl, rfl, rfl, Nat.le_refl _, fun _ _ _ => rfl⟩
theorem Turned.trans {F : List Nat} {a b c : World} (h : Turned F a b) (k : Turned F b c) : Turned F a c :=
  ⟨k.os.trans h.os, k.tape.trans h.tape, k.output.trans h.output, Nat.le_trans h.size k.size, fun i hi hn => (k.block i (Nat.lt_of_lt_of_le hi h.size) hn).trans (h.block i hi hn)⟩
theorem Turned.mono {F G : List Nat} {a b : World} (h : Turned F a b) (hs : ∀ x ∈ F, x ∈ G) : Turned G a b := ⟨h.os, h.tape, h.output, h.size, fun i hi hn => h.block i hi (fun hf => hn (hs i hf))⟩
theorem Turned.ext {F : List Nat} {a b : World} (h : Turned F a b) (E : Array Obj) (d : Nat) : Turned F a (ext b E d) :=
  h.trans ⟨rfl, rfl, rfl, by simp, fun k hk _ => heap_ext_past b E d hk⟩
theorem Turned.alloc {F : List Nat} {a b : World} (h : Turned F a b) (o : Obj) : Turned F a (b.alloc o) :=
  h.trans ⟨rfl, rfl, rfl, by simp, fun k hk _ => Below.heap_alloc b o k hk⟩
theorem Turned.set {F : List Nat} {a b : World} (h : Turned F a b) {p : Addr} (hp : p.block ∈ F) (u : Value) : Turned F a (b.setCell p u) :=
  h.trans ⟨rfl, rfl, rfl, by simp [World.setCell], fun k _ hn => Below.heap_setCell b p u k (fun e => hn (e ▸ hp))⟩
theorem Turned.drew {F : List Nat} {a b : World} (h : Turned F a b) : Turned F a b.drew := ⟨h.os, h.tape, h.output, h.size, h.block⟩
theorem Turned.of_below {F : List Nat} {a b : World} (h : Below a.heap.size a b) : Turned F a b := ⟨h.os, h.tape, h.output, h.size, fun k hk _ => h.block k hk⟩
theorem Turned.rep {α : Type} [GoRep α] {F G : List Nat} {a b : World} (h : Turned F a b) {x : α} {cs : List Value} (hr : GoRep.rep a x cs G) (hd : ∀ g ∈ G, g ∉ F) : GoRep.rep b x cs G :=
  GoRep.keep hr (fun g hg => h.block g (GoRep.lt hr g hg) (hd g hg))
/-- All that turned came with the call: below the size of w nothing has. -/
theorem Turned.below {F : List Nat} {w a b : World} (hw : Below w.heap.size w a) (h : Turned F a b) (hF : ∀ f ∈ F, w.heap.size ≤ f) : Below w.heap.size w b :=
  hw.trans ⟨h.os, h.tape, h.output, h.size, fun k hk => h.block k (Nat.lt_of_lt_of_le hk hw.size) (fun hf => by have := hF k hf; omega)⟩
theorem SliceRep.at_ {α : Type} [GoRep α] {w : World} {xs : List α} {A : Option Addr} {c : Nat} {F : List Nat} (h : SliceRep w xs A c F) {k : Nat} (hk : k < xs.length) :
    ∃ b off x cs Gk, A = some ⟨b, off, none⟩ ∧ xs[k]? = some x ∧ rep w x cs Gk ∧ (∀ g ∈ Gk, g ∈ F) ∧ b ∈ F ∧ b < w.heap.size ∧ CellsAt w b (off + k * GoRep.n α) cs := by
  obtain ⟨_, _, h3⟩ := h
  rcases h3 with ⟨rfl, _⟩ | ⟨hx, b, off, G, rfl, rfl, hr⟩
  · simp at hk
  · have hx' := List.getElem?_eq_getElem hk
    obtain ⟨cs, Gk, h1, h2, h3⟩ := hr.get k _ hx'
    exact ⟨b, off, _, cs, Gk, rfl, hx', h1, fun g hg => by simp [h2 g hg], by simp, hr.blk hx, h3⟩

/-- the cells of a row that 'make' laid -/
def zrow (z : Array Value) (n : Nat) : Array Value := madeCells z n
theorem zrow_size (z : Array Value) (n : Nat) : (zrow z n).size = n := size_madeCells z n
theorem mk_row {P : Program} {t e : TypeId} {i : TypeInfo} {z : Value} {s y : Nat} (ht : P.underlying t = some (.slice e)) (hi : P.info? e = some i) (hz : i.zero = some z) (hs : i.size = s) (hy : i.bytes = y)
    (n : Nat) (hn : n ≤ 1048576) (hy2 : y ≤ 4096) (W : World) :
    (Instr.makeSlice t (.int .i64 (n : Int)) (.int .i64 (n : Int))).run P W = .ok (.slice (some ⟨W.heap.size, 0, none⟩) n n) (W.alloc (.cells (zrow z.cells (n * s)) e)) := by
  have hb : (i.bytes : Int) * (n : Int) ≤ 281474976710656 := by
    have h1 : i.bytes * n ≤ 4096 * 1048576 := Nat.mul_le_mul (by omega) hn
    have h2 : ((i.bytes * n : Nat) : Int) ≤ 281474976710656 := by omega
    rwa [Int.natCast_mul] at h2
  have hr := run_make (P := P) W t e i z ht hi hz .i64 .i64 n n (by omega) (by omega) hb (by omega)
  simp only [Int.toNat_natCast] at hr
  rw [hs] at hr
  exact hr
/-- cs laid over arr from p on -/
def setRow (arr : Array Value) (p : Nat) : List Value → Array Value
  | [] => arr
  | c :: cs => setRow (arr.setIfInBounds p c) (p + 1) cs
theorem setRow_size (cs : List Value) : ∀ (arr : Array Value) (p : Nat), (setRow arr p cs).size = arr.size := by
  induction cs with
  | nil => intro arr p; rfl
  | cons c cs ih => intro arr p; rw [setRow, ih]; simp
theorem setRow_before (cs : List Value) : ∀ (arr : Array Value) (p o : Nat), o < p → (setRow arr p cs)[o]? = arr[o]? := by
  induction cs with
  | nil => intro arr p o _; rfl
  | cons c cs ih =>
    intro arr p o ho
    rw [setRow, ih _ _ _ (by omega), Array.getElem?_setIfInBounds, if_neg (by omega)]
theorem setRow_at (cs : List Value) : ∀ (arr : Array Value) (p j : Nat) (u : Value), p + cs.length ≤ arr.size → cs[j]? = some u → (setRow arr p cs)[p + j]? = some u := by
  induction cs with
  | nil => intro arr p j u _ h; simp at h
  | cons c cs ih =>
    intro arr p j u hs h
    rw [setRow]
    cases j with
    | zero =>
      simp at h hs
      subst h
      rw [setRow_before _ _ _ _ (by omega), Array.getElem?_setIfInBounds, if_pos (by omega), if_pos (by omega)]
    | succ j =>
      simp at h hs
      have := ih (arr.setIfInBounds p c) (p + 1) j u (by simp; omega) h
      rw [show p + (j + 1) = p + 1 + j from by omega]
      exact this
theorem heap_block (w : World) (o o' : Obj) (E E1 : Array Obj) (d d1 g : Nat) (hg : g ≠ w.heap.size) :
    (ext (ext (w.alloc o') E d) E1 d1).heap[g]? = (ext (ext (w.alloc o) E d) E1 d1).heap[g]? := by
  show (((w.heap.push o') ++ E) ++ E1)[g]? = (((w.heap.push o) ++ E) ++ E1)[g]?
  simp only [Array.getElem?_append, Array.getElem?_push, Array.size_append, Array.size_push]
  simp [hg]
theorem cell_block (w : World) (arr : Array Value) (T : TypeId) (E : Array Obj) (d o : Nat) : (ext (w.alloc (.cells arr T)) E d).cell? ⟨w.heap.size, o, none⟩ = arr[o]? := by
  rw [cell?_ext_past _ _ _ _ _ (by simp), World.cell?_alloc_new]
theorem frozen_block (w : World) (arr : Array Value) (T : TypeId) (E : Array Obj) (d o : Nat) : (ext (w.alloc (.cells arr T)) E d).frozen? ⟨w.heap.size, o, none⟩ = false := by
  rw [frozen?_ext_past _ _ _ _ _ (by simp), World.frozen?_alloc_new]
/-- One round of a loop that fills a new row: element k is laid. -/
theorem row_step {α : Type} [GoRep α] (w : World) (arr : Array Value) (T : TypeId) (E E1 : Array Obj) (d d1 k : Nat) (xs : List α) (x : α) (cs : List Value) (G F1 : List Nat)
    (hx : xs[k]? = some x) (hsz : arr.size = xs.length * GoRep.n α)
    (hrow : RowRep (ext (w.alloc (.cells arr T)) E d) w.heap.size 0 (xs.take k) G) (hnd : G.Nodup) (hfr : ∀ g ∈ G, w.heap.size < g)
    (hr : rep (ext (ext (w.alloc (.cells arr T)) E d) E1 d1) x cs F1) (hn1 : F1.Nodup) (hf1 : ∀ b ∈ F1, (ext (w.alloc (.cells arr T)) E d).heap.size ≤ b) :
    RowRep (ext (w.alloc (.cells (setRow arr (k * GoRep.n α) cs) T)) (E ++ E1) d1) w.heap.size 0 (xs.take (k + 1)) (G ++ F1) ∧ (G ++ F1).Nodup ∧ ∀ g ∈ G ++ F1, w.heap.size < g := by
  have hkl : k < xs.length := (List.getElem?_eq_some_iff.1 hx).1
  have hlen := GoRep.len hr
  have hroom : k * GoRep.n α + cs.length ≤ arr.size := by
    rw [hsz, hlen]
    have : (k + 1) * GoRep.n α ≤ xs.length * GoRep.n α := Nat.mul_le_mul_right _ hkl
    rw [Nat.add_mul] at this
    omega
  rw [← ext_ext]
  have hG : ∀ g ∈ G, g < (ext (w.alloc (.cells arr T)) E d).heap.size := hrow.lt
  have hF : ∀ g ∈ F1, w.heap.size < g := fun g hg => by
    have := hf1 g hg
    simp at this
    omega
  refine ⟨?_, nodup_app hnd hn1 hG hf1, fun g hg => ?_⟩
  · rw [List.take_add_one, hx, Option.toList_some]
    have hkeep : ∀ g, g ≠ w.heap.size → (ext (ext (w.alloc (.cells (setRow arr (k * GoRep.n α) cs) T)) E d) E1 d1).heap[g]? = (ext (ext (w.alloc (.cells arr T)) E d) E1 d1).heap[g]? := fun g hg => heap_block _ _ _ _ _ _ _ _ hg
    have hlt : (xs.take k).length = k := by rw [List.length_take]; omega
    refine RowRep.snoc (RowRep.move hrow (fun o _ ho => ?_) (fun g hg => ?_)) (GoRep.keep hr (fun g hg => hkeep g (by have := hF g hg; omega))) (fun j u hj => ?_)
    · rw [hlt] at ho
      rw [ext_ext, cell_block, frozen_block, cell_block, frozen_block, setRow_before _ _ _ _ (by omega)]
      exact ⟨rfl, rfl⟩
    · rw [hkeep g (by have := hfr g hg; omega)]
      exact heap_ext_past _ _ _ (hG g hg)
    · rw [hlt, ext_ext, cell_block, frozen_block, Nat.zero_add]
      exact ⟨setRow_at _ _ _ _ _ hroom hj, rfl⟩
  · rcases List.mem_append.1 hg with hg | hg
    · exact hfr g hg
    · exact hF g hg
/-- The row is full: the slice over it. -/
theorem row_done {α : Type} [GoRep α] {w : World} {arr : Array Value} {T : TypeId} {E : Array Obj} {d : Nat} {xs : List α} {G : List Nat}
    (hrow : RowRep (ext (w.alloc (.cells arr T)) E d) w.heap.size 0 xs G) (hnd : G.Nodup) (hfr : ∀ g ∈ G, w.heap.size < g) (hn : xs.length ≤ 1048576) :
    RN mk1 xs w (.returned (.slice (some ⟨w.heap.size, 0, none⟩) xs.length xs.length)) (ext (w.alloc (.cells arr T)) E d) := by
  obtain ⟨E', d', he⟩ := ext_of_below (w := w) (w1 := ext (w.alloc (.cells arr T)) E d) (bl_ext (bl_al (Below.refl _ _) _) _ _)
  by_cases hx : xs = []
  · subst hx
    exact ⟨[.slice (some ⟨w.heap.size, 0, none⟩) 0 0], [], E', d', rfl, he, ⟨_, _, rfl, by simp, by simp [maxLen], Or.inl ⟨rfl, rfl⟩⟩, by simp, by simp⟩
  · refine ⟨[.slice (some ⟨w.heap.size, 0, none⟩) xs.length xs.length], w.heap.size :: G, E', d', rfl, he, ⟨_, _, rfl, Nat.le_refl _, by unfold maxLen; omega, Or.inr ⟨hx, _, _, G, rfl, rfl, hrow⟩⟩, ?_, ?_⟩
    · rw [List.nodup_cons]
      exact ⟨fun hm => by have := hfr _ hm; omega, hnd⟩
    · intro b hb
      rcases List.mem_cons.1 hb with rfl | hb
      · exact Nat.le_refl _
      · have := hfr b hb; omega
/-- cs stored from b, p on -/
def setCells (w : World) (b p : Nat) : List Value → World
  | [] => w
  | c :: cs => setCells (w.setCell ⟨b, p, none⟩ c) b (p + 1) cs
theorem setCells_turned (cs : List Value) (b : Nat) : ∀ (w : World) (p : Nat), Turned [b] w (setCells w b p cs) := by
  induction cs with
  | nil => intro w p; exact Turned.refl _ _
  | cons c cs ih => intro w p; exact ((Turned.refl [b] w).set (p := ⟨b, p, none⟩) (by simp) c).trans (ih _ _)
theorem setCells_frozen (cs : List Value) (b : Nat) (a : Addr) : ∀ (w : World) (p : Nat), (setCells w b p cs).frozen? a = w.frozen? a := by
  induction cs with
  | nil => intro w p; rfl
  | cons c cs ih => intro w p; rw [setCells, ih]; simp
theorem setCells_far (cs : List Value) (b o : Nat) : ∀ (w : World) (p : Nat), (o < p ∨ p + cs.length ≤ o) → (setCells w b p cs).cell? ⟨b, o, none⟩ = w.cell? ⟨b, o, none⟩ := by
  induction cs with
  | nil => intro w p _; rfl
  | cons c cs ih =>
    intro w p h
    simp only [List.length_cons] at h
    rw [setCells, ih _ _ (by omega), World.cell?_setCell_other _ _ _ _ (by intro e; injection e with _ e; omega)]
theorem setCells_at (cs : List Value) (b : Nat) : ∀ (w : World) (p : Nat), (∀ j, j < cs.length → ∃ u, w.cell? ⟨b, p + j, none⟩ = some u) → ∀ j u, cs[j]? = some u → (setCells w b p cs).cell? ⟨b, p + j, none⟩ = some u := by
  induction cs with
  | nil => intro w p _ j u h; simp at h
  | cons c cs ih =>
    intro w p hc j u h
    rw [setCells]
    cases j with
    | zero =>
      simp at h
      subst h
      rw [setCells_far _ _ _ _ _ (by omega)]
      obtain ⟨u0, hu0⟩ := hc 0 (by simp)
      exact World.cell?_setCell_same _ _ _ hu0
    | succ j =>
      simp at h
      have := ih (w.setCell ⟨b, p, none⟩ c) (p + 1) (fun i hi => by
        obtain ⟨u', hu'⟩ := hc (i + 1) (by simp; omega)
        rw [World.cell?_setCell_other _ _ _ _ (by intro e; injection e with _ e; omega)]
        exact ⟨u', by rw [show p + 1 + i = p + (i + 1) from by omega]; exact hu'⟩) j u h
      rw [show p + (j + 1) = p + 1 + j from by omega]
      exact this
theorem RowRep.append {α : Type} [GoRep α] {w : World} {b : Nat} {ys : List α} {H : List Nat} {xs : List α} : ∀ {off : Nat} {G : List Nat}, RowRep w b off xs G → RowRep w b (off + xs.length * GoRep.n α) ys H → RowRep w b off (xs ++ ys) (G ++ H) := by
  induction xs with
  | nil => intro off G h h2; rw [show G = [] from h]; simpa using h2
  | cons x xs ih =>
    intro off G h h2
    obtain ⟨cs, A, B, a1, a2, a3, rfl⟩ := h
    refine ⟨cs, A, B ++ H, a1, a2, ih a3 ?_, by simp⟩
    rw [show off + GoRep.n α + xs.length * GoRep.n α = off + (x :: xs).length * GoRep.n α from by rw [List.length_cons, Nat.add_mul]; omega]
    exact h2
/-- a row's element k is laid anew: what the marking of a slice needs, round by round -/
theorem mark_step {α : Type} [GoRep α] {w w' : World} {b off : Nat} {ys zs : List α} {y : α} {cs' : List Value} {G1 Gx G2 : List Nat} {k : Nat} (hk : ys.length = k)
    (h1 : RowRep w b off ys G1) (h2 : RowRep w b (off + (k + 1) * GoRep.n α) zs G2)
    (hcell : ∀ o, (o < off + k * GoRep.n α ∨ off + (k + 1) * GoRep.n α ≤ o) → w'.cell? ⟨b, o, none⟩ = w.cell? ⟨b, o, none⟩)
    (hfroz : ∀ o, w'.frozen? ⟨b, o, none⟩ = w.frozen? ⟨b, o, none⟩)
    (hnew : CellsAt w' b (off + k * GoRep.n α) cs') (hblk1 : ∀ g ∈ G1, w'.heap[g]? = w.heap[g]?) (hblk2 : ∀ g ∈ G2, w'.heap[g]? = w.heap[g]?)
    (hr : rep w' y cs' Gx) : RowRep w' b off (ys ++ [y]) (G1 ++ Gx) ∧ RowRep w' b (off + (k + 1) * GoRep.n α) zs G2 := by
  subst hk
  have hk1 : (ys.length + 1) * GoRep.n α = ys.length * GoRep.n α + GoRep.n α := by rw [Nat.add_mul]; omega
  refine ⟨RowRep.snoc (h1.move (fun o ho1 ho2 => ⟨hcell o (Or.inl (by omega)), hfroz o⟩) hblk1) hr hnew, h2.move (fun o ho1 ho2 => ⟨hcell o (Or.inr (by omega)), hfroz o⟩) hblk2⟩
theorem markT_size {k : Int} (h : k ≤ 4611686018427387904) : (markT k).size ≤ maxLen := by
  have h2 := decL_len k.toNat
  have e : (markT k).size = (109 :: (if k ≤ 0 then [48] else decL k.toNat)).length := by simp [markT, ByteArray.size]
  rw [e]
  unfold maxLen
  split
  · simp
  · simp only [List.length_cons]; omega
/-- a round of the marking of elements that lead to no memory of their own -/
theorem mark_flat {α : Type} [GoRep α] {w wr : World} {b off j : Nat} {ys zs : List α} {y : α} {cs' : List Value} {G G1 Gx G3 : List Nat} {E1 : Array Obj} {d1 : Nat}
    (hb : b < wr.heap.size) (hN : ¬ b ∈ G) (hLT : ∀ g ∈ G, g < w.heap.size) (hT : Turned (b :: G) w wr) (hGG : G1 ++ (Gx ++ G3) = G) (hGx : Gx = [])
    (hys : ys.length = j) (hr1 : RowRep wr b off ys G1) (hr3 : RowRep wr b (off + j * GoRep.n α + GoRep.n α) zs G3) {x : α} {cs : List Value} (hC : CellsAt wr b (off + j * GoRep.n α) cs) (hx : rep wr x cs Gx)
    (hy : ∀ W, rep W y cs' []) :
    Turned (b :: G) w (ext (setCells wr b (off + j * GoRep.n α) cs') E1 d1) ∧ (G1 ++ []) ++ G3 = G ∧
      RowRep (ext (setCells wr b (off + j * GoRep.n α) cs') E1 d1) b off (ys ++ [y]) (G1 ++ []) ∧
      RowRep (ext (setCells wr b (off + j * GoRep.n α) cs') E1 d1) b (off + (j + 1) * GoRep.n α) zs G3 := by
  subst hGx
  have hlen : cs'.length = GoRep.n α := GoRep.len (hy wr)
  have hlc : cs.length = GoRep.n α := GoRep.len hx
  have hT1 := setCells_turned cs' b wr (off + j * GoRep.n α)
  have hbs : b < (setCells wr b (off + j * GoRep.n α) cs').heap.size := Nat.lt_of_lt_of_le hb hT1.size
  have hj1 : (j + 1) * GoRep.n α = j * GoRep.n α + GoRep.n α := by rw [Nat.add_mul]; omega
  have hcell : ∀ o, (ext (setCells wr b (off + j * GoRep.n α) cs') E1 d1).cell? ⟨b, o, none⟩ = (setCells wr b (off + j * GoRep.n α) cs').cell? ⟨b, o, none⟩ := fun o => cell?_ext_past _ _ _ _ _ hbs
  have hfro : ∀ o, (ext (setCells wr b (off + j * GoRep.n α) cs') E1 d1).frozen? ⟨b, o, none⟩ = wr.frozen? ⟨b, o, none⟩ := fun o => by rw [frozen?_ext_past _ _ _ _ _ hbs, setCells_frozen]
  have hblk : ∀ g ∈ G, g < wr.heap.size → (ext (setCells wr b (off + j * GoRep.n α) cs') E1 d1).heap[g]? = wr.heap[g]? := fun g hg hlt => by
    rw [heap_ext_past _ _ _ (Nat.lt_of_lt_of_le hlt hT1.size)]
    exact hT1.block g hlt (fun hm => hN (by simp at hm; exact hm ▸ hg))
  have hin1 : ∀ g ∈ G1, g ∈ G := fun g hg => hGG ▸ (by simp [hg])
  have hin3 : ∀ g ∈ G3, g ∈ G := fun g hg => hGG ▸ (by simp [hg])
  obtain ⟨a1, a2⟩ := mark_step (w' := ext (setCells wr b (off + j * GoRep.n α) cs') E1 d1) (y := y) (cs' := cs') (Gx := []) hys hr1 (by rw [hj1, ← Nat.add_assoc]; exact hr3)
    (fun o ho => by rw [hcell, setCells_far _ _ _ _ _ (by omega)]) hfro
    (fun i u hi => by
      rw [hcell, hfro]
      have hil : i < cs.length := by rw [hlc, ← hlen]; exact (List.getElem?_eq_some_iff.1 hi).1
      refine ⟨setCells_at cs' b wr _ (fun i' hi' => ⟨_, (hC i' _ (List.getElem?_eq_getElem (by omega))).1⟩) i u hi, (hC i _ (List.getElem?_eq_getElem hil)).2⟩)
    (fun g hg => hblk g (hin1 g hg) (Nat.lt_of_lt_of_le (hLT g (hin1 g hg)) hT.size)) (fun g hg => hblk g (hin3 g hg) (Nat.lt_of_lt_of_le (hLT g (hin3 g hg)) hT.size)) (hy _)
  exact ⟨(hT.trans (hT1.mono (fun x hx => by simp at hx; simp [hx]))).ext _ _, by simpa using hGG, a1, a2⟩
/-- The call marked what the slice v holds, and handed on the next mark. -/
def RMk {α : Type} [GoRep α] (m : Int) (F : List Nat) (xs : List α) (v : Value) (w : World) (e : Ending) (w' : World) : Prop := e = .returned (.int .i64 m) ∧ rep w' xs [v] F ∧ Turned F w w'
theorem le63 {n : Nat} (h : n ≤ maxLen) : n ≤ 9223372036854775807 := by unfold maxLen at h; omega
theorem len_bulk {α : Type} [GoRep α] (xs : List α) : xs.length ≤ bulk xs := Nat.le_add_right _ _
theorem bulkL_at {α : Type} [GoRep α] {xs : List α} {k : Nat} {x : α} (h : xs[k]? = some x) : bulkL (xs.take k) + bulk x ≤ bulkL xs := by
  rw [← bulkL_take_succ h]; exact bulkL_take_le _ _
end Go.Proofs.Ytpokjemdpgjngaa
