/-
  What a Go value holds, as a Lean value: integers, bools, strings, structs (as pairs) and slices (as lists), with the list of blocks that a reading goes through.
  Plain: no program. No condition.
-/
import Derived.Test.YtkompmgleojmlaaDoorEBlk
namespace Go.Proofs.YtkompmgleojmlaaDoor
open Go.ChangeShapes Go.WideShapes Go.ChangeAt Go.RowKit Go.Joins Go.Deep

/-- 'rep w x cs F': the cells cs, in the world w, hold x; the memory behind them lies in the blocks F. -/
class GoRep (α : Type) where
  n : Nat
  pos : 0 < n
  rep : World → α → List Value → List Nat → Prop
  len : ∀ {w x cs F}, rep w x cs F → cs.length = n
  keep : ∀ {w w' x cs F}, rep w x cs F → (∀ b ∈ F, w'.heap[b]? = w.heap[b]?) → rep w' x cs F
  lt : ∀ {w x cs F}, rep w x cs F → ∀ b ∈ F, b < w.heap.size
  one : ∀ {w x cs F}, rep w x cs F → cs.all (fun v => v.oneCell') = true
  /-- how many letters and elements -/
  bulk : α → Nat
open GoRep (rep bulk)

def I64 (x : Int) : Prop := (Lit.int .i64 x).wf = true
theorem I64.lo {x : Int} (h : I64 x) : -9223372036854775808 ≤ x := (bounds_i64 h).1
theorem I64.hi {x : Int} (h : I64 x) : x ≤ 9223372036854775807 := (bounds_i64 h).2
theorem I64.mk {x : Int} (h1 : -9223372036854775808 ≤ x) (h2 : x ≤ 9223372036854775807) : I64 x := WalkArith.wf_i64 ⟨h1, h2⟩

instance : GoRep Int where
  n := 1
  pos := by omega
  rep _ x cs F := cs = [.int .i64 x] ∧ I64 x ∧ F = []
  len h := by rw [h.1]; rfl
  keep h _ := h
  lt h := by rw [h.2.2]; simp
  one h := by rw [h.1]; rfl
  bulk _ := 0
instance : GoRep Bool where
  n := 1
  pos := by omega
  rep _ x cs F := cs = [.bool x] ∧ F = []
  len h := by rw [h.1]; rfl
  keep h _ := h
  lt h := by rw [h.2]; simp
  one h := by rw [h.1]; rfl
  bulk _ := 0
instance : GoRep ByteArray where
  n := 1
  pos := by omega
  rep _ x cs F := cs = [.string x] ∧ x.size ≤ maxLen ∧ F = []
  len h := by rw [h.1]; rfl
  keep h _ := h
  lt h := by rw [h.2.2]; simp
  one h := by rw [h.1]; rfl
  bulk x := x.size

instance {α β : Type} [GoRep α] [GoRep β] : GoRep (α × β) where
  n := GoRep.n α + GoRep.n β
  pos := by have := GoRep.pos (α := α); omega
  rep w x cs F := ∃ c1 c2 F1 F2, rep w x.1 c1 F1 ∧ rep w x.2 c2 F2 ∧ cs = c1 ++ c2 ∧ F = F1 ++ F2
  len h := by
    obtain ⟨c1, c2, F1, F2, h1, h2, rfl, rfl⟩ := h
    rw [List.length_append, GoRep.len h1, GoRep.len h2]
  keep h hk := by
    obtain ⟨c1, c2, F1, F2, h1, h2, e1, e2⟩ := h
    subst e2
    exact ⟨c1, c2, F1, F2, GoRep.keep h1 (fun b hb => hk b (by simp [hb])), GoRep.keep h2 (fun b hb => hk b (by simp [hb])), e1, rfl⟩
  lt h b hb := by
    obtain ⟨c1, c2, F1, F2, h1, h2, e1, e2⟩ := h
    subst e2
    rcases List.mem_append.1 hb with hb | hb
    · exact GoRep.lt h1 b hb
    · exact GoRep.lt h2 b hb
  one h := by
    obtain ⟨c1, c2, F1, F2, h1, h2, e1, e2⟩ := h
    rw [e1, List.all_append, GoRep.one h1, GoRep.one h2]
    rfl
  bulk x := bulk x.1 + bulk x.2

theorem cell?_of_heap {w w' : World} {b : Nat} (h : w'.heap[b]? = w.heap[b]?) (o : Nat) : w'.cell? ⟨b, o, none⟩ = w.cell? ⟨b, o, none⟩ := by unfold World.cell?; rw [h]
theorem frozen?_of_heap {w w' : World} {b : Nat} (h : w'.heap[b]? = w.heap[b]?) (o : Nat) : w'.frozen? ⟨b, o, none⟩ = w.frozen? ⟨b, o, none⟩ := by unfold World.frozen?; rw [h]
theorem lt_of_cell {w : World} {b o : Nat} {u : Value} (h : w.cell? ⟨b, o, none⟩ = some u) : b < w.heap.size := by
  rcases Nat.lt_or_ge b w.heap.size with hlt | hge
  · exact hlt
  · unfold World.cell? at h
    rw [Array.getElem?_eq_none hge] at h
    simp at h

/-- the cells from b, off on hold cs, and may be written -/
def CellsAt (w : World) (b off : Nat) (cs : List Value) : Prop := ∀ j u, cs[j]? = some u → w.cell? ⟨b, off + j, none⟩ = some u ∧ w.frozen? ⟨b, off + j, none⟩ = false
theorem CellsAt.keep {w w' : World} {b off : Nat} {cs : List Value} (h : CellsAt w b off cs) (hb : w'.heap[b]? = w.heap[b]?) : CellsAt w' b off cs := fun j u hj => by
  rw [cell?_of_heap hb, frozen?_of_heap hb]
  exact h j u hj

/-- the elements of a slice from b, off on -/
def RowRep {α : Type} [GoRep α] (w : World) (b off : Nat) : List α → List Nat → Prop
  | [], G => G = []
  | x :: xs, G => ∃ cs G1 G2, rep w x cs G1 ∧ CellsAt w b off cs ∧ RowRep w b (off + GoRep.n α) xs G2 ∧ G = G1 ++ G2

section
variable {α : Type} [GoRep α]
theorem RowRep.keep {w w' : World} {b : Nat} {xs : List α} : ∀ {off : Nat} {G : List Nat}, RowRep w b off xs G → w'.heap[b]? = w.heap[b]? → (∀ g ∈ G, w'.heap[g]? = w.heap[g]?) → RowRep w' b off xs G := by
  induction xs with
  | nil => intro off G h _ _; exact h
  | cons x xs ih =>
    intro off G h hb hG
    obtain ⟨cs, G1, G2, h1, h2, h3, rfl⟩ := h
    exact ⟨cs, G1, G2, GoRep.keep h1 (fun g hg => hG g (by simp [hg])), h2.keep hb, ih h3 hb (fun g hg => hG g (by simp [hg])), rfl⟩
theorem RowRep.lt {w : World} {b : Nat} {xs : List α} : ∀ {off : Nat} {G : List Nat}, RowRep w b off xs G → ∀ g ∈ G, g < w.heap.size := by
  induction xs with
  | nil => intro off G h g hg; rw [show G = [] from h] at hg; simp at hg
  | cons x xs ih =>
    intro off G h g hg
    obtain ⟨cs, G1, G2, h1, h2, h3, rfl⟩ := h
    rcases List.mem_append.1 hg with hg | hg
    · exact GoRep.lt h1 g hg
    · exact ih h3 g hg
theorem RowRep.blk {w : World} {b off : Nat} {xs : List α} {G : List Nat} (h : RowRep w b off xs G) (hx : xs ≠ []) : b < w.heap.size := by
  cases xs with
  | nil => exact absurd rfl hx
  | cons x xs =>
    obtain ⟨cs, G1, G2, h1, h2, _, _⟩ := h
    have hl : 0 < cs.length := by rw [GoRep.len h1]; exact GoRep.pos
    have hc := h2 0 cs[0] (List.getElem?_eq_getElem hl)
    exact lt_of_cell hc.1
theorem RowRep.get {w : World} {b : Nat} {xs : List α} : ∀ {off : Nat} {G : List Nat} (k : Nat) (x : α), RowRep w b off xs G → xs[k]? = some x →
    ∃ cs Gk, rep w x cs Gk ∧ (∀ g ∈ Gk, g ∈ G) ∧ CellsAt w b (off + k * GoRep.n α) cs := by
  induction xs with
  | nil => intro off G k x _ h; simp at h
  | cons y xs ih =>
    intro off G k x h hk
    obtain ⟨cs, G1, G2, h1, h2, h3, rfl⟩ := h
    cases k with
    | zero =>
      simp at hk
      subst hk
      exact ⟨cs, G1, h1, fun g hg => by simp [hg], by simpa using h2⟩
    | succ k =>
      simp at hk
      obtain ⟨cs', Gk, a1, a2, a3⟩ := ih k x h3 hk
      refine ⟨cs', Gk, a1, fun g hg => by simp [a2 g hg], ?_⟩
      rw [show off + (k + 1) * GoRep.n α = off + GoRep.n α + k * GoRep.n α from by rw [Nat.add_mul]; omega]
      exact a3
end

/-- a slice value of xs -/
def SliceRep {α : Type} [GoRep α] (w : World) (xs : List α) (A : Option Addr) (c : Nat) (F : List Nat) : Prop :=
  xs.length ≤ c ∧ c ≤ maxLen ∧ ((xs = [] ∧ F = []) ∨ (xs ≠ [] ∧ ∃ b off G, A = some ⟨b, off, none⟩ ∧ F = b :: G ∧ RowRep w b off xs G))
def bulkL {α : Type} [GoRep α] : List α → Nat
  | [] => 0
  | x :: xs => bulk x + bulkL xs
theorem bulkL_append {α : Type} [GoRep α] (xs ys : List α) : bulkL (xs ++ ys) = bulkL xs + bulkL ys := by
  induction xs with
  | nil => simp [bulkL]
  | cons x xs ih => simp [bulkL, ih]; omega

instance {α : Type} [GoRep α] : GoRep (List α) where
  n := 1
  pos := by omega
  rep w xs cs F := ∃ A c, cs = [.slice A xs.length c] ∧ SliceRep w xs A c F
  len h := by obtain ⟨A, c, rfl, _⟩ := h; rfl
  keep h hk := by
    obtain ⟨A, c, e, h1, h2, h3⟩ := h
    refine ⟨A, c, e, h1, h2, ?_⟩
    rcases h3 with h3 | ⟨hx, b, off, G, rfl, rfl, hr⟩
    · exact Or.inl h3
    · exact Or.inr ⟨hx, b, off, G, rfl, rfl, hr.keep (hk b (by simp)) (fun g hg => hk g (by simp [hg]))⟩
  lt h b hb := by
    obtain ⟨A, c, e, h1, h2, h3⟩ := h
    rcases h3 with ⟨_, rfl⟩ | ⟨hx, b', off, G, rfl, rfl, hr⟩
    · simp at hb
    · rcases List.mem_cons.1 hb with rfl | hb
      · exact hr.blk hx
      · exact hr.lt b hb
  one h := by obtain ⟨A, c, rfl, _⟩ := h; rfl
  bulk xs := xs.length + bulkL xs

section
variable {α : Type} [GoRep α] {w : World} {x : α} {cs : List Value} {F : List Nat}
theorem rep_alloc (h : rep w x cs F) (o : Obj) : rep (w.alloc o) x cs F := GoRep.keep h (fun b hb => Below.heap_alloc w o b (GoRep.lt h b hb))
theorem rep_ext (h : rep w x cs F) (E : Array Obj) (d : Nat) : rep (ext w E d) x cs F := GoRep.keep h (fun b hb => heap_ext_past w E d (GoRep.lt h b hb))
theorem rep_drew (h : rep w x cs F) : rep w.drew x cs F := GoRep.keep h (fun _ _ => rfl)
theorem rep_below {w' : World} (h : rep w x cs F) (hb : Below w.heap.size w w') : rep w' x cs F := GoRep.keep h (fun b hm => hb.block b (GoRep.lt h b hm))
theorem rep_set (h : rep w x cs F) {p : Addr} (hp : p.block ∉ F) (u : Value) : rep (w.setCell p u) x cs F := GoRep.keep h (fun b hb => Below.heap_setCell w p u b (fun e => hp (e ▸ hb)))
theorem rep_int {y : Int} : rep w y cs F ↔ cs = [.int .i64 y] ∧ I64 y ∧ F = [] := Iff.rfl
theorem rep_bool {y : Bool} : rep w y cs F ↔ cs = [.bool y] ∧ F = [] := Iff.rfl
theorem rep_str {y : ByteArray} : rep w y cs F ↔ cs = [.string y] ∧ y.size ≤ maxLen ∧ F = [] := Iff.rfl
theorem rep_pair {β : Type} [GoRep β] {y : α × β} : rep w y cs F ↔ ∃ c1 c2 F1 F2, rep w y.1 c1 F1 ∧ rep w y.2 c2 F2 ∧ cs = c1 ++ c2 ∧ F = F1 ++ F2 := Iff.rfl
theorem rep_list {xs : List α} : rep w xs cs F ↔ ∃ A c, cs = [.slice A xs.length c] ∧ SliceRep w xs A c F := Iff.rfl
end

/-- The call returned x, in new memory that nobody else holds. -/
def RN {α : Type} [GoRep α] (mk : List Value → Value) (x : α) (w : World) (e : Ending) (w' : World) : Prop :=
  ∃ cs F E d, e = .returned (mk cs) ∧ w' = ext w E d ∧ rep w' x cs F ∧ F.Nodup ∧ ∀ b ∈ F, w.heap.size ≤ b
def mkA (cs : List Value) : Value := .agg cs.toArray
def mk1 (cs : List Value) : Value := cs.headD undef
end Go.Proofs.YtkompmgleojmlaaDoor
