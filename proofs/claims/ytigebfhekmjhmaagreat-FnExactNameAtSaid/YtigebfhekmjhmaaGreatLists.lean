/-
  Plain laws on lists: the first place at which a test holds, what holds of the first elements.
  No program. No condition.
-/
import Derived.Test.YtigebfhekmjhmaaGreatTypes
namespace Go.Proofs.YtigebfhekmjhmaaGreat
open Go.ChangeShapes Go.WideShapes Go.ChangeAt Go.RowKit Go.Joins Go.Deep
open GoRep (rep bulk)
theorem Held.ofS {α : Type} [GoRep α] {w : World} {xs : List α} {A : Option Addr} {c : Nat} {F : List Nat} (h : SliceRep w xs A c F) : Held w xs [.slice A xs.length c] := ⟨F, A, c, rfl, h⟩
/-- the world W is w with new memory behind it -/
def Abv (w W : World) : Prop := ∃ (E : Array Obj) (d : Nat), W = ext w E d
theorem Abv.refl (w : World) : Abv w w := ⟨#[], w.drawn, by simp [ext]⟩
theorem Abv.ext {w W : World} (h : Abv w W) (E : Array Obj) (d : Nat) : Abv w (ext W E d) := by
  obtain ⟨E0, d0, rfl⟩ := h
  exact ⟨_, _, ext_ext _ _ _ _ _⟩
theorem Abv.alloc {w W : World} (h : Abv w W) (o : Obj) : Abv w (W.alloc o) := by
  obtain ⟨E0, d0, rfl⟩ := h
  exact ⟨_, _, ext_alloc _ _ _ _⟩
theorem Abv.drew {w W : World} (h : Abv w W) : Abv w W.drew := by
  obtain ⟨E0, d0, rfl⟩ := h
  exact ⟨_, _, drew_ext _ _ _⟩
theorem Abv.drewN {w W : World} (h : Abv w W) (n : Nat) : Abv w (W.drewN n) := by
  obtain ⟨E0, d0, rfl⟩ := h
  exact ⟨_, _, drewN_ext _ _ _ _⟩
theorem Abv.cell {w W : World} (h : Abv w W) {b : Nat} (hb : b < w.heap.size) (o : Nat) : W.cell? ⟨b, o, none⟩ = w.cell? ⟨b, o, none⟩ := by
  obtain ⟨E0, d0, rfl⟩ := h
  exact cell?_ext_past _ _ _ _ _ hb
theorem Abv.held {α : Type} [GoRep α] {w W : World} (h : Abv w W) {x : α} {cs : List Value} (hx : Held w x cs) : Held W x cs := by
  obtain ⟨E0, d0, rfl⟩ := h
  exact held_ext hx _ _
theorem Abv.trans {w W X : World} (h : Abv w W) (k : Abv W X) : Abv w X := by
  obtain ⟨E0, d0, rfl⟩ := k
  exact h.ext _ _
/-- Whatever world lies above w: the closure g with what it captured says p of what its argument holds. -/
def Pred {α : Type} [GoRep α] (P : Program) (g : FuncId) (cap : Array Value) (mk : List Value → Value) (p : α → Bool) (w : World) : Prop :=
  (∀ (args : Array Value) (w : World), (callFunc g args).run P w = .ok (.enter g args) w) ∧
  ∀ (W : World), Abv w W → ∀ (x : α) (cs : List Value), Held W x cs → Calls P g (#[mk cs] ++ cap) W (RV (.bool (p x)) W)
/-- the first place at which p holds, or -1 -/
def idxL {α : Type} (p : α → Bool) (xs : List α) : Int := match xs.findIdx? p with | some i => i | none => -1
section
variable {α : Type} {p : α → Bool} {xs : List α} {k : Nat} {x : α}
theorem idxL_at (h : (xs.take k).any p = false) (hx : xs[k]? = some x) (hp : p x = true) : idxL p xs = k := by
  have h2 : xs.findIdx? p = some k := by
    rw [List.findIdx?_eq_some_iff_getElem]
    obtain ⟨hk, rfl⟩ := List.getElem?_eq_some_iff.1 hx
    refine ⟨hk, hp, fun j hj => ?_⟩
    rw [List.any_eq_false] at h
    have := h xs[j] (List.mem_take_iff_getElem.2 ⟨j, by omega, rfl⟩)
    simpa using this
  simp [idxL, h2]
theorem idxL_none (h : xs.any p = false) : idxL p xs = -1 := by
  have h2 : xs.findIdx? p = none := by
    rw [List.findIdx?_eq_none_iff]
    rw [List.any_eq_false] at h
    intro y hy
    simpa using h y hy
  simp [idxL, h2]
theorem any_snoc (h : (xs.take k).any p = false) (hx : xs[k]? = some x) (hp : p x = false) : (xs.take (k + 1)).any p = false := by
  rw [List.take_add_one, hx, List.any_append, h]
  simp [hp]
theorem any_at (hx : xs[k]? = some x) (hp : p x = true) : xs.any p = true := by
  rw [List.any_eq_true]
  exact ⟨x, List.mem_of_getElem? hx, hp⟩
theorem all_snoc (h : (xs.take k).all p = true) (hx : xs[k]? = some x) (hp : p x = true) : (xs.take (k + 1)).all p = true := by
  rw [List.take_add_one, hx, List.all_append, h]
  simp [hp]
theorem all_at (hx : xs[k]? = some x) (hp : p x = false) : xs.all p = false := by
  rw [List.all_eq_false]
  exact ⟨x, List.mem_of_getElem? hx, by simp [hp]⟩
theorem idxL_ge (xs : List α) : 0 ≤ idxL p xs ↔ xs.any p = true := by
  cases h : xs.any p
  · rw [idxL_none h]; simp
  · cases h2 : xs.findIdx? p with
    | none =>
      rw [List.findIdx?_eq_none_iff] at h2
      rw [List.any_eq_true] at h
      obtain ⟨y, hy, hp⟩ := h
      rw [h2 y hy] at hp
      cases hp
    | some i => simp [idxL, h2]
theorem idxL_lt (xs : List α) : -1 ≤ idxL p xs ∧ idxL p xs < xs.length := by
  unfold idxL
  cases h2 : xs.findIdx? p with
  | none => simp; omega
  | some i =>
    have := List.findIdx?_eq_some_iff_getElem.1 h2
    obtain ⟨hi, _⟩ := this
    simp
    omega
end
/-- Whatever world lies above w: the closure g with what it captured says p of what its two arguments hold. -/
def Pred2 {α : Type} [GoRep α] (P : Program) (g : FuncId) (cap : Array Value) (mk : List Value → Value) (p : α → α → Bool) (w : World) : Prop :=
  (∀ (args : Array Value) (w : World), (callFunc g args).run P w = .ok (.enter g args) w) ∧
  ∀ (W : World), Abv w W → ∀ (x y : α) (cs ds : List Value), Held W x cs → Held W y ds → Calls P g (#[mk cs, mk ds] ++ cap) W (RV (.bool (p x y)) W)
/-- as long as each other, and p holds of each two -/
def allB {α : Type} (p : α → α → Bool) : List α → List α → Bool
  | [], [] => true
  | x :: xs, y :: ys => p x y && allB p xs ys
  | _, _ => false
section
variable {α : Type} {p : α → α → Bool}
theorem allB_len : ∀ {xs ys : List α}, ¬ xs.length = ys.length → allB p xs ys = false
  | [], [], h => by simp at h
  | [], _ :: _, _ => rfl
  | _ :: _, [], _ => rfl
  | x :: xs, y :: ys, h => by
    rw [allB, allB_len (xs := xs) (ys := ys) (by simpa using h)]
    simp
theorem allB_at : ∀ {xs ys : List α} {k : Nat} {x y : α}, xs[k]? = some x → ys[k]? = some y → p x y = false → allB p xs ys = false
  | [], _, _, _, _, h, _, _ => by simp at h
  | _ :: _, [], _, _, _, _, h, _ => by simp at h
  | a :: xs, b :: ys, 0, x, y, h1, h2, h => by
    simp at h1 h2
    subst h1
    subst h2
    simp [allB, h]
  | a :: xs, b :: ys, k + 1, x, y, h1, h2, h => by
    simp at h1 h2
    rw [allB, allB_at h1 h2 h]
    simp
theorem allB_snoc : ∀ {xs ys : List α} {k : Nat} {x y : α}, allB p (xs.take k) (ys.take k) = true → xs[k]? = some x → ys[k]? = some y → p x y = true → allB p (xs.take (k + 1)) (ys.take (k + 1)) = true
  | [], _, _, _, _, _, h, _, _ => by simp at h
  | _ :: _, [], _, _, _, _, _, h, _ => by simp at h
  | a :: xs, b :: ys, 0, x, y, _, h1, h2, h => by
    simp at h1 h2
    subst h1
    subst h2
    simp [allB, h]
  | a :: xs, b :: ys, k + 1, x, y, h0, h1, h2, h => by
    simp at h1 h2
    rw [List.take_succ_cons, List.take_succ_cons, allB, Bool.and_eq_true] at h0
    rw [List.take_succ_cons, List.take_succ_cons, allB, h0.1, allB_snoc h0.2 h1 h2 h]
    rfl
theorem allB_dec [DecidableEq α] : ∀ (xs ys : List α), allB (fun x y => decide (x = y)) xs ys = decide (xs = ys)
  | [], [] => rfl
  | [], _ :: _ => by simp [allB]
  | _ :: _, [] => by simp [allB]
  | x :: xs, y :: ys => by
    rw [allB, allB_dec xs ys]
    by_cases h : x = y <;> simp [h]
end
/-- are they the same -/
def eqB {α : Type} [DecidableEq α] (x y : α) : Bool := decide (x = y)
theorem eqB_true {α : Type} [DecidableEq α] {x y : α} : eqB x y = true ↔ x = y := by simp [eqB]
theorem eqB_false {α : Type} [DecidableEq α] {x y : α} : eqB x y = false ↔ ¬ x = y := by simp [eqB]
theorem take_eq_snoc {α : Type} {xs ys : List α} {k : Nat} {x : α} (h : xs.take k = ys.take k) (hx : xs[k]? = some x) (hy : ys[k]? = some x) : xs.take (k + 1) = ys.take (k + 1) := by
  rw [List.take_add_one, List.take_add_one, h, hx, hy]
theorem take_ne {α : Type} {xs ys : List α} {k : Nat} {x y : α} (hx : xs[k]? = some x) (hy : ys[k]? = some y) (hn : ¬ x = y) : ¬ xs = ys := by
  intro e
  subst e
  rw [hx] at hy
  exact hn (Option.some.inj hy)
end Go.Proofs.YtigebfhekmjhmaaGreat
