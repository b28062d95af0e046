/-
  Plain laws on lists: the first place at which a test holds, what holds of the first elements.
  No program. No condition.
-/
import Derived.Test.YtoigkpkafgjeaaaGreatDoorOTypes
namespace Go.Proofs.YtoigkpkafgjeaaaGreatDoor
open Go.ChangeShapes Go.WideShapes Go.ChangeAt Go.RowKit Go.Joins Go.Deep
open GoRep (rep bulk)
/-- the world W is w with new memory behind it -/
def Abv (w W : World) : Prop := ∃ (E : Array Obj) (d : Nat), W = ext w E d
theorem Abv.refl (w : World) : Abv w w := ⟨#[], w.drawn, by simp [ext]⟩
theorem Abv.ext {w W : World} (h : Abv w W) (E : Array Obj) (d : Nat) : Abv w (ext W E d) := by
  obtain ⟨E0, d0, rfl⟩ := h
  exact ⟨_, _, ext_ext _ _ _ _ _⟩
theorem Abv.alloc {w W : World} (h : Abv w W) (o : Obj) : Abv w (W.alloc o) := by
  obtain ⟨E0, d0, rfl⟩ := h
  exact ⟨_, _, ext_alloc _ _ _ _⟩
theorem Abv.drew {w W : World} (h : Abv w W) : Abv w W.drew := by
  obtain ⟨E0, d0, rfl⟩ := h
  exact ⟨_, _, drew_ext _ _ _⟩
theorem Abv.drewN {w W : World} (h : Abv w W) (n : Nat) : Abv w (W.drewN n) := by
  obtain ⟨E0, d0, rfl⟩ := h
  exact ⟨_, _, drewN_ext _ _ _ _⟩
theorem Abv.cell {w W : World} (h : Abv w W) {b : Nat} (hb : b < w.heap.size) (o : Nat) : W.cell? ⟨b, o, none⟩ = w.cell? ⟨b, o, none⟩ := by
  obtain ⟨E0, d0, rfl⟩ := h
  exact cell?_ext_past _ _ _ _ _ hb
theorem Abv.trans {w W X : World} (h : Abv w W) (k : Abv W X) : Abv w X := by
  obtain ⟨E0, d0, rfl⟩ := k
  exact h.ext _ _
/-- the first place at which p holds, or -1 -/
def idxL {α : Type} (p : α → Bool) (xs : List α) : Int := match xs.findIdx? p with | some i => i | none => -1
section
variable {α : Type} {p : α → Bool} {xs : List α} {k : Nat} {x : α}
theorem idxL_at (h : (xs.take k).any p = false) (hx : xs[k]? = some x) (hp : p x = true) : idxL p xs = k := by
  have h2 : xs.findIdx? p = some k := by
    rw [List.findIdx?_eq_some_iff_getElem]
    obtain ⟨hk, rfl⟩ := List.getElem?_eq_some_iff.1 hx
    refine ⟨hk, hp, fun j hj => ?_⟩
    rw [List.any_eq_false] at h
    have := h xs[j] (List.mem_take_iff_getElem.2 ⟨j, by omega, rfl⟩)
    simpa using this
  simp [idxL, h2]
theorem idxL_none (h : xs.any p = false) : idxL p xs = -1 := by
  have h2 : xs.findIdx? p = none := by
    rw [List.findIdx?_eq_none_iff]
    rw [List.any_eq_false] at h
    intro y hy
    simpa using h y hy
  simp [idxL, h2]
theorem any_at (hx : xs[k]? = some x) (hp : p x = true) : xs.any p = true := by
  rw [List.any_eq_true]
  exact ⟨x, List.mem_of_getElem? hx, hp⟩
theorem idxL_ge (xs : List α) : 0 ≤ idxL p xs ↔ xs.any p = true := by
  cases h : xs.any p
  · rw [idxL_none h]; simp
  · cases h2 : xs.findIdx? p with
    | none =>
      rw [List.findIdx?_eq_none_iff] at h2
      rw [List.any_eq_true] at h
      obtain ⟨y, hy, hp⟩ := h
      rw [h2 y hy] at hp
      cases hp
    | some i => simp [idxL, h2]
theorem idxL_lt (xs : List α) : -1 ≤ idxL p xs ∧ idxL p xs < xs.length := by
  unfold idxL
  cases h2 : xs.findIdx? p with
  | none => simp; omega
  | some i =>
    have := List.findIdx?_eq_some_iff_getElem.1 h2
    obtain ⟨hi, _⟩ := this
    simp
    omega
end
section
variable {α : Type} {p : α → α → Bool}
end
/-- are they the same -/
def eqB {α : Type} [DecidableEq α] (x y : α) : Bool := decide (x = y)
theorem eqB_true {α : Type} [DecidableEq α] {x y : α} : eqB x y = true ↔ x = y := by simp [eqB]
theorem eqB_false {α : Type} [DecidableEq α] {x y : α} : eqB x y = false ↔ ¬ x = y := by simp [eqB]
end Go.Proofs.YtoigkpkafgjeaaaGreatDoor
