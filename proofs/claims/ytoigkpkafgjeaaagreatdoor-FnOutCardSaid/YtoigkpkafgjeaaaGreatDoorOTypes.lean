/-
  The types of the program, as Lean types.
  No condition but what the arguments' cells hold. Printed by gen_types.py.
-/
import Derived.Test.YtoigkpkafgjeaaaGreatDoorOMark
namespace Go.Proofs.YtoigkpkafgjeaaaGreatDoor
open Go.ChangeShapes Go.WideShapes Go.ChangeAt Go.RowKit Go.Joins Go.Deep
open GoRep (rep bulk)
open GoMark (mrk cnt mrkI cntI)

abbrev GToken := Int × ByteArray
instance : DecidableEq GToken := @instDecidableEqProd _ _ inferInstance (inferInstance)
abbrev GSpan := Int × Int
instance : DecidableEq GSpan := @instDecidableEqProd _ _ inferInstance (inferInstance)
abbrev GScope := Int × (List ByteArray) × Int
instance : DecidableEq GScope := @instDecidableEqProd _ _ inferInstance (@instDecidableEqProd _ _ inferInstance (inferInstance))
abbrev GFilter := Bool × (List GScope)
instance : DecidableEq GFilter := @instDecidableEqProd _ _ inferInstance (inferInstance)
abbrev GMsg := Int × Int × ByteArray
instance : DecidableEq GMsg := @instDecidableEqProd _ _ inferInstance (@instDecidableEqProd _ _ inferInstance (inferInstance))
abbrev GBox := ByteArray × Int × Int × (List GMsg)
instance : DecidableEq GBox := @instDecidableEqProd _ _ inferInstance (@instDecidableEqProd _ _ inferInstance (@instDecidableEqProd _ _ inferInstance (inferInstance)))
abbrev GCommit := Int × Int × Int × Int × ByteArray × ByteArray
instance : DecidableEq GCommit := @instDecidableEqProd _ _ inferInstance (@instDecidableEqProd _ _ inferInstance (@instDecidableEqProd _ _ inferInstance (@instDecidableEqProd _ _ inferInstance (@instDecidableEqProd _ _ inferInstance (inferInstance)))))
abbrev GStore := (List GBox) × (List GCommit) × Int
instance : DecidableEq GStore := @instDecidableEqProd _ _ inferInstance (@instDecidableEqProd _ _ inferInstance (inferInstance))
abbrev GSeen := Int × Int
instance : DecidableEq GSeen := @instDecidableEqProd _ _ inferInstance (inferInstance)
abbrev GView := (List GSeen)
instance : DecidableEq GView := inferInstance
abbrev GReply := Int × Int × Int × Int × ByteArray × ByteArray
instance : DecidableEq GReply := @instDecidableEqProd _ _ inferInstance (@instDecidableEqProd _ _ inferInstance (@instDecidableEqProd _ _ inferInstance (@instDecidableEqProd _ _ inferInstance (@instDecidableEqProd _ _ inferInstance (inferInstance)))))
abbrev GNote := Int × Int × Int × ByteArray
instance : DecidableEq GNote := @instDecidableEqProd _ _ inferInstance (@instDecidableEqProd _ _ inferInstance (@instDecidableEqProd _ _ inferInstance (inferInstance)))
abbrev GQueue := (List GNote) × Bool × Bool
instance : DecidableEq GQueue := @instDecidableEqProd _ _ inferInstance (@instDecidableEqProd _ _ inferInstance (inferInstance))
abbrev GOut := ByteArray × ByteArray
instance : DecidableEq GOut := @instDecidableEqProd _ _ inferInstance (inferInstance)
abbrev GIn := ByteArray × Bool
instance : DecidableEq GIn := @instDecidableEqProd _ _ inferInstance (inferInstance)
abbrev GCommand := ByteArray × Int × ByteArray × ByteArray × Bool × (List GSpan) × Int × Int × ByteArray × GFilter
instance : DecidableEq GCommand := @instDecidableEqProd _ _ inferInstance (@instDecidableEqProd _ _ inferInstance (@instDecidableEqProd _ _ inferInstance (@instDecidableEqProd _ _ inferInstance (@instDecidableEqProd _ _ inferInstance (@instDecidableEqProd _ _ inferInstance (@instDecidableEqProd _ _ inferInstance (@instDecidableEqProd _ _ inferInstance (@instDecidableEqProd _ _ inferInstance (inferInstance)))))))))
abbrev GClient := Bool × ByteArray × Int × Int × (List GSeen) × Bool
instance : DecidableEq GClient := @instDecidableEqProd _ _ inferInstance (@instDecidableEqProd _ _ inferInstance (@instDecidableEqProd _ _ inferInstance (@instDecidableEqProd _ _ inferInstance (@instDecidableEqProd _ _ inferInstance (inferInstance)))))
abbrev GSession := Bool × Int × Int × Int × GView × GFilter × ByteArray × ByteArray × GQueue × GIn × GOut × Int
instance : DecidableEq GSession := @instDecidableEqProd _ _ inferInstance (@instDecidableEqProd _ _ inferInstance (@instDecidableEqProd _ _ inferInstance (@instDecidableEqProd _ _ inferInstance (@instDecidableEqProd _ _ inferInstance (@instDecidableEqProd _ _ inferInstance (@instDecidableEqProd _ _ inferInstance (@instDecidableEqProd _ _ inferInstance (@instDecidableEqProd _ _ inferInstance (@instDecidableEqProd _ _ inferInstance (@instDecidableEqProd _ _ inferInstance (inferInstance)))))))))))
abbrev GServer := GStore × (List GSession)
instance : DecidableEq GServer := @instDecidableEqProd _ _ inferInstance (inferInstance)
abbrev GAct := Int × Int × Int × ByteArray
instance : DecidableEq GAct := @instDecidableEqProd _ _ inferInstance (@instDecidableEqProd _ _ inferInstance (@instDecidableEqProd _ _ inferInstance (inferInstance)))
abbrev GOutcome := Int × ByteArray × Int
instance : DecidableEq GOutcome := @instDecidableEqProd _ _ inferInstance (@instDecidableEqProd _ _ inferInstance (inferInstance))
/-- the cells hold x, wherever the memory behind them lies -/
def Held {α : Type} [GoRep α] (w : World) (x : α) (cs : List Value) : Prop := ∃ F, rep w x cs F
theorem Held.mk {α : Type} [GoRep α] {w : World} {x : α} {cs : List Value} {F : List Nat} (h : rep w x cs F) : Held w x cs := ⟨F, h⟩
theorem held_alloc {α : Type} [GoRep α] {w : World} {x : α} {cs : List Value} (h : Held w x cs) (o : Obj) : Held (w.alloc o) x cs := by obtain ⟨F, h⟩ := h; exact ⟨F, rep_alloc h o⟩
theorem held_ext {α : Type} [GoRep α] {w : World} {x : α} {cs : List Value} (h : Held w x cs) (E : Array Obj) (d : Nat) : Held (ext w E d) x cs := by obtain ⟨F, h⟩ := h; exact ⟨F, rep_ext h E d⟩
theorem heap_swap {A A' : World} (E : Array Obj) (d d' g : Nat) (hg : A.heap.size ≤ g) (hs : A'.heap.size = A.heap.size) : (ext A' E d').heap[g]? = (ext A E d).heap[g]? := by
  show (A'.heap ++ E)[g]? = (A.heap ++ E)[g]?
  rw [Array.getElem?_append_right (by omega), Array.getElem?_append_right hg, hs]
theorem rep_swap1 {α : Type} [GoRep α] {A A' : World} {E : Array Obj} {d d' : Nat} {x : α} {cs : List Value} {F : List Nat} (h : rep (ext A E d) x cs F) (hf : ∀ b ∈ F, A.heap.size ≤ b) (hs : A'.heap.size = A.heap.size) :
    rep (ext A' E d') x cs F := GoRep.keep h (fun b hb => heap_swap E d d' b (hf b hb) hs)
theorem rep_swap2 {α : Type} [GoRep α] {A A' : World} {E E2 : Array Obj} {d d' d2 d2' : Nat} {x : α} {cs : List Value} {F : List Nat} (h : rep (ext (ext A E d) E2 d2) x cs F) (hf : ∀ b ∈ F, A.heap.size ≤ b) (hs : A'.heap.size = A.heap.size) :
    rep (ext (ext A' E d') E2 d2') x cs F := by
  rw [ext_ext] at h ⊢
  exact rep_swap1 h hf hs
theorem rep_swap3 {α : Type} [GoRep α] {A A' : World} {E E2 E3 : Array Obj} {d d' d2 d2' d3 d3' : Nat} {x : α} {cs : List Value} {F : List Nat} (h : rep (ext (ext (ext A E d) E2 d2) E3 d3) x cs F) (hf : ∀ b ∈ F, A.heap.size ≤ b) (hs : A'.heap.size = A.heap.size) :
    rep (ext (ext (ext A' E d') E2 d2') E3 d3') x cs F := by
  rw [ext_ext] at h ⊢
  exact rep_swap2 h hf hs
theorem rep_swap4 {α : Type} [GoRep α] {A A' : World} {E E2 E3 E4 : Array Obj} {d d' d2 d2' d3 d3' d4 d4' : Nat} {x : α} {cs : List Value} {F : List Nat} (h : rep (ext (ext (ext (ext A E d) E2 d2) E3 d3) E4 d4) x cs F) (hf : ∀ b ∈ F, A.heap.size ≤ b) (hs : A'.heap.size = A.heap.size) :
    rep (ext (ext (ext (ext A' E d') E2 d2') E3 d3') E4 d4') x cs F := by
  rw [ext_ext] at h ⊢
  exact rep_swap3 h hf hs
theorem rep_swap5 {α : Type} [GoRep α] {A A' : World} {E E2 E3 E4 E5 : Array Obj} {d d' d2 d2' d3 d3' d4 d4' d5 d5' : Nat} {x : α} {cs : List Value} {F : List Nat} (h : rep (ext (ext (ext (ext (ext A E d) E2 d2) E3 d3) E4 d4) E5 d5) x cs F) (hf : ∀ b ∈ F, A.heap.size ≤ b) (hs : A'.heap.size = A.heap.size) :
    rep (ext (ext (ext (ext (ext A' E d') E2 d2') E3 d3') E4 d4') E5 d5') x cs F := by
  rw [ext_ext] at h ⊢
  exact rep_swap4 h hf hs
theorem RN.fin {α : Type} [GoRep α] {mk : List Value → Value} {x : α} {w w1 : World} {v : Value} {cs : List Value} {F : List Nat} (hb : Below w.heap.size w w1) (hr : rep w1 x cs F) (hn : F.Nodup) (hf : ∀ b ∈ F, w.heap.size ≤ b) (hv : v = mk cs) :
    RN mk x w (.returned v) w1 := by
  obtain ⟨E, d, he⟩ := ext_of_below hb
  exact ⟨cs, F, E, d, by rw [hv], he, hr, hn, hf⟩
theorem fa_app {Q : Nat → Prop} {A B : List Nat} (h1 : ∀ b ∈ A, Q b) (h2 : ∀ b ∈ B, Q b) : ∀ b ∈ A ++ B, Q b := fun b hb => by
  rcases List.mem_append.1 hb with h | h
  · exact h1 b h
  · exact h2 b h
theorem bulk_pair {α β : Type} [GoRep α] [GoRep β] (x : α) (y : β) : bulk (x, y) = bulk x + bulk y := rfl
theorem bulk_int (x : Int) : bulk x = 0 := rfl
theorem bulk_bool (x : Bool) : bulk x = 0 := rfl
theorem bulk_str (x : ByteArray) : bulk x = x.size := rfl
theorem bulkL_zero {α : Type} [GoRep α] (h : ∀ x : α, bulk x = 0) (xs : List α) : bulkL xs = 0 := by
  induction xs with
  | nil => rfl
  | cons x xs ih => simp [bulkL, h, ih]
end Go.Proofs.YtoigkpkafgjeaaaGreatDoor
