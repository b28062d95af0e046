/-
  From a law's arguments, read as data, to what they hold as Lean values.
  Plain: no program. No condition.
-/
import Derived.Test.YtkompmgleojmlaaDoorERep
namespace Go.Proofs.YtkompmgleojmlaaDoor
open Go.ChangeShapes Go.WideShapes Go.ChangeAt Go.RowKit Go.Joins Go.Deep
open GoRep (rep bulk)

/-- Whatever reads as a datum at type t holds an α. -/
def TrodRep (α : Type) [GoRep α] (P : Program) (t : TypeId) : Prop :=
  ∀ (H : Type) (enc : TypeId × Value → H) (w : World) (fuel : Nat) (cs : List Value) (d : DataW H) (ps : List MemPlace),
    DataW.trod enc P w 0 (fun _ => true) true fuel t cs = some (d, ps) → w.noneFrozen ps → ∃ (x : α) (F : List Nat), rep w x cs F

section
variable {P : Program} {t : TypeId}
theorem trodRep_bool (ht : P.underlying t = some .bool) : TrodRep Bool P t := by
  intro H enc w fuel cs d ps h hf
  obtain ⟨n, e, _⟩ := DataW.trod_bool ht h
  exact ⟨n, [], e, rfl⟩
theorem trodRep_str (ht : P.underlying t = some .string) : TrodRep ByteArray P t := by
  intro H enc w fuel cs d ps h hf
  obtain ⟨n, e, _, hw⟩ := DataW.trod_string ht h
  exact ⟨n, [], e, hw, rfl⟩

/-- the fields from cell o on hold an α -/
def FieldsRep (P : Program) (fs : List Field) (o : Nat) (α : Type) [GoRep α] : Prop :=
  ∀ (H : Type) (enc : TypeId × Value → H) (w : World) (fuel : Nat) (cs : List Value), cs.length = o + GoRep.n α →
    (∀ f ∈ fs, ∃ (d : DataW H) (ps : List MemPlace), DataW.trod enc P w 0 (fun _ => true) true fuel f.type ((cs.drop f.offset).take (P.cellsOf f.type)) = some (d, ps) ∧ w.noneFrozen ps) →
    ∃ (x : α) (F : List Nat), rep w x (cs.drop o) F
theorem fieldsRep_one {α : Type} [GoRep α] {f : Field} {o : Nat} (he : TrodRep α P f.type) (ho : f.offset = o) (hc : P.cellsOf f.type = GoRep.n α) : FieldsRep P [f] o α := by
  intro H enc w fuel cs hl h
  obtain ⟨d, ps, ht, hf⟩ := h f (by simp)
  obtain ⟨x, F, hr⟩ := he H enc w fuel _ d ps ht hf
  rw [ho, List.take_of_length_le (by rw [List.length_drop, hl, hc]; omega)] at hr
  exact ⟨x, F, hr⟩
theorem fieldsRep_cons {α β : Type} [GoRep α] [GoRep β] {f : Field} {fs : List Field} {o : Nat} (he : TrodRep α P f.type) (ho : f.offset = o) (hc : P.cellsOf f.type = GoRep.n α)
    (hs : FieldsRep P fs (o + GoRep.n α) β) : FieldsRep P (f :: fs) o (α × β) := by
  intro H enc w fuel cs hl h
  have hl' : cs.length = o + (GoRep.n α + GoRep.n β) := hl
  obtain ⟨d, ps, ht, hf⟩ := h f (by simp)
  obtain ⟨x, F, hr⟩ := he H enc w fuel _ d ps ht hf
  obtain ⟨y, G, hr'⟩ := hs H enc w fuel cs (by omega) (fun f' hf' => h f' (by simp [hf']))
  rw [ho, hc] at hr
  refine ⟨(x, y), F ++ G, _, _, F, G, hr, hr', ?_, rfl⟩
  rw [← List.drop_drop, List.take_append_drop]
theorem trodRep_struct {α : Type} [GoRep α] {fs : Array Field} (ht : P.underlying t = some (.struct fs)) (hc : P.cellsOf t = GoRep.n α) (hs : FieldsRep P fs.toList 0 α) : TrodRep α P t := by
  intro H enc w fuel cs d ps h hf
  obtain ⟨xs, n, _, hx, hl, hlen, hat⟩ := DataW.trod_struct ht h
  simp only [Prod.mk.injEq] at hx
  obtain ⟨_, rfl⟩ := hx
  have := hs H enc w n cs (by omega) (fun f hfm => by
    obtain ⟨i, hi, hfi⟩ := List.mem_iff_getElem.1 hfm
    have hi' : i < fs.size := by simpa using hi
    have h1 := hat i f (by rw [Array.getElem?_eq_getElem hi']; simpa using hfi)
    have hix : i < xs.length := by omega
    rw [List.getElem?_eq_getElem hix] at h1
    refine ⟨xs[i].1, xs[i].2, h1, fun b o hm => hf b o (List.mem_flatMap.2 ⟨xs[i], List.getElem_mem hix, hm⟩)⟩)
  simpa using this
end
end Go.Proofs.YtkompmgleojmlaaDoor
