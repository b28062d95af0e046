/-
  A block that the walk itself has laid is read whole, in one step.
  No condition.
-/
import Derived.Test.YtkompmgleojmlaaDoorEBase
namespace Go.Proofs.YtkompmgleojmlaaDoor
open Go.ChangeShapes Go.WideShapes Go.ChangeAt Go.RowKit Go.Joins Go.Deep
/-- the cells of a block -/
def blkOf (W : World) (b : Nat) : Array Value := match W.heap[b]? with | some (.cells cs _ _) => cs | _ => #[]
/-- the same, where nothing more is to be said of it -/
def blkNo (W : World) (b : Nat) : Array Value := blkOf W b
theorem blkOf_ext' {w : World} {b : Nat} (E : Array Obj) (d : Nat) (h : b < w.heap.size) : blkOf (ext w E d) b = blkOf w b := by
  unfold blkOf
  rw [heap_ext_past w E d h]
@[go_sem] theorem blkOf_ext {w : World} {b : Nat} (E : Array Obj) (d : Nat) : blkOf (ext w E d) b = if b < w.heap.size then blkOf w b else blkNo (ext w E d) b := by
  split
  · rename_i h; exact blkOf_ext' E d h
  · rfl
theorem blkOf_new (w : World) (cs : Array Value) (T : TypeId) (fr : Nat × Nat) : blkOf (w.alloc (.cells cs T fr)) w.heap.size = cs := by
  unfold blkOf
  have : (w.alloc (.cells cs T fr)).heap[w.heap.size]? = some (.cells cs T fr) := by
    show (w.heap.push _)[w.heap.size]? = _
    simp
  rw [this]
@[go_sem] theorem blkOf_past {w : World} {b : Nat} (o : Obj) : blkOf (w.alloc o) b = if b < w.heap.size then blkOf w b else blkNo (w.alloc o) b := by
  split
  · rename_i h
    unfold blkOf
    rw [Below.heap_alloc w o b h]
  · rfl
@[go_sem high] theorem blkOf_at {w : World} {b : Nat} (cs : Array Value) (T : TypeId) (fr : Nat × Nat) : blkOf (w.alloc (.cells cs T fr)) b = if b < w.heap.size then blkOf w b else if b = w.heap.size then cs else blkNo (w.alloc (.cells cs T fr)) b := by
  split
  · rename_i h; rw [blkOf_past, if_pos h]
  · split
    · rename_i h; subst h; exact blkOf_new _ _ _ _
    · rfl
@[go_sem] theorem blkOf_drew (w : World) (b : Nat) : blkOf w.drew b = blkOf w b := rfl
@[go_sem] theorem blkOf_drewN (w : World) (b n : Nat) : blkOf (w.drewN n) b = blkOf w b := rfl
@[go_sem high] theorem loadCells_blk {P : Program} (W : World) (b n : Nat) (h : (blkOf W b).size = n) : (loadCells ⟨b, 0, none⟩ n).run P W = .ok (blkOf W b) W := by
  subst h
  unfold blkOf
  cases hb : W.heap[b]? with
  | none => simp [loadCells, loadCellsFrom]
  | some o =>
    cases o with
    | cells cs t fr =>
      have hl : (loadCells ⟨b, 0, none⟩ cs.toList.length).run P W = .ok cs.toList.toArray W :=
        run_loadCells_list (P := P) W ⟨b, 0, none⟩ cs.toList (fun j v hv => by
          have hadd : (⟨b, 0, none⟩ : Addr).add j = ⟨b, j, none⟩ := by unfold Addr.add; split <;> simp_all
          rw [hadd, cell_of_row W b j cs t fr hb]
          simpa using hv)
      simpa using hl
    | _ => simp [loadCells, loadCellsFrom]
section
variable {P : Program} (w : World) (a : Addr) (n : Nat)
@[go_sem low] theorem loadCells_any (_ : (w.cell? a).isSome = true) : (loadCells a n).run P w = (loadCellsFrom a 0 n #[]).run P w := rfl
@[go_sem low] theorem loadCells_ext (E : Array Obj) (d : Nat) : (loadCells a n).run P (ext w E d) = (loadCellsFrom a 0 n #[]).run P (ext w E d) := rfl
@[go_sem low] theorem loadCells_alloc (o : Obj) : (loadCells a n).run P (w.alloc o) = (loadCellsFrom a 0 n #[]).run P (w.alloc o) := rfl
@[go_sem low] theorem loadCells_drew : (loadCells a n).run P w.drew = (loadCellsFrom a 0 n #[]).run P w.drew := rfl
@[go_sem low] theorem loadCells_drewN (k : Nat) : (loadCells a n).run P (w.drewN k) = (loadCellsFrom a 0 n #[]).run P (w.drewN k) := rfl
@[go_sem low] theorem loadCells_set (p : Addr) (v : Value) : (loadCells a n).run P (w.setCell p v) = (loadCellsFrom a 0 n #[]).run P (w.setCell p v) := rfl
end
/-- a block of n cells that may be written -/
def blkFree (W : World) (b n : Nat) : Bool := match W.heap[b]? with | some (.cells cs _ fr) => cs.size == n && fr == (0, 0) | _ => false
def blkFreeNo (W : World) (b n : Nat) : Bool := blkFree W b n
@[go_sem] theorem blkFree_ext {w : World} {b : Nat} (n : Nat) (E : Array Obj) (d : Nat) : blkFree (ext w E d) b n = if b < w.heap.size then blkFree w b n else blkFreeNo (ext w E d) b n := by
  split
  · rename_i h
    unfold blkFree
    rw [heap_ext_past w E d h]
  · rfl
theorem blkFree_new (w : World) (cs : Array Value) (T : TypeId) (n : Nat) : blkFree (w.alloc (.cells cs T)) w.heap.size n = (cs.size == n) := by
  unfold blkFree
  have : (w.alloc (.cells cs T)).heap[w.heap.size]? = some (.cells cs T) := by
    show (w.heap.push _)[w.heap.size]? = _
    simp
  rw [this]
  simp
@[go_sem] theorem blkFree_past {w : World} {b : Nat} (n : Nat) (o : Obj) : blkFree (w.alloc o) b n = if b < w.heap.size then blkFree w b n else blkFreeNo (w.alloc o) b n := by
  split
  · rename_i h
    unfold blkFree
    rw [Below.heap_alloc w o b h]
  · rfl
@[go_sem high] theorem blkFree_at {w : World} {b : Nat} (cs : Array Value) (T : TypeId) (n : Nat) : blkFree (w.alloc (.cells cs T)) b n = if b < w.heap.size then blkFree w b n else if b = w.heap.size then (cs.size == n) else blkFreeNo (w.alloc (.cells cs T)) b n := by
  split
  · rename_i h; rw [blkFree_past, if_pos h]
  · split
    · rename_i h; subst h; exact blkFree_new _ _ _ _
    · rfl
@[go_sem] theorem blkFree_drew (w : World) (b n : Nat) : blkFree w.drew b n = blkFree w b n := rfl
@[go_sem] theorem blkFree_drewN (w : World) (b n k : Nat) : blkFree (w.drewN k) b n = blkFree w b n := rfl
/-- the block's cells turned -/
def setBlk (W : World) (b : Nat) (cs : Array Value) : World := { W with heap := W.heap.modify b (fun o => match o with | .cells _ T fr => .cells cs T fr | o => o) }
theorem setBlk_ext' {w : World} {b : Nat} (cs : Array Value) (E : Array Obj) (d : Nat) (h : b < w.heap.size) : setBlk (ext w E d) b cs = ext (setBlk w b cs) E d := by
  unfold setBlk ext
  simp only
  congr 1
  apply Array.ext_getElem?
  intro k
  simp only [Array.getElem?_modify, Array.getElem?_append, Array.size_modify]
  by_cases hk : b = k
  · subst hk
    simp [h]
  · simp [hk]
theorem setBlk_new (w : World) (old cs : Array Value) (T : TypeId) : setBlk (w.alloc (.cells old T)) w.heap.size cs = w.alloc (.cells cs T) := by
  unfold setBlk World.alloc
  simp only
  congr 1
  apply Array.ext_getElem?
  intro k
  simp only [Array.getElem?_modify, Array.getElem?_push]
  by_cases hk : w.heap.size = k
  · subst hk
    simp
  · have hk' : ¬ k = w.heap.size := fun e => hk e.symm
    simp [hk, hk']
theorem setBlk_past' {w : World} {b : Nat} (cs : Array Value) (o : Obj) (h : b < w.heap.size) : setBlk (w.alloc o) b cs = (setBlk w b cs).alloc o := by
  unfold setBlk World.alloc
  simp only
  congr 1
  apply Array.ext_getElem?
  intro k
  simp only [Array.getElem?_modify, Array.getElem?_push, Array.size_modify]
  by_cases hk : b = k
  · subst hk
    have : ¬ b = w.heap.size := by omega
    simp [this]
  · simp [hk]
def setBlkNo (W : World) (b : Nat) (cs : Array Value) : World := setBlk W b cs
@[go_sem] theorem setBlk_ext (w : World) (b : Nat) (cs : Array Value) (E : Array Obj) (d : Nat) : setBlk (ext w E d) b cs = if b < w.heap.size then ext (setBlk w b cs) E d else setBlkNo (ext w E d) b cs := by
  split
  · rename_i h; exact setBlk_ext' cs E d h
  · rfl
@[go_sem] theorem setBlk_past (w : World) (b : Nat) (cs : Array Value) (o : Obj) : setBlk (w.alloc o) b cs = if b < w.heap.size then (setBlk w b cs).alloc o else setBlkNo (w.alloc o) b cs := by
  split
  · rename_i h; exact setBlk_past' cs o h
  · rfl
@[go_sem high] theorem setBlk_at (w : World) (b : Nat) (old cs : Array Value) (T : TypeId) : setBlk (w.alloc (.cells old T)) b cs = if b < w.heap.size then (setBlk w b cs).alloc (.cells old T) else if b = w.heap.size then w.alloc (.cells cs T) else setBlkNo (w.alloc (.cells old T)) b cs := by
  split
  · rename_i h; rw [setBlk_past, if_pos h]
  · split
    · rename_i h; subst h; exact setBlk_new _ _ _ _
    · rfl
@[simp, go_sem] theorem size_setBlk (w : World) (b : Nat) (cs : Array Value) : (setBlk w b cs).heap.size = w.heap.size := by simp [setBlk]
@[go_sem] theorem setBlk_drew (w : World) (b : Nat) (cs : Array Value) : setBlk w.drew b cs = (setBlk w b cs).drew := rfl
theorem storeCells_run {P : Program} (g : Nat) (t : TypeId) : ∀ (vs : List Value) (i : Nat) (cur : Array Value) (W : World), W.heap[g]? = some (.cells cur t (0, 0)) → i + vs.length = cur.size → vs.all (fun v => v.oneCell') = true →
    (storeCells ⟨g, 0, none⟩ vs i).run P W = .ok () (setBlk W g (cur.toList.take i ++ vs).toArray)
  | [], i, cur, W, hg, hl, _ => by
    have h1 : cur.toList.take i = cur.toList := List.take_of_length_le (by simp at hl ⊢; omega)
    have h2 : setBlk W g cur = W := by
      unfold setBlk
      congr 1
      apply Array.ext_getElem?
      intro k
      rw [Array.getElem?_modify]
      by_cases hk : g = k
      · subst hk
        rw [if_pos rfl, hg]
        rfl
      · rw [if_neg hk]
    simp only [storeCells, List.append_nil, h1, Array.toArray_toList, h2]
    rfl
  | v :: vs, i, cur, W, hg, hl, ho => by
    rw [List.all_cons, Bool.and_eq_true] at ho
    have hadd : (⟨g, 0, none⟩ : Addr).add i = ⟨g, i, none⟩ := by unfold Addr.add; split <;> simp_all
    have hi : i < cur.size := by simp at hl; omega
    have hc : W.cell? ⟨g, i, none⟩ = some cur[i] := by simp [World.cell?, hg, hi]
    have hf : W.frozen? ⟨g, i, none⟩ = false := by simp [World.frozen?, hg]
    have hset : W.setCell ⟨g, i, none⟩ v = setBlk W g (cur.setIfInBounds i v) := by
      unfold World.setCell setBlk
      simp only
      congr 1
      apply Array.ext_getElem?
      intro k
      simp only [Array.getElem?_modify]
      by_cases hk : g = k
      · subst hk
        rw [if_pos rfl, if_pos rfl, hg]
        rfl
      · rw [if_neg hk, if_neg hk]
    have hg' : (setBlk W g (cur.setIfInBounds i v)).heap[g]? = some (.cells (cur.setIfInBounds i v) t (0, 0)) := by
      unfold setBlk
      simp only [Array.getElem?_modify, if_pos, hg]
      rfl
    have ih := storeCells_run (P := P) g t vs (i + 1) (cur.setIfInBounds i v) (setBlk W g (cur.setIfInBounds i v)) hg' (by simp at hl ⊢; omega) ho.2
    have e : ((cur.setIfInBounds i v).toList.take (i + 1) ++ vs) = cur.toList.take i ++ v :: vs := by
      rw [Array.toList_setIfInBounds, List.take_add_one, List.getElem?_set_self (by simpa using hi), List.take_set_of_le (Nat.le_refl _)]
      simp
    have e2 : ∀ cs cs' : Array Value, setBlk (setBlk W g cs) g cs' = setBlk W g cs' := fun cs cs' => by
      unfold setBlk
      simp only
      congr 1
      apply Array.ext_getElem?
      intro k
      simp only [Array.getElem?_modify]
      by_cases hk : g = k
      · subst hk
        simp only [if_true, hg]
        rfl
      · simp [hk]
    rw [e, e2] at ih
    have hst : (store (⟨g, i, none⟩ : Addr) v).run P W = .ok () (setBlk W g (cur.setIfInBounds i v)) := by
      rw [← hset, run_store P W _ v .plain ho.1, hc, hf]
      rfl
    simp only [storeCells, Sem.run_bind, hadd, hst, Result.andThen_ok]
    exact ih
@[go_sem high] theorem storeCells_blk {P : Program} (W : World) (b : Nat) (vs : List Value) (ho : vs.all (fun v => v.oneCell') = true) (h : blkFree W b vs.length = true) : (storeCells ⟨b, 0, none⟩ vs 0).run P W = .ok () (setBlk W b vs.toArray) := by
  unfold blkFree at h
  split at h
  · rename_i cs T fr hb
    simp only [Bool.and_eq_true, beq_iff_eq] at h
    obtain ⟨h1, rfl⟩ := h
    have := storeCells_run (P := P) b T vs 0 cs W hb (by omega) ho
    simpa using this
  · cases h
section
variable {P : Program} (w : World) (a : Addr) (v : Value) (vs : List Value) (i : Nat)
@[go_sem low] theorem storeCells_any (_ : (w.cell? (a.add i)).isSome = true) : (storeCells a (v :: vs) i).run P w = ((do store (a.add i) v; storeCells a vs (i + 1) : Sem Unit)).run P w := rfl
@[go_sem low] theorem storeCells_ext (E : Array Obj) (d : Nat) : (storeCells a (v :: vs) i).run P (ext w E d) = ((do store (a.add i) v; storeCells a vs (i + 1) : Sem Unit)).run P (ext w E d) := rfl
@[go_sem low] theorem storeCells_alloc (o : Obj) : (storeCells a (v :: vs) i).run P (w.alloc o) = ((do store (a.add i) v; storeCells a vs (i + 1) : Sem Unit)).run P (w.alloc o) := rfl
@[go_sem low] theorem storeCells_drew : (storeCells a (v :: vs) i).run P w.drew = ((do store (a.add i) v; storeCells a vs (i + 1) : Sem Unit)).run P w.drew := rfl
@[go_sem low] theorem storeCells_drewN (k : Nat) : (storeCells a (v :: vs) i).run P (w.drewN k) = ((do store (a.add i) v; storeCells a vs (i + 1) : Sem Unit)).run P (w.drewN k) := rfl
@[go_sem low] theorem storeCells_set (p : Addr) (u : Value) : (storeCells a (v :: vs) i).run P (w.setCell p u) = ((do store (a.add i) v; storeCells a vs (i + 1) : Sem Unit)).run P (w.setCell p u) := rfl
end
@[go_sem] theorem storeCells_nil {P : Program} (W : World) (a : Addr) (i : Nat) : (storeCells a [] i).run P W = .ok () W := rfl
end Go.Proofs.YtkompmgleojmlaaDoor
