/-
  Each operation of the abstract machine does what the model's operation does.
  Plain: no program. No condition.
-/
import Derived.Test.YtkompmgleojmlaaDoorEBmB
set_option linter.unusedSimpArgs false
set_option linter.unusedVariables false
namespace Go.Proofs.YtkompmgleojmlaaDoor
open Go.ChangeShapes Go.WideShapes Go.ChangeAt Go.RowKit Go.Joins Go.Deep
open GoRep (rep bulk)

section
variable {P : Program} {X : List Nat} {W : World} {E : Env} {M : Mem} {a : Act} {tm : List AV}
theorem absC_rep {v : Value} (h : absOk v = true) : RepC X W E M (absC v) v := by
  cases v <;> first | exact ⟨rfl, h⟩ | exact rfl | exact ⟨rfl, by simpa [absOk] using h⟩
theorem absL_rep : ∀ {vs : List Value}, vs.all absOk = true → RepL X W E M (vs.map absC) vs
  | [], _ => rfl
  | v :: vs, h => by
    rw [List.all_cons, Bool.and_eq_true] at h
    exact ⟨v, vs, rfl, absC_rep h.1, absL_rep h.2⟩
theorem absV_rep (v : Value) : RepV X W E M (absV v) v := by
  unfold absV
  split
  · rename_i cs
    split
    · rename_i h; exact ⟨cs.toList, rfl, absL_rep h⟩
    · trivial
  · split
    · rename_i h; exact absC_rep h
    · trivial
theorem evalA_rep (ht : RepT X W E M tm a.tmps.toList) (x : Operand) : RepV X W E M (evalA tm x) (a.eval x) := by
  cases x with
  | tmp t =>
    show RepV X W E M (tm.getD t .any) (a.tmps.getD t undef)
    rw [List.getD_eq_getElem?_getD]
    cases h : tm[t]? with
    | none => trivial
    | some x =>
      obtain ⟨v, h1, h2⟩ := ht.get h
      have : a.tmps.getD t undef = v := by
        rw [Array.getD_eq_getD_getElem?, ← Array.getElem?_toList, h1]
        rfl
      rw [this]
      exact h2
  | const v => exact absV_rep v
  | global g => trivial
  | func f => exact ⟨[], rfl, rfl⟩
theorem cellsA_rep {x : AV} {v : Value} {l : List AC} (h : RepV X W E M x v) (hl : cellsA x = some l) : RepL X W E M l v.cells.toList := by
  unfold cellsA at hl
  split at hl
  · rename_i c
    obtain rfl : [c] = l := by simpa using hl
    have h' : RepC X W E M c v := h
    refine ⟨v, [], ?_, h', rfl⟩
    have := h'.one
    cases v <;> first | rfl | simp [Value.oneCell'] at this
  · rename_i l'
    obtain rfl : l' = l := by simpa using hl
    obtain ⟨cs, rfl, h2⟩ := (h : ∃ cs, v = .agg cs.toArray ∧ RepL X W E M l' cs)
    simpa [Value.cells] using h2
  · simp at hl

/-- the operation does what the abstract one says -/
def Does (X : List Nat) (P : Program) (o : Oper) (a : Act) (W : World) (E : Env) (M : Mem) (v : AV) (M' : Mem) : Prop :=
  ∃ u W' E', ((execOp a.eval o).run P W = .ok (.value u) W' ∨ ((execOp a.eval o).run P W = .ok .skip W' ∧ u = undef)) ∧
    Grow W E W' E' ∧ MemOk W E M W' E' M' ∧ RepM X W' E' M' ∧ RepV X W' E' M' v u
theorem Does.stay {o : Oper} {v : AV} {u : Value} (hM : RepM X W E M) (h : (execOp a.eval o).run P W = .ok (.value u) W) (hv : RepV X W E M v u) : Does X P o a W E M v M :=
  ⟨u, W, E, .inl h, Grow.refl W E, MemOk.refl W E M, hM, hv⟩
theorem foots_append (E E' : Env) : foots (E ++ E') = foots E ++ foots E' := by simp [foots]
theorem grow_alloc (hM : RepM X W E M) (o : Obj) (e : EB) (he : ∀ b ∈ e.foot, b = W.heap.size) : Grow W E (W.alloc o) (E ++ [e]) where
  os := rfl
  tape := rfl
  output := rfl
  size := by simp
  keep b hb _ := Below.heap_alloc W o b hb
  new b hb := by
    rw [foots_append, List.mem_append] at hb
    rcases hb with hb | hb
    · exact .inl hb
    · exact .inr (by simp [foots] at hb; rw [he b hb]; exact Nat.le_refl _)
  blk i e' h := ⟨e', by rw [List.getElem?_append_left (List.getElem?_eq_some_iff.1 h).1]; exact h, rfl⟩
theorem memOk_append {W' : World} (g : Grow W E W' E) (hM : RepM X W E M) (hk : ∀ b ∈ foots E, W'.heap[b]? = W.heap[b]?) (bs : List Blk) (es : List EB) : MemOk W E M W' (E ++ es) (M ++ bs) := fun i => by
  have key : ∀ b, M[i]? = some b → (M ++ bs)[i]? = some b ∧ ∀ e, E[i]? = some e → (E ++ es)[i]? = some e := fun b hb => by
    have hlt := (List.getElem?_eq_some_iff.1 hb).1
    have hl := hM.len
    exact ⟨by rw [List.getElem?_append_left hlt]; exact hb, fun e he => by rw [List.getElem?_append_left (by omega)]; exact he⟩
  split
  · rename_i h
    exact .inr ⟨_, _, _, _, (key _ h).1, Nat.le_refl _, fun _ e he => ⟨e, (key _ h).2 e he, rfl, Nat.le_refl _, fun _ b hb => ⟨hb, hk b (mem_foots.2 ⟨e, List.mem_of_getElem? he, hb⟩)⟩⟩⟩
  · rename_i h
    exact (key _ h).1
  · trivial
theorem heap_setCell_congr {W W' : World} {p : Addr} {u : Value} {q : Nat} (h : W'.heap[q]? = W.heap[q]?) : (W'.setCell p u).heap[q]? = (W.setCell p u).heap[q]? := by
  unfold World.setCell
  simp only [Array.getElem?_modify, h]
/-- a block that nobody wrote stands for what it stood for -/
theorem RepB.keep {W' : World} {E' : Env} {M' : Mem} {b : Blk} {e : EB} (g : Grow W E W' E') (hm : MemOk W E M W' E' M') (hl : M.length = E.length) (h : RepB X W E M b e) (hk : ∀ q ∈ e.foot, W'.heap[q]? = W.heap[q]?) : RepB X W' E' M' b e := by
  cases b with
  | box l =>
    obtain ⟨h1, cs, T, h2, h3⟩ := h
    exact ⟨h1, cs, T, by rw [hk _ (by simp [h1])]; exact h2, h3.mono g hm hl⟩
  | row t xs v c hh =>
    cases hh with
    | none => exact OList.keep h hk
    | some p =>
      obtain ⟨k, o, j⟩ := p
      obtain ⟨b, l, cap, r, h1, h2, h3, h4, h5⟩ := h
      have hb : b ∈ e.foot := by
        obtain ⟨T, cells, G, _, _, h6⟩ := h4
        rw [h6, h1]
        simp [Value.ownBlock]
      exact ⟨b, l, cap, r, h1, h2, h3, OList.keep h4 (fun q hq => heap_setCell_congr (hk q hq)), h5.mono hm (fun e1 e2 he h => by rw [cell?_congr (hk b hb), he]; exact h)⟩
  | mp xs =>
    obtain ⟨h1, es, ck, h2, h3⟩ := h
    exact ⟨h1, es, ck, by rw [hk _ (by simp [h1])]; exact h2, h3⟩
  | dead => exact h
theorem nodup_app_fresh {E E' : Env} {n : Nat} (h1 : (foots E).Nodup) (h2 : (foots E').Nodup) (hlt : ∀ b ∈ foots E, b < n) (hge : ∀ b ∈ foots E', n ≤ b) : (foots (E ++ E')).Nodup := by
  rw [foots_append, List.nodup_append]
  refine ⟨h1, h2, fun x hx y hy e => ?_⟩
  have := hlt x hx
  have := hge y hy
  omega
/-- a new box -/
theorem repM_box (hM : RepM X W E M) (cs : Array Value) (T : TypeId) (l : List AC) (hl : RepL X W E M l cs.toList) :
    Grow W E (W.alloc (.cells cs T)) (E ++ [⟨W.heap.size, undef, [W.heap.size]⟩]) ∧ MemOk W E M (W.alloc (.cells cs T)) (E ++ [⟨W.heap.size, undef, [W.heap.size]⟩]) (M ++ [.box l]) ∧
      RepM X (W.alloc (.cells cs T)) (E ++ [⟨W.heap.size, undef, [W.heap.size]⟩]) (M ++ [.box l]) ∧
      RepV X (W.alloc (.cells cs T)) (E ++ [⟨W.heap.size, undef, [W.heap.size]⟩]) (M ++ [.box l]) (.c (.bp M.length 0)) (.pointer (some ⟨W.heap.size, 0, none⟩)) := by
  have g := grow_alloc hM (.cells cs T) ⟨W.heap.size, undef, [W.heap.size]⟩ (fun b hb => by simpa using hb)
  have hm := memOk_append (W := W) (W' := W.alloc (.cells cs T)) ⟨rfl, rfl, rfl, by simp, fun b hb _ => Below.heap_alloc W _ b hb, fun b hb => .inl hb, fun _ e h => ⟨e, h, rfl⟩⟩ hM (fun b hb => Below.heap_alloc W _ b (hM.lt b hb)) [.box l] [⟨W.heap.size, undef, [W.heap.size]⟩]
  refine ⟨g, hm, ⟨by simp [hM.len], nodup_app_fresh hM.nodup (by simp [foots]) hM.lt (fun b hb => by simp [foots] at hb; omega), fun i b e hb he => ?_, fun b hb => ?_, fun b hb hf => ?_, fun b hb => by rw [World.size_alloc]; have := hM.xsz b hb; omega⟩, ⟨⟨W.heap.size, undef, [W.heap.size]⟩, ?_, rfl⟩⟩
  · by_cases hi : i < M.length
    · rw [List.getElem?_append_left hi] at hb
      rw [List.getElem?_append_left (by rw [← hM.len]; exact hi)] at he
      exact (hM.at_ i b e hb he).keep g hm hM.len (fun q hq => Below.heap_alloc W _ q (hM.lt q (mem_foots.2 ⟨e, List.mem_of_getElem? he, hq⟩)))
    · have hi' : i = M.length := by
        have := (List.getElem?_eq_some_iff.1 hb).1
        simp at this
        omega
      subst hi'
      rw [List.getElem?_append_right (Nat.le_refl _), Nat.sub_self] at hb
      rw [hM.len, List.getElem?_append_right (Nat.le_refl _), Nat.sub_self] at he
      simp at hb he
      subst hb
      subst he
      exact ⟨rfl, cs, T, heap_alloc_new W _, hl.mono g hm hM.len⟩
  · rw [foots_append, List.mem_append] at hb
    rw [World.size_alloc]
    rcases hb with hb | hb
    · have := hM.lt b hb; omega
    · simp [foots] at hb; omega
  · rw [foots_append, List.mem_append] at hf
    rcases hf with hf | hf
    · exact hM.xlt b hb hf
    · have := hM.xsz b hb; simp [foots] at hf; omega
  · rw [hM.len, List.getElem?_append_right (Nat.le_refl _), Nat.sub_self]
    rfl
theorem run_loadVar_at {g o : Nat} {cur : Array Value} {T t : TypeId} {fr : Nat × Nat} {d : TypeDesc} (hg : W.heap[g]? = some (.cells cur T fr)) (hu : P.underlying t = some d) (hd : aggD d = true) {i : TypeInfo} (hi : P.info? t = some i)
    (hl : o + i.size ≤ cur.size) : (loadVar t ⟨g, o, none⟩).run P W = .ok (.agg ((cur.toList.drop o).take i.size).toArray) W := by
  have hlen : ((cur.toList.drop o).take i.size).length = i.size := by simp; omega
  have hl' : (loadCells ⟨g, o, none⟩ ((cur.toList.drop o).take i.size).length).run P W = .ok ((cur.toList.drop o).take i.size).toArray W :=
    run_loadCells_list (P := P) W ⟨g, o, none⟩ _ (fun j v hv => by
      have hadd : (⟨g, o, none⟩ : Addr).add j = ⟨g, o + j, none⟩ := by unfold Addr.add; split <;> simp_all
      rw [hadd, cell_of_row W g (o + j) cur T fr hg]
      rw [List.getElem?_take] at hv
      split at hv
      · simpa using hv
      · cases hv)
  rw [hlen] at hl'
  have hagg : (isAgg t).run P W = .ok true W := by
    unfold isAgg
    simp only [Sem.run_bind, run_underlying hu, Result.andThen_ok]
    cases d <;> first | rfl | simp [aggD] at hd
  have hsz : (sizeOf t).run P W = .ok i.size W := by simp [sizeOf, typeInfo, hi]
  unfold loadVar
  simp only [Sem.run_bind, hagg, Result.andThen_ok, if_true, hsz, hl', Sem.run_pure]
theorem run_loadVar_one {g o : Nat} {cur : Array Value} {T t : TypeId} {fr : Nat × Nat} {d : TypeDesc} {v : Value} (hg : W.heap[g]? = some (.cells cur T fr)) (hu : P.underlying t = some d) (hd : aggD d = false)
    (hv : cur.toList[o]? = some v) : (loadVar t ⟨g, o, none⟩).run P W = .ok v W := by
  have hagg : (isAgg t).run P W = .ok false W := by
    unfold isAgg
    simp only [Sem.run_bind, run_underlying hu, Result.andThen_ok]
    cases d <;> first | rfl | simp [aggD] at hd
  unfold loadVar
  simp only [Sem.run_bind, hagg, Result.andThen_ok, Bool.false_eq_true, if_false]
  rw [run_load, cell_of_row W g o cur T fr hg]
  simp at hv
  rw [hv]
/-- a load out of a block that stands for the cells l -/
theorem load_blk {g o : Nat} {cur : Array Value} {T t : TypeId} {fr : Nat × Nat} {l : List AC} {v : AV} (hg : W.heap[g]? = some (.cells cur T fr)) (hl : RepL X W E M l cur.toList) (h : loadA P t l o = some v) :
    ∃ u, (loadVar t ⟨g, o, none⟩).run P W = .ok u W ∧ RepV X W E M v u := by
  unfold loadA at h
  split at h
  · rename_i d hd
    cases had : aggD d with
    | true =>
      rw [had] at h
      simp only [cond_true] at h
      cases hb : Nat.ble (o + sizeT P t) l.length with
      | false => rw [hb] at h; cases h
      | true =>
        rw [hb] at h
        obtain rfl : AV.ag _ = v := by simpa using h
        have hle := Nat.le_of_ble_eq_true hb
        have hlen := hl.len
        obtain ⟨i, hi⟩ : ∃ i, P.info? t = some i := by
          unfold Program.underlying at hd
          cases hq : P.info? t with
          | none => rw [hq] at hd; cases hd
          | some i => exact ⟨i, rfl⟩
        have hs : sizeT P t = i.size := by unfold sizeT; rw [hi]
        rw [hs] at hle ⊢
        simp at hlen
        exact ⟨_, run_loadVar_at hg hd had hi (by omega), _, rfl, (hl.drop o).take _⟩
    | false =>
      rw [had] at h
      simp only [cond_false] at h
      cases hc : l[o]? with
      | none => rw [hc] at h; cases h
      | some c =>
        rw [hc] at h
        obtain rfl : AV.c c = v := by simpa using h
        obtain ⟨u, h1, h2⟩ := hl.get hc
        exact ⟨u, run_loadVar_one hg hd had h1, h2⟩
  · cases h
/-- the cells that a load took -/
theorem load_cells2 {g o q : Nat} {t : TypeId} {l k : List AC} {vs : List Value} {u : Value} (hc : CellsAt W g q vs) (hlen : vs.length = l.length) (h : loadA P t l o = some (.ag k)) (hu : (loadVar t ⟨g, q + o, none⟩).run P W = .ok u W) :
    ∃ ws : List Value, u = .agg ws.toArray ∧ ws.length = k.length ∧ ∀ j v, ws[j]? = some v → W.cell? ⟨g, q + (o + j), none⟩ = some v := by
  unfold loadA at h
  split at h
  · rename_i d hd
    cases had : aggD d with
    | false =>
      rw [had] at h
      simp only [cond_false] at h
      cases hcc : l[o]? with
      | none => rw [hcc] at h; cases h
      | some c' => rw [hcc] at h; cases h
    | true =>
      rw [had] at h
      simp only [cond_true] at h
      cases hb : Nat.ble (o + sizeT P t) l.length with
      | false => rw [hb] at h; cases h
      | true =>
        rw [hb] at h
        have hk : AV.ag ((l.drop o).take (sizeT P t)) = AV.ag k := Option.some.inj h
        injection hk with hk
        injection hk with hk
        have hle := Nat.le_of_ble_eq_true hb
        obtain ⟨i, hi⟩ : ∃ i, P.info? t = some i := by
          unfold Program.underlying at hd
          cases hq : P.info? t with
          | none => rw [hq] at hd; cases hd
          | some i => exact ⟨i, rfl⟩
        have hs : sizeT P t = i.size := by unfold sizeT; rw [hi]
        rw [hs] at hle hk
        have hlen2 : ((vs.drop o).take i.size).length = i.size := by simp; omega
        have hcell : ∀ j v, ((vs.drop o).take i.size)[j]? = some v → W.cell? ⟨g, q + (o + j), none⟩ = some v := fun j v hj => by
          rw [List.getElem?_take] at hj
          split at hj
          · exact (hc (o + j) v (by simpa using hj)).1
          · cases hj
        have hl' : (loadCells ⟨g, q + o, none⟩ ((vs.drop o).take i.size).length).run P W = .ok ((vs.drop o).take i.size).toArray W :=
          run_loadCells_list (P := P) W ⟨g, q + o, none⟩ _ (fun j v hv => by
            have hadd : (⟨g, q + o, none⟩ : Addr).add j = ⟨g, q + (o + j), none⟩ := by unfold Addr.add; split <;> simp_all <;> omega
            rw [hadd]
            exact hcell j v hv)
        rw [hlen2] at hl'
        have hagg : (isAgg t).run P W = .ok true W := by
          unfold isAgg
          simp only [Sem.run_bind, run_underlying hd, Result.andThen_ok]
          cases d <;> first | rfl | simp [aggD] at had
        have hsz : (sizeOf t).run P W = .ok i.size W := by simp [sizeOf, typeInfo, hi]
        unfold loadVar at hu
        simp only [Sem.run_bind, hagg, Result.andThen_ok, if_true, hsz, hl', Sem.run_pure] at hu
        injection hu with hu _
        exact ⟨_, hu.symm, by rw [hlen2, ← hk]; simp; omega, hcell⟩
  · cases h
/-- the one cell that a load took -/
theorem load_cell1 {g o q : Nat} {t : TypeId} {l : List AC} {c : AC} {vs : List Value} {u : Value} (hc : CellsAt W g q vs) (hlen : vs.length = l.length) (h : loadA P t l o = some (.c c)) (hu : (loadVar t ⟨g, q + o, none⟩).run P W = .ok u W) :
    W.cell? ⟨g, q + o, none⟩ = some u := by
  unfold loadA at h
  split at h
  · rename_i d hd
    cases had : aggD d with
    | true =>
      rw [had] at h
      simp only [cond_true] at h
      cases hb : Nat.ble (o + sizeT P t) l.length with
      | false => rw [hb] at h; cases h
      | true => rw [hb] at h; cases h
    | false =>
      rw [had] at h
      simp only [cond_false] at h
      cases hcc : l[o]? with
      | none => rw [hcc] at h; cases h
      | some c' =>
        have ho : o < vs.length := by rw [hlen]; exact (List.getElem?_eq_some_iff.1 hcc).1
        have hv := hc o _ (List.getElem?_eq_getElem ho)
        have hagg : (isAgg t).run P W = .ok false W := by
          unfold isAgg
          simp only [Sem.run_bind, run_underlying hd, Result.andThen_ok]
          cases d <;> first | rfl | simp [aggD] at had
        unfold loadVar at hu
        simp only [Sem.run_bind, hagg, Result.andThen_ok, Bool.false_eq_true, if_false] at hu
        rw [run_load, hv.1] at hu
        rw [hv.1]
        injection hu with hu _
        rw [hu]
  · cases h
/-- a load out of a place whose cells are known one by one -/
theorem load_cells {g o q : Nat} {t : TypeId} {l : List AC} {v : AV} {vs : List Value} (hc : CellsAt W g q vs) (hl : RepL X W E M l vs) (h : loadA P t l o = some v) :
    ∃ u, (loadVar t ⟨g, q + o, none⟩).run P W = .ok u W ∧ RepV X W E M v u := by
  unfold loadA at h
  split at h
  · rename_i d hd
    cases had : aggD d with
    | true =>
      rw [had] at h
      simp only [cond_true] at h
      cases hb : Nat.ble (o + sizeT P t) l.length with
      | false => rw [hb] at h; cases h
      | true =>
        rw [hb] at h
        obtain rfl : AV.ag _ = v := by simpa using h
        have hle := Nat.le_of_ble_eq_true hb
        have hlen := hl.len
        obtain ⟨i, hi⟩ : ∃ i, P.info? t = some i := by
          unfold Program.underlying at hd
          cases hq : P.info? t with
          | none => rw [hq] at hd; cases hd
          | some i => exact ⟨i, rfl⟩
        have hs : sizeT P t = i.size := by unfold sizeT; rw [hi]
        rw [hs] at hle ⊢
        have hlen2 : ((vs.drop o).take i.size).length = i.size := by simp; omega
        have hl' : (loadCells ⟨g, q + o, none⟩ ((vs.drop o).take i.size).length).run P W = .ok ((vs.drop o).take i.size).toArray W :=
          run_loadCells_list (P := P) W ⟨g, q + o, none⟩ _ (fun j v hv => by
            have hadd : (⟨g, q + o, none⟩ : Addr).add j = ⟨g, q + (o + j), none⟩ := by unfold Addr.add; split <;> simp_all <;> omega
            rw [hadd]
            rw [List.getElem?_take] at hv
            split at hv
            · exact (hc (o + j) v (by simpa using hv)).1
            · cases hv)
        rw [hlen2] at hl'
        have hagg : (isAgg t).run P W = .ok true W := by
          unfold isAgg
          simp only [Sem.run_bind, run_underlying hd, Result.andThen_ok]
          cases d <;> first | rfl | simp [aggD] at had
        have hsz : (sizeOf t).run P W = .ok i.size W := by simp [sizeOf, typeInfo, hi]
        refine ⟨_, ?_, _, rfl, (hl.drop o).take _⟩
        unfold loadVar
        simp only [Sem.run_bind, hagg, Result.andThen_ok, if_true, hsz, hl', Sem.run_pure]
    | false =>
      rw [had] at h
      simp only [cond_false] at h
      cases hcc : l[o]? with
      | none => rw [hcc] at h; cases h
      | some c =>
        rw [hcc] at h
        obtain rfl : AV.c c = v := by simpa using h
        obtain ⟨u, h1, h2⟩ := hl.get hcc
        have hagg : (isAgg t).run P W = .ok false W := by
          unfold isAgg
          simp only [Sem.run_bind, run_underlying hd, Result.andThen_ok]
          cases d <;> first | rfl | simp [aggD] at had
        refine ⟨u, ?_, h2⟩
        unfold loadVar
        simp only [Sem.run_bind, hagg, Result.andThen_ok, Bool.false_eq_true, if_false]
        rw [run_load, (hc o u h1).1]
  · cases h
end
end Go.Proofs.YtkompmgleojmlaaDoor
