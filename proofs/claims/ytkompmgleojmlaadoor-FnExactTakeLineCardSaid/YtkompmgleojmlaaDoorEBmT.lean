/-
  append, slice literals, stores into rows, struct literals: the operations.
  Plain: no program. No condition.
-/
import Derived.Test.YtkompmgleojmlaaDoorEBmS
set_option linter.unusedSimpArgs false
set_option linter.unusedVariables false
namespace Go.Proofs.YtkompmgleojmlaaDoor
open Go.ChangeShapes Go.WideShapes Go.ChangeAt Go.RowKit Go.Joins Go.Deep
open GoRep (rep bulk)

section
variable {P : Program} {X : List Nat} {W : World} {E : Env} {M : Mem} {a : Act} {tm : List AV} {o : Oper}
theorem ORows.ones {t : Ty} {xs : List t.den} {cs : List Value} {G : List Nat} (h : ORows (ORep W t) xs cs G) : ∀ u ∈ cs, u.oneCell' = true := fun u hu =>
  List.all_eq_true.1 (h.one (fun x cs F h => ORep.one t h)) u hu
theorem does_append0 {x y : Operand} {x' y' : AV} {t e : TypeId} {xs : Array Operand} {ts : Array TypeId} (hM : RepM X W E M) (hx : RepV X W E M x' (a.eval x)) (hy : RepV X W E M y' (a.eval y)) (ho : o.op = .call ⟨.builtin .append, xs, ts⟩) (hxs : xs.toList = [x, y]) (hts : ts.toList = [t, t])
    (hu : P.underlying t = some (.slice e)) (hn : (appendA P M e x' y').need) : Does X P o a W E M (appendA P M e x' y').val (appendA P M e x' y').mem := by
  unfold appendA at hn ⊢
  split at hn
  · rename_i i v
    split at hn
    · rename_i t' l cv cc hMi
      cases hb : Nat.beq v cv with
      | false => rw [hb] at hn; exact hn.elim
      | true =>
        obtain rfl := Nat.eq_of_beq_eq_true hb
        simp only [hb, cond_true] at hn ⊢
        have hra : rowAt M i v = some ⟨t', l, cc⟩ := by unfold rowAt; rw [hMi]; simp only [hb, cond_true]
        obtain ⟨e0, he0, hv0, T0, cells, G, w1, w2, w3⟩ := row_of hM hra (hx : RepC X W E M (.row i v) _).2
        simp only at w1 w2 w3
        cases hnil : isNilV y' with
        | true =>
          obtain rfl := isNilV_eq hnil
          simp only [hnil, cond_true] at hn ⊢
          cases hty : rowTy P e t'.n with
          | false => rw [hty] at hn; exact hn.elim
          | true =>
            simp only [hty, cond_true]
            obtain ⟨inf, z, i1, i2, i3, i4, i5⟩ := rowTy_spec hty
            rw [← i2] at w1
            have hln : l.length ≤ maxLen := by
              rcases w1.2 with ⟨_, q⟩ | ⟨g, cap, cur, q1, q2, q3, q4, q5, _⟩
              · omega
              · omega
            by_cases hz : inf.size = 0
            · have := ty_pos t'; omega
            · have hy' : a.eval y = .slice none 0 0 := (hy : RepC X W E M (.raw _) _).1
              refine Does.stay hM (u := a.eval x) (exec_append ho hxs hts ?_) hx
              rw [hv0, hy']
              rcases w1.2 with ⟨q1, q2⟩ | ⟨g, cap, cur, q1, q2, q3, q4, q5, _⟩
              · rw [q1]
                simp [Builtin.append_, run_underlying hu, sizeOf, typeInfo, i1, Builtin.lenOf, Builtin.firstCells, loadCells, loadCellsFrom]
              · rw [q1]
                simp [Builtin.append_, run_underlying hu, sizeOf, typeInfo, i1, Builtin.lenOf, Builtin.firstCells, loadCells, loadCellsFrom, q4, storeCells]
        | false =>
          simp only [hnil, cond_false] at hn ⊢
          cases har : addA M y' with
          | none => rw [har] at hn; exact hn.elim
          | some r =>
            simp only [har] at hn ⊢
            split at hn
            · rename_i hrt
              cases hc : rowTy P e t'.n && r.js.all (fun j => !Nat.beq j i) with
              | false => rw [hc] at hn; exact hn.elim
              | true =>
                simp only [hc, cond_true] at hn
                simp only [hrt, hc, cond_true, dif_pos]
                rw [Bool.and_eq_true] at hc
                obtain ⟨inf, z, i1, i2, i3, i4, i5⟩ := rowTy_spec hc.1
                obtain ⟨hnd, hn⟩ := hn
                obtain ⟨A, c, news, own, G2, k1, k2, k3, k4, k5, k6⟩ := addA_rep hM har hnd hy
                obtain ⟨rt, rys, rjs, rnd⟩ := r
                simp only at hrt k1 k2 k3 k4 k5 k6 hn hc
                subst hrt
                obtain ⟨b1, b2⟩ := row_bounds hn i3
                rw [← i2] at w1
                obtain ⟨v', w', T', r1, r2, r3, r4, _⟩ := run_append_T (P := P) W t o.type e T0 inf z hu i1 i4 (by rw [i5, i2]) (by rw [i2]; exact ty_pos rt) e0.val l.length cells w1 A rys.length c news
                  (by rw [k2.len (fun x cs F h => ORep.len rt h), i2]) k3 k2.ones b1 b2
                rw [i2] at w1 r2
                obtain ⟨E', g, m, rm, rc⟩ := rows_app hM hMi he0 k5 k6 (fun j hj e => by
                  have := List.all_eq_true.1 hc.2 j hj
                  subst e
                  simp at this) w1 w2 w3 r3 r2 k2 k4 r4
                refine ⟨v', w', E', .inl (exec_append ho hxs hts (by rw [hv0, k1]; exact r1)), g, m, rm, rc⟩
            · exact hn.elim
    · exact hn.elim
  · split at hn
    · rename_i r har
      cases hty : rowTy P e r.t.n with
      | false => rw [hty] at hn; exact hn.elim
      | true =>
        simp only [hty, cond_true] at hn ⊢
        obtain ⟨inf, z, i1, i2, i3, i4, i5⟩ := rowTy_spec hty
        obtain ⟨hnd, hn⟩ := hn
        obtain ⟨A, c, news, own, G2, k1, k2, k3, k4, k5, k6⟩ := addA_rep hM har hnd hy
        obtain ⟨b1, b2⟩ := row_bounds hn i3
        have hx' : a.eval x = .slice none 0 0 := (hx : RepC X W E M (.raw _) _).1
        obtain ⟨v', w', T', r1, r2, r3, r4, _⟩ := run_append_T (P := P) W t o.type e 0 inf z hu i1 i4 (by rw [i5, i2]) (by rw [i2]; exact ty_pos r.t) (.slice none 0 0) 0 [] (World.ownsRow_nil W 0 0 inf.size) A r.ys.length c news
          (by rw [k2.len (fun x cs F h => ORep.len r.t h), i2]) k3 k2.ones (by omega) (by rw [Nat.zero_add]; exact b2)
        rw [i2] at r2
        simp only [Nat.zero_add, List.nil_append] at r2
        obtain ⟨E', g, m, rm, rc⟩ := rows_new hM k5 k6 r3 r2 k2 k4 r4
        exact ⟨v', w', E', .inl (exec_append ho hxs hts (by rw [hx', k1]; exact r1)), g, m, rm, rc⟩
    · exact hn.elim
  · exact hn.elim
theorem does_append {x y : Operand} {t e : TypeId} {xs : Array Operand} {ts : Array TypeId} (hM : RepM X W E M) (ht : RepT X W E M tm a.tmps.toList) (ho : o.op = .call ⟨.builtin .append, xs, ts⟩) (hxs : xs.toList = [x, y]) (hts : ts.toList = [t, t])
    (hu : P.underlying t = some (.slice e)) (hn : (appendA P M e (evalA tm x) (evalA tm y)).need) : Does X P o a W E M (appendA P M e (evalA tm x) (evalA tm y)).val (appendA P M e (evalA tm x) (evalA tm y)).mem :=
  does_append0 hM (evalA_rep ht x) (evalA_rep ht y) ho hxs hts hu hn
/-- a slice literal's parts: each value's cells -/
theorem ownParts_rep (hM : RepM X W E M) (ht : RepT X W E M tm a.tmps.toList) {t : Ty} : ∀ {l : List (Nat × Operand)} {k : Nat} {ys : List t.den} {js : List Nat}, ownParts M t k (l.map fun p => (p.1, evalA tm p.2)) = some (ys, js) →
    l = ((l.map (·.2)).zipIdx k).map (fun x => (x.2, x.1)) ∧ ys.length = l.length ∧ ORows (ORep W t) ys ((l.map fun p => (a.eval p.2).cells.toList).flatten) (feet E js) ∧ (∀ p ∈ l, (a.eval p.2).cells.size = t.n) ∧ ∀ j ∈ js, ∃ t xs v c, M[j]? = some (.row t xs v c none)
  | [], k, ys, js, h => by
    obtain ⟨rfl, rfl⟩ := Prod.mk.inj (Option.some.inj h)
    exact ⟨rfl, rfl, ⟨rfl, rfl⟩, by simp, by simp⟩
  | (i, x) :: l, k, ys, js, h => by
    rw [List.map_cons] at h
    unfold ownParts at h
    cases hi : Nat.beq i k with
    | false => rw [hi] at h; cases h
    | true =>
      obtain rfl := Nat.eq_of_beq_eq_true hi
      rw [hi] at h
      simp only [cond_true] at h
      cases hv : ownV M t (evalA tm x) with
      | none => rw [hv] at h; cases h
      | some q =>
        obtain ⟨y, j1⟩ := q
        rw [hv] at h
        simp only at h
        cases hq : ownParts M t (i + 1) (l.map fun p => (p.1, evalA tm p.2)) with
        | none => rw [hq] at h; cases h
        | some q =>
          obtain ⟨ys', j2⟩ := q
          rw [hq] at h
          obtain ⟨rfl, rfl⟩ := Prod.mk.inj (Option.some.inj h)
          obtain ⟨e1, e2, e3, e4, e5⟩ := ownParts_rep hM ht hq
          obtain ⟨h1, h2⟩ := ownV_rep hM hv (evalA_rep ht x)
          refine ⟨?_, by simp [e2], ⟨_, _, _, _, h1, e3, by simp, feet_app⟩, fun p hp => ?_, fun j hj => (List.mem_append.1 hj).elim (h2 j) (e5 j)⟩
          · rw [List.map_cons, List.zipIdx_cons, List.map_cons, ← e1]
          · rcases List.mem_cons.1 hp with rfl | hp
            · have := ORep.len t h1
              simpa using this
            · exact e4 p hp
theorem flatten_get {s : Nat} (hs : 0 < s) : ∀ (ls : List (List Value)), (∀ l ∈ ls, l.length = s) → ∀ k, ls.flatten[k]? = (ls[k / s]?).bind (fun l => l[k % s]?)
  | [], _, k => by simp
  | l :: ls, h, k => by
    have hl := h l (by simp)
    rw [List.flatten_cons]
    by_cases hk : k < s
    · rw [List.getElem?_append_left (by omega), Nat.div_eq_of_lt hk, Nat.mod_eq_of_lt hk]
      rfl
    · rw [List.getElem?_append_right (by omega), flatten_get hs ls (fun l hl => h l (by simp [hl])), hl]
      have h1 : k / s = (k - s) / s + 1 := by
        have := Nat.add_div_right (k - s) hs
        rwa [Nat.sub_add_cancel (by omega)] at this
      have h2 : k % s = (k - s) % s := by
        have := Nat.add_mod_right (k - s) s
        rwa [Nat.sub_add_cancel (by omega)] at this
      rw [h1, h2, List.getElem?_cons_succ]
theorem flatten_len {s : Nat} : ∀ (ls : List (List Value)), (∀ l ∈ ls, l.length = s) → ls.flatten.length = ls.length * s
  | [], _ => by simp
  | l :: ls, h => by
    rw [List.flatten_cons, List.length_append, flatten_len ls (fun l hl => h l (by simp [hl])), h l (by simp), List.length_cons, Nat.add_mul]
    omega
theorem fill_parts {s : Nat} (hs : 0 < s) (vs : List Value) (zs : Array Value) (hv : ∀ v ∈ vs, v.cells.size = s) (hz : zs.size = vs.length * s) :
    Instr.fill (fun i => some (i * s, s)) zs ((vs.zipIdx 0).map fun x => (x.2, x.1)) = some ((vs.map fun v => v.cells.toList).flatten).toArray := by
  obtain ⟨r, h1, h2, h3⟩ := Great.fill_dense hs vs 0 zs hv (by rw [hz, Nat.zero_add]; exact Nat.le_refl _)
  rw [h1]
  congr 1
  have hl : ((vs.map fun v => v.cells.toList).flatten).length = vs.length * s := by
    have := flatten_len (s := s) (vs.map fun v => v.cells.toList) (fun l hl => by
      obtain ⟨v, hv', rfl⟩ := List.mem_map.1 hl
      simpa using hv v hv')
    simpa using this
  apply Array.ext_getElem?
  intro k
  have hR : (((vs.map fun v => v.cells.toList).flatten).toArray)[k]? = ((vs.map fun v => v.cells.toList).flatten)[k]? := by simp
  have h3k := h3 k
  rw [Nat.zero_add] at h3k
  rw [h3k, hR]
  rw [flatten_get hs _ (fun l hl => by
    obtain ⟨v, hv', rfl⟩ := List.mem_map.1 hl
    simpa using hv v hv') k]
  by_cases hk : k < vs.length * s
  · rw [if_pos ⟨by omega, hk⟩, Nat.sub_zero, List.getElem?_map]
    cases vs[k / s]? <;> simp
  · rw [if_neg (by omega), Array.getElem?_eq_none (by omega), List.getElem?_map]
    have : vs[k / s]? = none := List.getElem?_eq_none ((Nat.le_div_iff_mul_le hs).2 (by omega))
    rw [this]
    rfl
theorem does_buildSlice {t e : TypeId} {len : Nat} {parts : Array (Nat × Operand)} {tt : Ty} {ys : List tt.den} {js : List Nat} (hM : RepM X W E M) (ht : RepT X W E M tm a.tmps.toList) (ho : o.op = .buildSlice t len parts) (hu : P.underlying t = some (.slice e))
    (hp : ownParts M tt 0 (parts.toList.map fun p => (p.1, evalA tm p.2)) = some (ys, js)) (hty : rowTy P e tt.n = true) (hlen : len * tt.n ≤ 16777216) (hpl : len = parts.size) (hd : distinct js = true) :
    Does X P o a W E M (.c (.row M.length 0)) (killM M js ++ [.row tt ys 0 0 none]) := by
  obtain ⟨e1, e2, e3, e4, e5⟩ := ownParts_rep hM ht hp
  obtain ⟨inf, z, i1, i2, i3, i4, i5⟩ := rowTy_spec hty
  have hpos := ty_pos tt
  have hyl : ys.length = len := by rw [e2, hpl]; simp
  have hcl := e3.len (fun x cs F h => ORep.len tt h)
  obtain ⟨vs, hvs⟩ : ∃ vs : List Value, vs = parts.toList.map fun p => a.eval p.2 := ⟨_, rfl⟩
  have hvl : vs.length = len := by rw [hvs, hpl]; simp
  have hpe : (parts.map fun (i, x) => (i, a.eval x)).toList = (vs.zipIdx 0).map fun x => (x.2, x.1) := by
    rw [Array.toList_map, e1, hvs]
    have h0 : ∀ (l : List Operand) (k : Nat), (List.map (fun x => (x.2, x.1)) (l.zipIdx k)).map (fun x => (x.1, a.eval x.2)) = ((l.map a.eval).zipIdx k).map fun x => (x.2, x.1) := by
      intro l
      induction l with
      | nil => intro k; rfl
      | cons x l ih => intro k; simp [ih]
    have h1 := h0 (parts.toList.map (·.2)) 0
    rw [← e1]
    rw [← e1] at h1
    rw [h1, List.map_map]
    rfl
  have hce : (parts.toList.map fun p => (a.eval p.2).cells.toList).flatten = (vs.map fun v => v.cells.toList).flatten := by rw [hvs, List.map_map]; rfl
  rw [hce] at e3 hcl
  have hv4 : ∀ v ∈ vs, v.cells.size = tt.n := fun v hv => by
    rw [hvs] at hv
    obtain ⟨p, hp, rfl⟩ := List.mem_map.1 hv
    exact e4 p hp
  by_cases h0 : len = 0
  · -- the empty literal
    have hnil : vs = [] := List.eq_nil_of_length_eq_zero (by omega)
    have hysn : ys = [] := List.eq_nil_of_length_eq_zero (by omega)
    subst hysn
    have hown : (W.alloc (.cells #[] e)).ownsRow 0 e tt.n (.slice (some ⟨W.heap.size, 0, none⟩) len len) (([] : List tt.den).length) ((vs.map fun v => v.cells.toList).flatten) := by
      refine ⟨by rw [hnil]; simp, .inr ⟨W.heap.size, len, #[], by rw [h0]; rfl, Nat.zero_le _, heap_alloc_new W _, by simp, by rw [h0]; exact Nat.zero_le _, by simp [h0], by rw [hnil]; simp⟩⟩
    obtain ⟨E', g, m, rm, rc⟩ := rows_new (W' := W.alloc (.cells #[] e)) hM hd e5 ⟨rfl, rfl, rfl, by simp, fun k hk _ => Below.heap_alloc W _ k hk⟩ hown e3 (own := []) rfl (.inr rfl)
    refine ⟨_, _, E', .inl ?_, g, m, rm, rc⟩
    unfold execOp
    simp only [ho, Sem.run_bind]
    have : (Instr.buildSlice t len (parts.map fun (i, x) => (i, a.eval x))).run P W = .ok (.slice (some ⟨W.heap.size, 0, none⟩) len len) (W.alloc (.cells #[] e)) := by
      have hz0 : len * inf.size = 0 := by rw [h0, Nat.zero_mul]
      have hp0 : parts = #[] := Array.eq_empty_of_size_eq_zero (by omega)
      have hr0 : Array.range 0 = #[] := rfl
      simp [Instr.buildSlice, run_underlying hu, sizeOf, typeInfo, i1, hz0, hp0, hr0, Instr.fill, newRow, run_newObj, World.alloc_eq]
    rw [this]
    rfl
  · have hle : len * inf.size = vs.length * tt.n := by rw [hvl, i2]
    have hfill := fill_parts (s := tt.n) hpos vs ((Array.range (len * inf.size)).map (z.cells[· % z.cells.size]!)) hv4 (by rw [Array.size_map, Array.size_range, hle])
    have hfl : ((vs.map fun v => v.cells.toList).flatten).length = len * tt.n := by rw [hcl, hyl]
    have hown : (W.alloc (.cells ((vs.map fun v => v.cells.toList).flatten).toArray e)).ownsRow 0 e tt.n (.slice (some ⟨W.heap.size, 0, none⟩) len len) ys.length ((vs.map fun v => v.cells.toList).flatten) := by
      have hml : len ≤ maxLen := by
        have : len * 1 ≤ len * tt.n := Nat.mul_le_mul_left _ hpos
        unfold maxLen
        omega
      refine ⟨hcl, .inr ⟨W.heap.size, len, _, by rw [hyl], Nat.zero_le _, heap_alloc_new W _, by omega, hml, by simpa using hfl, ?_⟩⟩
      rw [hyl, ← hfl]
      exact List.take_length
    obtain ⟨E', g, m, rm, rc⟩ := rows_new (W' := W.alloc (.cells ((vs.map fun v => v.cells.toList).flatten).toArray e)) hM hd e5 ⟨rfl, rfl, rfl, by simp, fun k hk _ => Below.heap_alloc W _ k hk⟩ hown e3 (own := []) rfl (.inr rfl)
    refine ⟨_, _, E', .inl ?_, g, m, rm, rc⟩
    unfold execOp
    simp only [ho, Sem.run_bind]
    rw [run_buildSlice W t e len _ ((vs.map fun v => v.cells.toList).flatten).toArray inf z hu i1 i4 (by rw [i2]; omega) (by
      rw [i2]
      have : 0 < len * tt.n := Nat.mul_pos (by omega) hpos
      omega) (by rw [hpe, i2]; rw [i2] at hfill; exact hfill)]
    rfl
theorem foldl_splice (off : Nat) (vs cs : Array Value) (h : off + vs.size ≤ cs.size) : vs.zipIdx.foldl (fun cs (x : Value × Nat) => cs.setIfInBounds (off + x.2) x.1) cs = (cs.toList.take off ++ vs.toList ++ cs.toList.drop (off + vs.size)).toArray := by
  rw [← Array.foldl_toList, Array.toList_zipIdx]
  obtain ⟨h1, h2⟩ := Great.foldl_set off vs.toList 0 cs
  apply Array.ext_getElem?
  intro k
  have h2k := h2 k
  simp only [Nat.add_zero, Array.length_toList] at h2k
  have hR : ((cs.toList.take off ++ vs.toList ++ cs.toList.drop (off + vs.size)).toArray)[k]? = (cs.toList.take off ++ vs.toList ++ cs.toList.drop (off + vs.size))[k]? := by simp
  rw [h2k, hR, List.append_assoc]
  have hl : (cs.toList.take off).length = off := by simp; omega
  by_cases hk : k < off
  · rw [if_neg (by omega), List.getElem?_append_left (by omega), List.getElem?_take, if_pos hk]
    simp
  · rw [List.getElem?_append_right (by omega), hl]
    by_cases hk2 : k < off + vs.size
    · rw [if_pos (by omega), List.getElem?_append_left (by simp; omega)]
    · rw [if_neg (by omega), List.getElem?_append_right (by simp; omega), List.getElem?_drop]
      simp only [Array.length_toList, Array.getElem?_toList]
      congr 1
      omega
theorem fillA_rep (ht : RepT X W E M tm a.tmps.toList) {pl : Array (Nat × Nat)} : ∀ {parts : List (Nat × Operand)} {l l' : List AC} {cells : Array Value}, fillA pl l (parts.map fun p => (p.1, evalA tm p.2)) = some l' → RepL X W E M l cells.toList →
    ∃ cells', Instr.fill (pl[·]?) cells (parts.map fun p => (p.1, a.eval p.2)) = some cells' ∧ RepL X W E M l' cells'.toList
  | [], l, l', cells, h, hr => by
    obtain rfl := Option.some.inj h
    exact ⟨cells, rfl, hr⟩
  | (i, x) :: r, l, l', cells, h, hr => by
    rw [List.map_cons] at h
    unfold fillA at h
    split at h
    · rename_i q cs hq hcs
      cases hc : Nat.beq cs.length q.2 && Nat.ble (q.1 + cs.length) l.length with
      | false => rw [hc] at h; cases h
      | true =>
        rw [hc] at h
        rw [Bool.and_eq_true] at hc
        have e1 := Nat.eq_of_beq_eq_true hc.1
        have e2 := Nat.le_of_ble_eq_true hc.2
        have hx := cellsA_rep (evalA_rep ht x) hcs
        have hxl := hx.len
        have hrl := hr.len
        simp only [Array.length_toList] at hxl hrl
        have hnew : RepL X W E M (l.take q.1 ++ cs ++ l.drop (q.1 + cs.length)) ((cells.toList.take q.1 ++ (a.eval x).cells.toList ++ cells.toList.drop (q.1 + (a.eval x).cells.size)).toArray).toList := by
          have h3 : RepL X W E M (l.drop (q.1 + cs.length)) (cells.toList.drop (q.1 + (a.eval x).cells.size)) := by rw [hxl]; exact hr.drop _
          exact ((hr.take q.1).append hx).append h3
        obtain ⟨cells', k1, k2⟩ := fillA_rep ht h hnew
        refine ⟨cells', ?_, k2⟩
        rw [List.map_cons]
        unfold Instr.fill
        obtain ⟨off, n⟩ := q
        simp only [hq] at e1 e2 k1 ⊢
        rw [if_neg (by simp; omega), foldl_splice off _ cells (by omega)]
        exact k1
    · cases h
theorem does_build {t : TypeId} {parts : Array (Nat × Operand)} {l : List AC} (hM : RepM X W E M) (ht : RepT X W E M tm a.tmps.toList) (ho : o.op = .build t parts) (hb : buildA P t (parts.toList.map fun p => (p.1, evalA tm p.2)) = some l) :
    Does X P o a W E M (.ag l) M := by
  unfold buildA at hb
  split at hb
  · rename_i fs z hu hz
    split at hb
    · rename_i pl hpl
      cases hok : z.cells.toList.all absOk with
      | false => rw [hok] at hb; cases hb
      | true =>
        rw [hok] at hb
        obtain ⟨cells', h1, h2⟩ := fillA_rep ht hb (absL_rep hok)
        cases hi : P.info? t with
        | none => rw [hi] at hz; cases hz
        | some it =>
          rw [hi] at hz
          have hz : it.zero = some z := hz
          have hbt : P.built t (parts.map fun (i, x) => (i, a.eval x)).toList = some cells' := by
            unfold Program.built
            unfold placesT at hpl
            rw [Array.toList_map]
            simp only [hi, hu, hz, hpl]
            exact h1
          refine Does.stay hM (u := .agg cells') ?_ ⟨cells'.toList, by simp, h2⟩
          unfold execOp
          simp only [ho, Sem.run_bind, run_build W t _ cells' hbt, Result.andThen_ok]
          rfl
    · cases hb
  · cases hb
theorem ORows.flat {t : Ty} (hf : t.flat = true) : ∀ {xs : List t.den} {cs : List Value} {G : List Nat}, ORows (ORep W t) xs cs G → G = []
  | [], _, _, h => h.2
  | _ :: _, _, _, ⟨c1, c2, G1, G2, h1, h2, _, e2⟩ => by rw [e2, flat_foot t hf h1, ORows.flat hf h2]; rfl
theorem ORows.set {α : Type} {R : α → List Value → List Nat → Prop} {n : Nat} (hn : ∀ x cs F, R x cs F → cs.length = n) : ∀ {xs : List α} {cs : List Value} {k : Nat} {x y : α} {c1 : List Value}, ORows R xs cs [] → xs[k]? = some x → R y c1 [] →
    ORows R (xs.set k y) (cs.take (k * n) ++ c1 ++ cs.drop (k * n + n)) []
  | [], _, _, _, _, _, _, h, _ => by simp at h
  | z :: xs, cs, 0, _, y, c1, ⟨d1, d2, G1, G2, h1, h2, e1, e2⟩, _, hy => by
    have hl := hn _ _ _ h1
    have e2' := List.append_eq_nil_iff.1 e2.symm
    obtain ⟨rfl, rfl⟩ := e2'
    refine ⟨c1, d2, [], [], hy, h2, ?_, rfl⟩
    rw [e1, Nat.zero_mul, Nat.zero_add, ← hl, List.drop_left]
    rfl
  | z :: xs, cs, k + 1, x, y, c1, ⟨d1, d2, G1, G2, h1, h2, e1, e2⟩, hx, hy => by
    have hl := hn _ _ _ h1
    obtain ⟨rfl, rfl⟩ := List.append_eq_nil_iff.1 e2.symm
    have ih := ORows.set hn (k := k) h2 (by simpa using hx) hy
    refine ⟨d1, _, [], [], h1, ih, ?_, rfl⟩
    rw [e1]
    have e3 : (k + 1) * n = d1.length + k * n := by rw [Nat.add_mul, hl]; omega
    rw [e3, List.take_length_add_append, Nat.add_assoc, List.drop_length_add_append]
    simp
end
end Go.Proofs.YtkompmgleojmlaaDoor
