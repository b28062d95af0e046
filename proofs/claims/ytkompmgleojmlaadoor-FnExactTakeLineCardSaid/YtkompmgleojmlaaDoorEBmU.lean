/-
  Stores into rows whose elements hold slices: the value after the store.
  Plain: no program. No condition.
-/
import Derived.Test.YtkompmgleojmlaaDoorEBmT
import Derived.IntWalk
set_option linter.unusedSimpArgs false
set_option linter.unusedVariables false
namespace Go.Proofs.YtkompmgleojmlaaDoor
open Go.ChangeShapes Go.WideShapes Go.ChangeAt Go.RowKit Go.Joins Go.Deep
open GoRep (rep bulk)

section
variable {P : Program} {X : List Nat} {W : World} {E : Env} {M : Mem} {a : Act} {tm : List AV} {o : Oper}
theorem setAt_whole (hM : RepM X W E M) {t : Ty} {l : List AC} {y : t.den} {js : List Nat} {cs us : List Value} {F : List Nat} {x : t.den} (hx : ORep W t x cs F) (h : ownWhole M t l = some (y, js))
    (hn : l.length = t.n) (hr : RepL X W E M l us) : ORep W t y (cs.take 0 ++ us ++ cs.drop (0 + us.length)) (feet E js) ∧ (∀ j ∈ js, ∃ t xs v c, M[j]? = some (.row t xs v c none)) ∧ 0 + us.length ≤ cs.length := by
  have hl := hr.len
  have hc := ORep.len t hx
  unfold ownWhole at h
  split at h
  · rename_i y' js' ho
    obtain ⟨rfl, rfl⟩ := Prod.mk.inj (Option.some.inj h)
    obtain ⟨c1, u1, e, q1, q2, q3⟩ := ownT_rep hM t ho hr
    obtain rfl : u1 = [] := q2
    rw [List.append_nil] at e
    have hd : cs.drop (0 + us.length) = [] := List.drop_of_length_le (by omega)
    rw [hd, List.take_zero, List.nil_append, List.append_nil, e]
    exact ⟨q1, q3, by rw [← e]; omega⟩
  · cases h
theorem setAt_rep (hM : RepM X W E M) : ∀ (t : Ty) {x y : t.den} {q : Nat} {l : List AC} {js : List Nat} {cs us : List Value} {F : List Nat}, ORep W t x cs F → setAt M t x q l = some (y, js) → RepL X W E M l us →
    ∃ F', ORep W t y (cs.take q ++ us ++ cs.drop (q + us.length)) F' ∧ (∀ z, F'.count z ≤ F.count z + (feet E js).count z) ∧ (∀ j ∈ js, ∃ t xs v c, M[j]? = some (.row t xs v c none)) ∧ q + us.length ≤ cs.length
  | .int k, x, y, q, l, js, cs, us, F, hx, h, hr => by
    unfold setAt at h
    cases hc : Nat.beq q 0 && Nat.beq l.length 1 with
    | false => rw [hc] at h; cases h
    | true =>
      rw [hc] at h
      rw [Bool.and_eq_true] at hc
      obtain rfl := Nat.eq_of_beq_eq_true hc.1
      obtain ⟨h1, h2, h3⟩ := setAt_whole hM hx (show ownWhole M _ l = _ from h) (Nat.eq_of_beq_eq_true hc.2) hr
      exact ⟨_, h1, fun z => by omega, h2, h3⟩
  | .bool, x, y, q, l, js, cs, us, F, hx, h, hr => by
    unfold setAt at h
    cases hc : Nat.beq q 0 && Nat.beq l.length 1 with
    | false => rw [hc] at h; cases h
    | true =>
      rw [hc] at h
      rw [Bool.and_eq_true] at hc
      obtain rfl := Nat.eq_of_beq_eq_true hc.1
      obtain ⟨h1, h2, h3⟩ := setAt_whole hM hx (show ownWhole M _ l = _ from h) (Nat.eq_of_beq_eq_true hc.2) hr
      exact ⟨_, h1, fun z => by omega, h2, h3⟩
  | .opq, x, y, q, l, js, cs, us, F, hx, h, hr => by
    unfold setAt at h
    cases hc : Nat.beq q 0 && Nat.beq l.length 1 with
    | false => rw [hc] at h; cases h
    | true =>
      rw [hc] at h
      rw [Bool.and_eq_true] at hc
      obtain rfl := Nat.eq_of_beq_eq_true hc.1
      obtain ⟨h1, h2, h3⟩ := setAt_whole hM hx (show ownWhole M _ l = _ from h) (Nat.eq_of_beq_eq_true hc.2) hr
      exact ⟨_, h1, fun z => by omega, h2, h3⟩
  | .str, x, y, q, l, js, cs, us, F, hx, h, hr => by
    unfold setAt at h
    cases hc : Nat.beq q 0 && Nat.beq l.length 1 with
    | false => rw [hc] at h; cases h
    | true =>
      rw [hc] at h
      rw [Bool.and_eq_true] at hc
      obtain rfl := Nat.eq_of_beq_eq_true hc.1
      obtain ⟨h1, h2, h3⟩ := setAt_whole hM hx (show ownWhole M _ l = _ from h) (Nat.eq_of_beq_eq_true hc.2) hr
      exact ⟨_, h1, fun z => by omega, h2, h3⟩
  | .list b, x, y, q, l, js, cs, us, F, hx, h, hr => by
    unfold setAt at h
    cases hc : Nat.beq q 0 && Nat.beq l.length 1 with
    | false => rw [hc] at h; cases h
    | true =>
      rw [hc] at h
      rw [Bool.and_eq_true] at hc
      obtain rfl := Nat.eq_of_beq_eq_true hc.1
      obtain ⟨h1, h2, h3⟩ := setAt_whole hM hx (show ownWhole M _ l = _ from h) (Nat.eq_of_beq_eq_true hc.2) hr
      exact ⟨_, h1, fun z => by omega, h2, h3⟩
  | .prod a b, x, y, q, l, js, cs, us, F, hx, h, hr => by
    unfold setAt at h
    have hl := hr.len
    cases hc : Nat.beq q 0 && Nat.beq l.length (a.n + b.n) with
    | true =>
      rw [hc] at h
      rw [Bool.and_eq_true] at hc
      obtain rfl := Nat.eq_of_beq_eq_true hc.1
      obtain ⟨h1, h2, h3⟩ := setAt_whole (t := .prod a b) hM hx (show ownWhole M _ l = _ from h) (Nat.eq_of_beq_eq_true hc.2) hr
      exact ⟨_, h1, fun z => by omega, h2, h3⟩
    | false =>
      rw [hc] at h
      simp only [cond_false] at h
      obtain ⟨c1, c2, F1, F2, r1, r2, rfl, rfl⟩ := hx
      have k1 := ORep.len a r1
      have k2 := ORep.len b r2
      cases hc2 : Nat.ble (q + l.length) a.n with
      | true =>
        rw [hc2] at h
        simp only [cond_true] at h
        have hle := Nat.le_of_ble_eq_true hc2
        cases hs : setAt M a x.1 q l with
        | none => rw [hs] at h; cases h
        | some p =>
          obtain ⟨z, js'⟩ := p
          rw [hs] at h
          obtain ⟨rfl, rfl⟩ := Prod.mk.inj (Option.some.inj h)
          obtain ⟨F', q1, q2, q3, q4⟩ := setAt_rep hM a r1 hs hr
          refine ⟨F' ++ F2, ⟨_, c2, F', F2, q1, r2, ?_, rfl⟩, fun w => ?_, q3, by rw [List.length_append]; omega⟩
          · rw [List.take_append_of_le_length (by omega), List.drop_append_of_le_length q4]
            simp
          · have := q2 w
            rw [List.count_append, List.count_append]
            omega
      | false =>
        rw [hc2] at h
        simp only [cond_false] at h
        cases hc3 : Nat.ble a.n q with
        | false => rw [hc3] at h; cases h
        | true =>
          rw [hc3] at h
          simp only [cond_true] at h
          have hge := Nat.le_of_ble_eq_true hc3
          cases hs : setAt M b x.2 (q - a.n) l with
          | none => rw [hs] at h; cases h
          | some p =>
            obtain ⟨z, js'⟩ := p
            rw [hs] at h
            obtain ⟨rfl, rfl⟩ := Prod.mk.inj (Option.some.inj h)
            obtain ⟨F', q1, q2, q3, q4⟩ := setAt_rep hM b r2 hs hr
            refine ⟨F1 ++ F', ⟨c1, _, F1, F', r1, q1, ?_, rfl⟩, fun w => ?_, q3, by rw [List.length_append]; omega⟩
            · have t1 : (c1 ++ c2).take q = c1 ++ c2.take (q - a.n) := by
                have := List.take_length_add_append (l₁ := c1) (l₂ := c2) (q - a.n)
                rwa [show c1.length + (q - a.n) = q by omega] at this
              have t2 : (c1 ++ c2).drop (q + us.length) = c2.drop (q - a.n + us.length) := by
                have := List.drop_length_add_append (l₁ := c1) (l₂ := c2) (q - a.n + us.length)
                rwa [show c1.length + (q - a.n + us.length) = q + us.length by omega] at this
              rw [t1, t2]
              simp
            · have := q2 w
              rw [List.count_append, List.count_append]
              omega
/-- a row's content turned, its value kept -/
theorem rows_turn {W' : World} {js : List Nat} {i ver cc : Nat} {t : Ty} {xs ys : List t.den} {e : EB} {F2 : List Nat} {h0 h1 : Option (Nat × Nat × Nat)} (hM : RepM X W E M) (hi : M[i]? = some (.row t xs ver cc h0)) (he : E[i]? = some e)
    (hd : distinct js = true) (hj : ∀ j ∈ js, ∃ t xs v c, M[j]? = some (.row t xs v c none)) (hij : ∀ j ∈ js, j ≠ i) (hown : ∀ q ∈ e.val.ownBlock.toList, q ∈ e.foot)
    (hg : W.grownBy W' e.val.ownBlock) (ho : ∀ E' M', Grow W E W' E' → MemOk W E M W' E' M' → RowR W' E' M' t ys h1 ⟨e.blk, e.val, F2⟩) (hF : ∀ z, F2.count z ≤ e.foot.count z + (feet E js).count z) :
    ∃ E', Grow W E W' E' ∧ MemOk W E M W' E' ((killM M js).set i (.row t ys ver (cc + 1) h1)) ∧ RepM X W' E' ((killM M js).set i (.row t ys ver (cc + 1) h1)) := by
  have hjl := js_lt hM hj
  have hkl := killE_len js E
  have hml := killM_len js M
  have hil : i < M.length := (List.getElem?_eq_some_iff.1 hi).1
  have hilE : i < E.length := by rw [← hM.len]; exact hil
  have hei : (killE E js)[i]? = some e := by rw [killE_other hij]; exact he
  have hfe : ∀ b ∈ feet E js, b ∈ foots E := fun b hb => by
    obtain ⟨j, _, e, he, hb⟩ := feet_mem hb
    exact mem_foots.2 ⟨e, List.mem_of_getElem? he, hb⟩
  have hei' : ∀ b ∈ e.foot, b ∈ foots E := fun b hb => mem_foots.2 ⟨e, List.mem_of_getElem? he, hb⟩
  have kept : ∀ b, b < W.heap.size → (∀ q ∈ e.val.ownBlock.toList, b ≠ q) → W'.heap[b]? = W.heap[b]? := fun b hb hne => hg.block b hb (fun h => hne b (by rw [← h]; simp) rfl)
  have keptO : ∀ q e', E[q]? = some e' → q ≠ i → ∀ b ∈ e'.foot, W'.heap[b]? = W.heap[b]? := fun q e' hq hne b hb => kept b (hM.lt b (mem_foots.2 ⟨e', List.mem_of_getElem? hq, hb⟩)) (fun z hz h => by
    subst h
    exact foot_disj hM.nodup hq he hne hb (hown b hz))
  have hF2 : ∀ b ∈ F2, b ∈ foots E := fun b hb => by
    have h1 := List.count_pos_iff.2 hb
    have h2 := hF b
    by_cases hz : 0 < e.foot.count b
    · exact hei' b (List.count_pos_iff.1 hz)
    · exact hfe b (List.count_pos_iff.1 (by omega))
  obtain ⟨e2, he2⟩ : ∃ e2 : EB, e2 = ⟨e.blk, e.val, F2⟩ := ⟨_, rfl⟩
  have inE : ∀ b ∈ foots ((killE E js).set i e2), b ∈ foots E := fun b hb => by
    obtain ⟨e', h1, h2⟩ := mem_foots.1 hb
    rcases List.mem_or_eq_of_mem_set h1 with h1 | rfl
    · exact killE_in hd hjl (mem_foots.2 ⟨e', h1, h2⟩)
    · rw [he2] at h2; exact hF2 b h2
  have g : Grow W E W' ((killE E js).set i e2) :=
    ⟨hg.os, hg.tape, hg.output, hg.size, fun b hb hn => kept b hb (fun q hq h => hn (by subst h; exact hei' b (hown b hq))),
      fun b hb => .inl (inE b hb), fun q e' hq => by
      by_cases hqi : i = q
      · subst hqi
        obtain rfl : e = e' := Option.some.inj (he.symm.trans hq)
        exact ⟨e2, List.getElem?_set_self (by rw [hkl]; exact hilE), by rw [he2]⟩
      · rw [List.getElem?_set_ne hqi]
        exact killE_blk hq⟩
  have m : MemOk W E M W' ((killE E js).set i e2) ((killM M js).set i (.row t ys ver (cc + 1) h1)) := memOk_upd (fun q t' xs' v' c' hh' hq => by
      have hql := (List.getElem?_eq_some_iff.1 hq).1
      by_cases hqi : i = q
      · subst hqi
        rw [hi] at hq
        obtain ⟨rfl, h2, h3⟩ : t = t' ∧ ver = v' ∧ cc = c' := by injection Option.some.inj hq with a1 a2 a3 a4; exact ⟨a1, a3, a4⟩
        subst h2
        subst h3
        exact .inr (.inr (.inl ⟨_, _, _, List.getElem?_set_self (by rw [hml]; exact hil), by omega, fun e' he' => ⟨e2, List.getElem?_set_self (by rw [hkl]; exact hilE), by
          obtain rfl : e = e' := Option.some.inj (he.symm.trans he')
          rw [he2]⟩⟩))
      · rw [List.getElem?_set_ne hqi, List.getElem?_set_ne hqi]
        by_cases hqj : q ∈ js
        · exact .inl (killM_dead hqj hql)
        · refine .inr (.inr (.inr ⟨by rw [killM_other (fun k hk e => hqj (by rw [← e]; exact hk))]; exact hq, fun e' he' => ⟨?_, keptO q e' he' (fun h => hqi h.symm)⟩⟩))
          rw [killE_other (fun k hk e => hqj (by rw [← e]; exact hk))]
          exact he') (fun q hq => by
      have hql := (List.getElem?_eq_some_iff.1 hq).1
      by_cases hqi : i = q
      · subst hqi
        rw [hi] at hq
        cases hq
      · rw [List.getElem?_set_ne hqi]
        by_cases hqj : q ∈ js
        · exact killM_dead hqj hql
        · rw [killM_other (fun k hk e => hqj (by rw [← e]; exact hk))]; exact hq)
  refine ⟨_, g, m, repM_new hM g m (by simp [hml, hkl, hM.len]) (nodup_of_cnt fun x => ?_) (fun q b e' hb he' => ?_) (fun b hb => Nat.lt_of_lt_of_le (hM.lt b (inE b hb)) hg.size)⟩
  · have c1 := cnt_kill x hd hjl
    have c2 := cnt_le hM x
    have c4 := cnt_set (e' := e2) x hei
    have c6 : e2.foot.count x = F2.count x := by rw [he2]
    have c7 := hF x
    omega
  · by_cases hqi : i = q
    · subst hqi
      rw [List.getElem?_set_self (by rw [hml]; exact hil)] at hb
      rw [List.getElem?_set_self (by rw [hkl]; exact hilE)] at he'
      obtain rfl := Option.some.inj hb
      obtain rfl := Option.some.inj he'
      subst he2
      exact .inr (ho _ _ g m)
    · rw [List.getElem?_set_ne hqi] at hb he'
      by_cases hqj : q ∈ js
      · have hql : q < M.length := by
          obtain ⟨_, _, _, _, h⟩ := hj q hqj
          exact (List.getElem?_eq_some_iff.1 h).1
        rw [killM_dead hqj hql] at hb
        obtain rfl := Option.some.inj hb
        exact .inr (killE_foot hqj he')
      · rw [killM_other (fun k hk e => hqj (by rw [← e]; exact hk))] at hb
        rw [killE_other (fun k hk e => hqj (by rw [← e]; exact hk))] at he'
        exact .inl ⟨hb, he', keptO q e' he' (fun h => hqi h.symm)⟩
theorem storeR_spec {t : TypeId} {i v n k q : Nat} {l' : List AC} (h : (storeR P M t i v n k q l').need) : ∃ (tt : Ty) (xs : List tt.den) (cc : Nat) (y : tt.den) (js : List Nat), M[i]? = some (.row tt xs v cc none) ∧ n = tt.n ∧ l'.length = sizeT P t ∧ 0 < sizeT P t ∧
    setAt M tt (nth tt xs k) q l' = some (y, js) ∧ distinct js = true ∧ (∀ j ∈ js, j ≠ i) ∧ (storeR P M t i v n k q l').val = .any ∧ (storeR P M t i v n k q l').mem = (killM M js).set i (.row tt (xs.set k y) v (cc + 1) none) := by
  unfold storeR at h ⊢
  split at h
  · rename_i tt xs cv cc hM
    cases hc : (Nat.beq v cv && Nat.beq n tt.n) && (Nat.beq l'.length (sizeT P t) && Nat.blt 0 (sizeT P t)) with
    | false => rw [hc] at h; exact h.elim
    | true =>
      rw [hc] at h
      simp only [cond_true] at h ⊢
      simp only [Bool.and_eq_true] at hc
      obtain ⟨⟨c1, c2⟩, c4, c6⟩ := hc
      obtain rfl := Nat.eq_of_beq_eq_true c1
      cases hs : setAt M tt (nth tt xs k) q l' with
      | none => rw [hs] at h; exact h.elim
      | some p =>
        obtain ⟨y, js⟩ := p
        simp only [hs] at h ⊢
        cases hd : distinct js && js.all (fun j => !Nat.beq j i) with
        | false => rw [hd] at h; exact h.elim
        | true =>
          simp only [cond_true]
          rw [Bool.and_eq_true] at hd
          exact ⟨tt, xs, cc, y, js, hM, Nat.eq_of_beq_eq_true c2, Nat.eq_of_beq_eq_true c4, Nat.le_of_ble_eq_true c6, hs, hd.1, fun j hj e => by
            have := List.all_eq_true.1 hd.2 j hj
            subst e
            simp at this, trivial, rfl⟩
  · exact h.elim
theorem does_storeR {t : TypeId} {x y : Operand} {i v n k q : Nat} {l' : List AC} (hM : RepM X W E M) (ht : RepT X W E M tm a.tmps.toList) (ho : o.op = .store t x y) (hx : evalA tm x = .w (.c (.rp i v n k q))) (hy : cellsA (evalA tm y) = some l')
    (hn : (storeR P M t i v n k q l').need) : Does X P o a W E M (storeR P M t i v n k q l').val (storeR P M t i v n k q l').mem := by
  obtain ⟨tt, xs, cc, z, js, hi, rfl, hs, hpos, hset, hd, hji, e1, e2⟩ := storeR_spec hn
  rw [e1, e2]
  have hp := evalA_rep ht x
  rw [hx] at hp
  have hra : rowAt M i v = some ⟨tt, xs, cc⟩ := by unfold rowAt; rw [hi]; simp
  obtain ⟨e, he, ⟨b, l, c, hev, hk, hv⟩, T, cells, G, w1, w2, w3⟩ := row_of hM hra (hp : RepC X W E M (.rp i v tt.n k q) _).2
  simp only at w1 w2 w3
  rw [hev] at w1
  obtain rfl : xs.length = l := by
    obtain ⟨A, c', e'⟩ := olist_slice ⟨T, cells, G, w1, w2, rfl⟩
    injection e' with _ e' _
    exact e'.symm
  obtain ⟨cur, q1, q2, q3, q4, q5⟩ := ownsRow_cells w1
  have hfoot : e.foot = b :: G := by rw [w3, hev]; rfl
  have hmem : b ∈ foots E := mem_foots.2 ⟨e, List.mem_of_getElem? he, by rw [hfoot]; simp⟩
  have hy' := cellsA_rep (evalA_rep ht y) hy
  have hyl := hy'.len
  simp only [Array.length_toList] at hyl
  have hcells : cells.length = xs.length * tt.n := w2.len (fun x cs F h => ORep.len tt h)
  have hkn : k * tt.n + tt.n ≤ xs.length * tt.n := by
    have : (k + 1) * tt.n ≤ xs.length * tt.n := Nat.mul_le_mul_right _ hk
    rw [Nat.add_mul] at this
    omega
  have hxk := List.getElem?_eq_getElem hk
  have hnth : nth tt xs k = xs[k] := by unfold nth; rw [List.getD_eq_getElem?_getD, hxk]; rfl
  obtain ⟨c0, c1, c2, G0, G1, G2, s1, s2, s3, s4, s5, s6⟩ := w2.split (fun x cs F h => ORep.len tt h) k hxk
  have hc1 := ORep.len tt s5
  rw [hnth] at hset
  obtain ⟨F', t1, t2, t3, t4⟩ := setAt_rep hM tt s5 hset hy'
  simp only [Array.length_toList] at t1 t4
  obtain ⟨inf, hinf⟩ : ∃ i, P.info? t = some i := by
    unfold sizeT at hpos
    cases hq : P.info? t with
    | none => rw [hq] at hpos; exact absurd hpos (Nat.lt_irrefl 0)
    | some i => exact ⟨i, rfl⟩
  have hsz : sizeT P t = inf.size := by unfold sizeT; rw [hinf]
  have hcap : xs.length * tt.n ≤ c * tt.n := Nat.mul_le_mul_right _ q3
  have hst := run_storeCells_at (P := P) b (k * tt.n + q) T (a.eval y).cells.toList 0 cur W q1 (by simp; omega) (fun v hv => List.all_eq_true.1 hy'.all v hv)
  simp only [Nat.add_zero, Array.length_toList] at hst
  obtain ⟨W', hW'⟩ : ∃ W', W' = W.setRow b (cur.toList.take (k * tt.n + q) ++ (a.eval y).cells.toList ++ cur.toList.drop (k * tt.n + q + (a.eval y).cells.size)).toArray := ⟨_, rfl⟩
  rw [← hW'] at hst
  have keep : ∀ p, p ≠ b → W'.heap[p]? = W.heap[p]? := fun p hp => by rw [hW']; exact setRow_other W b p _ (fun e => hp e)
  have hnd : e.foot.Nodup := by
    refine nodup_of_cnt fun x => ?_
    have c1 := cnt_set (e' := { e with foot := [] }) x he
    have c2 := cnt_le hM x
    have c3 : ({ e with foot := [] } : EB).foot.count x = 0 := rfl
    omega
  rw [hfoot, List.nodup_cons] at hnd
  have hbG : ∀ p ∈ G, p ≠ b := fun p hp e => hnd.1 (e ▸ hp)
  have hbF : ∀ p ∈ F', p ≠ b := fun p hp e' => by
    subst e'
    have h1 := List.count_pos_iff.2 hp
    have h2 := t2 p
    have h3 : G1.count p = 0 := List.count_eq_zero.2 (fun hm => hnd.1 (by rw [s2]; simp [hm]))
    obtain ⟨j, hj, e', he', hb⟩ := feet_mem (List.count_pos_iff.1 (show 0 < (feet E js).count p by omega))
    exact foot_disj hM.nodup he' he (hji j hj) hb (by rw [hfoot]; simp)
  have hlen2 : cur.toList.length = c * tt.n := by simpa using q5
  have hrows : ORows (ORep W tt) (xs.set k z) (c0 ++ (c1.take q ++ (a.eval y).cells.toList ++ c1.drop (q + (a.eval y).cells.size)) ++ c2) (G0 ++ F' ++ G2) := by
    rw [List.set_eq_take_append_cons_drop, if_pos hk]
    have h1 : ORows (ORep W tt) (z :: xs.drop (k + 1)) ((c1.take q ++ (a.eval y).cells.toList ++ c1.drop (q + (a.eval y).cells.size)) ++ c2) (F' ++ G2) := ⟨_, _, _, _, t1, s6, rfl, rfl⟩
    have := s4.app h1
    simpa only [List.append_assoc] using this
  have hol : OList W' (ORep W' tt) tt.n (xs.set k z) e.val (b :: (G0 ++ F' ++ G2)) := by
    refine ⟨T, _, G0 ++ F' ++ G2, ?_, hrows.imp (fun x cs F h hF => ORep.keep tt h (fun p hp => keep p ?_)), by rw [hev]; rfl⟩
    · rw [hev, List.length_set]
      refine ⟨by have := hrows.len (fun x cs F h => ORep.len tt h); rw [List.length_set] at this; exact this, .inr ⟨b, c, _, rfl, Nat.zero_le _, by rw [hW']; exact setRow_heap W b cur _ T _ q1, q3, q4, ?_, ?_⟩⟩
      · simp
        omega
      · have hc0 : c0.length + (c1.length + c2.length) = xs.length * tt.n := by rw [← hcells, s1]; simp
        have hcur : cur.toList = cells ++ cur.toList.drop (xs.length * tt.n) := by rw [← q2, List.take_append_drop]
        have f1 : cur.toList.take (k * tt.n + q) = c0 ++ c1.take q := by
          rw [hcur, List.take_append_of_le_length (by omega), s1, List.append_assoc, ← s3, List.take_length_add_append, List.take_append_of_le_length (by omega)]
        have f2 : cur.toList.drop (k * tt.n + q + (a.eval y).cells.size) = c1.drop (q + (a.eval y).cells.size) ++ c2 ++ cur.toList.drop (xs.length * tt.n) := by
          rw [hcur, List.drop_append_of_le_length (by omega), s1, List.append_assoc, ← s3, Nat.add_assoc, List.drop_length_add_append, List.drop_append_of_le_length (by omega)]
          have : ((c0 ++ (c1 ++ c2)) ++ List.drop (xs.length * tt.n) cur.toList).drop (xs.length * tt.n) = List.drop (xs.length * tt.n) cur.toList := by
            rw [show xs.length * tt.n = (c0 ++ (c1 ++ c2)).length by simp; omega]
            exact List.drop_left
          rw [this]
        simp only [List.toList_toArray]
        rw [f1, f2]
        have : (c0 ++ List.take q c1 ++ (a.eval y).cells.toList ++ (List.drop (q + (a.eval y).cells.size) c1 ++ c2 ++ List.drop (xs.length * tt.n) cur.toList)) =
            (c0 ++ (List.take q c1 ++ (a.eval y).cells.toList ++ List.drop (q + (a.eval y).cells.size) c1) ++ c2) ++ List.drop (xs.length * tt.n) cur.toList := by simp
        rw [this]
        refine List.take_left' ?_
        simp
        omega
    · have := hF p hp
      rcases List.mem_append.1 this with h | h
      · rcases List.mem_append.1 h with h | h
        · exact hbG p (by rw [s2]; simp [h])
        · exact hbF p h
      · exact hbG p (by rw [s2]; simp [h])
  obtain ⟨E', g, m, rm⟩ := rows_turn (h1 := none) (ys := xs.set k z) (F2 := b :: (G0 ++ F' ++ G2)) hM hi he hd t3 hji (fun p hp => by rw [hev] at hp; simp [Value.ownBlock] at hp; rw [hfoot, hp]; simp) ⟨by rw [hW']; rfl, by rw [hW']; rfl, by rw [hW']; rfl, by rw [hW']; simp, fun p _ hne => keep p (fun e' => hne (by rw [hev, e']; rfl))⟩ (fun _ _ _ _ => hol) (fun w => by
    have := t2 w
    rw [hfoot, s2, List.count_cons, List.count_cons, List.count_append, List.count_append, List.count_append, List.count_append]
    omega)
  refine ⟨undef, W', E', .inr ⟨?_, rfl⟩, g, m, rm, trivial⟩
  unfold execOp
  simp only [ho, hv, Instr.storeAt, Instr.sureAddr, storeVar, sizeOf, typeInfo, Sem.run_bind, Sem.run_pure, Result.andThen_ok, run_program, hinf, Sem.run_ite]
  rw [if_neg (by omega), hst]
  rfl
theorem replicate_rows {tt : Ty} {d : tt.den} {cs : List Value} (h : ORep W tt d cs []) : ∀ n : Nat, ORows (ORep W tt) (List.replicate n d) (List.replicate n cs).flatten []
  | 0 => ⟨rfl, rfl⟩
  | n + 1 => ⟨cs, _, [], [], h, replicate_rows h n, by rw [List.replicate_succ, List.flatten_cons], rfl⟩
theorem range_rep {zs : Array Value} {s n : Nat} (hz : zs.size = s) (hs : 0 < s) : (Array.range (n * s)).map (zs[· % zs.size]!) = ((List.replicate n zs.toList).flatten).toArray := by
  apply Array.toList_inj.1
  apply List.ext_getElem?
  intro k
  have hall : ∀ l ∈ List.replicate n zs.toList, l.length = s := fun l hl => by rw [List.eq_of_mem_replicate hl]; simpa using hz
  rw [List.toList_toArray, flatten_get hs _ hall k]
  rw [Array.getElem?_toList, Array.getElem?_map, List.getElem?_replicate]
  by_cases hk : k < n * s
  · have h1 : k / s < n := Nat.div_lt_of_lt_mul (by rw [Nat.mul_comm]; exact hk)
    have h2 : k % s < zs.size := by rw [hz]; exact Nat.mod_lt _ hs
    rw [if_pos h1, Array.getElem?_range, if_pos hk]
    simp only [Option.map_some, Option.bind_some]
    rw [hz]
    simp only [Array.getElem?_toList, getElem!_pos zs (k % s) h2, Array.getElem?_eq_getElem h2]
  · have h1 : ¬ k / s < n := fun h => hk (by
      have := (Nat.div_lt_iff_lt_mul hs).1 h
      exact this)
    rw [if_neg h1, Array.getElem?_range, if_neg hk]
    rfl
theorem does_makeSlice {t e : TypeId} {l c : Operand} {n m : Int} {tt : Ty} {z : Value} {d : tt.den} (hM : RepM X W E M) (ht : RepT X W E M tm a.tmps.toList) (ho : o.op = .makeSlice t l c) (hu : P.underlying t = some (.slice e))
    (hl : evalA tm l = .w (.c (.int .i64 n))) (hc : evalA tm c = .w (.c (.int .i64 m))) (hz : (P.info? e).bind (·.zero) = some z) (hok : z.cells.toList.all absOk = true) (hty : rowTy P e tt.n = true)
    (hd : ownWhole M tt (z.cells.toList.map absC) = some (d, [])) (hn : n = m ∧ 0 ≤ n ∧ n ≤ (rowMax : Nat)) : Does X P o a W E M (.c (.row M.length 0)) (M ++ [.row tt (List.replicate n.toNat d) 0 0 none]) := by
  obtain ⟨rfl, h0, hmx⟩ := hn
  have pl := evalA_rep (M := M) (W := W) (E := E) ht l
  rw [hl] at pl
  have pc := evalA_rep (M := M) (W := W) (E := E) ht c
  rw [hc] at pc
  obtain ⟨el, wl⟩ := int_of pl
  obtain ⟨ec, _⟩ := int_of pc
  obtain ⟨inf, z', i1, i2, i3, i4, i5⟩ := rowTy_spec hty
  obtain rfl : z' = z := by rw [i1] at hz; simpa [i4] using hz
  have hpos := ty_pos tt
  have hrep : ORep W tt d z'.cells.toList [] := by
    unfold ownWhole at hd
    split at hd
    · rename_i y js ho'
      obtain ⟨rfl, rfl⟩ := Prod.mk.inj (Option.some.inj hd)
      obtain ⟨c1, u1, e1, q1, q2, q3⟩ := ownT_rep hM tt ho' (absL_rep hok)
      obtain rfl : u1 = [] := q2
      rw [List.append_nil] at e1
      rw [e1]
      exact q1
    · cases hd
  obtain ⟨k, rfl⟩ : ∃ k : Nat, n = k := ⟨n.toNat, by omega⟩
  have hk : k ≤ rowMax := by omega
  simp only [Int.toNat_natCast]
  obtain ⟨hb1, hb2⟩ := row_bounds hk i3
  obtain ⟨cells, hcells⟩ : ∃ cells, cells = (List.replicate k z'.cells.toList).flatten := ⟨_, rfl⟩
  have hlen : cells.length = k * tt.n := by rw [hcells, flatten_len (s := tt.n) _ (fun l hl => by rw [List.eq_of_mem_replicate hl]; simpa using i5)]; simp
  have hrows : ORows (ORep W tt) (List.replicate k d) cells [] := by rw [hcells]; exact replicate_rows hrep k
  have hown : (W.alloc (.cells cells.toArray e)).ownsRow 0 e tt.n (.slice (some ⟨W.heap.size, 0, none⟩) k k) (List.replicate k d).length cells := by
    refine ⟨by rw [hlen]; simp, .inr ⟨W.heap.size, k, _, by simp, Nat.zero_le _, heap_alloc_new W _, by simp, hb1, by simpa using hlen, ?_⟩⟩
    simp only [List.toList_toArray, List.length_replicate]
    rw [← hlen]
    exact List.take_length
  obtain ⟨E', g, mm, rm, rc⟩ := rows_new (W' := W.alloc (.cells cells.toArray e)) (js := []) hM rfl (by simp) ⟨rfl, rfl, rfl, by simp, fun k hk _ => Below.heap_alloc W _ k hk⟩ hown hrows (own := []) rfl (.inr rfl)
  refine ⟨_, _, E', .inl ?_, g, mm, rm, rc⟩
  unfold execOp
  simp only [ho, Sem.run_bind]
  have hw : IntKind.i64.wrap (k : Int) = k := by
    have : (k : Int) ≤ 9223372036854775807 := by unfold maxLen at hb1; omega
    exact IntWalk.i64_in _ ⟨by omega, by omega⟩
  have hsz : ¬ ((inf.bytes : Int) * (k : Int) > 2 ^ 48) := by
    have h2 : inf.bytes * k ≤ 140737488355328 := by rw [Nat.mul_comm]; exact hb2
    have h3 : ((inf.bytes * k : Nat) : Int) ≤ 140737488355328 := by omega
    rw [Int.natCast_mul] at h3
    omega
  have hrun : (Instr.makeSlice t (a.eval l) (a.eval c)).run P W = .ok (.slice (some ⟨W.heap.size, 0, none⟩) k k) (W.alloc (.cells cells.toArray e)) := by
    rw [el, ec]
    unfold Instr.makeSlice
    have h1 : ¬ ((k : Int) < 0) := by omega
    have h2 : ¬ ((k : Int) > (k : Int)) := by omega
    have h3 : ¬ ((inf.bytes : Int) * (k : Int) > 2 ^ 48) := hsz
    simp only [Sem.run_bind, run_underlying hu, Result.andThen_ok, asInt, asIntOf, Sem.run_pure, typeInfo, run_program, i1, hw, Sem.run_ite, h1, h2, h3, Bool.false_or, Bool.or_false, decide_false, Bool.false_eq_true, if_false, run_askRoom, sizeOf, Int.toNat_natCast]
    by_cases hk0 : k * inf.size = 0
    · have hk0' : k = 0 := by
        rcases Nat.mul_eq_zero.1 hk0 with h | h
        · exact h
        · omega
      subst hk0'
      have hc0 : cells = [] := List.eq_nil_of_length_eq_zero (by rw [hlen]; simp)
      rw [if_pos hk0, hc0]
      have hr0 : Array.range 0 = #[] := rfl
      simp [newRow, run_newObj, World.alloc_eq, hr0]
    · rw [if_neg hk0]
      simp only [zeroValue, typeInfo, Sem.run_bind, run_program, i1, i4, Sem.run_pure, Result.andThen_ok]
      rw [i2, range_rep (zs := z'.cells) (s := tt.n) i5 hpos, ← hcells]
      simp [newRow, run_newObj, World.alloc_eq]
  rw [hrun]
  rfl
end
end Go.Proofs.YtkompmgleojmlaaDoor
