/-
  append, slice literals, stores into rows, struct literals: each does what the abstract one says.
  Plain: no program. No condition.
-/
import Derived.Test.YtkompmgleojmlaaDoorEBmR
set_option linter.unusedSimpArgs false
set_option linter.unusedVariables false
namespace Go.Proofs.YtkompmgleojmlaaDoor
open Go.ChangeShapes Go.WideShapes Go.ChangeAt Go.RowKit Go.Joins Go.Deep
open GoRep (rep bulk)

section
variable {P : Program} {X : List Nat} {W : World} {E : Env} {M : Mem} {a : Act} {tm : List AV} {o : Oper}
theorem killE_foot : ∀ {js : List Nat} {E : Env} {i : Nat} {e : EB}, i ∈ js → (killE E js)[i]? = some e → e.foot = []
  | j :: js, E, i, e, h, he => by
    unfold killE at he
    by_cases hi : i ∈ js
    · exact killE_foot hi he
    · obtain rfl : i = j := (List.mem_cons.1 h).resolve_right hi
      rw [killE_other (fun k hk e => hi (by rw [← e]; exact hk))] at he
      have hl : i < E.length := by
        have := (List.getElem?_eq_some_iff.1 he).1
        simpa using this
      rw [List.getElem?_set_self hl] at he
      obtain rfl := Option.some.inj he
      rfl
theorem killE_in {js : List Nat} (hd : distinct js = true) (hl : ∀ j ∈ js, j < E.length) {b : Nat} (h : b ∈ foots (killE E js)) : b ∈ foots E := by
  have h1 := cnt_kill b hd hl
  have h2 := List.count_pos_iff.2 h
  exact List.count_pos_iff.1 (by omega)
theorem js_lt (hM : RepM X W E M) {js : List Nat} (h : ∀ j ∈ js, ∃ t xs v c, M[j]? = some (.row t xs v c none)) : ∀ j ∈ js, j < E.length := fun j hj => by
  obtain ⟨t, xs, v, c, h⟩ := h j hj
  rw [← hM.len]
  exact (List.getElem?_eq_some_iff.1 h).1
theorem own_cnt {o : Option Nat} {N x : Nat} (h : o = none ∨ o = some N) : o.toList.count x ≤ if x = N then 1 else 0 := by
  rcases h with rfl | rfl
  · simp
  · by_cases hx : x = N
    · subst hx; simp
    · simp [hx, Ne.symm hx]
/-- a new row -/
theorem rows_new {W' : World} {js : List Nat} {t : Ty} {ys : List t.den} {v : Value} {T : TypeId} {cells : List Value} {own G : List Nat} (hM : RepM X W E M) (hd : distinct js = true) (hj : ∀ j ∈ js, ∃ t xs v c, M[j]? = some (.row t xs v c none))
    (hg : W.grownBy W' none) (ho : W'.ownsRow 0 T t.n v ys.length cells) (hr : ORows (ORep W t) ys cells G) (hf : feet E js = own ++ G) (hv : v.ownBlock = none ∨ v.ownBlock = some W.heap.size) :
    ∃ E', Grow W E W' E' ∧ MemOk W E M W' E' (killM M js ++ [.row t ys 0 0 none]) ∧ RepM X W' E' (killM M js ++ [.row t ys 0 0 none]) ∧ RepC X W' E' (killM M js ++ [.row t ys 0 0 none]) (.row M.length 0) v := by
  have hjl := js_lt hM hj
  have hkl := killE_len js E
  have hml := killM_len js M
  have hfe : ∀ b ∈ feet E js, b ∈ foots E := fun b hb => by
    obtain ⟨j, _, e, he, hb⟩ := feet_mem hb
    exact mem_foots.2 ⟨e, List.mem_of_getElem? he, hb⟩
  have keep : ∀ b, b < W.heap.size → W'.heap[b]? = W.heap[b]? := fun b hb => hg.block b hb (by simp)
  have keepf : ∀ b ∈ foots E, W'.heap[b]? = W.heap[b]? := fun b hb => keep b (hM.lt b hb)
  have g : Grow W E W' (killE E js ++ [⟨0, v, v.ownBlock.toList ++ G⟩]) :=
    ⟨hg.os, hg.tape, hg.output, hg.size, fun b hb _ => keep b hb, fun b hb => by
      rw [foots_append, List.mem_append] at hb
      rcases hb with hb | hb
      · exact .inl (killE_in hd hjl hb)
      · simp [foots] at hb
        rcases hb with hb | hb
        · right
          rcases hv with hv | hv
          · rw [hv] at hb; cases hb
          · rw [hv] at hb; obtain rfl := Option.some.inj hb; exact Nat.le_refl _
        · exact .inl (hfe b (by rw [hf]; simp [hb])), fun i e he => by
      obtain ⟨e', h1, h2⟩ := killE_blk (js := js) he
      exact ⟨e', by rw [List.getElem?_append_left (List.getElem?_eq_some_iff.1 h1).1]; exact h1, h2⟩⟩
  have m : MemOk W E M W' (killE E js ++ [⟨0, v, v.ownBlock.toList ++ G⟩]) (killM M js ++ [.row t ys 0 0 none]) := memOk_upd (fun i t' xs' v' c' hh' hi => by
      have hil := (List.getElem?_eq_some_iff.1 hi).1
      rw [List.getElem?_append_left (by rw [hml]; exact hil)]
      by_cases hij : i ∈ js
      · exact .inl (killM_dead hij hil)
      · refine .inr (.inr (.inr ⟨by rw [killM_other (fun k hk e => hij (by rw [← e]; exact hk))]; exact hi, fun e he => ⟨?_, fun q hq => keepf q (mem_foots.2 ⟨e, List.mem_of_getElem? he, hq⟩)⟩⟩))
        rw [List.getElem?_append_left (by rw [hkl, ← hM.len]; exact hil), killE_other (fun k hk e => hij (by rw [← e]; exact hk))]
        exact he) (fun i hi => by
      have hil := (List.getElem?_eq_some_iff.1 hi).1
      rw [List.getElem?_append_left (by rw [hml]; exact hil)]
      by_cases hij : i ∈ js
      · exact killM_dead hij hil
      · rw [killM_other (fun k hk e => hij (by rw [← e]; exact hk))]; exact hi)
  have hlt : ∀ b ∈ foots (killE E js ++ [⟨0, v, v.ownBlock.toList ++ G⟩]), b < W'.heap.size := fun b hb => by
    rw [foots_append, List.mem_append] at hb
    rcases hb with hb | hb
    · exact Nat.lt_of_lt_of_le (hM.lt b (killE_in hd hjl hb)) hg.size
    · have hb : b ∈ v.ownBlock.toList ++ G := by simpa [foots] using hb
      rcases List.mem_append.1 hb with hb | hb
      · exact ownsRow_lt ho b hb
      · exact Nat.lt_of_lt_of_le (hM.lt b (hfe b (by rw [hf]; simp [hb]))) hg.size
  refine ⟨_, g, m, repM_new hM g m (by simp [hml, hkl, hM.len]) (nodup_of_cnt fun x => ?_) (fun i b e hb he => ?_) hlt, ownsRow_one ho, ?_⟩
  · have c1 := cnt_kill x hd hjl
    have c2 := cnt_le hM x
    have c3 := cnt_fresh (x := x) hM
    have c4 := own_cnt (x := x) hv
    rw [hf, List.count_append] at c1
    rw [foots_append, List.count_append]
    have c5 : (foots [⟨0, v, v.ownBlock.toList ++ G⟩]).count x = v.ownBlock.toList.count x + G.count x := by simp [foots, List.count_append]
    rw [c5]
    split at c4
    · have := c3 (by omega)
      omega
    · omega
  · by_cases hi : i < M.length
    · rw [List.getElem?_append_left (by rw [hml]; exact hi)] at hb
      rw [List.getElem?_append_left (by rw [hkl, ← hM.len]; exact hi)] at he
      by_cases hij : i ∈ js
      · rw [killM_dead hij hi] at hb
        obtain rfl := Option.some.inj hb
        exact .inr (killE_foot hij he)
      · rw [killM_other (fun k hk e => hij (by rw [← e]; exact hk))] at hb
        rw [killE_other (fun k hk e => hij (by rw [← e]; exact hk))] at he
        exact .inl ⟨hb, he, fun q hq => keepf q (mem_foots.2 ⟨e, List.mem_of_getElem? he, hq⟩)⟩
    · have hi' : i = M.length := by
        have := (List.getElem?_eq_some_iff.1 hb).1
        simp [hml] at this
        omega
      subst hi'
      rw [List.getElem?_append_right (by rw [hml]; exact Nat.le_refl _), hml, Nat.sub_self] at hb
      rw [List.getElem?_append_right (by rw [hkl, ← hM.len]; exact Nat.le_refl _), hkl, ← hM.len, Nat.sub_self] at he
      simp at hb he
      subst hb
      subst he
      exact .inr ⟨T, cells, G, ho, hr.imp (fun x cs F h hF => ORep.keep t h (fun b hb => keepf b (hfe b (by rw [hf]; simp [hF b hb])))), rfl⟩
  · unfold atRow
    rw [List.getElem?_append_right (by rw [hml]; exact Nat.le_refl _), hml, Nat.sub_self]
    refine ⟨Nat.le_refl _, fun _ => ⟨⟨0, v, v.ownBlock.toList ++ G⟩, ?_, rfl⟩⟩
    rw [List.getElem?_append_right (by rw [hkl, ← hM.len]; exact Nat.le_refl _), hkl, ← hM.len, Nat.sub_self]
    rfl
/-- a row grown -/
theorem rows_app {W' : World} {js : List Nat} {i ver cc : Nat} {t : Ty} {xs ys : List t.den} {e : EB} {v : Value} {T T0 : TypeId} {cells news : List Value} {own G G2 : List Nat} (hM : RepM X W E M) (hi : M[i]? = some (.row t xs ver cc none)) (he : E[i]? = some e)
    (hd : distinct js = true) (hj : ∀ j ∈ js, ∃ t xs v c, M[j]? = some (.row t xs v c none)) (hij : ∀ j ∈ js, j ≠ i)
    (ho0 : W.ownsRow 0 T0 t.n e.val xs.length cells) (hr0 : ORows (ORep W t) xs cells G) (hf0 : e.foot = e.val.ownBlock.toList ++ G)
    (hg : W.grownBy W' e.val.ownBlock) (ho : W'.ownsRow 0 T t.n v (xs.length + ys.length) (cells ++ news)) (hr : ORows (ORep W t) ys news G2) (hf : feet E js = own ++ G2) (hv : v.ownBlock = e.val.ownBlock ∨ v.ownBlock = some W.heap.size) :
    ∃ E', Grow W E W' E' ∧ MemOk W E M W' E' ((killM M js).set i (.row t (xs ++ ys) (ver + 1) (cc + 1) none)) ∧ RepM X W' E' ((killM M js).set i (.row t (xs ++ ys) (ver + 1) (cc + 1) none)) ∧ RepC X W' E' ((killM M js).set i (.row t (xs ++ ys) (ver + 1) (cc + 1) none)) (.row i (ver + 1)) v := by
  have hjl := js_lt hM hj
  have hkl := killE_len js E
  have hml := killM_len js M
  have hil : i < M.length := (List.getElem?_eq_some_iff.1 hi).1
  have hilE : i < E.length := by rw [← hM.len]; exact hil
  have hei : (killE E js)[i]? = some e := by rw [killE_other hij]; exact he
  have hfe : ∀ b ∈ feet E js, b ∈ foots E := fun b hb => by
    obtain ⟨j, _, e, he, hb⟩ := feet_mem hb
    exact mem_foots.2 ⟨e, List.mem_of_getElem? he, hb⟩
  have hei' : ∀ b ∈ e.foot, b ∈ foots E := fun b hb => mem_foots.2 ⟨e, List.mem_of_getElem? he, hb⟩
  have hnd : e.foot.Nodup := by
    refine nodup_of_cnt fun x => ?_
    have c1 := cnt_set (e' := { e with foot := [] }) x he
    have c2 := cnt_le hM x
    have c3 : ({ e with foot := [] } : EB).foot.count x = 0 := rfl
    omega
  rw [hf0, List.nodup_append] at hnd
  have kept : ∀ b, b < W.heap.size → (∀ q ∈ e.val.ownBlock.toList, b ≠ q) → W'.heap[b]? = W.heap[b]? := fun b hb hne => hg.block b hb (fun h => hne b (by rw [← h]; simp) rfl)
  have keptG : ∀ b ∈ G, W'.heap[b]? = W.heap[b]? := fun b hb => kept b (hM.lt b (hei' b (by rw [hf0]; simp [hb]))) (fun q hq h => hnd.2.2 q hq b hb h.symm)
  have keptO : ∀ q e', E[q]? = some e' → q ≠ i → ∀ b ∈ e'.foot, W'.heap[b]? = W.heap[b]? := fun q e' hq hne b hb => kept b (hM.lt b (mem_foots.2 ⟨e', List.mem_of_getElem? hq, hb⟩)) (fun z hz h => by
    subst h
    exact foot_disj hM.nodup hq he hne hb (by rw [hf0]; simp at hz; simp [hz]))
  have keptF : ∀ b ∈ feet E js, W'.heap[b]? = W.heap[b]? := fun b hb => by
    obtain ⟨j, hjm, e', hq, hb⟩ := feet_mem hb
    exact keptO j e' hq (hij j hjm) b hb
  obtain ⟨e2, he2⟩ : ∃ e2 : EB, e2 = ⟨e.blk, v, v.ownBlock.toList ++ (G ++ G2)⟩ := ⟨_, rfl⟩
  have inE : ∀ b ∈ foots ((killE E js).set i e2), b ∈ foots E ∨ b ∈ v.ownBlock.toList := fun b hb => by
    obtain ⟨e', h1, h2⟩ := mem_foots.1 hb
    rcases List.mem_or_eq_of_mem_set h1 with h1 | rfl
    · exact .inl (killE_in hd hjl (mem_foots.2 ⟨e', h1, h2⟩))
    · rw [he2] at h2
      rcases List.mem_append.1 h2 with h2 | h2
      · exact .inr h2
      · rcases List.mem_append.1 h2 with h2 | h2
        · exact .inl (hei' b (by rw [hf0]; simp [h2]))
        · exact .inl (hfe b (by rw [hf]; simp [h2]))
  have inV : ∀ b ∈ v.ownBlock.toList, b ∈ foots E ∨ W.heap.size ≤ b := fun b hb => by
    rcases hv with hv | hv
    · rw [hv] at hb; exact .inl (hei' b (by rw [hf0, List.mem_append]; exact .inl hb))
    · rw [hv] at hb; obtain rfl : b = W.heap.size := by simpa using hb
      exact .inr (Nat.le_refl _)
  have g : Grow W E W' ((killE E js).set i e2) :=
    ⟨hg.os, hg.tape, hg.output, hg.size, fun b hb hn => kept b hb (fun q hq h => hn (by subst h; exact hei' b (by rw [hf0, List.mem_append]; exact .inl hq))),
      fun b hb => (inE b hb).elim .inl (inV b), fun q e' hq => by
      by_cases hqi : i = q
      · subst hqi
        obtain rfl : e = e' := Option.some.inj (he.symm.trans hq)
        exact ⟨e2, List.getElem?_set_self (by rw [hkl]; exact hilE), by rw [he2]⟩
      · rw [List.getElem?_set_ne hqi]
        exact killE_blk hq⟩
  have m : MemOk W E M W' ((killE E js).set i e2) ((killM M js).set i (.row t (xs ++ ys) (ver + 1) (cc + 1) none)) := memOk_upd (fun q t' xs' v' c' hh' hq => by
      have hql := (List.getElem?_eq_some_iff.1 hq).1
      by_cases hqi : i = q
      · subst hqi
        rw [hi] at hq
        obtain ⟨rfl, h2⟩ : t = t' ∧ ver = v' := by injection Option.some.inj hq with a1 a2 a3 a4; exact ⟨a1, a3⟩
        exact .inr (.inl ⟨_, _, _, _, List.getElem?_set_self (by rw [hml]; exact hil), by omega⟩)
      · rw [List.getElem?_set_ne hqi, List.getElem?_set_ne hqi]
        by_cases hqj : q ∈ js
        · exact .inl (killM_dead hqj hql)
        · refine .inr (.inr (.inr ⟨by rw [killM_other (fun k hk e => hqj (by rw [← e]; exact hk))]; exact hq, fun e' he' => ⟨?_, keptO q e' he' (fun h => hqi h.symm)⟩⟩))
          rw [killE_other (fun k hk e => hqj (by rw [← e]; exact hk))]
          exact he') (fun q hq => by
      have hql := (List.getElem?_eq_some_iff.1 hq).1
      by_cases hqi : i = q
      · subst hqi
        rw [hi] at hq
        cases hq
      · rw [List.getElem?_set_ne hqi]
        by_cases hqj : q ∈ js
        · exact killM_dead hqj hql
        · rw [killM_other (fun k hk e => hqj (by rw [← e]; exact hk))]; exact hq)
  refine ⟨_, g, m, repM_new hM g m (by simp [hml, hkl, hM.len]) (nodup_of_cnt fun x => ?_) (fun q b e' hb he' => ?_) (fun b hb => (inE b hb).elim (fun h => Nat.lt_of_lt_of_le (hM.lt b h) hg.size) (ownsRow_lt ho b)), ownsRow_one ho, ?_⟩
  · have c1 := cnt_kill x hd hjl
    have c2 := cnt_le hM x
    have c3 := cnt_fresh (x := x) hM
    have c4 := cnt_set (e' := e2) x hei
    have c6 : e2.foot.count x = v.ownBlock.toList.count x + (G.count x + G2.count x) := by rw [he2, List.count_append, List.count_append]
    have c7 : e.foot.count x = e.val.ownBlock.toList.count x + G.count x := by rw [hf0, List.count_append]
    rw [hf, List.count_append] at c1
    rcases hv with hv | hv
    · rw [hv] at c6; omega
    · have c5 := own_cnt (x := x) (.inr hv : v.ownBlock = none ∨ v.ownBlock = some W.heap.size)
      split at c5
      · have := c3 (by omega)
        omega
      · omega
  · by_cases hqi : i = q
    · subst hqi
      rw [List.getElem?_set_self (by rw [hml]; exact hil)] at hb
      rw [List.getElem?_set_self (by rw [hkl]; exact hilE)] at he'
      obtain rfl := Option.some.inj hb
      obtain rfl := Option.some.inj he'
      refine .inr ⟨T, cells ++ news, G ++ G2, ?_, ?_, by rw [he2]⟩
      · rw [he2, List.length_append]; exact ho
      · exact (hr0.imp (fun x cs F h hF => ORep.keep t h (fun b hb => keptG b (hF b hb)))).app (hr.imp (fun x cs F h hF => ORep.keep t h (fun b hb => keptF b (by rw [hf]; simp [hF b hb]))))
    · rw [List.getElem?_set_ne hqi] at hb he'
      by_cases hqj : q ∈ js
      · have hql : q < M.length := by
          obtain ⟨_, _, _, _, h⟩ := hj q hqj
          exact (List.getElem?_eq_some_iff.1 h).1
        rw [killM_dead hqj hql] at hb
        obtain rfl := Option.some.inj hb
        exact .inr (killE_foot hqj he')
      · rw [killM_other (fun k hk e => hqj (by rw [← e]; exact hk))] at hb
        rw [killE_other (fun k hk e => hqj (by rw [← e]; exact hk))] at he'
        exact .inl ⟨hb, he', keptO q e' he' (fun h => hqi h.symm)⟩
  · unfold atRow
    rw [List.getElem?_set_self (by rw [hml]; exact hil)]
    exact ⟨Nat.le_refl _, fun _ => ⟨e2, List.getElem?_set_self (by rw [hkl]; exact hilE), by rw [he2]⟩⟩
end
end Go.Proofs.YtkompmgleojmlaaDoor
