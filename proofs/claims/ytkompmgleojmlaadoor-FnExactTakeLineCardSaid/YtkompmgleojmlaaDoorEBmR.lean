/-
  The operations on rows of our own: append, slice literals, stores; and struct literals.
  Plain: no program. No condition.
-/
import Derived.Test.YtkompmgleojmlaaDoorEBmE
import Derived.Maps.AppendAt
import Derived.Great.BuildSlice
set_option linter.unusedSimpArgs false
set_option linter.unusedVariables false
namespace Go.Proofs.YtkompmgleojmlaaDoor
open Go.ChangeShapes Go.WideShapes Go.ChangeAt Go.RowKit Go.Joins Go.Deep
open GoRep (rep bulk)

section
variable {P : Program} (w : World)
/-- append onto a row of our own, whatever its block's tag -/
theorem run_append_T (t ty e T : TypeId) (i : TypeInfo) (z : Value) (ht : P.underlying t = some (.slice e)) (hi : P.info? e = some i) (hz : i.zero = some z) (hzs : z.cells.size = i.size) (hsz : 0 < i.size)
    (v : Value) (n : Nat) (xs : List Value) (hown : w.ownsRow 0 T i.size v n xs)
    (A : Option Addr) (m c : Nat) (news : List Value) (hl : news.length = m * i.size) (hA : m = 0 ∨ ∃ a, A = some a ∧ ∀ j u, news[j]? = some u → w.cell? (a.add j) = some u) (h1 : ∀ u ∈ news, u.oneCell' = true)
    (h63 : n + m ≤ maxLen) (hbytes : (n + m) * i.bytes ≤ 140737488355328) :
    ∃ v' w' T', (Builtin.append_ #[t, t] ty #[v, .slice A m c]).run P w = .ok v' w' ∧ w'.ownsRow 0 T' i.size v' (n + m) (xs ++ news) ∧ w.grownBy w' v.ownBlock ∧ (v'.ownBlock = v.ownBlock ∨ v'.ownBlock = some w.heap.size) ∧ (m = 0 → v' = v ∧ w' = w) := by
  have hsmall : n + m ≤ 9223372036854775807 := by simp only [maxLen] at h63; omega
  have hlen : (xs ++ news).length = (n + m) * i.size := by rw [List.length_append, hown.1, hl, Nat.add_mul]
  by_cases hm : m = 0
  · subst hm
    have hn : news = [] := List.eq_nil_of_length_eq_zero (by simpa using hl)
    subst hn
    refine ⟨v, w, T, ?_, by simpa using hown, ⟨rfl, rfl, rfl, Nat.le_refl _, fun _ _ _ => rfl⟩, .inl rfl, fun _ => ⟨rfl, rfl⟩⟩
    rcases hown.2 with ⟨rfl, rfl⟩ | ⟨g, cap, cur, rfl, hbg, hg, hnc, hcm, hcs, htake⟩
    · cases A <;> simp [Builtin.append_, run_underlying ht, sizeOf, typeInfo, hi, Builtin.lenOf, Builtin.firstCells, loadCells, loadCellsFrom]
    · cases A <;> simp [Builtin.append_, run_underlying ht, sizeOf, typeInfo, hi, Builtin.lenOf, Builtin.firstCells, loadCells, loadCellsFrom, hnc, storeCells]
  · obtain ⟨a, rfl, hnews⟩ := hA.resolve_left hm
    have grown : ∀ (old : Nat), old < n + m → ∀ (row : Option Nat),
        (w.drew.alloc (.cells (xs.toArray ++ news.toArray ++ Builtin.zeroCells z.cells (grownCap w (n + m) old e - (n + m))) e)).ownsRow 0 e i.size
          (.slice (some ⟨w.heap.size, 0, none⟩) (n + m) (grownCap w (n + m) old e)) (n + m) (xs ++ news) ∧
        w.grownBy (w.drew.alloc (.cells (xs.toArray ++ news.toArray ++ Builtin.zeroCells z.cells (grownCap w (n + m) old e - (n + m))) e)) row := by
      intro old ho row
      have hge := grownCap_ge w (n + m) old e
      have hcm : grownCap w (n + m) old e ≤ maxLen := grownCap_le_maxLen w (n + m) old e h63
      refine ⟨⟨hlen, .inr ⟨w.heap.size, _, _, rfl, Nat.zero_le _, heap_alloc_new w.drew _, hge, hcm, ?_, ?_⟩⟩, ⟨rfl, rfl, rfl, by simp, fun k hk _ => Below.heap_alloc w.drew _ k hk⟩⟩
      · simp only [Array.size_append, List.size_toArray, size_zeroCells, hzs, hown.1, hl, ← Nat.add_mul]
        congr 1
        omega
      · simp only [Array.toList_append, List.append_assoc]
        rw [← List.append_assoc, ← hlen]
        exact List.take_left
    rcases hown.2 with ⟨rfl, rfl⟩ | ⟨g, cap, cur, rfl, hbg, hg, hnc, hcm, hcs, htake⟩
    · have hx : xs = [] := List.eq_nil_of_length_eq_zero (by simpa using hown.1)
      subst hx
      have hr := run_append_nil (P := P) w t ty e i z ht hi hz a m c news hl hnews (by omega) (by omega) (by have hb := hbytes; simp only [Nat.zero_add] at hb; omega)
      have hgr := grown 0 (by omega) (Value.ownBlock (.slice none 0 0))
      simp only [Nat.zero_add, List.nil_append, Array.empty_append] at hgr ⊢
      exact ⟨_, _, e, hr, hgr.1, hgr.2, Or.inr rfl, fun h => absurd h hm⟩
    · by_cases hroom : n + m ≤ cap
      · have hfit : n * i.size + news.length ≤ cur.size := by rw [hl, hcs, ← Nat.add_mul]; exact Nat.mul_le_mul_right _ hroom
        have hr : (Builtin.append_ #[t, t] ty #[.slice (some ⟨g, 0, none⟩) n cap, .slice (some a) m c]).run P w =
            .ok (.slice (some ⟨g, 0, none⟩) (n + m) cap) (w.setRow g (cur.toList.take (n * i.size) ++ news ++ cur.toList.drop (n * i.size + news.length)).toArray) := by
          have hf := run_firstCells_some (P := P) w i.size m a m c news hl hnews
          have hst := run_storeCells_at P g (n * i.size) T news 0 cur w hg (by simpa using hfit) h1
          simp only [Nat.add_zero] at hst
          simp [Builtin.append_, run_underlying ht, sizeOf, typeInfo, hi, Builtin.lenOf, hroom, hf, Addr.add_lit, hst]
        refine ⟨_, _, T, hr, ⟨hlen, .inr ⟨g, cap, _, rfl, hbg, setRow_heap w g cur _ T _ hg, hroom, hcm, ?_, ?_⟩⟩, ⟨rfl, rfl, rfl, by simp, fun k _ hk => setRow_other w g k _ (fun e => hk (by simp [Value.ownBlock, e]))⟩, Or.inl rfl, fun h => absurd h hm⟩
        · simp only [List.size_toArray, List.length_append, List.length_take, List.length_drop, Array.length_toList]
          omega
        · rw [htake, ← hlen]
          exact List.take_left
      · have holds : ∀ j u, xs[j]? = some u → w.cell? ((⟨g, 0, none⟩ : Addr).add j) = some u := hown.cells (g := g) rfl
        have hr := run_append_grow (P := P) w t ty e i z ht hi hz ⟨g, 0, none⟩ n cap xs hown.1 holds a m c news hl hnews (by omega) (by omega) (growslice_fits (by omega) hbytes)
        have hgr := grown cap (by omega) (Value.ownBlock (.slice (some ⟨g, 0, none⟩) n cap))
        exact ⟨_, _, e, hr, hgr.1, hgr.2, Or.inr rfl, fun h => absurd h hm⟩
end

def feet (E : Env) (js : List Nat) : List Nat := js.flatMap fun j => match E[j]? with | some e => e.foot | none => []
def killE (E : Env) : List Nat → Env
  | [] => E
  | j :: js => killE (E.set j { E.getD j ⟨0, undef, []⟩ with foot := [] }) js
theorem cnt_set : ∀ {E : Env} {i : Nat} {e e' : EB} (x : Nat), E[i]? = some e → (foots (E.set i e')).count x + e.foot.count x = (foots E).count x + e'.foot.count x
  | [], _, _, _, _, h => by simp at h
  | d :: E, 0, e, e', x, h => by
    obtain rfl : d = e := by simpa using h
    show (e'.foot ++ foots E).count x + d.foot.count x = (d.foot ++ foots E).count x + e'.foot.count x
    rw [List.count_append, List.count_append]
    omega
  | d :: E, i + 1, e, e', x, h => by
    have ih := cnt_set (E := E) (e' := e') x (show E[i]? = some e by simpa using h)
    show (d.foot ++ foots (E.set i e')).count x + e.foot.count x = (d.foot ++ foots E).count x + e'.foot.count x
    rw [List.count_append, List.count_append]
    omega
theorem killE_len : ∀ (js : List Nat) (E : Env), (killE E js).length = E.length
  | [], _ => rfl
  | j :: js, E => by unfold killE; rw [killE_len js]; simp
theorem killM_len : ∀ (js : List Nat) (M : Mem), (killM M js).length = M.length
  | [], _ => rfl
  | j :: js, M => by unfold killM; rw [killM_len js]; simp
theorem killE_other : ∀ {js : List Nat} {E : Env} {i : Nat}, (∀ j ∈ js, j ≠ i) → (killE E js)[i]? = E[i]?
  | [], _, _, _ => rfl
  | j :: js, E, i, h => by
    unfold killE
    rw [killE_other (fun k hk => h k (by simp [hk])), List.getElem?_set_ne (h j (by simp))]
theorem killM_other : ∀ {js : List Nat} {M : Mem} {i : Nat}, (∀ j ∈ js, j ≠ i) → (killM M js)[i]? = M[i]?
  | [], _, _, _ => rfl
  | j :: js, M, i, h => by
    unfold killM
    rw [killM_other (fun k hk => h k (by simp [hk])), List.getElem?_set_ne (h j (by simp))]
theorem killM_dead : ∀ {js : List Nat} {M : Mem} {i : Nat}, i ∈ js → i < M.length → (killM M js)[i]? = some .dead
  | j :: js, M, i, h, hl => by
    unfold killM
    by_cases hi : i ∈ js
    · exact killM_dead hi (by simpa using hl)
    · obtain rfl : i = j := (List.mem_cons.1 h).resolve_right hi
      rw [killM_other (fun k hk e => hi (by rw [← e]; exact hk))]
      exact List.getElem?_set_self hl
theorem killE_blk : ∀ {js : List Nat} {E : Env} {i : Nat} {e : EB}, E[i]? = some e → ∃ e', (killE E js)[i]? = some e' ∧ e'.blk = e.blk
  | [], _, _, e, h => ⟨e, h, rfl⟩
  | j :: js, E, i, e, h => by
    unfold killE
    by_cases hi : j = i
    · subst hi
      have hl := (List.getElem?_eq_some_iff.1 h).1
      obtain ⟨e', h1, h2⟩ := killE_blk (js := js) (E := E.set j { E.getD j ⟨0, undef, []⟩ with foot := [] }) (i := j) (e := { E.getD j ⟨0, undef, []⟩ with foot := [] }) (List.getElem?_set_self hl)
      exact ⟨e', h1, by rw [h2, List.getD_eq_getElem?_getD, h]; rfl⟩
    · exact killE_blk (by rw [List.getElem?_set_ne hi]; exact h)
theorem distinct_cons {j : Nat} {js : List Nat} (h : distinct (j :: js) = true) : (∀ i ∈ js, i ≠ j) ∧ distinct js = true := by
  unfold distinct at h
  rw [Bool.and_eq_true] at h
  refine ⟨fun i hi e => ?_, h.2⟩
  have := List.all_eq_true.1 h.1 i hi
  subst e
  simp at this
theorem feet_cons {E : Env} {j : Nat} {js : List Nat} {e : EB} (h : E[j]? = some e) : feet E (j :: js) = e.foot ++ feet E js := by simp [feet, h]
theorem feet_app {E : Env} {is js : List Nat} : feet E (is ++ js) = feet E is ++ feet E js := by simp [feet]
theorem feet_congr {E E' : Env} : ∀ {js : List Nat}, (∀ j ∈ js, E[j]? = E'[j]?) → feet E js = feet E' js
  | [], _ => rfl
  | j :: js, h => by
    have ih := feet_congr (js := js) (fun k hk => h k (by simp [hk]))
    unfold feet at ih ⊢
    rw [List.flatMap_cons, List.flatMap_cons, ih, h j (by simp)]
theorem feet_mem {E : Env} {b : Nat} : ∀ {js : List Nat}, b ∈ feet E js → ∃ j ∈ js, ∃ e, E[j]? = some e ∧ b ∈ e.foot
  | js, h => by
    obtain ⟨j, hj, hb⟩ := List.mem_flatMap.1 h
    cases he : E[j]? with
    | none => rw [he] at hb; cases hb
    | some e => rw [he] at hb; exact ⟨j, hj, e, he, hb⟩
theorem cnt_kill : ∀ {js : List Nat} {E : Env} (x : Nat), distinct js = true → (∀ j ∈ js, j < E.length) → (foots (killE E js)).count x + (feet E js).count x = (foots E).count x
  | [], _, _, _, _ => by simp [killE, feet]
  | j :: js, E, x, hd, hl => by
    obtain ⟨h1, h2⟩ := distinct_cons hd
    have hj := List.getElem?_eq_getElem (hl j (by simp))
    have c1 := cnt_set (e' := { E.getD j ⟨0, undef, []⟩ with foot := [] }) x hj
    have ih := cnt_kill (js := js) (E := E.set j { E.getD j ⟨0, undef, []⟩ with foot := [] }) x h2 (fun k hk => by simpa using hl k (by simp [hk]))
    have hf : feet (E.set j { E.getD j ⟨0, undef, []⟩ with foot := [] }) js = feet E js := feet_congr (fun k hk => List.getElem?_set_ne (fun e => h1 k hk e.symm))
    unfold killE
    rw [feet_cons hj, List.count_append]
    rw [hf] at ih
    have c1 : (foots (E.set j { E.getD j ⟨0, undef, []⟩ with foot := [] })).count x + (E[j]'(hl j (by simp))).foot.count x = (foots E).count x := c1
    omega
theorem nodup_of_cnt {l : List Nat} (h : ∀ x, l.count x ≤ 1) : l.Nodup := List.nodup_iff_count.2 h
section
variable {P : Program} {X : List Nat} {W : World} {E : Env} {M : Mem} {a : Act} {tm : List AV} {o : Oper}
theorem cnt_le (hM : RepM X W E M) (x : Nat) : (foots E).count x ≤ 1 := List.nodup_iff_count.1 hM.nodup x
theorem cnt_fresh (hM : RepM X W E M) {x : Nat} (h : W.heap.size ≤ x) : (foots E).count x = 0 := List.count_eq_zero.2 (fun hm => by have := hM.lt x hm; omega)
/-- rows turned, used up, made -/
theorem repM_new {W' : World} {E' : Env} {M' : Mem} (hM : RepM X W E M) (g : Grow W E W' E') (m : MemOk W E M W' E' M') (hlen : M'.length = E'.length) (hn : (foots E').Nodup)
    (hat : ∀ (i : Nat) (b : Blk) (e : EB), M'[i]? = some b → E'[i]? = some e → (M[i]? = some b ∧ E[i]? = some e ∧ ∀ q ∈ e.foot, W'.heap[q]? = W.heap[q]?) ∨ RepB X W' E' M' b e) (hlt : ∀ b ∈ foots E', b < W'.heap.size) : RepM X W' E' M' := by
  refine ⟨hlen, hn, fun i b e hb he => ?_, hlt, fun b hb hf => ?_, fun b hb => Nat.lt_of_lt_of_le (hM.xsz b hb) g.size⟩
  · rcases hat i b e hb he with ⟨h1, h2, h3⟩ | h
    · exact (hM.at_ i b e h1 h2).keep g m hM.len h3
    · exact h
  · rcases g.new b hf with h | h
    · exact hM.xlt b hb h
    · have := hM.xsz b hb; omega
theorem memOk_upd {W' : World} {E' : Env} {M' : Mem} (h : ∀ (i : Nat) (t : Ty) (xs : List t.den) (v c : Nat) (hh : Option (Nat × Nat × Nat)), M[i]? = some (.row t xs v c hh) → M'[i]? = some .dead ∨ (∃ (xs' : List t.den) (v' c' : Nat) (h' : Option (Nat × Nat × Nat)), M'[i]? = some (.row t xs' v' c' h') ∧ v < v') ∨
      (∃ (xs' : List t.den) (c' : Nat) (h' : Option (Nat × Nat × Nat)), M'[i]? = some (.row t xs' v c' h') ∧ c < c' ∧ ∀ e, E[i]? = some e → ∃ e', E'[i]? = some e' ∧ e'.val = e.val) ∨
      (M'[i]? = some (.row t xs v c hh) ∧ ∀ e, E[i]? = some e → E'[i]? = some e ∧ ∀ q ∈ e.foot, W'.heap[q]? = W.heap[q]?)) (hd : ∀ i : Nat, M[i]? = some .dead → M'[i]? = some .dead) : MemOk W E M W' E' M' := fun i => by
  split
  · rename_i t xs v c hh hb
    rcases h i t xs v c hh hb with h1 | ⟨xs', v', c', hh', h1, h2⟩ | ⟨xs', c', hh', h1, h2, h3⟩ | ⟨h1, h2⟩
    · exact .inl h1
    · exact .inr ⟨xs', v', c', hh', h1, by omega, fun e => by omega⟩
    · exact .inr ⟨xs', v, c', hh', h1, Nat.le_refl _, fun _ e he => by
        obtain ⟨e', q1, q2⟩ := h3 e he
        exact ⟨e', q1, q2, by omega, fun e => by omega⟩⟩
    · exact .inr ⟨xs, v, c, hh, h1, Nat.le_refl _, fun _ e he => ⟨e, (h2 e he).1, rfl, Nat.le_refl _, fun _ b hb => ⟨hb, (h2 e he).2 b hb⟩⟩⟩
  · rename_i hb; exact hd i hb
  · trivial
theorem triple_eq {α β γ : Type} {a a' : α} {b b' : β} {c c' : γ} (h : some (a, b, c) = some (a', b', c')) : a = a' ∧ b = b' ∧ c = c' := by cases h; exact ⟨rfl, rfl, rfl⟩
theorem ownT_rep (hM : RepM X W E M) : ∀ (t : Ty) {l : List AC} {vs : List Value} {x : t.den} {rest : List AC} {js : List Nat}, ownT M t l = some (x, rest, js) → RepL X W E M l vs →
    ∃ cs us, vs = cs ++ us ∧ ORep W t x cs (feet E js) ∧ RepL X W E M rest us ∧ ∀ j ∈ js, ∃ t xs v c, M[j]? = some (.row t xs v c none)
  | .int k, l, vs, x, rest, js, h, hr => by
    have h : ownInt k l = some (x, rest, js) := h
    unfold ownInt at h
    split at h
    · split at h
      · rename_i hk
        subst hk
        obtain ⟨rfl, rfl, rfl⟩ := triple_eq h
        obtain ⟨v, r, rfl, h1, h2⟩ := hr
        exact ⟨[v], r, rfl, ⟨by rw [h1.1], h1.2, rfl⟩, h2, by simp⟩
      · cases h
    · cases h
  | .bool, l, vs, x, rest, js, h, hr => by
    have h : ownBool l = some (x, rest, js) := h
    unfold ownBool at h
    split at h
    · obtain ⟨rfl, rfl, rfl⟩ := triple_eq h
      obtain ⟨v, r, rfl, h1, h2⟩ := hr
      exact ⟨[v], r, rfl, ⟨by rw [show v = _ from h1], rfl⟩, h2, by simp⟩
    · cases h
  | .opq, l, vs, x, rest, js, h, hr => by
    have h : ownOpq l = some (x, rest, js) := h
    unfold ownOpq at h
    split at h
    · obtain ⟨rfl, rfl, rfl⟩ := triple_eq h
      obtain ⟨v, r, rfl, h1, h2⟩ := hr
      exact ⟨[v], r, rfl, ⟨by rw [h1.1]; rfl, h1.2, rfl⟩, h2, by simp⟩
    · cases h
  | .str, l, vs, x, rest, js, h, hr => by
    have h : ownStr l = some (x, rest, js) := h
    unfold ownStr at h
    split at h
    · obtain ⟨rfl, rfl, rfl⟩ := triple_eq h
      obtain ⟨v, r, rfl, h1, h2⟩ := hr
      exact ⟨[v], r, rfl, ⟨by rw [h1.1], h1.2, rfl⟩, h2, by simp⟩
    · cases h
  | .prod a b, l, vs, x, rest, js, h, hr => by
    unfold ownT at h
    cases ha : ownT M a l with
    | none => rw [ha] at h; cases h
    | some q =>
      obtain ⟨y, l1, j1⟩ := q
      rw [ha] at h
      simp only at h
      cases hb : ownT M b l1 with
      | none => rw [hb] at h; cases h
      | some q =>
        obtain ⟨z, l2, j2⟩ := q
        rw [hb] at h
        obtain ⟨rfl, rfl, rfl⟩ := triple_eq h
        obtain ⟨c1, u1, rfl, q1, q2, q3⟩ := ownT_rep hM a ha hr
        obtain ⟨c2, u2, rfl, r1, r2, r3⟩ := ownT_rep hM b hb q2
        exact ⟨c1 ++ c2, u2, by simp, ⟨c1, c2, _, _, q1, r1, rfl, feet_app⟩, r2, fun j hj => (List.mem_append.1 hj).elim (q3 j) (r3 j)⟩
  | .list a, l, vs, x, rest, js, h, hr => by
    have h : ownList M a l = some (x, rest, js) := h
    unfold ownList at h
    split at h
    · rename_i i v l' _
      split at h
      · rename_i r hra
        split at h
        · rename_i hta
          obtain ⟨rfl, rfl, rfl⟩ := triple_eq h
          obtain ⟨u, rr, rfl, h1, h2⟩ := hr
          obtain ⟨e, he, hv, hol⟩ := row_of hM hra h1.2
          obtain ⟨rt, rxs, rc⟩ := r
          simp only at hta hol
          subst hta
          refine ⟨[u], rr, rfl, ⟨u, rfl, ?_⟩, h2, fun j hj => by obtain rfl := List.mem_singleton.1 hj; exact ⟨_, _, _, _, rowAt_eq hra⟩⟩
          rw [hv, show feet E [i] = e.foot by simp [feet, he]]
          exact hol
        · cases h
      · cases h
    · obtain ⟨rfl, rfl, rfl⟩ := triple_eq h
      obtain ⟨u, rr, rfl, h1, h2⟩ := hr
      refine ⟨[u], rr, rfl, ⟨u, rfl, 0, [], [], ?_, ⟨rfl, rfl⟩, ?_⟩, h2, by simp⟩
      · rw [h1.1]; exact World.ownsRow_nil W 0 0 a.n
      · rw [h1.1]; rfl
    · cases h
theorem ownV_rep (hM : RepM X W E M) {t : Ty} {x : AV} {v : Value} {y : t.den} {js : List Nat} (h : ownV M t x = some (y, js)) (hr : RepV X W E M x v) : ORep W t y v.cells.toList (feet E js) ∧ ∀ j ∈ js, ∃ t xs v c, M[j]? = some (.row t xs v c none) := by
  unfold ownV at h
  split at h
  · rename_i l hl
    split at h
    · rename_i y' js' ho
      obtain ⟨rfl, rfl⟩ := Prod.mk.inj (Option.some.inj h)
      obtain ⟨cs, us, e, q1, q2, q3⟩ := ownT_rep hM t ho (cellsA_rep hr hl)
      obtain rfl : us = [] := q2
      rw [List.append_nil] at e
      rw [e]
      exact ⟨q1, q3⟩
    · cases h
  · cases h
theorem flat_foot {W : World} : ∀ (t : Ty), t.flat = true → ∀ {x : t.den} {cs : List Value} {F : List Nat}, ORep W t x cs F → F = []
  | .int _, _, _, _, _, h => h.2.2
  | .bool, _, _, _, _, h => h.2
  | .str, _, _, _, _, h => h.2.2
  | .opq, _, _, _, _, h => h.2.2
  | .prod a b, hf, _, _, _, ⟨c1, c2, F1, F2, h1, h2, _, e2⟩ => by
    have hf' : (a.flat && b.flat) = true := hf
    rw [Bool.and_eq_true] at hf'
    rw [e2, flat_foot a hf'.1 h1, flat_foot b hf'.2 h2]
    rfl
  | .list _, hf, _, _, _, _ => by cases hf
theorem flat_own {W : World} : ∀ (t : Ty), t.flat = true → ∀ {x : t.den} {cs : List Value} {F : List Nat}, rep W x cs F → ORep W t x cs []
  | .int _, _, _, _, _, h => ⟨h.1, h.2.1, rfl⟩
  | .bool, _, _, _, _, h => ⟨h.1, rfl⟩
  | .str, _, _, _, _, h => ⟨h.1, h.2.1, rfl⟩
  | .opq, _, _, _, _, h => ⟨h.1, h.2.1, rfl⟩
  | .prod a b, hf, _, _, _, ⟨c1, c2, F1, F2, h1, h2, e1, e2⟩ => by
    have hf' : (a.flat && b.flat) = true := hf
    rw [Bool.and_eq_true] at hf'
    exact ⟨c1, c2, [], [], flat_own a hf'.1 h1, flat_own b hf'.2 h2, e1, rfl⟩
  | .list _, hf, _, _, _, _ => by cases hf
/-- the cells of a row of flat elements, wherever it lies -/
theorem flat_row {W : World} {t : Ty} (hf : t.flat = true) {b : Nat} : ∀ {xs : List t.den} {off : Nat} {G : List Nat}, RowRep W b off xs G → ∃ cells, ORows (ORep W t) xs cells [] ∧ CellsAt W b off cells
  | [], _, _, _ => ⟨[], ⟨rfl, rfl⟩, fun j v h => by simp at h⟩
  | x :: xs, off, G, ⟨cs, G1, G2, r1, r2, r3, _⟩ => by
    obtain ⟨cells, q1, q2⟩ := flat_row hf r3
    have hl := GoRep.len r1
    refine ⟨cs ++ cells, ⟨cs, cells, [], [], flat_own t hf r1, q1, rfl, rfl⟩, fun j v hj => ?_⟩
    by_cases hjl : j < cs.length
    · rw [List.getElem?_append_left hjl] at hj
      exact r2 j v hj
    · rw [List.getElem?_append_right (by omega)] at hj
      have := q2 (j - cs.length) v hj
      rwa [show off + GoRep.n t.den + (j - cs.length) = off + j by omega] at this
theorem addr_add (b o j : Nat) : (⟨b, o, none⟩ : Addr).add j = ⟨b, o + j, none⟩ := by unfold Addr.add; split <;> simp_all
theorem cells_add {W : World} {b off : Nat} {cells : List Value} (h : CellsAt W b off cells) : ∀ j u, cells[j]? = some u → W.cell? ((⟨b, off, none⟩ : Addr).add j) = some u := fun j u hj => by
  rw [addr_add]
  exact (h j u hj).1
/-- what append is to lay behind -/
theorem addA_rep (hM : RepM X W E M) {y : AV} {v : Value} {r : AddR} (h : addA M y = some r) (hnd : r.nd) (hr : RepV X W E M y v) :
    ∃ A c news own G, v = .slice A r.ys.length c ∧ ORows (ORep W r.t) r.ys news G ∧ (r.ys.length = 0 ∨ ∃ a, A = some a ∧ ∀ j u, news[j]? = some u → W.cell? (a.add j) = some u) ∧
      feet E r.js = own ++ G ∧ distinct r.js = true ∧ ∀ j ∈ r.js, ∃ t xs v c, M[j]? = some (.row t xs v c none) := by
  have flatCase : ∀ {L : Lnd} {q : RowC} {c : AC}, readL M c = some (L, q) → RepC X W E M c v → q.t.flat = true → ∃ A c news, v = .slice A q.xs.length c ∧ ORows (ORep W q.t) q.xs news [] ∧ (q.xs.length = 0 ∨ ∃ a, A = some a ∧ ∀ j u, news[j]? = some u → W.cell? (a.add j) = some u) := by
    intro L q c hq hc hf
    obtain ⟨A, c, F, hv, hs, hF⟩ := read_of hM hq hc
    obtain ⟨t, xs, qc⟩ := q
    obtain ⟨z1, z2, z3⟩ := hs
    rcases z3 with ⟨z3, _⟩ | ⟨hne, b, off, G, rfl, rfl, z3⟩
    · have z3 : xs = [] := z3
      subst z3
      exact ⟨A, c, [], hv, ⟨rfl, rfl⟩, .inl rfl⟩
    · obtain ⟨cells, q1, q2⟩ := flat_row hf z3
      exact ⟨_, c, cells, hv, q1, .inr ⟨_, rfl, cells_add q2⟩⟩
  unfold addA at h
  split at h
  · rename_i i' v' c' n' k' o'
    cases hq : readSl M i' v' c' n' k' o' with
    | none => rw [hq] at h; cases h
    | some q =>
      rw [hq] at h
      simp only at h
      cases hf : q.t.flat with
      | false => rw [hf] at h; cases h
      | true =>
        rw [hf] at h
        obtain rfl := Option.some.inj h
        obtain ⟨A, c, news, h1, h2, h3⟩ := flatCase (c := .sl i' v' c' n' k' o') (L := .at i' v' c') (q := q) (by show (readSl M i' v' c' n' k' o').map _ = _; rw [hq]; rfl) hr hf
        exact ⟨A, c, news, [], [], h1, h2, h3, rfl, rfl, by simp⟩
  · rename_i L t ys
    cases hc : liveL M L with
    | false => rw [hc] at h; cases h
    | true =>
      rw [hc] at h
      simp only [cond_true] at h
      have hq : readL M (.hs L t ys) = some (L, (⟨t, ys, 0⟩ : RowC)) := by show (bif liveL M L then some (L, (⟨t, ys, 0⟩ : RowC)) else none) = _; rw [hc]; rfl
      cases hf : t.flat with
      | true =>
        rw [hf] at h
        obtain rfl := Option.some.inj h
        obtain ⟨A, c, news, h1, h2, h3⟩ := flatCase (c := .hs L t ys) (L := L) (q := ⟨t, ys, 0⟩) hq hr hf
        exact ⟨A, c, news, [], [], h1, h2, h3, rfl, rfl, by simp⟩
      | false =>
        rw [hf] at h
        obtain rfl := Option.some.inj h
        obtain rfl : ys = [] := hnd
        obtain ⟨A, c, F, hv, _, _⟩ := read_of hM hq hr
        exact ⟨A, c, [], [], [], hv, ⟨rfl, rfl⟩, .inl rfl, rfl, rfl, by simp⟩
  · rename_i j ver
    split at h
    · rename_i r' hra
      obtain rfl := Option.some.inj h
      cases hf : r'.t.flat with
      | true =>
        obtain ⟨A, c, news, h1, h2, h3⟩ := flatCase (c := .row j ver) (L := .at j ver r'.c) (q := r') (by show (rowAt M j ver).map _ = _; rw [hra]; rfl) hr hf
        exact ⟨A, c, news, [], [], h1, h2, h3, by simp [feet], rfl, by simp⟩
      | false =>
        obtain ⟨e, he, hv, T, cells, G, q1, q2, q3⟩ := row_of hM hra (hr : RepC X W E M (.row j ver) v).2
        have hfe : feet E [j] = e.val.ownBlock.toList ++ G := by rw [← q3]; simp [feet, he]
        obtain ⟨A, c, hs⟩ := olist_slice ⟨T, cells, G, q1, q2, rfl⟩
        refine ⟨A, c, cells, _, G, hv.trans hs, q2, ?_, hfe, rfl, fun k hk => by
          have hk : k ∈ [j] := hk
          obtain rfl := List.mem_singleton.1 hk; exact ⟨_, _, _, _, rowAt_eq hra⟩⟩
        rcases q1.2 with ⟨k1, k2⟩ | ⟨g, cap, cur, k1, k2, k3, k4, k5, k6, k7⟩
        · exact .inl k2
        · right
          rw [k1] at hs
          injection hs with hs1
          refine ⟨_, hs1.symm, ?_⟩
          have := cellsAt_take (W := W) (b := g) (m := r'.xs.length * r'.t.n) k3
          rw [k7] at this
          exact cells_add this
    · cases h
  · cases h
theorem rowTy_spec {e : TypeId} {n : Nat} (h : rowTy P e n = true) : ∃ i z, P.info? e = some i ∧ i.size = n ∧ i.bytes ≤ 512 ∧ i.zero = some z ∧ z.cells.size = n := by
  unfold rowTy at h
  cases hi : P.info? e with
  | none => rw [hi] at h; cases h
  | some i =>
    rw [hi] at h
    simp only [Bool.and_eq_true] at h
    obtain ⟨h1, h2, h3⟩ := h
    cases hz : i.zero with
    | none => rw [hz] at h3; cases h3
    | some z =>
      rw [hz] at h3
      exact ⟨i, z, rfl, Nat.eq_of_beq_eq_true h1, Nat.le_of_ble_eq_true h2, hz, Nat.eq_of_beq_eq_true h3⟩
theorem row_bounds {n b : Nat} (h : n ≤ rowMax) (hb : b ≤ 512) : n ≤ maxLen ∧ n * b ≤ 140737488355328 := by
  refine ⟨by unfold rowMax at h; unfold maxLen; omega, ?_⟩
  have : n * b ≤ 274877906944 * 512 := Nat.mul_le_mul h hb
  omega
theorem exec_append {x y : Operand} {t : TypeId} {xs : Array Operand} {ts : Array TypeId} {v : Value} {w' : World} (ho : o.op = .call ⟨.builtin .append, xs, ts⟩) (hxs : xs.toList = [x, y]) (hts : ts.toList = [t, t])
    (h : (Builtin.append_ #[t, t] o.type #[a.eval x, a.eval y]).run P W = .ok v w') : (execOp a.eval o).run P W = .ok (.value v) w' := by
  have e1 : xs = #[x, y] := Array.toList_inj.1 (by simpa using hxs)
  have e2 : ts = #[t, t] := Array.toList_inj.1 (by simpa using hts)
  subst e1
  subst e2
  unfold execOp
  simp only [ho, resolve, invoke, builtin, Sem.run_bind, Sem.run_pure, Result.andThen_ok, List.map_toArray, List.map_cons, List.map_nil, h]
end
end Go.Proofs.YtkompmgleojmlaaDoor
