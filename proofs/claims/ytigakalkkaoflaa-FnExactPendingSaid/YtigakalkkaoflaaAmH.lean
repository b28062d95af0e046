/-
  Calls by contract: the abstract call gives the model's.
  Plain: no program. No condition.
-/
import Derived.Test.YtigakalkkaoflaaAmG
set_option linter.unusedSimpArgs false
set_option linter.unusedVariables false
namespace Go.Proofs.Ytigakalkkaoflaa
open Go.ChangeShapes Go.WideShapes Go.ChangeAt Go.RowKit Go.Joins Go.Deep
open GoRep (rep bulk)

section
variable {P : Program} {X : List Nat} {W : World} {E : Env} {M : Mem} {a : Act} {tm : List AV} {o : Oper}
theorem decT_rep : ∀ (t : Ty) {l : List AC} {x : t.den} {rest : List AC} {vs : List Value}, decT t l = some (x, rest) → RepL X W E M l vs → RepL X W E M (cellsOf t x ++ rest) vs
  | .int k, l, x, rest, vs, h, hr => by
    have h : decInt k l = some (x, rest) := h
    unfold decInt at h
    split at h
    · split at h
      · rename_i hk
        subst hk
        obtain ⟨rfl, rfl⟩ := Prod.mk.inj (Option.some.inj h)
        exact hr
      · cases h
    · cases h
  | .bool, l, x, rest, vs, h, hr => by
    have h : decBool l = some (x, rest) := h
    unfold decBool at h
    split at h
    · obtain ⟨rfl, rfl⟩ := Prod.mk.inj (Option.some.inj h)
      exact hr
    · cases h
  | .str, l, x, rest, vs, h, hr => by
    have h : decStr l = some (x, rest) := h
    unfold decStr at h
    split at h
    · obtain ⟨rfl, rfl⟩ := Prod.mk.inj (Option.some.inj h)
      exact hr
    · cases h
  | .prod a b, l, x, rest, vs, h, hr => by
    unfold decT at h
    cases ha : decT a l with
    | none => rw [ha] at h; cases h
    | some q =>
      obtain ⟨y, l1⟩ := q
      rw [ha] at h
      simp only at h
      cases hb : decT b l1 with
      | none => rw [hb] at h; cases h
      | some q =>
        obtain ⟨z, r2⟩ := q
        rw [hb] at h
        obtain ⟨rfl, rfl⟩ := Prod.mk.inj (Option.some.inj h)
        have h1 := decT_rep a ha hr
        obtain ⟨q1, q2⟩ := RepL.split h1
        have h2 := decT_rep b hb q2
        show RepL X W E M ((cellsOf a y ++ cellsOf b z) ++ r2) vs
        rw [List.append_assoc]
        have := q1.append h2
        rwa [List.take_append_drop] at this
  | .list a, l, x, rest, vs, h, hr => by
    have h : decList a l = some (x, rest) := h
    unfold decList at h
    split at h
    · split at h
      · rename_i hk
        subst hk
        obtain ⟨rfl, rfl⟩ := Prod.mk.inj (Option.some.inj h)
        exact hr
      · cases h
    · obtain ⟨rfl, rfl⟩ := Prod.mk.inj (Option.some.inj h)
      obtain ⟨v, r, e, h1, h2⟩ := hr
      refine ⟨v, r, e, ⟨[], ?_, by simp⟩, h2⟩
      rw [h1.1]
      exact ⟨none, 0, rfl, Nat.le_refl _, Nat.zero_le _, .inl ⟨rfl, rfl⟩⟩
    · cases h
theorem decT_whole {t : Ty} {l : List AC} {x : t.den} {vs : List Value} (h : decT t l = some (x, [])) (hr : RepL X W E M l vs) : RepL X W E M (cellsOf t x) vs := by
  have := decT_rep t h hr
  rwa [List.append_nil] at this
/-- typed cells, seen by a callee that must not touch what is ours -/
theorem repL_out {X' : List Nat} (t : Ty) {x : t.den} {vs : List Value} (hX : ∀ b, b ∈ X' → b ∈ X ∨ b ∈ foots E) (h : RepL X W E M (cellsOf t x) vs) : RepL X' W [] [] (cellsOf t x) vs := by
  obtain ⟨F, h1, h2⟩ := rep_of_repL t h
  exact repL_of_rep t h1 (fun b hb => ⟨by simp [foots], fun hx => (hX b hx).elim (h2 b hb).2 (h2 b hb).1⟩)
theorem rowRep_one {t : Ty} {b o : Nat} {x : t.den} {cs : List Value} {F : List Nat} (h1 : rep W x cs F) (h2 : CellsAt W b o cs) : RowRep W b o [x] F := ⟨cs, F, [], h1, h2, rfl, by simp⟩
theorem cellsAt_blk {b : Nat} {cs : Array Value} {T : TypeId} (hg : W.heap[b]? = some (.cells cs T (0, 0))) : CellsAt W b 0 cs.toList := fun j u hj => by
  rw [Nat.zero_add, cell_of_row W b j cs T (0, 0) hg, frozen_of_row W b j cs T hg]
  exact ⟨by simpa using hj, rfl⟩
theorem decA1_rep {X' : List Nat} {y : ATy} {x : AV} {d : y.ty.den} {v : Value} (hM : RepM X W E M) (hX : ∀ b, b ∈ X' → b ∈ X ∨ (b ∈ foots E ∧ (match y with | .p _ => False | _ => True))) (h : decA1 M y x = some d) (hr : RepV X W E M x v) (hlt : ∀ b ∈ X, b < W.heap.size) :
    RepW X' W [] [] (encA1 y d) v := by
  unfold decA1 at h
  split at h
  · rename_i t c
    split at h
    · rename_i z hz
      obtain rfl : z = d := Option.some.inj h
      have h1 := repL_out (X' := X') t (fun b hb => (hX b hb).imp id (·.1)) (decT_whole hz (⟨v, [], rfl, hr, rfl⟩ : RepL X W E M [c] [v]))
      show RepC X' W [] [] (enc1 t z) v
      unfold enc1
      have hl := h1.len
      cases hc : cellsOf t z with
      | nil => rw [hc] at hl; simp at hl
      | cons q qs =>
        rw [hc] at h1
        obtain ⟨v', r, e, q1, _⟩ := h1
        simp at e
        rw [e.1]
        exact q1
    · cases h
  · rename_i t l
    split at h
    · rename_i z hz
      obtain rfl : z = d := Option.some.inj h
      obtain ⟨cs, e, h2⟩ := (hr : ∃ cs, v = .agg cs.toArray ∧ RepL X W E M l cs)
      exact ⟨cs, e, repL_out t (fun b hb => (hX b hb).imp id (·.1)) (decT_whole hz h2)⟩
    · cases h
  · rename_i t i
    split at h
    · rename_i l hb
      split at h
      · rename_i z hz
        obtain rfl : z = d := Option.some.inj h
        obtain ⟨e, he, hv⟩ := (hr : boxAt E i v 0)
        obtain ⟨hf, cs, T, hg, hl⟩ := hM.at_ i _ e hb he
        obtain ⟨F, h1, h2⟩ := rep_of_repL t (decT_whole hz hl)
        have hX' : ∀ b ∈ X', b ∈ X := fun b hb => (hX b hb).elim id (fun h => h.2.elim)
        have hblk : e.blk ∈ foots E := mem_foots.2 ⟨e, List.mem_of_getElem? he, by simp [hf]⟩
        refine ⟨e.blk, 0, F, by rw [hv]; simp, by simp, rowRep_one h1 (cellsAt_blk hg), fun g hg' => ⟨⟨by simp [foots], fun hx => ?_⟩, ?_⟩⟩
        · rcases List.mem_cons.1 hg' with rfl | hg'
          · exact hM.xlt _ (hX' _ hx) hblk
          · exact (h2 g hg').2 (hX' g hx)
        · rcases List.mem_cons.1 hg' with rfl | hg'
          · exact hM.lt _ hblk
          · exact GoRep.lt h1 g hg'
      · cases h
    · cases h
  · rename_i t t' xs k
    split at h
    · rename_i ht
      subst ht
      obtain rfl : nth t' xs k = d := Option.some.inj h
      obtain ⟨b, off, G, e, hk, hr', hf⟩ := (hr : RepC X W E M (.ep t' xs k 0) v)
      have hx := List.getElem?_eq_getElem hk
      obtain ⟨cs, Gk, h1, h2, h3⟩ := hr'.get k _ hx
      have hn : nth t' xs k = xs[k] := by unfold nth; rw [List.getD_eq_getElem?_getD, hx]; rfl
      have hX' : ∀ b ∈ X', b ∈ X := fun b hb => (hX b hb).elim id (fun h => h.2.elim)
      rw [Ty.n_eq] at h3
      refine ⟨b, off + k * t'.n, Gk, by rw [e]; simp, by simp, by rw [hn]; exact rowRep_one h1 h3, fun g hg => ?_⟩
      have := hf g (by rcases List.mem_cons.1 hg with rfl | hg; · simp
                       · simp [h2 g hg])
      exact ⟨⟨by simp [foots], fun hx => this.1.2 (hX' g hx)⟩, this.2⟩
    · cases h
  · cases h
theorem decA_rep {X' : List Nat} (hM : RepM X W E M) (hlt : ∀ b ∈ X, b < W.heap.size) : ∀ {l : List ATy} {xs : List AV} {d : AD l} {vs : List Value}, (∀ b, b ∈ X' → b ∈ X ∨ (b ∈ foots E ∧ hasP l = false)) → decA M l xs = some d → RepT X W E M xs vs → RepWs X' W [] [] (encA l d) vs
  | [], [], _, _, _, _, hr => hr
  | [], _ :: _, _, _, _, h, _ => by simp [decA] at h
  | _ :: _, [], _, _, _, h, _ => by simp [decA] at h
  | y :: l, x :: xs, d, vs, hX, h, ⟨v, r, e, h1, h2⟩ => by
    unfold decA at h
    cases hq : decA1 M y x with
    | none => rw [hq] at h; cases h
    | some z =>
      rw [hq] at h
      simp only at h
      cases hz : decA M l xs with
      | none => rw [hz] at h; cases h
      | some ys =>
        rw [hz] at h
        obtain rfl : (z, ys) = d := Option.some.inj h
        refine ⟨v, r, e, decA1_rep hM (fun b hb => (hX b hb).imp id (fun h => ⟨h.1, ?_⟩)) hq h1 hlt, decA_rep hM hlt (fun b hb => (hX b hb).imp id (fun h => ⟨h.1, ?_⟩)) hz h2⟩
        · cases y <;> first | trivial | (simp [hasP] at h)
        · cases y <;> first | (simpa [hasP] using h.2) | (simp [hasP] at h)
theorem scalC_rep {X' : List Nat} {W' : World} {E' : Env} {M' : Mem} {c : AC} {v : Value} (h : scalC c = true) (hr : RepC X W E M c v) : RepC X' W' E' M' c v := by
  cases c <;> first | exact hr | cases h
theorem scalL_rep {X' : List Nat} {W' : World} {E' : Env} {M' : Mem} : ∀ {l : List AC} {vs : List Value}, l.all scalC = true → RepL X W E M l vs → RepL X' W' E' M' l vs
  | [], _, _, h => h
  | _ :: _, _, h, ⟨v, r, e, h1, h2⟩ => by
    rw [List.all_cons, Bool.and_eq_true] at h
    exact ⟨v, r, e, scalC_rep h.1 h1, scalL_rep h.2 h2⟩
theorem scalW_rep {X' : List Nat} {W' : World} {E' : Env} {M' : Mem} {x : AW} {v : Value} (h : scalW x = true) (hr : RepW X W E M x v) : RepW X' W' E' M' x v := by
  cases x with
  | c a => exact scalC_rep h hr
  | ag l => obtain ⟨cs, e, h2⟩ := hr; exact ⟨cs, e, scalL_rep h h2⟩
theorem scalWs_rep {X' : List Nat} {W' : World} {E' : Env} {M' : Mem} : ∀ {l : List AW} {vs : List Value}, l.all scalW = true → RepWs X W E M l vs → RepWs X' W' E' M' l vs
  | [], _, _, h => h
  | _ :: _, _, h, ⟨v, r, e, h1, h2⟩ => by
    rw [List.all_cons, Bool.and_eq_true] at h
    exact ⟨v, r, e, scalW_rep h.1 h1, scalWs_rep h.2 h2⟩
theorem scalV_rep {X' : List Nat} {W' : World} {E' : Env} {M' : Mem} {x : AV} {v : Value} (h : scalV x = true) (hr : RepV X W E M x v) : RepV X' W' E' M' x v := by
  cases x with
  | w x => exact scalW_rep h hr
  | tp l => obtain ⟨vs, e, h2⟩ := hr; exact ⟨vs, e, scalWs_rep h h2⟩
  | any => trivial
theorem shiftC_scal {n : Nat} {c : AC} (h : scalC c = true) : shiftC n c = c := by cases c <;> first | rfl | cases h
theorem shiftL_scal {n : Nat} : ∀ {l : List AC}, l.all scalC = true → l.map (shiftC n) = l
  | [], _ => rfl
  | c :: l, h => by
    rw [List.all_cons, Bool.and_eq_true] at h
    rw [List.map_cons, shiftC_scal h.1, shiftL_scal h.2]
theorem shiftW_scal {n : Nat} {x : AW} (h : scalW x = true) : shiftW n x = x := by
  cases x with
  | c a => exact congrArg AW.c (shiftC_scal h)
  | ag l => exact congrArg AW.ag (shiftL_scal h)
theorem shiftV_scal {n : Nat} {x : AV} (h : scalV x = true) : shiftV n x = x := by
  cases x with
  | w x => exact congrArg AV.w (shiftW_scal h)
  | tp l =>
    refine congrArg AV.tp ?_
    have h' : l.all scalW = true := h
    induction l with
    | nil => rfl
    | cons y l ih =>
      rw [List.all_cons, Bool.and_eq_true] at h'
      rw [List.map_cons, shiftW_scal h'.1, ih h'.2 h'.2]
  | any => rfl
end
section
variable {X : List Nat} {W W' : World} {E E' : Env} {M N : Mem}
theorem boxAt_shift (hl : M.length = E.length) {i q : Nat} {v : Value} (h : boxAt E' i v q) : boxAt (E ++ E') (i + M.length) v q := by
  obtain ⟨e, h1, h2⟩ := h
  exact ⟨e, by rw [hl, Nat.add_comm, List.getElem?_append_right (by omega), Nat.add_sub_cancel_left]; exact h1, h2⟩
theorem capsAt_shift (hl : M.length = E.length) : ∀ {is : List Nat} {vs : List Value}, capsAt E' is vs → capsAt (E ++ E') (is.map (· + M.length)) vs
  | [], _, h => h
  | _ :: _, _, ⟨v, r, e, h1, h2⟩ => ⟨v, r, e, boxAt_shift hl h1, capsAt_shift hl h2⟩
theorem shiftC_rep (hl : M.length = E.length) : ∀ {c : AC} {v : Value}, RepC (X ++ foots E) W' E' N c v → RepC X W' (E ++ E') (M ++ N.map (shiftB M.length)) (shiftC M.length c) v
  | .int _ _, _, h => h
  | .bool _, _, h => h
  | .str _, _, h => h
  | .hs t xs, v, ⟨F, h1, h2⟩ => ⟨F, h1, fun b hb => by
      have := h2 b hb
      rw [foots_append, List.mem_append]
      rw [List.mem_append] at this
      exact ⟨fun h => h.elim (fun h => this.2 (.inr h)) this.1, fun h => this.2 (.inl h)⟩⟩
  | .bp _ _, _, h => boxAt_shift hl h
  | .ep t xs k o, v, ⟨b, off, G, e, hk, h1, h2⟩ => ⟨b, off, G, e, hk, h1, fun g hg => by
      have := h2 g hg
      rw [foots_append, List.mem_append]
      rw [List.mem_append] at this
      exact ⟨⟨fun h => h.elim (fun h => this.1.2 (.inr h)) this.1.1, fun h => this.1.2 (.inl h)⟩, this.2⟩⟩
  | .row i ver, v, ⟨h1, h2⟩ => by
    refine ⟨h1, ?_⟩
    have e1 : (M ++ N.map (shiftB M.length))[i + M.length]? = (N[i]?).map (shiftB M.length) := by
      rw [Nat.add_comm, List.getElem?_append_right (by omega), Nat.add_sub_cancel_left, List.getElem?_map]
    rw [e1]
    cases hN : N[i]? with
    | none => rw [hN] at h2; exact h2.elim
    | some b =>
      rw [hN] at h2
      cases b with
      | box l => exact h2.elim
      | hole => exact h2.elim
      | dead => trivial
      | row T t xs cur =>
        refine ⟨h2.1, fun he => ?_⟩
        obtain ⟨e, q1, q2⟩ := h2.2 he
        exact ⟨e, by rw [hl, Nat.add_comm, List.getElem?_append_right (by omega), Nat.add_sub_cancel_left]; exact q1, q2⟩
  | .fn f caps, v, ⟨vs, e, h⟩ => ⟨vs, e, capsAt_shift hl h⟩
  | .raw _, _, h => h
theorem shiftL_rep (hl : M.length = E.length) : ∀ {l : List AC} {vs : List Value}, RepL (X ++ foots E) W' E' N l vs → RepL X W' (E ++ E') (M ++ N.map (shiftB M.length)) (l.map (shiftC M.length)) vs
  | [], _, h => h
  | _ :: _, _, ⟨v, r, e, h1, h2⟩ => ⟨v, r, e, shiftC_rep hl h1, shiftL_rep hl h2⟩
theorem shiftW_rep (hl : M.length = E.length) : ∀ {x : AW} {v : Value}, RepW (X ++ foots E) W' E' N x v → RepW X W' (E ++ E') (M ++ N.map (shiftB M.length)) (shiftW M.length x) v
  | .c _, _, h => shiftC_rep hl h
  | .ag _, _, ⟨cs, e, h⟩ => ⟨cs, e, shiftL_rep hl h⟩
theorem shiftWs_rep (hl : M.length = E.length) : ∀ {l : List AW} {vs : List Value}, RepWs (X ++ foots E) W' E' N l vs → RepWs X W' (E ++ E') (M ++ N.map (shiftB M.length)) (l.map (shiftW M.length)) vs
  | [], _, h => h
  | _ :: _, _, ⟨v, r, e, h1, h2⟩ => ⟨v, r, e, shiftW_rep hl h1, shiftWs_rep hl h2⟩
theorem shiftV_rep (hl : M.length = E.length) {x : AV} {v : Value} (h : RepV (X ++ foots E) W' E' N x v) : RepV X W' (E ++ E') (M ++ N.map (shiftB M.length)) (shiftV M.length x) v := by
  cases x with
  | w x => exact shiftW_rep hl h
  | tp l => obtain ⟨vs, e, h⟩ := h; exact ⟨vs, e, shiftWs_rep hl h⟩
  | any => trivial
/-- our own blocks stand behind a call that made only new memory -/
theorem grow_call (g : Grow W [] W' E') (hM : RepM X W E M) : Grow W E W' (E ++ E') where
  os := g.os
  tape := g.tape
  output := g.output
  size := g.size
  keep b hb _ := g.keep b hb (by simp [foots])
  new b hb := by
    rw [foots_append, List.mem_append] at hb
    exact hb.elim .inl (fun h => .inr ((g.new b h).elim (fun h => by simp [foots] at h) id))
  blk i e he := ⟨e, by rw [List.getElem?_append_left (List.getElem?_eq_some_iff.1 he).1]; exact he, rfl⟩
theorem repM_call (g : Grow W [] W' E') (hM : RepM X W E M) (hN : RepM (X ++ foots E) W' E' N) : RepM X W' (E ++ E') (M ++ N.map (shiftB M.length)) := by
  have hg := grow_call g hM
  have hm := memOk_append hM (N.map (shiftB M.length)) E'
  refine ⟨by simp [hM.len, hN.len], nodup_app_fresh hM.nodup hN.nodup hM.lt (fun b hb => (g.new b hb).elim (fun h => by simp [foots] at h) id), fun i b e hb he => ?_, fun b hb => ?_, fun b hb hf => ?_, fun b hb => Nat.lt_of_lt_of_le (hM.xsz b hb) g.size⟩
  · by_cases hi : i < M.length
    · rw [List.getElem?_append_left hi] at hb
      rw [List.getElem?_append_left (by rw [← hM.len]; exact hi)] at he
      exact (hM.at_ i b e hb he).keep hg hm (fun q hq => g.keep q (hM.lt q (mem_foots.2 ⟨e, List.mem_of_getElem? he, hq⟩)) (by simp [foots]))
    · rw [List.getElem?_append_right (by omega), List.getElem?_map] at hb
      rw [List.getElem?_append_right (by rw [← hM.len]; omega), ← hM.len] at he
      cases hn : N[i - M.length]? with
      | none => rw [hn] at hb; cases hb
      | some c =>
        rw [hn] at hb
        obtain rfl : shiftB M.length c = b := by simpa using hb
        have h1 := hN.at_ _ c e hn he
        cases c with
        | box l =>
          obtain ⟨q1, cs, T, q2, q3⟩ := h1
          exact ⟨q1, cs, T, q2, shiftL_rep hM.len q3⟩
        | row T t xs ver => exact h1
        | dead => exact h1
        | hole => exact h1
  · rw [foots_append, List.mem_append] at hb
    exact hb.elim (fun h => Nat.lt_of_lt_of_le (hM.lt b h) g.size) (hN.lt b)
  · rw [foots_append, List.mem_append] at hf
    exact hf.elim (hM.xlt b hb) (hN.xlt b (by simp [hb]))
end
end Go.Proofs.Ytigakalkkaoflaa
