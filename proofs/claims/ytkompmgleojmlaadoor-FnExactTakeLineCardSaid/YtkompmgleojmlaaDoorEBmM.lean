/-
  Code and functions: the abstract condition gives a contract.
  Plain: no program. No condition.
-/
import Derived.Test.YtkompmgleojmlaaDoorEBmL
set_option linter.unusedSimpArgs false
set_option linter.unusedVariables false
namespace Go.Proofs.YtkompmgleojmlaaDoor
open Go.ChangeShapes Go.WideShapes Go.ChangeAt Go.RowKit Go.Joins Go.Deep
open GoRep (rep bulk)

theorem leL_eq : ∀ {x y : List AC}, leL x y → x = y
  | [], [], _ => rfl
  | [], _ :: _, h => h.elim
  | _ :: _, [], h => h.elim
  | _ :: _, _ :: _, h => by rw [leC_eq h.1, leL_eq h.2]
theorem leV_eq {x y : AV} (h : leV x y) : y = .any ∨ x = y := by
  unfold leV at h
  split at h
  · exact .inl rfl
  · exact .inr (by rw [leC_eq h])
  · exact .inr (by rw [leL_eq h])
  · exact .inr h
theorem leB_eq {x y : Blk} (h : leB x y) : x = y := by
  unfold leB at h
  split at h
  · rw [leL_eq h]
  · obtain ⟨⟨e1, e2⟩, e3, e4⟩ := h; subst e3; rw [← e4, e1, e2]
  · exact h
theorem leM_eq : ∀ {x y : Mem}, leM x y → ∃ z, x = y ++ z
  | x, [], _ => ⟨x, rfl⟩
  | [], _ :: _, h => h.elim
  | _ :: _, _ :: _, h => by
    obtain ⟨z, e⟩ := leM_eq h.2
    exact ⟨z, by rw [leB_eq h.1, e]; rfl⟩
section
variable {P : Program} {X : List Nat} {W : World} {E : Env} {M : Mem} {a : Act} {tm : List AV} {o : Oper} {T : Tab P}
theorem leV_rep {x y : AV} {v : Value} (h : leV x y) (hr : RepV X W E M x v) : RepV X W E M y v := by
  rcases leV_eq h with rfl | rfl
  · trivial
  · exact hr
theorem leT_rep : ∀ {x y : List AV} {vs : List Value}, leT x y → RepT X W E M x vs → RepT X W E M y vs
  | [], [], _, _, hr => hr
  | [], _ :: _, _, h, _ => h.elim
  | _ :: _, [], _, h, _ => h.elim
  | _ :: _, _ :: _, _, h, ⟨v, r, e, h1, h2⟩ => ⟨v, r, e, leV_rep h.1 h1, leT_rep h.2 h2⟩
theorem boxAt_cut {n i q : Nat} {v : Value} (hi : i < n) (h : boxAt E i v q) : boxAt (E.take n) i v q := by
  obtain ⟨e, h1, h2⟩ := h
  exact ⟨e, by rw [List.getElem?_take, if_pos hi]; exact h1, h2⟩
theorem capsAt_cut {n : Nat} : ∀ {is : List Nat} {vs : List Value}, is.all (Nat.blt · n) = true → capsAt E is vs → capsAt (E.take n) is vs
  | [], _, _, h => h
  | _ :: _, _, ho, ⟨v, r, e, h1, h2⟩ => by
    rw [List.all_cons, Bool.and_eq_true] at ho
    exact ⟨v, r, e, boxAt_cut (Nat.le_of_ble_eq_true ho.1) h1, capsAt_cut ho.2 h2⟩
theorem foots_take (n : Nat) : ∀ b ∈ foots (E.take n), b ∈ foots E := fun b hb => by
  obtain ⟨e, h1, h2⟩ := mem_foots.1 hb
  exact mem_foots.2 ⟨e, List.mem_of_mem_take h1, h2⟩
theorem atRow_cut {n i v : Nat} {Q : EB → Prop} (hi : i < n) (h : atRow E M i v Q) : atRow (E.take n) (M.take n) i v Q := by
  unfold atRow at h ⊢
  rw [List.getElem?_take, if_pos hi, List.getElem?_take, if_pos hi]
  exact h
theorem lendQ_cut {n : Nat} {Q : List Nat → Prop} : ∀ {L : Lnd}, (∀ i v c, L = .at i v c → i < n) → lendQ X W E M L Q → lendQ X W (E.take n) (M.take n) L Q
  | .no, _, ⟨F, h1, h2⟩ => ⟨F, h1, fun b hb => ⟨⟨fun hm => (h2 b hb).1.1 (foots_take n b hm), (h2 b hb).1.2⟩, (h2 b hb).2⟩⟩
  | .at i v c, hi, h => by
    have hi := hi i v c rfl
    have h : lendAt E M i v c Q := h
    show lendAt (E.take n) (M.take n) i v c Q
    unfold lendAt at h ⊢
    rw [List.getElem?_take, if_pos hi, List.getElem?_take, if_pos hi]
    exact h
theorem inRow_cut {n i ver c n' k o : Nat} {u : Value} (hi : i < n) (h : inRow W E M i ver c n' k o u) : inRow W (E.take n) (M.take n) i ver c n' k o u := by
  obtain ⟨b, h1, h2⟩ := h
  exact ⟨b, atRow_cut hi h1, lendQ_cut (X := []) (W := W) (L := .at i ver c) (fun _ _ _ e => by injection e with e1 _ _; omega) h2⟩
theorem okC_rep {n : Nat} : ∀ {c : AC} {v : Value}, okC n c = true → RepC X W E M c v → RepC X W (E.take n) (M.take n) c v
  | .int _ _, _, _, h => h
  | .bool _, _, _, h => h
  | .str _, _, _, h => h
  | .opq _, _, _, h => h
  | .hs L t xs, v, ho, h => ⟨h.1, lendQ_cut (fun i v c e => by subst e; exact Nat.le_of_ble_eq_true ho) h.2⟩
  | .bp _ _, _, ho, h => boxAt_cut (Nat.le_of_ble_eq_true ho) h
  | .ep L t xs k o, v, ho, h => ⟨h.1, lendQ_cut (fun i v c e => by subst e; exact Nat.le_of_ble_eq_true ho) h.2⟩
  | .row i ver, v, ho, h => ⟨h.1, atRow_cut (Nat.le_of_ble_eq_true ho) h.2⟩
  | .rp i ver n k o, v, ho, h => ⟨h.1, atRow_cut (Nat.le_of_ble_eq_true ho) h.2⟩
  | .sl i ver c n k o, v, ho, h => ⟨h.1, inRow_cut (Nat.le_of_ble_eq_true ho) h.2⟩
  | .sp i ver c n k o m x q, v, ho, ⟨h0, b, l, cap, h1, h2⟩ => ⟨h0, b, l, cap, inRow_cut (Nat.le_of_ble_eq_true ho) h1, h2⟩
  | .tl i ver n k, v, ho, h => ⟨h.1, atRow_cut (Nat.le_of_ble_eq_true ho) h.2⟩
  | .mp i, v, ho, ⟨e, h1, h2⟩ => ⟨e, by rw [List.getElem?_take, if_pos (show i < n from Nat.le_of_ble_eq_true ho)]; exact h1, h2⟩
  | .fn f caps, v, ho, ⟨vs, e, h⟩ => ⟨vs, e, capsAt_cut ho h⟩
  | .raw _, _, _, h => h
  | .junk, _, _, h => h
theorem okL_rep {n : Nat} : ∀ {l : List AC} {vs : List Value}, l.all (okC n) = true → RepL X W E M l vs → RepL X W (E.take n) (M.take n) l vs
  | [], _, _, h => h
  | _ :: _, _, ho, ⟨v, r, e, h1, h2⟩ => by
    rw [List.all_cons, Bool.and_eq_true] at ho
    exact ⟨v, r, e, okC_rep ho.1 h1, okL_rep ho.2 h2⟩
theorem okW_rep {n : Nat} : ∀ {x : AW} {v : Value}, okW n x = true → RepW X W E M x v → RepW X W (E.take n) (M.take n) x v
  | .c _, _, ho, h => okC_rep ho h
  | .ag _, _, ho, ⟨cs, e, h⟩ => ⟨cs, e, okL_rep ho h⟩
theorem okWs_rep {n : Nat} : ∀ {l : List AW} {vs : List Value}, l.all (okW n) = true → RepWs X W E M l vs → RepWs X W (E.take n) (M.take n) l vs
  | [], _, _, h => h
  | _ :: _, _, ho, ⟨v, r, e, h1, h2⟩ => by
    rw [List.all_cons, Bool.and_eq_true] at ho
    exact ⟨v, r, e, okW_rep ho.1 h1, okWs_rep ho.2 h2⟩
theorem okV_rep {n : Nat} : ∀ {x : AV} {v : Value}, okV n x = true → RepV X W E M x v → RepV X W (E.take n) (M.take n) x v
  | .w _, _, ho, h => okW_rep ho h
  | .tp _, _, ho, ⟨vs, e, h⟩ => ⟨vs, e, okWs_rep ho h⟩
  | .any, _, _, _ => trivial
theorem okT_rep {n : Nat} : ∀ {l : List AV} {vs : List Value}, l.all (okV n) = true → RepT X W E M l vs → RepT X W (E.take n) (M.take n) l vs
  | [], _, _, h => h
  | _ :: _, _, ho, ⟨v, r, e, h1, h2⟩ => by
    rw [List.all_cons, Bool.and_eq_true] at ho
    exact ⟨v, r, e, okV_rep ho.1 h1, okT_rep ho.2 h2⟩
theorem repM_cut {M N : Mem} (hM : RepM X W E (M ++ N)) (ho : M.all (okB M.length) = true) : RepM X W (E.take M.length) M := by
  have hl := hM.len
  rw [List.length_append] at hl
  refine ⟨by simp; omega, ?_, fun i b e hb he => ?_, fun b hb => hM.lt b (foots_take _ b hb), fun b hb hf => hM.xlt b hb (foots_take _ b hf), hM.xsz⟩
  · have hn := hM.nodup
    rw [← List.take_append_drop M.length E, foots_append, List.nodup_append] at hn
    exact hn.1
  · have hi : i < M.length := (List.getElem?_eq_some_iff.1 hb).1
    rw [List.getElem?_take, if_pos hi] at he
    have h := hM.at_ i b e (by rw [List.getElem?_append_left hi]; exact hb) he
    have hob := List.all_eq_true.1 ho b (List.mem_of_getElem? hb)
    cases b with
    | box l =>
      obtain ⟨q1, cs, T, q2, q3⟩ := h
      have := okL_rep (n := M.length) hob q3
      rw [List.take_left] at this
      exact ⟨q1, cs, T, q2, this⟩
    | row t xs v c hh =>
      cases hh with
      | none => exact h
      | some _ => cases hob
    | mp _ => exact h
    | dead => exact h
theorem RepA.le {n0 : Nat} {inp : List Nat} {tm0 : List AV} {M0 : Mem} {h : List AV × Mem} (hr : RepA X tm M a W E) (hle : leS n0 inp tm0 M0 tm M h) : RepA X h.1 h.2 a W (E.take h.2.length) := by
  obtain ⟨h1, h2, h3⟩ := hle
  rw [Bool.and_eq_true] at h3
  replace h3 := h3.1
  rw [Bool.and_eq_true] at h3
  obtain ⟨z, e⟩ := leM_eq h2
  subst e
  refine ⟨repM_cut hr.mem h3.2, ?_, hr.dfr⟩
  have := okT_rep h3.1 (leT_rep h1 hr.tmps)
  rwa [List.take_left] at this
theorem grow_take {W0 : World} {E0 : Env} {n : Nat} (hn : E0.length ≤ n) (hg : Grow W0 E0 W E) : Grow W0 E0 W (E.take n) := ⟨hg.os, hg.tape, hg.output, hg.size, hg.keep, fun b hb => hg.new b (foots_take n b hb), fun i e h => by
  obtain ⟨e', h1, h2⟩ := hg.blk i e h
  exact ⟨e', by rw [List.getElem?_take, if_pos (Nat.lt_of_lt_of_le (List.getElem?_eq_some_iff.1 h).1 hn)]; exact h1, h2⟩⟩
theorem grow_drew (hM : RepM X W E M) : Grow W E W.drew E := ⟨rfl, rfl, rfl, Nat.le_refl _, fun _ _ _ => rfl, fun _ h => .inl h, fun _ e h => ⟨e, h, rfl⟩⟩
theorem memOk_drew (hM : RepM X W E M) : MemOk W E M W.drew E M := by
  have := memOk_append (W := W) (W' := W.drew) (grow_drew hM) hM (fun _ _ => rfl) [] []
  rwa [List.append_nil, List.append_nil] at this
theorem RepA.drew (hr : RepA X tm M a W E) : RepA X tm M a W.drew E := by
  have g := grow_drew hr.mem
  have m := memOk_drew hr.mem
  refine ⟨⟨hr.mem.len, hr.mem.nodup, fun i b e hb he => (hr.mem.at_ i b e hb he).keep g m hr.mem.len (fun _ _ => rfl), hr.mem.lt, hr.mem.xlt, hr.mem.xsz⟩, hr.tmps.mono g m hr.mem.len, hr.dfr⟩
/-- versions set back -/
theorem map_get (i : Nat) : (M.map (backB M))[i]? = (M[i]?).map (backB M) := List.getElem?_map
theorem backAt {i v : Nat} {r : RowC} (h : rowAt M i v = some r) : (M.map (backB M))[i]? = some (.row r.t r.xs 0 0 none) := by
  rw [map_get, rowAt_eq h]
  rfl
theorem liveAt_eq {i v c : Nat} (h : liveAt M i v c = true) : ∃ (t : Ty) (xs : List t.den), M[i]? = some (.row t xs v c none) := by
  unfold liveAt at h
  split at h
  · rename_i t xs cv cc hM
    rw [Bool.and_eq_true] at h
    obtain rfl := Nat.eq_of_beq_eq_true h.1
    obtain rfl := Nat.eq_of_beq_eq_true h.2
    exact ⟨t, xs, hM⟩
  · cases h
theorem atRow_back {i v : Nat} {Q : EB → Prop} {r : RowC} (hr : rowAt M i v = some r) (h : atRow E M i v Q) : atRow E (M.map (backB M)) i 0 Q := by
  unfold atRow at h ⊢
  rw [rowAt_eq hr] at h
  rw [backAt hr]
  exact ⟨Nat.le_refl _, fun _ => h.2 rfl⟩
theorem lendAt_back {i v c : Nat} {Q : List Nat → Prop} (hl : liveAt M i v c = true) (h : lendAt E M i v c Q) : lendAt E (M.map (backB M)) i 0 0 Q := by
  obtain ⟨t, xs, hM⟩ := liveAt_eq hl
  unfold lendAt at h ⊢
  rw [hM] at h
  rw [map_get, hM]
  exact ⟨Nat.le_refl _, fun _ => ⟨Nat.le_refl _, fun _ => (h.2 rfl).2 rfl⟩⟩
theorem inRow_back {i ver c n k o : Nat} {u : Value} (hl : liveAt M i ver c = true) (h : inRow W E M i ver c n k o u) : inRow W E (M.map (backB M)) i 0 0 n k o u := by
  obtain ⟨b, h1, h2⟩ := h
  obtain ⟨t, xs, hM⟩ := liveAt_eq hl
  refine ⟨b, atRow_back (r := ⟨t, xs, c⟩) ?_ h1, lendAt_back hl h2⟩
  unfold rowAt
  rw [hM]
  simp
theorem backC_rep : ∀ {c : AC} {v : Value}, RepC X W E M c v → RepC X W E (M.map (backB M)) (backC M c) v
  | .int _ _, _, h => h
  | .bool _, _, h => h
  | .str _, _, h => h
  | .opq _, _, h => h
  | .hs .no t xs, v, h => h
  | .hs (.at i u c) t xs, v, h => by
    show RepC X W E _ (bif liveAt M i u c then _ else _) v
    cases hl : liveAt M i u c with
    | false => exact h.1
    | true => exact ⟨h.1, lendAt_back hl h.2⟩
  | .bp _ _, _, h => h
  | .ep .no t xs k o, v, h => h
  | .ep (.at i u c) t xs k o, v, h => by
    show RepC X W E _ (bif liveAt M i u c then _ else _) v
    cases hl : liveAt M i u c with
    | false => exact h.1
    | true => exact ⟨h.1, lendAt_back hl h.2⟩
  | .row i ver, v, h => by
    show RepC X W E _ (bif (rowAt M i ver).isSome then _ else _) v
    cases hl : rowAt M i ver with
    | none => exact h.1
    | some r => exact ⟨h.1, atRow_back hl h.2⟩
  | .sl i ver c n k o, v, h => by
    show RepC X W E _ (bif liveAt M i ver c then _ else _) v
    cases hl : liveAt M i ver c with
    | false => exact h.1
    | true => exact ⟨h.1, inRow_back hl h.2⟩
  | .sp i ver c n k o m x q, v, ⟨h0, b, l, cap, h1, h2⟩ => by
    show RepC X W E _ (bif liveAt M i ver c then _ else _) v
    cases hl : liveAt M i ver c with
    | false => exact h0
    | true => exact ⟨h0, b, l, cap, inRow_back hl h1, h2⟩
  | .rp i ver n k o, v, h => by
    show RepC X W E _ (bif (rowAt M i ver).isSome then _ else _) v
    cases hl : rowAt M i ver with
    | none => exact h.1
    | some r => exact ⟨h.1, atRow_back hl h.2⟩
  | .tl i ver n k, v, h => h.1
  | .mp _, _, h => h
  | .fn f caps, v, h => h
  | .raw _, _, h => h
  | .junk, _, h => h
theorem backL_rep : ∀ {l : List AC} {vs : List Value}, RepL X W E M l vs → RepL X W E (M.map (backB M)) (l.map (backC M)) vs
  | [], _, h => h
  | _ :: _, _, ⟨v, r, e, h1, h2⟩ => ⟨v, r, e, backC_rep h1, backL_rep h2⟩
theorem backW_rep : ∀ {x : AW} {v : Value}, RepW X W E M x v → RepW X W E (M.map (backB M)) (backW M x) v
  | .c _, _, h => backC_rep h
  | .ag _, _, ⟨cs, e, h⟩ => ⟨cs, e, backL_rep h⟩
theorem backWs_rep : ∀ {l : List AW} {vs : List Value}, RepWs X W E M l vs → RepWs X W E (M.map (backB M)) (l.map (backW M)) vs
  | [], _, h => h
  | _ :: _, _, ⟨v, r, e, h1, h2⟩ => ⟨v, r, e, backW_rep h1, backWs_rep h2⟩
theorem backV_rep : ∀ {x : AV} {v : Value}, RepV X W E M x v → RepV X W E (M.map (backB M)) (backV M x) v
  | .w _, _, h => backW_rep h
  | .tp _, _, ⟨vs, e, h⟩ => ⟨vs, e, backWs_rep h⟩
  | .any, _, _ => trivial
theorem backT_rep : ∀ {l : List AV} {vs : List Value}, RepT X W E M l vs → RepT X W E (M.map (backB M)) (l.map (backV M)) vs
  | [], _, h => h
  | _ :: _, _, ⟨v, r, e, h1, h2⟩ => ⟨v, r, e, backV_rep h1, backT_rep h2⟩
theorem RepA.back (hr : RepA X tm M a W E) (hno : noHoles M = true) : RepA X (tm.map (backV M)) (M.map (backB M)) a W E := by
  refine ⟨⟨by rw [List.length_map]; exact hr.mem.len, hr.mem.nodup, fun i b e hb he => ?_, hr.mem.lt, hr.mem.xlt, hr.mem.xsz⟩, backT_rep hr.tmps, hr.dfr⟩
  rw [map_get] at hb
  cases hM : M[i]? with
  | none => rw [hM] at hb; cases hb
  | some b' =>
    rw [hM] at hb
    obtain rfl : backB M b' = b := by simpa using hb
    have h := hr.mem.at_ i b' e hM he
    cases b' with
    | box l =>
      obtain ⟨q1, cs, T, q2, q3⟩ := h
      exact ⟨q1, cs, T, q2, backL_rep q3⟩
    | row t xs v c hh =>
      cases hh with
      | none => exact h
      | some _ => have := List.all_eq_true.1 hno _ (List.mem_of_getElem? hM); cases this
    | mp _ => exact h
    | dead => exact h
theorem RepT.put : ∀ {l : List AV} {vs : List Value} (j : Nat) {x : AV}, RepT X W E M l vs → (∀ v, vs[j]? = some v → RepV X W E M x v) → RepT X W E M (l.set j x) vs
  | [], _, _, _, h, _ => h
  | _ :: _, _, 0, _, ⟨v, r, e, h1, h2⟩, h => ⟨v, r, e, h v (by rw [e]; rfl), h2⟩
  | _ :: _, _, j + 1, _, ⟨v, r, e, h1, h2⟩, h => ⟨v, r, e, h1, RepT.put j h2 (fun u hu => h u (by rw [e]; simpa using hu))⟩
theorem RepL.put : ∀ {l : List AC} {vs : List Value} (j : Nat) {x : AC}, RepL X W E M l vs → (∀ v, vs[j]? = some v → RepC X W E M x v) → RepL X W E M (l.set j x) vs
  | [], _, _, _, h, _ => h
  | _ :: _, _, 0, _, ⟨v, r, e, h1, h2⟩, h => ⟨v, r, e, h v (by rw [e]; rfl), h2⟩
  | _ :: _, _, j + 1, _, ⟨v, r, e, h1, h2⟩, h => ⟨v, r, e, h1, RepL.put j h2 (fun u hu => h u (by rw [e]; simpa using hu))⟩
/-- one more row, empty -/
theorem RepA.nilrow (hr : RepA X tm M a W E) (t : Ty) : ∃ E', Grow W E W E' ∧ MemOk W E M W E' (M ++ [.row t [] 0 0 none]) ∧ RepA X tm (M ++ [.row t [] 0 0 none]) a W E' ∧ RepC X W E' (M ++ [.row t [] 0 0 none]) (.row M.length 0) (.slice none 0 0) := by
  obtain ⟨E', g, m, rm, rc⟩ := rows_new (W' := W) (js := []) (t := t) (ys := []) (v := .slice none 0 0) (T := 0) (cells := []) (own := []) (G := []) hr.mem rfl (by simp) ⟨rfl, rfl, rfl, Nat.le_refl _, fun _ _ _ => rfl⟩ (World.ownsRow_nil W 0 0 t.n) ⟨rfl, rfl⟩ rfl (.inl rfl)
  exact ⟨E', g, m, ⟨rm, hr.tmps.mono g m hr.mem.len, hr.dfr⟩, rc⟩
theorem RepA.boxput {b i : Nat} {l : List AC} {x : AC} {v : Value} (hr : RepA X tm M a W E) (hb : M[b]? = some (.box l)) (hl : l[i]? = some (.raw v)) (hx : RepC X W E M x v) : MemOk W E M W E (M.set b (.box (l.set i x))) ∧ RepA X tm (M.set b (.box (l.set i x))) a W E := by
  have hbl := (List.getElem?_eq_some_iff.1 hb).1
  have m : MemOk W E M W E (M.set b (.box (l.set i x))) := fun j => by
    by_cases hj : b = j
    · subst hj; rw [hb]; trivial
    · rw [List.getElem?_set_ne hj]
      exact MemOk.refl W E M j
  have g := Grow.refl W E
  refine ⟨m, ⟨by simp [hr.mem.len], hr.mem.nodup, fun j b' e hb' he => ?_, hr.mem.lt, hr.mem.xlt, hr.mem.xsz⟩, hr.tmps.mono g m hr.mem.len, hr.dfr⟩
  by_cases hj : b = j
  · subst hj
    rw [List.getElem?_set_self hbl] at hb'
    obtain rfl := Option.some.inj hb'
    obtain ⟨q1, cs, T, q2, q3⟩ := hr.mem.at_ _ _ e hb he
    refine ⟨q1, cs, T, q2, RepL.mono g m hr.mem.len (RepL.put i q3 (fun u hu => ?_))⟩
    obtain ⟨w, h1, h2⟩ := q3.get hl
    obtain rfl : w = u := Option.some.inj (h1.symm.trans hu)
    rw [h2.1]
    exact hx
  · rw [List.getElem?_set_ne hj] at hb'
    exact (hr.mem.at_ j b' e hb' he).keep g m hr.mem.len (fun _ _ => rfl)
theorem pro1_rep (hr : RepA X tm M a W E) (p : Pro) : ∃ E', Grow W E W E' ∧ MemOk W E M W E' (pro1 tm M p).2 ∧ RepA X (pro1 tm M p).1 (pro1 tm M p).2 a W E' := by
  obtain ⟨b, i, t⟩ := p
  cases b with
  | none =>
    show ∃ E', Grow W E W E' ∧ MemOk W E M W E' (bif isNilV (tm.getD i .any) then (tm.set i (AV.c (AC.row M.length 0)), M ++ [Blk.row t [] 0 0 none]) else (tm, M)).2 ∧ RepA X (bif isNilV (tm.getD i .any) then (tm.set i (AV.c (AC.row M.length 0)), M ++ [Blk.row t [] 0 0 none]) else (tm, M)).1 (bif isNilV (tm.getD i .any) then (tm.set i (AV.c (AC.row M.length 0)), M ++ [Blk.row t [] 0 0 none]) else (tm, M)).2 a W E'
    cases hn : isNilV (tm.getD i .any) with
    | false => exact ⟨E, Grow.refl W E, MemOk.refl W E M, hr⟩
    | true =>
      obtain ⟨E', g, m, r, rc⟩ := hr.nilrow t
      refine ⟨E', g, m, ⟨r.mem, RepT.put i r.tmps (fun u hu => ?_), r.dfr⟩⟩
      have e := isNilV_eq hn
      rw [List.getD_eq_getElem?_getD] at e
      cases hq : tm[i]? with
      | none => rw [hq] at e; cases e
      | some x =>
        rw [hq] at e
        obtain rfl : x = _ := e
        obtain ⟨w, h1, h2⟩ := hr.tmps.get hq
        obtain rfl : w = u := Option.some.inj (h1.symm.trans hu)
        have h2 : RepC X W E M (.raw (.slice none 0 0)) w := h2
        rw [h2.1]
        exact rc
  | some b =>
    show ∃ E', Grow W E W E' ∧ MemOk W E M W E' (match M[b]? with | some (.box l) => bif isNilC (l.getD i .junk) then (tm, M.set b (Blk.box (l.set i (AC.row M.length 0))) ++ [Blk.row t [] 0 0 none]) else (tm, M) | _ => (tm, M)).2 ∧ RepA X (match M[b]? with | some (.box l) => bif isNilC (l.getD i .junk) then (tm, M.set b (Blk.box (l.set i (AC.row M.length 0))) ++ [Blk.row t [] 0 0 none]) else (tm, M) | _ => (tm, M)).1
      (match M[b]? with | some (.box l) => bif isNilC (l.getD i .junk) then (tm, M.set b (Blk.box (l.set i (AC.row M.length 0))) ++ [Blk.row t [] 0 0 none]) else (tm, M) | _ => (tm, M)).2 a W E'
    split
    · rename_i l hb
      cases hn : isNilC (l.getD i .junk) with
      | false => exact ⟨E, Grow.refl W E, MemOk.refl W E M, hr⟩
      | true =>
        obtain ⟨E', g, m, r, rc⟩ := hr.nilrow t
        have e := isNilC_eq hn
        have hl : l[i]? = some (.raw (.slice none 0 0)) := by
          rw [List.getD_eq_getElem?_getD] at e
          cases hq : l[i]? with
          | none => rw [hq] at e; cases e
          | some x => rw [hq] at e; exact congrArg some e
        have hbl := (List.getElem?_eq_some_iff.1 hb).1
        obtain ⟨m2, r2⟩ := r.boxput (b := b) (i := i) (l := l) (by rw [List.getElem?_append_left hbl]; exact hb) hl rc
        rw [List.set_append_left _ _ hbl] at r2 m2
        exact ⟨E', g, m.trans m2, r2⟩
    · exact ⟨E, Grow.refl W E, MemOk.refl W E M, hr⟩
theorem proA_rep : ∀ (ps : List Pro) {tm : List AV} {M : Mem} {E : Env}, RepA X tm M a W E → ∃ E', Grow W E W E' ∧ MemOk W E M W E' (proA tm M ps).2 ∧ RepA X (proA tm M ps).1 (proA tm M ps).2 a W E'
  | [], _, M, E, hr => ⟨E, Grow.refl W E, MemOk.refl W E M, hr⟩
  | p :: ps, tm, M, E, hr => by
    obtain ⟨E1, g1, m1, r1⟩ := pro1_rep hr p
    obtain ⟨E2, g2, m2, r2⟩ := proA_rep ps r1
    exact ⟨E2, g1.trans g2, m1.trans m2, r2⟩
theorem RepA.boxput2 {b i : Nat} {l : List AC} {x : AC} (hr : RepA X tm M a W E) (hb : M[b]? = some (.box l)) (hx : ∀ e cs T, E[b]? = some e → W.heap[e.blk]? = some (.cells cs T (0, 0)) → ∀ u, cs.toList[i]? = some u → RepC X W E M x u) : MemOk W E M W E (M.set b (.box (l.set i x))) ∧ RepA X tm (M.set b (.box (l.set i x))) a W E := by
  have hbl := (List.getElem?_eq_some_iff.1 hb).1
  have m : MemOk W E M W E (M.set b (.box (l.set i x))) := fun j => by
    by_cases hj : b = j
    · subst hj; rw [hb]; trivial
    · rw [List.getElem?_set_ne hj]
      exact MemOk.refl W E M j
  have g := Grow.refl W E
  refine ⟨m, ⟨by simp [hr.mem.len], hr.mem.nodup, fun j b' e hb' he => ?_, hr.mem.lt, hr.mem.xlt, hr.mem.xsz⟩, hr.tmps.mono g m hr.mem.len, hr.dfr⟩
  by_cases hj : b = j
  · subst hj
    rw [List.getElem?_set_self hbl] at hb'
    obtain rfl := Option.some.inj hb'
    obtain ⟨q1, cs, T, q2, q3⟩ := hr.mem.at_ _ _ e hb he
    exact ⟨q1, cs, T, q2, RepL.mono g m hr.mem.len (RepL.put i q3 (hx e cs T he q2))⟩
  · rw [List.getElem?_set_ne hj] at hb'
    exact (hr.mem.at_ j b' e hb' he).keep g m hr.mem.len (fun _ _ => rfl)
theorem steal1_rep (hr : RepA X tm M a W E) (b c k : Nat) : ∃ E', Grow W E W E' ∧ MemOk W E M W E' (steal1 M b c k) ∧ RepA X tm (steal1 M b c k) a W E' := by
  have stay : ∃ E', Grow W E W E' ∧ MemOk W E M W E' M ∧ RepA X tm M a W E' := ⟨E, Grow.refl W E, MemOk.refl W E M, hr⟩
  unfold steal1
  split
  · rename_i l hb
    split
    · rename_i j v hc
      cases hjk : Nat.beq j k with
      | true => exact stay
      | false =>
        simp only [cond_false]
        split
        · rename_i t ys vj cj t' xs vk ck hj hk
          cases hv : Nat.beq v vj with
          | false => exact stay
          | true =>
            simp only [cond_true]
            split
            · rename_i ht
              subst ht
              obtain rfl := Nat.eq_of_beq_eq_true hv
              have hne : j ≠ k := fun e => by rw [e, Nat.beq_refl] at hjk; cases hjk
              obtain ⟨E', g, m, rm, rc⟩ := rows_steal hr.mem hk hj hne
              have hbj : b ≠ j := fun e => by rw [e, hj] at hb; cases hb
              have hbk : b ≠ k := fun e => by rw [e, hk] at hb; cases hb
              have hb' : ((killM M [j]).set k (.row t' ys (vk + 1) (ck + 1) none))[b]? = some (.box l) := by
                rw [List.getElem?_set_ne (Ne.symm hbk), killM_other (fun q hq e => hbj (by rw [← List.mem_singleton.1 hq]; exact e.symm))]
                exact hb
              obtain ⟨m2, r2⟩ := RepA.boxput2 (X := X) (tm := tm) (a := a) (i := c) (x := .row k (vk + 1)) ⟨rm, hr.tmps.mono g m hr.mem.len, hr.dfr⟩ hb' (fun e cs T he hcs u hu => by
                have hble : b < E.length := by rw [← hr.mem.len]; exact (List.getElem?_eq_some_iff.1 hb).1
                obtain ⟨e0, he0⟩ : ∃ e0, E[b]? = some e0 := ⟨_, List.getElem?_eq_getElem hble⟩
                obtain ⟨e', h1, h2⟩ := g.blk b e0 he0
                obtain rfl := Option.some.inj (h1.symm.trans he)
                obtain ⟨_, cs0, T0, q2, q3⟩ := hr.mem.at_ _ _ e0 hb he0
                rw [h2] at hcs
                have hcc := Option.some.inj (q2.symm.trans hcs)
                injection hcc with hcc
                subst hcc
                obtain ⟨w, w1, w2⟩ := q3.get hc
                obtain rfl := Option.some.inj (w1.symm.trans hu)
                have h3 := (w2 : RepC X W E M (.row j v) w).2
                unfold atRow at h3
                rw [hj] at h3
                obtain ⟨ej, p1, p2⟩ := h3.2 rfl
                rw [p2]
                exact rc ej p1)
              exact ⟨E', g, m.trans m2, r2⟩
            · exact stay
        · exact stay
    · exact stay
  · exact stay
theorem stealL_rep (b : Nat) : ∀ (l : List AC) (c : Nat) {M : Mem} {E : Env}, RepA X tm M a W E → ∃ E', Grow W E W E' ∧ MemOk W E M W E' (stealL M b c l) ∧ RepA X tm (stealL M b c l) a W E'
  | [], _, M, E, hr => ⟨E, Grow.refl W E, MemOk.refl W E M, hr⟩
  | x :: l, c, M, E, hr => by
    cases x with
    | row k _ =>
      obtain ⟨E1, g1, m1, r1⟩ := steal1_rep hr b c k
      obtain ⟨E2, g2, m2, r2⟩ := stealL_rep b l (c + 1) r1
      exact ⟨E2, g1.trans g2, m1.trans m2, r2⟩
    | _ => exact stealL_rep b l (c + 1) hr
theorem stealA_rep : ∀ (b : Nat) (h : Mem) {M : Mem} {E : Env}, RepA X tm M a W E → ∃ E', Grow W E W E' ∧ MemOk W E M W E' (stealA M b h) ∧ RepA X tm (stealA M b h) a W E'
  | _, [], M, E, hr => ⟨E, Grow.refl W E, MemOk.refl W E M, hr⟩
  | b, x :: h, M, E, hr => by
    cases x with
    | box l =>
      obtain ⟨E1, g1, m1, r1⟩ := stealL_rep b l 0 hr
      obtain ⟨E2, g2, m2, r2⟩ := stealA_rep (b + 1) h r1
      exact ⟨E2, g1.trans g2, m1.trans m2, r2⟩
    | _ => exact stealA_rep (b + 1) h hr
theorem repT_put : ∀ {l : List AV} {vs : List Value} (i : Nat) {x : AV}, RepT X W E M l vs → (∀ u, vs[i]? = some u → RepV X W E M x u) → RepT X W E M (l.set i x) vs
  | [], _, _, _, h, _ => h
  | _ :: _, _, 0, _, ⟨v, r, e, _, h2⟩, hx => ⟨v, r, e, hx v (by rw [e]; rfl), h2⟩
  | _ :: _, _, i + 1, _, ⟨v, r, e, h1, h2⟩, hx => ⟨v, r, e, h1, repT_put i h2 (fun u hu => hx u (by rw [e]; simpa using hu))⟩
theorem steal1T_rep {q : List AV × Mem} (hr : RepA X q.1 q.2 a W E) (i k : Nat) : ∃ E', Grow W E W E' ∧ MemOk W E q.2 W E' (steal1T q i k).2 ∧ RepA X (steal1T q i k).1 (steal1T q i k).2 a W E' := by
  have stay : ∃ E', Grow W E W E' ∧ MemOk W E q.2 W E' q.2 ∧ RepA X q.1 q.2 a W E' := ⟨E, Grow.refl W E, MemOk.refl W E q.2, hr⟩
  unfold steal1T
  split
  · rename_i j v hc
    cases hjk : Nat.beq j k with
    | true => exact stay
    | false =>
      simp only [cond_false]
      split
      · rename_i t ys vj cj t' xs vk ck hj hk
        cases hv : Nat.beq v vj with
        | false => exact stay
        | true =>
          simp only [cond_true]
          split
          · rename_i ht
            subst ht
            obtain rfl := Nat.eq_of_beq_eq_true hv
            have hne : j ≠ k := fun e => by rw [e, Nat.beq_refl] at hjk; cases hjk
            obtain ⟨E', g, m, rm, rc⟩ := rows_steal hr.mem hk hj hne
            refine ⟨E', g, m, rm, repT_put i (hr.tmps.mono g m hr.mem.len) (fun u hu => ?_), hr.dfr⟩
            obtain ⟨w, w1, w2⟩ := hr.tmps.get hc
            obtain rfl := Option.some.inj (w1.symm.trans hu)
            have h3 := (w2 : RepC X W E q.2 (.row j v) w).2
            unfold atRow at h3
            rw [hj] at h3
            obtain ⟨ej, p1, p2⟩ := h3.2 rfl
            rw [p2]
            exact rc ej p1
          · exact stay
      · exact stay
  · exact stay
theorem stealT_rep : ∀ (h : List AV) (i : Nat) {q : List AV × Mem} {E : Env}, RepA X q.1 q.2 a W E → ∃ E', Grow W E W E' ∧ MemOk W E q.2 W E' (stealT q i h).2 ∧ RepA X (stealT q i h).1 (stealT q i h).2 a W E'
  | [], _, q, E, hr => ⟨E, Grow.refl W E, MemOk.refl W E q.2, hr⟩
  | x :: h, i, q, E, hr => by
    cases x with
    | w z =>
      cases z with
      | c c0 =>
        cases c0 with
        | row k ver =>
          obtain ⟨E1, g1, m1, r1⟩ := steal1T_rep hr i k
          obtain ⟨E2, g2, m2, r2⟩ := stealT_rep h (i + 1) r1
          exact ⟨E2, g1.trans g2, m1.trans m2, r2⟩
        | _ => exact stealT_rep h (i + 1) hr
      | ag l => exact stealT_rep h (i + 1) hr
    | tp l => exact stealT_rep h (i + 1) hr
    | any => exact stealT_rep h (i + 1) hr
/-- at a loop's head -/
theorem leS_no {n0 : Nat} {inp : List Nat} {tm0 tm' : List AV} {M0 M' : Mem} {h : List AV × Mem} (hle : leS n0 inp tm0 M0 tm' M' h) : noHoles M0 = true := by
  obtain ⟨_, _, h3⟩ := hle
  simp only [Bool.and_eq_true] at h3
  exact h3.2.2.2
theorem Since.head {W0 : World} {E0 : Env} {tm' : List AV} {h : List AV × Mem} (hT : TabOk X W0 E0 T) (hs : Since T W0 E0 W E M) (hle : leS T.n0 T.inp tm M tm' (M.map (backB M)) h) : Since T W0 E0 W (E.take h.2.length) h.2 := by
  obtain ⟨h1, h2, h3⟩ := hle
  rw [Bool.and_eq_true, Bool.and_eq_true (a := Nat.ble _ _)] at h3
  obtain ⟨_, hn, hi⟩ := h3
  rw [Bool.and_eq_true] at hi
  replace hi := hi.1
  have hn := Nat.le_of_ble_eq_true hn
  rw [hT.2.1] at hn
  refine ⟨grow_take hn hs.g, fun i hii => ?_⟩
  obtain ⟨z, e⟩ := leM_eq h2
  have hlt : i < h.2.length := Nat.lt_of_lt_of_le (hT.2.2.1 i hii) hn
  have e1 : h.2[i]? = (M.map (backB M))[i]? := by rw [e, List.getElem?_append_left hlt]
  have hv := List.all_eq_true.1 hi i hii
  rcases hs.kept i hii with hd | ⟨t, xs, v, c, hh, k1, k2⟩
  · rw [hd] at hv; cases hv
  · rw [k1] at hv
    cases hh with
    | some _ => cases hv
    | none =>
    obtain rfl := Nat.eq_of_beq_eq_true (show Nat.beq v 0 = true from hv)
    refine .inr ⟨t, xs, 0, 0, none, by rw [e1, map_get, k1]; rfl, fun _ e0 he0 => ?_⟩
    obtain ⟨e', q1, q2⟩ := k2 rfl e0 he0
    exact ⟨e', by rw [List.getElem?_take, if_pos hlt]; exact q1, q2⟩
theorem vcCode_sound {L : Nat → List AV → Mem → LoopA} {W0 : World} {E0 : Env} (hT : TabOk X W0 E0 T) : ∀ (c : Code) (tm : List AV) (M : Mem) (a : Act) (W : World) (E : Env) (K : Exit → List AV → Mem → Prop) (Q : Exit → Act → World → Prop),
    (∀ e tm M a W E, K e tm M → RepA X tm M a W E → Since T W0 E0 W E M → Q e a W) → vcCode T L c tm M K → RepA X tm M a W E → Since T W0 E0 W E M → c.wp P Q a W := by
  intro c
  induction c with
  | skip => intro tm M a W E K Q hS h hr hg; exact wp_skip (hS _ _ _ _ _ _ h hr hg)
  | label l => intro tm M a W E K Q hS h hr hg; exact wp_label (hS _ _ _ _ _ _ h hr hg)
  | exit id => intro tm M a W E K Q hS h hr hg; exact wp_exit (hS _ _ _ _ _ _ h hr hg)
  | ret => intro tm M a W E K Q hS h hr hg; exact wp_ret (hS _ _ _ _ _ _ h hr hg)
  | region id ops draw =>
    intro tm M a W E K Q hS h0 hr hg
    have h : bif draw then (P.follows .mixedOrders = true ∧ okA T ops (schedA T ops ops.size (Array.replicate ops.size false)) false (Array.replicate ops.size false) = true) ∧ vcOpsD T ops (schedA T ops ops.size (Array.replicate ops.size false)) tm M (fun tm M => K .normal tm M) else vcOps T ops.toList ops.toList tm M (fun tm M => K .normal tm M) := by
      have h0 : bif ops.toList.any isPanic then False else (bif draw then (P.follows .mixedOrders = true ∧ okA T ops (schedA T ops ops.size (Array.replicate ops.size false)) false (Array.replicate ops.size false) = true) ∧ vcOpsD T ops (schedA T ops ops.size (Array.replicate ops.size false)) tm M (fun tm M => K .normal tm M) else vcOps T ops.toList ops.toList tm M (fun tm M => K .normal tm M)) := h0
      cases hp : ops.toList.any isPanic with
      | true => rw [hp] at h0; exact h0.elim
      | false => rw [hp] at h0; exact h0
    cases draw with
    | false =>
      exact wp_region_list (vcOps_sound hT (K := fun tm M => K .normal tm M) (fun tm M a W E hk hr hg => hS _ _ _ _ _ _ hk hr hg) ops.toList tm M a W E h hr hg)
    | true =>
      obtain ⟨⟨hm, hB⟩, h⟩ := (h : (P.follows .mixedOrders = true ∧ okA T ops (schedA T ops ops.size (Array.replicate ops.size false)) false (Array.replicate ops.size false) = true) ∧ vcOpsD T ops (schedA T ops ops.size (Array.replicate ops.size false)) tm M (fun tm M => K .normal tm M))
      have := anyA_fuel _ ops.size _ _ _ ((vcOpsD_any (T := T) (ops := ops) _ _ tm M (closed_none ops.size) h).1 hB) (schedA_len _ _)
      exact wp_region_any hm (any_of_A (T := T) (X := X) (W0 := W0) hT (fun tm M a W E hk hr hg => hS _ _ _ _ _ _ hk hr hg) _ _ tm M a _ E hr.drew (hg.step (grow_drew hr.mem) (memOk_drew hr.mem)) this)
  | seq x y ihx ihy =>
    intro tm M a W E K Q hS h hr hg
    refine wp_seq (ihx tm M a W E _ _ (fun e tm M a W E hk hr hg => ?_) h hr hg)
    cases e with
    | normal => exact ihy tm M a W E K Q hS hk hr hg
    | _ => exact hS _ _ _ _ _ _ hk hr hg
  | cond c x y ihx ihy =>
    intro tm M a W E K Q hS h hr hg
    unfold vcCode at h
    cases c with
    | tmp t =>
      simp only at h
      split at h
      · rename_i g hq
        have hl := hr.lit hq
        have he := evalA_rep hr.tmps (.tmp t)
        have he' : a.eval (.tmp t) = .bool g := by
          have : evalA tm (.tmp t) = .w (.c (.bool g)) := hq
          rw [this] at he
          exact he
        cases g with
        | true => exact wp_cond_true he' (ihx _ M a W E K Q hS h hl hg)
        | false => exact wp_cond_false he' (ihy _ M a W E K Q hS h hl hg)
      · exact h.elim
    | const v =>
      split at h
      · rename_i t hq; cases hq
      · rename_i g hq
        obtain rfl : v = .bool g := by injection hq
        cases g with
        | true => exact wp_cond_true rfl (ihx _ M a W E K Q hS h hr hg)
        | false => exact wp_cond_false rfl (ihy _ M a W E K Q hS h hr hg)
      · exact h.elim
    | global g => exact h.elim
    | func f => exact h.elim
  | block id x ih =>
    intro tm M a W E K Q hS h hr hg
    refine wp_block (ih tm M a W E _ _ (fun e tm M a W E hk hr hg => ?_) h hr hg)
    cases e with
    | exit id' =>
      show (if id' = id then Q .normal a W else Q (.exit id') a W)
      have hk : (bif Nat.beq id' id then K .normal tm M else K (.exit id') tm M) := hk
      by_cases hid : id' = id
      · rw [if_pos hid]
        rw [hid, Nat.beq_refl] at hk
        exact hS _ _ _ _ _ _ hk hr hg
      · rw [if_neg hid]
        have hb : Nat.beq id' id = false := by
          cases hb : Nat.beq id' id with
          | false => rfl
          | true => exact absurd (Nat.eq_of_beq_eq_true hb) hid
        rw [hb] at hk
        exact hS _ _ _ _ _ _ hk hr hg
    | _ => exact hS _ _ _ _ _ _ hk hr hg
  | loop x ih =>
    intro tm M a W E K Q hS h hr hg
    unfold vcCode at h
    obtain ⟨E1, g1, m1, r1⟩ := proA_rep (T.pro (firstReg x)) hr
    obtain ⟨tm1, htm1⟩ : ∃ z, z = (proA tm M (T.pro (firstReg x))).1 := ⟨_, rfl⟩
    obtain ⟨M1, hM1⟩ : ∃ z, z = (proA tm M (T.pro (firstReg x))).2 := ⟨_, rfl⟩
    rw [← htm1, ← hM1] at r1
    rw [← hM1] at m1
    have hs1 := hg.step g1 m1
    obtain ⟨A, hA⟩ : ∃ A, A = L (firstReg x) (tm1.map (backV M1)) (M1.map (backB M1)) := ⟨_, rfl⟩
    have h : (∃ y, A.inv y ∧ leS T.n0 T.inp tm1 M1 (tm1.map (backV M1)) (M1.map (backB M1)) (A.hd y)) ∧
        ∀ y, A.inv y → vcCode T L x (A.hd y).1 (A.hd y).2 (fun e tm' M' => match e with | .normal => ∃ y', A.inv y' ∧ A.μ y' < A.μ y ∧ (let p := stealT (tm', stealA M' 0 (A.hd y).2) 0 (A.hd y).1; leS T.n0 T.inp p.1 p.2 (p.1.map (backV p.2)) (p.2.map (backB p.2)) (A.hd y')) | e => K e tm' M') := by rw [hA, htm1, hM1]; exact h
    obtain ⟨⟨y0, hi0, hl0⟩, hround⟩ := h
    refine wp_loop_ghost (fun n a' w' => ∃ y E', A.inv y ∧ A.μ y = n ∧ RepA X (A.hd y).1 (A.hd y).2 a' w' E' ∧ Since T W0 E0 w' E' (A.hd y).2) (A.μ y0) ⟨y0, _, hi0, rfl, (r1.back (leS_no hl0)).le hl0, hs1.head hT hl0⟩ ?_
    intro n a' w' hI
    obtain ⟨y, E', hiy, rfl, hry, hgy⟩ := hI
    refine ih _ _ a' w' E' _ _ (fun e tm' M' a' W' E' hk hr' hg' => ?_) (hround y hiy) hry hgy
    cases e with
    | normal =>
      obtain ⟨y', hi', hlt, hl'⟩ := hk
      obtain ⟨E2, g2, m2, r2⟩ := stealA_rep 0 (A.hd y).2 hr'
      obtain ⟨E3, g3, m3, r3⟩ := stealT_rep (A.hd y).1 0 (q := (tm', stealA M' 0 (A.hd y).2)) r2
      exact ⟨_, hlt, y', _, hi', rfl, (r3.back (leS_no hl')).le hl', ((hg'.step g2 m2).step g3 m3).head hT hl'⟩
    | _ => exact hS _ _ _ _ _ _ hk hr' hg'
  | _ => intro tm M a W E K Q hS h hr hg; exact h.elim
/-- what is handed back -/
theorem resW_run {r : ResultVar} {x : AW} (hM : RepM X W E M) (ht : RepT X W E M tm a.tmps.toList) (h : resW P tm M r = some x) :
    ∃ v, ((match r with | .tmp t => pure (a.tmps.getD t undef) | .cell p t => do loadVar t (← asAddr (a.tmps.getD p undef)) : Sem Value)).run P W = .ok v W ∧ RepW X W E M x v := by
  unfold resW at h
  split at h
  · rename_i t
    have he := evalA_rep ht (.tmp t)
    have he : RepV X W E M (tm.getD t .any) (a.tmps.getD t undef) := he
    split at h
    · rename_i y hy
      obtain rfl := Option.some.inj h
      rw [hy] at he
      exact ⟨_, rfl, he⟩
    · cases h
  · rename_i p t
    have he := evalA_rep ht (.tmp p)
    have he : RepV X W E M (tm.getD p .any) (a.tmps.getD p undef) := he
    split at h
    · rename_i i q hy
      rw [hy] at he
      obtain ⟨e, hei, hv⟩ := (he : boxAt E i _ q)
      split at h
      · rename_i l hb
        split at h
        · rename_i z hz
          obtain rfl := Option.some.inj h
          obtain ⟨_, cs, T, hgc, hl⟩ := hM.at_ i _ e hb hei
          obtain ⟨u, h1, h2⟩ := load_blk (P := P) hgc hl hz
          refine ⟨u, ?_, h2⟩
          simp only [Sem.run_bind]
          rw [hv]
          simp only [asAddr, Sem.run_pure, Result.andThen_ok]
          exact h1
        · cases h
      · cases h
    · cases h
theorem resA_run (hM : RepM X W E M) (ht : RepT X W E M tm a.tmps.toList) : ∀ {rs : List ResultVar} {l : List AW}, resA P tm M rs = some l →
    ∃ vs, (rs.mapM (fun r => (match r with | .tmp t => pure (a.tmps.getD t undef) | .cell p t => do loadVar t (← asAddr (a.tmps.getD p undef)) : Sem Value))).run P W = .ok vs W ∧ RepWs X W E M l vs
  | [], l, h => by
    obtain rfl := Option.some.inj h
    exact ⟨[], rfl, rfl⟩
  | r :: rs, l, h => by
    unfold resA at h
    cases hx : resW P tm M r with
    | none => rw [hx] at h; cases h
    | some x =>
      rw [hx] at h
      simp only at h
      cases hxs : resA P tm M rs with
      | none => rw [hxs] at h; cases h
      | some xs =>
        rw [hxs] at h
        obtain rfl := Option.some.inj h
        obtain ⟨v, h1, h2⟩ := resW_run hM ht hx
        obtain ⟨vs, h3, h4⟩ := resA_run hM ht hxs
        refine ⟨v :: vs, ?_, v, vs, rfl, h2, h4⟩
        rw [List.mapM_cons]
        simp only [Sem.run_bind, h1, Result.andThen_ok, h3, Sem.run_pure]
theorem RepWs.len : ∀ {l : List AW} {vs : List Value}, RepWs X W E M l vs → vs.length = l.length
  | [], _, h => by rw [show _ = _ from h]; rfl
  | _ :: _, _, ⟨v, r, e, _, h2⟩ => by rw [e, List.length_cons, RepWs.len h2, List.length_cons]
theorem results_run {fn : Func} {l : List AW} (hM : RepM X W E M) (ht : RepT X W E M tm a.tmps.toList) (h : resA P tm M fn.results.toList = some l) : ∃ v, (results fn a.tmps).run P W = .ok v W ∧ RepV X W E M (tupA l) v := by
  obtain ⟨vs, h1, h2⟩ := resA_run hM ht h
  have hlen := h2.len
  have hrun : (results fn a.tmps).run P W = .ok (if h : vs.toArray.size = 1 then vs.toArray[0] else .tuple vs.toArray) W := by
    unfold results
    rw [Array.mapM_eq_mapM_toList]
    simp only [Sem.run_bind, Sem.run_map]
    exact Eq.trans (congrArg (fun z : Result (List Value) => (z.andThen (fun a w' => Result.ok a.toArray w')).andThen (fun a w' => Sem.run P (pure (if h : a.size = 1 then a[0] else Value.tuple a)) w')) h1) rfl
  refine ⟨_, hrun, ?_⟩
  cases l with
  | nil =>
    obtain rfl : vs = [] := h2
    exact ⟨[], rfl, rfl⟩
  | cons x l =>
    cases l with
    | nil =>
      obtain ⟨v, r, rfl, q1, rfl⟩ := h2
      exact q1
    | cons y l =>
      have : ¬ vs.toArray.size = 1 := by simp at hlen ⊢; omega
      rw [dif_neg this]
      exact ⟨vs, rfl, h2⟩
theorem initT_rep : ∀ {args : List AW} {vs : List Value} (n : Nat), RepWs X W E M args vs → RepT X W E M (args.map .w ++ List.replicate n undefA) (vs ++ List.replicate n undef)
  | [], vs, n, h => by
    obtain rfl : vs = [] := h
    induction n with
    | zero => rfl
    | succ n ih => exact ⟨_, _, rfl, undefA_rep, ih⟩
  | _ :: _, _, n, ⟨v, r, e, h1, h2⟩ => by rw [e]; exact ⟨v, _, rfl, h1, initT_rep n h2⟩
theorem nilM (hsz : ∀ b ∈ X, b < W.heap.size) : RepM X W [] [] := ⟨rfl, List.nodup_nil, fun i b e h => by simp at h, fun b hb => by simp [foots] at hb, fun b _ => by simp [foots], hsz⟩
theorem vcFun_sound {L : Nat → List AV → Mem → LoopA} {f : FuncId} {fn : Func} {args : List AW} {vs : List Value} {M0 : Mem} {E0 : Env} {Q : AV → Mem → Prop} (hf : P.funcs[f]? = some fn) (hT : TabOk X W E0 T) (h : vcFun T L fn args M0 Q) (hM0 : RepM X W E0 M0) (hr : RepWs X W E0 M0 args vs)
    (hinp : ∀ i ∈ T.inp, ∃ t xs v c, M0[i]? = some (.row t xs v c none)) :
    Calls P f vs.toArray W (fun e W' => ∃ v E' M' r, e = .returned v ∧ Since T W E0 W' E' M' ∧ RepM X W' E' M' ∧ RepV X W' E' M' r v ∧ Q r M') := by
  unfold vcFun at h
  cases hb : fn.body with
  | none => rw [hb] at h; exact h.elim
  | some c =>
    rw [hb] at h
    simp only at h
    refine calls_of_wp hf hb (vcCode_sound (T := T) (L := L) (X := X) (W0 := W) hT c (initT fn.ntmps args) M0 _ W E0 _ _ (fun e tm M a W' E' hk hr' hg => ?_) h ⟨hM0, ?_, rfl⟩ ⟨Grow.refl _ _, fun i hi => ?_⟩)
    · have fin : ∀ (hk : match resA P tm M fn.results.toList with | some l => Q (tupA l) M | none => False), a.defers = [] ∧ ∃ v, (results fn a.tmps).run P W' = .ok v W' ∧ ∃ v' E' M' r, Ending.returned v = .returned v' ∧ Since T W E0 W' E' M' ∧ RepM X W' E' M' ∧ RepV X W' E' M' r v' ∧ Q r M' := fun hk => by
        split at hk
        · rename_i l hl
          obtain ⟨v, h1, h2⟩ := results_run hr'.mem hr'.tmps hl
          exact ⟨hr'.dfr, v, h1, v, E', M, _, rfl, hg, hr'.mem, h2, hk⟩
        · exact hk.elim
      cases e with
      | normal => exact fin hk
      | ret => exact fin hk
      | _ => exact hk.elim
    · have := initT_rep (fn.ntmps - vs.length) hr
      have hl := hr.len
      unfold initT
      rw [hl] at this
      have e1 : (vs.toArray ++ Array.replicate (fn.ntmps - vs.toArray.size) undef).toList = vs ++ List.replicate (fn.ntmps - args.length) undef := by simp [hl]
      show RepT X W E0 M0 _ (vs.toArray ++ Array.replicate (fn.ntmps - vs.toArray.size) undef).toList
      rw [e1]
      exact this
    · obtain ⟨t, xs, v, c, hi'⟩ := hinp i hi
      exact .inr ⟨t, xs, v, c, none, hi', fun _ e0 he0 => ⟨e0, he0, rfl⟩⟩
end
end Go.Proofs.YtkompmgleojmlaaDoor
