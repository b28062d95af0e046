/-
  Calls by contract: the abstract call gives the model's.
  Plain: no program. No condition.
-/
import Derived.Test.YtkompmgleojmlaaDoorEBmG
set_option linter.unusedSimpArgs false
set_option linter.unusedVariables false
namespace Go.Proofs.YtkompmgleojmlaaDoor
open Go.ChangeShapes Go.WideShapes Go.ChangeAt Go.RowKit Go.Joins Go.Deep
open GoRep (rep bulk)

section
variable {P : Program} {X : List Nat} {W : World} {E : Env} {M : Mem} {a : Act} {tm : List AV} {o : Oper}
theorem readL_no {c : AC} {L : Lnd} {q : RowC} (h : readL M c = some (L, q)) (ho : ownC c = false) : L = .no := by
  cases c with
  | hs L' t xs =>
    cases L' with
    | no => obtain ⟨rfl, _⟩ := Prod.mk.inj (Option.some.inj (show some (Lnd.no, (⟨t, xs, 0⟩ : RowC)) = some (L, q) from h)); rfl
    | «at» i v c => cases ho
  | row i v => cases ho
  | sl i v c n k o => cases ho
  | _ => cases h
theorem decT_out (hM : RepM X W E M) : ∀ (t : Ty) {l : List AC} {x : t.den} {rest : List AC} {vs : List Value}, decT M t l = some (x, rest) → RepL X W E M l vs →
    ∃ cs us F, vs = cs ++ us ∧ rep W x cs F ∧ RepL X W E M rest us ∧ (∀ b ∈ F, (b ∉ X ∧ b < W.heap.size) ∧ (l.any ownC = false → b ∉ foots E)) ∧ (l.any ownC = false → rest.any ownC = false)
  | .int k, l, x, rest, vs, h, hr => by
    have h : decInt k l = some (x, rest) := h
    unfold decInt at h
    split at h
    · split at h
      · rename_i hk
        subst hk
        obtain ⟨rfl, rfl⟩ := Prod.mk.inj (Option.some.inj h)
        obtain ⟨v, r, rfl, h1, h2⟩ := hr
        exact ⟨[v], r, [], rfl, ⟨by rw [h1.1], h1.2, rfl⟩, h2, by simp, fun h => by rw [List.any_cons, Bool.or_eq_false_iff] at h; exact h.2⟩
      · cases h
    · cases h
  | .bool, l, x, rest, vs, h, hr => by
    have h : decBool l = some (x, rest) := h
    unfold decBool at h
    split at h
    · obtain ⟨rfl, rfl⟩ := Prod.mk.inj (Option.some.inj h)
      obtain ⟨v, r, rfl, h1, h2⟩ := hr
      exact ⟨[v], r, [], rfl, ⟨by rw [show v = _ from h1], rfl⟩, h2, by simp, fun h => by rw [List.any_cons, Bool.or_eq_false_iff] at h; exact h.2⟩
    · cases h
  | .opq, l, x, rest, vs, h, hr => by
    have h : decOpq l = some (x, rest) := h
    unfold decOpq at h
    split at h
    · obtain ⟨rfl, rfl⟩ := Prod.mk.inj (Option.some.inj h)
      obtain ⟨v, r, rfl, h1, h2⟩ := hr
      exact ⟨[v], r, [], rfl, ⟨congrArg (fun z => [z]) h1.1, h1.2, rfl⟩, h2, by simp, fun h => by rw [List.any_cons, Bool.or_eq_false_iff] at h; exact h.2⟩
    · cases h
  | .str, l, x, rest, vs, h, hr => by
    have h : decStr l = some (x, rest) := h
    unfold decStr at h
    split at h
    · obtain ⟨rfl, rfl⟩ := Prod.mk.inj (Option.some.inj h)
      obtain ⟨v, r, rfl, h1, h2⟩ := hr
      exact ⟨[v], r, [], rfl, ⟨by rw [h1.1], h1.2, rfl⟩, h2, by simp, fun h => by rw [List.any_cons, Bool.or_eq_false_iff] at h; exact h.2⟩
    · cases h
  | .prod a b, l, x, rest, vs, h, hr => by
    unfold decT at h
    cases ha : decT M a l with
    | none => rw [ha] at h; cases h
    | some q =>
      obtain ⟨y, l1⟩ := q
      rw [ha] at h
      simp only at h
      cases hb : decT M b l1 with
      | none => rw [hb] at h; cases h
      | some q =>
        obtain ⟨z, r2⟩ := q
        rw [hb] at h
        obtain ⟨rfl, rfl⟩ := Prod.mk.inj (Option.some.inj h)
        obtain ⟨c1, u1, F1, rfl, p1, p2, p3, p4⟩ := decT_out hM a ha hr
        obtain ⟨c2, u2, F2, rfl, q1, q2, q3, q4⟩ := decT_out hM b hb p2
        refine ⟨c1 ++ c2, u2, F1 ++ F2, by simp, ⟨c1, c2, F1, F2, p1, q1, rfl, rfl⟩, q2, fun b hb => ?_, fun h => q4 (p4 h)⟩
        rcases List.mem_append.1 hb with hb | hb
        · exact p3 b hb
        · exact ⟨(q3 b hb).1, fun h => (q3 b hb).2 (p4 h)⟩
  | .list a, l, x, rest, vs, h, hr => by
    have h : decList M a l = some (x, rest) := h
    unfold decList at h
    split at h
    · obtain ⟨rfl, rfl⟩ := Prod.mk.inj (Option.some.inj h)
      obtain ⟨v, r, rfl, h1, h2⟩ := hr
      refine ⟨[v], r, [], rfl, ?_, h2, by simp, fun h => by rw [List.any_cons, Bool.or_eq_false_iff] at h; exact h.2⟩
      rw [h1.1]
      exact ⟨none, 0, rfl, Nat.le_refl _, Nat.zero_le _, .inl ⟨rfl, rfl⟩⟩
    · rename_i c l' _ _
      obtain ⟨v, r, rfl, h1, h2⟩ := hr
      cases hq : readL M c with
      | none => rw [hq] at h; cases h
      | some q =>
        obtain ⟨L, q⟩ := q
        rw [hq] at h
        simp only at h
        split at h
        · rename_i ht
          obtain ⟨rfl, rfl⟩ := Prod.mk.inj (Option.some.inj h)
          obtain ⟨A, cap, F, e1, e2, e3⟩ := read_of hM hq h1
          obtain ⟨qt, qxs, qc⟩ := q
          simp only at ht e1 e2
          subst ht
          refine ⟨[v], r, F, rfl, ⟨A, cap, by rw [e1], e2⟩, h2, fun b hb => ⟨e3.av hM b hb, fun ho => ?_⟩, fun h => by rw [List.any_cons, Bool.or_eq_false_iff] at h; exact h.2⟩
          rw [List.any_cons, Bool.or_eq_false_iff] at ho
          have hno : L = .no := readL_no hq ho.1
          subst hno
          exact (e3 b hb).1.1
        · cases h
    · cases h
theorem decT_one {t : Ty} {l : List AC} {x : t.den} {vs : List Value} (hM : RepM X W E M) (h : decT M t l = some (x, [])) (hr : RepL X W E M l vs) :
    ∃ F, rep W x vs F ∧ ∀ b ∈ F, (b ∉ X ∧ b < W.heap.size) ∧ (l.any ownC = false → b ∉ foots E) := by
  obtain ⟨cs, us, F, rfl, h1, h2, h3, _⟩ := decT_out hM t h hr
  obtain rfl : us = [] := h2
  rw [List.append_nil]
  exact ⟨F, h1, h3⟩
/-- typed cells, seen by a callee that must not touch what is ours -/
theorem repL_out {X' : List Nat} {t : Ty} {l : List AC} {x : t.den} {vs : List Value} (hM : RepM X W E M) (hX : ∀ b, b ∈ X' → b ∈ X ∨ (b ∈ foots E ∧ l.any ownC = false)) (h : decT M t l = some (x, [])) (hr : RepL X W E M l vs) : RepL X' W [] [] (cellsOf t x) vs := by
  obtain ⟨F, h1, h2⟩ := decT_one hM h hr
  exact repL_of_rep (L := .no) t h1 (fun b hb => ⟨⟨by simp [foots], fun hx => (hX b hx).elim (h2 b hb).1.1 (fun k => (h2 b hb).2 k.2 k.1)⟩, (h2 b hb).1.2⟩)
theorem rowRep_one {t : Ty} {b o : Nat} {x : t.den} {cs : List Value} {F : List Nat} (h1 : rep W x cs F) (h2 : CellsAt W b o cs) : RowRep W b o [x] F := ⟨cs, F, [], h1, h2, rfl, by simp⟩
theorem cellsAt_blk {b : Nat} {cs : Array Value} {T : TypeId} (hg : W.heap[b]? = some (.cells cs T (0, 0))) : CellsAt W b 0 cs.toList := fun j u hj => by
  rw [Nat.zero_add, cell_of_row W b j cs T (0, 0) hg, frozen_of_row W b j cs T hg]
  exact ⟨by simpa using hj, rfl⟩
theorem decA1_rep {X' : List Nat} {y : ATy} {x : AV} {d : y.ty.den} {v : Value} (hM : RepM X W E M) (hX : ∀ b, b ∈ X' → b ∈ X ∨ (b ∈ foots E ∧ (match y with | .p _ => False | _ => True) ∧ ownAV x = false)) (h : decA1 M y x = some d) (hr : RepV X W E M x v) :
    RepW X' W [] [] (encA1 y d) v := by
  unfold decA1 at h
  split at h
  · rename_i t c
    split at h
    · rename_i z hz
      obtain rfl : z = d := Option.some.inj h
      have h1 := repL_out (X' := X') hM (fun b hb => (hX b hb).imp id (fun k => ⟨k.1, by rw [List.any_cons, List.any_nil, Bool.or_false]; exact k.2.2⟩)) hz (⟨v, [], rfl, hr, rfl⟩ : RepL X W E M [c] [v])
      show RepC X' W [] [] (enc1 t z) v
      unfold enc1
      have hl := h1.len
      cases hc : cellsOf t z with
      | nil => rw [hc] at hl; simp at hl
      | cons q qs =>
        rw [hc] at h1
        obtain ⟨v', r, e, q1, _⟩ := h1
        simp at e
        rw [e.1]
        exact q1
    · cases h
  · rename_i t l
    split at h
    · rename_i z hz
      obtain rfl : z = d := Option.some.inj h
      obtain ⟨cs, e, h2⟩ := (hr : ∃ cs, v = .agg cs.toArray ∧ RepL X W E M l cs)
      exact ⟨cs, e, repL_out hM (fun b hb => (hX b hb).imp id (fun k => ⟨k.1, k.2.2⟩)) hz h2⟩
    · cases h
  · rename_i t i
    split at h
    · rename_i l hb
      split at h
      · rename_i z hz
        obtain rfl : z = d := Option.some.inj h
        obtain ⟨e, he, hv⟩ := (hr : boxAt E i v 0)
        obtain ⟨hf, cs, T, hg, hl⟩ := hM.at_ i _ e hb he
        obtain ⟨F, h1, h2⟩ := decT_one hM hz hl
        have hX' : ∀ b ∈ X', b ∈ X := fun b hb => (hX b hb).elim id (fun h => h.2.1.elim)
        have hblk : e.blk ∈ foots E := mem_foots.2 ⟨e, List.mem_of_getElem? he, by simp [hf]⟩
        refine ⟨by rw [hv]; rfl, e.blk :: F, ⟨e.blk, 0, F, rfl, by rw [hv]; simp, by simp, rowRep_one h1 (cellsAt_blk hg)⟩, fun g hg' => ⟨⟨by simp [foots], fun hx => ?_⟩, ?_⟩⟩
        · rcases List.mem_cons.1 hg' with rfl | hg'
          · exact hM.xlt _ (hX' _ hx) hblk
          · exact (h2 g hg').1.1 (hX' g hx)
        · rcases List.mem_cons.1 hg' with rfl | hg'
          · exact hM.lt _ hblk
          · exact (h2 g hg').1.2
      · cases h
    · cases h
  · rename_i t L t' xs k
    cases hL : liveL M L with
    | false => rw [hL] at h; cases h
    | true =>
      rw [hL] at h
      simp only [cond_true] at h
      split at h
      · rename_i ht
        subst ht
        obtain rfl : nth t' xs k = d := Option.some.inj h
        obtain ⟨b, off, cs, Gk, e, h1, h2, h3⟩ := ep_of hL hr
        obtain ⟨F, ⟨b', off', G', rfl, e', hk, hr'⟩, hF⟩ := lend_live hL (hr : RepC X W E M (.ep L t' xs k 0) v).2
        have hX' : ∀ b ∈ X', b ∈ X := fun b hb => (hX b hb).elim id (fun h => h.2.1.elim)
        have hav := hF.av hM
        have hav2 := h2.av hM
        have hbb : b = b' ∧ off + k * t'.n = off' + k * t'.n := by
          rw [e] at e'
          injection e' with e'
          injection e' with e'
          injection e' with a1 a2
          exact ⟨a1, by simpa using a2⟩
        refine ⟨RepC.one (show RepC X W E M (.ep L t' xs k 0) v from hr), b :: Gk, ⟨b, off + k * t'.n, Gk, rfl, by rw [e]; simp, by simp, rowRep_one h1 h3⟩, fun g hg => ?_⟩
        rcases List.mem_cons.1 hg with rfl | hg
        · have := hav b' (by simp)
          rw [← hbb.1] at this
          exact ⟨⟨by simp [foots], fun hx => this.1 (hX' _ hx)⟩, this.2⟩
        · exact ⟨⟨by simp [foots], fun hx => (hav2 g hg).1 (hX' g hx)⟩, (hav2 g hg).2⟩
      · cases h
  · cases h
theorem decA_rep {X' : List Nat} (hM : RepM X W E M) : ∀ {l : List ATy} {xs : List AV} {d : AD l} {vs : List Value}, (∀ b, b ∈ X' → b ∈ X ∨ (b ∈ foots E ∧ hasP l = false ∧ xs.any ownAV = false)) → decA M l xs = some d → RepT X W E M xs vs → RepWs X' W [] [] (encA l d) vs
  | [], [], _, _, _, _, hr => hr
  | [], _ :: _, _, _, _, h, _ => by simp [decA] at h
  | _ :: _, [], _, _, _, h, _ => by simp [decA] at h
  | y :: l, x :: xs, d, vs, hX, h, ⟨v, r, e, h1, h2⟩ => by
    unfold decA at h
    cases hq : decA1 M y x with
    | none => rw [hq] at h; cases h
    | some z =>
      rw [hq] at h
      simp only at h
      cases hz : decA M l xs with
      | none => rw [hz] at h; cases h
      | some ys =>
        rw [hz] at h
        obtain rfl : (z, ys) = d := Option.some.inj h
        refine ⟨v, r, e, decA1_rep hM (fun b hb => (hX b hb).imp id (fun h => ⟨h.1, ?_, ?_⟩)) hq h1, decA_rep hM (fun b hb => (hX b hb).imp id (fun h => ⟨h.1, ?_, ?_⟩)) hz h2⟩
        · cases y <;> first | trivial | (simp [hasP] at h)
        · have := h.2.2; rw [List.any_cons, Bool.or_eq_false_iff] at this; exact this.1
        · cases y <;> first | (simpa [hasP] using h.2.1) | (simp [hasP] at h)
        · have := h.2.2; rw [List.any_cons, Bool.or_eq_false_iff] at this; exact this.2
theorem scalC_rep {X' : List Nat} {W' : World} {E' : Env} {M' : Mem} {c : AC} {v : Value} (h : scalC c = true) (hr : RepC X W E M c v) : RepC X' W' E' M' c v := by
  cases c <;> first | exact hr | cases h
theorem scalL_rep {X' : List Nat} {W' : World} {E' : Env} {M' : Mem} : ∀ {l : List AC} {vs : List Value}, l.all scalC = true → RepL X W E M l vs → RepL X' W' E' M' l vs
  | [], _, _, h => h
  | _ :: _, _, h, ⟨v, r, e, h1, h2⟩ => by
    rw [List.all_cons, Bool.and_eq_true] at h
    exact ⟨v, r, e, scalC_rep h.1 h1, scalL_rep h.2 h2⟩
theorem scalW_rep {X' : List Nat} {W' : World} {E' : Env} {M' : Mem} {x : AW} {v : Value} (h : scalW x = true) (hr : RepW X W E M x v) : RepW X' W' E' M' x v := by
  cases x with
  | c a => exact scalC_rep h hr
  | ag l => obtain ⟨cs, e, h2⟩ := hr; exact ⟨cs, e, scalL_rep h h2⟩
theorem scalWs_rep {X' : List Nat} {W' : World} {E' : Env} {M' : Mem} : ∀ {l : List AW} {vs : List Value}, l.all scalW = true → RepWs X W E M l vs → RepWs X' W' E' M' l vs
  | [], _, _, h => h
  | _ :: _, _, h, ⟨v, r, e, h1, h2⟩ => by
    rw [List.all_cons, Bool.and_eq_true] at h
    exact ⟨v, r, e, scalW_rep h.1 h1, scalWs_rep h.2 h2⟩
theorem scalV_rep {X' : List Nat} {W' : World} {E' : Env} {M' : Mem} {x : AV} {v : Value} (h : scalV x = true) (hr : RepV X W E M x v) : RepV X' W' E' M' x v := by
  cases x with
  | w x => exact scalW_rep h hr
  | tp l => obtain ⟨vs, e, h2⟩ := hr; exact ⟨vs, e, scalWs_rep h h2⟩
  | any => trivial
end
section
variable {X : List Nat} {W W' : World} {E E' : Env} {M N : Mem}
theorem boxAt_shift (hl : M.length = E.length) {i q : Nat} {v : Value} (h : boxAt E' i v q) : boxAt (E ++ E') (i + M.length) v q := by
  obtain ⟨e, h1, h2⟩ := h
  exact ⟨e, by rw [hl, Nat.add_comm, List.getElem?_append_right (by omega), Nat.add_sub_cancel_left]; exact h1, h2⟩
theorem capsAt_shift (hl : M.length = E.length) : ∀ {is : List Nat} {vs : List Value}, capsAt E' is vs → capsAt (E ++ E') (is.map (· + M.length)) vs
  | [], _, h => h
  | _ :: _, _, ⟨v, r, e, h1, h2⟩ => ⟨v, r, e, boxAt_shift hl h1, capsAt_shift hl h2⟩
theorem shift_get (hl : M.length = E.length) (i : Nat) : (M ++ N)[i + M.length]? = N[i]? ∧ (E ++ E')[i + M.length]? = E'[i]? :=
  ⟨by rw [Nat.add_comm, List.getElem?_append_right (by omega), Nat.add_sub_cancel_left], by rw [hl, Nat.add_comm, List.getElem?_append_right (by omega), Nat.add_sub_cancel_left]⟩
theorem lendQ_shift {X' : List Nat} {Q : List Nat → Prop} (hl : M.length = E.length) (hX : ∀ b ∈ X, b ∈ X') (hc : ∀ b ∈ foots E, b ∈ X') : ∀ {L : Lnd}, lendQ X' W' E' N L Q → lendQ X W' (E ++ E') (M ++ N) (shiftL M.length L) Q
  | .no, ⟨F, h1, h2⟩ => ⟨F, h1, fun b hb => by
      have := h2 b hb
      rw [foots_append, List.mem_append]
      exact ⟨⟨fun h => h.elim (fun h => this.1.2 (hc b h)) this.1.1, fun h => this.1.2 (hX b h)⟩, this.2⟩⟩
  | .at i v c, h => by
    have h : lendAt E' N i v c Q := h
    show lendAt (E ++ E') (M ++ N) (i + M.length) v c Q
    unfold lendAt at h ⊢
    rw [(shift_get (E' := E') hl i).1, (shift_get (N := N) hl i).2]
    exact h
theorem inRow_shift (hl : M.length = E.length) {i ver c n k o : Nat} {u : Value} (h : inRow W' E' N i ver c n k o u) : inRow W' (E ++ E') (M ++ N) (i + M.length) ver c n k o u := by
  obtain ⟨b, h1, h2⟩ := h
  refine ⟨b, ?_, ?_⟩
  · unfold atRow at h1 ⊢
    rw [(shift_get (E' := E') hl i).1, (shift_get (N := N) hl i).2]
    exact h1
  · unfold lendAt at h2 ⊢
    rw [(shift_get (E' := E') hl i).1, (shift_get (N := N) hl i).2]
    exact h2
theorem shiftC_rep {X' : List Nat} (hl : M.length = E.length) (hX : ∀ b ∈ X, b ∈ X') : ∀ {c : AC} {v : Value}, (memC c = true ∨ ∀ b ∈ foots E, b ∈ X') → RepC X' W' E' N c v → RepC X W' (E ++ E') (M ++ N) (shiftC M.length c) v
  | .int _ _, _, _, h => h
  | .bool _, _, _, h => h
  | .str _, _, _, h => h
  | .opq _, _, _, h => h
  | .hs L t xs, v, hc, h => ⟨h.1, lendQ_shift hl hX (hc.resolve_left (by simp [memC])) h.2⟩
  | .bp _ _, _, _, h => boxAt_shift hl h
  | .ep L t xs k o, v, hc, h => ⟨h.1, lendQ_shift hl hX (hc.resolve_left (by simp [memC])) h.2⟩
  | .row i ver, v, _, h => by
    refine ⟨h.1, ?_⟩
    have h2 := h.2
    unfold atRow at h2 ⊢
    rw [(shift_get (E' := E') hl i).1, (shift_get (N := N) hl i).2]
    exact h2
  | .rp i ver n k o, v, _, h => by
    refine ⟨h.1, ?_⟩
    have h2 := h.2
    unfold atRow at h2 ⊢
    rw [(shift_get (E' := E') hl i).1, (shift_get (N := N) hl i).2]
    exact h2
  | .sl i ver c n k o, v, _, h => ⟨h.1, inRow_shift hl h.2⟩
  | .sp i ver c n k o m x q, v, _, ⟨h0, b, l, cap, h1, h2⟩ => ⟨h0, b, l, cap, inRow_shift hl h1, h2⟩
  | .tl i ver n k, v, _, h => by
    refine ⟨h.1, ?_⟩
    have h2 := h.2
    unfold atRow at h2 ⊢
    rw [(shift_get (E' := E') hl i).1, (shift_get (N := N) hl i).2]
    exact h2
  | .mp i, v, _, ⟨e, h1, h2⟩ => ⟨e, by rw [(shift_get (N := N) hl i).2]; exact h1, h2⟩
  | .fn f caps, v, _, ⟨vs, e, h⟩ => ⟨vs, e, capsAt_shift hl h⟩
  | .raw _, _, _, h => h
  | .junk, _, _, h => h
theorem shiftL_rep {X' : List Nat} (hl : M.length = E.length) (hX : ∀ b ∈ X, b ∈ X') : ∀ {l : List AC} {vs : List Value}, (l.all memC = true ∨ ∀ b ∈ foots E, b ∈ X') → RepL X' W' E' N l vs → RepL X W' (E ++ E') (M ++ N) (l.map (shiftC M.length)) vs
  | [], _, _, h => h
  | _ :: _, _, hc, ⟨v, r, e, h1, h2⟩ => ⟨v, r, e, shiftC_rep hl hX (hc.imp (fun h => by rw [List.all_cons, Bool.and_eq_true] at h; exact h.1) id) h1, shiftL_rep hl hX (hc.imp (fun h => by rw [List.all_cons, Bool.and_eq_true] at h; exact h.2) id) h2⟩
theorem shiftW_rep {X' : List Nat} (hl : M.length = E.length) (hX : ∀ b ∈ X, b ∈ X') : ∀ {x : AW} {v : Value}, (memW x = true ∨ ∀ b ∈ foots E, b ∈ X') → RepW X' W' E' N x v → RepW X W' (E ++ E') (M ++ N) (shiftW M.length x) v
  | .c _, _, hc, h => shiftC_rep hl hX hc h
  | .ag _, _, hc, ⟨cs, e, h⟩ => ⟨cs, e, shiftL_rep hl hX hc h⟩
theorem shiftWs_rep {X' : List Nat} (hl : M.length = E.length) (hX : ∀ b ∈ X, b ∈ X') : ∀ {l : List AW} {vs : List Value}, (l.all memW = true ∨ ∀ b ∈ foots E, b ∈ X') → RepWs X' W' E' N l vs → RepWs X W' (E ++ E') (M ++ N) (l.map (shiftW M.length)) vs
  | [], _, _, h => h
  | _ :: _, _, hc, ⟨v, r, e, h1, h2⟩ => ⟨v, r, e, shiftW_rep hl hX (hc.imp (fun h => by rw [List.all_cons, Bool.and_eq_true] at h; exact h.1) id) h1, shiftWs_rep hl hX (hc.imp (fun h => by rw [List.all_cons, Bool.and_eq_true] at h; exact h.2) id) h2⟩
theorem shiftV_rep {X' : List Nat} (hl : M.length = E.length) (hX : ∀ b ∈ X, b ∈ X') {x : AV} {v : Value} (hc : memV x = true ∨ ∀ b ∈ foots E, b ∈ X') (h : RepV X' W' E' N x v) : RepV X W' (E ++ E') (M ++ N) (shiftV M.length x) v := by
  cases x with
  | w x => exact shiftW_rep hl hX hc h
  | tp l => obtain ⟨vs, e, h⟩ := h; exact ⟨vs, e, shiftWs_rep hl hX hc h⟩
  | any => trivial
/-- our own blocks stand behind a call that made only new memory -/
theorem grow_call (g : Grow W [] W' E') (hM : RepM X W E M) : Grow W E W' (E ++ E') where
  os := g.os
  tape := g.tape
  output := g.output
  size := g.size
  keep b hb _ := g.keep b hb (by simp [foots])
  new b hb := by
    rw [foots_append, List.mem_append] at hb
    exact hb.elim .inl (fun h => .inr ((g.new b h).elim (fun h => by simp [foots] at h) id))
  blk i e he := ⟨e, by rw [List.getElem?_append_left (List.getElem?_eq_some_iff.1 he).1]; exact he, rfl⟩
theorem repM_call {X' : List Nat} (g : Grow W [] W' E') (hX : ∀ b ∈ X, b ∈ X') (hM : RepM X W E M) (hN : RepM X' W' E' N) (hrow : N.all rowB = true) : MemOk W E M W' (E ++ E') (M ++ N) ∧ RepM X W' (E ++ E') (M ++ N) := by
  have hg := grow_call g hM
  have hkeep : ∀ b ∈ foots E, W'.heap[b]? = W.heap[b]? := fun b hb => g.keep b (hM.lt b hb) (by simp [foots])
  have hm : MemOk W E M W' (E ++ E') (M ++ N) := memOk_append (W := W) (W' := W') ⟨g.os, g.tape, g.output, g.size, fun b hb _ => g.keep b hb (by simp [foots]), fun b hb => .inl hb, fun _ e h => ⟨e, h, rfl⟩⟩ hM hkeep N E'
  refine ⟨hm, ⟨by simp [hM.len, hN.len], nodup_app_fresh hM.nodup hN.nodup hM.lt (fun b hb => (g.new b hb).elim (fun h => by simp [foots] at h) id), fun i b e hb he => ?_, fun b hb => ?_, fun b hb hf => ?_, fun b hb => Nat.lt_of_lt_of_le (hM.xsz b hb) g.size⟩⟩
  · by_cases hi : i < M.length
    · rw [List.getElem?_append_left hi] at hb
      rw [List.getElem?_append_left (by rw [← hM.len]; exact hi)] at he
      exact (hM.at_ i b e hb he).keep hg hm hM.len (fun q hq => hkeep q (mem_foots.2 ⟨e, List.mem_of_getElem? he, hq⟩))
    · rw [List.getElem?_append_right (by omega)] at hb
      rw [List.getElem?_append_right (by rw [← hM.len]; omega), ← hM.len] at he
      have h1 := hN.at_ _ b e hb he
      have hr := List.all_eq_true.1 hrow b (List.mem_of_getElem? hb)
      cases b with
      | row t xs v c hh =>
        cases hh with
        | none => exact h1
        | some _ => cases hr
      | box l => cases hr
      | mp _ => cases hr
      | dead => cases hr
  · rw [foots_append, List.mem_append] at hb
    exact hb.elim (fun h => Nat.lt_of_lt_of_le (hM.lt b h) g.size) (hN.lt b)
  · rw [foots_append, List.mem_append] at hf
    exact hf.elim (hM.xlt b hb) (hN.xlt b (hX b hb))
end
end Go.Proofs.YtkompmgleojmlaaDoor
