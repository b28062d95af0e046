/-
  A list taken out of a row's element, and laid back.
  Plain: no program. No condition.
-/
import Derived.Test.YtkompmgleojmlaaDoorEBmU
set_option linter.unusedSimpArgs false
set_option linter.unusedVariables false
namespace Go.Proofs.YtkompmgleojmlaaDoor
open Go.ChangeShapes Go.WideShapes Go.ChangeAt Go.RowKit Go.Joins Go.Deep
open GoRep (rep bulk)

theorem putAt_self (a : Ty) (xs ys : List a.den) (o : Nat) : putAt a ys (.list a) xs o = ys := by
  show (if h : a = a then h ▸ ys else xs) = ys
  rw [dif_pos rfl]
theorem blt_true {a b : Nat} (h : Nat.blt a b = true) : a < b := Nat.le_of_ble_eq_true h
theorem blt_false {a b : Nat} (h : Nat.blt a b = false) : b ≤ a := Nat.le_of_not_lt (fun hlt => by
  have : Nat.blt a b = true := Nat.ble_eq_true_of_le hlt
  rw [h] at this; cases this)
/-- a value of our own: the list in its cell o, and the value with another list there -/
theorem ORep.put {W : World} : ∀ (t : Ty) {x : t.den} {cs : List Value} {F : List Nat} {o : Nat} {r : RowC}, ORep W t x cs F → listAt t x o = some r →
    ∃ (u : Value) (F1 F2 : List Nat), cs[o]? = some u ∧ (∀ z, F.count z = F1.count z + F2.count z) ∧ OList W (ORep W r.t) r.t.n r.xs u F1 ∧
      ∀ (W1 : World) (u' : Value) (zs : List r.t.den) (F1' : List Nat), (∀ p ∈ F2, W1.heap[p]? = W.heap[p]?) → OList W1 (ORep W1 r.t) r.t.n zs u' F1' →
        ∃ F' : List Nat, ORep W1 t (putAt r.t zs t x o) (cs.set o u') F' ∧ ∀ z, F'.count z = F1'.count z + F2.count z
  | .int _, _, _, _, _, _, _, h => by cases h
  | .bool, _, _, _, _, _, _, h => by cases h
  | .str, _, _, _, _, _, _, h => by cases h
  | .opq, _, _, _, _, _, _, h => by cases h
  | .list a, xs, cs, F, o, r, ⟨v, e, hl⟩, h => by
    unfold listAt at h
    cases ho : Nat.beq o 0 with
    | false => rw [ho] at h; cases h
    | true =>
      rw [ho] at h
      obtain rfl := Option.some.inj h
      obtain rfl := Nat.eq_of_beq_eq_true ho
      refine ⟨v, F, [], by rw [e]; rfl, fun z => by simp, hl, fun W1 u' zs F1' _ h1 => ⟨F1', ?_, fun z => by simp⟩⟩
      have hp : putAt a zs (.list a) xs 0 = zs := putAt_self a xs zs 0
      rw [e]
      show ORep W1 (.list a) (putAt a zs (.list a) xs 0) [u'] F1'
      rw [hp]
      exact ⟨u', rfl, h1⟩
  | .prod a b, x, cs, F, o, r, ⟨c1, c2, F1, F2, h1, h2, e1, e2⟩, h => by
    unfold listAt at h
    have hl := ORep.len a h1
    cases ho : Nat.blt o a.n with
    | true =>
      rw [ho] at h
      simp only [cond_true] at h
      have hlt := blt_true ho
      obtain ⟨u, G1, G2, q1, q2, q3, q4⟩ := ORep.put a h1 h
      refine ⟨u, G1, G2 ++ F2, by rw [e1, List.getElem?_append_left (by omega)]; exact q1, fun z => by rw [e2, List.count_append, List.count_append, q2 z]; omega, q3, fun W1 u' zs F1' hk h3 => ?_⟩
      obtain ⟨F', p1, p2⟩ := q4 W1 u' zs F1' (fun p hp => hk p (by simp [hp])) h3
      refine ⟨F' ++ F2, ⟨c1.set o u', c2, F', F2, ?_, ORep.keep b (x := (putAt r.t zs (.prod a b) x o).2) (by unfold putAt; rw [ho]; exact h2) (fun p hp => hk p (by simp [hp])), by rw [e1, List.set_append_left _ _ (by omega)], rfl⟩, fun z => by rw [List.count_append, List.count_append, p2 z]; omega⟩
      unfold putAt
      rw [ho]
      exact p1
    | false =>
      rw [ho] at h
      simp only [cond_false] at h
      have hge := blt_false ho
      obtain ⟨u, G1, G2, q1, q2, q3, q4⟩ := ORep.put b h2 h
      refine ⟨u, G1, F1 ++ G2, by rw [e1, List.getElem?_append_right (by omega), hl]; exact q1, fun z => by rw [e2, List.count_append, List.count_append, q2 z]; omega, q3, fun W1 u' zs F1' hk h3 => ?_⟩
      obtain ⟨F', p1, p2⟩ := q4 W1 u' zs F1' (fun p hp => hk p (by simp [hp])) h3
      refine ⟨F1 ++ F', ⟨c1, c2.set (o - a.n) u', F1, F', ORep.keep a (x := (putAt r.t zs (.prod a b) x o).1) (by unfold putAt; rw [ho]; exact h1) (fun p hp => hk p (by simp [hp])), ?_, by rw [e1, List.set_append_right _ _ (by omega), hl], rfl⟩, fun z => by rw [List.count_append, List.count_append, p2 z]; omega⟩
      unfold putAt
      rw [ho]
      exact p1
theorem listAt_put : ∀ (t : Ty) {x : t.den} {o : Nat} {r : RowC} (zs : List r.t.den), listAt t x o = some r → listAt t (putAt r.t zs t x o) o = some ⟨r.t, zs, 0⟩
  | .int _, _, _, _, _, h => by cases h
  | .bool, _, _, _, _, h => by cases h
  | .str, _, _, _, _, h => by cases h
  | .opq, _, _, _, _, h => by cases h
  | .list a, xs, o, r, zs, h => by
    unfold listAt at h
    cases ho : Nat.beq o 0 with
    | false => rw [ho] at h; cases h
    | true =>
      rw [ho] at h
      obtain rfl := Option.some.inj h
      have hp : putAt a zs (.list a) xs o = zs := putAt_self a xs zs o
      show listAt (.list a) (putAt a zs (.list a) xs o) o = some (⟨a, zs, 0⟩ : RowC)
      refine (congrArg (fun (w : List a.den) => listAt (.list a) w o) hp).trans ?_
      show (bif Nat.beq o 0 then some (⟨a, zs, 0⟩ : RowC) else none) = _
      rw [ho]
      rfl
  | .prod a b, x, o, r, zs, h => by
    unfold listAt at h
    unfold putAt listAt
    cases ho : Nat.blt o a.n with
    | true => rw [ho] at h; exact listAt_put a zs h
    | false => rw [ho] at h; exact listAt_put b zs h
theorem putAt_put : ∀ (t : Ty) {x : t.den} {o : Nat} {r : RowC} (zs ys : List r.t.den), listAt t x o = some r → putAt r.t ys t (putAt r.t zs t x o) o = putAt r.t ys t x o
  | .int _, _, _, _, _, _, h => by cases h
  | .bool, _, _, _, _, _, h => by cases h
  | .str, _, _, _, _, _, h => by cases h
  | .opq, _, _, _, _, _, h => by cases h
  | .list a, xs, o, r, zs, ys, h => by
    unfold listAt at h
    cases ho : Nat.beq o 0 with
    | false => rw [ho] at h; cases h
    | true =>
      rw [ho] at h
      obtain rfl := Option.some.inj h
      have h1 : putAt a ys (.list a) (putAt a zs (.list a) xs o) o = ys := putAt_self a _ ys o
      have h2 : putAt a ys (.list a) xs o = ys := putAt_self a xs ys o
      exact h1.trans h2.symm
  | .prod a b, x, o, r, zs, ys, h => by
    unfold listAt at h
    cases ho : Nat.blt o a.n with
    | true =>
      rw [ho] at h
      have h0 := putAt_put a zs ys h
      have e1 : ∀ (ws : List r.t.den) (y : (Ty.prod a b).den), putAt r.t ws (.prod a b) y o = ((putAt r.t ws a y.1 o, y.2) : a.den × b.den) := fun ws y => by
        show (bif Nat.blt o a.n then ((putAt r.t ws a y.1 o, y.2) : a.den × b.den) else _) = _
        rw [ho]; rfl
      exact (congrArg (fun w => putAt r.t ys (.prod a b) w o) (e1 zs x)).trans ((e1 ys _).trans ((congrArg (fun w => ((w, x.2) : a.den × b.den)) h0).trans (e1 ys x).symm))
    | false =>
      rw [ho] at h
      have h0 := putAt_put b zs ys h
      have e1 : ∀ (ws : List r.t.den) (y : (Ty.prod a b).den), putAt r.t ws (.prod a b) y o = ((y.1, putAt r.t ws b y.2 (o - a.n)) : a.den × b.den) := fun ws y => by
        show (bif Nat.blt o a.n then _ else ((y.1, putAt r.t ws b y.2 (o - a.n)) : a.den × b.den)) = _
        rw [ho]; rfl
      exact (congrArg (fun w => putAt r.t ys (.prod a b) w o) (e1 zs x)).trans ((e1 ys _).trans ((congrArg (fun w => ((x.1, w) : a.den × b.den)) h0).trans (e1 ys x).symm))
theorem nth_set_self {t : Ty} {xs : List t.den} {k : Nat} {x : t.den} (h : k < xs.length) : nth t (xs.set k x) k = x := by
  unfold nth
  rw [List.getD_eq_getElem?_getD, List.getElem?_set_self h]
  rfl
theorem put_set {t : Ty} {xs : List t.den} {k o : Nat} {r : RowC} (hk : k < xs.length) (h : listAt t (nth t xs k) o = some r) (zs ys : List r.t.den) :
    (xs.set k (putAt r.t zs t (nth t xs k) o)).set k (putAt r.t ys t (nth t (xs.set k (putAt r.t zs t (nth t xs k) o)) k) o) = xs.set k (putAt r.t ys t (nth t xs k) o) := by
  rw [nth_set_self hk, putAt_put t zs ys h, List.set_set]
theorem ORows.keep {W W1 : World} {t : Ty} {xs : List t.den} {cs : List Value} {G : List Nat} (h : ORows (ORep W t) xs cs G) (hk : ∀ p ∈ G, W1.heap[p]? = W.heap[p]?) : ORows (ORep W1 t) xs cs G :=
  h.imp (fun x cs F h hF => ORep.keep t h (fun p hp => hk p (hF p hp)))
/-- a row of our own: the list in cell o of element k, and the row with another list there -/
theorem olist_put {W : World} {t : Ty} {xs : List t.den} {b cap k o : Nat} {F : List Nat} {r : RowC} (h : OList W (ORep W t) t.n xs (.slice (some ⟨b, 0, none⟩) xs.length cap) F) (hk : k < xs.length) (hr : listAt t (nth t xs k) o = some r) :
    ∃ (u : Value) (F1 F2 : List Nat), (∀ z, F.count z = F1.count z + F2.count z) ∧ b ∈ F2 ∧ W.cell? ⟨b, k * t.n + o, none⟩ = some u ∧ OList W (ORep W r.t) r.t.n r.xs u F1 ∧
      ∀ (W1 : World) (u' : Value) (zs : List r.t.den) (F1' : List Nat), (∀ p ∈ F2, p ≠ b → W1.heap[p]? = W.heap[p]?) → b ∉ F1' → F.Nodup → W1.heap[b]? = (W.setCell ⟨b, k * t.n + o, none⟩ u').heap[b]? → OList W1 (ORep W1 r.t) r.t.n zs u' F1' →
        ∃ F' : List Nat, OList W1 (ORep W1 t) t.n (xs.set k (putAt r.t zs t (nth t xs k) o)) (.slice (some ⟨b, 0, none⟩) xs.length cap) F' ∧ ∀ z, F'.count z = F1'.count z + F2.count z := by
  obtain ⟨T, cells, G, w1, w2, w3⟩ := h
  obtain ⟨cur, q1, q2, q3, q4, q5⟩ := ownsRow_cells w1
  have hxk := List.getElem?_eq_getElem hk
  have hnth : nth t xs k = xs[k] := by unfold nth; rw [List.getD_eq_getElem?_getD, hxk]; rfl
  obtain ⟨c0, c1, c2, G0, G1, G2, s1, s2, s3, s4, s5, s6⟩ := w2.split (fun x cs F h => ORep.len t h) k hxk
  rw [← hnth] at s5
  obtain ⟨u, H1, H2, p1, p2, p3, p4⟩ := ORep.put t s5 hr
  have hc1 := ORep.len t s5
  have ho := (List.getElem?_eq_some_iff.1 p1).1
  have hcells : cells.length = xs.length * t.n := w2.len (fun x cs F h => ORep.len t h)
  have hw3 : F = b :: G := by rw [w3]; rfl
  have hcb : cells[k * t.n + o]? = some u := by
    rw [s1, List.append_assoc, List.getElem?_append_right (by omega), s3, Nat.add_sub_cancel_left, List.getElem?_append_left ho]
    exact p1
  have hcell := cellsAt_take (W := W) (b := b) (m := xs.length * t.n) q1 (k * t.n + o) u (by rw [q2]; exact hcb)
  rw [Nat.zero_add] at hcell
  refine ⟨u, H1, b :: (G0 ++ H2 ++ G2), fun z => ?_, List.mem_cons_self, hcell.1, p3, fun W1 u' zs F1' hkeep hb1 hnd hb hol => ?_⟩
  · rw [hw3, s2, List.count_cons, List.count_cons, List.count_append, List.count_append, List.count_append, List.count_append, p2 z]
    omega
  · have hbG : b ∉ G := by rw [hw3, List.nodup_cons] at hnd; exact hnd.1
    have hin : ∀ p, p ∈ G0 ∨ p ∈ H2 ∨ p ∈ G2 → W1.heap[p]? = W.heap[p]? := fun p hp => by
      refine hkeep p (by simp only [List.mem_cons, List.mem_append]; rcases hp with h | h | h <;> simp [h]) (fun e => hbG ?_)
      subst e
      rw [s2]
      rcases hp with h | h | h
      · simp [h]
      · have h1 := List.count_pos_iff.2 h
        have h2 := p2 p
        have : p ∈ G1 := List.count_pos_iff.1 (by omega)
        simp [this]
      · simp [h]
    obtain ⟨Fe, r1, r2⟩ := p4 W1 u' zs F1' (fun p hp => hin p (.inr (.inl hp))) hol
    have hrows : ORows (ORep W1 t) (xs.set k (putAt r.t zs t (nth t xs k) o)) (c0 ++ c1.set o u' ++ c2) (G0 ++ Fe ++ G2) := by
      rw [List.set_eq_take_append_cons_drop, if_pos hk]
      have h1 : ORows (ORep W1 t) (putAt r.t zs t (nth t xs k) o :: xs.drop (k + 1)) (c1.set o u' ++ c2) (Fe ++ G2) := ⟨_, _, _, _, r1, s6.keep (fun p hp => hin p (.inr (.inr hp))), rfl, rfl⟩
      have := (s4.keep (W1 := W1) (fun p hp => hin p (.inl hp))).app h1
      simpa only [List.append_assoc] using this
    refine ⟨b :: (G0 ++ Fe ++ G2), ⟨T, _, G0 ++ Fe ++ G2, ⟨?_, .inr ⟨b, cap, cur.setIfInBounds (k * t.n + o) u', by rw [List.length_set], Nat.zero_le _, ?_, by rw [List.length_set]; exact q3, q4, by simpa using q5, ?_⟩⟩, hrows, rfl⟩, fun z => ?_⟩
    · rw [hrows.len (fun x cs F h => ORep.len t h)]
    · rw [hb]
      unfold World.setCell
      simp [Array.getElem?_modify, q1]
    · rw [List.length_set, Array.toList_setIfInBounds, List.take_set, q2, s1, List.append_assoc, List.set_append_right _ _ (by omega), s3, Nat.add_sub_cancel_left, List.set_append_left _ _ ho, List.append_assoc]
    · rw [List.count_cons, List.count_cons, List.count_append, List.count_append, List.count_append, List.count_append, r2 z]
      omega
section
variable {P : Program} {X : List Nat} {W : World} {E : Env} {M : Mem} {a : Act} {tm : List AV} {o : Oper}
theorem heap_setCell_self {W : World} {b o : Nat} {u : Value} (h : W.cell? ⟨b, o, none⟩ = some u) : (W.setCell ⟨b, o, none⟩ u).heap[b]? = W.heap[b]? := by
  unfold World.setCell World.cell? at *
  simp only [Array.getElem?_modify, if_true]
  cases hb : W.heap[b]? with
  | none => rfl
  | some ob =>
    rw [hb] at h
    cases ob with
    | cells c T fr =>
      have h : c[o]? = some u := by simpa using h
      have : c.setIfInBounds o u = c := by
        obtain ⟨h1, h2⟩ := Array.getElem?_eq_some_iff.1 h
        apply Array.ext (by simp)
        intro i hi hi'
        rw [Array.getElem_setIfInBounds]
        split
        · rename_i e; subst e; exact h2.symm
        · rfl
      simp [this]
    | _ => rfl
theorem heap_setCell_two {W : World} {p : Addr} {u v : Value} {q : Nat} : ((W.setCell p u).setCell p v).heap[q]? = (W.setCell p v).heap[q]? := by
  unfold World.setCell
  simp only [Array.getElem?_modify]
  by_cases h : p.block = q
  · subst h
    simp only [if_true]
    cases hb : W.heap[p.block]? with
    | none => rfl
    | some ob =>
      cases ob with
      | cells c T fr => cases p.spot <;> simp
      | _ => rfl
  · simp [h]
theorem olist_nil (W : World) (t : Ty) : OList W (ORep W t) t.n [] (.slice none 0 0) [] := ⟨0, [], [], World.ownsRow_nil W 0 0 t.n, ⟨rfl, rfl⟩, rfl⟩
theorem liftM_spec {M' : Mem} {i v c n k o : Nat} (h : liftM M i v c n k o = some M') : ∃ (t : Ty) (xs : List t.den) (r : RowC), M[i]? = some (.row t xs v c none) ∧ n = t.n ∧ listAt t (nth t xs k) o = some r ∧ readSl M i v c n k o = some r ∧
    M' = (M.set i (.row t xs v (c + 1) (some (k, o, M.length)))) ++ [.row r.t r.xs 0 0 none] := by
  unfold liftM at h
  split at h
  · rename_i t xs cv cc hM
    cases hb : (Nat.beq v cv && Nat.beq c cc) && Nat.beq n t.n with
    | false => rw [hb] at h; cases h
    | true =>
      rw [hb] at h
      simp only [cond_true] at h
      cases hl : listAt t (nth t xs k) o with
      | none => rw [hl] at h; cases h
      | some r =>
        rw [hl] at h
        obtain rfl := Option.some.inj h
        have hbb := hb
        rw [Bool.and_eq_true, Bool.and_eq_true] at hb
        obtain ⟨⟨h1, h2⟩, h3⟩ := hb
        obtain rfl := Nat.eq_of_beq_eq_true h1
        obtain rfl := Nat.eq_of_beq_eq_true h2
        refine ⟨t, xs, r, hM, Nat.eq_of_beq_eq_true h3, hl, ?_, rfl⟩
        unfold readSl
        rw [hM]
        simp only [hbb, cond_true]
        exact hl
  · cases h
/-- a list taken out -/
theorem lift_rep {M' : Mem} {i v c n k o : Nat} {u : Value} (hM : RepM X W E M) (h : liftM M i v c n k o = some M') (hu : inRow W E M i v c n k o u) :
    ∃ E', Grow W E W E' ∧ MemOk W E M W E' M' ∧ RepM X W E' M' ∧ ∃ e, E'[M.length]? = some e ∧ e.val = u ∧ atRow E' M' M.length 0 (fun e => e.val = u) := by
  obtain ⟨t, xs, r, hi, rfl, hl, hrs, rfl⟩ := liftM_spec h
  obtain ⟨t2, xs2, e, b, cap, F0, k1, k2, k3, k4, k5, k6, k7, k8, k9⟩ := sl_of hM hrs hu
  rw [hi] at k1
  injection k1 with k1
  injection k1 with k1 kx _ _ _
  subst k1
  obtain rfl := eq_of_heq kx
  have hil := (List.getElem?_eq_some_iff.1 hi).1
  have hilE : i < E.length := by rw [← hM.len]; exact hil
  have hol : OList W (ORep W t) t.n xs e.val e.foot := hM.at_ i _ e hi k2
  have hnd := foot_nodup0 hM k2
  rw [k6] at hol
  obtain ⟨u2, F1, F2, c1, c2, c3, c4, c5⟩ := olist_put hol k5 hl
  rw [k7] at c3
  obtain rfl := Option.some.inj c3
  obtain ⟨F', d1, d2⟩ := c5 (W.setCell ⟨b, k * t.n + o, none⟩ (.slice none 0 0)) (.slice none 0 0) [] [] (fun p _ hp => Below.heap_setCell W _ _ p (fun e => hp e)) (by simp) hnd rfl (olist_nil _ _)
  obtain ⟨e1, he1⟩ : ∃ e1 : EB, e1 = ⟨e.blk, e.val, F'⟩ := ⟨_, rfl⟩
  obtain ⟨e2, he2⟩ : ∃ e2 : EB, e2 = ⟨0, u, F1⟩ := ⟨_, rfl⟩
  have inE : ∀ q ∈ foots (E.set i e1 ++ [e2]), q ∈ foots E := fun q hq => by
    rw [foots_append, List.mem_append] at hq
    have sub : q ∈ e.foot → q ∈ foots E := fun h => mem_foots.2 ⟨e, List.mem_of_getElem? k2, h⟩
    rcases hq with hq | hq
    · obtain ⟨e', h1, h2⟩ := mem_foots.1 hq
      rcases List.mem_or_eq_of_mem_set h1 with h1 | rfl
      · exact mem_foots.2 ⟨e', h1, h2⟩
      · rw [he1] at h2
        have h3 := List.count_pos_iff.2 (show q ∈ F' from h2)
        have h4 := d2 q
        have h5 := c1 q
        exact sub (List.count_pos_iff.1 (by simp at h4; omega))
    · have hq : q ∈ F1 := by simpa [foots, he2] using hq
      have h3 := List.count_pos_iff.2 hq
      have h5 := c1 q
      exact sub (List.count_pos_iff.1 (by omega))
  have hlen : (E.set i e1).length = M.length := by rw [List.length_set]; exact hM.len.symm
  have g : Grow W E W (E.set i e1 ++ [e2]) := ⟨rfl, rfl, rfl, Nat.le_refl _, fun _ _ _ => rfl, fun q hq => .inl (inE q hq), fun j ej hj => by
    have hjl : j < (E.set i e1).length := by rw [List.length_set]; exact (List.getElem?_eq_some_iff.1 hj).1
    by_cases hji : i = j
    · subst hji
      rw [k2] at hj
      obtain rfl := Option.some.inj hj
      exact ⟨e1, by rw [List.getElem?_append_left hjl, List.getElem?_set_self hilE], by rw [he1]⟩
    · exact ⟨ej, by rw [List.getElem?_append_left hjl, List.getElem?_set_ne hji]; exact hj, rfl⟩⟩
  have m : MemOk W E M W (E.set i e1 ++ [e2]) (M.set i (.row t xs v (c + 1) (some (k, o, M.length))) ++ [.row r.t r.xs 0 0 none]) := memOk_upd (fun j t' xs' v' c' hh' hj => by
      have hjl := (List.getElem?_eq_some_iff.1 hj).1
      rw [List.getElem?_append_left (by rw [List.length_set]; exact hjl)]
      by_cases hji : i = j
      · subst hji
        rw [hi] at hj
        injection hj with hj
        injection hj with a1 a2 a3 a4 a5
        subst a1
        subst a3
        subst a4
        refine .inr (.inr (.inl ⟨_, _, _, List.getElem?_set_self hil, by omega, fun e' he' => ⟨e1, by rw [List.getElem?_append_left (by rw [List.length_set]; exact hilE), List.getElem?_set_self hilE], ?_⟩⟩))
        rw [k2] at he'
        obtain rfl := Option.some.inj he'
        rw [he1]
      · rw [List.getElem?_set_ne hji]
        exact .inr (.inr (.inr ⟨hj, fun e' he' => ⟨by rw [List.getElem?_append_left (by rw [List.length_set]; exact (List.getElem?_eq_some_iff.1 he').1), List.getElem?_set_ne hji]; exact he', fun _ _ => rfl⟩⟩))) (fun j hj => by
      have hjl := (List.getElem?_eq_some_iff.1 hj).1
      rw [List.getElem?_append_left (by rw [List.length_set]; exact hjl)]
      by_cases hji : i = j
      · subst hji; rw [hi] at hj; cases hj
      · rw [List.getElem?_set_ne hji]; exact hj)
  have hEj : (E.set i e1 ++ [e2])[M.length]? = some e2 := by rw [List.getElem?_append_right (by omega), hlen, Nat.sub_self]; rfl
  have hMj : (M.set i (.row t xs v (c + 1) (some (k, o, M.length))) ++ [Blk.row r.t r.xs 0 0 none])[M.length]? = some (.row r.t r.xs 0 0 none) := by
    rw [List.getElem?_append_right (by rw [List.length_set]; exact Nat.le_refl _), List.length_set, Nat.sub_self]
    rfl
  have hat : atRow (E.set i e1 ++ [e2]) (M.set i (.row t xs v (c + 1) (some (k, o, M.length))) ++ [Blk.row r.t r.xs 0 0 none]) M.length 0 (fun e => e.val = u) := by
    unfold atRow
    rw [hMj]
    exact ⟨Nat.le_refl _, fun _ => ⟨e2, hEj, by rw [he2]⟩⟩
  refine ⟨_, g, m, repM_new hM g m (by rw [List.length_append, List.length_append, List.length_set, hlen]; rfl) (nodup_of_cnt fun z => ?_) (fun j b' e' hb' he' => ?_) (fun q hq => hM.lt q (inE q hq)), e2, hEj, by rw [he2], hat⟩
  · have n1 := cnt_set (e' := e1) z k2
    have n2 := cnt_le hM z
    have n3 : e1.foot.count z = F'.count z := by rw [he1]
    have n4 : (foots [e2]).count z = F1.count z := by simp [foots, he2]
    have n5 := d2 z
    have n6 := c1 z
    rw [foots_append, List.count_append]
    simp at n5
    omega
  · by_cases hjl : j < M.length
    · rw [List.getElem?_append_left (by rw [List.length_set]; exact hjl)] at hb'
      rw [List.getElem?_append_left (by omega)] at he'
      by_cases hji : i = j
      · subst hji
        rw [List.getElem?_set_self hil] at hb'
        rw [List.getElem?_set_self hilE] at he'
        obtain rfl := Option.some.inj hb'
        obtain rfl := Option.some.inj he'
        refine .inr ⟨b, xs.length, cap, r, by rw [he1]; exact k6, k5, hl, ?_, ?_⟩
        · rw [he1]
          simp only
          rw [k6]
          exact d1
        · refine atRow.imp hat (fun e' he' => ?_)
          rw [he']
          exact k7
      · rw [List.getElem?_set_ne hji] at hb' he'
        exact .inl ⟨hb', he', fun _ _ => rfl⟩
    · have hjl' : j = M.length := by
        have := (List.getElem?_eq_some_iff.1 hb').1
        rw [List.length_append, List.length_set] at this
        simp at this
        omega
      subst hjl'
      rw [hMj] at hb'
      rw [hEj] at he'
      obtain rfl := Option.some.inj hb'
      obtain rfl := Option.some.inj he'
      refine .inr ?_
      rw [he2]
      exact c4
theorem closeM_cases (M : Mem) (i : Nat) : closeM M i = M ∨ ∃ (t : Ty) (xs : List t.den) (v c k o j : Nat) (r : RowC) (ys : List r.t.den) (c' : Nat), M[i]? = some (.row t xs v c (some (k, o, j))) ∧ M[j]? = some (.row r.t ys 0 c' none) ∧ j ≠ i ∧ listAt t (nth t xs k) o = some r ∧
    closeM M i = (killM M [j]).set i (.row t (xs.set k (putAt r.t ys t (nth t xs k) o)) v (c + 1) none) := by
  unfold closeM
  split
  · rename_i t xs v c k o j hi
    split
    · rename_i a' ys w c' hj
      split
      · rename_i r hl
        cases hb : (Nat.beq w 0 && !Nat.beq j i) && decide (r.t = a') with
        | false => exact .inl rfl
        | true =>
          simp only [Bool.and_eq_true, decide_eq_true_eq] at hb
          obtain ⟨⟨h1, h2⟩, h3⟩ := hb
          obtain rfl := Nat.eq_of_beq_eq_true h1
          subst h3
          refine .inr ⟨t, xs, v, c, k, o, j, r, ys, c', hi, hj, fun e => ?_, hl, rfl⟩
          subst e
          simp at h2
      · exact .inl rfl
    · exact .inl rfl
  · exact .inl rfl
/-- .. and laid back -/
theorem close_rep (hM : RepM X W E M) (i : Nat) : ∃ E', Grow W E W E' ∧ MemOk W E M W E' (closeM M i) ∧ RepM X W E' (closeM M i) := by
  rcases closeM_cases M i with h | ⟨t, xs, v, c, k, o, j, r, ys, c', hi, hj, hji, hl, hc⟩
  · rw [h]; exact ⟨E, Grow.refl W E, MemOk.refl W E M, hM⟩
  · rw [hc]
    have hiE : i < E.length := by rw [← hM.len]; exact (List.getElem?_eq_some_iff.1 hi).1
    have hjE : j < E.length := by rw [← hM.len]; exact (List.getElem?_eq_some_iff.1 hj).1
    obtain ⟨e, he⟩ : ∃ e, E[i]? = some e := ⟨_, List.getElem?_eq_getElem hiE⟩
    obtain ⟨ej, hej⟩ : ∃ e, E[j]? = some e := ⟨_, List.getElem?_eq_getElem hjE⟩
    obtain ⟨b, l, cap, r0, h1, h2, h3, h4, h5⟩ := hM.at_ i _ e hi he
    rw [hl] at h3
    obtain rfl := Option.some.inj h3
    have hoj : OList W (ORep W r.t) r.t.n ys ej.val ej.foot := hM.at_ j _ ej hj hej
    unfold atRow at h5
    rw [hj] at h5
    obtain ⟨ej', q1, q2⟩ := h5.2 rfl
    rw [hej] at q1
    obtain rfl := Option.some.inj q1
    have hll : l = xs.length := by
      rw [h1] at h4
      obtain ⟨A, c2, hsl⟩ := olist_slice h4
      injection hsl with _ hll _
      rw [hll, List.length_set]
    subst hll
    have hset := put_set h2 hl [] ys
    obtain ⟨ys0, hys0⟩ : ∃ ys0, ys0 = xs.set k (putAt r.t [] t (nth t xs k) o) := ⟨_, rfl⟩
    have hyl : ys0.length = xs.length := by rw [hys0, List.length_set]
    have hl0 : listAt t (nth t ys0 k) o = some ⟨r.t, [], 0⟩ := by rw [hys0, nth_set_self h2]; exact listAt_put t [] hl
    rw [← hys0] at h4 hset
    have hnd := foot_nodup0 hM he
    have hbf : b ∈ e.foot := by
      obtain ⟨T, cells, G, _, _, h6⟩ := h4
      rw [h6, h1]
      simp [Value.ownBlock]
    rw [h1, ← hyl] at h4
    obtain ⟨u2, F1, F2, c1, c2, c3, c4, c5⟩ := olist_put h4 (by rw [hyl]; exact h2) hl0
    obtain ⟨F', d1, d2⟩ := c5 W ej.val ys ej.foot (fun p _ hp => (Below.heap_setCell W _ _ p (fun e => hp e)).symm) (fun hb => foot_disj hM.nodup he hej (fun e => hji e.symm) hbf hb) hnd (by
      rw [heap_setCell_two, heap_setCell_self q2]) hoj
    rw [hyl, ← h1] at d1
    rw [show ys0.set k (putAt r.t ys t (nth t ys0 k) o) = _ from hset] at d1
    obtain ⟨E', g, m, rm⟩ := rows_turn (W' := W) (js := [j]) (ys := xs.set k (putAt r.t ys t (nth t xs k) o)) (F2 := F') (h1 := none) hM hi he rfl (fun q hq => by obtain rfl := List.mem_singleton.1 hq; exact ⟨_, _, _, _, hj⟩) (fun q hq => by obtain rfl := List.mem_singleton.1 hq; exact hji) (fun q hq => by
      rw [h1] at hq
      simp [Value.ownBlock] at hq
      rw [hq]
      exact hbf) ⟨rfl, rfl, rfl, Nat.le_refl _, fun _ _ _ => rfl⟩ (fun _ _ _ _ => d1) (fun z => by
      have e1 := d2 z
      have e2 := c1 z
      have e3 : feet E [j] = ej.foot := by simp [feet, hej]
      rw [e3]
      omega)
    exact ⟨E', g, m, rm⟩
theorem closeL_rep : ∀ (l : List Nat) {M : Mem} {E : Env}, RepM X W E M → ∃ E', Grow W E W E' ∧ MemOk W E M W E' (closeL M l) ∧ RepM X W E' (closeL M l)
  | [], M, E, hM => ⟨E, Grow.refl W E, MemOk.refl W E M, hM⟩
  | i :: l, M, E, hM => by
    obtain ⟨E1, g1, m1, r1⟩ := close_rep hM i
    obtain ⟨E2, g2, m2, r2⟩ := closeL_rep l r1
    exact ⟨E2, g1.trans g2, m1.trans m2, r2⟩
theorem closeAll_rep (hM : RepM X W E M) : ∃ E', Grow W E W E' ∧ MemOk W E M W E' (closeAll M) ∧ RepM X W E' (closeAll M) := closeL_rep _ hM
theorem storeH_spec {t : TypeId} {i v n k q : Nat} {l' : List AC} (h : (storeH P M t i v n k q l').need) : ∃ (tt : Ty) (xs : List tt.den) (cc j0 : Nat) (r : RowC) (ys : List r.t.den) (js : List Nat), M[i]? = some (.row tt xs v cc (some (k, q, j0))) ∧ n = tt.n ∧ l'.length = 1 ∧ sizeT P t = 1 ∧
    listAt tt (nth tt xs k) q = some r ∧ ownWhole M (.list r.t) l' = some (ys, js) ∧ distinct js = true ∧ (∀ j ∈ js, j ≠ i) ∧ (storeH P M t i v n k q l').val = .any ∧ (storeH P M t i v n k q l').mem = (killM M js).set i (.row tt (xs.set k (putAt r.t ys tt (nth tt xs k) q)) v (cc + 1) none) := by
  unfold storeH at h ⊢
  split at h
  · rename_i tt xs cv cc k0 o0 j0 hM
    cases hc : (Nat.beq v cv && Nat.beq n tt.n) && (Nat.beq q o0 && (Nat.beq l'.length 1 && Nat.beq (sizeT P t) 1)) with
    | false => rw [hc] at h; exact h.elim
    | true =>
      rw [hc] at h
      simp only [cond_true] at h ⊢
      simp only [Bool.and_eq_true] at hc
      obtain ⟨⟨c1, c2⟩, c3, c4, c5⟩ := hc
      obtain rfl := Nat.eq_of_beq_eq_true c1
      obtain rfl := Nat.eq_of_beq_eq_true c3
      cases hl : listAt tt (nth tt xs k0) q with
      | none => rw [hl] at h; exact h.elim
      | some r =>
        simp only [hl] at h ⊢
        cases ho : ownWhole M (.list r.t) l' with
        | none => rw [ho] at h; exact h.elim
        | some p =>
          obtain ⟨ys, js⟩ := p
          simp only [ho] at h ⊢
          cases hd : distinct js && js.all (fun j => !Nat.beq j i) with
          | false => rw [hd] at h; exact h.elim
          | true =>
            rw [hd] at h
            simp only [cond_true] at h ⊢
            subst h
            rw [Bool.and_eq_true] at hd
            exact ⟨tt, xs, cc, j0, r, ys, js, hM, Nat.eq_of_beq_eq_true c2, Nat.eq_of_beq_eq_true c4, Nat.eq_of_beq_eq_true c5, hl, ho, hd.1, fun j hj e => by
              have := List.all_eq_true.1 hd.2 j hj
              subst e
              simp at this, trivial, rfl⟩
  · exact h.elim
/-- a list laid where one was taken out -/
theorem does_storeH {t : TypeId} {x y : Operand} {i v n k q : Nat} {l' : List AC} (hM : RepM X W E M) (ht : RepT X W E M tm a.tmps.toList) (ho : o.op = .store t x y) (hx : evalA tm x = .w (.c (.rp i v n k q))) (hy : cellsA (evalA tm y) = some l')
    (hn : (storeH P M t i v n k q l').need) : Does X P o a W E M (storeH P M t i v n k q l').val (storeH P M t i v n k q l').mem := by
  obtain ⟨tt, xs, cc, j0, r, ys, js, hi, rfl, hl1, hs1, hl, hown, hd, hji, e1, e2⟩ := storeH_spec hn
  rw [e1, e2]
  have hp := evalA_rep ht x
  rw [hx] at hp
  have hp := (hp : RepC X W E M (.rp i v tt.n k q) _).2
  unfold atRow at hp
  rw [hi] at hp
  obtain ⟨e, he, b, l, c, hev, hk, hv⟩ := hp.2 rfl
  obtain ⟨b', l2, cap, r0, h1, h2, h3, h4, _⟩ := hM.at_ i _ e hi he
  rw [hl] at h3
  obtain rfl := Option.some.inj h3
  rw [hev] at h1
  injection h1 with h1 hl2 hcap
  injection h1 with h1
  injection h1 with h1
  subst h1
  subst hl2
  subst hcap
  have hll : l = xs.length := by
    rw [hev] at h4
    obtain ⟨A, c2, hsl⟩ := olist_slice h4
    injection hsl with _ hll _
    rw [hll, List.length_set]
  subst hll
  have hset := put_set hk hl [] ys
  obtain ⟨ys0, hys0⟩ : ∃ ys0, ys0 = xs.set k (putAt r.t [] tt (nth tt xs k) q) := ⟨_, rfl⟩
  have hyl : ys0.length = xs.length := by rw [hys0, List.length_set]
  have hl0 : listAt tt (nth tt ys0 k) q = some ⟨r.t, [], 0⟩ := by rw [hys0, nth_set_self hk]; exact listAt_put tt [] hl
  rw [← hys0] at h4 hset
  have hnd := foot_nodup0 hM he
  have hbf : b ∈ e.foot := by
    obtain ⟨T, cells, G, _, _, h6⟩ := h4
    rw [h6, hev]
    simp [Value.ownBlock]
  have hmem : b ∈ foots E := mem_foots.2 ⟨e, List.mem_of_getElem? he, hbf⟩
  rw [hev, ← hyl] at h4
  -- the block as it lies
  obtain ⟨T, cells, G, w1, w2, w3⟩ := h4
  obtain ⟨cur1, q1, q2, q3, q4, q5⟩ := ownsRow_cells w1
  obtain ⟨cur, hcur, hc1⟩ : ∃ cur, W.heap[b]? = some (.cells cur T (0, 0)) ∧ cur1 = cur.setIfInBounds (k * tt.n + q) (.slice none 0 0) := by
    unfold World.setCell at q1
    simp only [Array.getElem?_modify, if_true] at q1
    cases hb : W.heap[b]? with
    | none => rw [hb] at q1; cases q1
    | some ob =>
      rw [hb] at q1
      cases ob with
      | cells c0 T0 fr =>
        have q1 := Option.some.inj q1
        injection q1 with z1 z2 z3
        subst z2
        subst z3
        exact ⟨c0, rfl, by rw [← z1]; rfl⟩
      | _ => cases q1
  have h4 : OList (W.setCell ⟨b, k * tt.n + q, none⟩ (.slice none 0 0)) (ORep (W.setCell ⟨b, k * tt.n + q, none⟩ (.slice none 0 0)) tt) tt.n ys0 (.slice (some ⟨b, 0, none⟩) ys0.length c) e.foot := ⟨T, cells, G, w1, w2, w3⟩
  obtain ⟨u2, F1, F2, c1, c2, c3, c4, c5⟩ := olist_put h4 (by rw [hyl]; exact hk) hl0
  have hy' := cellsA_rep (evalA_rep ht y) hy
  obtain ⟨w, hw⟩ : ∃ w, (a.eval y).cells.toList = [w] := by
    have := hy'.len
    rw [hl1] at this
    exact List.length_eq_one_iff.1 this
  have hoff : k * tt.n + q < cur.size := by
    have hcell := c3
    unfold World.cell? at hcell
    rw [q1] at hcell
    have hcell : cur1[k * tt.n + q]? = some u2 := by simpa using hcell
    have := (Array.getElem?_eq_some_iff.1 hcell).1
    rw [hc1] at this
    simpa using this
  have hrep : ORep W (.list r.t) ys [w] (feet E js) ∧ ∀ j ∈ js, ∃ t xs v c, M[j]? = some (.row t xs v c none) := by
    unfold ownWhole at hown
    split at hown
    · rename_i y' js' ho'
      obtain ⟨rfl, rfl⟩ := Prod.mk.inj (Option.some.inj hown)
      obtain ⟨c1', u1, ee, z1, z2, z3⟩ := ownT_rep hM (.list r.t) ho' hy'
      obtain rfl : u1 = [] := z2
      rw [List.append_nil, hw] at ee
      rw [ee]
      exact ⟨z1, z3⟩
    · cases hown
  obtain ⟨⟨w', hww, holw⟩, hjs⟩ := hrep
  obtain rfl : w = w' := by simpa using hww
  obtain ⟨inf, hinf⟩ : ∃ i, P.info? t = some i := by
    unfold sizeT at hs1
    cases hq : P.info? t with
    | none => rw [hq] at hs1; cases hs1
    | some i => exact ⟨i, rfl⟩
  have hsz : inf.size = 1 := by unfold sizeT at hs1; rw [hinf] at hs1; exact hs1
  have hst := run_storeCells_at (P := P) b (k * tt.n + q) T (a.eval y).cells.toList 0 cur W hcur (by rw [hw]; simp; omega) (fun v hv => List.all_eq_true.1 hy'.all v hv)
  simp only [Nat.add_zero, hw] at hst
  obtain ⟨W', hW'⟩ : ∃ W', W' = W.setRow b (cur.toList.take (k * tt.n + q) ++ [w] ++ cur.toList.drop (k * tt.n + q + [w].length)).toArray := ⟨_, rfl⟩
  rw [← hW'] at hst
  have keep : ∀ p, p ≠ b → W'.heap[p]? = W.heap[p]? := fun p hp => by rw [hW']; exact setRow_other W b p _ (fun e => hp e)
  have hbw : b ∉ feet E js := fun hb => by
    obtain ⟨j, hj, e', he', hbe⟩ := feet_mem hb
    exact foot_disj hM.nodup he' he (hji j hj) hbe hbf
  obtain ⟨F', d1, d2⟩ := c5 W' w ys (feet E js) (fun p _ hp => (keep p hp).trans (Below.heap_setCell W _ _ p (fun e => hp e)).symm) hbw hnd (by
    rw [heap_setCell_two, hW', setRow_heap W b cur _ T _ hcur]
    unfold World.setCell
    simp only [Array.getElem?_modify, if_true, hcur, Option.map_some, Option.isSome, Bool.false_eq_true, if_false]
    congr 2
    apply Array.toList_inj.1
    rw [List.toList_toArray, Array.toList_setIfInBounds, List.set_eq_take_append_cons_drop, if_pos (by simpa using hoff)]
    simp) (OList.keep holw (fun p hp => keep p (fun e => hbw (e ▸ hp))))
  rw [hyl, ← hev] at d1
  rw [show ys0.set k (putAt r.t ys tt (nth tt ys0 k) q) = _ from hset] at d1
  obtain ⟨E', g, m, rm⟩ := rows_turn (W' := W') (ys := xs.set k (putAt r.t ys tt (nth tt xs k) q)) (F2 := F') (h1 := none) hM hi he hd hjs hji (fun p hp => by
    rw [hev] at hp
    simp [Value.ownBlock] at hp
    rw [hp]
    exact hbf) ⟨by rw [hW']; rfl, by rw [hW']; rfl, by rw [hW']; rfl, by rw [hW']; simp, fun p _ hne => keep p (fun e' => hne (by rw [hev, e']; rfl))⟩ (fun _ _ _ _ => d1) (fun z => by
    have e1 := d2 z
    have e2 := c1 z
    omega)
  refine ⟨undef, W', E', .inr ⟨?_, rfl⟩, g, m, rm, trivial⟩
  unfold execOp
  simp only [ho, hv, Instr.storeAt, Instr.sureAddr, storeVar, sizeOf, typeInfo, Sem.run_bind, Sem.run_pure, Result.andThen_ok, run_program, hinf, Sem.run_ite]
  have hcs : (a.eval y).cells.size = 1 := by
    have := congrArg List.length hw
    simpa using this
  rw [if_neg (by omega), hw, hst]
  rfl
/-- a temporary's list taken out: the temporary names the row -/
theorem liftC_rep {c c' : AC} {M' : Mem} {v : Value} (hM : RepM X W E M) (h : liftC M c = some (c', M')) (hr : RepC X W E M c v) : ∃ E', Grow W E W E' ∧ MemOk W E M W E' M' ∧ RepM X W E' M' ∧ RepC X W E' M' c' v := by
  cases c with
  | sl i ver cc n k o =>
    have h : (liftM M i ver cc n k o).map (fun M' => (AC.row M.length 0, M')) = some (c', M') := h
    cases hl : liftM M i ver cc n k o with
    | none => rw [hl] at h; cases h
    | some M2 =>
      rw [hl] at h
      obtain ⟨rfl, rfl⟩ := Prod.mk.inj (Option.some.inj h)
      obtain ⟨E', g, m, rm, e, _, _, hat⟩ := lift_rep hM hl hr.2
      exact ⟨E', g, m, rm, hr.1, hat.imp (fun e he => he.symm)⟩
  | _ => cases h
theorem liftL_rep : ∀ {l l' : List AC} {M' : Mem} {vs : List Value}, RepM X W E M → liftL M l = some (l', M') → RepL X W E M l vs → ∃ E', Grow W E W E' ∧ MemOk W E M W E' M' ∧ RepM X W E' M' ∧ RepL X W E' M' l' vs
  | [], _, _, _, _, h, _ => by cases h
  | c :: l, l', M', vs, hM, h, ⟨v, r, e, h1, h2⟩ => by
    unfold liftL at h
    cases hc : liftC M c with
    | some p =>
      obtain ⟨c', M2⟩ := p
      rw [hc] at h
      obtain ⟨rfl, rfl⟩ := Prod.mk.inj (Option.some.inj h)
      obtain ⟨E', g, m, rm, rc⟩ := liftC_rep hM hc h1
      exact ⟨E', g, m, rm, v, r, e, rc, h2.mono g m hM.len⟩
    | none =>
      rw [hc] at h
      simp only at h
      cases hl : liftL M l with
      | none => rw [hl] at h; cases h
      | some p =>
        obtain ⟨l2, M2⟩ := p
        rw [hl] at h
        obtain ⟨rfl, rfl⟩ := Prod.mk.inj (Option.some.inj h)
        obtain ⟨E', g, m, rm, rl⟩ := liftL_rep hM hl h2
        exact ⟨E', g, m, rm, v, r, e, h1.mono g m hM.len, rl⟩
theorem liftV_rep {x x' : AV} {M' : Mem} {v : Value} (hM : RepM X W E M) (h : liftV M x = some (x', M')) (hr : RepV X W E M x v) : ∃ E', Grow W E W E' ∧ MemOk W E M W E' M' ∧ RepM X W E' M' ∧ RepV X W E' M' x' v := by
  unfold liftV at h
  split at h
  · rename_i i ver cc n k o m y q
    cases hl : liftM M i ver cc n k o with
    | none => rw [hl] at h; cases h
    | some M2 =>
      rw [hl] at h
      obtain ⟨rfl, rfl⟩ := Prod.mk.inj (Option.some.inj h)
      obtain ⟨h0, b, l, cap, h1, h2, h3⟩ := (hr : RepC X W E M (.sp i ver cc n k o m y q) v)
      obtain ⟨E', g, mm, rm, e, _, _, hat⟩ := lift_rep hM hl h1
      exact ⟨E', g, mm, rm, h0, hat.imp (fun e he => ⟨b, l, cap, he, h2, h3⟩)⟩
  · rename_i c _
    cases hc : liftC M c with
    | none => rw [hc] at h; cases h
    | some p =>
      obtain ⟨c', M2⟩ := p
      rw [hc] at h
      obtain ⟨rfl, rfl⟩ := Prod.mk.inj (Option.some.inj h)
      obtain ⟨E', g, m, rm, rc⟩ := liftC_rep hM hc hr
      exact ⟨E', g, m, rm, rc⟩
  · rename_i l
    cases hl : liftL M l with
    | none => rw [hl] at h; cases h
    | some p =>
      obtain ⟨l2, M2⟩ := p
      rw [hl] at h
      obtain ⟨rfl, rfl⟩ := Prod.mk.inj (Option.some.inj h)
      obtain ⟨cs, e, hr⟩ := hr
      obtain ⟨E', g, m, rm, rl⟩ := liftL_rep hM hl hr
      exact ⟨E', g, m, rm, cs, e, rl⟩
  · cases h
theorem liftT_rep (hM : RepM X W E M) (ht : RepT X W E M tm a.tmps.toList) (t : Nat) : ∃ E', Grow W E W E' ∧ MemOk W E M W E' (liftT tm M t).2 ∧ RepM X W E' (liftT tm M t).2 ∧ RepT X W E' (liftT tm M t).2 (liftT tm M t).1 a.tmps.toList := by
  unfold liftT
  cases hx : tm[t]? with
  | none => exact ⟨E, Grow.refl W E, MemOk.refl W E M, hM, ht⟩
  | some x =>
    cases hl : liftV M x with
    | none => simp only [hl]; exact ⟨E, Grow.refl W E, MemOk.refl W E M, hM, ht⟩
    | some p =>
      obtain ⟨x', M'⟩ := p
      simp only [hl]
      obtain ⟨v, h1, h2⟩ := ht.get hx
      obtain ⟨E', g, m, rm, rv⟩ := liftV_rep hM hl h2
      refine ⟨E', g, m, rm, ?_⟩
      have := (ht.mono g m hM.len).set t rv
      have hself : a.tmps.toList.set t v = a.tmps.toList := by
        obtain ⟨q1, q2⟩ := List.getElem?_eq_some_iff.1 h1
        rw [← q2]
        exact List.set_getElem_self q1
      rwa [hself] at this
end
end Go.Proofs.YtkompmgleojmlaaDoor
