/-
  Each operation that calls nothing does what the model's operation does.
  Plain: no program. No condition.
-/
import Derived.Test.YtigakalkkaoflaaAmC
import Derived.Laws.CopyRow
set_option linter.unusedSimpArgs false
set_option linter.unusedVariables false
namespace Go.Proofs.Ytigakalkkaoflaa
open Go.ChangeShapes Go.WideShapes Go.ChangeAt Go.RowKit Go.Joins Go.Deep
open GoRep (rep bulk)

section
variable {P : Program} {X : List Nat} {W : World} {E : Env} {M : Mem} {a : Act} {tm : List AV} {o : Oper}
theorem rep_c {c : AC} {v : Value} (h : RepV X W E M (.c c) v) : RepC X W E M c v := h
theorem int_of {k : IntKind} {n : Int} {v : Value} (h : RepV X W E M (.w (.c (.int k n))) v) : v = .int k n ∧ (Lit.int k n).wf = true := h
theorem bool_of {b : Bool} {v : Value} (h : RepV X W E M (.w (.c (.bool b))) v) : v = .bool b := h
theorem str_of {s : ByteArray} {v : Value} (h : RepV X W E M (.w (.c (.str s))) v) : v = .string s ∧ s.size ≤ maxLen := h
theorem does_val {v : AV} {u : Value} (hM : RepM X W E M) (s : Sem Value) (he : execOp a.eval o = (do pure (.value (← s)))) (hs : s.run P W = .ok u W) (hv : RepV X W E M v u) : Does X P o a W E M v M :=
  Does.stay hM (by rw [he]; simp [hs]) hv
theorem pickA_rep {g : Bool} {x y : AV} {u v : Value} (hx : RepV X W E M x u) (hy : RepV X W E M y v) : RepV X W E M (pickA g x y) (if g then u else v) := by
  unfold pickA
  split
  · cases g <;> assumption
  · split
    · rename_i h; subst h; cases g <;> assumption
    · cases g <;> assumption
  · cases g <;> assumption
  · cases g <;> assumption
theorem run_eq_bool {t : TypeId} (hu : P.underlying t = some .bool) (x y : Bool) : (Op.equal t (.bool x) (.bool y)).run P W = .ok (x == y) W := by
  unfold Op.equal
  exact run_equalIn_bool W _ t x y hu
theorem lit_wf {k : IntKind} {x : Int} : (Lit.int k x).wf = true ↔ k.min ≤ x ∧ x ≤ k.max := by simp [Lit.wf]
theorem wf_tmod {k : IntKind} {x y : Int} (h : (Lit.int k x).wf = true) : (Lit.int k (x.tmod y)).wf = true := by
  rw [lit_wf] at h ⊢
  have h0 : k.min ≤ 0 ∧ 0 ≤ k.max := by cases k <;> decide
  rcases Int.le_total 0 x with hx | hx
  · have h1 := Int.tmod_nonneg y hx
    have h2 : x.tmod y ≤ x := by
      have := Int.natAbs_tmod x y
      have h3 : x.natAbs % y.natAbs ≤ x.natAbs := Nat.mod_le _ _
      omega
    omega
  · have h1 : x.tmod y ≤ 0 := by
      have := Int.tmod_nonneg y (show 0 ≤ -x by omega)
      rw [Int.neg_tmod] at this
      omega
    have h2 : x ≤ x.tmod y := by
      have := Int.natAbs_tmod x y
      have h3 : x.natAbs % y.natAbs ≤ x.natAbs := Nat.mod_le _ _
      omega
    omega
theorem intA_run {op : BinOp} {t : TypeId} {k : IntKind} {x y : Int} {xo yo : Operand} (hx : (Lit.int k x).wf = true) (hn : (match op with | .shl => False | .shr => False | op => (intA op k x y).1)) :
    ∃ u, (do eqGuard op t xo yo (.int k x) (.int k y); binOp op t (.int k x) (.int k y) : Sem Value).run P W = .ok u W ∧ RepC X W E M (intA op k x y).2 u := by
  have hg : (eqGuard op t xo yo (.int k x) (.int k y)).run P W = .ok () W := by
    unfold eqGuard
    cases op <;> rfl
  simp only [Sem.run_bind, hg, Result.andThen_ok]
  cases op <;> simp only [intA] at hn ⊢ <;> try exact hn.elim
  case add => exact ⟨_, by simp [binOp, Op.intArith], rfl, wf_wrap _ _⟩
  case sub => exact ⟨_, by simp [binOp, Op.intArith], rfl, wf_wrap _ _⟩
  case mul => exact ⟨_, by simp [binOp, Op.intArith], rfl, wf_wrap _ _⟩
  case quo => exact ⟨_, by simp [binOp, Op.intDiv, hn], rfl, wf_wrap _ _⟩
  case rem => exact ⟨_, by simp [binOp, Op.intDiv, hn], rfl, wf_tmod hx⟩
  case and => exact ⟨_, by simp only [binOp, Op.intBits, ne_eq, not_true, if_false, Sem.run_pure], rfl, wf_wrap _ _⟩
  case or => exact ⟨_, by simp only [binOp, Op.intBits, ne_eq, not_true, if_false, Sem.run_pure], rfl, wf_wrap _ _⟩
  case xor => exact ⟨_, by simp only [binOp, Op.intBits, ne_eq, not_true, if_false, Sem.run_pure], rfl, wf_wrap _ _⟩
  case andNot => exact ⟨_, by simp only [binOp, Op.intBits, ne_eq, not_true, if_false, Sem.run_pure], rfl, wf_wrap _ _⟩
  all_goals exact ⟨_, by simp [binOp, Op.intCmp], rfl⟩
theorem strA_run {op : BinOp} {t : TypeId} {x y : ByteArray} {xo yo : Operand} (hn : (strA op x y).1) :
    ∃ u, (do eqGuard op t xo yo (.string x) (.string y); binOp op t (.string x) (.string y) : Sem Value).run P W = .ok u W ∧ RepC X W E M (strA op x y).2 u := by
  have hg : (eqGuard op t xo yo (.string x) (.string y)).run P W = .ok () W := by
    unfold eqGuard
    cases op <;> rfl
  have he : (x.toList == y.toList) = decide (x = y) := by
    rw [ByteArray.toList_eq, ByteArray.toList_eq, Bool.eq_iff_iff, beq_iff_eq, decide_eq_true_eq]
    exact ⟨fun h => ByteArray.ext (Array.toList_inj.1 h), fun h => by rw [h]⟩
  simp only [Sem.run_bind, hg, Result.andThen_ok]
  cases op <;> simp only [strA] at hn ⊢ <;> try exact hn.elim
  case add =>
    refine ⟨.string (x ++ y), ?_, rfl, by simpa using hn⟩
    have : ¬ ((x.size + y.size : Nat) : Int) > IntKind.i64.max := by
      have : IntKind.i64.max = ((maxLen : Nat) : Int) := by decide
      rw [this]
      omega
    simp only [binOp, Op.stringOp, this, if_false, Sem.run_pure]
  all_goals exact ⟨_, by simp [binOp, Op.stringOp, he], rfl⟩
theorem part_scal {xs : Array Value} {t : TypeId} {n : Nat} {v : Value} {d : TypeDesc} (hu : P.underlying t = some d) (hd : aggD d = false) (hv : xs[n]? = some v) : (part t xs n).run P W = .ok v W := by
  have hagg : (isAgg t).run P W = .ok false W := by
    unfold isAgg
    simp only [Sem.run_bind, run_underlying hu, Result.andThen_ok]
    cases d <;> first | rfl | simp [aggD] at hd
  unfold part
  simp only [Sem.run_bind, hagg, Result.andThen_ok, Bool.false_eq_true, if_false, hv, Sem.run_pure]
theorem scal_run {d : Nat} {t : TypeId} {x y : AC} {u v : Value} (h : scalTy P t x y = true) (hx : RepC X W E M x u) (hy : RepC X W E M y v) :
    ∃ b : Bool, (Op.equalIn (d + 1) t u v).run P W = .ok b W ∧ (∀ l k, eqCells (x :: l) (y :: k) = (b && eqCells l k)) ∧ ∃ td, P.underlying t = some td ∧ aggD td = false := by
  unfold scalTy at h
  split at h
  · rename_i k0 k p k' q hu
    obtain rfl : k = k' := by simpa using h
    obtain ⟨rfl, _⟩ := hx
    obtain ⟨rfl, _⟩ := hy
    exact ⟨p == q, run_equalIn_int W d t k k0 p q hu, fun l k => rfl, _, hu, rfl⟩
  · rename_i p q hu
    obtain rfl : u = .bool p := hx
    obtain rfl : v = .bool q := hy
    exact ⟨p == q, run_equalIn_bool' W d t p q hu, fun l k => rfl, _, hu, rfl⟩
  · rename_i p q hu
    obtain ⟨rfl, _⟩ := hx
    obtain ⟨rfl, _⟩ := hy
    refine ⟨p.toList == q.toList, run_equalIn_string W d t p q hu, fun l k => ?_, _, hu, rfl⟩
    have he : (p.toList == q.toList) = decide (p = q) := by
      rw [ByteArray.toList_eq, ByteArray.toList_eq, Bool.eq_iff_iff, beq_iff_eq, decide_eq_true_eq]
      exact ⟨fun h => ByteArray.ext (Array.toList_inj.1 h), fun h => by rw [h]⟩
    rw [he]
    rfl
  · cases h
theorem eqF_run {d : Nat} {xs ys : Array Value} : ∀ {fs : List Field} {n : Nat} {l k : List AC}, flatFields P fs n l k = true →
    (∀ j c, l[j]? = some c → ∃ v, xs[n + j]? = some v ∧ RepC X W E M c v) → (∀ j c, k[j]? = some c → ∃ v, ys[n + j]? = some v ∧ RepC X W E M c v) →
    (Op.eqFields (d + 1) xs ys fs).run P W = .ok (eqCells l k) W
  | [], _, [], [], _, _, _ => rfl
  | [], _, _ :: _, _, h, _, _ => by simp [flatFields] at h
  | [], _, [], _ :: _, h, _, _ => by simp [flatFields] at h
  | _ :: _, _, [], _, h, _, _ => by simp [flatFields] at h
  | _ :: _, _, _ :: _, [], h, _, _ => by simp [flatFields] at h
  | f :: fs, n, x :: l, y :: k, h, hx, hy => by
    unfold flatFields at h
    rw [Bool.and_eq_true, Bool.and_eq_true, Bool.and_eq_true] at h
    obtain ⟨⟨h1, h2, h3⟩, h4⟩ := h
    have h1 := Nat.eq_of_beq_eq_true h1
    obtain ⟨u, q1, q2⟩ := hx 0 x rfl
    obtain ⟨v, r1, r2⟩ := hy 0 y rfl
    obtain ⟨b, e1, e2, td, e3, e4⟩ := scal_run (d := d) h3 q2 r2
    have hne : f.name ≠ "_" := by simpa using h2
    have p1 := part_scal (P := P) (W := W) (xs := xs) (n := n) e3 e4 q1
    have p2 := part_scal (P := P) (W := W) (xs := ys) (n := n) e3 e4 r1
    have ih := eqF_run (d := d) (xs := xs) (ys := ys) h4 (fun j c hj => by have := hx (j + 1) c (by simpa using hj); rwa [show n + (j + 1) = n + 1 + j from by omega] at this) (fun j c hj => by have := hy (j + 1) c (by simpa using hj); rwa [show n + (j + 1) = n + 1 + j from by omega] at this)
    unfold Op.eqFields
    simp only [if_pos hne, h1, Sem.run_bind, p1, p2, Result.andThen_ok, e1, Sem.run_ite]
    rw [e2]
    cases b
    · simp
    · simpa using ih
theorem repL_at {l : List AC} {cs : List Value} (h : RepL X W E M l cs) : ∀ j c, l[j]? = some c → ∃ v, cs.toArray[0 + j]? = some v ∧ RepC X W E M c v := fun j c hj => by
  obtain ⟨v, h1, h2⟩ := h.get hj
  exact ⟨v, by rw [Nat.zero_add, List.getElem?_toArray]; exact h1, h2⟩
theorem binA_run {op : BinOp} {t : TypeId} {x y : AV} {u v : Value} {xo yo : Operand} (hx : RepV X W E M x u) (hy : RepV X W E M y v) (hn : (binA P op t x y).1) :
    ∃ r, (do eqGuard op t xo yo u v; binOp op t u v : Sem Value).run P W = .ok r W ∧ RepC X W E M (binA P op t x y).2 r := by
  unfold binA at hn ⊢
  split at hn
  · rename_i k p k' q
    obtain ⟨rfl, hwx⟩ := int_of hx
    obtain ⟨rfl, hwy⟩ := int_of hy
    split at hn
    · rename_i hk
      subst hk
      have h2 := intA_run (X := X) (P := P) (W := W) (E := E) (M := M) (op := op) (t := t) (xo := xo) (yo := yo) (k := k) (x := p) (y := q) hwx (by cases op <;> first | exact hn | exact hn.elim)
      simp only [if_true]
      cases op <;> first | exact h2 | exact hn.elim
    · exact hn.elim
  · rename_i p q
    obtain ⟨rfl, _⟩ := str_of hx
    obtain ⟨rfl, _⟩ := str_of hy
    exact strA_run hn
  · rename_i p q
    obtain rfl := bool_of hx
    obtain rfl := bool_of hy
    have hg : ∀ op, (eqGuard op t xo yo (.bool p) (.bool q)).run P W = .ok () W := fun op => by
      unfold eqGuard
      cases op <;> rfl
    simp only [Sem.run_bind, hg, Result.andThen_ok]
    cases op <;> simp only at hn ⊢ <;> try exact hn.elim
    · exact ⟨_, by simp only [binOp, Sem.run_bind, run_eq_bool hn, Result.andThen_ok, Sem.run_pure], rfl⟩
    · exact ⟨_, by simp only [binOp, Sem.run_bind, run_eq_bool hn, Result.andThen_ok, Sem.run_pure], rfl⟩
  · rename_i l k
    obtain ⟨cs, rfl, hl⟩ := (hx : ∃ cs, u = .agg cs.toArray ∧ RepL X W E M l cs)
    obtain ⟨ds, rfl, hk⟩ := (hy : ∃ cs, v = .agg cs.toArray ∧ RepL X W E M k cs)
    have key : flatEq P t l k = true → P.eqGuardType P.depth t = false ∧ (Op.equalIn 10000 t (.agg cs.toArray) (.agg ds.toArray)).run P W = .ok (eqCells l k) W := fun h => by
      unfold flatEq at h
      split at h
      · rename_i fs hu
        rw [Bool.and_eq_true, Bool.and_eq_true] at h
        have hf : P.fieldsOf t = fs := by unfold Program.fieldsOf; rw [hu]
        refine ⟨by simpa using h.2.2, ?_⟩
        rw [run_equalIn_struct W 9999 t cs.toArray ds.toArray (by rw [hf]; exact hu) (by simpa using h.2.1), hf]
        exact eqF_run (d := 9998) h.1 (repL_at hl) (repL_at hk)
      · cases h
    cases op <;> simp only at hn ⊢ <;> try exact hn.elim
    · obtain ⟨k1, k2⟩ := key hn
      exact ⟨.bool (eqCells l k), by simp only [Sem.run_bind, run_eqGuard_agg W _ t xo yo _ _ k1, Result.andThen_ok, run_eql_struct, k2], rfl⟩
    · obtain ⟨k1, k2⟩ := key hn
      exact ⟨.bool (!eqCells l k), by simp only [Sem.run_bind, run_eqGuard_agg W _ t xo yo _ _ k1, Result.andThen_ok, run_neq_struct, k2], rfl⟩
  · exact hn.elim
theorem does_bin {op : BinOp} {t yt : TypeId} {x y : Operand} (hM : RepM X W E M) (ht : RepT X W E M tm a.tmps.toList) (ho : o.op = .binOp op t x y yt) (hn : (binA P op t (evalA tm x) (evalA tm y)).1) :
    Does X P o a W E M (.c (binA P op t (evalA tm x) (evalA tm y)).2) M := by
  obtain ⟨r, h1, h2⟩ := binA_run (xo := x) (yo := y) (evalA_rep ht x) (evalA_rep ht y) hn
  exact does_val hM _ (by unfold execOp; rw [ho]) h1 h2
theorem does_load_box {t : TypeId} {x : Operand} {i q : Nat} {l : List AC} {v : AV} (hM : RepM X W E M) (ht : RepT X W E M tm a.tmps.toList) (ho : o.op = .load t x) (hx : evalA tm x = .w (.c (.bp i q)))
    (hb : M[i]? = some (.box l)) (h : loadA P t l q = some v) : Does X P o a W E M v M := by
  have hp := evalA_rep ht x
  rw [hx] at hp
  obtain ⟨e, he, hv⟩ := (hp : boxAt E i _ q)
  obtain ⟨_, cs, T, hg, hl⟩ := hM.at_ i _ e hb he
  obtain ⟨u, h1, h2⟩ := load_blk (P := P) hg hl h
  exact does_val hM (Instr.loadAt t (a.eval x)) (by unfold execOp; rw [ho]) (by rw [hv]; simpa [Instr.loadAt, Instr.sureAddr] using h1) h2
theorem ep_of {t : Ty} {xs : List t.den} {k q : Nat} {v : Value} (h : RepV X W E M (.w (.c (.ep t xs k q))) v) : ∃ b off cs G, v = .pointer (some ⟨b, off + k * t.n + q, none⟩) ∧ rep W (nth t xs k) cs G ∧ (∀ g ∈ G, g ∉ foots E ∧ g ∉ X) ∧ CellsAt W b (off + k * t.n) cs := by
  obtain ⟨b, off, G, e, hk, hr, hf⟩ := (h : RepC X W E M (.ep t xs k q) v)
  have hx := List.getElem?_eq_getElem hk
  obtain ⟨cs, Gk, h1, h2, h3⟩ := hr.get k _ hx
  have hn : nth t xs k = xs[k] := by unfold nth; rw [List.getD_eq_getElem?_getD, hx]; rfl
  refine ⟨b, off, cs, Gk, e, by rw [hn]; exact h1, fun g hg => (hf g (by simp [h2 g hg])).1, ?_⟩
  rw [Ty.n_eq] at h3
  exact h3
theorem does_load_ep {t : TypeId} {x : Operand} {t' : Ty} {xs : List t'.den} {k q : Nat} {v : AV} (hM : RepM X W E M) (ht : RepT X W E M tm a.tmps.toList) (ho : o.op = .load t x) (hx : evalA tm x = .w (.c (.ep t' xs k q)))
    (h : loadA P t (cellsOf t' (nth t' xs k)) q = some v) : Does X P o a W E M v M := by
  have hp := evalA_rep ht x
  rw [hx] at hp
  obtain ⟨b, off, cs, G, hv, hr, hf, hc⟩ := ep_of hp
  obtain ⟨u, h1, h2⟩ := load_cells (P := P) hc (repL_of_rep (M := M) t' hr hf) h
  exact does_val hM (Instr.loadAt t (a.eval x)) (by unfold execOp; rw [ho]) (by rw [hv]; simpa [Instr.loadAt, Instr.sureAddr] using h1) h2
theorem foot_disj : ∀ {E : Env} {i j : Nat} {e e' : EB} {x : Nat}, (foots E).Nodup → E[i]? = some e → E[j]? = some e' → i ≠ j → x ∈ e.foot → x ∈ e'.foot → False
  | [], _, _, _, _, _, _, h, _, _, _, _ => by simp at h
  | d :: E, 0, 0, _, _, _, _, _, _, h, _, _ => h rfl
  | d :: E, 0, j + 1, e, e', x, hn, h1, h2, _, h3, h4 => by
    simp at h1 h2
    subst h1
    have hn' : (d.foot ++ foots E).Nodup := hn
    rw [List.nodup_append] at hn'
    exact hn'.2.2 x h3 x (mem_foots.2 ⟨e', List.mem_of_getElem? h2, h4⟩) rfl
  | d :: E, i + 1, 0, e, e', x, hn, h1, h2, _, h3, h4 => by
    simp at h1 h2
    subst h2
    have hn' : (d.foot ++ foots E).Nodup := hn
    rw [List.nodup_append] at hn'
    exact hn'.2.2 x h4 x (mem_foots.2 ⟨e, List.mem_of_getElem? h1, h3⟩) rfl
  | d :: E, i + 1, j + 1, e, e', x, hn, h1, h2, hne, h3, h4 => by
    simp at h1 h2
    have hn' : (d.foot ++ foots E).Nodup := hn
    rw [List.nodup_append] at hn'
    exact foot_disj hn'.2.1 h1 h2 (by omega) h3 h4
/-- cells of an own box turned -/
theorem repM_set {i q : Nat} {l l' : List AC} {e : EB} {cs : Array Value} {T : TypeId} {us : List Value} (hM : RepM X W E M) (hb : M[i]? = some (.box l)) (he : E[i]? = some e) (hf : e.foot = [e.blk]) (hg : W.heap[e.blk]? = some (.cells cs T (0, 0)))
    (hl : RepL X W E M l cs.toList) (hl' : RepL X W E M l' us) (hle : q + l'.length ≤ l.length) :
    Grow W E (W.setRow e.blk (cs.toList.take q ++ us ++ cs.toList.drop (q + us.length)).toArray) E ∧ MemOk E M E (M.set i (.box (l.take q ++ l' ++ l.drop (q + l'.length)))) ∧
      RepM X (W.setRow e.blk (cs.toList.take q ++ us ++ cs.toList.drop (q + us.length)).toArray) E (M.set i (.box (l.take q ++ l' ++ l.drop (q + l'.length)))) := by
  have hmem : e.blk ∈ foots E := mem_foots.2 ⟨e, List.mem_of_getElem? he, by simp [hf]⟩
  have g : Grow W E (W.setRow e.blk (cs.toList.take q ++ us ++ cs.toList.drop (q + us.length)).toArray) E :=
    ⟨rfl, rfl, rfl, by simp, fun b hbl hbn => setRow_other W e.blk b _ (fun e' => hbn (e' ▸ hmem)), fun b hb => .inl hb, fun i e h => ⟨e, h, rfl⟩⟩
  have hil : i < M.length := (List.getElem?_eq_some_iff.1 hb).1
  have m : MemOk E M E (M.set i (.box (l.take q ++ l' ++ l.drop (q + l'.length)))) := fun j => by
    by_cases hj : i = j
    · subst hj
      rw [hb]
      trivial
    · rw [List.getElem?_set_ne hj]
      exact MemOk.refl E M j
  refine ⟨g, m, by simp [hM.len], hM.nodup, fun j b e' hbj hej => ?_, fun b hb => by rw [size_setRow]; exact hM.lt b hb, hM.xlt, fun b hb => by rw [size_setRow]; exact hM.xsz b hb⟩
  by_cases hj : i = j
  · subst hj
    rw [List.getElem?_set_self hil] at hbj
    obtain rfl : e = e' := by rw [he] at hej; simpa using hej
    obtain rfl := (Option.some.inj hbj).symm
    refine ⟨hf, _, T, setRow_heap W _ _ _ _ _ hg, ?_⟩
    have hlen := hl'.len
    have h3 : RepL X W E M (l.drop (q + l'.length)) (cs.toList.drop (q + us.length)) := by rw [hlen]; exact hl.drop _
    exact RepL.mono g m (((hl.take q).append hl').append h3)
  · rw [List.getElem?_set_ne hj] at hbj
    refine (hM.at_ j b e' hbj hej).keep g m (fun x hx => setRow_other W e.blk x _ (fun e2 => ?_))
    subst e2
    exact foot_disj hM.nodup he hej hj (by simp [hf]) hx
theorem does_store_box {t : TypeId} {x y : Operand} {i q : Nat} {l l' : List AC} (hM : RepM X W E M) (ht : RepT X W E M tm a.tmps.toList) (ho : o.op = .store t x y) (hx : evalA tm x = .w (.c (.bp i q))) (hy : cellsA (evalA tm y) = some l')
    (hb : M[i]? = some (.box l)) (hs : l'.length = sizeT P t) (hpos : 0 < sizeT P t) (hle : q + l'.length ≤ l.length) : Does X P o a W E M .any (M.set i (.box (l.take q ++ l' ++ l.drop (q + l'.length)))) := by
  have hp := evalA_rep ht x
  rw [hx] at hp
  obtain ⟨e, he, hv⟩ := (hp : boxAt E i _ q)
  obtain ⟨hf, cs, T, hg, hl⟩ := hM.at_ i _ e hb he
  have hl' := cellsA_rep (evalA_rep ht y) hy
  have hlen := hl.len
  have hlen' := hl'.len
  obtain ⟨g, m, r⟩ := repM_set hM hb he hf hg hl hl' hle
  obtain ⟨inf, hi⟩ : ∃ i, P.info? t = some i := by
    unfold sizeT at hpos
    cases hq : P.info? t with
    | none => rw [hq] at hpos; exact absurd hpos (Nat.lt_irrefl 0)
    | some i => exact ⟨i, rfl⟩
  have hsz : sizeT P t = inf.size := by unfold sizeT; rw [hi]
  have hst := run_storeCells_at (P := P) e.blk q T (a.eval y).cells.toList 0 cs W hg (by simp at hlen hlen' ⊢; omega) (fun v hv => by
    have := hl'.all
    exact List.all_eq_true.1 this v hv)
  refine ⟨undef, _, E, .inr ⟨?_, rfl⟩, g, m, r, trivial⟩
  unfold execOp
  simp only [ho, hv, Instr.storeAt, Instr.sureAddr, storeVar, sizeOf, typeInfo, Sem.run_bind, Sem.run_pure, Result.andThen_ok, run_program, hi, Sem.run_ite]
  rw [if_neg (by simp at hlen'; omega)]
  rw [hst]
  rfl
end
end Go.Proofs.Ytigakalkkaoflaa
