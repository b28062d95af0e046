/-
  Each operation that calls nothing does what the model's operation does.
  Plain: no program. No condition.
-/
import Derived.Test.YtkompmgleojmlaaDoorEBmC
import Derived.Laws.CopyRow
set_option linter.unusedSimpArgs false
set_option linter.unusedVariables false
namespace Go.Proofs.YtkompmgleojmlaaDoor
open Go.ChangeShapes Go.WideShapes Go.ChangeAt Go.RowKit Go.Joins Go.Deep
open GoRep (rep bulk)

section
variable {P : Program} {X : List Nat} {W : World} {E : Env} {M : Mem} {a : Act} {tm : List AV} {o : Oper}
theorem int_of {k : IntKind} {n : Int} {v : Value} (h : RepV X W E M (.w (.c (.int k n))) v) : v = .int k n ∧ (Lit.int k n).wf = true := h
theorem bool_of {b : Bool} {v : Value} (h : RepV X W E M (.w (.c (.bool b))) v) : v = .bool b := h
theorem str_of {s : ByteArray} {v : Value} (h : RepV X W E M (.w (.c (.str s))) v) : v = .string s ∧ s.size ≤ maxLen := h
theorem does_val {v : AV} {u : Value} (hM : RepM X W E M) (s : Sem Value) (he : execOp a.eval o = (do pure (.value (← s)))) (hs : s.run P W = .ok u W) (hv : RepV X W E M v u) : Does X P o a W E M v M :=
  Does.stay hM (by rw [he]; simp [hs]) hv
theorem pickA_rep {g : Bool} {x y : AV} {u v : Value} (hx : RepV X W E M x u) (hy : RepV X W E M y v) : RepV X W E M (pickA g x y) (if g then u else v) := by
  unfold pickA
  split
  · cases g <;> assumption
  · split
    · rename_i h; subst h; cases g <;> assumption
    · cases g <;> assumption
  · cases g <;> assumption
  · cases g <;> assumption
theorem run_eq_bool {t : TypeId} (hu : P.underlying t = some .bool) (x y : Bool) : (Op.equal t (.bool x) (.bool y)).run P W = .ok (x == y) W := by
  unfold Op.equal
  exact run_equalIn_bool W _ t x y hu
theorem lit_wf {k : IntKind} {x : Int} : (Lit.int k x).wf = true ↔ k.min ≤ x ∧ x ≤ k.max := by simp [Lit.wf]
theorem wf_tmod {k : IntKind} {x y : Int} (h : (Lit.int k x).wf = true) : (Lit.int k (x.tmod y)).wf = true := by
  rw [lit_wf] at h ⊢
  have h0 : k.min ≤ 0 ∧ 0 ≤ k.max := by cases k <;> decide
  rcases Int.le_total 0 x with hx | hx
  · have h1 := Int.tmod_nonneg y hx
    have h2 : x.tmod y ≤ x := by
      have := Int.natAbs_tmod x y
      have h3 : x.natAbs % y.natAbs ≤ x.natAbs := Nat.mod_le _ _
      omega
    omega
  · have h1 : x.tmod y ≤ 0 := by
      have := Int.tmod_nonneg y (show 0 ≤ -x by omega)
      rw [Int.neg_tmod] at this
      omega
    have h2 : x ≤ x.tmod y := by
      have := Int.natAbs_tmod x y
      have h3 : x.natAbs % y.natAbs ≤ x.natAbs := Nat.mod_le _ _
      omega
    omega
theorem intA_run {op : BinOp} {t : TypeId} {k : IntKind} {x y : Int} {xo yo : Operand} (hx : (Lit.int k x).wf = true) (hn : (match op with | .shl => False | .shr => False | op => (intA op k x y).1)) :
    ∃ u, (do eqGuard op t xo yo (.int k x) (.int k y); binOp op t (.int k x) (.int k y) : Sem Value).run P W = .ok u W ∧ RepC X W E M (intA op k x y).2 u := by
  have hg : (eqGuard op t xo yo (.int k x) (.int k y)).run P W = .ok () W := by
    unfold eqGuard
    cases op <;> rfl
  simp only [Sem.run_bind, hg, Result.andThen_ok]
  cases op <;> simp only [intA] at hn ⊢ <;> try exact hn.elim
  case add => exact ⟨_, by simp [binOp, Op.intArith], rfl, wf_wrap _ _⟩
  case sub => exact ⟨_, by simp [binOp, Op.intArith], rfl, wf_wrap _ _⟩
  case mul => exact ⟨_, by simp [binOp, Op.intArith], rfl, wf_wrap _ _⟩
  case quo => exact ⟨_, by simp [binOp, Op.intDiv, hn], rfl, wf_wrap _ _⟩
  case rem => exact ⟨_, by simp [binOp, Op.intDiv, hn], rfl, wf_tmod hx⟩
  case and => exact ⟨_, by simp only [binOp, Op.intBits, ne_eq, not_true, if_false, Sem.run_pure], rfl, wf_wrap _ _⟩
  case or => exact ⟨_, by simp only [binOp, Op.intBits, ne_eq, not_true, if_false, Sem.run_pure], rfl, wf_wrap _ _⟩
  case xor => exact ⟨_, by simp only [binOp, Op.intBits, ne_eq, not_true, if_false, Sem.run_pure], rfl, wf_wrap _ _⟩
  case andNot => exact ⟨_, by simp only [binOp, Op.intBits, ne_eq, not_true, if_false, Sem.run_pure], rfl, wf_wrap _ _⟩
  all_goals exact ⟨_, by simp [binOp, Op.intCmp], rfl⟩
theorem strA_run {op : BinOp} {t : TypeId} {x y : ByteArray} {xo yo : Operand} (hn : (strA op x y).1) :
    ∃ u, (do eqGuard op t xo yo (.string x) (.string y); binOp op t (.string x) (.string y) : Sem Value).run P W = .ok u W ∧ RepC X W E M (strA op x y).2 u := by
  have hg : (eqGuard op t xo yo (.string x) (.string y)).run P W = .ok () W := by
    unfold eqGuard
    cases op <;> rfl
  have he : (x.toList == y.toList) = decide (x = y) := by
    rw [ByteArray.toList_eq, ByteArray.toList_eq, Bool.eq_iff_iff, beq_iff_eq, decide_eq_true_eq]
    exact ⟨fun h => ByteArray.ext (Array.toList_inj.1 h), fun h => by rw [h]⟩
  simp only [Sem.run_bind, hg, Result.andThen_ok]
  cases op <;> simp only [strA] at hn ⊢ <;> try exact hn.elim
  case add =>
    refine ⟨.string (x ++ y), ?_, rfl, by simpa using hn⟩
    have : ¬ ((x.size + y.size : Nat) : Int) > IntKind.i64.max := by
      have : IntKind.i64.max = ((maxLen : Nat) : Int) := by decide
      rw [this]
      omega
    simp only [binOp, Op.stringOp, this, if_false, Sem.run_pure]
  all_goals exact ⟨_, by simp [binOp, Op.stringOp, he], rfl⟩
theorem part_scal {xs : Array Value} {t : TypeId} {n : Nat} {v : Value} {d : TypeDesc} (hu : P.underlying t = some d) (hd : aggD d = false) (hv : xs[n]? = some v) : (part t xs n).run P W = .ok v W := by
  have hagg : (isAgg t).run P W = .ok false W := by
    unfold isAgg
    simp only [Sem.run_bind, run_underlying hu, Result.andThen_ok]
    cases d <;> first | rfl | simp [aggD] at hd
  unfold part
  simp only [Sem.run_bind, hagg, Result.andThen_ok, Bool.false_eq_true, if_false, hv, Sem.run_pure]
theorem scal_run {d : Nat} {t : TypeId} {x y : AC} {u v : Value} (h : scalTy P t x y = true) (hx : RepC X W E M x u) (hy : RepC X W E M y v) :
    ∃ b : Bool, (Op.equalIn (d + 1) t u v).run P W = .ok b W ∧ (∀ l k, eqCells (x :: l) (y :: k) = (b && eqCells l k)) ∧ ∃ td, P.underlying t = some td ∧ aggD td = false := by
  unfold scalTy at h
  split at h
  · rename_i k0 k p k' q hu
    obtain rfl : k = k' := by simpa using h
    obtain ⟨rfl, _⟩ := hx
    obtain ⟨rfl, _⟩ := hy
    exact ⟨p == q, run_equalIn_int W d t k k0 p q hu, fun l k => rfl, _, hu, rfl⟩
  · rename_i p q hu
    obtain rfl : u = .bool p := hx
    obtain rfl : v = .bool q := hy
    exact ⟨p == q, run_equalIn_bool' W d t p q hu, fun l k => rfl, _, hu, rfl⟩
  · rename_i p q hu
    obtain ⟨rfl, _⟩ := hx
    obtain ⟨rfl, _⟩ := hy
    refine ⟨p.toList == q.toList, run_equalIn_string W d t p q hu, fun l k => ?_, _, hu, rfl⟩
    have he : (p.toList == q.toList) = decide (p = q) := by
      rw [ByteArray.toList_eq, ByteArray.toList_eq, Bool.eq_iff_iff, beq_iff_eq, decide_eq_true_eq]
      exact ⟨fun h => ByteArray.ext (Array.toList_inj.1 h), fun h => by rw [h]⟩
    rw [he]
    rfl
  · cases h
theorem eqF_run {d : Nat} {xs ys : Array Value} : ∀ {fs : List Field} {n : Nat} {l k : List AC}, flatFields P fs n l k = true →
    (∀ j c, l[j]? = some c → ∃ v, xs[n + j]? = some v ∧ RepC X W E M c v) → (∀ j c, k[j]? = some c → ∃ v, ys[n + j]? = some v ∧ RepC X W E M c v) →
    (Op.eqFields (d + 1) xs ys fs).run P W = .ok (eqCells l k) W
  | [], _, [], [], _, _, _ => rfl
  | [], _, _ :: _, _, h, _, _ => by simp [flatFields] at h
  | [], _, [], _ :: _, h, _, _ => by simp [flatFields] at h
  | _ :: _, _, [], _, h, _, _ => by simp [flatFields] at h
  | _ :: _, _, _ :: _, [], h, _, _ => by simp [flatFields] at h
  | f :: fs, n, x :: l, y :: k, h, hx, hy => by
    unfold flatFields at h
    rw [Bool.and_eq_true, Bool.and_eq_true, Bool.and_eq_true] at h
    obtain ⟨⟨h1, h2, h3⟩, h4⟩ := h
    have h1 := Nat.eq_of_beq_eq_true h1
    obtain ⟨u, q1, q2⟩ := hx 0 x rfl
    obtain ⟨v, r1, r2⟩ := hy 0 y rfl
    obtain ⟨b, e1, e2, td, e3, e4⟩ := scal_run (d := d) h3 q2 r2
    have hne : f.name ≠ "_" := by simpa using h2
    have p1 := part_scal (P := P) (W := W) (xs := xs) (n := n) e3 e4 q1
    have p2 := part_scal (P := P) (W := W) (xs := ys) (n := n) e3 e4 r1
    have ih := eqF_run (d := d) (xs := xs) (ys := ys) h4 (fun j c hj => by have := hx (j + 1) c (by simpa using hj); rwa [show n + (j + 1) = n + 1 + j from by omega] at this) (fun j c hj => by have := hy (j + 1) c (by simpa using hj); rwa [show n + (j + 1) = n + 1 + j from by omega] at this)
    unfold Op.eqFields
    simp only [if_pos hne, h1, Sem.run_bind, p1, p2, Result.andThen_ok, e1, Sem.run_ite]
    rw [e2]
    cases b
    · simp
    · simpa using ih
theorem repL_at {l : List AC} {cs : List Value} (h : RepL X W E M l cs) : ∀ j c, l[j]? = some c → ∃ v, cs.toArray[0 + j]? = some v ∧ RepC X W E M c v := fun j c hj => by
  obtain ⟨v, h1, h2⟩ := h.get hj
  exact ⟨v, by rw [Nat.zero_add, List.getElem?_toArray]; exact h1, h2⟩
theorem run_shl {k k' : IntKind} {p q : Int} {t : TypeId} {xo yo : Operand} (h : 0 ≤ q) : (do eqGuard .shl t xo yo (.int k p) (.int k' q); binOp .shl t (.int k p) (.int k' q) : Sem Value).run P W = .ok (.int k (shlI k p q)) W := by
  have h' : ¬ q < 0 := by omega
  simp [eqGuard, binOp, Op.shift, h', shlI]
theorem run_shr {k k' : IntKind} {p q : Int} {t : TypeId} {xo yo : Operand} (h : 0 ≤ q) : (do eqGuard .shr t xo yo (.int k p) (.int k' q); binOp .shr t (.int k p) (.int k' q) : Sem Value).run P W = .ok (.int k (shrI k p q)) W := by
  have h' : ¬ q < 0 := by omega
  simp [eqGuard, binOp, Op.shift, h', shrI]
theorem fdiv_between {a b : Int} (hb : 1 ≤ b) : (0 ≤ a → 0 ≤ a.fdiv b ∧ a.fdiv b ≤ a) ∧ (a < 0 → a ≤ a.fdiv b ∧ a.fdiv b < 0) := by
  rw [Int.fdiv_eq_ediv_of_nonneg _ (by omega)]
  refine ⟨fun h => ⟨Int.ediv_nonneg h (by omega), Int.ediv_le_self _ h⟩, fun h => ⟨?_, Int.ediv_neg_of_neg_of_pos h (by omega)⟩⟩
  have h1 := Int.emod_add_mul_ediv a b
  have h2 := Int.emod_nonneg a (show b ≠ 0 by omega)
  have h3 : a / b < 0 := Int.ediv_neg_of_neg_of_pos h (by omega)
  have h4 : b * (a / b) ≤ 1 * (a / b) := Int.mul_le_mul_of_nonpos_right hb (by omega)
  have h5 := Int.emod_lt_of_pos a (show 0 < b by omega)
  have h6 : (a + 1 : Int) ≤ (a / b + 1) * b := by
    rw [Int.add_mul, Int.mul_comm]; omega
  by_cases hlt : a / b < a
  · have : (a / b + 1) * b ≤ a * b := Int.mul_le_mul_of_nonneg_right (by omega) (by omega)
    have : a * b ≤ a * 1 := by
      have := Int.mul_le_mul_of_nonpos_left (a := a) (b := b) (c := 1) (by omega) hb
      exact this
    omega
  · omega
theorem wf_shr {k : IntKind} {p : Int} (h : (Lit.int k p).wf = true) (q : Int) : (Lit.int k (shrI k p q)).wf = true := by
  have hb : (1 : Int) ≤ 2 ^ min q.toNat k.bits := Int.le_of_lt_add_one (by have := Int.pow_pos (n := (2 : Int)) (m := min q.toNat k.bits) (by omega); omega)
  have hd := fdiv_between (a := p) hb
  unfold shrI
  generalize p.fdiv (2 ^ min q.toNat k.bits) = r at hd
  rw [lit_wf] at h ⊢
  have h0 : k.min ≤ 0 ∧ 0 ≤ k.max := by cases k <;> exact ⟨by decide, by decide⟩
  by_cases hp : 0 ≤ p
  · have := hd.1 hp; omega
  · have := hd.2 (by omega); omega
theorem binA_run {op : BinOp} {t : TypeId} {x y : AV} {u v : Value} {xo yo : Operand} (hx : RepV X W E M x u) (hy : RepV X W E M y v) (hn : (binA P op t x y).1) :
    ∃ r, (do eqGuard op t xo yo u v; binOp op t u v : Sem Value).run P W = .ok r W ∧ RepC X W E M (binA P op t x y).2 r := by
  unfold binA at hn ⊢
  split at hn
  · rename_i k p k' q
    obtain ⟨rfl, hwx⟩ := int_of hx
    obtain ⟨rfl, hwy⟩ := int_of hy
    split at hn
    · exact ⟨_, run_shl hn, rfl, wf_wrap _ _⟩
    · exact ⟨_, run_shr hn, rfl, wf_shr hwx _⟩
    · rename_i o1 o2
      split at hn
      · rename_i hk
        subst hk
        have h2 := intA_run (X := X) (P := P) (W := W) (E := E) (M := M) (op := op) (t := t) (xo := xo) (yo := yo) (k := k) (x := p) (y := q) hwx (by cases op <;> first | exact hn | exact absurd rfl o1 | exact absurd rfl o2)
        cases op <;> first | exact absurd rfl o1 | exact absurd rfl o2 | (simp only [if_true]; exact h2)
      · exact hn.elim
  · rename_i p q
    obtain ⟨rfl, _⟩ := str_of hx
    obtain ⟨rfl, _⟩ := str_of hy
    exact strA_run hn
  · rename_i p q
    obtain rfl := bool_of hx
    obtain rfl := bool_of hy
    have hg : ∀ op, (eqGuard op t xo yo (.bool p) (.bool q)).run P W = .ok () W := fun op => by
      unfold eqGuard
      cases op <;> rfl
    simp only [Sem.run_bind, hg, Result.andThen_ok]
    cases op <;> simp only at hn ⊢ <;> try exact hn.elim
    · exact ⟨_, by simp only [binOp, Sem.run_bind, run_eq_bool hn, Result.andThen_ok, Sem.run_pure], rfl⟩
    · exact ⟨_, by simp only [binOp, Sem.run_bind, run_eq_bool hn, Result.andThen_ok, Sem.run_pure], rfl⟩
  · rename_i l k
    obtain ⟨cs, rfl, hl⟩ := (hx : ∃ cs, u = .agg cs.toArray ∧ RepL X W E M l cs)
    obtain ⟨ds, rfl, hk⟩ := (hy : ∃ cs, v = .agg cs.toArray ∧ RepL X W E M k cs)
    have key : flatEq P t l k = true → P.eqGuardType P.depth t = false ∧ (Op.equalIn 10000 t (.agg cs.toArray) (.agg ds.toArray)).run P W = .ok (eqCells l k) W := fun h => by
      unfold flatEq at h
      split at h
      · rename_i fs hu
        rw [Bool.and_eq_true, Bool.and_eq_true] at h
        have hf : P.fieldsOf t = fs := by unfold Program.fieldsOf; rw [hu]
        refine ⟨by simpa using h.2.2, ?_⟩
        rw [run_equalIn_struct W 9999 t cs.toArray ds.toArray (by rw [hf]; exact hu) (by simpa using h.2.1), hf]
        exact eqF_run (d := 9998) h.1 (repL_at hl) (repL_at hk)
      · cases h
    cases op <;> simp only at hn ⊢ <;> try exact hn.elim
    · obtain ⟨k1, k2⟩ := key hn
      exact ⟨.bool (eqCells l k), by simp only [Sem.run_bind, run_eqGuard_agg W _ t xo yo _ _ k1, Result.andThen_ok, run_eql_struct, k2], rfl⟩
    · obtain ⟨k1, k2⟩ := key hn
      exact ⟨.bool (!eqCells l k), by simp only [Sem.run_bind, run_eqGuard_agg W _ t xo yo _ _ k1, Result.andThen_ok, run_neq_struct, k2], rfl⟩
  · exact hn.elim
theorem does_bin {op : BinOp} {t yt : TypeId} {x y : Operand} (hM : RepM X W E M) (ht : RepT X W E M tm a.tmps.toList) (ho : o.op = .binOp op t x y yt) (hn : (binA P op t (evalA tm x) (evalA tm y)).1) :
    Does X P o a W E M (.c (binA P op t (evalA tm x) (evalA tm y)).2) M := by
  obtain ⟨r, h1, h2⟩ := binA_run (xo := x) (yo := y) (evalA_rep ht x) (evalA_rep ht y) hn
  exact does_val hM _ (by unfold execOp; rw [ho]) h1 h2
theorem does_load_box {t : TypeId} {x : Operand} {i q : Nat} {l : List AC} {v : AV} (hM : RepM X W E M) (ht : RepT X W E M tm a.tmps.toList) (ho : o.op = .load t x) (hx : evalA tm x = .w (.c (.bp i q)))
    (hb : M[i]? = some (.box l)) (h : loadA P t l q = some v) : Does X P o a W E M v M := by
  have hp := evalA_rep ht x
  rw [hx] at hp
  obtain ⟨e, he, hv⟩ := (hp : boxAt E i _ q)
  obtain ⟨_, cs, T, hg, hl⟩ := hM.at_ i _ e hb he
  obtain ⟨u, h1, h2⟩ := load_blk (P := P) hg hl h
  exact does_val hM (Instr.loadAt t (a.eval x)) (by unfold execOp; rw [ho]) (by rw [hv]; simpa [Instr.loadAt, Instr.sureAddr] using h1) h2
theorem ep_of {L : Lnd} {t : Ty} {xs : List t.den} {k q : Nat} {v : Value} (hL : liveL M L = true) (h : RepV X W E M (.w (.c (.ep L t xs k q))) v) : ∃ b off cs G, v = .pointer (some ⟨b, off + k * t.n + q, none⟩) ∧ rep W (nth t xs k) cs G ∧ lendF X W E M L G ∧ CellsAt W b (off + k * t.n) cs := by
  obtain ⟨_, h⟩ := (h : RepC X W E M (.ep L t xs k q) v)
  obtain ⟨F, ⟨b, off, G, rfl, e, hk, hr⟩, hf⟩ := lend_live hL h
  have hx := List.getElem?_eq_getElem hk
  obtain ⟨cs, Gk, h1, h2, h3⟩ := hr.get k _ hx
  have hn : nth t xs k = xs[k] := by unfold nth; rw [List.getD_eq_getElem?_getD, hx]; rfl
  refine ⟨b, off, cs, Gk, e, by rw [hn]; exact h1, hf.sub (fun g hg => by simp [h2 g hg]), ?_⟩
  rw [Ty.n_eq] at h3
  exact h3
theorem does_load_ep {t : TypeId} {x : Operand} {L : Lnd} {t' : Ty} {xs : List t'.den} {k q : Nat} {v : AV} (hM : RepM X W E M) (ht : RepT X W E M tm a.tmps.toList) (ho : o.op = .load t x) (hx : evalA tm x = .w (.c (.ep L t' xs k q))) (hL : liveL M L = true)
    (h : loadA P t (cellsW L t' (nth t' xs k)) q = some v) : Does X P o a W E M v M := by
  have hp := evalA_rep ht x
  rw [hx] at hp
  obtain ⟨b, off, cs, G, hv, hr, hf, hc⟩ := ep_of hL hp
  obtain ⟨u, h1, h2⟩ := load_cells (P := P) hc (repL_of_rep (M := M) t' hr hf) h
  exact does_val hM (Instr.loadAt t (a.eval x)) (by unfold execOp; rw [ho]) (by rw [hv]; simpa [Instr.loadAt, Instr.sureAddr] using h1) h2
theorem rowAt_eq {i v : Nat} {r : RowC} (h : rowAt M i v = some r) : M[i]? = some (.row r.t r.xs v r.c none) := by
  unfold rowAt at h
  split at h
  · rename_i t xs cv cc hM
    cases hb : Nat.beq v cv with
    | false => rw [hb] at h; cases h
    | true =>
      rw [hb] at h
      obtain rfl := Option.some.inj h
      have e := Nat.eq_of_beq_eq_true hb
      subst e
      exact hM
  · cases h
theorem lend_row {i v : Nat} {r : RowC} {e : EB} {F : List Nat} (h : rowAt M i v = some r) (he : E[i]? = some e) (hF : ∀ b ∈ F, b ∈ e.foot) : lendF X W E M (.at i v r.c) F := ⟨r.t, r.xs, e, rowAt_eq h, he, hF⟩
/-- own row i, as it lies -/
theorem row_of (hM : RepM X W E M) {i v : Nat} {r : RowC} {Q : EB → Prop} (h : rowAt M i v = some r) (hr : atRow E M i v Q) : ∃ e, E[i]? = some e ∧ Q e ∧ OList W (ORep W r.t) r.t.n r.xs e.val e.foot := by
  have hm := rowAt_eq h
  unfold atRow at hr
  rw [hm] at hr
  obtain ⟨e, h1, h2⟩ := hr.2 rfl
  exact ⟨e, h1, h2, hM.at_ i _ e hm h1⟩
theorem olist_slice {t : Ty} {xs : List t.den} {v : Value} {F : List Nat} (h : OList W (ORep W t) t.n xs v F) : ∃ A c, v = .slice A xs.length c := by
  obtain ⟨T, cells, G, h, _⟩ := h
  rcases h.2 with ⟨h1, h3⟩ | ⟨g', cap, cur, q1, _⟩
  · exact ⟨none, 0, by rw [h1, h3]⟩
  · exact ⟨_, _, q1⟩
/-- element k of an own row: its block, its cells -/
theorem olist_at {t : Ty} {xs : List t.den} {b l c k : Nat} {F : List Nat} (h : OList W (ORep W t) t.n xs (.slice (some ⟨b, 0, none⟩) l c) F) (hk : k < xs.length) :
    ∃ cs G, ORep W t (nth t xs k) cs G ∧ (∀ g ∈ G, g ∈ F) ∧ CellsAt W b (k * t.n) cs := by
  obtain ⟨T, cells, G, h1, h2, rfl⟩ := h
  have hl : xs.length = l := by
    obtain ⟨A, c', e⟩ := olist_slice ⟨T, cells, G, h1, h2, rfl⟩
    injection e with _ e _
    exact e.symm
  subst hl
  obtain ⟨cur, q1, q2, _⟩ := ownsRow_cells h1
  have hx := List.getElem?_eq_getElem hk
  have hn : nth t xs k = xs[k] := by unfold nth; rw [List.getD_eq_getElem?_getD, hx]; rfl
  obtain ⟨c0, c1, c2, G0, G1, G2, e1, e2, e3, _, r1, _⟩ := h2.split (fun x cs F h => ORep.len t h) k hx
  refine ⟨c1, G1, by rw [hn]; exact r1, fun g hg => by simp [e2, hg], fun j v hj => ?_⟩
  have hca := cellsAt_take (W := W) (b := b) (m := xs.length * t.n) q1
  rw [q2] at hca
  have hj1 := (List.getElem?_eq_some_iff.1 hj).1
  have := hca (c0.length + j) v (by rw [e1, List.append_assoc, List.getElem?_append_right (by omega), Nat.add_sub_cancel_left, List.getElem?_append_left hj1]; exact hj)
  rw [e3, Nat.zero_add] at this
  exact this
/-- the list in cell o of a value of our own -/
theorem listAt_own : ∀ (t : Ty) {x : t.den} {cs : List Value} {F : List Nat} {o : Nat} {r : RowC}, ORep W t x cs F → listAt t x o = some r → ∃ u F1, cs[o]? = some u ∧ OList W (ORep W r.t) r.t.n r.xs u F1 ∧ ∀ b ∈ F1, b ∈ F
  | .int _, _, _, _, _, _, _, h => by cases h
  | .bool, _, _, _, _, _, _, h => by cases h
  | .str, _, _, _, _, _, _, h => by cases h
  | .opq, _, _, _, _, _, _, h => by cases h
  | .list a, xs, cs, F, o, r, ⟨v, e, hl⟩, h => by
    unfold listAt at h
    cases ho : Nat.beq o 0 with
    | false => rw [ho] at h; cases h
    | true =>
      rw [ho] at h
      obtain rfl := Option.some.inj h
      obtain rfl := Nat.eq_of_beq_eq_true ho
      exact ⟨v, F, by rw [e]; rfl, hl, fun b hb => hb⟩
  | .prod a b, x, cs, F, o, r, ⟨c1, c2, F1, F2, h1, h2, e1, e2⟩, h => by
    unfold listAt at h
    have hl := ORep.len a h1
    cases ho : Nat.blt o a.n with
    | true =>
      rw [ho] at h
      simp only [cond_true] at h
      have hlt : o < a.n := Nat.le_of_ble_eq_true ho
      obtain ⟨u, G, q1, q2, q3⟩ := listAt_own a h1 h
      exact ⟨u, G, by rw [e1, List.getElem?_append_left (by omega)]; exact q1, q2, fun b hb => by rw [e2]; simp [q3 b hb]⟩
    | false =>
      rw [ho] at h
      simp only [cond_false] at h
      have hge : a.n ≤ o := Nat.le_of_not_lt (fun hlt => by
        have : Nat.blt o a.n = true := Nat.ble_eq_true_of_le hlt
        rw [ho] at this; cases this)
      obtain ⟨u, G, q1, q2, q3⟩ := listAt_own b h2 h
      exact ⟨u, G, by rw [e1, List.getElem?_append_right (by omega), hl]; exact q1, q2, fun b hb => by rw [e2]; simp [q3 b hb]⟩
theorem readSl_spec {i v c n k o : Nat} {r : RowC} (h : readSl M i v c n k o = some r) : ∃ (t : Ty) (xs : List t.den), M[i]? = some (.row t xs v c none) ∧ n = t.n ∧ listAt t (nth t xs k) o = some r := by
  unfold readSl at h
  split at h
  · rename_i t xs cv cc hM
    cases hb : (Nat.beq v cv && Nat.beq c cc) && Nat.beq n t.n with
    | false => rw [hb] at h; cases h
    | true =>
      rw [hb] at h
      rw [Bool.and_eq_true, Bool.and_eq_true] at hb
      obtain ⟨⟨h1, h2⟩, h3⟩ := hb
      obtain rfl := Nat.eq_of_beq_eq_true h1
      obtain rfl := Nat.eq_of_beq_eq_true h2
      exact ⟨t, xs, hM, Nat.eq_of_beq_eq_true h3, h⟩
  · cases h
/-- a list in an own row, as it lies -/
theorem sl_of (hM : RepM X W E M) {i v c n k o : Nat} {r : RowC} {u : Value} (h : readSl M i v c n k o = some r) (hr : inRow W E M i v c n k o u) :
    ∃ (t : Ty) (xs : List t.den) (e : EB) (b cap : Nat) (F1 : List Nat), M[i]? = some (.row t xs v c none) ∧ E[i]? = some e ∧ n = t.n ∧ listAt t (nth t xs k) o = some r ∧ k < xs.length ∧ e.val = .slice (some ⟨b, 0, none⟩) xs.length cap ∧
      W.cell? ⟨b, k * n + o, none⟩ = some u ∧ OList W (ORep W r.t) r.t.n r.xs u F1 ∧ ∀ q ∈ F1, q ∈ e.foot := by
  obtain ⟨t, xs, hm, hn, hl⟩ := readSl_spec h
  obtain ⟨b, h1, h2⟩ := hr
  unfold atRow at h1
  rw [hm] at h1
  obtain ⟨e, he, l, cap, hev, hk⟩ := h1.2 rfl
  unfold lendAt at h2
  rw [hm] at h2
  obtain ⟨e', F, he', ⟨rfl, hc⟩, _⟩ := (h2.2 rfl).2 rfl
  have hol : OList W (ORep W t) t.n xs e.val e.foot := hM.at_ i _ e hm he
  rw [hev] at hol
  obtain ⟨A, c', hsl⟩ := olist_slice hol
  injection hsl with _ hll _
  subst hll
  obtain ⟨cs, G, g1, g2, g3⟩ := olist_at (k := k) hol hk
  obtain ⟨u', F1, k1, k2, k3⟩ := listAt_own t g1 hl
  have hcu := (g3 o u' k1).1
  rw [← hn, hc] at hcu
  obtain rfl := Option.some.inj hcu
  exact ⟨t, xs, e, b, cap, F1, hm, he, hn, hl, hk, hev, hc, k2, fun q hq => g2 q (k3 q hq)⟩
/-- own row i, its value -/
theorem rowIx_of (hM : RepM X W E M) {i v : Nat} {r : RowC} {Q : EB → Prop} (h : rowIx M i v = some r) (hr : atRow E M i v Q) : ∃ e hh, M[i]? = some (.row r.t r.xs v r.c hh) ∧ E[i]? = some e ∧ Q e ∧ ∃ A c, e.val = .slice A r.xs.length c := by
  unfold rowIx at h
  split at h
  · rename_i t xs cv cc hh hm
    cases hb : Nat.beq v cv with
    | false => rw [hb] at h; cases h
    | true =>
      rw [hb] at h
      obtain rfl := Option.some.inj h
      obtain rfl := Nat.eq_of_beq_eq_true hb
      unfold atRow at hr
      rw [hm] at hr
      obtain ⟨e, h1, h2⟩ := hr.2 rfl
      refine ⟨e, hh, hm, h1, h2, ?_⟩
      have hR := hM.at_ i _ e hm h1
      cases hh with
      | none => exact olist_slice (show OList W (ORep W t) t.n xs e.val e.foot from hR)
      | some p =>
        obtain ⟨k, o, j⟩ := p
        obtain ⟨b, l, cap, r, _, _, _, h4, _⟩ := hR
        have := olist_slice h4
        rwa [List.length_set] at this
  · cases h
theorem foot_nodup0 (hM : RepM X W E M) {i : Nat} {e : EB} (he : E[i]? = some e) : e.foot.Nodup := by
  have h := hM.nodup
  have : ∀ {E : Env} {i : Nat} {e : EB}, (foots E).Nodup → E[i]? = some e → e.foot.Nodup := by
    intro E
    induction E with
    | nil => intro i e _ h; simp at h
    | cons e' E ih =>
      intro i e hn h
      have hn : (e'.foot ++ foots E).Nodup := hn
      cases i with
      | zero =>
        obtain rfl : e' = e := by simpa using h
        exact (List.nodup_append.1 hn).1
      | succ i => exact ih (List.nodup_append.1 hn).2.1 (by simpa using h)
  exact this h he
theorem atRow.imp {Q Q' : EB → Prop} {i v : Nat} (h : atRow E M i v Q) (hq : ∀ e, Q e → Q' e) : atRow E M i v Q' := by
  unfold atRow at h ⊢
  split at h
  · exact ⟨h.1, fun he => by obtain ⟨e, h1, h2⟩ := h.2 he; exact ⟨e, h1, hq e h2⟩⟩
  · trivial
  · exact h.elim
theorem does_load_rp {t : TypeId} {x : Operand} {i v n k q : Nat} {r : RowC} {u : AV} (hM : RepM X W E M) (ht : RepT X W E M tm a.tmps.toList) (ho : o.op = .load t x) (hx : evalA tm x = .w (.c (.rp i v n k q))) (hr : rowAt M i v = some r) (hn : n = r.t.n)
    (h : loadA P t (cellsW (.at i v r.c) r.t (nth r.t r.xs k)) q = some u) : Does X P o a W E M (slV u i v r.c n k q) M := by
  have hp := evalA_rep ht x
  rw [hx] at hp
  obtain ⟨_, hp⟩ := (hp : RepC X W E M (.rp i v n k q) _)
  obtain ⟨e, he, ⟨b, l, c, hev, hk, hv⟩, hol⟩ := row_of hM hr hp
  rw [hev] at hol
  obtain ⟨A, c', hsl⟩ := olist_slice hol
  injection hsl with _ hl _
  obtain ⟨cs, G, h1, h2, h3⟩ := olist_at (k := k) hol (by omega)
  obtain ⟨G', r1, r2⟩ := ORep.rep r.t h1
  obtain ⟨w, g1, g2⟩ := load_cells (P := P) (X := X) h3 (repL_of_rep (M := M) r.t r1 (lend_row hr he (fun g hg => h2 g (r2 g hg)))) h
  subst hn
  refine does_val hM (Instr.loadAt t (a.eval x)) (by unfold execOp; rw [ho]) (by rw [hv]; simpa [Instr.loadAt, Instr.sureAddr] using g1) ?_
  have sl : ∀ (p : Nat) (w : Value), w.oneCell' = true → W.cell? ⟨b, k * r.t.n + p, none⟩ = some w → RepC X W E M (.sl i v r.c r.t.n k p) w := fun p w hw hcell => by
    refine ⟨hw, b, ?_, ?_⟩
    · unfold atRow
      rw [rowAt_eq hr]
      exact ⟨Nat.le_refl _, fun _ => ⟨e, he, l, c, hev, hk⟩⟩
    · unfold lendAt
      rw [rowAt_eq hr]
      refine ⟨Nat.le_refl _, fun _ => ⟨Nat.le_refl _, fun _ => ⟨e, [b], he, ⟨rfl, hcell⟩, fun z hz => ?_⟩⟩⟩
      obtain rfl := List.mem_singleton.1 hz
      have hol' : OList W (ORep W r.t) r.t.n r.xs e.val e.foot := hM.at_ i _ e (rowAt_eq hr) he
      obtain ⟨_, _, G', _, _, h6⟩ := hol'
      rw [h6, hev]
      simp [Value.ownBlock]
  have hcl : cs.length = (cellsW (.at i v r.c) r.t (nth r.t r.xs k)).length := by rw [ORep.len r.t h1]; exact (cellsW_len r.t _).symm
  unfold slV
  split
  · exact sl q w g2.1 (load_cell1 (P := P) (W := W) (g := b) (q := k * r.t.n) h3 hcl h g1)
  · rename_i l'
    obtain ⟨ws, hw, _, hcell⟩ := load_cells2 (P := P) (W := W) (g := b) (q := k * r.t.n) h3 hcl h g1
    obtain ⟨ws', hw', hrl⟩ := (g2 : ∃ cs, w = .agg cs.toArray ∧ RepL X W E M l' cs)
    rw [hw] at hw'
    obtain rfl : ws = ws' := by
      have := congrArg Value.cells hw'
      simpa [Value.cells] using this
    refine ⟨ws, hw, ?_⟩
    have : ∀ (l' : List AC) (ws : List Value) (p : Nat), RepL X W E M l' ws → (∀ j v, ws[j]? = some v → W.cell? ⟨b, k * r.t.n + (p + j), none⟩ = some v) → RepL X W E M (slL i v r.c r.t.n k p l') ws := by
      intro l'
      induction l' with
      | nil => intro ws p h _; exact h
      | cons c0 l0 ih =>
        intro ws p ⟨v0, r0, e0, h0, h00⟩ hc
        have ht := ih r0 (p + 1) h00 (fun j v hj => by
          have := hc (j + 1) v (by rw [e0]; simpa using hj)
          rwa [show p + (j + 1) = p + 1 + j by omega] at this)
        have h1 := hc 0 v0 (by rw [e0]; rfl)
        cases c0 with
        | hs L t xs => exact ⟨v0, r0, e0, sl p v0 h0.1 h1, ht⟩
        | _ => exact ⟨v0, r0, e0, h0, ht⟩
    exact this l' ws q hrl (fun j v hj => hcell j v hj)
  · exact g2
theorem does_load_sp {t : TypeId} {x : Operand} {i v c n k o' m y q : Nat} {r : RowC} {u : AV} (hM : RepM X W E M) (ht : RepT X W E M tm a.tmps.toList) (ho : o.op = .load t x) (hx : evalA tm x = .w (.c (.sp i v c n k o' m y q))) (hr : readSl M i v c n k o' = some r) (hn : m = r.t.n)
    (h : loadA P t (cellsW (.at i v c) r.t (nth r.t r.xs y)) q = some u) : Does X P o a W E M u M := by
  have hp := evalA_rep ht x
  rw [hx] at hp
  obtain ⟨_, b2, l2, cap2, hin, hy, hv⟩ := (hp : RepC X W E M (.sp i v c n k o' m y q) _)
  obtain ⟨tt, xs, e, b, cap, F1, k1, k2, k3, k4, k5, k6, k7, k8, k9⟩ := sl_of hM hr hin
  obtain ⟨A, c', hsl⟩ := olist_slice k8
  injection hsl with _ hl _
  obtain ⟨cs, G, h1, h2, h3⟩ := olist_at (k := y) k8 (by omega)
  obtain ⟨G', r1, r2⟩ := ORep.rep r.t h1
  obtain ⟨w, g1, g2⟩ := load_cells (P := P) h3 (repL_of_rep (M := M) (L := .at i v c) r.t r1 ⟨tt, xs, e, k1, k2, fun g hg => k9 g (h2 g (r2 g hg))⟩) h
  subst hn
  exact does_val hM (Instr.loadAt t (a.eval x)) (by unfold execOp; rw [ho]) (by rw [hv]; simpa [Instr.loadAt, Instr.sureAddr] using g1) g2
theorem foot_disj : ∀ {E : Env} {i j : Nat} {e e' : EB} {x : Nat}, (foots E).Nodup → E[i]? = some e → E[j]? = some e' → i ≠ j → x ∈ e.foot → x ∈ e'.foot → False
  | [], _, _, _, _, _, _, h, _, _, _, _ => by simp at h
  | d :: E, 0, 0, _, _, _, _, _, _, h, _, _ => h rfl
  | d :: E, 0, j + 1, e, e', x, hn, h1, h2, _, h3, h4 => by
    simp at h1 h2
    subst h1
    have hn' : (d.foot ++ foots E).Nodup := hn
    rw [List.nodup_append] at hn'
    exact hn'.2.2 x h3 x (mem_foots.2 ⟨e', List.mem_of_getElem? h2, h4⟩) rfl
  | d :: E, i + 1, 0, e, e', x, hn, h1, h2, _, h3, h4 => by
    simp at h1 h2
    subst h2
    have hn' : (d.foot ++ foots E).Nodup := hn
    rw [List.nodup_append] at hn'
    exact hn'.2.2 x h4 x (mem_foots.2 ⟨e, List.mem_of_getElem? h1, h3⟩) rfl
  | d :: E, i + 1, j + 1, e, e', x, hn, h1, h2, hne, h3, h4 => by
    simp at h1 h2
    have hn' : (d.foot ++ foots E).Nodup := hn
    rw [List.nodup_append] at hn'
    exact foot_disj hn'.2.1 h1 h2 (by omega) h3 h4
/-- cells of an own box turned -/
theorem repM_set {i q : Nat} {l l' : List AC} {e : EB} {cs : Array Value} {T : TypeId} {us : List Value} (hM : RepM X W E M) (hb : M[i]? = some (.box l)) (he : E[i]? = some e) (hf : e.foot = [e.blk]) (hg : W.heap[e.blk]? = some (.cells cs T (0, 0)))
    (hl : RepL X W E M l cs.toList) (hl' : RepL X W E M l' us) (hle : q + l'.length ≤ l.length) :
    Grow W E (W.setRow e.blk (cs.toList.take q ++ us ++ cs.toList.drop (q + us.length)).toArray) E ∧ MemOk W E M (W.setRow e.blk (cs.toList.take q ++ us ++ cs.toList.drop (q + us.length)).toArray) E (M.set i (.box (l.take q ++ l' ++ l.drop (q + l'.length)))) ∧
      RepM X (W.setRow e.blk (cs.toList.take q ++ us ++ cs.toList.drop (q + us.length)).toArray) E (M.set i (.box (l.take q ++ l' ++ l.drop (q + l'.length)))) := by
  have hmem : e.blk ∈ foots E := mem_foots.2 ⟨e, List.mem_of_getElem? he, by simp [hf]⟩
  have g : Grow W E (W.setRow e.blk (cs.toList.take q ++ us ++ cs.toList.drop (q + us.length)).toArray) E :=
    ⟨rfl, rfl, rfl, by simp, fun b hbl hbn => setRow_other W e.blk b _ (fun e' => hbn (e' ▸ hmem)), fun b hb => .inl hb, fun i e h => ⟨e, h, rfl⟩⟩
  have hil : i < M.length := (List.getElem?_eq_some_iff.1 hb).1
  have m : MemOk W E M (W.setRow e.blk (cs.toList.take q ++ us ++ cs.toList.drop (q + us.length)).toArray) E (M.set i (.box (l.take q ++ l' ++ l.drop (q + l'.length)))) := fun j => by
    by_cases hj : i = j
    · subst hj
      rw [hb]
      trivial
    · rw [List.getElem?_set_ne hj]
      split
      · rename_i h
        exact .inr ⟨_, _, _, _, h, Nat.le_refl _, fun _ e1 he1 => ⟨e1, he1, rfl, Nat.le_refl _, fun _ b hb => ⟨hb, setRow_other W e.blk b _ (fun e2 => by
          subst e2
          exact foot_disj hM.nodup he he1 hj (by simp [hf]) hb)⟩⟩⟩
      · rename_i h
        exact h
      · trivial
  refine ⟨g, m, by simp [hM.len], hM.nodup, fun j b e' hbj hej => ?_, fun b hb => by rw [size_setRow]; exact hM.lt b hb, hM.xlt, fun b hb => by rw [size_setRow]; exact hM.xsz b hb⟩
  by_cases hj : i = j
  · subst hj
    rw [List.getElem?_set_self hil] at hbj
    obtain rfl : e = e' := by rw [he] at hej; simpa using hej
    obtain rfl := (Option.some.inj hbj).symm
    refine ⟨hf, _, T, setRow_heap W _ _ _ _ _ hg, ?_⟩
    have hlen := hl'.len
    have h3 : RepL X W E M (l.drop (q + l'.length)) (cs.toList.drop (q + us.length)) := by rw [hlen]; exact hl.drop _
    exact RepL.mono g m hM.len (((hl.take q).append hl').append h3)
  · rw [List.getElem?_set_ne hj] at hbj
    refine (hM.at_ j b e' hbj hej).keep g m hM.len (fun x hx => setRow_other W e.blk x _ (fun e2 => ?_))
    subst e2
    exact foot_disj hM.nodup he hej hj (by simp [hf]) hx
theorem does_store_box {t : TypeId} {x y : Operand} {i q : Nat} {l l' : List AC} (hM : RepM X W E M) (ht : RepT X W E M tm a.tmps.toList) (ho : o.op = .store t x y) (hx : evalA tm x = .w (.c (.bp i q))) (hy : cellsA (evalA tm y) = some l')
    (hb : M[i]? = some (.box l)) (hs : l'.length = sizeT P t) (hpos : 0 < sizeT P t) (hle : q + l'.length ≤ l.length) : Does X P o a W E M .any (M.set i (.box (l.take q ++ l' ++ l.drop (q + l'.length)))) := by
  have hp := evalA_rep ht x
  rw [hx] at hp
  obtain ⟨e, he, hv⟩ := (hp : boxAt E i _ q)
  obtain ⟨hf, cs, T, hg, hl⟩ := hM.at_ i _ e hb he
  have hl' := cellsA_rep (evalA_rep ht y) hy
  have hlen := hl.len
  have hlen' := hl'.len
  obtain ⟨g, m, r⟩ := repM_set hM hb he hf hg hl hl' hle
  obtain ⟨inf, hi⟩ : ∃ i, P.info? t = some i := by
    unfold sizeT at hpos
    cases hq : P.info? t with
    | none => rw [hq] at hpos; exact absurd hpos (Nat.lt_irrefl 0)
    | some i => exact ⟨i, rfl⟩
  have hsz : sizeT P t = inf.size := by unfold sizeT; rw [hi]
  have hst := run_storeCells_at (P := P) e.blk q T (a.eval y).cells.toList 0 cs W hg (by simp at hlen hlen' ⊢; omega) (fun v hv => by
    have := hl'.all
    exact List.all_eq_true.1 this v hv)
  refine ⟨undef, _, E, .inr ⟨?_, rfl⟩, g, m, r, trivial⟩
  unfold execOp
  simp only [ho, hv, Instr.storeAt, Instr.sureAddr, storeVar, sizeOf, typeInfo, Sem.run_bind, Sem.run_pure, Result.andThen_ok, run_program, hi, Sem.run_ite]
  rw [if_neg (by simp at hlen'; omega)]
  rw [hst]
  rfl
end
end Go.Proofs.YtkompmgleojmlaaDoor
