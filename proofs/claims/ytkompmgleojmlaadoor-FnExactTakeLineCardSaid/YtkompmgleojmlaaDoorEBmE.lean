/-
  The rest of the operations that call nothing.
  Plain: no program. No condition.
-/
import Derived.Test.YtkompmgleojmlaaDoorEBmD
set_option linter.unusedSimpArgs false
set_option linter.unusedVariables false
namespace Go.Proofs.YtkompmgleojmlaaDoor
open Go.ChangeShapes Go.WideShapes Go.ChangeAt Go.RowKit Go.Joins Go.Deep
open GoRep (rep bulk)

def OptRep (X : List Nat) (W : World) (E : Env) (M : Mem) : Option AV → Option Value → Prop
  | none, none => True
  | some x, some u => RepV X W E M x u
  | _, _ => False
section
variable {P : Program} {X : List Nat} {W : World} {E : Env} {M : Mem} {a : Act} {tm : List AV} {o : Oper}
theorem does_box {e : TypeId} {x : Operand} {l : List AC} (hM : RepM X W E M) (ht : RepT X W E M tm a.tmps.toList) (ho : o.op = .box e x) (hx : cellsA (evalA tm x) = some l) : Does X P o a W E M (.c (.bp M.length 0)) (M ++ [.box l]) := by
  obtain ⟨g, m, r, v⟩ := repM_box hM (a.eval x).cells e l (cellsA_rep (evalA_rep ht x) hx)
  refine ⟨_, _, _, .inl ?_, g, m, r, v⟩
  unfold execOp
  simp only [ho, Instr.box, newVar, newRow, Sem.run_bind, run_newObj, Result.andThen_ok, Sem.run_pure, World.alloc_eq]
theorem does_alloc {e : TypeId} {i : TypeInfo} {z : Value} (hM : RepM X W E M) (ho : o.op = .alloc e) (hi : P.info? e = some i) (hz : i.zero = some z) (hok : z.cells.toList.all absOk = true) : Does X P o a W E M (.c (.bp M.length 0)) (M ++ [.box (z.cells.toList.map absC)]) := by
  obtain ⟨g, m, r, v⟩ := repM_box hM z.cells e (z.cells.toList.map absC) (absL_rep hok)
  refine ⟨_, _, _, .inl ?_, g, m, r, v⟩
  unfold execOp
  simp only [ho, Instr.alloc, zeroValue, typeInfo, newVar, newRow, Sem.run_bind, run_program, run_newObj, Result.andThen_ok, Sem.run_pure, World.alloc_eq, hi, hz]
/-- a pointer that is good -/
def goodP (M : Mem) : AC → Prop
  | .bp _ _ => True
  | .ep L _ _ _ _ => liveL M L = true
  | .rp i v _ _ _ => (rowIx M i v).isSome = true
  | .sp i v c n k o _ _ _ => (readSl M i v c n k o).isSome = true
  | _ => False
theorem rp_of (hM : RepM X W E M) {i v n k q : Nat} {u : Value} (hl : (rowIx M i v).isSome = true) (h : RepC X W E M (.rp i v n k q) u) : ∃ b, u = .pointer (some ⟨b, k * n + q, none⟩) ∧
    ∀ (q' : Nat), RepC X W E M (.rp i v n k q') (.pointer (some ⟨b, k * n + q', none⟩)) := by
  obtain ⟨r, hr⟩ := Option.isSome_iff_exists.1 hl
  obtain ⟨_, h⟩ := h
  obtain ⟨e, hh, hm, he, ⟨b, l, c, hev, hk, hv⟩, _⟩ := rowIx_of hM hr h
  refine ⟨b, hv, fun q' => ⟨rfl, ?_⟩⟩
  unfold atRow
  rw [hm]
  exact ⟨Nat.le_refl _, fun _ => ⟨e, he, b, l, c, hev, hk, rfl⟩⟩
theorem sp_of (hM : RepM X W E M) {i v c n k o m x q : Nat} {u : Value} (hl : (readSl M i v c n k o).isSome = true) (h : RepC X W E M (.sp i v c n k o m x q) u) : ∃ b, u = .pointer (some ⟨b, x * m + q, none⟩) ∧
    ∀ (q' : Nat), RepC X W E M (.sp i v c n k o m x q') (.pointer (some ⟨b, x * m + q', none⟩)) := by
  obtain ⟨_, b, l, cap, h1, h2, h3⟩ := h
  exact ⟨b, h3, fun q' => ⟨rfl, b, l, cap, h1, h2, rfl⟩⟩
theorem goodP_ptr (hM : RepM X W E M) {c : AC} {v : Value} (hc : goodP M c) (h : RepC X W E M c v) : ∃ b q, v = .pointer (some ⟨b, q, none⟩) := by
  unfold goodP at hc
  split at hc
  · obtain ⟨e, _, h⟩ := h; exact ⟨_, _, h⟩
  · obtain ⟨F, ⟨b, off, G, _, e, _⟩, _⟩ := lend_live hc h.2; exact ⟨_, _, e⟩
  · obtain ⟨b, e, _⟩ := rp_of hM hc h; exact ⟨_, _, e⟩
  · obtain ⟨b, e, _⟩ := sp_of hM hc h; exact ⟨_, _, e⟩
  · exact hc.elim
theorem does_nilCheck {x : Operand} {c : AC} (hM : RepM X W E M) (ht : RepT X W E M tm a.tmps.toList) (ho : o.op = .nilCheck x) (hx : evalA tm x = .c c)
    (hc : goodP M c ∨ ∃ f l, c = .fn f l) : Does X P o a W E M (.c c) M := by
  have hp := evalA_rep ht x
  rw [hx] at hp
  have hp' : RepC X W E M c (a.eval x) := hp
  refine Does.stay hM (u := a.eval x) ?_ hp
  unfold execOp
  simp only [ho]
  rcases hc with hc | ⟨f, l, rfl⟩
  · obtain ⟨b, q, h⟩ := goodP_ptr hM hc hp'
    rw [h]; rfl
  · obtain ⟨vs, h, _⟩ := hp'
    rw [h]; rfl
theorem does_not {t : TypeId} {x : Operand} {b : Bool} (hM : RepM X W E M) (ht : RepT X W E M tm a.tmps.toList) (ho : o.op = .unOp .not t x) (hx : evalA tm x = .w (.c (.bool b))) : Does X P o a W E M (.c (.bool (!b))) M := by
  have hp := evalA_rep ht x
  rw [hx] at hp
  exact does_val hM (Op.unary .not (a.eval x)) (by unfold execOp; rw [ho]) (u := .bool (!b)) (by rw [bool_of hp]; rfl) rfl
theorem does_neg {t : TypeId} {x : Operand} {k : IntKind} {n : Int} (hM : RepM X W E M) (ht : RepT X W E M tm a.tmps.toList) (ho : o.op = .unOp .neg t x) (hx : evalA tm x = .w (.c (.int k n))) : Does X P o a W E M (.c (.int k (k.wrap (0 - n)))) M := by
  have hp := evalA_rep ht x
  rw [hx] at hp
  exact does_val hM (Op.unary .neg (a.eval x)) (by unfold execOp; rw [ho]) (u := .int k (k.wrap (0 - n))) (by rw [(int_of hp).1]; rfl) ⟨rfl, wf_wrap _ _⟩
theorem does_convert {s d : TypeId} {x : Operand} {k k' : IntKind} {n : Int} (hM : RepM X W E M) (ht : RepT X W E M tm a.tmps.toList) (ho : o.op = .convert s d x) (hd : P.underlying d = some (.int k)) (hs : (P.underlying s).isSome = true) (hx : evalA tm x = .w (.c (.int k' n))) :
    Does X P o a W E M (.c (.int k (k.wrap n))) M := by
  have hp := evalA_rep ht x
  rw [hx] at hp
  obtain ⟨ds, hds⟩ := Option.isSome_iff_exists.1 hs
  refine does_val hM (convert s d (a.eval x)) (by unfold execOp; rw [ho]) (u := .int k (k.wrap n)) ?_ ⟨rfl, wf_wrap _ _⟩
  rw [(int_of hp).1]
  unfold convert
  simp only [Sem.run_bind, run_underlying hds, run_underlying hd, Result.andThen_ok]
  rfl
theorem capsOf_rep : ∀ {l : List AV} {is : List Nat} {vs : List Value}, capsOf l = some is → RepT X W E M l vs → capsAt E is vs
  | [], is, vs, h, hr => by
    obtain rfl : [] = is := by simpa [capsOf] using h
    exact hr
  | x :: l, is, vs, h, ⟨v, r, e, h1, h2⟩ => by
    unfold capsOf at h
    split at h
    · simp_all
    · rename_i i l' heq
      injection heq with h3 h4
      subst h3
      subst h4
      cases hq : capsOf l with
      | none => rw [hq] at h; cases h
      | some js =>
        rw [hq] at h
        obtain rfl : i :: js = is := by simpa using h
        exact ⟨v, r, e, h1, capsOf_rep hq h2⟩
    · cases h
theorem repT_map (ht : RepT X W E M tm a.tmps.toList) : ∀ (l : List Operand), RepT X W E M (l.map (evalA tm)) (l.map a.eval)
  | [] => rfl
  | x :: l => ⟨_, _, rfl, evalA_rep ht x, repT_map ht l⟩
theorem does_makeFunc {f : FuncId} {first captured : Array Operand} {l : List Nat} (hM : RepM X W E M) (ht : RepT X W E M tm a.tmps.toList) (ho : o.op = .makeFunc (.func f) first captured) (hf : first.toList = []) (hc : capsOf (captured.toList.map (evalA tm)) = some l) :
    Does X P o a W E M (.c (.fn f l)) M := by
  have h1 := capsOf_rep hc (repT_map ht captured.toList)
  refine Does.stay hM (u := .func (.func f) #[] (captured.toList.map a.eval).toArray) ?_ ⟨_, rfl, h1⟩
  have hf' : first = #[] := by simpa using hf
  unfold execOp
  have hc' : captured.map a.eval = (captured.toList.map a.eval).toArray := by
    rw [← Array.toList_map]
  simp only [ho, Instr.makeFunc, hf', Array.map_empty, Sem.run_bind, Sem.run_pure, Result.andThen_ok, hc']
theorem does_fieldAddr {s : TypeId} {x : Operand} {n : Nat} {f : Field} {fs : Array Field} {c c' : AC} (hM : RepM X W E M) (ht : RepT X W E M tm a.tmps.toList) (ho : o.op = .fieldAddr s x n) (hs : P.underlying s = some (.struct fs)) (hf : fs[n]? = some f)
    (hz : sizeT P f.type ≠ 0) (hx : evalA tm x = .c c)
    (hg : goodP M c) (hc : match c with | .bp i q => c' = .bp i (q + f.offset) | .ep L t xs k q => c' = .ep L t xs k (q + f.offset) | .rp i v n k q => c' = .rp i v n k (q + f.offset) | .sp i v cc n k o' m x q => c' = .sp i v cc n k o' m x (q + f.offset) | _ => False) : Does X P o a W E M (.c c') M := by
  have hp := evalA_rep ht x
  rw [hx] at hp
  have hp' : RepC X W E M c (a.eval x) := hp
  obtain ⟨inf, hi⟩ : ∃ i, P.info? f.type = some i := by
    unfold sizeT at hz
    cases hq : P.info? f.type with
    | none => rw [hq] at hz; exact absurd rfl hz
    | some i => exact ⟨i, rfl⟩
  have hsz : inf.size ≠ 0 := by unfold sizeT at hz; rw [hi] at hz; exact hz
  have hadd : ∀ b q, (⟨b, q, none⟩ : Addr).add f.offset = ⟨b, q + f.offset, none⟩ := fun b q => by unfold Addr.add; split <;> simp_all
  have key : ∀ b q, (Instr.fieldAt s (.pointer (some ⟨b, q, none⟩)) n).run P W = .ok (.pointer (some ⟨b, q + f.offset, none⟩)) W := fun b q => by
    unfold Instr.fieldAt
    simp only [Sem.run_bind, run_underlying hs, Result.andThen_ok, hf, Instr.sureAddr, Sem.run_pure, fieldPlace, sizeOf, typeInfo, run_program, hi, Sem.run_ite]
    rw [if_neg hsz]
    simp only [Sem.run_pure, Result.andThen_ok, hadd]
  cases c <;> simp only at hc
  · subst hc
    obtain ⟨e, he, h⟩ := hp'
    exact does_val hM (Instr.fieldAt s (a.eval x) n) (by unfold execOp; rw [ho]) (by rw [h]; exact key _ _) ⟨e, he, rfl⟩
  · subst hc
    obtain ⟨F, ⟨b, off, G, rfl, h, r⟩, hF⟩ := lend_live hg hp'.2
    exact does_val hM (Instr.fieldAt s (a.eval x) n) (by unfold execOp; rw [ho]) (by rw [h]; exact key _ _) ⟨rfl, lendQ_of hF ⟨b, off, G, rfl, by rw [Nat.add_assoc], r⟩⟩
  · subst hc
    obtain ⟨b, h, r⟩ := rp_of hM hg hp'
    refine does_val hM (Instr.fieldAt s (a.eval x) n) (by unfold execOp; rw [ho]) (by rw [h]; exact key _ _) ?_
    rw [Nat.add_assoc]
    exact r _
  · subst hc
    obtain ⟨b, h, r⟩ := sp_of hM hg hp'
    refine does_val hM (Instr.fieldAt s (a.eval x) n) (by unfold execOp; rw [ho]) (by rw [h]; exact key _ _) ?_
    rw [Nat.add_assoc]
    exact r _
/-- what a list's cell holds -/
theorem read_of (hM : RepM X W E M) {c : AC} {v : Value} {L : Lnd} {q : RowC} (h : readL M c = some (L, q)) (hr : RepC X W E M c v) : ∃ A cap F, v = .slice A q.xs.length cap ∧ SliceRep W q.xs A cap F ∧ lendF X W E M L F := by
  unfold readL at h
  split at h
  · rename_i L' t xs
    cases hl : liveL M L' with
    | false => rw [hl] at h; cases h
    | true =>
      rw [hl] at h
      obtain ⟨rfl, rfl⟩ := Prod.mk.inj (Option.some.inj h)
      obtain ⟨F, ⟨A, c, e, hs⟩, hF⟩ := lend_live hl hr.2
      exact ⟨A, c, F, by simpa using e, hs, hF⟩
  · rename_i i ver
    cases hq : rowAt M i ver with
    | none => rw [hq] at h; cases h
    | some r =>
      rw [hq] at h
      obtain ⟨rfl, rfl⟩ := Prod.mk.inj (Option.some.inj h)
      obtain ⟨e, he, hv, hol⟩ := row_of hM hq hr.2
      obtain ⟨F', ⟨A, c, e1, hs⟩, hF⟩ := ORep.rep (.list r.t) (x := r.xs) (cs := [e.val]) ⟨e.val, rfl, hol⟩
      exact ⟨A, c, F', by rw [hv]; simpa using e1, hs, lend_row hq he hF⟩
  · rename_i i ver c n k o
    cases hq : readSl M i ver c n k o with
    | none => rw [hq] at h; cases h
    | some r =>
      rw [hq] at h
      obtain ⟨rfl, rfl⟩ := Prod.mk.inj (Option.some.inj h)
      obtain ⟨tt, xs, e, b, cap, F1, k1, k2, k3, k4, k5, k6, k7, k8, k9⟩ := sl_of hM hq hr.2
      obtain ⟨F', ⟨A, c, e1, hs⟩, hF⟩ := ORep.rep (.list r.t) (x := r.xs) (cs := [v]) ⟨v, rfl, k8⟩
      exact ⟨A, c, F', by simpa using e1, hs, tt, xs, e, k1, k2, fun z hz => k9 z (hF z hz)⟩
  · cases h
theorem run_indexAt {t e : TypeId} {b off len c m : Nat} {k : IntKind} {n : Int} (hu : P.underlying t = some (.slice e)) (hs : sizeT P e = m) (hm : 0 < m) (h0 : 0 ≤ n) (h1 : n < (len : Int)) :
    (Instr.indexAt t (.slice (some ⟨b, off, none⟩) len c) (.int k n)).run P W = .ok (.pointer (some ⟨b, off + n.toNat * m, none⟩)) W := by
  obtain ⟨inf, hinf⟩ : ∃ i, P.info? e = some i := by
    unfold sizeT at hs
    cases hq : P.info? e with
    | none => rw [hq] at hs; exact absurd hs.symm (by simp; omega)
    | some i => exact ⟨i, rfl⟩
  have hsz : inf.size = m := by rw [← hs]; unfold sizeT; rw [hinf]
  unfold Instr.indexAt
  have hadd : (⟨b, off, none⟩ : Addr).add (n.toNat * m) = ⟨b, off + n.toNat * m, none⟩ := by unfold Addr.add; split <;> simp_all
  simp only [asIntOf, Sem.run_bind, Sem.run_pure, Result.andThen_ok, run_underlying hu, sizeOf, typeInfo, run_program, hinf, Sem.run_ite, hsz, hadd]
  rw [if_pos ⟨h0, h1⟩]
theorem ty_pos (t : Ty) : 0 < t.n := by rw [← Ty.n_eq]; exact GoRep.pos
theorem does_indexAddr {t e : TypeId} {x i : Operand} {L : Lnd} {t' : Ty} {xs : List t'.den} {k : IntKind} {n : Int} (hM : RepM X W E M) (ht : RepT X W E M tm a.tmps.toList) (ho : o.op = .indexAddr t x i) (hu : P.underlying t = some (.slice e))
    (hx : evalA tm x = .w (.c (.hs L t' xs))) (hi : evalA tm i = .w (.c (.int k n))) (hL : liveL M L = true) (hs : sizeT P e = t'.n) (h0 : 0 ≤ n) (h1 : n < (xs.length : Int)) : Does X P o a W E M (.c (.ep L t' xs n.toNat 0)) M := by
  have hp := evalA_rep ht x
  rw [hx] at hp
  have hq := evalA_rep ht i
  rw [hi] at hq
  obtain ⟨A, c, F, hv, hsr, hF⟩ := read_of (c := .hs L t' xs) (L := L) (q := ⟨t', xs, 0⟩) hM (by show (bif liveL M L then some (L, (⟨t', xs, 0⟩ : RowC)) else none) = _; rw [hL]; rfl) hp
  have hn : n.toNat < xs.length := by omega
  obtain ⟨_, _, h3⟩ := hsr
  rcases h3 with ⟨h3, _⟩ | ⟨hne, b, off, G, rfl, rfl, hr⟩
  · have h3 : xs = [] := h3
    rw [h3] at hn
    simp at hn
  · refine does_val hM (Instr.indexAt t (a.eval x) (a.eval i)) (by unfold execOp; rw [ho]) (u := .pointer (some ⟨b, off + n.toNat * t'.n, none⟩)) ?_ ⟨rfl, lendQ_of hF ⟨b, off, G, rfl, rfl, hn, hr⟩⟩
    rw [hv, (int_of hq).1]
    exact run_indexAt hu hs (ty_pos t') h0 h1
theorem does_indexRow {t e : TypeId} {x i : Operand} {j v : Nat} {r : RowC} {k : IntKind} {n : Int} (hM : RepM X W E M) (ht : RepT X W E M tm a.tmps.toList) (ho : o.op = .indexAddr t x i) (hu : P.underlying t = some (.slice e))
    (hx : evalA tm x = .w (.c (.row j v))) (hi : evalA tm i = .w (.c (.int k n))) (hr : rowIx M j v = some r) (hs : sizeT P e = r.t.n) (h0 : 0 ≤ n) (h1 : n < (r.xs.length : Int)) : Does X P o a W E M (.c (.rp j v r.t.n n.toNat 0)) M := by
  have hp := evalA_rep ht x
  rw [hx] at hp
  have hq := evalA_rep ht i
  rw [hi] at hq
  obtain ⟨_, hp⟩ := (hp : RepC X W E M (.row j v) _)
  obtain ⟨e', hh, hm, he, hv, A, cap, hA⟩ := rowIx_of hM hr hp
  have hn : n.toNat < r.xs.length := by omega
  have hol : ∃ (W1 : World) (ys : List r.t.den), ys.length = r.xs.length ∧ OList W1 (ORep W1 r.t) r.t.n ys e'.val e'.foot := by
    have hR := hM.at_ j _ e' hm he
    cases hh with
    | none => exact ⟨W, r.xs, rfl, hR⟩
    | some p => obtain ⟨k, o, j⟩ := p; obtain ⟨b, l, cap, _, _, _, _, h4, _⟩ := hR; exact ⟨_, _, by rw [List.length_set], h4⟩
  obtain ⟨W1, ys, hyl, T, cells, G, ho1, ho2, ho3⟩ := hol
  rw [hyl] at ho1
  rcases ho1.2 with ⟨q1, q2⟩ | ⟨g, cap, cur, q1, _⟩
  · omega
  · refine does_val hM (Instr.indexAt t (a.eval x) (a.eval i)) (by unfold execOp; rw [ho]) (u := .pointer (some ⟨g, 0 + n.toNat * r.t.n, none⟩)) ?_ ⟨rfl, ?_⟩
    · rw [hv, q1, (int_of hq).1]
      exact run_indexAt hu hs (ty_pos r.t) h0 h1
    · unfold atRow
      rw [hm]
      exact ⟨Nat.le_refl _, fun _ => ⟨e', he, g, r.xs.length, cap, q1, hn, by rw [Nat.zero_add]; rfl⟩⟩
theorem does_indexSl {t e : TypeId} {x i : Operand} {j v c n' k' o' : Nat} {r : RowC} {k : IntKind} {n : Int} (hM : RepM X W E M) (ht : RepT X W E M tm a.tmps.toList) (ho : o.op = .indexAddr t x i) (hu : P.underlying t = some (.slice e))
    (hx : evalA tm x = .w (.c (.sl j v c n' k' o'))) (hi : evalA tm i = .w (.c (.int k n))) (hr : readSl M j v c n' k' o' = some r) (hs : sizeT P e = r.t.n) (h0 : 0 ≤ n) (h1 : n < (r.xs.length : Int)) : Does X P o a W E M (.c (.sp j v c n' k' o' r.t.n n.toNat 0)) M := by
  have hp := evalA_rep ht x
  rw [hx] at hp
  have hq := evalA_rep ht i
  rw [hi] at hq
  obtain ⟨_, hin⟩ := (hp : RepC X W E M (.sl j v c n' k' o') _)
  obtain ⟨tt, xs, e', b, cap, F1, k1, k2, k3, k4, k5, k6, k7, k8, k9⟩ := sl_of hM hr hin
  have hn : n.toNat < r.xs.length := by omega
  obtain ⟨T, cells, G, ho1, ho2, ho3⟩ := k8
  rcases ho1.2 with ⟨q1, q2⟩ | ⟨g, cap, cur, q1, _⟩
  · omega
  · refine does_val hM (Instr.indexAt t (a.eval x) (a.eval i)) (by unfold execOp; rw [ho]) (u := .pointer (some ⟨g, 0 + n.toNat * r.t.n, none⟩)) ?_ ⟨rfl, g, r.xs.length, cap, ?_, hn, by rw [Nat.zero_add]; rfl⟩
    · rw [q1, (int_of hq).1]
      exact run_indexAt hu hs (ty_pos r.t) h0 h1
    · rw [← q1]; exact hin
theorem does_index {t : TypeId} {x i : Operand} {s : ByteArray} {k : IntKind} {n : Int} (hM : RepM X W E M) (ht : RepT X W E M tm a.tmps.toList) (ho : o.op = .index t x i) (hu : P.underlying t = some .string)
    (hx : evalA tm x = .w (.c (.str s))) (hi : evalA tm i = .w (.c (.int k n))) (h0 : 0 ≤ n) (h1 : n < (s.size : Int)) : Does X P o a W E M (.c (.int .u8 (byteAt s n.toNat))) M := by
  have hp := evalA_rep ht x
  rw [hx] at hp
  have hq := evalA_rep ht i
  rw [hi] at hq
  have hn : n.toNat < s.size := by omega
  have hb : byteAt s n.toNat = (s[n.toNat].toNat : Nat) := by
    unfold byteAt
    rw [List.getD_eq_getElem?_getD, List.getElem?_eq_getElem (by simpa using hn)]
    rfl
  refine does_val hM (Instr.index t (a.eval x) (a.eval i)) (by unfold execOp; rw [ho]) (u := .int .u8 (byteAt s n.toNat)) ?_ ⟨rfl, ?_⟩
  · rw [(str_of hp).1, (int_of hq).1, hb]
    unfold Instr.index
    simp only [asIntOf, Sem.run_bind, Sem.run_pure, Result.andThen_ok, run_underlying hu, if_pos h0, ByteArray.getElem?_lt' s n.toNat hn]
  · rw [hb, lit_wf]
    have := s[n.toNat].toNat_lt
    have hmm : IntKind.u8.min = 0 ∧ IntKind.u8.max = 255 := by decide
    omega
theorem does_extract {x : Operand} {n : Nat} {l : List AW} {w : AW} (hM : RepM X W E M) (ht : RepT X W E M tm a.tmps.toList) (ho : o.op = .extract x n) (hx : evalA tm x = .tp l) (hw : l[n]? = some w) : Does X P o a W E M (.w w) M := by
  have hp := evalA_rep ht x
  rw [hx] at hp
  obtain ⟨vs, hv, hr⟩ := (hp : ∃ vs, a.eval x = .tuple vs.toArray ∧ RepWs X W E M l vs)
  have get : ∀ {l : List AW} {vs : List Value} {n : Nat}, RepWs X W E M l vs → l[n]? = some w → ∃ v, vs[n]? = some v ∧ RepW X W E M w v := by
    intro l
    induction l with
    | nil => intro vs n _ h; simp at h
    | cons y l ih =>
      intro vs n hr h
      obtain ⟨v, r, e, h1, h2⟩ := hr
      cases n with
      | zero => simp at h; subst h; exact ⟨v, by rw [e]; rfl, h1⟩
      | succ n =>
        simp at h
        obtain ⟨u, q1, q2⟩ := ih h2 h
        exact ⟨u, by rw [e]; simpa using q1, q2⟩
  obtain ⟨v, h1, h2⟩ := get hr hw
  refine does_val hM (Instr.extract (a.eval x) n) (by unfold execOp; rw [ho]) (u := v) ?_ h2
  rw [hv]
  unfold Instr.extract
  simp [h1]
theorem run_len {t ty : TypeId} {x : Operand} {u v : Value} {ts : Array TypeId} {xs : Array Operand} (hM : RepM X W E M) {r : AV} (hr : RepV X W E M r u) (ho : o.op = .call ⟨.builtin .len, xs, ts⟩) (hts : ts.toList = [t]) (has : xs.toList = [x]) (hx : a.eval x = v)
    (h : (Builtin.len_ #[t] ty #[v]).run P W = .ok u W) (hty : ty = o.type) : Does X P o a W E M r M := by
  refine Does.stay hM (u := u) ?_ hr
  have hts' : ts = #[t] := by simpa using congrArg List.toArray hts
  have has' : xs = #[x] := by simpa using congrArg List.toArray has
  subst hty
  unfold execOp
  simp only [ho, has', hts', resolve, invoke, builtin, Sem.run_bind, Sem.run_pure, Result.andThen_ok, List.map_toArray, List.map_cons, List.map_nil, hx, h]
theorem does_minmax {b : Builtin} {ts : Array TypeId} {xs : Array Operand} {k k' : IntKind} {p q r : Int} (hM : RepM X W E M) (ht : RepT X W E M tm a.tmps.toList) (ho : o.op = .call ⟨.builtin b, xs, ts⟩) (has : xs.toList.map (evalA tm) = [.w (.c (.int k p)), .w (.c (.int k' q))])
    (hb : (b = .min ∧ r = if q < p then q else p) ∨ (b = .max ∧ r = if q > p then q else p)) (hk : k = k') : Does X P o a W E M (.c (.int k r)) M := by
  subst hk
  obtain ⟨x, y, has', hx, hy⟩ : ∃ x y, xs.toList = [x, y] ∧ evalA tm x = .w (.c (.int k p)) ∧ evalA tm y = .w (.c (.int k q)) := by
    cases hl : xs.toList with
    | nil => rw [hl] at has; simp at has
    | cons x l =>
      cases l with
      | nil => rw [hl] at has; simp at has
      | cons y l =>
        cases l with
        | nil => rw [hl] at has; simp at has; exact ⟨x, y, rfl, has.1, has.2⟩
        | cons z l => rw [hl] at has; simp at has
  have hp := evalA_rep ht x
  rw [hx] at hp
  have hq := evalA_rep ht y
  rw [hy] at hq
  have has'' : xs = #[x, y] := by simpa using congrArg List.toArray has'
  obtain ⟨e1, w1⟩ := int_of hp
  obtain ⟨e2, w2⟩ := int_of hq
  refine Does.stay hM (u := .int k r) ?_ ⟨rfl, ?_⟩
  · unfold execOp
    rcases hb with ⟨rfl, rfl⟩ | ⟨rfl, rfl⟩
    · simp [ho, has'', resolve, invoke, builtin, e1, e2, Builtin.min_, Builtin.min2]
    · simp [ho, has'', resolve, invoke, builtin, e1, e2, Builtin.max_, Builtin.max2]
  · rcases hb with ⟨_, rfl⟩ | ⟨_, rfl⟩ <;> split <;> assumption
theorem does_min3 {ts : Array TypeId} {xs : Array Operand} {k k' k'' : IntKind} {p q r : Int} (hM : RepM X W E M) (ht : RepT X W E M tm a.tmps.toList) (ho : o.op = .call ⟨.builtin .min, xs, ts⟩) (has : xs.toList.map (evalA tm) = [.w (.c (.int k p)), .w (.c (.int k' q)), .w (.c (.int k'' r))])
    (hk : k = k' ∧ k = k'') : Does X P o a W E M (.c (.int k (if r < (if q < p then q else p) then r else (if q < p then q else p)))) M := by
  obtain ⟨rfl, rfl⟩ := hk
  obtain ⟨x, y, z, has', hx, hy, hz⟩ : ∃ x y z, xs.toList = [x, y, z] ∧ evalA tm x = .w (.c (.int k p)) ∧ evalA tm y = .w (.c (.int k q)) ∧ evalA tm z = .w (.c (.int k r)) := by
    match hl : xs.toList with
    | [] => rw [hl] at has; simp at has
    | [_] => rw [hl] at has; simp at has
    | [_, _] => rw [hl] at has; simp at has
    | [x, y, z] => rw [hl] at has; simp at has; exact ⟨x, y, z, rfl, has.1, has.2.1, has.2.2⟩
    | _ :: _ :: _ :: _ :: _ => rw [hl] at has; simp at has
  have hp := evalA_rep ht x
  rw [hx] at hp
  have hq := evalA_rep ht y
  rw [hy] at hq
  have hr := evalA_rep ht z
  rw [hz] at hr
  have has'' : xs = #[x, y, z] := by simpa using congrArg List.toArray has'
  obtain ⟨e1, w1⟩ := int_of hp
  obtain ⟨e2, w2⟩ := int_of hq
  obtain ⟨e3, w3⟩ := int_of hr
  refine Does.stay hM (u := .int k (if r < (if q < p then q else p) then r else (if q < p then q else p))) ?_ ⟨rfl, ?_⟩
  · unfold execOp
    simp [ho, has'', resolve, invoke, builtin, e1, e2, e3, Builtin.min_, Builtin.min2]
    repeat' split
    all_goals first | rfl | (exfalso; omega)
  · repeat' split
    all_goals assumption
theorem loI_rep {lo : Option AV} {l : Int} {v : Option Value} (h : loI lo = some l) (hr : OptRep X W E M lo v) :
    (lo = none ∧ v = none ∧ l = 0) ∨ ∃ k, v = some (.int k l) := by
  unfold loI at h
  split at h
  · cases v with
    | none => exact .inl ⟨rfl, rfl, by simpa using h.symm⟩
    | some u => exact hr.elim
  · rename_i k l'
    obtain rfl : l' = l := by simpa using h
    cases v with
    | none => exact hr.elim
    | some u => have hr' : RepV X W E M (.w (.c (.int k l'))) u := hr; exact .inr ⟨k, by rw [(int_of hr').1]⟩
  · cases h
theorem hiI_rep {n : Nat} {lo : Option AV} {l : Int} {v : Option Value} (h : hiI n lo = some l) (hr : OptRep X W E M lo v) :
    (lo = none ∧ v = none ∧ l = n) ∨ ∃ k, v = some (.int k l) := by
  unfold hiI at h
  split at h
  · cases v with
    | none => exact .inl ⟨rfl, rfl, by simpa using h.symm⟩
    | some u => exact hr.elim
  · rename_i k l'
    obtain rfl : l' = l := by simpa using h
    cases v with
    | none => exact hr.elim
    | some u => have hr' : RepV X W E M (.w (.c (.int k l'))) u := hr; exact .inr ⟨k, by rw [(int_of hr').1]⟩
  · cases h
theorem run_bound {k : IntKind} {i : Int} {y : Nat} {c : BoundsCode} (h0 : 0 ≤ i) (h1 : i ≤ y) : (Instr.sliceBound (.int k i) y c).run P W = .ok i.toNat W := by
  unfold Instr.sliceBound
  simp only [asIntOf, Sem.run_bind, Sem.run_pure, Result.andThen_ok, Sem.run_ite]
  rw [if_pos ⟨h0, h1⟩]
theorem run_bounds {b : Bool} {len cap : Nat} {lo hi : Option Value} {l h : Int} (hlo : (lo = none ∧ l = 0) ∨ ∃ k, lo = some (.int k l)) (hhi : (hi = none ∧ h = len) ∨ ∃ k, hi = some (.int k h)) (h0 : 0 ≤ l) (h1 : l ≤ h) (h2 : h ≤ cap) :
    (Instr.sliceBounds b len cap lo hi none).run P W = .ok (l.toNat, h.toNat, cap) W := by
  unfold Instr.sliceBounds
  rcases hhi with ⟨rfl, rfl⟩ | ⟨kh, rfl⟩ <;> rcases hlo with ⟨rfl, rfl⟩ | ⟨kl, rfl⟩
  · simp
  · simp only [Sem.run_bind, Sem.run_pure, Result.andThen_ok, Option.isSome, Bool.false_eq_true, if_false]
    rw [run_bound h0 (by omega)]
    simp
  · simp only [Sem.run_bind, Sem.run_pure, Result.andThen_ok]
    rw [run_bound (by omega) (by omega)]
    simp
  · simp only [Sem.run_bind, Sem.run_pure, Result.andThen_ok, Option.isSome, Bool.false_eq_true, if_false]
    rw [run_bound (by omega) (by omega)]
    simp only [Result.andThen_ok]
    rw [run_bound h0 (by omega)]
    simp
theorem optRep (ht : RepT X W E M tm a.tmps.toList) (lo : Option Operand) : OptRep X W E M (lo.map (evalA tm)) (lo.map a.eval) := by
  cases lo with
  | none => trivial
  | some x => exact evalA_rep ht x
theorem RowRep.sub {t : Ty} {b : Nat} : ∀ {xs : List t.den} {off : Nat} {G : List Nat} (l h : Nat), RowRep W b off xs G → l ≤ h → h ≤ xs.length →
    ∃ G', RowRep W b (off + l * GoRep.n t.den) ((xs.take h).drop l) G' ∧ ∀ g ∈ G', g ∈ G
  | [], off, G, l, h, hr, h1, h2 => by
    obtain rfl : h = 0 := by simpa using h2
    obtain rfl : l = 0 := by omega
    exact ⟨[], rfl, by simp⟩
  | x :: xs, off, G, 0, 0, hr, h1, h2 => ⟨[], rfl, by simp⟩
  | x :: xs, off, G, 0, h + 1, hr, h1, h2 => by
    obtain ⟨cs, G1, G2, r1, r2, r3, rfl⟩ := hr
    obtain ⟨G', q1, q2⟩ := RowRep.sub 0 h r3 (Nat.zero_le _) (by simpa using h2)
    refine ⟨G1 ++ G', ⟨cs, G1, G', r1, by simpa using r2, by simpa using q1, rfl⟩, fun g hg => ?_⟩
    rcases List.mem_append.1 hg with hg | hg
    · simp [hg]
    · simp [q2 g hg]
  | x :: xs, off, G, l + 1, h + 1, hr, h1, h2 => by
    obtain ⟨cs, G1, G2, r1, r2, r3, rfl⟩ := hr
    obtain ⟨G', q1, q2⟩ := RowRep.sub l h r3 (by omega) (by simpa using h2)
    refine ⟨G', ?_, fun g hg => by simp [q2 g hg]⟩
    rw [show off + (l + 1) * GoRep.n t.den = off + GoRep.n t.den + l * GoRep.n t.den from by rw [Nat.add_mul]; omega]
    simpa using q1
theorem does_slice_str {t : TypeId} {x : Operand} {lo hi : Option Operand} {s : ByteArray} (hM : RepM X W E M) (ht : RepT X W E M tm a.tmps.toList) (ho : o.op = .slice t x lo hi none)
    (hu : P.underlying t = some .string) (hx : evalA tm x = .w (.c (.str s)))
    (hn : (sliceA (evalA tm x) (lo.map (evalA tm)) (hi.map (evalA tm))).1) : Does X P o a W E M (.c (sliceA (evalA tm x) (lo.map (evalA tm)) (hi.map (evalA tm))).2) M := by
  have hp := evalA_rep ht x
  have hlo := optRep (M := M) ht lo
  have hhi := optRep (M := M) ht hi
  unfold sliceA at hn ⊢
  rw [hx] at hp hn ⊢
  simp only at hn ⊢
  split at hn
  · rename_i l h hl hh
    obtain ⟨h0, h1, h2⟩ := hn
    have q1 := loI_rep hl hlo
    have q2 := hiI_rep hh hhi
    have hsl := run_bounds (P := P) (W := W) (b := false) (len := s.size) (cap := s.size) (lo := lo.map a.eval) (hi := hi.map a.eval) (q1.imp (fun h => ⟨h.2.1, h.2.2⟩) id) (q2.imp (fun h => ⟨h.2.1, h.2.2⟩) id) h0 h1 h2
    obtain ⟨e1, w1⟩ := str_of hp
    refine does_val hM (Instr.sliceAt t (a.eval x) (lo.map a.eval) (hi.map a.eval) none) (by unfold execOp; rw [ho]; rfl) (u := .string (s.extract l.toNat h.toNat)) ?_ ⟨rfl, ?_⟩
    · rw [e1]
      unfold Instr.sliceAt
      simp only [Sem.run_bind, run_underlying hu, Result.andThen_ok]
      unfold Instr.slice
      simp only [Sem.run_bind, run_underlying hu, Result.andThen_ok, Option.isSome, Bool.false_eq_true, if_false, Sem.run_pure, hsl]
    · have : (s.extract l.toNat h.toNat).size ≤ s.size := by simp; omega
      omega
  · exact hn.elim
theorem does_slice {t e : TypeId} {x : Operand} {lo hi : Option Operand} {cc : AC} {L : Lnd} {q : RowC} (hM : RepM X W E M) (ht : RepT X W E M tm a.tmps.toList) (ho : o.op = .slice t x lo hi none)
    (hu : P.underlying t = some (.slice e)) (hx : evalA tm x = .w (.c cc)) (hr : readL M cc = some (L, q)) (hs : sizeT P e = q.t.n)
    (hn : (sliceA (.c (.hs L q.t q.xs)) (lo.map (evalA tm)) (hi.map (evalA tm))).1) : Does X P o a W E M (.c (sliceA (.c (.hs L q.t q.xs)) (lo.map (evalA tm)) (hi.map (evalA tm))).2) M := by
  have hp := evalA_rep ht x
  have hlo := optRep (M := M) ht lo
  have hhi := optRep (M := M) ht hi
  obtain ⟨t', xs, _⟩ := q
  unfold sliceA at hn ⊢
  rw [hx] at hp
  simp only at hn hs hr ⊢
  split at hn
  · rename_i l h hl hh
    obtain ⟨h0, h1, h2⟩ := hn
    obtain ⟨A, c, F, hv, hsr, hF⟩ := read_of hM hr hp
    have q1 := loI_rep hl hlo
    have q2 := hiI_rep hh hhi
    have hlc : xs.length ≤ c := hsr.1
    have hsl := run_bounds (P := P) (W := W) (b := true) (len := xs.length) (cap := c) (lo := lo.map a.eval) (hi := hi.map a.eval) (q1.imp (fun h => ⟨h.2.1, h.2.2⟩) id) (q2.imp (fun h => ⟨h.2.1, h.2.2⟩) id) h0 h1 (by omega)
    obtain ⟨inf, hinf⟩ : ∃ i, P.info? e = some i := by
      have hpos : 0 < sizeT P e := by rw [hs]; exact ty_pos t'
      unfold sizeT at hpos
      cases hq : P.info? e with
      | none => rw [hq] at hpos; exact absurd hpos (Nat.lt_irrefl 0)
      | some i => exact ⟨i, rfl⟩
    have hsz : inf.size = t'.n := by rw [← hs]; unfold sizeT; rw [hinf]
    have hlen : ((xs.take h.toNat).drop l.toNat).length = h.toNat - l.toNat := by simp; omega
    refine does_val hM (Instr.sliceAt t (a.eval x) (lo.map a.eval) (hi.map a.eval) none) (by unfold execOp; rw [ho]; rfl)
      (u := .slice (if c = l.toNat then A else A.map (·.add (l.toNat * t'.n))) (h.toNat - l.toNat) (c - l.toNat)) ?_ ⟨rfl, ?_⟩
    · rw [hv]
      unfold Instr.sliceAt
      simp only [Sem.run_bind, run_underlying hu, Result.andThen_ok]
      unfold Instr.slice
      simp only [Sem.run_bind, run_underlying hu, Result.andThen_ok, Sem.run_pure, hsl, sizeOf, typeInfo, run_program, hinf, hsz]
    · obtain ⟨z1, z2, z3⟩ := hsr
      have z2 : c ≤ maxLen := z2
      by_cases hemp : h.toNat - l.toNat = 0
      · have hnil : (xs.take h.toNat).drop l.toNat = [] := List.eq_nil_of_length_eq_zero (by omega)
        rw [hnil, hemp]
        exact lendQ_of (F := []) (hF.sub (fun _ h => by cases h)) ⟨_, _, rfl, by simp, by omega, .inl ⟨rfl, rfl⟩⟩
      · rcases z3 with ⟨z3, _⟩ | ⟨hne, b, off, G, rfl, rfl, hr⟩
        · have z3 : xs = [] := z3
          subst z3
          simp at hlen; omega
        · obtain ⟨G', g1, g2⟩ := hr.sub l.toNat h.toNat (by omega) (by show h.toNat ≤ xs.length; omega)
          rw [Ty.n_eq] at g1
          have hadd : (⟨b, off, none⟩ : Addr).add (l.toNat * t'.n) = ⟨b, off + l.toNat * t'.n, none⟩ := by unfold Addr.add; split <;> simp_all
          rw [if_neg (by omega)]
          simp only [Option.map_some, hadd]
          refine lendQ_of (F := b :: G') (hF.sub (fun q hq => ?_)) ⟨_, _, by rw [hlen], by omega, by omega, .inr ⟨fun e => by rw [e] at hlen; simp at hlen; omega, b, _, G', rfl, rfl, g1⟩⟩
          rcases List.mem_cons.1 hq with rfl | hq
          · simp
          · simp [g2 q hq]
  · exact hn.elim
end
end Go.Proofs.YtkompmgleojmlaaDoor
