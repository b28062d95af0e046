/-
  Slices that end a row, clear: each does what the abstract one says.
  Plain: no program. No condition.
-/
import Derived.Test.YtkompmgleojmlaaDoorEBmX
set_option linter.unusedSimpArgs false
set_option linter.unusedVariables false
namespace Go.Proofs.YtkompmgleojmlaaDoor
open Go.ChangeShapes Go.WideShapes Go.ChangeAt Go.RowKit Go.Joins Go.Deep
open GoRep (rep bulk)

section
variable {P : Program} {X : List Nat} {W : World} {E : Env} {M : Mem} {a : Act} {tm : List AV} {o : Oper}
theorem ORows.take {α : Type} {R : α → List Value → List Nat → Prop} {n : Nat} (hn : ∀ x cs F, R x cs F → cs.length = n) : ∀ (k : Nat) {xs : List α} {cs : List Value} {G : List Nat}, ORows R xs cs G → ∃ G', ORows R (xs.take k) (cs.take (k * n)) G' ∧ ∀ z, G'.count z ≤ G.count z
  | 0, _, _, _, _ => ⟨[], by rw [Nat.zero_mul]; exact ⟨rfl, rfl⟩, fun z => by simp⟩
  | k + 1, [], _, _, ⟨h1, h2⟩ => ⟨[], by rw [h1]; exact ⟨by simp, rfl⟩, fun z => by simp⟩
  | k + 1, y :: ys, _, _, ⟨c1, c2, G1, G2, h1, h2, e1, e2⟩ => by
    obtain ⟨G', q1, q2⟩ := ORows.take hn k h2
    have hc := hn _ _ _ h1
    refine ⟨G1 ++ G', ⟨c1, _, G1, G', h1, q1, ?_, rfl⟩, fun z => ?_⟩
    · rw [e1, Nat.add_mul, Nat.one_mul, Nat.add_comm, ← hc, List.take_length_add_append]
    · rw [e2, List.count_append, List.count_append]
      have := q2 z
      omega
/-- own row i takes over what row j held -/
theorem rows_steal {i j : Nat} {t : Ty} {xs ys : List t.den} {ver cc v c : Nat} (hM : RepM X W E M) (hi : M[i]? = some (.row t xs ver cc none)) (hj : M[j]? = some (.row t ys v c none)) (hij : j ≠ i) :
    ∃ E', Grow W E W E' ∧ MemOk W E M W E' ((killM M [j]).set i (.row t ys (ver + 1) (cc + 1) none)) ∧ RepM X W E' ((killM M [j]).set i (.row t ys (ver + 1) (cc + 1) none)) ∧ ∀ ej, E[j]? = some ej → RepC X W E' ((killM M [j]).set i (.row t ys (ver + 1) (cc + 1) none)) (.row i (ver + 1)) ej.val := by
  have hil : i < M.length := (List.getElem?_eq_some_iff.1 hi).1
  have hjl : j < M.length := (List.getElem?_eq_some_iff.1 hj).1
  have hie : i < E.length := by rw [← hM.len]; exact hil
  have hje : j < E.length := by rw [← hM.len]; exact hjl
  obtain ⟨ei, hei⟩ : ∃ ei, E[i]? = some ei := ⟨_, List.getElem?_eq_getElem hie⟩
  obtain ⟨ej, hej⟩ : ∃ ej, E[j]? = some ej := ⟨_, List.getElem?_eq_getElem hje⟩
  have hrow : RowR W E M t ys none ej := hM.at_ j _ ej hj hej
  obtain ⟨T, cells, G, ho, hr, hfe⟩ := hrow
  have hjs : ∀ q ∈ [j], q < E.length := fun q hq => by rw [List.mem_singleton.1 hq]; exact hje
  have hkl := killE_len [j] E
  have hml := killM_len [j] M
  have hft : feet E [j] = ej.foot := by simp [feet, hej]
  have hki : (killE E [j])[i]? = some ei := by
    rw [killE_other (fun k hk e => hij (by rw [← List.mem_singleton.1 hk]; exact e))]; exact hei
  have hin : ∀ b ∈ ej.foot, b ∈ foots E := fun b hb => mem_foots.2 ⟨ej, List.mem_of_getElem? hej, hb⟩
  have hcnt : ∀ z, (foots ((killE E [j]).set i ⟨ei.blk, ej.val, ej.foot⟩)).count z ≤ (foots E).count z := fun z => by
    have c1 := cnt_set (e' := ⟨ei.blk, ej.val, ej.foot⟩) z hki
    have c2 := cnt_kill z (rfl : distinct [j] = true) hjs
    rw [hft] at c2
    simp only at c1
    omega
  have hsub : ∀ b ∈ foots ((killE E [j]).set i ⟨ei.blk, ej.val, ej.foot⟩), b ∈ foots E := fun b hb =>
    List.count_pos_iff.1 (Nat.lt_of_lt_of_le (List.count_pos_iff.2 hb) (hcnt b))
  have g : Grow W E W ((killE E [j]).set i ⟨ei.blk, ej.val, ej.foot⟩) :=
    ⟨rfl, rfl, rfl, Nat.le_refl _, fun _ _ _ => rfl, fun b hb => .inl (hsub b hb), fun q e1 hq => by
      by_cases hqi : i = q
      · subst hqi
        obtain rfl := Option.some.inj (hei.symm.trans hq)
        exact ⟨_, List.getElem?_set_self (by rw [hkl]; exact hie), rfl⟩
      · rw [List.getElem?_set_ne hqi]
        exact killE_blk hq⟩
  have m : MemOk W E M W ((killE E [j]).set i ⟨ei.blk, ej.val, ej.foot⟩) ((killM M [j]).set i (.row t ys (ver + 1) (cc + 1) none)) := memOk_upd (fun q t' xs' v' c' hh' hq => by
      by_cases hqi : i = q
      · subst hqi
        obtain ⟨rfl, hx, rfl, rfl, rfl⟩ := Blk.row.inj (Option.some.inj (hi.symm.trans hq))
        exact .inr (.inl ⟨ys, ver + 1, cc + 1, none, List.getElem?_set_self (by rw [hml]; exact hil), Nat.lt_succ_self _⟩)
      · rw [List.getElem?_set_ne hqi]
        by_cases hqj : q = j
        · subst hqj
          exact .inl (killM_dead List.mem_cons_self hjl)
        · refine .inr (.inr (.inr ⟨by rw [killM_other (fun k hk e => hqj (by rw [← List.mem_singleton.1 hk]; exact e.symm))]; exact hq, fun e1 he1 => ⟨?_, fun _ _ => rfl⟩⟩))
          rw [List.getElem?_set_ne hqi, killE_other (fun k hk e => hqj (by rw [← List.mem_singleton.1 hk]; exact e.symm))]
          exact he1) (fun q hq => by
      have hqi : i ≠ q := fun e => by rw [← e, hi] at hq; cases hq
      have hqj : q ≠ j := fun e => by rw [e, hj] at hq; cases hq
      rw [List.getElem?_set_ne hqi, killM_other (fun k hk e => hqj (by rw [← List.mem_singleton.1 hk]; exact e.symm))]
      exact hq)
  have rm : RepM X W ((killE E [j]).set i ⟨ei.blk, ej.val, ej.foot⟩) ((killM M [j]).set i (.row t ys (ver + 1) (cc + 1) none)) :=
    repM_new hM g m (by simp [hml, hkl, hM.len]) (nodup_of_cnt fun z => Nat.le_trans (hcnt z) (cnt_le hM z)) (fun q b e1 hb he1 => by
      by_cases hqi : i = q
      · subst hqi
        rw [List.getElem?_set_self (by rw [hml]; exact hil)] at hb
        rw [List.getElem?_set_self (by rw [hkl]; exact hie)] at he1
        obtain rfl := Option.some.inj hb
        obtain rfl := Option.some.inj he1
        exact .inr ⟨T, cells, G, ho, hr, hfe⟩
      · rw [List.getElem?_set_ne hqi] at hb he1
        by_cases hqj : q = j
        · subst hqj
          rw [killM_dead List.mem_cons_self hjl] at hb
          obtain rfl := Option.some.inj hb
          exact .inr (killE_foot List.mem_cons_self he1)
        · rw [killM_other (fun k hk e => hqj (by rw [← List.mem_singleton.1 hk]; exact e.symm))] at hb
          rw [killE_other (fun k hk e => hqj (by rw [← List.mem_singleton.1 hk]; exact e.symm))] at he1
          exact .inl ⟨hb, he1, fun _ _ => rfl⟩) (fun b hb => hM.lt b (hsub b hb))
  refine ⟨_, g, m, rm, fun ej' hej' => ?_⟩
  obtain rfl := Option.some.inj (hej.symm.trans hej')
  refine ⟨ownsRow_one ho, ?_⟩
  unfold atRow
  rw [List.getElem?_set_self (by rw [hml]; exact hil)]
  exact ⟨Nat.le_refl _, fun _ => ⟨_, List.getElem?_set_self (by rw [hkl]; exact hie), rfl⟩⟩
/-- an own row's value: its address, its room -/
theorem own_slice {t : Ty} {xs : List t.den} {v : Value} {T : TypeId} {cells : List Value} (h : W.ownsRow 0 T t.n v xs.length cells) : ∃ A c, v = .slice A xs.length c ∧ xs.length ≤ c ∧ c ≤ maxLen ∧ ((A = none ∧ xs.length = 0 ∧ c = 0) ∨ ∃ b, A = some ⟨b, 0, none⟩) := by
  rcases h.2 with ⟨h1, h2⟩ | ⟨g, cap, cur, h1, h2, h3, h4, h5, h6, h7⟩
  · exact ⟨none, 0, by rw [h1, h2], by omega, Nat.zero_le _, .inl ⟨rfl, h2, rfl⟩⟩
  · exact ⟨_, cap, h1, h4, h5, .inr ⟨g, rfl⟩⟩
theorem run_slice_own {t e : TypeId} {tt : Ty} {A : Option Addr} {len c : Nat} {lo hi : Option Value} {l h : Int} (hu : P.underlying t = some (.slice e)) (hs : sizeT P e = tt.n)
    (q1 : (lo = none ∧ l = 0) ∨ ∃ k, lo = some (.int k l)) (q2 : (hi = none ∧ h = len) ∨ ∃ k, hi = some (.int k h)) (h0 : 0 ≤ l) (h1 : l ≤ h) (h2 : h ≤ c) :
    (Instr.sliceAt t (.slice A len c) lo hi none).run P W = .ok (.slice (if c = l.toNat then A else A.map (·.add (l.toNat * tt.n))) (h.toNat - l.toNat) (c - l.toNat)) W := by
  have hsl := run_bounds (P := P) (W := W) (b := true) (len := len) (cap := c) (lo := lo) (hi := hi) q1 q2 h0 h1 h2
  obtain ⟨inf, hinf⟩ : ∃ i, P.info? e = some i := by
    have hpos : 0 < sizeT P e := by rw [hs]; exact ty_pos tt
    unfold sizeT at hpos
    cases hq : P.info? e with
    | none => rw [hq] at hpos; exact absurd hpos (Nat.lt_irrefl 0)
    | some i => exact ⟨i, rfl⟩
  have hsz : inf.size = tt.n := by rw [← hs]; unfold sizeT; rw [hinf]
  unfold Instr.sliceAt
  simp only [Sem.run_bind, run_underlying hu, Result.andThen_ok]
  unfold Instr.slice
  simp only [Sem.run_bind, run_underlying hu, Result.andThen_ok, Sem.run_pure, hsl, sizeOf, typeInfo, run_program, hinf, hsz]
theorem does_cut {t : TypeId} {x : Operand} {lo hi : Option Operand} (hM : RepM X W E M) (ht : RepT X W E M tm a.tmps.toList) (ho : o.op = .slice t x lo hi none)
    (hn : (cutA P M t (evalA tm x) (lo.map (evalA tm)) (hi.map (evalA tm))).need) : Does X P o a W E M (cutA P M t (evalA tm x) (lo.map (evalA tm)) (hi.map (evalA tm))).val (cutA P M t (evalA tm x) (lo.map (evalA tm)) (hi.map (evalA tm))).mem := by
  have hp := evalA_rep ht x
  have hlo := optRep (M := M) ht lo
  have hhi := optRep (M := M) ht hi
  have hex : execOp a.eval o = (do pure (.value (← Instr.sliceAt t (a.eval x) (lo.map a.eval) (hi.map a.eval) none))) := by unfold execOp; rw [ho]; rfl
  generalize evalA tm x = x' at *
  generalize lo.map (evalA tm) = lo' at *
  generalize hi.map (evalA tm) = hi' at *
  unfold cutA at hn ⊢
  split at hn
  · rename_i e i v hu
    cases hra : rowAt M i v with
    | none => rw [hra] at hn; exact hn.elim
    | some r =>
      simp only [hra] at hn ⊢
      cases hs : Nat.beq (sizeT P e) r.t.n with
      | false => rw [hs] at hn; exact hn.elim
      | true =>
        simp only [hs, cond_true] at hn ⊢
        have hs := Nat.eq_of_beq_eq_true hs
        obtain ⟨t', xs, cc⟩ := r
        obtain ⟨e0, he0, hv0, T0, cells, G, w1, w2, w3⟩ := row_of hM hra (hp : RepC X W E M (.row i v) _).2
        simp only at hs w1 w2 w3
        obtain ⟨A, c, hvs, hlc, hcm, hA⟩ := own_slice w1
        have hone : e0.val.oneCell' = true := by rw [hvs]; rfl
        split at hn
        · rename_i h
          obtain ⟨h0, h1⟩ := hn
          simp only at h0 h1 ⊢
          have q1 : (lo.map a.eval = none ∧ (0 : Int) = 0) ∨ ∃ k, lo.map a.eval = some (.int k 0) := (loI_rep (l := 0) rfl hlo).imp (fun h => ⟨h.2.1, h.2.2⟩) id
          have q2 : (hi.map a.eval = none ∧ h = (xs.length : Nat)) ∨ ∃ k, hi.map a.eval = some (.int k h) := (hiI_rep (n := xs.length) rfl hhi).imp (fun h => ⟨h.2.1, h.2.2⟩) id
          have hrun := run_slice_own (P := P) (W := W) (tt := t') (A := A) (len := xs.length) (c := c) hu hs q1 q2 (Int.le_refl 0) h0 (by omega)
          have hv : (Value.slice (if c = (0 : Int).toNat then A else A.map (·.add ((0 : Int).toNat * t'.n))) (h.toNat - (0 : Int).toNat) (c - (0 : Int).toNat)) = .slice A h.toNat c := by
            rcases hA with ⟨rfl, _, rfl⟩ | ⟨b, rfl⟩
            · rfl
            · have : (⟨b, 0, none⟩ : Addr).add 0 = ⟨b, 0, none⟩ := addr_add b 0 0
              simp [this]
          rw [hv] at hrun
          have hcl : cells.length = xs.length * t'.n := w2.len (fun x cs F h => ORep.len t' h)
          obtain ⟨G', g1, g2⟩ := ORows.take (fun x cs F h => ORep.len t' h) h.toNat w2
          have hle : h.toNat ≤ xs.length := by omega
          have hlen : (xs.take h.toNat).length = h.toNat := by rw [List.length_take]; omega
          have hown : W.ownsRow 0 T0 t'.n (.slice A h.toNat c) (xs.take h.toNat).length (cells.take (h.toNat * t'.n)) := by
            have hmul : h.toNat * t'.n ≤ xs.length * t'.n := Nat.mul_le_mul_right _ hle
            refine ⟨by rw [List.length_take, hlen, hcl]; omega, ?_⟩
            rcases w1.2 with ⟨k1, k2⟩ | ⟨b, cap, cur, k1, k2, k3, k4, k5, k6, k7⟩
            · left
              rw [hvs] at k1
              injection k1 with k3 _ k4
              exact ⟨by rw [k3, k4, show h.toNat = 0 by omega], by omega⟩
            · right
              rw [hvs] at k1
              injection k1 with k8 _ k9
              refine ⟨b, cap, cur, by rw [k8, k9, hlen], k2, k3, by omega, k5, k6, ?_⟩
              rw [hlen, ← k7, List.take_take, Nat.min_eq_left hmul]
          obtain ⟨E', g, m, rm, rc⟩ := rows_move hM (rowAt_eq hra) he0 hown g1 (fun z => by
            have hb : (Value.slice A h.toNat c).ownBlock = e0.val.ownBlock := by rw [hvs]; cases A <;> rfl
            rw [w3, hb, List.count_append, List.count_append]
            have := g2 z
            omega)
          refine ⟨_, W, E', .inl ?_, g, m, rm, rc⟩
          rw [hex, hv0, hvs]
          simp only [Sem.run_bind, hrun, Result.andThen_ok, Sem.run_pure]
        · rename_i l
          obtain ⟨h0, h1⟩ := hn
          simp only at h0 h1 ⊢
          have q1 : (lo.map a.eval = none ∧ l = 0) ∨ ∃ k, lo.map a.eval = some (.int k l) := (loI_rep (l := l) rfl hlo).imp (fun h => ⟨h.2.1, h.2.2⟩) id
          have q2 : (hi.map a.eval = none ∧ ((xs.length : Nat) : Int) = (xs.length : Nat)) ∨ ∃ k, hi.map a.eval = some (.int k ((xs.length : Nat) : Int)) := (hiI_rep (n := xs.length) rfl hhi).imp (fun h => ⟨h.2.1, h.2.2⟩) id
          have hrun := run_slice_own (P := P) (W := W) (tt := t') (A := A) (len := xs.length) (c := c) hu hs q1 q2 h0 h1 (by omega)
          rw [Int.toNat_natCast] at hrun
          refine does_val hM (Instr.sliceAt t (a.eval x) (lo.map a.eval) (hi.map a.eval) none) (u := .slice (if c = l.toNat then A else A.map (·.add (l.toNat * t'.n))) (xs.length - l.toNat) (c - l.toNat)) hex (by rw [hv0, hvs]; exact hrun) ⟨rfl, ?_⟩
          unfold atRow
          rw [rowAt_eq hra]
          refine ⟨Nat.le_refl _, fun _ => ⟨e0, he0, _, xs.length, _, A, c, rfl, by omega, hvs, fun hk => ?_⟩⟩
          rcases hA with ⟨rfl, hz, _⟩ | ⟨b, rfl⟩
          · omega
          · exact ⟨b, rfl, by rw [if_neg (by omega)]; simp [addr_add]⟩
        · exact hn.elim
  · exact hn.elim
theorem does_clear {t : TypeId} {x : Operand} {xs : Array Operand} {ts : Array TypeId} (hM : RepM X W E M) (ht : RepT X W E M tm a.tmps.toList) (ho : o.op = .call ⟨.builtin .clear, xs, ts⟩) (hxs : xs.toList = [x]) (hts : ts.toList = [t])
    (hn : (clearA P M t (evalA tm x)).need) : Does X P o a W E M (clearA P M t (evalA tm x)).val (clearA P M t (evalA tm x)).mem := by
  have e1 : xs = #[x] := Array.toList_inj.1 (by simpa using hxs)
  have e2 : ts = #[t] := Array.toList_inj.1 (by simpa using hts)
  subst e1
  subst e2
  have hp := evalA_rep ht x
  generalize evalA tm x = x' at *
  unfold clearA at hn ⊢
  split at hn
  · rename_i e i v n k hu
    split at hn
    · rename_i r z hra hz
      cases hc : (z.cells.toList.all absOk && rowTy P e r.t.n) && Nat.beq n r.t.n with
      | false => rw [hc] at hn; exact hn.elim
      | true =>
        simp only [hc, cond_true] at hn ⊢
        rw [Bool.and_eq_true, Bool.and_eq_true] at hc
        obtain ⟨⟨hok, hty⟩, hnn⟩ := hc
        obtain rfl := Nat.eq_of_beq_eq_true hnn
        split at hn
        · rename_i d hd
          obtain ⟨t', l, cc⟩ := r
          simp only at hd hty hp ⊢
          have hi := rowAt_eq hra
          simp only at hi
          have hp2 := (hp : RepC X W E M (.tl i v t'.n k) _).2
          obtain ⟨e0, he0, hv0, T0, cells, G, w1, w2, w3⟩ := row_of hM hra hp2
          simp only at w1 w2 w3
          obtain ⟨A, l0, c, A0, c0, hv, hkl, hev, hA⟩ := hv0
          obtain ⟨A1, c1, hvs, hlc, hcm, hA1⟩ := own_slice w1
          obtain rfl : l.length = l0 := by rw [hvs] at hev; injection hev with _ q _
          obtain ⟨inf, z', i1, i2, i3, i4, i5⟩ := rowTy_spec hty
          obtain rfl : z' = z := by rw [i1] at hz; simpa [i4] using hz
          have hpos := ty_pos t'
          have hrep : ORep W t' d z'.cells.toList [] := by
            unfold ownWhole at hd
            split at hd
            · rename_i y js ho'
              obtain ⟨rfl, rfl⟩ := Prod.mk.inj (Option.some.inj hd)
              obtain ⟨c1, u1, e1, q1, q2, q3⟩ := ownT_rep hM t' ho' (absL_rep hok)
              obtain rfl : u1 = [] := q2
              rw [List.append_nil] at e1
              rw [e1]
              exact q1
            · cases hd
          have hzv : ∀ w, (zeroValue e).run P w = .ok z' w := fun w => by simp [zeroValue, typeInfo, i1, i4]
          by_cases hk : k < l.length
          · obtain ⟨b, rfl, rfl⟩ := hA hk
            rw [hev] at w1
            obtain ⟨cur, q1, q2, q3, q4, q5⟩ := ownsRow_cells w1
            have hfoot : e0.foot = b :: G := by rw [w3, hev]; rfl
            obtain ⟨zs, hzs⟩ : ∃ zs, zs = (List.replicate (l.length - k) z'.cells.toList).flatten := ⟨_, rfl⟩
            have hzl : zs.length = (l.length - k) * t'.n := by rw [hzs, flatten_len (s := t'.n) _ (fun l hl => by rw [List.eq_of_mem_replicate hl]; simpa using i5)]; simp
            have hzr : ORows (ORep W t') (List.replicate (l.length - k) d) zs [] := by rw [hzs]; exact replicate_rows hrep _
            have hmul : k * t'.n + (l.length - k) * t'.n = l.length * t'.n := by rw [← Nat.add_mul]; congr 1; omega
            have hcap : l.length * t'.n ≤ c0 * t'.n := Nat.mul_le_mul_right _ q3
            have hst := run_storeCells_at (P := P) b (k * t'.n) T0 zs 0 cur W q1 (by simp; omega) hzr.ones
            simp only [Nat.add_zero] at hst
            obtain ⟨W', hW'⟩ : ∃ W', W' = W.setRow b (cur.toList.take (k * t'.n) ++ zs ++ cur.toList.drop (k * t'.n + zs.length)).toArray := ⟨_, rfl⟩
            rw [← hW'] at hst
            have keep : ∀ p, p ≠ b → W'.heap[p]? = W.heap[p]? := fun p hp => by rw [hW']; exact setRow_other W b p _ (fun e => hp e)
            have hnd : e0.foot.Nodup := by
              refine nodup_of_cnt fun x => ?_
              have c1 := cnt_set (e' := { e0 with foot := [] }) x he0
              have c2 := cnt_le hM x
              have c3 : ({ e0 with foot := [] } : EB).foot.count x = 0 := rfl
              omega
            rw [hfoot, List.nodup_cons] at hnd
            have hbG : ∀ p ∈ G, p ≠ b := fun p hp e => hnd.1 (e ▸ hp)
            obtain ⟨G', g1, g2⟩ := ORows.take (fun x cs F h => ORep.len t' h) k w2
            have hcl : cells.length = l.length * t'.n := w2.len (fun x cs F h => ORep.len t' h)
            have hrows : ORows (ORep W t') (l.take k ++ List.replicate (l.length - k) d) (cells.take (k * t'.n) ++ zs) (G' ++ []) := g1.app hzr
            rw [List.append_nil] at hrows
            have hln : (l.take k ++ List.replicate (l.length - k) d).length = l.length := by simp; omega
            have hol : OList W' (ORep W' t') t'.n (l.take k ++ List.replicate (l.length - k) d) e0.val (b :: G') := by
              refine ⟨T0, _, G', ?_, hrows.imp (fun x cs F h hF => ORep.keep t' h (fun p hp => keep p (hbG p (List.count_pos_iff.1 (Nat.lt_of_lt_of_le (List.count_pos_iff.2 (hF p hp)) (g2 p)))))), by rw [hev]; rfl⟩
              rw [hev, hln]
              refine ⟨by rw [List.length_append, List.length_take, hzl, hcl]; omega, .inr ⟨b, c0, _, rfl, Nat.zero_le _, by rw [hW']; exact setRow_heap W b cur _ T0 _ q1, q3, q4, ?_, ?_⟩⟩
              · simp
                omega
              · simp only [List.toList_toArray]
                have f1 : cur.toList.take (k * t'.n) = cells.take (k * t'.n) := by rw [← q2, List.take_take, Nat.min_eq_left (by omega)]
                rw [f1]
                refine List.take_left' ?_
                rw [List.length_append, List.length_take, hzl, hcl]
                omega
            obtain ⟨E', g, m, rm⟩ := rows_turn (js := []) (h1 := none) (ys := l.take k ++ List.replicate (l.length - k) d) (F2 := b :: G') hM hi he0 rfl (by simp) (by simp) (fun p hp => by rw [hev] at hp; simp [Value.ownBlock] at hp; rw [hfoot, hp]; simp) ⟨by rw [hW']; rfl, by rw [hW']; rfl, by rw [hW']; rfl, by rw [hW']; simp, fun p _ hne => keep p (fun e' => hne (by rw [hev, e']; rfl))⟩ (fun _ _ _ _ => hol) (fun w => by
              have := g2 w
              rw [hfoot, List.count_cons, List.count_cons]
              omega)
            refine ⟨.tuple #[], W', E', .inl ?_, g, m, rm, trivial⟩
            unfold execOp
            simp only [ho, resolve, invoke, builtin, Sem.run_bind, Sem.run_pure, Result.andThen_ok, List.map_toArray, List.map_cons, List.map_nil, hv]
            have hrun : (Builtin.clear_ #[t] o.type #[.slice (some ⟨b, k * t'.n, none⟩) (l.length - k) c]).run P W = .ok (.tuple #[]) W' := by
              obtain ⟨m, hm⟩ : ∃ m, l.length - k = m + 1 := ⟨l.length - k - 1, by omega⟩
              have hzc : (Builtin.zeroCells z'.cells (m + 1)).toList = zs := by
                unfold Builtin.zeroCells
                rw [range_rep (zs := z'.cells) (s := z'.cells.size) (n := m + 1) rfl (by omega), hzs, hm]
              rw [hm]
              unfold Builtin.clear_
              simp [Sem.run_bind, run_underlying hu, Result.andThen_ok, hzv, hzc, hst]
            rw [hrun]
            rfl
          · obtain rfl : k = l.length := by omega
            have hsame : l.take l.length ++ List.replicate (l.length - l.length) d = l := by simp
            obtain ⟨E', g, m, rm⟩ := rows_turn (W' := W) (js := []) (h1 := none) (ys := l.take l.length ++ List.replicate (l.length - l.length) d) (F2 := e0.foot) hM hi he0 rfl (by simp) (by simp) (fun p hp => by rw [w3, List.mem_append]; exact .inl hp) ⟨rfl, rfl, rfl, Nat.le_refl _, fun _ _ _ => rfl⟩ (fun _ _ _ _ => by rw [hsame]; exact ⟨T0, cells, G, w1, w2, w3⟩) (fun w => by omega)
            refine ⟨.tuple #[], W, E', .inl ?_, g, m, rm, trivial⟩
            unfold execOp
            simp only [ho, resolve, invoke, builtin, Sem.run_bind, Sem.run_pure, Result.andThen_ok, List.map_toArray, List.map_cons, List.map_nil, hv, Nat.sub_self]
            have hrun : (Builtin.clear_ #[t] o.type #[.slice A 0 c]).run P W = .ok (.tuple #[]) W := by
              unfold Builtin.clear_
              cases A <;> simp [Sem.run_bind, run_underlying hu, Result.andThen_ok]
            rw [hrun]
            rfl
        · exact hn.elim
    · exact hn.elim
  · exact hn.elim
end
end Go.Proofs.YtkompmgleojmlaaDoor
