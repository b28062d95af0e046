/-
  A region that draws its order: the walk of the text's order serves every order.
  Plain: no program. No condition. (After the kit's own Derived/Deep/Quiet.lean, over abstract states.)
-/
import Derived.Test.YtkompmgleojmlaaDoorEBmK
set_option linter.unusedSimpArgs false
set_option linter.unusedVariables false
namespace Go.Proofs.YtkompmgleojmlaaDoor
open Go.ChangeShapes Go.WideShapes Go.ChangeAt Go.RowKit Go.Joins Go.Deep
open GoRep (rep bulk)

section
variable {P : Program} {X : List Nat} {W : World} {E : Env} {M : Mem} {a : Act} {tm : List AV} {o : Oper} {T : Tab P} {ops : Array Oper}
theorem rowAt_ext {N : Mem} {i v : Nat} {r : RowC} (h : rowAt M i v = some r) : rowAt (M ++ N) i v = some r := by
  have h1 := rowAt_eq h
  have hl := (List.getElem?_eq_some_iff.1 h1).1
  unfold rowAt
  rw [List.getElem?_append_left hl, h1]
  simp
theorem liveL_ext {N : Mem} : ∀ {L : Lnd}, liveL M L = true → liveL (M ++ N) L = true
  | .no, _ => rfl
  | .at i v c, h => by
    have h : liveAt M i v c = true := h
    show liveAt (M ++ N) i v c = true
    unfold liveAt at h ⊢
    split at h
    · rename_i t xs cv cc hM
      rw [List.getElem?_append_left (List.getElem?_eq_some_iff.1 hM).1, hM]
      exact h
    · cases h
theorem rowIx_ext {N : Mem} {i v : Nat} {r : RowC} (h : rowIx M i v = some r) : rowIx (M ++ N) i v = some r := by
  unfold rowIx at h ⊢
  split at h
  · rename_i t xs cv cc hh hM
    rw [List.getElem?_append_left (List.getElem?_eq_some_iff.1 hM).1, hM]
    exact h
  · cases h
theorem readSl_ext {N : Mem} {i v c n k o : Nat} {r : RowC} (h : readSl M i v c n k o = some r) : readSl (M ++ N) i v c n k o = some r := by
  unfold readSl at h ⊢
  split at h
  · rename_i t xs cv cc hM
    rw [List.getElem?_append_left (List.getElem?_eq_some_iff.1 hM).1, hM]
    exact h
  · cases h
theorem readL_ext {N : Mem} {c : AC} {q : Lnd × RowC} (h : readL M c = some q) : readL (M ++ N) c = some q := by
  unfold readL at h ⊢
  split at h
  · rename_i L t xs
    cases hl : liveL M L with
    | false => rw [hl] at h; cases h
    | true => rw [hl] at h; simp only [liveL_ext hl]; exact h
  · rename_i i v
    cases hr : rowAt M i v with
    | none => rw [hr] at h; cases h
    | some r => rw [hr] at h; simp only [rowAt_ext hr]; exact h
  · rename_i i v c n k o
    cases hr : readSl M i v c n k o with
    | none => rw [hr] at h; cases h
    | some r => rw [hr] at h; simp only [readSl_ext hr]; exact h
  · cases h
theorem some_ext {N : Mem} {i : Nat} {b : Blk} (h : M[i]? = some b) : (M ++ N)[i]? = some b := by
  rw [List.getElem?_append_left (List.getElem?_eq_some_iff.1 h).1]
  exact h
theorem cls0_of {n : Nat} (h : clsO T o = n) (hn : n ≤ 1) : cls0 T o = n := by
  unfold clsO at h
  cases hc : isCut T o with
  | true => rw [hc] at h; simp only [cond_true] at h; omega
  | false => rw [hc] at h; exact h
/-- more memory behind: the same -/
def Mono (N : Mem) (M : Mem) (r r' : OR) : Prop := r'.need ∧ r'.val = r.val ∧ r'.mem = M ++ N ∧ r.mem = M
theorem mono_triv {N : Mem} {p : Prop} {v : AV} (h : p) : Mono N M ⟨p, v, M⟩ ⟨p, v, M ++ N⟩ := ⟨h, rfl, rfl, rfl⟩
set_option maxHeartbeats 1000000 in
theorem opA_mono (N : Mem) (hc : clsO T o = 0) (hn : (opA P tm M o).need) : Mono N M (opA P tm M o) (opA P tm (M ++ N) o) := by
  have hc := cls0_of hc (Nat.zero_le 1)
  unfold cls0 at hc
  unfold opA at hn ⊢
  cases ho : o.op <;> simp only [ho] at hn hc ⊢
  case alloc => cases hc
  case box => cases hc
  case store => cases hc
  case buildSlice t _ _ => exfalso; cases hf : flatEl P t <;> rw [hf] at hc <;> cases hc
  case makeSlice => cases hc
  case move => exact mono_triv trivial
  case assign => exact mono_triv trivial
  case pick c x y => split at hn <;> first | exact mono_triv hn | exact hn.elim
  case load t x =>
    split at hn
    · rename_i i q hx
      split at hn
      · rename_i l hb
        simp only [some_ext hb]
        split at hn <;> first | exact mono_triv hn | exact hn.elim
      · exact hn.elim
    · rename_i L t' xs k q hx
      cases hL : liveL M L with
      | false => rw [hL] at hn; exact hn.elim
      | true =>
        simp only [hL, liveL_ext hL, cond_true] at hn ⊢
        split at hn <;> first | exact mono_triv hn | exact hn.elim
    · rename_i i v n k q hx
      cases hr : rowAt M i v with
      | none => rw [hr] at hn; exact hn.elim
      | some r =>
        simp only [hr, rowAt_ext hr] at hn ⊢
        cases hL : Nat.beq n r.t.n with
        | false => rw [hL] at hn; exact hn.elim
        | true =>
          simp only [hL, cond_true] at hn ⊢
          split at hn <;> first | exact mono_triv hn | exact hn.elim
    · rename_i i v c n k o' m y q hx
      cases hr : readSl M i v c n k o' with
      | none => rw [hr] at hn; exact hn.elim
      | some r =>
        simp only [hr, readSl_ext hr] at hn ⊢
        cases hL : Nat.beq m r.t.n with
        | false => rw [hL] at hn; exact hn.elim
        | true =>
          simp only [hL, cond_true] at hn ⊢
          split at hn <;> first | exact mono_triv hn | exact hn.elim
    · exact hn.elim
  case build t parts => split at hn <;> first | exact mono_triv hn | exact hn.elim
  case nilCheck x =>
    split at hn
    · exact mono_triv hn
    · rename_i L t' xs k q hx
      cases hL : liveL M L with
      | false => rw [hL] at hn; exact hn.elim
      | true => simp only [liveL_ext hL, cond_true]; exact mono_triv trivial
    · rename_i i v n k q hx
      cases hr : rowIx M i v with
      | none => rw [hr] at hn; exact hn.elim
      | some r => simp only [rowIx_ext hr, Option.isSome, cond_true]; exact mono_triv trivial
    · rename_i i v c n k o' m y q hx
      cases hr : readSl M i v c n k o' with
      | none => rw [hr] at hn; exact hn.elim
      | some r => simp only [readSl_ext hr, Option.isSome, cond_true]; exact mono_triv trivial
    · exact mono_triv hn
    · exact hn.elim
  case binOp => exact mono_triv hn
  case unOp op t x => cases op <;> simp only at hn ⊢ <;> first | exact hn.elim | (split at hn <;> first | exact mono_triv hn | exact hn.elim)
  case convert s d x =>
    split at hn
    · exact mono_triv hn
    · rename_i c hd hx
      split at hn
      · rename_i e hs
        cases hu : isU8 P e with
        | false => rw [hu] at hn; exact hn.elim
        | true =>
          simp only [hu, cond_true] at hn ⊢
          cases hst : strOf M c with
          | none => rw [hst] at hn; exact hn.elim
          | some xs =>
            rw [hst] at hn
            simp only [strOf_ext (fun q hq => readL_ext hq) hst]
            exact mono_triv hn
      · exact hn.elim
    · exact hn.elim
  case makeFunc fn first captured => cases fn <;> simp only at hn ⊢ <;> first | exact hn.elim | (split at hn <;> first | exact mono_triv hn | exact hn.elim)
  case slice t x lo hi mx =>
    cases mx with
    | some _ => exact hn.elim
    | none =>
      simp only at hn ⊢
      split at hn
      · split at hn <;> first | exact mono_triv hn | exact hn.elim
      · split at hn
        · rename_i c hx
          cases hr : readL M c with
          | none => rw [hr] at hn; exact hn.elim
          | some q =>
            simp only [hr, readL_ext hr] at hn ⊢
            exact mono_triv hn
        · exact hn.elim
      · exact hn.elim
  case fieldAddr s x n =>
    split at hn
    · rename_i f hf
      cases hz : Nat.beq (sizeT P f.type) 0 with
      | true => rw [hz] at hn; exact hn.elim
      | false =>
        rw [hz] at hn
        simp only [cond_false] at hn ⊢
        split at hn
        · exact mono_triv hn
        · rename_i L t' xs k q hx
          cases hL : liveL M L with
          | false => rw [hL] at hn; exact hn.elim
          | true => simp only [liveL_ext hL, cond_true]; exact mono_triv trivial
        · rename_i i v n k q hx
          cases hr : rowIx M i v with
          | none => rw [hr] at hn; exact hn.elim
          | some r => simp only [rowIx_ext hr, Option.isSome, cond_true]; exact mono_triv trivial
        · rename_i i v c n k o' m y q hx
          cases hr : readSl M i v c n k o' with
          | none => rw [hr] at hn; exact hn.elim
          | some r => simp only [readSl_ext hr, Option.isSome, cond_true]; exact mono_triv trivial
        · exact hn.elim
    · exact hn.elim
  case indexAddr t x i =>
    split at hn
    · rename_i e L t' xs k n hu hx hi
      cases hL : liveL M L with
      | false => rw [hL] at hn; exact hn.elim
      | true =>
        simp only [hL, liveL_ext hL, cond_true] at hn ⊢
        exact mono_triv hn
    · rename_i e i v k n hu hx hi
      cases hr : rowIx M i v with
      | none => rw [hr] at hn; exact hn.elim
      | some r =>
        simp only [hr, rowIx_ext hr] at hn ⊢
        exact mono_triv hn
    · rename_i e i v c n' k' o' k n hu hx hi
      cases hr : readSl M i v c n' k' o' with
      | none => rw [hr] at hn; exact hn.elim
      | some r =>
        simp only [hr, readSl_ext hr] at hn ⊢
        exact mono_triv hn
    · exact hn.elim
  case index t x i => split at hn <;> first | exact mono_triv hn | exact hn.elim
  case extract x n =>
    split at hn
    · split at hn <;> first | exact mono_triv hn | exact hn.elim
    · exact hn.elim
  case call c =>
    obtain ⟨cal, xs, ts⟩ := c
    cases cal <;> simp only at hn hc ⊢ <;> try exact hn.elim
    rename_i b
    cases b <;> simp only at hn hc ⊢ <;> try exact hn.elim
    case append => cases hc
    case len =>
      split at hn
      · split at hn
        · exact mono_triv hn
        · exact mono_triv hn
        · rename_i e c _ hu hx
          cases hr : readL M c with
          | none => rw [hr] at hn; exact hn.elim
          | some q =>
            simp only [hr, readL_ext hr] at hn ⊢
            exact mono_triv hn
        · exact hn.elim
      · exact hn.elim
    case min => split at hn <;> first | exact mono_triv hn | exact hn.elim
    case max => split at hn <;> first | exact mono_triv hn | exact hn.elim
  all_goals exact hn.elim
theorem stepA_0 (hc : clsO T o ≤ 1) : stepA T tm M o = step0 T tm M o := by
  unfold stepA
  have : Nat.beq (clsO T o) 2 = false := by
    cases h : Nat.beq (clsO T o) 2 with
    | false => rfl
    | true => have := Nat.eq_of_beq_eq_true h; omega
  rw [this]
  rfl
theorem stepA_read (hc : clsO T o = 0) : stepA T tm M o = opA P tm M o := by
  rw [stepA_0 (by omega)]
  unfold step0
  have hc := cls0_of hc (Nat.zero_le 1)
  unfold cls0 at hc
  cases ho : o.op <;> simp only [ho] at hc ⊢
  case call c =>
    obtain ⟨cal, xs, ts⟩ := c
    cases cal <;> first | rfl | skip
    all_goals try (cases hc; done)
    rename_i fn
    cases fn <;> first | (cases hc; done) | skip
    rename_i f
    exfalso
    have hc : (match findM f T.G with | some _ => 2 | none => 1) = 0 := hc
    split at hc <;> cases hc
theorem stepA_mono (N : Mem) (hc : clsO T o = 0) (hn : (stepA T tm M o).need) : Mono N M (stepA T tm M o) (stepA T tm (M ++ N) o) := by
  rw [stepA_read hc] at hn ⊢
  rw [stepA_read hc]
  exact opA_mono N hc hn
theorem callB_ext {f : FuncId} {args : List AV} (hn : (callB T M f args).need) : ∃ N, (callB T M f args).mem = M ++ N := by
  unfold callB at hn ⊢
  cases hH : findH f T.H with
  | some h =>
    rw [hH] at hn
    simp only at hn ⊢
    split at hn
    · split at hn <;> first | exact ⟨[], (List.append_nil M).symm⟩ | exact hn.elim
    · split at hn <;> first | exact ⟨[], (List.append_nil M).symm⟩ | exact hn.elim
    · exact hn.elim
  | none =>
    rw [hH] at hn
    simp only at hn ⊢
    cases hH2 : findH2 f T.H2 with
    | some h =>
      rw [hH2] at hn
      simp only at hn ⊢
      split at hn
      · split at hn <;> first | exact ⟨[], (List.append_nil M).symm⟩ | exact hn.elim
      · exact hn.elim
    | none =>
    rw [hH2] at hn
    simp only at hn ⊢
    cases hE : findE f T.Γ with
    | none => rw [hE] at hn; exact hn.elim
    | some e =>
      rw [hE] at hn
      simp only at hn ⊢
      cases hd : decA M e.ins args with
      | none => rw [hd] at hn; exact hn.elim
      | some x =>
        simp only
        cases hp : hasP e.ins || args.any ownAV with
        | true => exact ⟨e.new x, rfl⟩
        | false => exact ⟨e.new x, rfl⟩
theorem ownT_flat : ∀ {t : Ty} {l : List AC} {x : t.den} {r : List AC} {js : List Nat}, t.flat = true → ownT M t l = some (x, r, js) → js = []
  | .int k, l, x, r, js, _, h => by
    have h : ownInt k l = some (x, r, js) := h
    unfold ownInt at h
    repeat' (first | split at h | (cases h; done))
    all_goals (injection h with h; injection h with h1 h2; injection h2 with h3 h4; exact h4.symm)
  | .bool, l, x, r, js, _, h => by
    have h : ownBool l = some (x, r, js) := h
    unfold ownBool at h
    repeat' (first | split at h | (cases h; done))
    all_goals (injection h with h; injection h with h1 h2; injection h2 with h3 h4; exact h4.symm)
  | .opq, l, x, r, js, _, h => by
    have h : ownOpq l = some (x, r, js) := h
    unfold ownOpq at h
    repeat' (first | split at h | (cases h; done))
    all_goals (injection h with h; injection h with h1 h2; injection h2 with h3 h4; exact h4.symm)
  | .str, l, x, r, js, _, h => by
    have h : ownStr l = some (x, r, js) := h
    unfold ownStr at h
    repeat' (first | split at h | (cases h; done))
    all_goals (injection h with h; injection h with h1 h2; injection h2 with h3 h4; exact h4.symm)
  | .list _, _, _, _, _, hf, _ => by cases hf
  | .prod a b, l, x, r, js, hf, h => by
    have hf : (a.flat && b.flat) = true := hf
    rw [Bool.and_eq_true] at hf
    unfold ownT at h
    cases ha : ownT M a l with
    | none => rw [ha] at h; cases h
    | some q =>
      obtain ⟨y, l1, j1⟩ := q
      rw [ha] at h
      simp only at h
      cases hb : ownT M b l1 with
      | none => rw [hb] at h; cases h
      | some q =>
        obtain ⟨z, r2, j2⟩ := q
        rw [hb] at h
        injection h with h
        injection h with h1 h2
        injection h2 with h3 h4
        rw [← h4, ownT_flat hf.1 ha, ownT_flat hf.2 hb]
        rfl
theorem ownParts_flat {t : Ty} (hf : t.flat = true) : ∀ {l : List (Nat × AV)} {k : Nat} {ys : List t.den} {js : List Nat}, ownParts M t k l = some (ys, js) → js = []
  | [], _, _, _, h => by injection h with h; injection h with h1 h2; exact h2.symm
  | (i, x) :: l, k, ys, js, h => by
    unfold ownParts at h
    cases hb : Nat.beq i k with
    | false => rw [hb] at h; cases h
    | true =>
      rw [hb] at h
      simp only [cond_true] at h
      cases hv : ownV M t x with
      | none => rw [hv] at h; cases h
      | some q =>
        obtain ⟨y, j1⟩ := q
        rw [hv] at h
        simp only at h
        cases hp : ownParts M t (k + 1) l with
        | none => rw [hp] at h; cases h
        | some q =>
          obtain ⟨zs, j2⟩ := q
          rw [hp] at h
          injection h with h
          injection h with h1 h2
          have e2 := ownParts_flat hf hp
          have e1 : j1 = [] := by
            unfold ownV at hv
            split at hv
            · split at hv
              · rename_i hq
                injection hv with hv
                injection hv with _ h3
                rw [← h3]
                exact ownT_flat hf hq
              · cases hv
            · cases hv
          rw [← h2, e1, e2]
          rfl
theorem stepA_ext (hc : clsO T o ≤ 1) (hn : (stepA T tm M o).need) : ∃ N, (stepA T tm M o).mem = M ++ N := by
  by_cases h0 : clsO T o = 0
  · exact ⟨[], by rw [List.append_nil]; exact (stepA_mono [] h0 hn).2.2.2⟩
  · rw [stepA_0 hc] at hn ⊢
    unfold step0 at hn ⊢
    have hcq := cls0_of rfl hc
    rw [← hcq] at hc h0
    clear hcq
    unfold cls0 at hc h0
    cases ho : o.op <;> simp only [ho] at hc h0 hn ⊢ <;> try exact (h0 trivial).elim
    case store => omega
    case buildSlice t len parts =>
      have hfl : flatEl P t = true := by
        cases hf : flatEl P t with
        | true => rfl
        | false => rw [hf] at hc; exact absurd hc (by decide)
      unfold flatEl at hfl
      unfold opA at hn ⊢
      simp only [ho] at hn ⊢
      split at hfl
      · rename_i e hu
        simp only [hu] at hn ⊢
        split at hfl
        · rename_i tt htt
          simp only [htt] at hn ⊢
          split at hn
          · rename_i ys js hp
            have := ownParts_flat hfl hp
            subst this
            cases hcnd : (rowTy P e tt.n && Nat.ble (len * tt.n) 16777216) && (Nat.beq len parts.size && distinct []) with
            | false => rw [hcnd] at hn; exact hn.elim
            | true => simp only [hcnd, cond_true]; exact ⟨_, rfl⟩
          · rw [hfl] at hn
            exact hn.elim
        · cases hfl
      · cases hfl
    case makeSlice t l c =>
      unfold opA at hn ⊢
      simp only [ho] at hn ⊢
      split at hn
      · split at hn
        · rename_i tt z htt hz
          cases hcnd : z.cells.toList.all absOk && rowTy P _ tt.n with
          | false => rw [hcnd] at hn; exact hn.elim
          | true =>
            simp only [hcnd, cond_true] at hn ⊢
            split at hn
            · exact ⟨_, rfl⟩
            · exact hn.elim
        · exact hn.elim
      · exact hn.elim
    case alloc e =>
      unfold opA at hn ⊢
      simp only [ho] at hn ⊢
      split at hn
      · rename_i z hz
        cases hok : z.cells.toList.all absOk with
        | false => rw [hok] at hn; exact hn.elim
        | true => exact ⟨_, rfl⟩
      · exact hn.elim
    case box e x =>
      unfold opA at hn ⊢
      simp only [ho] at hn ⊢
      split at hn
      · exact ⟨_, rfl⟩
      · exact hn.elim
    case call c =>
      obtain ⟨cal, xs, ts⟩ := c
      cases cal <;> simp only at hc h0 hn ⊢
      case value fn =>
        cases fn <;> simp only at hc h0 <;> try (omega; done)
        rename_i f
        have hc : (match findM f T.G with | some _ => 2 | none => 1) ≤ 1 := hc
        cases hG : findM f T.G with
        | some e => rw [hG] at hc; exact absurd (show 2 ≤ 1 from hc) (by decide)
        | none =>
          have e1 : evalA tm (.func f) = .w (.c (.fn f [])) := rfl
          rw [e1] at hn ⊢
          simp only at hn ⊢
          unfold callA at hn ⊢
          rw [findMA_none hG] at hn ⊢
          exact callB_ext hn
      case builtin b => cases b <;> simp only at hc h0 <;> first | omega | exact (h0 trivial).elim | exact (h0 rfl).elim
      all_goals omega
theorem opA_congr {tm' : List AV} (h : ∀ x ∈ o.op.operands, evalA tm x = evalA tm' x) : opA P tm M o = opA P tm' M o := by
  unfold opA
  cases ho : o.op <;> simp only [ho, Op.operands] at h ⊢
  case makeFunc fn first captured =>
    have : captured.toList.map (evalA tm) = captured.toList.map (evalA tm') := List.map_congr_left fun x hx => h x (by simp at hx ⊢; exact .inr hx)
    cases fn <;> simp only [this]
  case unOp op t x =>
    have := h x (by simp)
    cases op <;> simp only [this]
  case slice t x lo hi mx => cases lo <;> cases hi <;> cases mx <;> simp_all
  case call c =>
    obtain ⟨cal, args, ts⟩ := c
    simp only [Call.operands] at h
    cases cal <;> simp only at h ⊢
    rename_i b
    have hm : args.toList.map (evalA tm) = args.toList.map (evalA tm') := List.map_congr_left fun x hx => h x (by simp at hx ⊢; exact hx)
    have hmem : ∀ x ∈ args.toList, evalA tm x = evalA tm' x := fun x hx => h x (by simp at hx ⊢; exact hx)
    cases b <;> simp only [hm] <;> try rfl
    case append =>
      cases hts : ts.toList with
      | nil => rfl
      | cons t l =>
        cases l with
        | nil => rfl
        | cons t2 l =>
          cases l with
          | cons _ _ => rfl
          | nil =>
            cases hxs : args.toList with
            | nil => rfl
            | cons x k =>
              cases k with
              | nil => rfl
              | cons y k =>
                cases k with
                | cons _ _ => rfl
                | nil => simp only [hmem x (by rw [hxs]; simp), hmem y (by rw [hxs]; simp)]
    case len =>
      cases hts : ts.toList with
      | nil => rfl
      | cons t l =>
        cases l with
        | cons _ _ => rfl
        | nil =>
          cases hxs : args.toList with
          | nil => rfl
          | cons x k =>
            cases k with
            | cons _ _ => rfl
            | nil => simp only [hmem x (by rw [hxs]; simp)]
  case build t parts =>
    have : (parts.toList.map fun p => (p.1, evalA tm p.2)) = parts.toList.map fun p => (p.1, evalA tm' p.2) := List.map_congr_left fun p hp => by rw [h p.2 (by simp at hp ⊢; exact ⟨p.1, hp⟩)]
    rw [this]
  case buildSlice t len parts =>
    have : (parts.toList.map fun p => (p.1, evalA tm p.2)) = parts.toList.map fun p => (p.1, evalA tm' p.2) := List.map_congr_left fun p hp => by rw [h p.2 (by simp at hp ⊢; exact ⟨p.1, hp⟩)]
    rw [this]
  all_goals first | rfl | (simp_all; done)
theorem stepA_congr {tm' : List AV} (hc : clsO T o ≤ 1) (h : ∀ x ∈ o.op.operands, evalA tm x = evalA tm' x) : stepA T tm M o = stepA T tm' M o := by
  have h2 := opA_congr (P := P) (M := M) h
  rw [stepA_0 hc, stepA_0 hc]
  unfold step0
  cases ho : o.op <;> simp only [ho, Op.operands] at h ⊢
  case call c =>
    obtain ⟨cal, args, ts⟩ := c
    simp only [Call.operands] at h
    cases cal <;> simp only at h ⊢
    case value fn =>
      rw [h fn (by simp)]
      have hm : args.toList.map (evalA tm) = args.toList.map (evalA tm') := List.map_congr_left fun x hx => h x (by simp at hx ⊢; exact .inr hx)
      rw [hm]
    all_goals exact h2
  all_goals exact h2
theorem evalA_put {dst : Option Tmp} {v : AV} {x : Operand} (h : ∀ d, dst = some d → x ≠ .tmp d) : evalA (putA tm dst v) x = evalA tm x := by
  cases dst with
  | none => rfl
  | some d =>
    cases x with
    | tmp t =>
      have hne : d ≠ t := fun e => h d rfl (by rw [e])
      show (tm.set d v).getD t .any = tm.getD t .any
      rw [List.getD_eq_getElem?_getD, List.getD_eq_getElem?_getD, List.getElem?_set_ne hne]
    | const v => rfl
    | global g => rfl
    | func f => rfl
theorem stepA_put {dst : Option Tmp} {v : AV} (hc : clsO T o ≤ 1) (h : ∀ d, dst = some d → d ∉ o.looksAt ops) : stepA T (putA tm dst v) M o = stepA T tm M o :=
  stepA_congr hc fun x hx => evalA_put fun d hd hxd => h d hd (by
    subst hxd
    exact List.mem_append_left _ (List.mem_filterMap.2 ⟨.tmp d, by simpa using hx, rfl⟩))
theorem liftT_put {d : Nat} {v : AV} {t : Nat} (h : d ≠ t) : liftT (tm.set d v) M t = ((liftT tm M t).1.set d v, (liftT tm M t).2) := by
  unfold liftT
  rw [List.getElem?_set_ne h]
  cases tm[t]? with
  | none => rfl
  | some x =>
    simp only
    cases liftV M x with
    | none => rfl
    | some p => simp only; rw [List.set_comm _ _ h]
theorem liftArgs_put {d : Nat} {v : AV} : ∀ (l : List MTy) (xs : List Operand) (tm : List AV) (M : Mem), (∀ x ∈ xs, x ≠ .tmp d) → liftArgs l xs (tm.set d v) M = ((liftArgs l xs tm M).1.set d v, (liftArgs l xs tm M).2)
  | [], _, _, _, _ => by unfold liftArgs; rfl
  | y :: l, [], tm, M, _ => by
    have e : ∀ tm, liftArgs (y :: l) [] tm M = (tm, M) := fun tm => by cases y <;> rfl
    rw [e, e]
  | y :: l, x :: xs, tm, M, h => by
    have h' : ∀ x ∈ xs, x ≠ .tmp d := fun x hx => h x (List.mem_cons_of_mem _ hx)
    have go : ∀ t, d ≠ t → (∀ tm, liftArgs (y :: l) (x :: xs) tm M = liftArgs l xs (liftT tm M t).1 (liftT tm M t).2) → liftArgs (y :: l) (x :: xs) (tm.set d v) M = ((liftArgs (y :: l) (x :: xs) tm M).1.set d v, (liftArgs (y :: l) (x :: xs) tm M).2) := fun t ht e => by
      rw [e, e, liftT_put ht]
      exact liftArgs_put l xs _ _ h'
    have stay : (∀ tm, liftArgs (y :: l) (x :: xs) tm M = liftArgs l xs tm M) → liftArgs (y :: l) (x :: xs) (tm.set d v) M = ((liftArgs (y :: l) (x :: xs) tm M).1.set d v, (liftArgs (y :: l) (x :: xs) tm M).2) := fun e => by
      rw [e, e]
      exact liftArgs_put l xs _ _ h'
    have hx := h x List.mem_cons_self
    cases y <;> cases x <;> first
      | exact stay fun tm => rfl
      | exact go _ (fun q => hx (by rw [q])) fun tm => rfl
theorem preG_put {d : Nat} {v : AV} (h : ∀ x ∈ o.op.operands, x ≠ .tmp d) : preG T (tm.set d v) M o = ((preG T tm M o).1.set d v, (preG T tm M o).2) := by
  unfold preG
  cases ho : o.op <;> simp only [ho, Op.operands] at h ⊢
  case store t p x =>
    cases p with
    | tmp p => exact liftT_put fun q => h (.tmp p) (by simp) (by rw [q])
    | const v => rfl
    | global g => rfl
    | func f => rfl
  case call c =>
    obtain ⟨cal, args, ts⟩ := c
    simp only [Call.operands] at h
    cases cal <;> simp only at h ⊢
    case builtin b =>
      cases b <;> simp only
      case append =>
        cases ha : args.toList with
        | nil => rfl
        | cons x xs =>
          have hx := h x (by simp; exact Array.mem_toList_iff.1 (by rw [ha]; exact List.mem_cons_self))
          cases x with
          | tmp t => exact liftT_put fun q => hx (by rw [q])
          | const v => rfl
          | global g => rfl
          | func f => rfl
    case value fn =>
      cases fn with
      | func f =>
        simp only
        cases findM f T.G with
        | none => rfl
        | some e => exact liftArgs_put _ _ _ _ fun x hx => h x (by simp at hx ⊢; exact .inr hx)
      | tmp t => rfl
      | const v => rfl
      | global g => rfl
theorem step0_congr {tm' : List AV} (h : ∀ x ∈ o.op.operands, evalA tm x = evalA tm' x) : step0 T tm M o = step0 T tm' M o := by
  have h2 := opA_congr (P := P) (M := M) h
  unfold step0
  cases ho : o.op <;> simp only [ho, Op.operands] at h ⊢
  case call c =>
    obtain ⟨cal, args, ts⟩ := c
    simp only [Call.operands] at h
    cases cal <;> simp only at h ⊢
    case value fn =>
      rw [h fn (by simp)]
      have hm : args.toList.map (evalA tm) = args.toList.map (evalA tm') := List.map_congr_left fun x hx => h x (by simp at hx ⊢; exact .inr hx)
      rw [hm]
    all_goals exact h2
  all_goals exact h2
theorem cutS_congr {tm' : List AV} (h : ∀ x ∈ o.op.operands, evalA tm x = evalA tm' x) : cutS (P := P) tm M o = cutS (P := P) tm' M o := by
  unfold cutS
  cases ho : o.op <;> simp only [ho, Op.operands] at h ⊢
  case slice t x lo hi mx =>
    cases mx with
    | some m => rfl
    | none =>
      simp only
      rw [h x (by simp)]
      have e1 : lo.map (evalA tm) = lo.map (evalA tm') := by
        cases lo with
        | none => rfl
        | some y => exact congrArg some (h y (by simp))
      have e2 : hi.map (evalA tm) = hi.map (evalA tm') := by
        cases hi with
        | none => rfl
        | some y => exact congrArg some (h y (by simp))
      rw [e1, e2]
  case call c =>
    obtain ⟨cal, args, ts⟩ := c
    simp only [Call.operands] at h
    cases cal <;> simp only at h ⊢
    case builtin b =>
      cases b <;> simp only
      case clear =>
        cases hts : ts.toList with
        | nil => rfl
        | cons t l =>
          cases l with
          | cons _ _ => rfl
          | nil =>
            cases ha : args.toList with
            | nil => rfl
            | cons x xs =>
              cases xs with
              | cons _ _ => rfl
              | nil => simp only; rw [h x (by simp; exact Array.mem_toList_iff.1 (by rw [ha]; exact List.mem_cons_self))]
  case makeMap t r => cases r <;> rfl
  case lookup t m k c =>
    cases c with
    | true => rfl
    | false => show lookA P M t (evalA tm m) (evalA tm k) = lookA P M t (evalA tm' m) (evalA tm' k); rw [h m (by simp), h k (by simp)]
  case mapUpdate t m k v => show updA P M t (evalA tm m) (evalA tm k) (evalA tm v) = updA P M t (evalA tm' m) (evalA tm' k) (evalA tm' v); rw [h m (by simp), h k (by simp), h v (by simp)]
theorem stepA_putAny {dst : Option Tmp} {v : AV} (h : ∀ d, dst = some d → d ∉ o.looksAt ops) : stepA T (putA tm dst v) M o = stepA T tm M o := by
  cases dst with
  | none => rfl
  | some d =>
    have hd : ∀ x ∈ o.op.operands, x ≠ .tmp d := fun x hx hxd => h d rfl (by
      subst hxd
      exact List.mem_append_left _ (List.mem_filterMap.2 ⟨.tmp d, by simpa using hx, rfl⟩))
    have ev : ∀ tm : List AV, ∀ x ∈ o.op.operands, evalA (tm.set d v) x = evalA tm x := fun tm x hx =>
      evalA_put (dst := some d) (v := v) fun e he hxd => hd x hx (by rw [hxd, Option.some.inj he])
    show stepA T (tm.set d v) M o = _
    unfold stepA
    cases Nat.beq (clsO T o) 2 with
    | false => exact step0_congr (ev tm)
    | true =>
      cases isCut T o with
      | true => exact cutS_congr (ev tm)
      | false =>
        show (let g := preG T (tm.set d v) M o; let r := step0 T g.1 g.2 o; (⟨r.need, r.val, closeAll r.mem⟩ : OR)) = _
        rw [preG_put hd]
        simp only
        rw [step0_congr (ev _)]
        rfl
theorem pure_step {M' : Mem} (h : pureO o = true) : (stepA T tm M o).need = (stepA T tm M' o).need ∧ (stepA T tm M o).val = (stepA T tm M' o).val := by
  unfold pureO at h
  cases ho : o.op <;> rw [ho] at h <;> try cases h
  have e : ∀ M, stepA T tm M o = step0 T tm M o := fun M => stepA_0 (by unfold clsO isCut cls0; rw [ho]; exact Nat.zero_le _)
  rw [e, e]
  unfold step0
  rw [ho]
  show (opA P tm M o).need = (opA P tm M' o).need ∧ (opA P tm M o).val = (opA P tm M' o).val
  unfold opA
  rw [ho]
  exact ⟨rfl, rfl⟩
/-- is it wanted? -/
def wantA (ops : Array Oper) (o : Oper) (tm : List AV) : Option Bool :=
  match o.guard with
  | none => some true
  | some (j, want) => match (ops[j]?).bind (·.dst) with
    | some d => match tm.getD d .any with
      | .w (.c (.bool g)) => some (g == want)
      | .tp _ => some false
      | _ => none
    | none => none
theorem wantA_put {dst : Option Tmp} {v : AV} (h : ∀ d, dst = some d → d ∉ o.looksAt ops) : wantA ops o (putA tm dst v) = wantA ops o tm := by
  unfold wantA
  cases hg : o.guard with
  | none => rfl
  | some gw =>
    obtain ⟨j, want⟩ := gw
    simp only
    cases ht : (ops[j]?).bind (·.dst) with
    | none => rfl
    | some t =>
      have : (putA tm dst v).getD t .any = tm.getD t .any := by
        cases dst with
        | none => rfl
        | some d =>
          have hne : d ≠ t := fun e => h d rfl (by subst e; simp [Oper.looksAt, hg, ht])
          show (tm.set d v).getD t .any = tm.getD t .any
          rw [List.getD_eq_getElem?_getD, List.getD_eq_getElem?_getD, List.getElem?_set_ne hne]
      simp only [this]
theorem putA_comm {x y : Option Tmp} (v u : AV) (h : ∀ d, x = some d → y ≠ some d) : putA (putA tm x v) y u = putA (putA tm y u) x v := by
  cases x with
  | none => rfl
  | some d =>
    cases y with
    | none => rfl
    | some e =>
      have hne : d ≠ e := fun q => h d rfl (by rw [q])
      show (tm.set d v).set e u = (tm.set e u).set d v
      rw [List.set_comm _ _ hne]
/-- operation number 'i' comes up -/
def qA (T : Tab P) (ops : Array Oper) (i : Nat) (K : List AV → Mem → Prop) (tm : List AV) (M : Mem) : Prop :=
  match ops[i]? with
  | none => K tm M
  | some o => match wantA ops o tm with
    | some true => (stepA T tm M o).need ∧ K (putA tm o.dst (stepA T tm M o).val) (stepA T tm M o).mem
    | some false => K (putA tm o.dst undefA) M
    | none => False
theorem qA_mono {i : Nat} {K K' : List AV → Mem → Prop} (h : ∀ a m, K a m → K' a m) (hh : qA T ops i K tm M) : qA T ops i K' tm M := by
  unfold qA at *
  split
  · rename_i ho; simp only [ho] at hh; exact h _ _ hh
  · rename_i o ho
    simp only [ho] at hh
    split
    · rename_i hw; simp only [hw] at hh; exact ⟨hh.1, h _ _ hh.2⟩
    · rename_i hw; simp only [hw] at hh; exact h _ _ hh
    · rename_i hw; simp only [hw] at hh
/-- whatever order is picked from here on -/
def anyA (T : Tab P) (ops : Array Oper) (Q : List AV → Mem → Prop) : Nat → Array Bool → List AV → Mem → Prop
  | 0, listed, tm, M => Region.ready .any ops listed = [] ∧ Q tm M
  | fuel + 1, listed, tm, M => (Region.ready .any ops listed = [] → Q tm M) ∧ ∀ i ∈ Region.ready .any ops listed, qA T ops i (anyA T ops Q fuel (listed.setIfInBounds i true)) tm M
/-- a reading operation yields v -/
def Yld (T : Tab P) (ops : Array Oper) (o : Oper) (v : AV) (tm : List AV) (M : Mem) : Prop :=
  (wantA ops o tm = some true ∧ (stepA T tm M o).need ∧ v = (stepA T tm M o).val) ∨ (wantA ops o tm = some false ∧ v = undefA)
theorem Yld.qA {i : Nat} {v : AV} (hi : ops[i]? = some o) (hc : clsO T o = 0) (hy : Yld T ops o v tm M) {K : List AV → Mem → Prop} (h : K (putA tm o.dst v) M) : qA T ops i K tm M := by
  unfold Go.Proofs.YtkompmgleojmlaaDoor.qA
  simp only [hi]
  rcases hy with ⟨hw, hv, rfl⟩ | ⟨hw, rfl⟩
  · simp only [hw]; exact ⟨hv, by rw [(stepA_mono [] hc hv).2.2.2]; exact h⟩
  · simp only [hw]; exact h
theorem qA_put {j : Nat} {oi oj : Oper} {v : AV} (hj : ops[j]? = some oj) (hap : oi.apart ops oj = true) (hci : clsO T oi = 0) (hcj : clsO T oj ≤ 1 ∨ pureO oi = true) {K : List AV → Mem → Prop} (hy : Yld T ops oi v tm M) (h : qA T ops j K (putA tm oi.dst v) M) :
    qA T ops j (fun a' m' => Yld T ops oi v a' m' ∧ K (putA a' oi.dst v) m') tm M := by
  obtain ⟨h1, h2, h3⟩ := Oper.apart_spec hap
  have keep : ∀ u N, Yld T ops oi v (putA tm oj.dst u) (M ++ N) := fun u N => by
    unfold Yld
    rw [wantA_put h3, stepA_put (by omega) h3]
    rcases hy with ⟨hw, hv, rfl⟩ | hy
    · obtain ⟨m1, m2, _, _⟩ := stepA_mono N hci hv
      exact .inl ⟨hw, m1, m2.symm⟩
    · exact .inr hy
  have keepP : pureO oi = true → ∀ u M', Yld T ops oi v (putA tm oj.dst u) M' := fun hp u M' => by
    unfold Yld
    rw [wantA_put h3, stepA_putAny h3]
    rcases hy with ⟨hw, hv, rfl⟩ | hy
    · obtain ⟨m1, m2⟩ := pure_step (T := T) (tm := tm) (M := M) (M' := M') hp
      exact .inl ⟨hw, by rw [← m1]; exact hv, m2⟩
    · exact .inr hy
  unfold qA at *
  simp only [hj] at *
  rw [wantA_put h1, stepA_putAny h1] at h
  split
  · rename_i hw
    simp only [hw] at h
    refine ⟨h.1, ?_, by rw [← putA_comm _ _ h2]; exact h.2⟩
    rcases hcj with hcj | hp
    · obtain ⟨N, hN⟩ := stepA_ext hcj h.1
      rw [hN]; exact keep _ N
    · exact keepP hp _ _
  · rename_i hw
    simp only [hw] at h
    exact ⟨by have := keep undefA []; rwa [List.append_nil] at this, by rw [← putA_comm _ _ h2]; exact h⟩
  · rename_i hw
    simp only [hw] at h
/-- what is listed has all that it waits for listed -/
def Closed (ops : Array Oper) (listed : Array Bool) : Prop := ∀ (j : Nat) (o : Oper), ops[j]? = some o → listed.getD j false = true → ∀ e ∈ o.after, Region.binds .any e = true → listed.getD e.on false = true
theorem closed_dep {listed : Array Bool} (hcl : Closed ops listed) {i : Nat} : ∀ (n j : Nat), listed.getD j false = true → depT ops n i j = true → listed.getD i false = true
  | 0, _, _, h => by cases h
  | n + 1, j, hj, h => by
    unfold depT at h
    cases ho : ops[j]? with
    | none => rw [ho] at h; cases h
    | some o =>
      rw [ho] at h
      obtain ⟨e, he, hb⟩ := Array.any_eq_true'.1 h
      rw [Bool.and_eq_true, Bool.or_eq_true] at hb
      have := hcl j o ho hj e he hb.1
      rcases hb.2 with h2 | h2
      · rw [← Nat.eq_of_beq_eq_true h2]; exact this
      · exact closed_dep hcl n e.on this (Bool.and_eq_true_iff.1 h2).2
theorem ready_dep {listed : Array Bool} (hcl : Closed ops listed) {i j : Nat} (hj : j ∈ Region.ready .any ops listed) {n : Nat} (h : depT ops n i j = true) : listed.getD i false = true := by
  cases n with
  | zero => cases h
  | succ n =>
    obtain ⟨_, o, ho, hall⟩ := mem_ready.1 hj
    unfold depT at h
    rw [ho] at h
    obtain ⟨e, he, hb⟩ := Array.any_eq_true'.1 h
    rw [Bool.and_eq_true, Bool.or_eq_true] at hb
    have := hall e he hb.1
    rcases hb.2 with h2 | h2
    · rw [← Nat.eq_of_beq_eq_true h2]; exact this
    · exact closed_dep hcl n e.on this (Bool.and_eq_true_iff.1 h2).2
theorem closed_add {listed : Array Bool} (hcl : Closed ops listed) {i : Nat} (hi : i ∈ Region.ready .any ops listed) : Closed ops (listed.setIfInBounds i true) := fun j o ho hj e he hb => by
  by_cases hji : i = j
  · subst hji
    obtain ⟨_, o', ho', hall⟩ := mem_ready.1 hi
    obtain rfl : o' = o := Option.some.inj (ho'.symm.trans ho)
    exact getD_set_true (hall e he hb)
  · rw [getD_set_ne false hji] at hj
    exact getD_set_true (hcl j o ho hj e he hb)
theorem getD_tf {listed : Array Bool} {i : Nat} (h : listed.getD i true = false) : listed.getD i false = false := by
  rcases Nat.lt_or_ge i listed.size with h' | h'
  · simp [h'] at h ⊢; exact h
  · simp [Array.getElem?_eq_none h']
theorem anyA_read {Q : List AV → Mem → Prop} {i : Nat} {oi : Oper} {v : AV} (hi : ops[i]? = some oi) (hci : clsO T oi = 0) :
    ∀ (fuel : Nat) (listed : Array Bool) (tm : List AV) (M : Mem), Closed ops listed →
      (∀ j oj, ops[j]? = some oj → j ≠ i → listed.getD j true = false → depT ops ops.size i j = false → oi.apart ops oj = true ∧ (clsO T oj ≤ 1 ∨ pureO oi = true)) →
      i ∈ Region.ready .any ops listed → Yld T ops oi v tm M →
      anyA T ops Q fuel (listed.setIfInBounds i true) (putA tm oi.dst v) M → anyA T ops Q (fuel + 1) listed tm M := by
  intro fuel
  induction fuel with
  | zero =>
    intro listed tm M _ _ hr hy H
    refine ⟨fun h => (by rw [h] at hr; cases hr), fun j hj => ?_⟩
    by_cases hji : j = i
    · subst hji; exact hy.qA hi hci H
    · have := ready_mono hj hji
      rw [H.1] at this
      cases this
  | succ fuel ih =>
    intro listed tm M hcl hfree hr hy H
    refine ⟨fun h => (by rw [h] at hr; cases hr), fun j hj => ?_⟩
    by_cases hji : j = i
    · subst hji; exact hy.qA hi hci H
    · have h1 := H.2 j (ready_mono hj hji)
      obtain ⟨hjun, oj, hoj, hall⟩ := mem_ready.1 hj
      have hnd : depT ops ops.size i j = false := by
        cases hd : depT ops ops.size i j with
        | false => rfl
        | true =>
          have h2 := ready_dep hcl hj hd
          rw [getD_tf (mem_ready.1 hr).1] at h2
          cases h2
      obtain ⟨hap, hcj⟩ := hfree j oj hoj hji hjun hnd
      have h2 := qA_put hoj hap hci hcj hy h1
      have hfree' : ∀ k ok, ops[k]? = some ok → k ≠ i → (listed.setIfInBounds j true).getD k true = false → depT ops ops.size i k = false → oi.apart ops ok = true ∧ (clsO T ok ≤ 1 ∨ pureO oi = true) := fun k ok hk hki hun hno => by
        refine hfree k ok hk hki ?_ hno
        by_cases hjk : j = k
        · subst hjk; exact hjun
        · rw [getD_set_ne true hjk] at hun; exact hun
      refine qA_mono (fun a' m' h3 => ih (listed.setIfInBounds j true) a' m' (closed_add hcl hj) hfree' (ready_mono hr (Ne.symm hji)) h3.1 ?_) h2
      rw [Array.setIfInBounds_comm _ _ hji]
      exact h3.2
theorem anyA_fuel {Q : List AV → Mem → Prop} : ∀ (n k : Nat) (listed : Array Bool) (tm : List AV) (M : Mem), anyA T ops Q n listed tm M → n ≤ k → anyA T ops Q k listed tm M
  | 0, 0, _, _, _, h, _ => h
  | 0, k + 1, listed, tm, M, h, _ => ⟨fun _ => h.2, fun i hi => by rw [h.1] at hi; cases hi⟩
  | n + 1, 0, _, _, _, _, hk => by omega
  | n + 1, k + 1, listed, tm, M, h, hk => ⟨h.1, fun i hi => qA_mono (fun a m h => anyA_fuel n k _ a m h (by omega)) (h.2 i hi)⟩
theorem vcOp1_q {i : Nat} {K : List AV → Mem → Prop} (h : vcOp1 T ops i tm M K) : qA T ops i K tm M := by
  unfold vcOp1 at h
  cases ho : ops[i]? with
  | none => rw [ho] at h; exact h.elim
  | some o =>
    rw [ho] at h
    simp only at h
    unfold qA
    simp only [ho]
    have wnt : ∀ j want d, o.guard = some (j, want) → (ops[j]?).bind (·.dst) = some d → wantA ops o tm = (match tm.getD d .any with
        | .w (.c (.bool g)) => some (g == want)
        | .tp _ => some false
        | _ => none) := fun j want d hg hd => by
      unfold wantA
      rw [hg]
      simp only [hd]
    cases hgd : o.guard with
    | none =>
      rw [hgd] at h
      have : wantA ops o tm = some true := by unfold wantA; rw [hgd]
      simp only [this]
      exact ⟨(andR_elim h).1, genG_elim (andR_elim h).2⟩
    | some jw =>
      obtain ⟨j, want⟩ := jw
      rw [hgd] at h
      simp only at h
      cases hd : (ops[j]?).bind (·.dst) with
      | none => rw [hd] at h; exact h.elim
      | some d =>
        rw [hd] at h
        simp only at h
        have wn := wnt j want d hgd hd
        split at h
        · rename_i g hq
          rw [hq] at wn
          have hs : tm.set d (.c (.bool g)) = tm := set_same hq (by simp)
          cases want <;> cases g <;> simp only [hs] at h wn
          · rw [wn]; exact ⟨(andR_elim h).1, genG_elim (andR_elim h).2⟩
          · rw [wn]; exact h
          · rw [wn]; exact h
          · rw [wn]; exact ⟨(andR_elim h).1, genG_elim (andR_elim h).2⟩
        · rename_i l' hq
          rw [hq] at wn
          rw [wn]
          exact h
        · exact h.elim

theorem vcOpsD_any {Q : List AV → Mem → Prop} : ∀ (t : Tr) (listed : Array Bool) (tm : List AV) (M : Mem), Closed ops listed → vcOpsD T ops t tm M Q →
    (okA T ops t false listed = true → anyA T ops Q t.len listed tm M) ∧
      (okA T ops t true listed = true → ∀ k, t.len ≤ k + 1 → ∀ j ∈ t.heads, j ∈ Region.ready .any ops listed ∧ qA T ops j (anyA T ops Q k (listed.setIfInBounds j true)) tm M)
  | .nil, _, _, _, _, h => ⟨fun hB => ⟨by simpa [okA] using hB, h⟩, fun hB => by simp [okA] at hB⟩
  | .alt t u, listed, tm, M, hcl, h => by
    obtain ⟨ht, hu⟩ := h
    have it := (vcOpsD_any t listed tm M hcl ht).2
    have iu := (vcOpsD_any u listed tm M hcl hu).2
    have both : okA T ops t true listed = true → okA T ops u true listed = true → ∀ k, (Tr.alt t u).len ≤ k + 1 → ∀ j ∈ (Tr.alt t u).heads, j ∈ Region.ready .any ops listed ∧ qA T ops j (anyA T ops Q k (listed.setIfInBounds j true)) tm M := fun h1 h2 k hk j hj => by
      have hk' : max t.len u.len ≤ k + 1 := hk
      rcases List.mem_append.1 hj with hj | hj
      · exact it h1 k (by omega) j hj
      · exact iu h2 k (by omega) j hj
    refine ⟨fun hB => ?_, fun hB => ?_⟩
    · unfold okA at hB
      simp only [Bool.false_or, Bool.and_eq_true] at hB
      have hall : ∀ i ∈ Region.ready .any ops listed, i ∈ (Tr.alt t u).heads := fun i hi => by
        obtain ⟨k, hk, hb⟩ := List.any_eq_true.1 (List.all_eq_true.1 hB.1 i hi)
        rw [← Nat.eq_of_beq_eq_true hb]; exact hk
      cases hn : (Tr.alt t u).len with
      | zero =>
        exfalso
        cases hh : (Tr.alt t u).heads with
        | nil =>
          have h0 : ∀ t : Tr, ∀ l, okA T ops t true l = true → t.heads ≠ [] := fun t => by
            induction t with
            | nil => intro l h; simp [okA] at h
            | one i t _ => intro l _; simp [Tr.heads]
            | alt t u ih _ => intro l h; simp only [okA, Bool.true_or, Bool.true_and, Bool.and_eq_true] at h; simp [Tr.heads, ih l h.1]
          exact h0 (.alt t u) listed (by unfold okA; simp [hB.2.1, hB.2.2]) hh
        | cons j js =>
          have h0 : ∀ t : Tr, t.len = 0 → t.heads = [] := fun t => by
            induction t with
            | nil => intro _; rfl
            | one i t _ => intro h; exact absurd h (Nat.succ_ne_zero _)
            | alt t u ih ih2 =>
              intro h
              have h' : max t.len u.len = 0 := h
              simp [Tr.heads, ih (by omega), ih2 (by omega)]
          rw [h0 _ hn] at hh
          cases hh
      | succ k =>
        have hb := both hB.2.1 hB.2.2 k (by omega)
        refine ⟨fun h0 => ?_, fun j hj => (hb j (hall j hj)).2⟩
        cases hh : (Tr.alt t u).heads with
        | nil =>
          exfalso
          have h0 : ∀ t : Tr, ∀ l, okA T ops t true l = true → t.heads ≠ [] := fun t => by
            induction t with
            | nil => intro l h; simp [okA] at h
            | one i t _ => intro l _; simp [Tr.heads]
            | alt t u ih _ => intro l h; simp only [okA, Bool.true_or, Bool.true_and, Bool.and_eq_true] at h; simp [Tr.heads, ih l h.1]
          exact h0 (.alt t u) listed (by unfold okA; simp [hB.2.1, hB.2.2]) hh
        | cons j js =>
          have := (hb j (by rw [hh]; exact List.mem_cons_self)).1
          rw [h0] at this
          cases this
    · unfold okA at hB
      simp only [Bool.true_or, Bool.true_and, Bool.and_eq_true] at hB
      exact both hB.1 hB.2
  | .one i l, listed, tm, M, hcl, h => by
    have hq : qA T ops i (fun tm M => vcOpsD T ops l tm M Q) tm M := vcOp1_q h
    have hrd : ∀ b, okA T ops (.one i l) b listed = true → i ∈ Region.ready .any ops listed ∧ ((b || freeA T ops listed i) = true) ∧ okA T ops l false (listed.setIfInBounds i true) = true := fun b hB => by
      unfold okA at hB
      rw [Bool.and_eq_true, Bool.and_eq_true] at hB
      obtain ⟨hr, hf, hB'⟩ := hB
      obtain ⟨k, hk, hb⟩ := List.any_eq_true.1 hr
      obtain rfl := Nat.eq_of_beq_eq_true hb; exact ⟨hk, hf, hB'⟩
    refine ⟨fun hB => ?_, fun hB k hk j hj => ?_⟩
    · obtain ⟨hr, hf, hB'⟩ := hrd false hB
      rw [Bool.false_or] at hf
      have ih := fun tm M h => (vcOpsD_any (Q := Q) l (listed.setIfInBounds i true) tm M (closed_add hcl hr) h).1 hB'
      cases ho : ops[i]? with
      | none =>
        obtain ⟨_, o, ho', _⟩ := mem_ready.1 hr
        rw [ho] at ho'
        cases ho'
      | some o =>
        have hfs : ∀ j oj, ops[j]? = some oj → j ≠ i → listed.getD j true = false → depT ops ops.size i j = false → clsO T o = 0 ∧ o.apart ops oj = true ∧ (clsO T oj ≤ 1 ∨ pureO o = true) := fun j oj hj hji hun hnd => by
          unfold freeA at hf
          rw [ho] at hf
          have h1 := List.all_eq_true.1 hf j (List.mem_range.2 (Array.getElem?_eq_some_iff.1 hj).1)
          have hb : Nat.beq j i = false := by
            cases hb : Nat.beq j i with
            | false => rfl
            | true => exact absurd (Nat.eq_of_beq_eq_true hb) hji
          rw [hb, hun, hnd, hj] at h1
          simp only [Bool.false_or, Bool.or_false, Bool.and_eq_true, Bool.or_eq_true] at h1
          exact ⟨Nat.eq_of_beq_eq_true h1.1, h1.2.1, h1.2.2.imp Nat.le_of_ble_eq_true id⟩
        by_cases hc : clsO T o = 0
        · -- it reads
          unfold qA at hq
          simp only [ho] at hq
          have hfree := fun j oj hj hji hun hnd => (hfs j oj hj hji hun hnd).2
          split at hq
          · rename_i hw
            have hm := (stepA_mono (T := T) [] hc hq.1).2.2.2
            rw [hm] at hq
            exact anyA_read ho hc l.len listed tm M hcl hfree hr (.inl ⟨hw, hq.1, rfl⟩) (ih _ _ hq.2)
          · rename_i hw
            exact anyA_read ho hc l.len listed tm M hcl hfree hr (.inr ⟨hw, rfl⟩) (ih _ _ hq)
          · exact hq.elim
        · -- it is the only one that may come
          refine ⟨fun h0 => (by rw [h0] at hr; cases hr), fun j hj => ?_⟩
          have hji : j = i := by
            by_cases hji : j = i
            · exact hji
            · obtain ⟨hjun, oj, hoj, _⟩ := mem_ready.1 hj
              cases hd : depT ops ops.size i j with
              | false => exact absurd (hfs j oj hoj hji hjun hd).1 hc
              | true =>
                have h2 := ready_dep hcl hj hd
                rw [getD_tf (mem_ready.1 hr).1] at h2
                cases h2
          subst hji
          exact qA_mono (fun a m h => ih a m h) hq
    · obtain rfl : j = i := by simpa [Tr.heads] using hj
      obtain ⟨hr, _, hB'⟩ := hrd true hB
      refine ⟨hr, qA_mono (fun a m h => anyA_fuel _ _ _ _ _ ((vcOpsD_any (Q := Q) l (listed.setIfInBounds j true) a m (closed_add hcl hr) h).1 hB') ?_) hq⟩
      have hk' : l.len + 1 ≤ k + 1 := hk
      omega
theorem closed_none (n : Nat) : Closed ops (Array.replicate n false) := fun j o _ hj => by
  rcases Nat.lt_or_ge j n with h | h
  · simp [h] at hj
  · simp [Nat.not_lt.2 h] at hj
theorem altT_len {k : Nat} : ∀ (l : List Tr), (∀ t ∈ l, t.len ≤ k) → (altT l).len ≤ k
  | [], _ => Nat.zero_le _
  | [t], h => h t List.mem_cons_self
  | t :: u :: l, h => by
    have h1 := h t List.mem_cons_self
    have h2 := altT_len (u :: l) (fun t ht => h t (List.mem_cons_of_mem _ ht))
    show max t.len (altT (u :: l)).len ≤ k
    omega
theorem schedA_len : ∀ (n : Nat) (listed : Array Bool), (schedA T ops n listed).len ≤ n
  | 0, _ => Nat.le_refl _
  | n + 1, listed => by
    unfold schedA
    split
    · rename_i i _
      have := schedA_len n (listed.setIfInBounds i true)
      show (schedA T ops n _).len + 1 ≤ _
      omega
    · refine altT_len _ fun t ht => ?_
      obtain ⟨i, _, rfl⟩ := List.mem_map.1 ht
      have := schedA_len n (listed.setIfInBounds i true)
      show (schedA T ops n _).len + 1 ≤ _
      omega
theorem any_of_A {Q : List AV → Mem → Prop} {Q' : Exit → Act → World → Prop} {W0 : World} {E0 : Env} (hT : TabOk X W0 E0 T) (hQ : ∀ tm M a W E, Q tm M → RepA X tm M a W E → Since T W0 E0 W E M → Q' .normal a W) : ∀ (fuel : Nat) (listed : Array Bool) (tm : List AV) (M : Mem) (a : Act) (W : World) (E : Env),
    RepA X tm M a W E → Since T W0 E0 W E M → anyA T ops Q fuel listed tm M → wpAny P .any ops Q' fuel listed a W
  | 0, _, _, _, _, _, _, hr, hg, h => ⟨h.1, hQ _ _ _ _ _ h.2 hr hg⟩
  | fuel + 1, listed, tm, M, a, W, E, hr, hg, h => by
    refine ⟨fun h0 => hQ _ _ _ _ _ (h.1 h0) hr hg, fun i hi => ?_⟩
    have hh := h.2 i hi
    unfold qA at hh
    unfold wpOp
    cases ho : ops[i]? with
    | none => rw [ho] at hh; exact any_of_A hT hQ fuel _ _ _ _ _ _ hr hg hh
    | some o =>
      rw [ho] at hh
      simp only at hh ⊢
      have wnt : ∀ b, wantA ops o tm = some b → Region.wanted o (yielded ops a.tmps) = b := fun b hb => by
        unfold wantA at hb
        unfold Region.wanted
        cases hgd : o.guard with
        | none => rw [hgd] at hb; exact Option.some.inj hb
        | some jw =>
          obtain ⟨j, want⟩ := jw
          rw [hgd] at hb
          simp only at hb ⊢
          cases hd : (ops[j]?).bind (·.dst) with
          | none => rw [hd] at hb; cases hb
          | some d =>
            rw [hd] at hb
            simp only at hb
            have hd' : (ops.toList[j]?).bind (·.dst) = some d := by rw [Array.getElem?_toList]; exact hd
            split at hb
            · rename_i g hq
              have := yielded_of hd' hr.tmps hq
              rw [show yielded ops a.tmps j = some g from this, ← Option.some.inj hb]
              cases g <;> cases want <;> rfl
            · rename_i l hq
              have := yielded_tp hd' hr.tmps hq
              rw [show yielded ops a.tmps j = none from this, ← Option.some.inj hb]
              rfl
            · cases hb
      split at hh
      · rename_i hw
        rw [if_pos (wnt _ hw)]
        refine .inl (stepA_sound hT hg.g hr.mem hr.tmps hh.1 _ _ fun u W' E' g m r hv => ?_)
        exact any_of_A hT hQ fuel _ _ _ _ _ _ ⟨r, putA_rep (hr.tmps.mono g m hr.mem.len) hv, by rw [put_defers]; exact hr.dfr⟩ (hg.step g m) hh.2
      · rename_i hw
        rw [if_neg (by rw [wnt _ hw]; exact Bool.false_ne_true)]
        exact any_of_A hT hQ fuel _ _ _ _ _ _ (hr.skip _) hg hh
      · exact hh.elim
end
end Go.Proofs.YtkompmgleojmlaaDoor
