/-
  All operations that call nothing: the abstract one's condition gives the model's run.
  Plain: no program. No condition.
-/
import Derived.Test.YtkompmgleojmlaaDoorEBmZ
set_option linter.unusedSimpArgs false
set_option linter.unusedVariables false
namespace Go.Proofs.YtkompmgleojmlaaDoor
open Go.ChangeShapes Go.WideShapes Go.ChangeAt Go.RowKit Go.Joins Go.Deep
open GoRep (rep bulk)

section
variable {P : Program} {X : List Nat} {W : World} {E : Env} {M : Mem} {a : Act} {tm : List AV} {o : Oper}
theorem wf_nat {n : Nat} (h : n ≤ maxLen) : (Lit.int .i64 (n : Int)).wf = true := by
  rw [lit_wf]
  have hmm : IntKind.i64.min = -9223372036854775808 ∧ IntKind.i64.max = 9223372036854775807 := by decide
  unfold maxLen at h
  omega
set_option maxHeartbeats 1000000 in
theorem opA_sound (hM : RepM X W E M) (ht : RepT X W E M tm a.tmps.toList) (hn : (opA P tm M o).need) : Does X P o a W E M (opA P tm M o).val (opA P tm M o).mem := by
  unfold opA at hn ⊢
  cases ho : o.op <;> simp only [ho] at hn ⊢
  case move x => exact Does.stay hM (u := a.eval x) (by unfold execOp; simp only [ho]; rfl) (evalA_rep ht x)
  case assign x => exact Does.stay hM (u := a.eval x) (by unfold execOp; simp only [ho]; rfl) (evalA_rep ht x)
  case pick c x y =>
    have hc := evalA_rep ht c
    split at hn
    · rename_i g hg
      rw [hg] at hc
      refine Does.stay hM (u := if g then a.eval x else a.eval y) ?_ (pickA_rep (evalA_rep ht x) (evalA_rep ht y))
      unfold execOp
      simp only [ho, bool_of hc]
      rfl
    · exact hn.elim
  case alloc e =>
    split at hn
    · rename_i z hz
      cases hq : P.info? e with
      | none => rw [hq] at hz; cases hz
      | some i =>
        rw [hq] at hz
        cases hok : z.cells.toList.all absOk with
        | false => rw [hok] at hn; exact hn.elim
        | true => simp only [cond_true]; exact does_alloc hM ho hq hz hok
    · exact hn.elim
  case box e x =>
    split at hn
    · rename_i l hl; exact does_box hM ht ho hl
    · exact hn.elim
  case load t x =>
    split at hn
    · rename_i i q hx
      split at hn
      · rename_i l hb
        split at hn
        · rename_i v hv; exact does_load_box hM ht ho hx hb hv
        · exact hn.elim
      · exact hn.elim
    · rename_i L t' xs k q hx
      cases hL : liveL M L with
      | false => rw [hL] at hn; exact hn.elim
      | true =>
        simp only [hL, cond_true] at hn ⊢
        split at hn
        · rename_i v hv; exact does_load_ep hM ht ho hx hL hv
        · exact hn.elim
    · rename_i i v n k q hx
      split at hn
      · rename_i r hr
        cases hb : Nat.beq n r.t.n with
        | false => rw [hb] at hn; exact hn.elim
        | true =>
          simp only [hb, cond_true] at hn ⊢
          split at hn
          · rename_i u hu; exact does_load_rp hM ht ho hx hr (Nat.eq_of_beq_eq_true hb) hu
          · exact hn.elim
      · exact hn.elim
    · rename_i i v c n k o' m y q hx
      split at hn
      · rename_i r hr
        cases hb : Nat.beq m r.t.n with
        | false => rw [hb] at hn; exact hn.elim
        | true =>
          simp only [hb, cond_true] at hn ⊢
          split at hn
          · rename_i u hu; exact does_load_sp hM ht ho hx hr (Nat.eq_of_beq_eq_true hb) hu
          · exact hn.elim
      · exact hn.elim
    · exact hn.elim
  case store t x y =>
    split at hn
    · rename_i i q l' hx hy
      split at hn
      · rename_i l hb
        cases hc : (Nat.beq l'.length (sizeT P t)) && (Nat.ble (q + l'.length) l.length && Nat.blt 0 (sizeT P t)) with
        | false => rw [hc] at hn; exact hn.elim
        | true =>
          rw [Bool.and_eq_true, Bool.and_eq_true] at hc
          have h1 := Nat.eq_of_beq_eq_true hc.1
          have h2 := Nat.le_of_ble_eq_true hc.2.1
          have h3 : 0 < sizeT P t := Nat.le_of_ble_eq_true hc.2.2
          simp only [cond_true]
          exact does_store_box hM ht ho hx hy hb h1 h3 h2
      · exact hn.elim
    · rename_i i v n k q l' hx hy
      cases hh : holed M i with
      | true => rw [hh] at hn; exact does_storeH hM ht ho hx hy hn
      | false => rw [hh] at hn; exact does_storeR hM ht ho hx hy hn
    · exact hn.elim
  case build t parts =>
    split at hn
    · rename_i l hl; exact does_build hM ht ho hl
    · exact hn.elim
  case buildSlice t len parts =>
    split at hn
    · rename_i e hu
      split at hn
      · rename_i tt htt
        split at hn
        · rename_i ys js hp
          cases hc : (rowTy P e tt.n && Nat.ble (len * tt.n) 16777216) && (Nat.beq len parts.size && distinct js) with
          | false => rw [hc] at hn; exact hn.elim
          | true =>
            simp only [hc, cond_true]
            simp only [Bool.and_eq_true] at hc
            exact does_buildSlice hM ht ho hu hp hc.1.1 (Nat.le_of_ble_eq_true hc.1.2) (Nat.eq_of_beq_eq_true hc.2.1) hc.2.2
        · cases hfl : tt.flat with
          | true => rw [hfl] at hn; exact hn.elim
          | false =>
            simp only [hfl, cond_false] at hn ⊢
            split at hn
            · rename_i tq htq
              try simp only [htq]
              split at hn
              · rename_i ys js hp
                try simp only [hp]
                cases hc : (rowTy P e tq.n && Nat.ble (len * tq.n) 16777216) && (Nat.beq len parts.size && distinct js) with
                | false => rw [hc] at hn; exact hn.elim
                | true =>
                  simp only [cond_true]
                  simp only [Bool.and_eq_true] at hc
                  exact does_buildSlice hM ht ho hu hp hc.1.1 (Nat.le_of_ble_eq_true hc.1.2) (Nat.eq_of_beq_eq_true hc.2.1) hc.2.2
              · exact hn.elim
            · exact hn.elim
      · exact hn.elim
    · exact hn.elim
  case makeSlice t l c =>
    split at hn
    · rename_i e n m hu hl hc
      split at hn
      · rename_i tt z htt hz
        cases hcnd : z.cells.toList.all absOk && rowTy P e tt.n with
        | false => rw [hcnd] at hn; exact hn.elim
        | true =>
          simp only [hcnd, cond_true] at hn ⊢
          rw [Bool.and_eq_true] at hcnd
          split at hn
          · rename_i d hd
            exact does_makeSlice hM ht ho hu hl hc hz hcnd.1 hcnd.2 hd hn
          · exact hn.elim
      · exact hn.elim
    · exact hn.elim
  case nilCheck x =>
    split at hn
    · rename_i i q hx; exact does_nilCheck hM ht ho hx (.inl trivial)
    · rename_i L t xs k q hx
      cases hL : liveL M L with
      | false => rw [hL] at hn; exact hn.elim
      | true => simp only [cond_true]; exact does_nilCheck hM ht ho hx (.inl hL)
    · rename_i i v n k q hx
      cases hL : (rowIx M i v).isSome with
      | false => rw [hL] at hn; exact hn.elim
      | true => simp only [cond_true]; exact does_nilCheck hM ht ho hx (.inl hL)
    · rename_i i v c n k o' m y q hx
      cases hL : (readSl M i v c n k o').isSome with
      | false => rw [hL] at hn; exact hn.elim
      | true => simp only [cond_true]; exact does_nilCheck hM ht ho hx (.inl hL)
    · rename_i f l hx; exact does_nilCheck hM ht ho hx (.inr ⟨f, l, rfl⟩)
    · exact hn.elim
  case binOp op t x y yt => exact does_bin hM ht ho hn
  case unOp op t x =>
    cases op <;> simp only at hn ⊢
    case not =>
      split at hn
      · rename_i b hx; exact does_not hM ht ho hx
      · exact hn.elim
    case neg =>
      split at hn
      · rename_i k n hx; exact does_neg hM ht ho hx
      · exact hn.elim
    all_goals exact hn.elim
  case convert s d x =>
    split at hn
    · rename_i k k' n hd hx
      exact does_convert hM ht ho hd hn hx
    · rename_i c hd hx
      split at hn
      · rename_i e hs
        cases hu : isU8 P e with
        | false => rw [hu] at hn; exact hn.elim
        | true =>
          simp only [hu, cond_true] at hn ⊢
          split at hn
          · rename_i xs hst
            simp only [hst]
            exact does_toStr hM ht ho hd hs hu hx hst hn
          · exact hn.elim
      · exact hn.elim
    · exact hn.elim
  case makeFunc fn first captured =>
    cases fn <;> simp only at hn ⊢
    case func f =>
      split at hn
      · rename_i l hf hc; exact does_makeFunc hM ht ho hf hc
      · exact hn.elim
    all_goals exact hn.elim
  case slice t x lo hi mx =>
    cases mx with
    | some _ => exact hn.elim
    | none =>
      simp only at hn ⊢
      split at hn
      · rename_i hu
        split at hn
        · rename_i s hx
          exact does_slice_str (P := P) (o := o) hM ht ho hu hx hn
        · exact hn.elim
      · rename_i e hu
        split at hn
        · rename_i cc hx
          split at hn
          · rename_i L q hr
            exact does_slice (P := P) (o := o) hM ht ho hu hx hr hn.1 hn.2
          · exact hn.elim
        · exact hn.elim
      · exact hn.elim
  case fieldAddr s x n =>
    unfold fieldAt? at hn ⊢
    cases hs : P.underlying s with
    | none => rw [hs] at hn; exact hn.elim
    | some d =>
      rw [hs] at hn
      cases d <;> simp only at hn ⊢ <;> try exact hn.elim
      rename_i fs
      cases hf : fs[n]? with
      | none => rw [hf] at hn; exact hn.elim
      | some f =>
        rw [hf] at hn
        simp only at hn ⊢
        cases hz : Nat.beq (sizeT P f.type) 0 with
        | true => rw [hz] at hn; exact hn.elim
        | false =>
          rw [hz] at hn
          simp only [cond_false] at hn ⊢
          have hz' : sizeT P f.type ≠ 0 := fun e => by rw [e] at hz; cases hz
          split at hn
          · rename_i i q hx; exact does_fieldAddr hM ht ho hs hf hz' hx trivial rfl
          · rename_i L t xs k q hx
            cases hL : liveL M L with
            | false => rw [hL] at hn; exact hn.elim
            | true => simp only [cond_true]; exact does_fieldAddr hM ht ho hs hf hz' hx hL rfl
          · rename_i i v n k q hx
            cases hL : (rowIx M i v).isSome with
            | false => rw [hL] at hn; exact hn.elim
            | true => simp only [cond_true]; exact does_fieldAddr hM ht ho hs hf hz' hx hL rfl
          · rename_i i v c n k o' m y q hx
            cases hL : (readSl M i v c n k o').isSome with
            | false => rw [hL] at hn; exact hn.elim
            | true => simp only [cond_true]; exact does_fieldAddr hM ht ho hs hf hz' hx hL rfl
          · exact hn.elim
  case indexAddr t x i =>
    split at hn
    · rename_i e L t' xs k n hu hx hi
      cases hL : liveL M L with
      | false => rw [hL] at hn; exact hn.elim
      | true =>
        simp only [hL, cond_true] at hn ⊢
        exact does_indexAddr hM ht ho hu hx hi hL hn.1 hn.2.1 hn.2.2
    · rename_i e i v k n hu hx hi
      split at hn
      · rename_i r hr
        exact does_indexRow hM ht ho hu hx hi hr hn.1 hn.2.1 hn.2.2
      · exact hn.elim
    · rename_i e i v c n' k' o' k n hu hx hi
      split at hn
      · rename_i r hr
        exact does_indexSl hM ht ho hu hx hi hr hn.1 hn.2.1 hn.2.2
      · exact hn.elim
    · exact hn.elim
  case index t x i =>
    split at hn
    · rename_i s k n hu hx hi; exact does_index hM ht ho hu hx hi hn.1 hn.2
    · exact hn.elim
  case extract x n =>
    split at hn
    · rename_i l hx
      split at hn
      · rename_i w hw; exact does_extract hM ht ho hx hw
      · exact hn.elim
    · exact hn.elim
  case call c =>
    obtain ⟨cal, xs, ts⟩ := c
    cases cal <;> simp only at hn ⊢ <;> try exact hn.elim
    rename_i b
    cases b <;> simp only at hn ⊢ <;> try exact hn.elim
    case len =>
      split at hn
      · rename_i t x hts hxs
        have hx := evalA_rep (M := M) (W := W) (E := E) ht x
        split at hn
        · rename_i s hu he
          rw [he] at hx
          obtain ⟨e1, e2⟩ := str_of hx
          exact run_len hM (u := .int .i64 (s.size : Nat)) ⟨rfl, wf_nat e2⟩ ho hts hxs e1 (run_len_string _ _ _ _ hu) rfl
        · rename_i e hu he
          rw [he] at hx
          exact run_len hM (u := .int .i64 0) ⟨rfl, by decide⟩ ho hts hxs hx.1 (by simp [Builtin.len_, run_underlying hu, goInt]) rfl
        · rename_i e cc hu he
          rw [he] at hx
          split at hn
          · rename_i L q hr
            obtain ⟨A, c, F, e1, hs, _⟩ := read_of (X := X) hM hr hx
            exact run_len hM (u := .int .i64 (q.xs.length : Nat)) ⟨rfl, wf_nat (Nat.le_trans hs.1 hs.2.1)⟩ ho hts hxs e1 (by simp [Builtin.len_, run_underlying hu, goInt]) rfl
          · exact hn.elim
        · exact hn.elim
      · exact hn.elim
    case append =>
      split at hn
      · rename_i t t2 x y hts hxs
        split at hn
        · rename_i e hu
          cases hb : Nat.beq t t2 with
          | false =>
            simp only [hb, cond_false] at hn ⊢
            split at hn
            · rename_i s hu2 hy
              exact does_appendS hM ht ho hxs hts hu hu2 hy hn
            · exact hn.elim
          | true =>
            obtain rfl := Nat.eq_of_beq_eq_true hb
            simp only [hb, cond_true] at hn ⊢
            split at hn
            · rename_i q hq
              try simp only [hq]
              exact does_retyp hM ht ho hxs hts hu hq hn
            · rename_i hq
              try simp only [hq]
              exact does_append hM ht ho hxs hts hu hn
        · exact hn.elim
      · exact hn.elim
    case min =>
      split at hn
      · rename_i k p k' q hxs; exact does_minmax hM ht ho hxs (.inl ⟨rfl, rfl⟩) hn
      · rename_i k p k' q k'' r hxs; exact does_min3 hM ht ho hxs hn
      · exact hn.elim
    case max =>
      split at hn
      · rename_i k p k' q hxs; exact does_minmax hM ht ho hxs (.inr ⟨rfl, rfl⟩) hn
      · exact hn.elim
  all_goals exact hn.elim
end
end Go.Proofs.YtkompmgleojmlaaDoor
