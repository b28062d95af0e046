/-
  All operations that call nothing: the abstract one's condition gives the model's run.
  Plain: no program. No condition.
-/
import Derived.Test.YtigakalkkaoflaaAmE
set_option linter.unusedSimpArgs false
set_option linter.unusedVariables false
namespace Go.Proofs.Ytigakalkkaoflaa
open Go.ChangeShapes Go.WideShapes Go.ChangeAt Go.RowKit Go.Joins Go.Deep
open GoRep (rep bulk)

section
variable {P : Program} {X : List Nat} {W : World} {E : Env} {M : Mem} {a : Act} {tm : List AV} {o : Oper}
theorem or_no {x : OR} (h : OR.no.need) : Does X P o a W E M x.val x.mem := h.elim
theorem wf_nat {n : Nat} (h : n ≤ maxLen) : (Lit.int .i64 (n : Int)).wf = true := by
  rw [lit_wf]
  have hmm : IntKind.i64.min = -9223372036854775808 ∧ IntKind.i64.max = 9223372036854775807 := by decide
  unfold maxLen at h
  omega
set_option maxHeartbeats 1000000 in
theorem opA_sound (hM : RepM X W E M) (ht : RepT X W E M tm a.tmps.toList) (hn : (opA P tm M o).need) : Does X P o a W E M (opA P tm M o).val (opA P tm M o).mem := by
  unfold opA at hn ⊢
  cases ho : o.op <;> simp only [ho] at hn ⊢
  case move x => exact Does.stay hM (u := a.eval x) (by unfold execOp; simp only [ho]; rfl) (evalA_rep ht x)
  case assign x => exact Does.stay hM (u := a.eval x) (by unfold execOp; simp only [ho]; rfl) (evalA_rep ht x)
  case pick c x y =>
    have hc := evalA_rep ht c
    split at hn
    · rename_i g hg
      rw [hg] at hc
      refine Does.stay hM (u := if g then a.eval x else a.eval y) ?_ (pickA_rep (evalA_rep ht x) (evalA_rep ht y))
      unfold execOp
      simp only [ho, bool_of hc]
      rfl
    · exact hn.elim
  case alloc e =>
    split at hn
    · rename_i z hz
      cases hq : P.info? e with
      | none => rw [hq] at hz; cases hz
      | some i =>
        rw [hq] at hz
        cases hok : z.cells.toList.all absOk with
        | false => rw [hok] at hn; exact hn.elim
        | true => simp only [cond_true]; exact does_alloc hM ho hq hz hok
    · exact hn.elim
  case box e x =>
    split at hn
    · rename_i l hl; exact does_box hM ht ho hl
    · exact hn.elim
  case load t x =>
    split at hn
    · rename_i i q hx
      split at hn
      · rename_i l hb
        split at hn
        · rename_i v hv; exact does_load_box hM ht ho hx hb hv
        · exact hn.elim
      · exact hn.elim
    · rename_i t' xs k q hx
      split at hn
      · rename_i v hv; exact does_load_ep hM ht ho hx hv
      · exact hn.elim
    · exact hn.elim
  case store t x y =>
    split at hn
    · rename_i i q l' hx hy
      split at hn
      · rename_i l hb
        cases hc : (Nat.beq l'.length (sizeT P t)) && (Nat.ble (q + l'.length) l.length && Nat.blt 0 (sizeT P t)) with
        | false => rw [hc] at hn; exact hn.elim
        | true =>
          rw [Bool.and_eq_true, Bool.and_eq_true] at hc
          have h1 := Nat.eq_of_beq_eq_true hc.1
          have h2 := Nat.le_of_ble_eq_true hc.2.1
          have h3 : 0 < sizeT P t := Nat.le_of_ble_eq_true hc.2.2
          simp only [cond_true]
          exact does_store_box hM ht ho hx hy hb h1 h3 h2
      · exact hn.elim
    · exact hn.elim
  case nilCheck x =>
    split at hn
    · rename_i i q hx; exact does_nilCheck hM ht ho hx trivial
    · rename_i t xs k q hx; exact does_nilCheck hM ht ho hx trivial
    · rename_i f l hx; exact does_nilCheck hM ht ho hx trivial
    · exact hn.elim
  case binOp op t x y yt => exact does_bin hM ht ho hn
  case unOp op t x =>
    cases op <;> simp only at hn ⊢
    case not =>
      split at hn
      · rename_i b hx; exact does_not hM ht ho hx
      · exact hn.elim
    case neg =>
      split at hn
      · rename_i k n hx; exact does_neg hM ht ho hx
      · exact hn.elim
    all_goals exact hn.elim
  case convert s d x =>
    split at hn
    · rename_i k k' n hd hx
      exact does_convert hM ht ho hd hn hx
    · exact hn.elim
  case makeFunc fn first captured =>
    cases fn <;> simp only at hn ⊢
    case func f =>
      split at hn
      · rename_i l hf hc; exact does_makeFunc hM ht ho hf hc
      · exact hn.elim
    all_goals exact hn.elim
  case slice t x lo hi mx =>
    cases mx with
    | some _ => exact hn.elim
    | none =>
      simp only at hn ⊢
      split at hn
      · rename_i hu
        split at hn
        · rename_i s hx
          exact does_slice (P := P) (o := o) hM ht ho (.inl hu) (fun _ => ⟨s, hx⟩) hn
        · exact hn.elim
      · rename_i e hu
        split at hn
        · rename_i t' xs hx
          exact does_slice (P := P) (o := o) hM ht ho (.inr ⟨e, t', xs, hu, hx, hn.1⟩) (fun h => by rw [hu] at h; cases h) hn.2
        · exact hn.elim
      · exact hn.elim
  case fieldAddr s x n =>
    unfold fieldAt? at hn ⊢
    cases hs : P.underlying s with
    | none => rw [hs] at hn; exact hn.elim
    | some d =>
      rw [hs] at hn
      cases d <;> simp only at hn ⊢ <;> try exact hn.elim
      rename_i fs
      cases hf : fs[n]? with
      | none => rw [hf] at hn; exact hn.elim
      | some f =>
        rw [hf] at hn
        simp only at hn ⊢
        cases hz : Nat.beq (sizeT P f.type) 0 with
        | true => rw [hz] at hn; exact hn.elim
        | false =>
          rw [hz] at hn
          simp only [cond_false] at hn ⊢
          have hz' : sizeT P f.type ≠ 0 := fun e => by rw [e] at hz; cases hz
          split at hn
          · rename_i i q hx; exact does_fieldAddr hM ht ho hs hf hz' hx rfl
          · rename_i t xs k q hx; exact does_fieldAddr hM ht ho hs hf hz' hx rfl
          · exact hn.elim
  case indexAddr t x i =>
    split at hn
    · rename_i e t' xs k n hu hx hi; exact does_indexAddr hM ht ho hu hx hi hn.1 hn.2.1 hn.2.2
    · exact hn.elim
  case index t x i =>
    split at hn
    · rename_i s k n hu hx hi; exact does_index hM ht ho hu hx hi hn.1 hn.2
    · exact hn.elim
  case extract x n =>
    split at hn
    · rename_i l hx
      split at hn
      · rename_i w hw; exact does_extract hM ht ho hx hw
      · exact hn.elim
    · exact hn.elim
  case call c =>
    obtain ⟨cal, xs, ts⟩ := c
    cases cal <;> simp only at hn ⊢ <;> try exact hn.elim
    rename_i b
    cases b <;> simp only at hn ⊢ <;> try exact hn.elim
    case len =>
      split at hn
      · rename_i t x hts hxs
        have hx := evalA_rep (M := M) (W := W) (E := E) ht x
        split at hn
        · rename_i s hu he
          rw [he] at hx
          obtain ⟨e1, e2⟩ := str_of hx
          exact run_len hM (u := .int .i64 (s.size : Nat)) ⟨rfl, wf_nat e2⟩ ho hts hxs e1 (run_len_string _ _ _ _ hu) rfl
        · rename_i e t' l hu he
          rw [he] at hx
          obtain ⟨A, c, F, e1, hs, _⟩ := slice_of (X := X) (M := M) hx
          exact run_len hM (u := .int .i64 (l.length : Nat)) ⟨rfl, wf_nat (Nat.le_trans hs.1 hs.2.1)⟩ ho hts hxs e1 (by simp [Builtin.len_, run_underlying hu, goInt]) rfl
        · rename_i e hu he
          rw [he] at hx
          exact run_len hM (u := .int .i64 0) ⟨rfl, by decide⟩ ho hts hxs hx.1 (by simp [Builtin.len_, run_underlying hu, goInt]) rfl
        · exact hn.elim
      · exact hn.elim
    case min =>
      split at hn
      · rename_i k p k' q hxs; exact does_minmax hM ht ho hxs (.inl ⟨rfl, rfl⟩) hn
      · exact hn.elim
    case max =>
      split at hn
      · rename_i k p k' q hxs; exact does_minmax hM ht ho hxs (.inr ⟨rfl, rfl⟩) hn
      · exact hn.elim
  all_goals exact hn.elim
end
end Go.Proofs.Ytigakalkkaoflaa
