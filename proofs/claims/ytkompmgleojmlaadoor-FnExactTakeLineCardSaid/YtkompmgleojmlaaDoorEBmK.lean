/-
  Regions, code, functions: the abstract condition gives the model's.
  Plain: no program. No condition.
-/
import Derived.Test.YtkompmgleojmlaaDoorEBmJ
import Derived.Laws.Cover3
set_option linter.unusedSimpArgs false
set_option linter.unusedVariables false
namespace Go.Proofs.YtkompmgleojmlaaDoor
open Go.ChangeShapes Go.WideShapes Go.ChangeAt Go.RowKit Go.Joins Go.Deep
open GoRep (rep bulk)

section
variable {P : Program} {X : List Nat} {W : World} {E : Env} {M : Mem} {a : Act} {tm : List AV} {o : Oper} {T : Tab P}
/-- the frame and the world stand for the abstract state -/
structure RepA (X : List Nat) (tm : List AV) (M : Mem) (a : Act) (W : World) (E : Env) : Prop where
  mem : RepM X W E M
  tmps : RepT X W E M tm a.tmps.toList
  dfr : a.defers = []
theorem wpList_one {all : List Oper} {os : List Oper} {Q : Exit → Act → World → Prop} (hw : Region.wanted o (yielded all.toArray a.tmps) = true) (h : o.wp P a W (wpList P all.toArray Q os) Q) : wpList P all.toArray Q (o :: os) a W := by
  unfold wpList
  rw [if_pos hw]
  exact .inl h
theorem wpList_skip {all : List Oper} {os : List Oper} {Q : Exit → Act → World → Prop} (hw : Region.wanted o (yielded all.toArray a.tmps) = false) (h : wpList P all.toArray Q os (a.put o.dst undef) W) : wpList P all.toArray Q (o :: os) a W := by
  unfold wpList
  rw [if_neg (by rw [hw]; exact Bool.false_ne_true)]
  exact h
theorem undefA_rep : RepV X W E M undefA undef := ⟨[], rfl, rfl⟩
theorem RepA.skip (h : RepA X tm M a W E) (dst : Option Tmp) : RepA X (putA tm dst undefA) M (a.put dst undef) W E := ⟨h.mem, putA_rep h.tmps undefA_rep, by rw [put_defers]; exact h.dfr⟩
theorem RepA.lit {d : Nat} {g : Bool} (h : RepA X tm M a W E) (hg : tm.getD d .any = .w (.c (.bool g))) : RepA X (tm.set d (.c (.bool g))) M a W E := by
  rw [set_same hg (by simp)]
  exact h
theorem nilQ_run {q : Bool → Prop} (hM : RepM X W E M) (ht : RepT X W E M tm a.tmps.toList) (h : nilQ P tm M o = some q) : ∃ b : Bool, (execOp a.eval o).run P W = .ok (.value (.bool b)) W ∧ q b := by
  unfold nilQ at h
  split at h
  · rename_i op t x yt ho
    split at h
    · rename_i e c hu hx
      split at h
      · rename_i L r hr
        have hp := evalA_rep (M := M) (W := W) (E := E) ht x
        rw [hx] at hp
        obtain ⟨A, cap, F, hv, hs, _⟩ := read_of hM hr hp
        have hn : A.isNone = true → r.xs.length = 0 := fun hA => by
          rcases hs.2.2 with ⟨h1, _⟩ | ⟨_, b, off, G, h1, _⟩
          · rw [h1]; rfl
          · rw [h1] at hA; cases hA
        have hg : ∀ op, (eqGuard op t x (.const (.slice none 0 0)) (.slice A r.xs.length cap) (.slice none 0 0)).run P W = .ok () W := fun op => by
          unfold eqGuard
          cases op <;> rfl
        have he : a.eval (.const (.slice none 0 0)) = .slice none 0 0 := rfl
        split at h
        · obtain rfl := Option.some.inj h
          refine ⟨A.isNone, ?_, hn⟩
          unfold execOp
          simp only [ho, hv, he, Sem.run_bind, hg, Result.andThen_ok, binOp, run_equal_slice_nil W t e A _ _ hu, Sem.run_pure]
        · obtain rfl := Option.some.inj h
          refine ⟨!A.isNone, ?_, fun hb => hn (by simpa using hb)⟩
          unfold execOp
          simp only [ho, hv, he, Sem.run_bind, hg, Result.andThen_ok, binOp, run_equal_slice_nil W t e A _ _ hu, Sem.run_pure]
        · cases h
      · cases h
    · cases h
  · cases h
/-- from the function's beginning on: the world grew, the rows written in place have their value as long as their version is 0 -/
structure Since (T : Tab P) (W0 : World) (E0 : Env) (W : World) (E : Env) (M : Mem) : Prop where
  g : Grow W0 E0 W E
  kept : ∀ i ∈ T.inp, M[i]? = some .dead ∨ ∃ (t : Ty) (xs : List t.den) (v c : Nat) (hh : Option (Nat × Nat × Nat)), M[i]? = some (.row t xs v c hh) ∧ (v = 0 → ∀ e0, E0[i]? = some e0 → ∃ e, E[i]? = some e ∧ e.val = e0.val)
theorem Since.step {W0 W' : World} {E0 E' : Env} {M' : Mem} (h : Since T W0 E0 W E M) (g : Grow W E W' E') (m : MemOk W E M W' E' M') : Since T W0 E0 W' E' M' := by
  refine ⟨h.g.trans g, fun i hi => ?_⟩
  have hm := m i
  rcases h.kept i hi with hd | ⟨t, xs, v, c, hh, h1, h2⟩
  · rw [hd] at hm; exact .inl hm
  · rw [h1] at hm
    rcases hm with hd | ⟨xs', v', c', hh', h3, h4, h5⟩
    · exact .inl hd
    · refine .inr ⟨t, xs', v', c', hh', h3, fun hv e0 he0 => ?_⟩
      obtain ⟨e, q1, q2⟩ := h2 (by omega) e0 he0
      obtain ⟨e', r1, r2, _⟩ := h5 (by omega) e q1
      exact ⟨e', r1, r2.trans q2⟩
theorem vcOps_sound {all : List Oper} {Q : Exit → Act → World → Prop} {W0 : World} {E0 : Env} (hT : TabOk X W0 E0 T) {K : List AV → Mem → Prop} (hK : ∀ tm M a W E, K tm M → RepA X tm M a W E → Since T W0 E0 W E M → Q .normal a W) :
    ∀ (os : List Oper) (tm : List AV) (M : Mem) (a : Act) (W : World) (E : Env), vcOps T all os tm M K → RepA X tm M a W E → Since T W0 E0 W E M → wpList P all.toArray Q os a W
  | [], tm, M, a, W, E, h, hr, hg => hK tm M a W E h hr hg
  | o :: os, tm, M, a, W, E, h, hr, hg => by
    have run : ∀ (tm : List AV), RepA X tm M a W E → Region.wanted o (yielded all.toArray a.tmps) = true → andR (stepA T tm M o) (genG o M (stepA T tm M o).mem (fun M' => vcOps T all os (putA tm o.dst (stepA T tm M o).val) M' K)) → wpList P all.toArray Q (o :: os) a W := fun tm hr hw h => by
      have h := andR_elim h
      refine wpList_one hw (stepA_sound hT hg.g hr.mem hr.tmps h.1 _ _ fun u W' E' g m r hv => ?_)
      exact vcOps_sound hT hK os _ _ _ W' E' (genG_elim h.2) ⟨r, putA_rep (hr.tmps.mono g m hr.mem.len) hv, by rw [put_defers]; exact hr.dfr⟩ (hg.step g m)
    unfold vcOps at h
    cases hgd : o.guard with
    | none =>
      rw [hgd] at h
      simp only at h
      split at h
      · rename_i q hq
        obtain ⟨b, h1, h2⟩ := nilQ_run hr.mem hr.tmps hq
        refine wpList_one (by unfold Region.wanted; rw [hgd]) ?_
        unfold Oper.wp
        rw [h1]
        exact vcOps_sound hT hK os _ _ _ W E (h b h2) ⟨hr.mem, putA_rep hr.tmps rfl, by rw [put_defers]; exact hr.dfr⟩ hg
      · exact run tm hr (by unfold Region.wanted; rw [hgd]) h
    | some jw =>
      obtain ⟨j, want⟩ := jw
      rw [hgd] at h
      simp only at h
      cases hd : (all[j]?).bind (·.dst) with
      | none => rw [hd] at h; exact h.elim
      | some d =>
        rw [hd] at h
        simp only at h
        have wnt : ∀ g, yielded all.toArray a.tmps j = some g → Region.wanted o (yielded all.toArray a.tmps) = (g == want) := fun g hy => by
          unfold Region.wanted
          rw [hgd]
          show (yielded all.toArray a.tmps j == some want) = _
          rw [hy]
          cases g <;> cases want <;> rfl
        split at h
        · rename_i g hq
          have hy := yielded_of hd hr.tmps hq
          have hl := hr.lit hq
          cases want with
          | true =>
            simp only at h
            cases g with
            | true => exact run _ hl (by rw [wnt _ hy]; rfl) h
            | false => exact wpList_skip (by rw [wnt _ hy]; rfl) (vcOps_sound hT hK os _ _ _ W E h (hl.skip _) hg)
          | false =>
            simp only at h
            cases g with
            | true => exact wpList_skip (by rw [wnt _ hy]; rfl) (vcOps_sound hT hK os _ _ _ W E h (hl.skip _) hg)
            | false => exact run _ hl (by rw [wnt _ hy]; rfl) h
        · rename_i l hq
          have hy := yielded_tp hd hr.tmps hq
          refine wpList_skip ?_ (vcOps_sound hT hK os _ _ _ W E h (hr.skip _) hg)
          unfold Region.wanted
          rw [hgd]
          show (yielded all.toArray a.tmps j == some want) = false
          rw [hy]
          rfl
        · exact h.elim
end
end Go.Proofs.YtkompmgleojmlaaDoor
