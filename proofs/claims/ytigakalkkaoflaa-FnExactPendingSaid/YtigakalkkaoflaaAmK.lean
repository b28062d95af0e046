/-
  Regions, code, functions: the abstract condition gives the model's.
  Plain: no program. No condition.
-/
import Derived.Test.YtigakalkkaoflaaAmJ
set_option linter.unusedSimpArgs false
set_option linter.unusedVariables false
namespace Go.Proofs.Ytigakalkkaoflaa
open Go.ChangeShapes Go.WideShapes Go.ChangeAt Go.RowKit Go.Joins Go.Deep
open GoRep (rep bulk)

section
variable {P : Program} {X : List Nat} {W : World} {E : Env} {M : Mem} {a : Act} {tm : List AV} {o : Oper} {T : Tab P}
/-- the frame and the world stand for the abstract state -/
structure RepA (X : List Nat) (tm : List AV) (M : Mem) (a : Act) (W : World) (E : Env) : Prop where
  mem : RepM X W E M
  tmps : RepT X W E M tm a.tmps.toList
  dfr : a.defers = []
theorem wpList_one {all : List Oper} {os : List Oper} {Q : Exit → Act → World → Prop} (hw : Region.wanted o (yielded all.toArray a.tmps) = true) (h : o.wp P a W (wpList P all.toArray Q os) Q) : wpList P all.toArray Q (o :: os) a W := by
  unfold wpList
  rw [if_pos hw]
  exact .inl h
theorem wpList_skip {all : List Oper} {os : List Oper} {Q : Exit → Act → World → Prop} (hw : Region.wanted o (yielded all.toArray a.tmps) = false) (h : wpList P all.toArray Q os (a.put o.dst undef) W) : wpList P all.toArray Q (o :: os) a W := by
  unfold wpList
  rw [if_neg (by rw [hw]; exact Bool.false_ne_true)]
  exact h
theorem undefA_rep : RepV X W E M undefA undef := ⟨[], rfl, rfl⟩
theorem RepA.skip (h : RepA X tm M a W E) (dst : Option Tmp) : RepA X (putA tm dst undefA) M (a.put dst undef) W E := ⟨h.mem, putA_rep h.tmps undefA_rep, by rw [put_defers]; exact h.dfr⟩
theorem RepA.lit {d : Nat} {g : Bool} (h : RepA X tm M a W E) (hg : tm.getD d .any = .w (.c (.bool g))) : RepA X (tm.set d (.c (.bool g))) M a W E := by
  rw [set_same hg (by simp)]
  exact h
theorem vcOps_sound {all : List Oper} {Q : Exit → Act → World → Prop} {W0 : World} (hT : TabOk X W0 T) {K : List AV → Mem → Prop} (hK : ∀ tm M a W E, K tm M → RepA X tm M a W E → Grow W0 [] W E → Q .normal a W) :
    ∀ (os : List Oper) (tm : List AV) (M : Mem) (a : Act) (W : World) (E : Env), vcOps T all os tm M K → RepA X tm M a W E → Grow W0 [] W E → wpList P all.toArray Q os a W
  | [], tm, M, a, W, E, h, hr, hg => hK tm M a W E h hr hg
  | o :: os, tm, M, a, W, E, h, hr, hg => by
    have run : ∀ (tm : List AV), RepA X tm M a W E → Region.wanted o (yielded all.toArray a.tmps) = true → (stepA T tm M o).need ∧ vcOps T all os (putA tm o.dst (stepA T tm M o).val) (stepA T tm M o).mem K → wpList P all.toArray Q (o :: os) a W := fun tm hr hw h => by
      refine wpList_one hw (stepA_sound hT hg hr.mem hr.tmps h.1 _ _ fun u W' E' g m r hv => ?_)
      exact vcOps_sound hT hK os _ _ _ W' E' h.2 ⟨r, putA_rep (hr.tmps.mono g m) hv, by rw [put_defers]; exact hr.dfr⟩ (hg.trans g)
    unfold vcOps at h
    cases hgd : o.guard with
    | none =>
      rw [hgd] at h
      exact run tm hr (by unfold Region.wanted; rw [hgd]) h
    | some jw =>
      obtain ⟨j, want⟩ := jw
      rw [hgd] at h
      simp only at h
      cases hd : (all[j]?).bind (·.dst) with
      | none => rw [hd] at h; exact h.elim
      | some d =>
        rw [hd] at h
        simp only at h
        have wnt : ∀ g, yielded all.toArray a.tmps j = some g → Region.wanted o (yielded all.toArray a.tmps) = (g == want) := fun g hy => by
          unfold Region.wanted
          rw [hgd]
          show (yielded all.toArray a.tmps j == some want) = _
          rw [hy]
          cases g <;> cases want <;> rfl
        split at h
        · rename_i g hq
          have hy := yielded_of hd hr.tmps hq
          have hl := hr.lit hq
          cases want with
          | true =>
            simp only at h
            cases g with
            | true => exact run _ hl (by rw [wnt _ hy]; rfl) h
            | false => exact wpList_skip (by rw [wnt _ hy]; rfl) (vcOps_sound hT hK os _ _ _ W E h (hl.skip _) hg)
          | false =>
            simp only at h
            cases g with
            | true => exact wpList_skip (by rw [wnt _ hy]; rfl) (vcOps_sound hT hK os _ _ _ W E h (hl.skip _) hg)
            | false => exact run _ hl (by rw [wnt _ hy]; rfl) h
        · exact h.elim
        · exact h.elim
        · exact h.elim
        · rename_i h1 h2 h3 h4
          have hy := yielded_not hd hr.tmps rfl h1 h2 h3 h4
          refine wpList_skip ?_ (vcOps_sound hT hK os _ _ _ W E h (hr.skip _) hg)
          unfold Region.wanted
          rw [hgd]
          show (yielded all.toArray a.tmps j == some want) = false
          rw [hy]
          rfl
end
end Go.Proofs.Ytigakalkkaoflaa
