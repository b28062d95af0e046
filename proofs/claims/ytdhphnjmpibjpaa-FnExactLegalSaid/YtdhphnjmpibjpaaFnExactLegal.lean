/-
  The law FnExactLegal returns true, whatever the input, and leaves its arguments as they were.
  No condition.
-/
import Derived.Test.YtdhphnjmpibjpaaLegal
namespace Go.Proofs.Ytdhphnjmpibjpaa.lawFnExactLegal
open Go.ChangeShapes Go.WideShapes Go.ChangeAt Go.RowKit Go.Joins Go.Deep

set_option maxHeartbeats 400000 in
theorem walk (a0 : Int) (w0 : (Lit.int .i64 a0).wf = true) (a1 : Int) (w1 : (Lit.int .i64 a1).wf = true) (w : World) : Calls Try.prog 7 #[.int .i64 a0, .int .i64 a1] w (RV (.bool true) w) := by
  have _ := w0
  have _ := w1
  go_enter Try.func7, Try.ntmps7
  go_wp2_with (first | (go_at_call 22; refine (s_Legal _ _ _).mono ?_; rintro e _ ⟨rfl, E1, d1, rfl⟩) | (go_at_call 23; refine (i_Legal _ _ _).mono ?_; rintro e _ ⟨rfl, E2, d2, rfl⟩))
  go_ret
  exact RV.mk rfl (by repeat (first | exact Below.refl _ _ | refine bl_al ?_ _ | refine bl_ext ?_ _ _ | refine Below.drew ?_ | assumption | refine bl_tr ?_ (by assumption)))

set_option maxRecDepth 100000 in
theorem lifted (os : Os) (started : os.Started) (H : Type) (enc : TypeId × Value → H) :
    ReturnsInHanded {} Try.checked os 7 .any (Rows.fnExactLegalSpec.pre6 enc Try.prog Try.f7 Rows.fnExactLegalRow.domain false) (Rows.fnExactLegalSpec.post enc Try.prog Try.f7 false true false false) := by
  refine returnsInHanded_of_change (C := Try.checked) ownk started (by kernel_rfl) Try.func7
    (ChangeSpec.witness6 (enc := enc) (C := Try.checked) false ⟨#[], #[.int .i64 0, .int .i64 0], []⟩ 8 (by kernel_rfl) (by kernel_rfl) (by kernel_rfl) (by kernel_rfl)) ?_
  intro W base args ds gs before hval0 hW _ _
  have hval : ∀ (j : Nat) t v, Try.f7.params[j]? = some t → args[j]? = some v → Value.okWide Try.prog W .any base t v := hval0
  have hW' := hW
  obtain ⟨p, q, hA0, hV, rfl, hfz, _⟩ := hW
  have hA : DataW.TrodAll enc Try.prog W 0 (fun _ => true) true Try.f7.params.toList args.toList ds p := hA0
  rw [Try.params7] at hA hval
  obtain ⟨v0, vs0, d0, ds0, p0, q0, hargs, rfl, rfl, h0, r0⟩ := trodAll_cons hA
  obtain ⟨v1, vs1, d1, ds1, p1, q1, rfl, rfl, rfl, h1, r1⟩ := trodAll_cons r0
  obtain ⟨rfl, rfl, rfl⟩ := trodAll_nil r1
  obtain rfl : args = #[v0, v1] := by cases args; simp_all
  obtain ⟨a0, rfl, rfl, rfl, w0⟩ := open_int Try.underlying3 (hval 0 3 v0 rfl rfl) h0
  obtain ⟨a1, rfl, rfl, rfl, w1⟩ := open_int Try.underlying3 (hval 1 3 v1 rfl rfl) h1
  clear hA0 hval0
  refine (walk a0 w0 a1 w1 W).mono fun e W' h => ?_
  obtain ⟨he, hb⟩ := h.below
  subst he
  exact ⟨_, rfl, post_law laidOut (by kernel_rfl) rfl Try.underlying4 rfl rfl hW' hb⟩

theorem over : Rows.fnExactLegalRow.holds Try.pinned (OpenSpec.ofChange Rows.fnExactLegalSpec) :=
  OpenClaim.holds_of_wide 7 Try.f7 rfl rfl rfl rfl rfl rfl rfl ⟨rfl, rfl, rfl, rfl, rfl⟩ rfl rfl rfl rfl rfl (by kernel_rfl) Try.func7 (by kernel_rfl)
    (of_decide_eq_true (by kernel_rfl)) (by unfold Func.isWrapper; first | (rw [if_pos (by decide +kernel)]; kernel_rfl) | (rw [if_neg (by decide +kernel)]; exact ⟨rfl, rfl⟩))
    (fun os started H enc _ => lifted os started H enc)

theorem proved : Rows.FnExactLegalSaid := over
end Go.Proofs.Ytdhphnjmpibjpaa.lawFnExactLegal
