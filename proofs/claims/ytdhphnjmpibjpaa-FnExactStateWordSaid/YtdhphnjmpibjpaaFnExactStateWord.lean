/-
  The law FnExactStateWord returns true, whatever the input, and leaves its arguments as they were.
  No condition.
-/
import Derived.Test.YtdhphnjmpibjpaaWords
namespace Go.Proofs.Ytdhphnjmpibjpaa.lawFnExactStateWord
open Go.ChangeShapes Go.WideShapes Go.ChangeAt Go.RowKit Go.Joins Go.Deep

set_option maxHeartbeats 400000 in
theorem walk (a0 : Int) (w0 : (Lit.int .i64 a0).wf = true) (w : World) : Calls Try.prog 4 #[.int .i64 a0] w (RV (.bool true) w) := by
  have _ := w0
  go_enter Try.func4, Try.ntmps4
  go_wp2_with (first | (go_at_call 12; refine (s_StateWord _ _).mono ?_; rintro e _ ⟨rfl, hb⟩; obtain ⟨E1, d1, rfl⟩ := ext_of_below hb; clear hb) | (go_at_call 13; refine (i_StateWord _ _).mono ?_; rintro e _ ⟨rfl, hb⟩; obtain ⟨E2, d2, rfl⟩ := ext_of_below hb; clear hb))
  go_ret
  exact RV.mk rfl (by repeat (first | exact Below.refl _ _ | refine bl_al ?_ _ | refine bl_ext ?_ _ _ | refine Below.drew ?_ | assumption | refine bl_tr ?_ (by assumption)))

set_option maxRecDepth 100000 in
theorem lifted (os : Os) (started : os.Started) (H : Type) (enc : TypeId × Value → H) :
    ReturnsInHanded {} Try.checked os 4 .any (Rows.fnExactStateWordSpec.pre6 enc Try.prog Try.f4 Rows.fnExactStateWordRow.domain false) (Rows.fnExactStateWordSpec.post enc Try.prog Try.f4 false true false false) := by
  refine returnsInHanded_of_change (C := Try.checked) ownk started (by kernel_rfl) Try.func4
    (ChangeSpec.witness6 (enc := enc) (C := Try.checked) false ⟨#[], #[.int .i64 0], []⟩ 8 (by kernel_rfl) (by kernel_rfl) (by kernel_rfl) (by kernel_rfl)) ?_
  intro W base args ds gs before hval0 hW _ _
  have hval : ∀ (j : Nat) t v, Try.f4.params[j]? = some t → args[j]? = some v → Value.okWide Try.prog W .any base t v := hval0
  have hW' := hW
  obtain ⟨p, q, hA0, hV, rfl, hfz, _⟩ := hW
  have hA : DataW.TrodAll enc Try.prog W 0 (fun _ => true) true Try.f4.params.toList args.toList ds p := hA0
  rw [Try.params4] at hA hval
  obtain ⟨v0, vs0, d0, ds0, p0, q0, hargs, rfl, rfl, h0, r0⟩ := trodAll_cons hA
  obtain ⟨rfl, rfl, rfl⟩ := trodAll_nil r0
  obtain rfl : args = #[v0] := by cases args; simp_all
  obtain ⟨a0, rfl, rfl, rfl, w0⟩ := open_int Try.underlying3 (hval 0 3 v0 rfl rfl) h0
  clear hA0 hval0
  refine (walk a0 w0 W).mono fun e W' h => ?_
  obtain ⟨he, hb⟩ := h.below
  subst he
  exact ⟨_, rfl, post_law laidOut (by kernel_rfl) rfl Try.underlying4 rfl rfl hW' hb⟩

theorem over : Rows.fnExactStateWordRow.holds Try.pinned (OpenSpec.ofChange Rows.fnExactStateWordSpec) :=
  OpenClaim.holds_of_wide 4 Try.f4 rfl rfl rfl rfl rfl rfl rfl ⟨rfl, rfl, rfl, rfl, rfl⟩ rfl rfl rfl rfl rfl (by kernel_rfl) Try.func4 (by kernel_rfl)
    (of_decide_eq_true (by kernel_rfl)) (by unfold Func.isWrapper; first | (rw [if_pos (by decide +kernel)]; kernel_rfl) | (rw [if_neg (by decide +kernel)]; exact ⟨rfl, rfl⟩))
    (fun os started H enc _ => lifted os started H enc)

theorem proved : Rows.FnExactStateWordSaid := over
end Go.Proofs.Ytdhphnjmpibjpaa.lawFnExactStateWord
