/-
  The law FnExactDrained returns true, whatever the input, and leaves its arguments as they were.
  No condition.
-/
import Derived.Test.YtdhphnjmpibjpaaInOut
import Derived.Test.YtdhphnjmpibjpaaTrod
namespace Go.Proofs.Ytdhphnjmpibjpaa.lawFnExactDrained
open Go.ChangeShapes Go.WideShapes Go.ChangeAt Go.RowKit Go.Joins Go.Deep
open GoRep (rep bulk)

theorem trod : TrodRep (ByteArray × ByteArray) Try.prog 32 :=
  trodRep_struct Try.underlying32 (by kernel_rfl) (fieldsRep_cons (trodRep_str Try.underlying9) rfl (by kernel_rfl) (fieldsRep_one (trodRep_str Try.underlying9) rfl (by kernel_rfl)))
set_option maxHeartbeats 400000 in
theorem walk {w : World} (x : ByteArray × ByteArray) (cs : List Value) (F : List Nat) (h : rep w x cs F) (a1 : Int) (w1 : (Lit.int .i64 a1).wf = true) (w' : World) (hw : w = w') : Calls Try.prog 9 #[.agg cs.toArray, .int .i64 a1] w' (RV (.bool true) w') := by
  subst hw
  obtain ⟨t, s⟩ := x
  obtain ⟨_, _, _, _, ⟨rfl, ht, rfl⟩, ⟨rfl, hs, rfl⟩, rfl, rfl⟩ := h
  change Calls Try.prog 9 #[.agg #[.string t, .string s], .int .i64 a1] w (RV (.bool true) w)
  have _ := w1
  have h1 := szT_le (n := 1048576) (t.size + s.size) (by omega)
  unfold maxLen at ht
  unfold maxLen at hs
  by_cases hc : 0 ≤ szT 1048576 (t.size + s.size)
  all_goals
    go_enter Try.func9, Try.ntmps9
    go_wp2_with (first | (go_at_call 18; refine (l_szOut t s _ _ (by omega) (by omega) (by omega) (by omega)).mono ?_; rintro e _ ⟨rfl, E1, d1, rfl⟩) | (go_at_call 20; refine (l_toOut _ _ _).mono ?_; rintro e _ ⟨rfl, E2, d2, rfl⟩) | (go_at_call 27; refine (s_Drained _ _ _ _ (by omega) (by omega)).mono ?_; rintro e _ ⟨rfl, E3, d3, rfl⟩) | (go_at_call 28; refine (i_Drained _ _ _ _ (by omega) (by omega)).mono ?_; rintro e _ ⟨rfl, E4, d4, rfl⟩) | (go_at_call 29; refine (l_eqOut _ _ _).mono ?_; rintro e _ ⟨rfl, E5, d5, rfl⟩))
    go_ret
    exact RV.mk rfl (by repeat (first | exact Below.refl _ _ | refine bl_al ?_ _ | refine bl_ext ?_ _ _ | refine Below.drew ?_ | assumption | refine bl_tr ?_ (by assumption)))

set_option maxRecDepth 100000 in
theorem lifted (os : Os) (started : os.Started) (H : Type) (enc : TypeId × Value → H) :
    ReturnsInHanded {} Try.checked os 9 .any (Rows.fnExactDrainedSpec.pre6 enc Try.prog Try.f9 Rows.fnExactDrainedRow.domain false) (Rows.fnExactDrainedSpec.post enc Try.prog Try.f9 false true false false) := by
  refine returnsInHanded_of_change (C := Try.checked) ownk started (by kernel_rfl) Try.func9
    (ChangeSpec.witness6 (enc := enc) (C := Try.checked) false ⟨#[], #[.agg #[.string ⟨#[]⟩, .string ⟨#[]⟩], .int .i64 0], []⟩ 8 (by kernel_rfl) (by kernel_rfl) (by kernel_rfl) (by kernel_rfl)) ?_
  intro W base args ds gs before hval0 hW _ _
  have hval : ∀ (j : Nat) t v, Try.f9.params[j]? = some t → args[j]? = some v → Value.okWide Try.prog W .any base t v := hval0
  have hW' := hW
  obtain ⟨p, q, hA0, hV, rfl, hfz, _⟩ := hW
  have hA : DataW.TrodAll enc Try.prog W 0 (fun _ => true) true Try.f9.params.toList args.toList ds p := hA0
  rw [Try.params9] at hA hval
  obtain ⟨v0, vs0, d0, ds0, p0, q0, hargs, rfl, rfl, h0, r0⟩ := trodAll_cons hA
  obtain ⟨v1, vs1, d1, ds1, p1, q1, rfl, rfl, rfl, h1, r1⟩ := trodAll_cons r0
  obtain ⟨rfl, rfl, rfl⟩ := trodAll_nil r1
  obtain rfl : args = #[v0, v1] := by cases args; simp_all
  obtain ⟨⟨cs0⟩, rfl, _⟩ := okWide_struct Try.underlying32 (hval 0 32 v0 rfl rfl)
  obtain ⟨fuel0, hf0⟩ := h0
  obtain ⟨x0, F0, hr0⟩ : ∃ (x : ByteArray × ByteArray) (F : List Nat), rep W x _ F := trod H enc W fuel0 _ d0 p0 hf0 (fun b o hm => hfz b o (by simp [hm]))
  obtain ⟨a1, rfl, rfl, rfl, w1⟩ := open_int Try.underlying3 (hval 1 3 v1 rfl rfl) h1
  clear hA0 hval0
  refine (walk x0 _ F0 hr0 a1 w1 W rfl).mono fun e W' h => ?_
  obtain ⟨he, hb⟩ := h.below
  subst he
  exact ⟨_, rfl, post_law laidOut (by kernel_rfl) rfl Try.underlying4 rfl rfl hW' hb⟩

theorem over : Rows.fnExactDrainedRow.holds Try.pinned (OpenSpec.ofChange Rows.fnExactDrainedSpec) :=
  OpenClaim.holds_of_wide 9 Try.f9 rfl rfl rfl rfl rfl rfl rfl ⟨rfl, rfl, rfl, rfl, rfl⟩ rfl rfl rfl rfl rfl (by kernel_rfl) Try.func9 (by kernel_rfl)
    (of_decide_eq_true (by kernel_rfl)) (by unfold Func.isWrapper; first | (rw [if_pos (by decide +kernel)]; kernel_rfl) | (rw [if_neg (by decide +kernel)]; exact ⟨rfl, rfl⟩))
    (fun os started H enc _ => lifted os started H enc)

theorem proved : Rows.FnExactDrainedSaid := over
end Go.Proofs.Ytdhphnjmpibjpaa.lawFnExactDrained
