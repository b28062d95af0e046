/-
  The law FnExactOutOk returns true, whatever the input, and leaves its arguments as they were.
  No condition.
-/
import Derived.Test.YtdhphnjmpibjpaaInOut
import Derived.Test.YtdhphnjmpibjpaaTrod
namespace Go.Proofs.Ytdhphnjmpibjpaa.lawFnExactOutOk
open Go.ChangeShapes Go.WideShapes Go.ChangeAt Go.RowKit Go.Joins Go.Deep
open GoRep (rep bulk)

theorem trod : TrodRep (ByteArray × ByteArray) Try.prog 32 :=
  trodRep_struct Try.underlying32 (by kernel_rfl) (fieldsRep_cons (trodRep_str Try.underlying9) rfl (by kernel_rfl) (fieldsRep_one (trodRep_str Try.underlying9) rfl (by kernel_rfl)))
set_option maxHeartbeats 400000 in
theorem walk {w : World} (x : ByteArray × ByteArray) (cs : List Value) (F : List Nat) (h : rep w x cs F) (w' : World) (hw : w = w') : Calls Try.prog 6 #[.agg cs.toArray] w' (RV (.bool true) w') := by
  subst hw
  obtain ⟨t, s⟩ := x
  obtain ⟨_, _, _, _, ⟨rfl, ht, rfl⟩, ⟨rfl, hs, rfl⟩, rfl, rfl⟩ := h
  change Calls Try.prog 6 #[.agg #[.string t, .string s]] w (RV (.bool true) w)
  have h1 := szT_le (n := 1048576) (t.size + s.size) (by omega)
  unfold maxLen at ht
  unfold maxLen at hs
  by_cases hc : 0 ≤ szT 1048576 (t.size + s.size)
  all_goals
    go_enter Try.func6, Try.ntmps6
    go_wp2_with (first | (go_at_call 18; refine (l_szOut t s _ _ (by omega) (by omega) (by omega) (by omega)).mono ?_; rintro e _ ⟨rfl, E1, d1, rfl⟩) | (go_at_call 20; refine (l_toOut _ _ _).mono ?_; rintro e _ ⟨rfl, E2, d2, rfl⟩) | (go_at_call 19; refine (s_OutOk _ _ _).mono ?_; rintro e _ ⟨rfl, E3, d3, rfl⟩) | (go_at_call 21; refine (i_OutOk _ _ _).mono ?_; rintro e _ ⟨rfl, E4, d4, rfl⟩))
    go_ret
    exact RV.mk rfl (by repeat (first | exact Below.refl _ _ | refine bl_al ?_ _ | refine bl_ext ?_ _ _ | refine Below.drew ?_ | assumption | refine bl_tr ?_ (by assumption)))

set_option maxRecDepth 100000 in
theorem lifted (os : Os) (started : os.Started) (H : Type) (enc : TypeId × Value → H) :
    ReturnsInHanded {} Try.checked os 6 .any (Rows.fnExactOutOkSpec.pre6 enc Try.prog Try.f6 Rows.fnExactOutOkRow.domain false) (Rows.fnExactOutOkSpec.post enc Try.prog Try.f6 false true false false) := by
  refine returnsInHanded_of_change (C := Try.checked) ownk started (by kernel_rfl) Try.func6
    (ChangeSpec.witness6 (enc := enc) (C := Try.checked) false ⟨#[], #[.agg #[.string ⟨#[]⟩, .string ⟨#[]⟩]], []⟩ 8 (by kernel_rfl) (by kernel_rfl) (by kernel_rfl) (by kernel_rfl)) ?_
  intro W base args ds gs before hval0 hW _ _
  have hval : ∀ (j : Nat) t v, Try.f6.params[j]? = some t → args[j]? = some v → Value.okWide Try.prog W .any base t v := hval0
  have hW' := hW
  obtain ⟨p, q, hA0, hV, rfl, hfz, _⟩ := hW
  have hA : DataW.TrodAll enc Try.prog W 0 (fun _ => true) true Try.f6.params.toList args.toList ds p := hA0
  rw [Try.params6] at hA hval
  obtain ⟨v0, vs0, d0, ds0, p0, q0, hargs, rfl, rfl, h0, r0⟩ := trodAll_cons hA
  obtain ⟨rfl, rfl, rfl⟩ := trodAll_nil r0
  obtain rfl : args = #[v0] := by cases args; simp_all
  obtain ⟨⟨cs0⟩, rfl, _⟩ := okWide_struct Try.underlying32 (hval 0 32 v0 rfl rfl)
  obtain ⟨fuel0, hf0⟩ := h0
  obtain ⟨x0, F0, hr0⟩ : ∃ (x : ByteArray × ByteArray) (F : List Nat), rep W x _ F := trod H enc W fuel0 _ d0 p0 hf0 (fun b o hm => hfz b o (by simp [hm]))
  clear hA0 hval0
  refine (walk x0 _ F0 hr0 W rfl).mono fun e W' h => ?_
  obtain ⟨he, hb⟩ := h.below
  subst he
  exact ⟨_, rfl, post_law laidOut (by kernel_rfl) rfl Try.underlying4 rfl rfl hW' hb⟩

theorem over : Rows.fnExactOutOkRow.holds Try.pinned (OpenSpec.ofChange Rows.fnExactOutOkSpec) :=
  OpenClaim.holds_of_wide 6 Try.f6 rfl rfl rfl rfl rfl rfl rfl ⟨rfl, rfl, rfl, rfl, rfl⟩ rfl rfl rfl rfl rfl (by kernel_rfl) Try.func6 (by kernel_rfl)
    (of_decide_eq_true (by kernel_rfl)) (by unfold Func.isWrapper; first | (rw [if_pos (by decide +kernel)]; kernel_rfl) | (rw [if_neg (by decide +kernel)]; exact ⟨rfl, rfl⟩))
    (fun os started H enc _ => lifted os started H enc)

theorem proved : Rows.FnExactOutOkSaid := over
end Go.Proofs.Ytdhphnjmpibjpaa.lawFnExactOutOk
