/-
  The law FnExactActOk returns true, whatever the input, and leaves its arguments as they were.
  No condition.
-/
import Derived.Test.YteepbpjgapmecaaRows
import Derived.Test.YteepbpjgapmecaaActs
import Derived.Test.YteepbpjgapmecaaTrod
namespace Go.Proofs.Yteepbpjgapmecaa.lawFnExactActOk
open Go.ChangeShapes Go.WideShapes Go.ChangeAt Go.RowKit Go.Joins Go.Deep
open GoRep (rep bulk)

theorem trod : TrodRep GAct Try.prog 23 :=
  trodRep_struct Try.underlying23 (by kernel_rfl) (fieldsRep_cons (trodRep_int Try.underlying3) rfl (by kernel_rfl) (fieldsRep_cons (trodRep_int Try.underlying3) rfl (by kernel_rfl) (fieldsRep_cons (trodRep_int Try.underlying3) rfl (by kernel_rfl) (fieldsRep_one (trodRep_str Try.underlying9) rfl (by kernel_rfl)))))
theorem core (k s n : Int) (t : ByteArray) (w : World) (ht : t.size ≤ 9223372036854775807) : Calls Try.prog 3 #[.agg #[.int .i64 k, .int .i64 s, .int .i64 n, .string t]] w (RV (.bool true) w) := by
  by_cases hc : 0 ≤ szT 1048576 t.size
  all_goals
    go_enter Try.func3, Try.ntmps3
    go_wp2_with (first | (go_at_call 15; refine (l_szAct k s n t _ _ (by omega) (by omega) ht).mono ?_; rintro e _ ⟨rfl, E1, d1, rfl⟩) | (go_at_call 17; refine (l_toAct k s n t _).mono ?_; rintro e _ ⟨rfl, E2, d2, rfl⟩) | (go_at_call 16; refine (s_ActOk k s n t _).mono ?_; rintro e _ ⟨rfl, E3, d3, rfl⟩) | (go_at_call 18; refine (i_ActOk k s n t _).mono ?_; rintro e _ ⟨rfl, E4, d4, rfl⟩))
    go_ret
    exact RV.mk rfl (by repeat (first | exact Below.refl _ _ | refine bl_al ?_ _ | refine bl_ext ?_ _ _ | refine Below.drew ?_ | assumption | refine bl_tr ?_ (by assumption)))
theorem walk (x : GAct) (cs : List Value) (F : List Nat) (w : World) (h : rep w x cs F) (w' : World) (hw : w = w') : Calls Try.prog 3 #[.agg cs.toArray] w' (RV (.bool true) w') := by
  subst hw
  obtain ⟨k, s, n, t⟩ := x
  obtain ⟨_, _, _, _, ⟨rfl, _, rfl⟩, ⟨_, _, _, _, ⟨rfl, _, rfl⟩, ⟨_, _, _, _, ⟨rfl, _, rfl⟩, ⟨rfl, ht, rfl⟩, rfl, rfl⟩, rfl, rfl⟩, rfl, rfl⟩ := h
  exact core k s n t w (by have h2 := ht; unfold maxLen at h2; exact (by omega : t.size ≤ 9223372036854775807))

set_option maxRecDepth 100000 in
theorem lifted (os : Os) (started : os.Started) (H : Type) (enc : TypeId × Value → H) :
    ReturnsInHanded {} Try.checked os 3 .any (Rows.fnExactActOkSpec.pre6 enc Try.prog Try.f3 Rows.fnExactActOkRow.domain false) (Rows.fnExactActOkSpec.post enc Try.prog Try.f3 false true false false) := by
  refine returnsInHanded_of_change (C := Try.checked) ownk started (by kernel_rfl) Try.func3
    (ChangeSpec.witness6 (enc := enc) (C := Try.checked) false ⟨#[], #[.agg #[.int .i64 0, .int .i64 0, .int .i64 0, .string ⟨#[]⟩]], []⟩ 8 (by kernel_rfl) (by kernel_rfl) (by kernel_rfl) (by kernel_rfl)) ?_
  intro W base args ds gs before hval0 hW _ _
  have hval : ∀ (j : Nat) t v, Try.f3.params[j]? = some t → args[j]? = some v → Value.okWide Try.prog W .any base t v := hval0
  have hW' := hW
  obtain ⟨p, q, hA0, hV, rfl, hfz, _⟩ := hW
  have hA : DataW.TrodAll enc Try.prog W 0 (fun _ => true) true Try.f3.params.toList args.toList ds p := hA0
  rw [Try.params3] at hA hval
  obtain ⟨v0, vs0, d0, ds0, p0, q0, hargs, rfl, rfl, h0, r0⟩ := trodAll_cons hA
  obtain ⟨rfl, rfl, rfl⟩ := trodAll_nil r0
  obtain rfl : args = #[v0] := by cases args; simp_all
  obtain ⟨⟨cs0⟩, rfl, _⟩ := okWide_struct Try.underlying23 (hval 0 23 v0 rfl rfl)
  obtain ⟨fuel0, hf0⟩ := h0
  obtain ⟨x0, F0, hr0⟩ : ∃ (x : GAct) (F : List Nat), rep W x _ F := trod H enc W fuel0 _ d0 p0 hf0 (fun b o hm => hfz b o (by simp [hm]))
  clear hA0 hval0
  refine (walk x0 _ F0 W hr0 W rfl).mono fun e W' h => ?_
  obtain ⟨he, hb⟩ := h.below
  subst he
  exact ⟨_, rfl, post_law laidOut (by kernel_rfl) rfl Try.underlying4 rfl rfl hW' hb⟩

set_option maxHeartbeats 8000000 in
theorem facts : joinedFacts Try.prog 3 Try.f3 Rows.fnExactActOkSpec Rows.fnExactActOkRow = true := by
  unfold joinedFacts
  repeat' (with_reducible refine Bool.and_eq_true_iff.mpr ⟨?_, ?_⟩)
  all_goals (as_aux_lemma => kernel_rfl)

theorem over : Rows.fnExactActOkRow.holds Try.pinned (OpenSpec.ofChange Rows.fnExactActOkSpec) :=
  OpenClaim.holds_of_wide 3 Try.f3 rfl rfl rfl rfl rfl rfl rfl ⟨rfl, rfl, rfl, rfl, rfl⟩ rfl rfl rfl rfl rfl (by as_aux_lemma => kernel_rfl) Try.func3 facts
    (of_decide_eq_true (by as_aux_lemma => kernel_rfl)) (by unfold Func.isWrapper; first | (rw [if_pos (by decide +kernel)]; kernel_rfl) | (rw [if_neg (by decide +kernel)]; exact ⟨rfl, rfl⟩))
    (fun os started H enc _ => lifted os started H enc)

theorem proved : Rows.FnExactActOkSaid := over
end Go.Proofs.Yteepbpjgapmecaa.lawFnExactActOk
