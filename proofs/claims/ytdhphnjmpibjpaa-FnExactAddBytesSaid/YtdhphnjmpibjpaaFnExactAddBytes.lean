/-
  The law FnExactAddBytes returns true, whatever the input, and leaves its arguments as they were.
  No condition.
-/
import Derived.Test.YtdhphnjmpibjpaaInOut
import Derived.Test.YtdhphnjmpibjpaaTrod
namespace Go.Proofs.Ytdhphnjmpibjpaa.lawFnExactAddBytes
open Go.ChangeShapes Go.WideShapes Go.ChangeAt Go.RowKit Go.Joins Go.Deep
open GoRep (rep bulk)
open Go.ChangeMaps (open_string)

theorem trod : TrodRep (ByteArray × Bool) Try.prog 25 :=
  trodRep_struct Try.underlying25 (by kernel_rfl) (fieldsRep_cons (trodRep_str Try.underlying9) rfl (by kernel_rfl) (fieldsRep_one (trodRep_bool Try.underlying4) rfl (by kernel_rfl)))
set_option maxHeartbeats 400000 in
theorem walk {w : World} (x : ByteArray × Bool) (cs : List Value) (F : List Nat) (h : rep w x cs F) (a1 : ByteArray) (w1 : a1.size ≤ maxLen) (w' : World) (hw : w = w') : Calls Try.prog 8 #[.agg cs.toArray, .string a1] w' (RV (.bool true) w') := by
  subst hw
  obtain ⟨t, b⟩ := x
  obtain ⟨_, _, _, _, ⟨rfl, ht, rfl⟩, ⟨rfl, rfl⟩, rfl, rfl⟩ := h
  change Calls Try.prog 8 #[.agg #[.string t, .bool b], .string a1] w (RV (.bool true) w)
  have _ := w1
  by_cases hbig : a1.size ≤ 1048576
  · have h1 := szT_le (n := 1048576) (t.size) (by omega)
    unfold maxLen at ht
    by_cases hc : 0 ≤ szT 1048576 (t.size)
    all_goals
      go_enter Try.func8, Try.ntmps8
      go_wp2_with (first | (go_at_call 14; refine (l_szIn t b _ _ (by omega) (by omega) (by omega)).mono ?_; rintro e _ ⟨rfl, E1, d1, rfl⟩) | (go_at_call 16; refine (l_toIn _ _ _).mono ?_; rintro e _ ⟨rfl, E2, d2, rfl⟩) | (go_at_call 24; refine (s_AddBytes _ _ _ _ (by omega)).mono ?_; rintro e _ ⟨rfl, E3, d3, rfl⟩) | (go_at_call 25; refine (i_AddBytes _ _ _ _ (by omega)).mono ?_; rintro e _ ⟨rfl, E4, d4, rfl⟩) | (go_at_call 26; refine (l_eqIn _ _ _).mono ?_; rintro e _ ⟨rfl, E5, d5, rfl⟩))
      go_ret
      exact RV.mk rfl (by repeat (first | exact Below.refl _ _ | refine bl_al ?_ _ | refine bl_ext ?_ _ _ | refine Below.drew ?_ | assumption | refine bl_tr ?_ (by assumption)))
  · go_enter Try.func8, Try.ntmps8
    go_wp2
    go_ret
    exact RV.mk rfl (by repeat (first | exact Below.refl _ _ | refine bl_al ?_ _ | refine bl_ext ?_ _ _ | refine Below.drew ?_ | assumption | refine bl_tr ?_ (by assumption)))

set_option maxRecDepth 100000 in
theorem lifted (os : Os) (started : os.Started) (H : Type) (enc : TypeId × Value → H) :
    ReturnsInHanded {} Try.checked os 8 .any (Rows.fnExactAddBytesSpec.pre6 enc Try.prog Try.f8 Rows.fnExactAddBytesRow.domain false) (Rows.fnExactAddBytesSpec.post enc Try.prog Try.f8 false true false false) := by
  refine returnsInHanded_of_change (C := Try.checked) ownk started (by kernel_rfl) Try.func8
    (ChangeSpec.witness6 (enc := enc) (C := Try.checked) false ⟨#[], #[.agg #[.string ⟨#[]⟩, .bool false], .string ⟨#[]⟩], []⟩ 8 (by kernel_rfl) (by kernel_rfl) (by kernel_rfl) (by kernel_rfl)) ?_
  intro W base args ds gs before hval0 hW _ _
  have hval : ∀ (j : Nat) t v, Try.f8.params[j]? = some t → args[j]? = some v → Value.okWide Try.prog W .any base t v := hval0
  have hW' := hW
  obtain ⟨p, q, hA0, hV, rfl, hfz, _⟩ := hW
  have hA : DataW.TrodAll enc Try.prog W 0 (fun _ => true) true Try.f8.params.toList args.toList ds p := hA0
  rw [Try.params8] at hA hval
  obtain ⟨v0, vs0, d0, ds0, p0, q0, hargs, rfl, rfl, h0, r0⟩ := trodAll_cons hA
  obtain ⟨v1, vs1, d1, ds1, p1, q1, rfl, rfl, rfl, h1, r1⟩ := trodAll_cons r0
  obtain ⟨rfl, rfl, rfl⟩ := trodAll_nil r1
  obtain rfl : args = #[v0, v1] := by cases args; simp_all
  obtain ⟨⟨cs0⟩, rfl, _⟩ := okWide_struct Try.underlying25 (hval 0 25 v0 rfl rfl)
  obtain ⟨fuel0, hf0⟩ := h0
  obtain ⟨x0, F0, hr0⟩ : ∃ (x : ByteArray × Bool) (F : List Nat), rep W x _ F := trod H enc W fuel0 _ d0 p0 hf0 (fun b o hm => hfz b o (by simp [hm]))
  obtain ⟨a1, rfl, rfl, rfl, w1⟩ := open_string Try.underlying9 (hval 1 9 v1 rfl rfl) h1
  clear hA0 hval0
  refine (walk x0 _ F0 hr0 a1 w1 W rfl).mono fun e W' h => ?_
  obtain ⟨he, hb⟩ := h.below
  subst he
  exact ⟨_, rfl, post_law laidOut (by kernel_rfl) rfl Try.underlying4 rfl rfl hW' hb⟩

theorem over : Rows.fnExactAddBytesRow.holds Try.pinned (OpenSpec.ofChange Rows.fnExactAddBytesSpec) :=
  OpenClaim.holds_of_wide 8 Try.f8 rfl rfl rfl rfl rfl rfl rfl ⟨rfl, rfl, rfl, rfl, rfl⟩ rfl rfl rfl rfl rfl (by kernel_rfl) Try.func8 (by kernel_rfl)
    (of_decide_eq_true (by kernel_rfl)) (by unfold Func.isWrapper; first | (rw [if_pos (by decide +kernel)]; kernel_rfl) | (rw [if_neg (by decide +kernel)]; exact ⟨rfl, rfl⟩))
    (fun os started H enc _ => lifted os started H enc)

theorem proved : Rows.FnExactAddBytesSaid := over
end Go.Proofs.Ytdhphnjmpibjpaa.lawFnExactAddBytes
