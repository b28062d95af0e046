/-
  The law FnExactPending returns true, whatever the input, and leaves its arguments as they were.
  No condition.
-/
import Derived.Test.YtigakalkkaoflaaRows
import Derived.Test.YtigakalkkaoflaaSz
import Derived.Test.YtigakalkkaoflaaEqA
import Derived.Test.YtigakalkkaoflaaToS
import Derived.Test.YtigakalkkaoflaaTrods
import Derived.Test.YtigakalkkaoflaaPend
import Derived.Test.YtigakalkkaoflaaBlk
namespace Go.Proofs.Ytigakalkkaoflaa.lawFnExactPending
open Go.ChangeShapes Go.WideShapes Go.ChangeAt Go.RowKit Go.Joins Go.Deep
open GoRep (rep bulk)
attribute [-go_sem] loadCells storeCells
set_option maxRecDepth 100000 in
set_option maxHeartbeats 40000000 in
theorem walk (w : World) (x0 : GSession) (c0 : List Value) (h0 : Held w x0 c0) : Calls Try.prog 5 #[.agg c0.toArray] w (RV (.bool true) w) := by
  have hl0 : c0.length = 17 := by obtain ⟨_, h⟩ := h0; exact GoRep.len h
  have ho0 : c0.all (fun v => v.oneCell') = true := by obtain ⟨_, h⟩ := h0; exact GoRep.one h
  have H0 := Lib.hid h0
  clear h0
  obtain ⟨b0, hb0⟩ : ∃ b, bulk x0 = b := ⟨_, rfl⟩
  have HB0 := Lib.hid hb0
  clear hb0
  by_cases hs0 : (b0 : Int) ≤ 1048576
  · skip
    go_enter Try.func5, Try.ntmps5
    have Z0 := Lib.hid (show szT (1048576) (bulk x0) = 1048576 - b0 by rw [HB0.out]; exact szT_ge (by omega))
    go_wp2_with fail
    refine (l_szSession x0 _ _ (by repeat (first | exact H0.out | with_reducible refine held_alloc ?_ _ | with_reducible refine held_ext ?_ _ _)) (1048576) (by omega) (by omega)).mono ?_
    rintro e _ ⟨rfl, Es0, ds0, rfl⟩
    rw [Z0.out]
    go_wp2_with fail
    refine (l_toSession x0 _ _ (by repeat (first | exact H0.out | with_reducible refine held_alloc ?_ _ | with_reducible refine held_ext ?_ _ _)) (by rw [HB0.out]; omega)).mono ?_
    rintro e _ ⟨csa0, Fa0, Ea0, da0, rfl, rfl, hra0, hna0, hfa0⟩
    as_aux_lemma =>
      have hla0 : csa0.length = 17 := GoRep.len hra0
      have hoa0 : csa0.all (fun v => v.oneCell') = true := GoRep.one hra0
      simp only [mkA]
      have Ta0 := Lib.hid (Held.mk hra0)
      have HRa0 := Lib.hid hra0
      have HNa0 := Lib.hid hna0
      have HFa0 := Lib.hid hfa0
      clear hra0 hna0 hfa0
      go_wp2_with fail
      refine (s_Pending _ x0 _ (by repeat (first | exact Ta0.out | with_reducible refine held_alloc ?_ _ | with_reducible refine held_ext ?_ _ _))).mono ?_
      rintro e _ ⟨rfl, Ew, dw, rfl⟩
      as_aux_lemma =>
        go_wp2_with fail
        refine (l_toSession x0 _ _ (by repeat (first | exact H0.out | with_reducible refine held_alloc ?_ _ | with_reducible refine held_ext ?_ _ _)) (by rw [HB0.out]; omega)).mono ?_
        rintro e _ ⟨csb0, Fb0, Eb0, db0, rfl, rfl, hrb0, hnb0, hfb0⟩
        as_aux_lemma =>
          have hlb0 : csb0.length = 17 := GoRep.len hrb0
          have hob0 : csb0.all (fun v => v.oneCell') = true := GoRep.one hrb0
          simp only [mkA]
          have Tb0 := Lib.hid (Held.mk hrb0)
          have HRb0 := Lib.hid hrb0
          have HNb0 := Lib.hid hnb0
          have HFb0 := Lib.hid hfb0
          clear hrb0 hnb0 hfb0
          go_wp2_with fail
          refine (i_Pending _ x0 _ (by repeat (first | exact Tb0.out | with_reducible refine held_alloc ?_ _ | with_reducible refine held_ext ?_ _ _))).mono ?_
          rintro e _ ⟨rfl, Eg, dg, rfl⟩
          as_aux_lemma =>
            go_wp2_with fail
            go_region_with (first | (go_at_call 25; refine (l_toSession x0 _ _ (by repeat (first | exact H0.out | with_reducible refine held_alloc ?_ _ | with_reducible refine held_ext ?_ _ _)) (by rw [HB0.out]; omega)).mono ?_; rintro e _ ⟨csc0, Fc0, Ec0, dc0, rfl, rfl, hrc0, hnc0, hfc0⟩; have hlc0 : csc0.length = 17 := GoRep.len hrc0; have hoc0 : csc0.all (fun v => v.oneCell') = true := GoRep.one hrc0; simp only [mkA]; have Tc0 := Lib.hid (Held.mk hrc0); have HRc0 := Lib.hid hrc0; have HNc0 := Lib.hid hnc0; have HFc0 := Lib.hid hfc0; clear hrc0 hnc0 hfc0) | (go_at_call 27; refine (l_eqSession x0 _ _ _ (by repeat (first | exact Tb0.out | with_reducible refine held_alloc ?_ _ | with_reducible refine held_ext ?_ _ _)) (by repeat (first | exact Tc0.out | with_reducible refine held_alloc ?_ _ | with_reducible refine held_ext ?_ _ _))).mono ?_; rintro e _ ⟨rfl, Ee0, de0, rfl⟩))
            all_goals as_aux_lemma =>
              go_wp2
              go_ret
              exact RV.mk rfl (by repeat (first | exact Below.refl _ _ | refine bl_al ?_ _ | refine bl_ext ?_ _ _ | refine Below.drew ?_ | assumption | refine bl_tr ?_ (by assumption)))
  · skip
    go_enter Try.func5, Try.ntmps5
    have Z0 := Lib.hid (show szT (1048576) (bulk x0) = -1 by rw [HB0.out]; exact szT_lt (by omega))
    go_wp2_with fail
    refine (l_szSession x0 _ _ (by repeat (first | exact H0.out | with_reducible refine held_alloc ?_ _ | with_reducible refine held_ext ?_ _ _)) (1048576) (by omega) (by omega)).mono ?_
    rintro e _ ⟨rfl, Es0, ds0, rfl⟩
    rw [Z0.out]
    go_wp2
    go_ret
    exact RV.mk rfl (by repeat (first | exact Below.refl _ _ | refine bl_al ?_ _ | refine bl_ext ?_ _ _ | refine Below.drew ?_ | assumption | refine bl_tr ?_ (by assumption)))

set_option maxRecDepth 100000 in
theorem lifted (os : Os) (started : os.Started) (H : Type) (enc : TypeId × Value → H) :
    ReturnsInHanded {} Try.checked os 5 .any (Rows.fnExactPendingSpec.pre6 enc Try.prog Try.f5 Rows.fnExactPendingRow.domain false) (Rows.fnExactPendingSpec.post enc Try.prog Try.f5 false true false false) := by
  refine returnsInHanded_of_change (C := Try.checked) ownk started (by kernel_rfl) Try.func5
    (ChangeSpec.witness6 (enc := enc) (C := Try.checked) false ⟨#[], #[.agg #[.bool false, .int .i64 0, .int .i64 0, .int .i64 0, .slice none 0 0, .bool false, .slice none 0 0, .string ⟨#[]⟩, .string ⟨#[]⟩, .slice none 0 0, .bool false, .bool false, .string ⟨#[]⟩, .bool false, .string ⟨#[]⟩, .string ⟨#[]⟩, .int .i64 0]], []⟩ 16 (by kernel_rfl) (by kernel_rfl) (by kernel_rfl) (by kernel_rfl)) ?_
  intro W base args ds gs before hval0 hW _ _
  have hval : ∀ (j : Nat) t v, Try.f5.params[j]? = some t → args[j]? = some v → Value.okWide Try.prog W .any base t v := hval0
  have hW' := hW
  obtain ⟨p, q, hA0, hV, rfl, hfz, _⟩ := hW
  have hA : DataW.TrodAll enc Try.prog W 0 (fun _ => true) true Try.f5.params.toList args.toList ds p := hA0
  rw [Try.params5] at hA hval
  obtain ⟨v0, vs0, d0, ds0, p0, q0, hargs, rfl, rfl, h0, r0⟩ := trodAll_cons hA
  obtain ⟨rfl, rfl, rfl⟩ := trodAll_nil r0
  obtain rfl : args = #[v0] := by cases args; simp_all
  obtain ⟨⟨cs0⟩, rfl, _⟩ := okWide_struct Try.underlying53 (hval 0 53 v0 rfl rfl)
  obtain ⟨fuel0, hf0⟩ := h0
  obtain ⟨x0, F0, hr0⟩ : ∃ (x : GSession) (F : List Nat), rep W x _ F := trod_Session H enc W fuel0 _ d0 p0 hf0 (fun b o hm => hfz b o (by simp [hm]))
  clear hA0 hval0
  refine (walk W x0 _ ⟨F0, hr0⟩).mono fun e W' h => ?_
  obtain ⟨he, hb⟩ := h.below
  subst he
  exact ⟨_, rfl, post_law laidOut (by kernel_rfl) rfl Try.underlying4 rfl rfl hW' hb⟩

set_option maxHeartbeats 8000000 in
theorem facts : joinedFacts Try.prog 5 Try.f5 Rows.fnExactPendingSpec Rows.fnExactPendingRow = true := by
  unfold joinedFacts
  repeat' (with_reducible refine Bool.and_eq_true_iff.mpr ⟨?_, ?_⟩)
  all_goals (as_aux_lemma => kernel_rfl)

theorem over : Rows.fnExactPendingRow.holds Try.pinned (OpenSpec.ofChange Rows.fnExactPendingSpec) :=
  OpenClaim.holds_of_wide 5 Try.f5 rfl rfl rfl rfl rfl rfl rfl ⟨rfl, rfl, rfl, rfl, rfl⟩ rfl rfl rfl rfl rfl (by as_aux_lemma => kernel_rfl) Try.func5 facts
    (of_decide_eq_true (by as_aux_lemma => kernel_rfl)) (by unfold Func.isWrapper; first | (rw [if_pos (by decide +kernel)]; kernel_rfl) | (rw [if_neg (by decide +kernel)]; exact ⟨rfl, rfl⟩))
    (fun os started H enc _ => lifted os started H enc)

theorem proved : Rows.FnExactPendingSaid := over
end Go.Proofs.Ytigakalkkaoflaa.lawFnExactPending
