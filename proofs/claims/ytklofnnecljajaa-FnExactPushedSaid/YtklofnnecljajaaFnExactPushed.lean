/-
  The law FnExactPushed returns true, whatever the input, and leaves its arguments as they were.
  No condition.
-/
import Derived.Test.YtklofnnecljajaaRows
import Derived.Test.YtklofnnecljajaaTrods
import Derived.Test.YtklofnnecljajaaWFnExactPushed
import Derived.Test.YtklofnnecljajaaShape
import Derived.Test.YtklofnnecljajaaBlk
namespace Go.Proofs.Ytklofnnecljajaa.lawFnExactPushed
open Go.ChangeShapes Go.WideShapes Go.ChangeAt Go.RowKit Go.Joins Go.Deep
open GoRep (rep bulk)
attribute [-go_sem] loadCells storeCells


set_option maxRecDepth 100000 in
theorem lifted (os : Os) (started : os.Started) (H : Type) (enc : TypeId × Value → H) :
    ReturnsInHanded {} Try.checked os 3 .any (Rows.fnExactPushedSpec.pre6 enc Try.prog Try.f3 Rows.fnExactPushedRow.domain false) (Rows.fnExactPushedSpec.post enc Try.prog Try.f3 false true false false) := by
  refine returnsInHanded_of_change_shaped (C := Try.checked) ownk started (by kernel_rfl) Try.func3
    (ChangeSpec.witness6 (enc := enc) (C := Try.checked) false ⟨#[], #[.agg #[.slice none 0 0, .bool false, .bool false], .slice none 0 0], []⟩ 16 (by kernel_rfl) (by kernel_rfl) (by kernel_rfl) (by kernel_rfl)) ?_
  intro W base args ds gs before hval0 hW _ _ hsh _
  have hval : ∀ (j : Nat) t v, Try.f3.params[j]? = some t → args[j]? = some v → Value.okWide Try.prog W .any base t v := hval0
  have hW' := hW
  obtain ⟨p, q, hA0, hV, rfl, hfz, _⟩ := hW
  have hA : DataW.TrodAll enc Try.prog W 0 (fun _ => true) true Try.f3.params.toList args.toList ds p := hA0
  rw [Try.params3] at hA hval
  obtain ⟨v0, vs0, d0, ds0, p0, q0, hargs, rfl, rfl, h0, r0⟩ := trodAll_cons hA
  obtain ⟨v1, vs1, d1, ds1, p1, q1, rfl, rfl, rfl, h1, r1⟩ := trodAll_cons r0
  obtain ⟨rfl, rfl, rfl⟩ := trodAll_nil r1
  obtain rfl : args = #[v0, v1] := by cases args; simp_all
  obtain ⟨⟨cs0⟩, rfl, _⟩ := okWide_struct Try.underlying24 (hval 0 24 v0 rfl rfl)
  obtain ⟨fuel0, hf0⟩ := h0
  obtain ⟨x0, F0, hr0⟩ : ∃ (x : GQueue) (F : List Nat), rep W x _ F := trod_Queue H enc W fuel0 _ d0 p0 hf0 (fun b o hm => hfz b o (by simp [hm]))
  obtain ⟨A1, n1, c1, rfl⟩ := okWide_slice Try.underlying22 (hval 1 22 v1 rfl rfl)
  obtain ⟨fuel1, hf1⟩ := h1
  obtain ⟨x1, F1, hr1⟩ : ∃ (x : (List GNote)) (F : List Nat), rep W x _ F := (trodRep_slice Try.underlying22 (by kernel_rfl) trod_Note) H enc W fuel1 _ d1 p1 hf1 (fun b o hm => hfz b o (by simp [hm]))
  clear hA0 hval0
  refine (walk_FnExactPushed W (glob_ok hsh) x0 _ ⟨F0, hr0⟩ x1 _ ⟨F1, hr1⟩).mono fun e W' h => ?_
  obtain ⟨he, hb⟩ := h.below
  subst he
  exact ⟨_, rfl, post_law laidOut (by kernel_rfl) rfl Try.underlying4 rfl rfl hW' hb⟩

set_option maxHeartbeats 8000000 in
theorem facts : joinedFacts Try.prog 3 Try.f3 Rows.fnExactPushedSpec Rows.fnExactPushedRow = true := by
  unfold joinedFacts
  repeat' (with_reducible refine Bool.and_eq_true_iff.mpr ⟨?_, ?_⟩)
  all_goals (as_aux_lemma => kernel_rfl)

theorem over : Rows.fnExactPushedRow.holds Try.pinned (OpenSpec.ofChange Rows.fnExactPushedSpec) :=
  OpenClaim.holds_of_wide 3 Try.f3 rfl rfl rfl rfl rfl rfl rfl ⟨rfl, rfl, rfl, rfl, rfl⟩ rfl rfl rfl rfl rfl (by as_aux_lemma => kernel_rfl) Try.func3 facts
    (of_decide_eq_true (by as_aux_lemma => kernel_rfl)) (by unfold Func.isWrapper; first | (rw [if_pos (by decide +kernel)]; kernel_rfl) | (rw [if_neg (by decide +kernel)]; exact ⟨rfl, rfl⟩))
    (fun os started H enc _ => lifted os started H enc)

theorem proved : Rows.FnExactPushedSaid := over
end Go.Proofs.Ytklofnnecljajaa.lawFnExactPushed
