/-
  The law FnDrained returns true, whatever the input, and leaves its arguments as they were.
  No condition.
-/
import Derived.Test.YtoigkpkafgjeaaaRows
import Derived.Test.YtoigkpkafgjeaaaBShape
import Derived.Test.YtoigkpkafgjeaaaBBlL15k
import Derived.Test.YtoigkpkafgjeaaaBRep
namespace Go.Proofs.Ytoigkpkafgjeaaa.lawFnDrained
open Go.ChangeShapes Go.WideShapes Go.ChangeAt Go.RowKit Go.Joins Go.Deep
open GoRep (rep bulk)
attribute [-go_sem] loadCells storeCells


theorem trodRep_intK {P : Program} {t : TypeId} {k : IntKind} (ht : P.underlying t = some (.int k)) : TrodRep (Ty.int k).den P t := by
  intro H enc w fuel cs d ps h hf
  obtain ⟨n, e, _, hw⟩ := DataW.trod_int ht h
  exact ⟨n, [], e, hw, rfl⟩
theorem codeOk_of {W : World} {x : List (Ty.int .u8).den} {v : Value} (h : Held W x [v]) : codeOk x := by
  intro k hk
  obtain ⟨F, A, c, e, hc, hm, hs⟩ := h
  rcases hs with ⟨rfl, _⟩ | ⟨hx, b, off, G, rfl, rfl, hR⟩
  · exact absurd hk (Nat.not_lt_zero k)
  · obtain ⟨cs, Gk, r1, _, _⟩ := hR.get k (nth (.int .u8) x k) (nth_getElem? (t := .int .u8) hk)
    obtain ⟨_, hw, _⟩ := r1
    have hw' := lit_wf.1 (show (Lit.int .u8 (codeB x k)).wf = true from hw)
    have hb : IntKind.u8.min = 0 ∧ IntKind.u8.max = 255 := by decide
    rw [hb.1, hb.2] at hw'
    exact ⟨hw'.1, Int.lt_add_one_of_le hw'.2⟩
theorem walk (W : World) (hgl : Glob W []) (x : List (Ty.int .u8).den) (v : Value) (h : Held W x [v]) : Calls Try.prog 3 #[v] W (RV (.bool true) W) :=
  RV.of_b (b_l_FnDrained x (codeOk_of h)) hgl ⟨v, [], rfl, repW_held1 (.int .u8) h, rfl⟩ (fun _ _ _ h => h)
set_option maxRecDepth 100000 in
theorem lifted (os : Os) (started : os.Started) (H : Type) (enc : TypeId × Value → H) :
    ReturnsInHanded {} Try.checked os 3 .any (Rows.fnDrainedSpec.pre6 enc Try.prog Try.f3 Rows.fnDrainedRow.domain false) (Rows.fnDrainedSpec.post enc Try.prog Try.f3 false true false false) := by
  refine returnsInHanded_of_change_shaped (C := Try.checked) ownk started (by kernel_rfl) Try.func3
    (ChangeSpec.witness6 (enc := enc) (C := Try.checked) false ⟨#[], #[.slice none 0 0], []⟩ 16 (by kernel_rfl) (by kernel_rfl) (by kernel_rfl) (by kernel_rfl)) ?_
  intro W base args ds gs before hval0 hW _ _ hsh _
  have hval : ∀ (j : Nat) t v, Try.f3.params[j]? = some t → args[j]? = some v → Value.okWide Try.prog W .any base t v := hval0
  have hW' := hW
  obtain ⟨p, q, hA0, hV, rfl, hfz, _⟩ := hW
  have hA : DataW.TrodAll enc Try.prog W 0 (fun _ => true) true Try.f3.params.toList args.toList ds p := hA0
  rw [Try.params3] at hA hval
  obtain ⟨v0, vs0, d0, ds0, p0, q0, hargs, rfl, rfl, h0, r0⟩ := trodAll_cons hA
  obtain ⟨rfl, rfl, rfl⟩ := trodAll_nil r0
  obtain rfl : args = #[v0] := by cases args; simp_all
  obtain ⟨A0, n0, c0, rfl⟩ := okWide_slice Try.underlying22 (hval 0 22 v0 rfl rfl)
  obtain ⟨fuel0, hf0⟩ := h0
  obtain ⟨x0, F0, hr0⟩ : ∃ (x : List (Ty.int .u8).den) (F : List Nat), rep W x _ F := trodRep_slice Try.underlying22 (by kernel_rfl) (trodRep_intK Try.underlying5) H enc W fuel0 _ d0 p0 hf0 (fun b o hm => hfz b o (by simp [hm]))
  clear hA0 hval0
  refine (walk W (glob_ok hsh) x0 _ ⟨F0, hr0⟩).mono fun e W' h => ?_
  obtain ⟨he, hb⟩ := h.below
  subst he
  exact ⟨_, rfl, post_law laidOut (by kernel_rfl) rfl Try.underlying4 rfl rfl hW' hb⟩

set_option maxHeartbeats 8000000 in
theorem facts : joinedFacts Try.prog 3 Try.f3 Rows.fnDrainedSpec Rows.fnDrainedRow = true := by
  unfold joinedFacts
  repeat' (with_reducible refine Bool.and_eq_true_iff.mpr ⟨?_, ?_⟩)
  all_goals (as_aux_lemma => kernel_rfl)

theorem over : Rows.fnDrainedRow.holds Try.pinned (OpenSpec.ofChange Rows.fnDrainedSpec) :=
  OpenClaim.holds_of_wide 3 Try.f3 rfl rfl rfl rfl rfl rfl rfl ⟨rfl, rfl, rfl, rfl, rfl⟩ rfl rfl rfl rfl rfl (by as_aux_lemma => kernel_rfl) Try.func3 facts
    (of_decide_eq_true (by as_aux_lemma => kernel_rfl)) (by unfold Func.isWrapper; first | (rw [if_pos (by decide +kernel)]; kernel_rfl) | (rw [if_neg (by decide +kernel)]; exact ⟨rfl, rfl⟩))
    (fun os started H enc _ => lifted os started H enc)

theorem proved : Rows.FnDrainedSaid := over
end Go.Proofs.Ytoigkpkafgjeaaa.lawFnDrained
