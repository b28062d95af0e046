/-
  The law FnExactFitsOut returns true, whatever the input, and leaves its arguments as they were.
  No condition.
-/
import Derived.Test.YtklnpeckhbiloaaDoorRows
import Derived.Test.YtklnpeckhbiloaaDoorTie
import Derived.Test.YtklnpeckhbiloaaDoorCards
import Derived.Test.YtklnpeckhbiloaaDoorJTrods
import Derived.Test.YtklnpeckhbiloaaDoorJWFnExactFitsOut
import Derived.Test.YtklnpeckhbiloaaDoorJShapeD
import Derived.Test.YtklnpeckhbiloaaDoorJRep
namespace Go.Proofs.YtklnpeckhbiloaaDoor.lawFnExactFitsOut
open Go.ChangeShapes Go.WideShapes Go.ChangeAt Go.RowKit Go.Joins Go.Deep
open GoRep (rep bulk)
attribute [-go_sem] loadCells storeCells


set_option maxRecDepth 100000 in
theorem lifted (os : Os) (started : os.Started) (H : Type) (enc : TypeId × Value → H) :
    ReturnsInHanded {} Tryd.checked os 3 .any (fun w args => (Rows.fnExactFitsOutSpec.pre enc Tryd.prog Tryd.f3 Rows.fnExactFitsOutRow.domain false w args ∧ laidMetH Tryd.prog laidL w) ∧ sizedMet enc Tryd.prog Tryd.f3 (OpenSpec.ofChange Rows.fnExactFitsOutSpec) false w args) (Rows.fnExactFitsOutSpec.post enc Tryd.prog Tryd.f3 false true false false) := by
  refine hand_laid (C := Tryd.checked) (X := fun w _ => laidMetH Tryd.prog laidL w) (fun _ _ _ hh h => h.of_heap hh) ownk started (by kernel_rfl) Tryd.func3
    (ChangeSpec.witness_shaped (enc := enc) (C := Tryd.checked) (os := os) (X := fun w _ => laidMetH Tryd.prog laidL w) false (World.doorLaid Tryd.prog 400 os) #[.agg #[.string ⟨#[]⟩, .string ⟨#[]⟩], .slice none 0 0] 16 rfl (World.shaped_of_RefB (by kernel_rfl) (by kernel_rfl)) (by kernel_rfl) (by kernel_rfl) (by kernel_rfl) (door_met os _)) ?_
  intro W base args ds gs before hval0 hW hL hsh
  have hval : ∀ (j : Nat) t v, Tryd.f3.params[j]? = some t → args[j]? = some v → Value.okWide Tryd.prog W .any base t v := hval0
  have hW' := hW
  obtain ⟨p, q, hA0, hV, rfl, hfz, _⟩ := hW
  have hA : DataW.TrodAll enc Tryd.prog W 0 (fun _ => true) true Tryd.f3.params.toList args.toList ds p := hA0
  rw [Tryd.params3] at hA hval
  obtain ⟨v0, vs0, d0, ds0, p0, q0, hargs, rfl, rfl, h0, r0⟩ := trodAll_cons hA
  obtain ⟨v1, vs1, d1, ds1, p1, q1, rfl, rfl, rfl, h1, r1⟩ := trodAll_cons r0
  obtain ⟨rfl, rfl, rfl⟩ := trodAll_nil r1
  obtain rfl : args = #[v0, v1] := by cases args; simp_all
  obtain ⟨⟨cs0⟩, rfl, _⟩ := okWide_struct Tryd.underlying23 (hval 0 23 v0 rfl rfl)
  obtain ⟨fuel0, hf0⟩ := h0
  obtain ⟨x0, F0, hr0⟩ : ∃ (x : GOut) (F : List Nat), rep W x _ F := trod_Out H enc W fuel0 _ d0 p0 hf0 (fun b o hm => hfz b o (by simp [hm]))
  obtain ⟨A1, n1, c1, rfl⟩ := okWide_slice Tryd.underlying24 (hval 1 24 v1 rfl rfl)
  obtain ⟨fuel1, hf1⟩ := h1
  obtain ⟨x1, F1, hr1⟩ : ∃ (x : (List GReply)) (F : List Nat), rep W x _ F := (trodRep_slice Tryd.underlying24 (by kernel_rfl) trod_Reply) H enc W fuel1 _ d1 p1 hf1 (fun b o hm => hfz b o (by simp [hm]))
  clear hA0 hval0
  refine (walk_FnExactFitsOut W (glob_laid hsh hL) x0 _ ⟨F0, hr0⟩ x1 _ ⟨F1, hr1⟩).mono fun e W' h => ?_
  obtain ⟨he, hb⟩ := h.below
  subst he
  exact ⟨_, rfl, post_law laidOut (by kernel_rfl) rfl Tryd.underlying4 rfl rfl hW' hb⟩

set_option maxHeartbeats 8000000 in
theorem facts : joinedFacts Tryd.prog 3 Tryd.f3 Rows.fnExactFitsOutSpec Rows.fnExactFitsOutRow = true := by
  unfold joinedFacts
  repeat' (with_reducible refine Bool.and_eq_true_iff.mpr ⟨?_, ?_⟩)
  all_goals (as_aux_lemma => kernel_rfl)

theorem over : Rows.fnExactFitsOutRow.holds Tryd.pinned (OpenSpec.ofChange Rows.fnExactFitsOutSpec) :=
  OpenClaim.holds_of_wide 3 Tryd.f3 rfl rfl rfl rfl rfl rfl rfl ⟨rfl, rfl, rfl, rfl, rfl⟩ rfl rfl rfl rfl rfl (by as_aux_lemma => kernel_rfl) Tryd.func3 facts
    (of_decide_eq_true (by as_aux_lemma => kernel_rfl)) (by unfold Func.isWrapper; first | (rw [if_pos (by decide +kernel)]; kernel_rfl) | (rw [if_neg (by decide +kernel)]; exact ⟨rfl, rfl⟩))
    (fun os started H enc _ => lifted os started H enc)

theorem proved : Rows.FnExactFitsOutCardSaid :=
  Claim7.holds_tied_plain_at .later [] Rows.fnExactFitsOutCard.laidKinds true Rows.fnExactFitsOutCard.stood.harness Rows.fnExactFitsOutCard.stood.looks
    over (fun _ h => by cases h) (by kernel_rfl) (fun _ h => by cases h) fnExactFitsOut_row_tie rfl ⟨rfl, rfl⟩ (by kernel_rfl) rfl
    (fun f fn hf hfn => by
      obtain rfl : f = 3 := Option.some.inj ((show Program.funcNamed Tryd.prog "loop.example/g00501/laws.FnExactFitsOut" = some 3 by kernel_rfl).symm.trans hf) |>.symm
      obtain rfl : fn = Tryd.f3 := (Option.some.inj (Tryd.func3.symm.trans hfn)).symm
      exact ⟨by kernel_rfl, fun j t ht => by
        rw [Tryd.params3] at ht
        have hm := Array.mem_of_getElem? ht
        simp only [List.mem_toArray, List.mem_cons, List.not_mem_nil, or_false] at hm
        rcases hm with rfl | rfl
        all_goals exact (show Program.wantsStandIn Tryd.prog _ = false by kernel_rfl)⟩)
    (by kernel_rfl)
end Go.Proofs.YtklnpeckhbiloaaDoor.lawFnExactFitsOut
