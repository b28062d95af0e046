/-
  The law FnOut returns true, whatever the input, and leaves its arguments as they were.
  No condition.
-/
import Derived.Test.YtoigkpkafgjeaaaGreatDoorRows
import Derived.Test.YtoigkpkafgjeaaaGreatDoorTie
import Derived.Test.YtoigkpkafgjeaaaGreatDoorCards
import Derived.Test.YtoigkpkafgjeaaaGreatDoorOTrod
import Derived.Test.YtoigkpkafgjeaaaGreatDoorOBlOutC
import Derived.Test.YtoigkpkafgjeaaaGreatDoorOShapeD
import Derived.Test.YtoigkpkafgjeaaaGreatDoorORep
namespace Go.Proofs.YtoigkpkafgjeaaaGreatDoor.lawFnOut
open Go.ChangeShapes Go.WideShapes Go.ChangeAt Go.RowKit Go.Joins Go.Deep
open GoRep (rep bulk)
open Go.ChangeMaps (open_string)
attribute [-go_sem] loadCells storeCells


theorem trodRep_intK {P : Program} {t : TypeId} {k : IntKind} (ht : P.underlying t = some (.int k)) : TrodRep (Ty.int k).den P t := by
  intro H enc w fuel cs d ps h hf
  obtain ⟨n, e, _, hw⟩ := DataW.trod_int ht h
  exact ⟨n, [], e, hw, rfl⟩
theorem codeOk_of {W : World} {x : List (Ty.int .u8).den} {v : Value} (h : Held W x [v]) : codeOk x := by
  intro k hk
  obtain ⟨F, A, c, e, hc, hm, hs⟩ := h
  rcases hs with ⟨rfl, _⟩ | ⟨hx, b, off, G, rfl, rfl, hR⟩
  · exact absurd hk (Nat.not_lt_zero k)
  · obtain ⟨cs, Gk, r1, _, _⟩ := hR.get k (nth (.int .u8) x k) (nth_getElem? (t := .int .u8) hk)
    obtain ⟨_, hw, _⟩ := r1
    have hw' := lit_wf.1 (show (Lit.int .u8 (codeB x k)).wf = true from hw)
    have hb : IntKind.u8.min = 0 ∧ IntKind.u8.max = 255 := by decide
    rw [hb.1, hb.2] at hw'
    exact ⟨hw'.1, Int.lt_add_one_of_le hw'.2⟩
theorem walk (W : World) (hgl : Glob W []) (x : List (Ty.int .u8).den) (v : Value) (h : Held W x [v]) : Calls Tryz.prog 3 #[v] W (RV (.bool true) W) :=
  RV.of_b (b_l_FnOut x (codeOk_of h)) hgl ⟨v, [], rfl, repW_held1 (.int .u8) h, rfl⟩ (fun _ _ _ h => h)
set_option maxRecDepth 100000 in
theorem lifted (os : Os) (started : os.Started) (H : Type) (enc : TypeId × Value → H) :
    ReturnsInHanded {} Tryz.checked os 3 .any (fun w args => (Rows.fnOutSpec.pre enc Tryz.prog Tryz.f3 Rows.fnOutRow.domain false w args ∧ laidMetH Tryz.prog laidL w) ∧ sizedMet enc Tryz.prog Tryz.f3 (OpenSpec.ofChange Rows.fnOutSpec) false w args) (Rows.fnOutSpec.post enc Tryz.prog Tryz.f3 false true false false) := by
  refine hand_laid (C := Tryz.checked) (X := fun w _ => laidMetH Tryz.prog laidL w) (fun _ _ _ hh h => h.of_heap hh) ownk started (by kernel_rfl) Tryz.func3
    (ChangeSpec.witness_shaped (enc := enc) (C := Tryz.checked) (os := os) (X := fun w _ => laidMetH Tryz.prog laidL w) false (World.doorLaid Tryz.prog 400 os) #[.slice none 0 0] 16 rfl (World.shaped_of_RefB (by kernel_rfl) (by kernel_rfl)) (by kernel_rfl) (by kernel_rfl) (by kernel_rfl) (door_met os _)) ?_
  intro W base args ds gs before hval0 hW hL hsh
  have hval : ∀ (j : Nat) t v, Tryz.f3.params[j]? = some t → args[j]? = some v → Value.okWide Tryz.prog W .any base t v := hval0
  have hW' := hW
  obtain ⟨p, q, hA0, hV, rfl, hfz, _⟩ := hW
  have hA : DataW.TrodAll enc Tryz.prog W 0 (fun _ => true) true Tryz.f3.params.toList args.toList ds p := hA0
  rw [Tryz.params3] at hA hval
  obtain ⟨v0, vs0, d0, ds0, p0, q0, hargs, rfl, rfl, h0, r0⟩ := trodAll_cons hA
  obtain ⟨rfl, rfl, rfl⟩ := trodAll_nil r0
  obtain rfl : args = #[v0] := by cases args; simp_all
  obtain ⟨A0, n0, c0, rfl⟩ := okWide_slice Tryz.underlying22 (hval 0 22 v0 rfl rfl)
  obtain ⟨fuel0, hf0⟩ := h0
  obtain ⟨x0, F0, hr0⟩ : ∃ (x : List (Ty.int .u8).den) (F : List Nat), rep W x _ F := trodRep_slice Tryz.underlying22 (by kernel_rfl) (trodRep_intK Tryz.underlying5) H enc W fuel0 _ d0 p0 hf0 (fun b o hm => hfz b o (by simp [hm]))
  clear hA0 hval0
  refine (walk W (glob_laid hsh hL) x0 _ ⟨F0, hr0⟩).mono fun e W' h => ?_
  obtain ⟨he, hb⟩ := h.below
  subst he
  exact ⟨_, rfl, post_law laidOut (by kernel_rfl) rfl Tryz.underlying4 rfl rfl hW' hb⟩

set_option maxHeartbeats 8000000 in
theorem facts : joinedFacts Tryz.prog 3 Tryz.f3 Rows.fnOutSpec Rows.fnOutRow = true := by
  unfold joinedFacts
  repeat' (with_reducible refine Bool.and_eq_true_iff.mpr ⟨?_, ?_⟩)
  all_goals (as_aux_lemma => kernel_rfl)

theorem over : Rows.fnOutRow.holds Tryz.pinned (OpenSpec.ofChange Rows.fnOutSpec) :=
  OpenClaim.holds_of_wide 3 Tryz.f3 rfl rfl rfl rfl rfl rfl rfl ⟨rfl, rfl, rfl, rfl, rfl⟩ rfl rfl rfl rfl rfl (by as_aux_lemma => kernel_rfl) Tryz.func3 facts
    (of_decide_eq_true (by as_aux_lemma => kernel_rfl)) (by unfold Func.isWrapper; first | (rw [if_pos (by decide +kernel)]; kernel_rfl) | (rw [if_neg (by decide +kernel)]; exact ⟨rfl, rfl⟩))
    (fun os started H enc _ => lifted os started H enc)

theorem proved : Rows.FnOutCardSaid :=
  Claim7.holds_tied_plain_at .later [] Rows.fnOutCard.laidKinds true Rows.fnOutCard.stood.harness Rows.fnOutCard.stood.looks
    over (fun _ h => by cases h) (by kernel_rfl) (fun _ h => by cases h) fnOut_row_tie rfl ⟨rfl, rfl⟩ (by kernel_rfl) rfl
    (fun f fn hf hfn => by
      obtain rfl : f = 3 := Option.some.inj ((show Program.funcNamed Tryz.prog "loop.example/g00501/laws.FnOut" = some 3 by kernel_rfl).symm.trans hf) |>.symm
      obtain rfl : fn = Tryz.f3 := (Option.some.inj (Tryz.func3.symm.trans hfn)).symm
      exact ⟨by kernel_rfl, fun j t ht => by
        rw [Tryz.params3] at ht
        have hm := Array.mem_of_getElem? ht
        simp only [List.mem_toArray, List.mem_cons, List.not_mem_nil, or_false] at hm
        rcases hm with rfl
        all_goals exact (show Program.wantsStandIn Tryz.prog _ = false by kernel_rfl)⟩)
    (by kernel_rfl)
end Go.Proofs.YtoigkpkafgjeaaaGreatDoor.lawFnOut
