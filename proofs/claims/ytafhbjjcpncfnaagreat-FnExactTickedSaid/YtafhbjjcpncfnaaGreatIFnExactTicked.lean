import Derived.Test.YtafhbjjcpncfnaaGreatRows
import Derived.Test.YtafhbjjcpncfnaaGreatIShape
import Derived.Test.YtafhbjjcpncfnaaGreatIWFnExactTicked
import Derived.Test.YtafhbjjcpncfnaaGreatIRep
set_option maxRecDepth 100000
namespace Go.Proofs.YtafhbjjcpncfnaaGreat.lawFnExactTicked
open Go.ChangeShapes Go.WideShapes Go.ChangeAt Go.RowKit Go.Joins Go.Deep
open GoRep (rep bulk)
attribute [-go_sem] loadCells storeCells
theorem ZNM (os:Os) (started:os.Started) (H:Type) (enc:TypeId × Value→H) :
 ReturnsInHanded {} Tryz.checked os 3 .any (Rows.fnExactTickedSpec.pre6 enc Tryz.prog Tryz.f3 Rows.fnExactTickedRow.domain false) (Rows.fnExactTickedSpec.post enc Tryz.prog Tryz.f3 false true false false):=by
 refine returnsInHanded_of_change_shaped (C:=Tryz.checked) ZPu started (by kernel_rfl) Tryz.func3
  (ChangeSpec.witness6 (enc:=enc) (C:=Tryz.checked) false ⟨#[],#[.agg #[.slice none 0 0, .slice none 0 0, .int .i64 0, .slice none 0 0]],[]⟩ 16 (by kernel_rfl) (by kernel_rfl) (by kernel_rfl) (by kernel_rfl)) ?_
 intro W base args ds gs before hval0 hW _ _ hsh _
 have hval:∀ (j:Nat) t v,Tryz.f3.params[j]?=some t→args[j]?=some v→Value.okWide Tryz.prog W .any base t v:=hval0
 have hW':=hW
 obtain ⟨p,q,hA0,hV,rfl,hfz,_⟩:=hW
 have hA:DataW.TrodAll enc Tryz.prog W 0 (fun _=>true) true Tryz.f3.params.toList args.toList ds p:=hA0
 rw [Tryz.params3] at hA hval
 obtain ⟨v0,vs0,d0,ds0,p0,q0,hargs,rfl,rfl,h0,r0⟩:=trodAll_cons hA
 obtain ⟨rfl,rfl,rfl⟩:=trodAll_nil r0
 obtain rfl:args=#[v0]:=by cases args; simp_all
 obtain ⟨⟨cs0⟩,rfl,_⟩:=okWide_struct Tryz.underlying28 (hval 0 28 v0 rfl rfl)
 obtain ⟨fuel0,hf0⟩:=h0
 obtain ⟨x0,F0,hr0⟩:∃ (x:ZaT) (F:List Nat),rep W x _ F:=ZEa H enc W fuel0 _ d0 p0 hf0 (fun b o hm=>hfz b o (by simp [hm]))
 clear hA0 hval0
 refine (Zm1 W (ZMV hsh) x0 _ ⟨F0,hr0⟩).mono fun e W' h=>?_
 obtain ⟨he,hb⟩:=h.below
 subst he
 exact ⟨_,rfl,ZLu ZML (by kernel_rfl) rfl Tryz.underlying4 rfl rfl hW' hb⟩
set_option maxHeartbeats 8000000 in
theorem ZOV:joinedFacts Tryz.prog 3 Tryz.f3 Rows.fnExactTickedSpec Rows.fnExactTickedRow=true:=by
 unfold joinedFacts
 repeat' (with_reducible refine Bool.and_eq_true_iff.mpr ⟨?_,?_⟩)
 all_goals (as_aux_lemma=>kernel_rfl)
theorem ZPs:Rows.fnExactTickedRow.holds Tryz.pinned (OpenSpec.ofChange Rows.fnExactTickedSpec) :=
 OpenClaim.holds_of_wide 3 Tryz.f3 rfl rfl rfl rfl rfl rfl rfl ⟨rfl,rfl,rfl,rfl,rfl⟩ rfl rfl rfl rfl rfl (by as_aux_lemma=>kernel_rfl) Tryz.func3 ZOV
  (of_decide_eq_true (by as_aux_lemma=>kernel_rfl)) (by unfold Func.isWrapper; first | (rw [if_pos (by decide +kernel)]; kernel_rfl) | (rw [if_neg (by decide +kernel)]; exact ⟨rfl,rfl⟩))
  (fun os started H enc _=>ZNM os started H enc)
theorem proved:Rows.FnExactTickedSaid:=ZPs
end Go.Proofs.YtafhbjjcpncfnaaGreat.lawFnExactTicked
