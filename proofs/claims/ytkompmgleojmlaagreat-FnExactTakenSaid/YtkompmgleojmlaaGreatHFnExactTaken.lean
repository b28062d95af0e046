import Derived.Test.YtkompmgleojmlaaGreatRows
import Derived.Test.YtkompmgleojmlaaGreatHShape
import Derived.Test.YtkompmgleojmlaaGreatHWFnExactTaken
import Derived.Test.YtkompmgleojmlaaGreatHRep
set_option maxRecDepth 100000
namespace Go.Proofs.YtkompmgleojmlaaGreat.lawFnExactTaken
open Go.ChangeShapes Go.WideShapes Go.ChangeAt Go.RowKit Go.Joins Go.Deep
open GoRep (rep bulk)
attribute [-go_sem] loadCells storeCells
theorem ZyH (os:Os) (started:os.Started) (H:Type) (enc:TypeId × Value→H) :
 ReturnsInHanded {} Tryz.checked os 7 .any (Rows.fnExactTakenSpec.pre6 enc Tryz.prog Tryz.f7 Rows.fnExactTakenRow.domain false) (Rows.fnExactTakenSpec.post enc Tryz.prog Tryz.f7 false true false false):=by
 refine returnsInHanded_of_change_shaped (C:=Tryz.checked) ZPt started (by kernel_rfl) Tryz.func7
  (ChangeSpec.witness6 (enc:=enc) (C:=Tryz.checked) false ⟨#[],#[.agg #[.slice none 0 0, .slice none 0 0, .int .i64 0, .slice none 0 0], .int .i64 0, .int .i64 0],[]⟩ 16 (by kernel_rfl) (by kernel_rfl) (by kernel_rfl) (by kernel_rfl)) ?_
 intro W base args ds gs before hval0 hW _ _ hsh _
 have hval:∀ (j:Nat) t v,Tryz.f7.params[j]?=some t→args[j]?=some v→Value.okWide Tryz.prog W .any base t v:=hval0
 have hW':=hW
 obtain ⟨p,q,hA0,hV,rfl,hfz,_⟩:=hW
 have hA:DataW.TrodAll enc Tryz.prog W 0 (fun _=>true) true Tryz.f7.params.toList args.toList ds p:=hA0
 rw [Tryz.params7] at hA hval
 obtain ⟨v0,vs0,d0,ds0,p0,q0,hargs,rfl,rfl,h0,r0⟩:=trodAll_cons hA
 obtain ⟨v1,vs1,d1,ds1,p1,q1,rfl,rfl,rfl,h1,r1⟩:=trodAll_cons r0
 obtain ⟨v2,vs2,d2,ds2,p2,q2,rfl,rfl,rfl,h2,r2⟩:=trodAll_cons r1
 obtain ⟨rfl,rfl,rfl⟩:=trodAll_nil r2
 obtain rfl:args=#[v0,v1,v2]:=by cases args; simp_all
 obtain ⟨⟨cs0⟩,rfl,_⟩:=okWide_struct Tryz.underlying28 (hval 0 28 v0 rfl rfl)
 obtain ⟨fuel0,hf0⟩:=h0
 obtain ⟨x0,F0,hr0⟩:∃ (x:ZaE) (F:List Nat),rep W x _ F:=ZlX H enc W fuel0 _ d0 p0 hf0 (fun b o hm=>hfz b o (by simp [hm]))
 obtain ⟨a1,rfl,rfl,rfl,w1⟩:=open_int Tryz.underlying3 (hval 1 3 v1 rfl rfl) h1
 obtain ⟨a2,rfl,rfl,rfl,w2⟩:=open_int Tryz.underlying3 (hval 2 3 v2 rfl rfl) h2
 clear hA0 hval0
 refine (ZnJ W (ZEt hsh) x0 _ ⟨F0,hr0⟩ a1 w1 a2 w2).mono fun e W' h=>?_
 exact ZrG
set_option maxHeartbeats 8000000 in
theorem ZJR:joinedFacts Tryz.prog 7 Tryz.f7 Rows.fnExactTakenSpec Rows.fnExactTakenRow=true:=by
 exact ZrF
theorem ZOh:Rows.fnExactTakenRow.holds Tryz.pinned (OpenSpec.ofChange Rows.fnExactTakenSpec) :=
 OpenClaim.holds_of_wide 7 Tryz.f7 rfl rfl rfl rfl rfl rfl rfl ⟨rfl,rfl,rfl,rfl,rfl⟩ rfl rfl rfl rfl rfl (by as_aux_lemma=>kernel_rfl) Tryz.func7 ZJR
  (of_decide_eq_true (by as_aux_lemma=>kernel_rfl)) (by unfold Func.isWrapper; first | (rw [if_pos (by decide +kernel)]; kernel_rfl) | (rw [if_neg (by decide +kernel)]; exact ⟨rfl,rfl⟩))
  (fun os started H enc _=>ZyH os started H enc)
theorem proved:Rows.FnExactTakenSaid:=ZOh
end Go.Proofs.YtkompmgleojmlaaGreat.lawFnExactTaken
