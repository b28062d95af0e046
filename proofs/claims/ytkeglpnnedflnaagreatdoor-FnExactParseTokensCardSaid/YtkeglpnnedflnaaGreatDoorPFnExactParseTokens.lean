import Derived.Test.YtkeglpnnedflnaaGreatDoorRows
import Derived.Test.YtkeglpnnedflnaaGreatDoorTie
import Derived.Test.YtkeglpnnedflnaaGreatDoorCards
import Derived.Test.YtkeglpnnedflnaaGreatDoorPTrods
import Derived.Test.YtkeglpnnedflnaaGreatDoorPWFnExactParseTokens
import Derived.Test.YtkeglpnnedflnaaGreatDoorPShapeD
import Derived.Test.YtkeglpnnedflnaaGreatDoorPRep
set_option maxRecDepth 100000
namespace Go.Proofs.YtkeglpnnedflnaaGreatDoor.lawFnExactParseTokens
open Go.ChangeShapes Go.WideShapes Go.ChangeAt Go.RowKit Go.Joins Go.Deep
open GoRep (rep bulk)
attribute [-go_sem] loadCells storeCells
theorem ZLZ (os:Os) (started:os.Started) (H:Type) (enc:TypeId × Value→H) :
 ReturnsInHanded {} Tryz.checked os 4 .any (fun w args=>(Rows.fnExactParseTokensSpec.pre enc Tryz.prog Tryz.f4 Rows.fnExactParseTokensRow.domain false w args∧laidMetH Tryz.prog ZEQ w)∧sizedMet enc Tryz.prog Tryz.f4 (OpenSpec.ofChange Rows.fnExactParseTokensSpec) false w args) (Rows.fnExactParseTokensSpec.post enc Tryz.prog Tryz.f4 false true false false):=by
 refine ZES (C:=Tryz.checked) (X:=fun w _=>laidMetH Tryz.prog ZEQ w) (fun _ _ _ hh h=>h.of_heap hh) ZRY started (by kernel_rfl) Tryz.func4
  (ChangeSpec.witness_shaped (enc:=enc) (C:=Tryz.checked) (os:=os) (X:=fun w _=>laidMetH Tryz.prog ZEQ w) false (World.doorLaid Tryz.prog 400 os) #[.slice none 0 0] 16 rfl (World.shaped_of_RefB (by kernel_rfl) (by kernel_rfl)) (by kernel_rfl) (by kernel_rfl) (by kernel_rfl) (ZGT os _)) ?_
 intro W base args ds gs before hval0 hW hL hsh
 have hval:∀ (j:Nat) t v,Tryz.f4.params[j]?=some t→args[j]?=some v→Value.okWide Tryz.prog W .any base t v:=hval0
 have hW':=hW
 obtain ⟨p,q,hA0,hV,rfl,hfz,_⟩:=hW
 have hA:DataW.TrodAll enc Tryz.prog W 0 (fun _=>true) true Tryz.f4.params.toList args.toList ds p:=hA0
 rw [Tryz.params4] at hA hval
 obtain ⟨v0,vs0,d0,ds0,p0,q0,hargs,rfl,rfl,h0,r0⟩:=trodAll_cons hA
 obtain ⟨rfl,rfl,rfl⟩:=trodAll_nil r0
 obtain rfl:args=#[v0]:=by cases args; simp_all
 obtain ⟨A0,n0,c0,rfl⟩:=okWide_slice Tryz.underlying36 (hval 0 36 v0 rfl rfl)
 obtain ⟨fuel0,hf0⟩:=h0
 obtain ⟨x0,F0,hr0⟩:∃ (x:(List GToken)) (F:List Nat),rep W x _ F:=(ZsP Tryz.underlying36 (by kernel_rfl) ZB2) H enc W fuel0 _ d0 p0 hf0 (fun b o hm=>hfz b o (by simp [hm]))
 clear hA0 hval0
 refine (ZgS W (ZER hsh hL) x0 _ ⟨F0,hr0⟩).mono fun e W' h=>?_
 obtain ⟨he,hb⟩:=h.below
 subst he
 exact ⟨_,rfl,ZGL ZJC (by kernel_rfl) rfl Tryz.underlying4 rfl rfl hW' hb⟩
set_option maxHeartbeats 8000000 in
theorem ZOF:joinedFacts Tryz.prog 4 Tryz.f4 Rows.fnExactParseTokensSpec Rows.fnExactParseTokensRow=true:=by
 unfold joinedFacts
 repeat' (with_reducible refine Bool.and_eq_true_iff.mpr ⟨?_,?_⟩)
 all_goals (as_aux_lemma=>kernel_rfl)
theorem ZRW:Rows.fnExactParseTokensRow.holds Tryz.pinned (OpenSpec.ofChange Rows.fnExactParseTokensSpec) :=
 OpenClaim.holds_of_wide 4 Tryz.f4 rfl rfl rfl rfl rfl rfl rfl ⟨rfl,rfl,rfl,rfl,rfl⟩ rfl rfl rfl rfl rfl (by as_aux_lemma=>kernel_rfl) Tryz.func4 ZOF
  (of_decide_eq_true (by as_aux_lemma=>kernel_rfl)) (by unfold Func.isWrapper; first | (rw [if_pos (by decide +kernel)]; kernel_rfl) | (rw [if_neg (by decide +kernel)]; exact ⟨rfl,rfl⟩))
  (fun os started H enc _=>ZLZ os started H enc)
theorem proved:Rows.FnExactParseTokensCardSaid :=
 Claim7.holds_tied_plain_at .later [] Rows.fnExactParseTokensCard.laidKinds true Rows.fnExactParseTokensCard.stood.harness Rows.fnExactParseTokensCard.stood.looks
  ZRW (fun _ h=>by cases h) (by kernel_rfl) (fun _ h=>by cases h) fnExactParseTokens_row_tie rfl ⟨rfl,rfl⟩ (by kernel_rfl) rfl
  (fun f fn hf hfn=>by
   obtain rfl : f = 4 := Option.some.inj ((show Program.funcNamed Tryz.prog "loop.example/g00501/laws.FnExactParseTokens" = some 4 by kernel_rfl).symm.trans hf) |>.symm
   obtain rfl:fn=Tryz.f4:=(Option.some.inj (Tryz.func4.symm.trans hfn)).symm
   exact ⟨by kernel_rfl,fun j t ht=>by
    rw [Tryz.params4] at ht
    have hm:=Array.mem_of_getElem? ht
    simp only [List.mem_toArray,List.mem_cons,List.not_mem_nil,or_false] at hm
    rcases hm with rfl
    all_goals exact (show Program.wantsStandIn Tryz.prog _=false by kernel_rfl)⟩)
  (by kernel_rfl)
end Go.Proofs.YtkeglpnnedflnaaGreatDoor.lawFnExactParseTokens
