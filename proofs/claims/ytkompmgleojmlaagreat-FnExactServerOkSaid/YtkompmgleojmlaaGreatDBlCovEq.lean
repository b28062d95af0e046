import Derived.Test.YtkompmgleojmlaaGreatDBlCov
set_option linter.unusedSimpArgs false
set_option linter.unusedVariables false
namespace Go.Proofs.YtkompmgleojmlaaGreat
open Go.ChangeShapes Go.WideShapes Go.ChangeAt Go.RowKit Go.Joins Go.Deep
open GoRep (rep bulk)
theorem ZfO {l:List Zaz} {z:Zaz}:z ∈ l↔∃ j,j < l.length∧Zad l j=z:=by
  constructor
  · intro h
    obtain ⟨j,hj,e⟩:=List.mem_iff_getElem.1 h
    exact ⟨j,hj,(ZdB (t:=Zah) (List.getElem?_eq_getElem hj)).trans e⟩
  · rintro ⟨j,hj,rfl⟩
    exact List.mem_of_getElem? (Zap (t:=Zah) hj)
theorem ZzT {l:List Zaz} {z:Zaz}:∀ {k:Nat},z ∈ ZaE l true k↔∃ j,j < k∧Zad l j=z∧z.1=1
  | 0=>by
    constructor
    · intro h; cases h
    · rintro ⟨j,h,_⟩; omega
  | k + 1=>by
    have ih:=ZzT (l:=l) (z:=z) (k:=k)
    unfold ZaE
    constructor
    · intro h
      split at h
      · rename_i h1
        rcases List.mem_append.1 h with h2 | h2
        · obtain ⟨j,q1,q2⟩:=ih.1 h2
          exact ⟨j,by omega,q2⟩
        · have e:=List.mem_singleton.1 h2
          exact ⟨k,by omega,e.symm,by rw [e]; exact Zao.1 h1⟩
      · obtain ⟨j,q1,q2⟩:=ih.1 h
        exact ⟨j,by omega,q2⟩
    · rintro ⟨j,q1,q2,q3⟩
      by_cases hj:j=k
      · subst hj
        rw [if_pos (by rw [q2]; exact Zao.2 q3),q2]
        exact List.mem_append_right _ (List.mem_singleton.2 rfl)
      · have h2:=ih.2 ⟨j,by omega,q2,q3⟩
        split
        · exact List.mem_append_left _ h2
        · exact h2
theorem Zj0 {l:List Zaz} {z:Zaz}:z ∈ ZaE l true l.length↔z ∈ l∧z.1=1:=by
  rw [ZzT,ZfO]
  exact ⟨fun ⟨j,a,b,c⟩=>⟨⟨j,a,b⟩,c⟩,fun ⟨⟨j,a,b⟩,c⟩=>⟨j,a,b,c⟩⟩
theorem Zxo {st:Zau} {L:List Int} {n:Zaz}:ZqP st L n=false↔(n.1=1→n.2.1 ∈ L∧n=ZdR (Zab st.2.1 (Int.toNat n.2.1)) n.2.1):=by
  unfold ZqP
  rw [Bool.and_eq_false_iff,Bool.or_eq_false_iff,ZaB,Bool.not_eq_false',Bool.not_eq_false',Zcn,List.any_eq_true]
  constructor
  · intro h hk
    rcases h with h | ⟨⟨x,hx,e⟩,h2⟩
    · exact absurd hk h
    · rw [Zao] at e
      exact ⟨by rw [e]; exact hx,h2⟩
  · intro h
    by_cases hk:n.1=1
    · obtain ⟨h1,h2⟩:=h hk
      exact .inr ⟨⟨_,h1,Zao.2 rfl⟩,h2⟩
    · exact .inl hk
theorem ZHi {N:List Zaz} {v:Zaz}:ZA3 N v=true↔v ∈ N:=by
  unfold ZA3
  rw [List.any_eq_true]
  constructor
  · rintro ⟨x,hx,e⟩
    rw [Zcn.1 e]
    exact hx
  · intro h
    exact ⟨v,h,Zcn.2 rfl⟩
theorem ZFc {st:Zau} {L:List Int} {N:List Zaz} {k:Nat}:ZiQ st L N k=false↔(ZfM st L k=true∨ZdR (Zab st.2.1 (Int.toNat (Zaj L k))) (Zaj L k) ∈ N):=by
  unfold ZiQ
  rw [Bool.and_eq_false_iff,Bool.not_eq_false',Bool.not_eq_false',ZHi]
theorem ZCR {st:Zau} {L:List Int} {n:Zaz}:List.any L (Zmk st n)=true↔n.2.1 ∈ L∧n.2.2.1=ZAQ (Zab st.2.1 (Int.toNat n.2.1)):=by
  rw [List.any_eq_true]
  constructor
  · rintro ⟨x,hx,e⟩
    unfold Zmk at e
    rw [Bool.and_eq_true,Zao,Zao] at e
    obtain ⟨e1,e2⟩:=e
    subst e1
    exact ⟨hx,e2⟩
  · rintro ⟨h1,h2⟩
    refine ⟨_,h1,?_⟩
    unfold Zmk
    rw [Bool.and_eq_true,Zao,Zao]
    exact ⟨rfl,h2⟩
theorem ZCS {st:Zau} {L:List Int} {N:List Zaz} {k:Nat}:Zl9 st L N k=false↔(ZfM st L k=true∨∃ z,z ∈ N∧z.2.1=Zaj L k):=by
  unfold Zl9
  rw [Bool.not_eq_false',Bool.or_eq_true,List.any_eq_true]
  constructor
  · rintro (h | ⟨z,h1,h2⟩)
    · exact .inl h
    · exact .inr ⟨z,h1,Zao.1 h2⟩
  · rintro (h | ⟨z,h1,h2⟩)
    · exact .inl h
    · exact .inr ⟨z,h1,Zao.2 h2⟩
theorem ZAP {n:Zaz} (h:Zcg n=true) (h1:n.1=1):n.2.2.2=(⟨#[]⟩:ByteArray):=by
  rw [Zcg,if_pos h1,Bool.and_eq_true,Bool.and_eq_true,ZaU] at h
  exact h.2.2
theorem ZIg {st:Zau} {s:Zac} (hq:Zbw s.2.2.2.2.2.2.2.2.1=true):Zpa st s=Zo2 st s:=by
  have hok:∀ n,n ∈ s.2.2.2.2.2.2.2.2.1.1→Zcg n=true:=fun n hn=>by
    obtain ⟨j,hj,rfl⟩:=ZfO.1 hn
    exact ZC4 ((of_decide_eq_true hq).1 j hj)
  unfold Zpa Zo2
  split
  · rfl
  · have e1:(∀ j,j < List.length s.2.2.2.2.2.2.2.2.1.1→ZqP st (ZaO st s.2.2.1 s.2.2.2.1) (Zad s.2.2.2.2.2.2.2.2.1.1 j)=false)↔(∀ j,j < List.length (ZaE s.2.2.2.2.2.2.2.2.1.1 true (List.length s.2.2.2.2.2.2.2.2.1.1))→List.any (ZaO st s.2.2.1 s.2.2.2.1) (Zmk st (Zad (ZaE s.2.2.2.2.2.2.2.2.1.1 true (List.length s.2.2.2.2.2.2.2.2.1.1)) j))=true):=by
      constructor
      · intro h j hj
        obtain ⟨h1,h2⟩:=Zj0.1 (ZfO.2 ⟨j,hj,rfl⟩)
        obtain ⟨i,hi,e⟩:=ZfO.1 h1
        have h3:=Zxo.1 (h i hi) (by rw [e]; exact h2)
        rw [e] at h3
        exact ZCR.2 ⟨h3.1,congrArg (fun z:Zaz=>z.2.2.1) h3.2⟩
      · intro h j hj
        refine Zxo.2 fun h1=>?_
        obtain ⟨i,hi,e⟩:=ZfO.1 (Zj0.2 ⟨ZfO.2 ⟨j,hj,rfl⟩,h1⟩)
        have h3:=h i hi
        rw [e] at h3
        obtain ⟨h4,h5⟩:=ZCR.1 h3
        refine ⟨h4,?_⟩
        have h6:=ZAP (hok _ (ZfO.2 ⟨j,hj,rfl⟩)) h1
        exact Prod.ext h1 (Prod.ext rfl (Prod.ext h5 h6))
    by_cases hb:∀ j,j < List.length s.2.2.2.2.2.2.2.2.1.1→ZqP st (ZaO st s.2.2.1 s.2.2.2.1) (Zad s.2.2.2.2.2.2.2.2.1.1 j)=false
    · rw [decide_eq_true hb,decide_eq_true (e1.1 hb),Bool.true_and,Bool.true_and,decide_eq_decide]
      refine forall_congr' fun k=>forall_congr' fun hk=>?_
      rw [ZFc,ZCS]
      refine or_congr Iff.rfl ⟨fun h=>⟨_,Zj0.2 ⟨h,rfl⟩,rfl⟩,?_⟩
      rintro ⟨z,h1,h2⟩
      obtain ⟨h3,h4⟩:=Zj0.1 h1
      obtain ⟨j,hj,e⟩:=ZfO.1 h3
      have h5:=(Zxo.1 (hb j hj) (by rw [e]; exact h4)).2
      rw [e,h2] at h5
      rw [← h5]
      exact h3
    · rw [decide_eq_false hb,decide_eq_false (fun h=>hb (e1.2 h)),Bool.false_and,Bool.false_and]
end Go.Proofs.YtkompmgleojmlaaGreat
