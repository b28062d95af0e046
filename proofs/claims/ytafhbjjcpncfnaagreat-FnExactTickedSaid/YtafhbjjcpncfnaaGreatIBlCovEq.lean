import Derived.Test.YtafhbjjcpncfnaaGreatIBlCov
set_option linter.unusedSimpArgs false
set_option linter.unusedVariables false
namespace Go.Proofs.YtafhbjjcpncfnaaGreat
open Go.ChangeShapes Go.WideShapes Go.ChangeAt Go.RowKit Go.Joins Go.Deep
open GoRep (rep bulk)
theorem Zht {l:List ZaM} {z:ZaM}:z ∈ l↔∃ j,j < l.length∧Zaf l j=z:=by
 constructor
 ·intro h
  obtain ⟨j,hj,e⟩:=List.mem_iff_getElem.1 h
  exact ⟨j,hj,(Zcb (t:=Zal) (List.getElem?_eq_getElem hj)).trans e⟩
 ·rintro ⟨j,hj,rfl⟩
  exact List.mem_of_getElem? (Zat (t:=Zal) hj)
theorem ZEn {l:List ZaM} {z:ZaM}:∀ {k:Nat},z ∈ ZaY l true k↔∃ j,j < k∧Zaf l j=z∧z.1=1
 | 0=>by
  constructor
  ·intro h; cases h
  ·rintro ⟨j,h,_⟩; omega
 | k + 1=>by
  have ih:=ZEn (l:=l) (z:=z) (k:=k)
  unfold ZaY
  constructor
  ·intro h
   split at h
   ·rename_i h1
    rcases List.mem_append.1 h with h2 | h2
    ·obtain ⟨j,q1,q2⟩:=ih.1 h2
     exact ⟨j,by omega,q2⟩
    ·have e:=List.mem_singleton.1 h2
     exact ⟨k,by omega,e.symm,by rw [e]; exact ZaJ.1 h1⟩
   ·obtain ⟨j,q1,q2⟩:=ih.1 h
    exact ⟨j,by omega,q2⟩
  ·rintro ⟨j,q1,q2,q3⟩
   by_cases hj:j=k
   ·subst hj
    rw [if_pos (by rw [q2]; exact ZaJ.2 q3),q2]
    exact List.mem_append_right _ (List.mem_singleton.2 rfl)
   ·have h2:=ih.2 ⟨j,by omega,q2,q3⟩
    split
    ·exact List.mem_append_left _ h2
    ·exact h2
theorem ZlZ {l:List ZaM} {z:ZaM}:z ∈ ZaY l true l.length↔z ∈ l∧z.1=1:=by
 rw [ZEn,Zht]
 exact ⟨fun ⟨j,a,b,c⟩=>⟨⟨j,a,b⟩,c⟩,fun ⟨⟨j,a,b⟩,c⟩=>⟨j,a,b,c⟩⟩
theorem ZBz {st:ZaI} {L:List Int} {n:ZaM}:ZtQ st L n=false↔(n.1=1→n.2.1 ∈ L∧n=Ze8 (Zac st.2.1 (Int.toNat n.2.1)) n.2.1):=by
 unfold ZtQ
 rw [Bool.and_eq_false_iff,Bool.or_eq_false_iff,ZaS,Bool.not_eq_false',Bool.not_eq_false',Zdi,List.any_eq_true]
 constructor
 ·intro h hk
  rcases h with h | ⟨⟨x,hx,e⟩,h2⟩
  ·exact absurd hk h
  ·rw [ZaJ] at e
   exact ⟨by rw [e]; exact hx,h2⟩
 ·intro h
  by_cases hk:n.1=1
  ·obtain ⟨h1,h2⟩:=h hk
   exact .inr ⟨⟨_,h1,ZaJ.2 rfl⟩,h2⟩
  ·exact .inl hk
theorem ZMa {N:List ZaM} {v:ZaM}:ZFD N v=true↔v ∈ N:=by
 unfold ZFD
 rw [List.any_eq_true]
 constructor
 ·rintro ⟨x,hx,e⟩
  rw [Zdi.1 e]
  exact hx
 ·intro h
  exact ⟨v,h,Zdi.2 rfl⟩
theorem ZJX {st:ZaI} {L:List Int} {N:List ZaM} {k:Nat}:ZkJ st L N k=false↔(Zhr st L k=true∨Ze8 (Zac st.2.1 (Int.toNat (Zar L k))) (Zar L k) ∈ N):=by
 unfold ZkJ
 rw [Bool.and_eq_false_iff,Bool.not_eq_false',Bool.not_eq_false',ZMa]
theorem ZHE {st:ZaI} {L:List Int} {n:ZaM}:List.any L (ZoD st n)=true↔n.2.1 ∈ L∧n.2.2.1=ZFq (Zac st.2.1 (Int.toNat n.2.1)):=by
 rw [List.any_eq_true]
 constructor
 ·rintro ⟨x,hx,e⟩
  unfold ZoD at e
  rw [Bool.and_eq_true,ZaJ,ZaJ] at e
  obtain ⟨e1,e2⟩:=e
  subst e1
  exact ⟨hx,e2⟩
 ·rintro ⟨h1,h2⟩
  refine ⟨_,h1,?_⟩
  unfold ZoD
  rw [Bool.and_eq_true,ZaJ,ZaJ]
  exact ⟨rfl,h2⟩
theorem ZHF {st:ZaI} {L:List Int} {N:List ZaM} {k:Nat}:Zok st L N k=false↔(Zhr st L k=true∨∃ z,z ∈ N∧z.2.1=Zar L k):=by
 unfold Zok
 rw [Bool.not_eq_false',Bool.or_eq_true,List.any_eq_true]
 constructor
 ·rintro (h | ⟨z,h1,h2⟩)
  ·exact .inl h
  ·exact .inr ⟨z,h1,ZaJ.1 h2⟩
 ·rintro (h | ⟨z,h1,h2⟩)
  ·exact .inl h
  ·exact .inr ⟨z,h1,ZaJ.2 h2⟩
theorem ZFm {n:ZaM} (h:Zc9 n=true) (h1:n.1=1):n.2.2.2=(⟨#[]⟩:ByteArray):=by
 rw [Zc9,if_pos h1,Bool.and_eq_true,Bool.and_eq_true,Zbp] at h
 exact h.2.2
theorem ZNa {st:ZaI} {s:Zad} (hq:Zcg s.2.2.2.2.2.2.2.2.1=true):ZrR st s=ZrJ st s:=by
 have hok:∀ n,n ∈ s.2.2.2.2.2.2.2.2.1.1→Zc9 n=true:=fun n hn=>by
  obtain ⟨j,hj,rfl⟩:=Zht.1 hn
  exact ZHR ((of_decide_eq_true hq).1 j hj)
 unfold ZrR ZrJ
 split
 ·rfl
 ·have e1:(∀ j,j < List.length s.2.2.2.2.2.2.2.2.1.1→ZtQ st (Zbe st s.2.2.1 s.2.2.2.1) (Zaf s.2.2.2.2.2.2.2.2.1.1 j)=false)↔(∀ j,j < List.length (ZaY s.2.2.2.2.2.2.2.2.1.1 true (List.length s.2.2.2.2.2.2.2.2.1.1))→List.any (Zbe st s.2.2.1 s.2.2.2.1) (ZoD st (Zaf (ZaY s.2.2.2.2.2.2.2.2.1.1 true (List.length s.2.2.2.2.2.2.2.2.1.1)) j))=true):=by
   constructor
   ·intro h j hj
    obtain ⟨h1,h2⟩:=ZlZ.1 (Zht.2 ⟨j,hj,rfl⟩)
    obtain ⟨i,hi,e⟩:=Zht.1 h1
    have h3:=ZBz.1 (h i hi) (by rw [e]; exact h2)
    rw [e] at h3
    exact ZHE.2 ⟨h3.1,congrArg (fun z:ZaM=>z.2.2.1) h3.2⟩
   ·intro h j hj
    refine ZBz.2 fun h1=>?_
    obtain ⟨i,hi,e⟩:=Zht.1 (ZlZ.2 ⟨Zht.2 ⟨j,hj,rfl⟩,h1⟩)
    have h3:=h i hi
    rw [e] at h3
    obtain ⟨h4,h5⟩:=ZHE.1 h3
    refine ⟨h4,?_⟩
    have h6:=ZFm (hok _ (Zht.2 ⟨j,hj,rfl⟩)) h1
    exact Prod.ext h1 (Prod.ext rfl (Prod.ext h5 h6))
  by_cases hb:∀ j,j < List.length s.2.2.2.2.2.2.2.2.1.1→ZtQ st (Zbe st s.2.2.1 s.2.2.2.1) (Zaf s.2.2.2.2.2.2.2.2.1.1 j)=false
  ·rw [decide_eq_true hb,decide_eq_true (e1.1 hb),Bool.true_and,Bool.true_and,decide_eq_decide]
   refine forall_congr' fun k=>forall_congr' fun hk=>?_
   rw [ZJX,ZHF]
   refine or_congr Iff.rfl ⟨fun h=>⟨_,ZlZ.2 ⟨h,rfl⟩,rfl⟩,?_⟩
   rintro ⟨z,h1,h2⟩
   obtain ⟨h3,h4⟩:=ZlZ.1 h1
   obtain ⟨j,hj,e⟩:=Zht.1 h3
   have h5:=(ZBz.1 (hb j hj) (by rw [e]; exact h4)).2
   rw [e,h2] at h5
   rw [← h5]
   exact h3
  ·rw [decide_eq_false hb,decide_eq_false (fun h=>hb (e1.2 h)),Bool.false_and,Bool.false_and]
end Go.Proofs.YtafhbjjcpncfnaaGreat
