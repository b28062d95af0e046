import Derived.Test.YtkompmgleojmlaaGreatDBlApp
set_option linter.unusedSimpArgs false
set_option linter.unusedVariables false
set_option maxRecDepth 100000
set_option maxHeartbeats 4000000
namespace Go.Proofs.YtkompmgleojmlaaGreat
open Go.ChangeShapes Go.WideShapes Go.ChangeAt Go.RowKit Go.Joins Go.Deep
open GoRep (rep bulk)
def apB (l:List Zaw) (m:Zam):List Zaw:=bif Zet l m then ZdM l m else l
def ZKm (l:List Zaw) (m:Zam):Prop:=ZbA l∧¬ (Zet l m=true∧m.1=3)
def Zdc (l:List Zaw) (m:Zam):Prop:=(ix 4 (boxW l m.2.1) (List.length l))
def Zqu (r0:List Zaw) (l:List Zaw) (m:Zam):Prop:=(T3 (pt (((r0=(apB l m))∧(cB true (Zet l m))∧True))))
def Zhz (l:List Zaw) (m:Zam):Prop:=((True∧List.length (([]:List Zc7) ++ (List.drop (Int.toNat 0) (List.take (Int.toNat (Zbl (Zaa l (Int.toNat (boxW l m.2.1))).2.2.2 m.2.2.1)) (Zaa l (Int.toNat (boxW l m.2.1))).2.2.2))) + List.length (List.drop (Int.toNat (w64 (Zbl (Zaa l (Int.toNat (boxW l m.2.1))).2.2.2 m.2.2.1 + 1))) (List.take (List.length (Zaa l (Int.toNat (boxW l m.2.1))).2.2.2) (Zaa l (Int.toNat (boxW l m.2.1))).2.2.2))≤rowMax)∧((Zdc l m)∧(T2 (∀ r0:List Zaw,r0=(List.set l (Int.toNat (boxW l m.2.1)) ((Zaa l (Int.toNat (boxW l m.2.1))).1,((Zaa l (Int.toNat (boxW l m.2.1))).2.1,((Zaa l (Int.toNat (boxW l m.2.1))).2.2.1,((([]:List Zc7) ++ (List.drop (Int.toNat 0) (List.take (Int.toNat (Zbl (Zaa l (Int.toNat (boxW l m.2.1))).2.2.2 m.2.2.1)) (Zaa l (Int.toNat (boxW l m.2.1))).2.2.2))) ++ (List.drop (Int.toNat (w64 (Zbl (Zaa l (Int.toNat (boxW l m.2.1))).2.2.2 m.2.2.1 + 1))) (List.take (List.length (Zaa l (Int.toNat (boxW l m.2.1))).2.2.2) (Zaa l (Int.toNat (boxW l m.2.1))).2.2.2)))))))→(Zqu r0 l m)))))
def ZhA (l:List Zaw) (m:Zam):Prop:=((3:Nat)=3∧((0:Int)≤(w64 (Zbl (Zaa l (Int.toNat (boxW l m.2.1))).2.2.2 m.2.2.1 + 1))∧((w64 (Zbl (Zaa l (Int.toNat (boxW l m.2.1))).2.2.2 m.2.2.1 + 1)):Int)≤(List.length (Zaa l (Int.toNat (boxW l m.2.1))).2.2.2:Int)∧((List.length (Zaa l (Int.toNat (boxW l m.2.1))).2.2.2:Int):Int)≤(List.length (Zaa l (Int.toNat (boxW l m.2.1))).2.2.2:Int)))
def ZcR (l:List Zaw) (m:Zam):Prop:=(True∧List.length ([]:List Zc7) + List.length (List.drop (Int.toNat 0) (List.take (Int.toNat (Zbl (Zaa l (Int.toNat (boxW l m.2.1))).2.2.2 m.2.2.1)) (Zaa l (Int.toNat (boxW l m.2.1))).2.2.2))≤rowMax)
def Ze1 (l:List Zaw) (m:Zam):Prop:=(True∧(((ZcR l m)∧(True∧((ZhA l m)∧(Zhz l m))))∧((True∧(((ZcR l m)∧((ZhA l m)∧(Zhz l m)))∧(((ZhA l m)∧((ZcR l m)∧(Zhz l m)))))))))
def ZmF (l:List Zaw) (m:Zam):Prop:=(True∧((Ze1 l m)∧((True∧((True∧(((ZcR l m)∧((ZhA l m)∧(Zhz l m)))∧(((ZhA l m)∧((ZcR l m)∧(Zhz l m))))))∧(((ZhA l m)∧(True∧((ZcR l m)∧(Zhz l m))))))))))
def Zeu (l:List Zaw) (m:Zam):Prop:=(T2 ((ZhA l m)∧(Zhz l m)))
def ZwJ (l:List Zaw) (m:Zam):Prop:=(((ZcR l m)∧(True∧(Zeu l m)))∧((True∧(((ZcR l m)∧(Zeu l m))∧((Ze1 l m)∧((Ze1 l m)))))∧((True∧(((ZcR l m)∧(Zeu l m))∧((Ze1 l m)))))))
theorem Zsx (l:List Zaw) (m:Zam) (hpre:ZKm l m):Zai Tryz.prog 148 [.c (.hs .no Zaf l), .ag (cellsOf Zae m)] (.tp [.c (.row 0 0), .c (.bool (Zet l m))]) [.row Zaf (apB l m) 0 0 none]:=by
  refine bc0 [Zly,ZwO,ZgQ,ZmP] [] [] [ZAN,Zo9] L0 Tryz.func148 (fun hwf=>?_)
  refine Eq.mpr (β:=(T4 ((pt (ZbA l))∧(T3 ((pt True)∧(True∧(bif (!(Zet l m)) then (T3 (pt (((l=(apB l m))∧(cB false (Zet l m))∧True)))) else (T3 ((pt True)∧(T5 (bif (eqI m.1 1) then (T6 ((pt (ZJL l∧((l=l)∧(((cS m.2.2.2.2.1 m.2.2.2.2.1)∧(cI m.2.1 m.2.1)∧(cI 1 1)∧(([]:List Zc7)=[])∧True))∧True)))∧∀ r0:List Zaw,r0=([]:List Zaw)→(T2 (pt ((((Zmg l (m.2.2.2.2.1,(m.2.1,(1,([]:List Zc7)))))=(apB l m))∧(cB true (Zet l m))∧True)))))) else (T2 (bif (eqI m.1 2) then (T2 ((pt (ZIe l (boxW l m.2.1)∧((l=l)∧True)))∧∀ r0:List Zaw,r0=([]:List Zaw)→(T2 (pt ((((Zlu l (Int.toNat (boxW l m.2.1)))=(apB l m))∧(cB true (Zet l m))∧True)))))) else (T2 (bif (eqI m.1 3) then (T2 ((Zdc l m)∧(T7 ((pt (true=true))∧(T2 (((pt (ZIe l (boxW l m.2.1)∧((l=l)∧True)))∧∀ r0:List Zaw,r0=([]:List Zaw)→(True∧False))∧((True∧((pt (ZIe l (boxW l m.2.1)∧((l=l)∧True)))∧∀ r0:List Zaw,r0=([]:List Zaw)→False))))))))) else (T2 (bif (eqI m.1 4) then ((pt (true=true))∧(T4 ((Zdc l m)∧(T10 ((True∧List.length (Zaa l (Int.toNat (boxW l m.2.1))).2.2.2 + List.length ([(m.2.2.1,(m.2.2.2.1,m.2.2.2.2.2))])≤rowMax)∧((Zdc l m)∧(True∧(((Int.toNat (boxW l m.2.1)):Nat)=(Int.toNat (boxW l m.2.1))∧(T5 ((ix 4 (boxW l m.2.1) (List.length (List.set l (Int.toNat (boxW l m.2.1)) ((Zaa l (Int.toNat (boxW l m.2.1))).1,((Zaa l (Int.toNat (boxW l m.2.1))).2.1,((Zaa l (Int.toNat (boxW l m.2.1))).2.2.1,((Zaa l (Int.toNat (boxW l m.2.1))).2.2.2 ++ [(m.2.2.1,(m.2.2.2.1,m.2.2.2.2.2))])))))))∧(T2 (∀ r0:List Zaw,r0=(List.set (List.set l (Int.toNat (boxW l m.2.1)) ((Zaa l (Int.toNat (boxW l m.2.1))).1,((Zaa l (Int.toNat (boxW l m.2.1))).2.1,((Zaa l (Int.toNat (boxW l m.2.1))).2.2.1,((Zaa l (Int.toNat (boxW l m.2.1))).2.2.2 ++ [(m.2.2.1,(m.2.2.2.1,m.2.2.2.2.2))]))))) (Int.toNat (boxW l m.2.1)) ((Zaa (List.set l (Int.toNat (boxW l m.2.1)) ((Zaa l (Int.toNat (boxW l m.2.1))).1,((Zaa l (Int.toNat (boxW l m.2.1))).2.1,((Zaa l (Int.toNat (boxW l m.2.1))).2.2.1,((Zaa l (Int.toNat (boxW l m.2.1))).2.2.2 ++ [(m.2.2.1,(m.2.2.2.1,m.2.2.2.2.2))]))))) (Int.toNat (boxW l m.2.1))).1,((Zaa (List.set l (Int.toNat (boxW l m.2.1)) ((Zaa l (Int.toNat (boxW l m.2.1))).1,((Zaa l (Int.toNat (boxW l m.2.1))).2.1,((Zaa l (Int.toNat (boxW l m.2.1))).2.2.1,((Zaa l (Int.toNat (boxW l m.2.1))).2.2.2 ++ [(m.2.2.1,(m.2.2.2.1,m.2.2.2.2.2))]))))) (Int.toNat (boxW l m.2.1))).2.1,((w64 (m.2.2.1 + 1)),(Zaa (List.set l (Int.toNat (boxW l m.2.1)) ((Zaa l (Int.toNat (boxW l m.2.1))).1,((Zaa l (Int.toNat (boxW l m.2.1))).2.1,((Zaa l (Int.toNat (boxW l m.2.1))).2.2.1,((Zaa l (Int.toNat (boxW l m.2.1))).2.2.2 ++ [(m.2.2.1,(m.2.2.2.1,m.2.2.2.2.2))]))))) (Int.toNat (boxW l m.2.1))).2.2.2))))→(Zqu r0 l m))))))))))))) else ((pt (true=true))∧(T2 ((Zdc l m)∧(T3 ((True∧pt (true=true))∧(T4 (bif (eqI m.1 5) then ((pt (true=true))∧(T2 ((Zdc l m)∧(T5 ((ix 3 (Zbl (Zaa l (Int.toNat (boxW l m.2.1))).2.2.2 m.2.2.1) (List.length (Zaa l (Int.toNat (boxW l m.2.1))).2.2.2))∧(T2 (∀ r0:List Zaw,r0=(List.set l (Int.toNat (boxW l m.2.1)) ((Zaa l (Int.toNat (boxW l m.2.1))).1,((Zaa l (Int.toNat (boxW l m.2.1))).2.1,((Zaa l (Int.toNat (boxW l m.2.1))).2.2.1,(List.set (Zaa l (Int.toNat (boxW l m.2.1))).2.2.2 (Int.toNat (Zbl (Zaa l (Int.toNat (boxW l m.2.1))).2.2.2 m.2.2.1)) ((Zay (Zaa l (Int.toNat (boxW l m.2.1))).2.2.2 (Int.toNat (Zbl (Zaa l (Int.toNat (boxW l m.2.1))).2.2.2 m.2.2.1))).1,(m.2.2.2.1,(Zay (Zaa l (Int.toNat (boxW l m.2.1))).2.2.2 (Int.toNat (Zbl (Zaa l (Int.toNat (boxW l m.2.1))).2.2.2 m.2.2.1))).2.2)))))))→(Zqu r0 l m)))))))) else ((pt (true=true))∧(T4 ((Zdc l m)∧(T3 (((3:Nat)=3∧((0:Int)≤0∧(0:Int)≤Zbl (Zaa l (Int.toNat (boxW l m.2.1))).2.2.2 m.2.2.1∧(Zbl (Zaa l (Int.toNat (boxW l m.2.1))).2.2.2 m.2.2.1:Int)≤(List.length (Zaa l (Int.toNat (boxW l m.2.1))).2.2.2:Int)))∧(T3 ((True∧(((ZcR l m)∧((Zdc l m)∧(True∧(Zeu l m))))∧(((Zdc l m)∧(ZwJ l m))∧((True∧(((ZcR l m)∧((Zdc l m)∧(Zeu l m)))∧(((Zdc l m)∧(((ZcR l m)∧(Zeu l m))∧((Ze1 l m)))))))))))∧(((Zdc l m)∧((True∧(ZwJ l m))∧((True∧((True∧(((ZcR l m)∧(Zeu l m))∧((Ze1 l m)∧((Ze1 l m)))))∧((ZmF l m)∧((ZmF l m)))))∧((True∧((True∧(((ZcR l m)∧(Zeu l m))∧((Ze1 l m))))∧((ZmF l m))))))))∧((True∧((True∧(((ZcR l m)∧((Zdc l m)∧(Zeu l m)))∧(((Zdc l m)∧(((ZcR l m)∧(Zeu l m))∧((Ze1 l m)))))))∧(((Zdc l m)∧((True∧(((ZcR l m)∧(Zeu l m))∧((Ze1 l m))))∧((ZmF l m)))))))))))))))))))))))))))))))))))))))) (by kernel_rfl) ?_
  unfold ZwJ Zeu ZmF Ze1 ZcR ZhA Zhz Zqu Zdc T10 T2 T3 T4 T5 T6 T7
  simp only [Zbd,Zbs,ZaY,Bool.not_true,Bool.not_false,Zdy,eq_self]
  refine ⟨hpre.1,fun hf=>?_,fun ha=>?_⟩
  · unfold apB
    rw [hf]
    exact ⟨rfl,rfl⟩
  · have hap:apB l m=ZdM l m:=by
      unfold apB
      rw [ha]
      rfl
    simp only [hap,ha]
    obtain ⟨hs,hl4,hbx,hcm,hft⟩:=ZgH ha
    have hw:=ZoD l m.2.1
    have hm:=ZAJ l m.2.2.2.2.1
    have hp:=ZuE (bxB l m).2.2.2 m.2.2.1
    have hc:=ZhE.1 hcm
    have hne:m.1 ≠ 1→0≤boxW l m.2.1:=fun h=>by
      exact ZvA
    have hk:m.1 ≠ 1→Int.toNat (boxW l m.2.1) < l.length:=fun h=>by have:=hne h; omega
    have hb6:m.1 ≠ 1→(bxB l m).2.2.2.length≤6∧(1≤(bxB l m).2.2.1∧(bxB l m).2.2.1≤999999999):=fun h=>by
      exact Zwv
    have hpm:m.1=5∨m.1=6→0≤Zbl (bxB l m).2.2.2 m.2.2.1:=fun h=>by
      exact Zvq
    have hwr:IntKind.wrap .i64 (boxW l m.2.1 + 1)=boxW l m.2.1 + 1:=Zgf (by omega) (by omega)
    have hwp:m.1 ≠ 1→IntKind.wrap .i64 (Zbl (bxB l m).2.2.2 m.2.2.1 + 1)=Zbl (bxB l m).2.2.2 m.2.2.1 + 1:=fun h=>by have:=hb6 h; exact Zgf (by omega) (by omega)
    have hf:=Zik.1 hft
    refine ⟨fun h1=>⟨by show List.length l≤1048576; omega,fun _ _=>⟨by unfold ZdM; rw [if_pos h1],trivial⟩⟩,fun h1=>⟨fun h2=>⟨⟨hne h1,hw.2,by omega⟩,fun _ _=>⟨by unfold ZdM; rw [if_neg h1,if_pos h2],trivial⟩⟩,fun h2=>⟨fun h3=>absurd ⟨ha,h3⟩ hpre.2,fun h3=>⟨fun h4=>?_,fun h4=>⟨⟨hne h1,hw.2⟩,fun h5=>?_,fun h5=>?_⟩⟩⟩⟩⟩
    · have e:∀ X:Zaw,Zaa (l.set (Int.toNat (boxW l m.2.1)) X) (Int.toNat (boxW l m.2.1))=X:=fun X=>Zeo (t:=Zaf) (hk h1)
      have h6:List.length (Zaa l (Int.toNat (boxW l m.2.1))).2.2.2≤6∧1≤(Zaa l (Int.toNat (boxW l m.2.1))).2.2.1∧(Zaa l (Int.toNat (boxW l m.2.1))).2.2.1≤999999999:=hb6 h1
      have hu:m.2.2.1=(Zaa l (Int.toNat (boxW l m.2.1))).2.2.1:=by
        rcases hf with h | ⟨_,_,h | h | h | h⟩
        · omega
        · omega
        · exact h.2.1
        · omega
        · omega
      simp only [e,List.set_set,List.length_set]
      rw [Zgf (by omega) (by omega)]
      refine ⟨⟨hne h1,hw.2⟩,by unfold rowMax; simp; omega,⟨hne h1,hw.2⟩,⟨hne h1,hw.2⟩,fun r0 hr0=>⟨?_,trivial⟩⟩
      subst hr0
      unfold ZdM
      rw [if_neg h1,if_neg h2,if_neg h3,if_pos h4,hu]
    · refine ⟨⟨hne h1,hw.2⟩,⟨hpm (.inl h5),hp.2⟩,fun r0 hr0=>⟨?_,trivial⟩⟩
      subst hr0
      exact Zwt
    · have h6:m.1=6:=by rcases hc.2 with h | h | h | h | h <;> omega
      obtain ⟨ms,hms⟩:∃ ms,ms=(Zaa l (Int.toNat (boxW l m.2.1))).2.2.2:=⟨_,rfl⟩
      obtain ⟨p,hpe⟩:∃ p,p=Zbl ms m.2.2.1:=⟨_,rfl⟩
      have hml:List.length ms≤6:=by rw [hms]; exact (hb6 h1).1
      have hp0:0≤p:=by rw [hpe,hms]; exact hpm (.inr h6)
      have hpl:p < ((List.length ms:Nat):Int):=by rw [hpe,hms]; exact hp.2
      have hres:ZdM l m=l.set (Int.toNat (boxW l m.2.1)) ((Zaa l (Int.toNat (boxW l m.2.1))).1,(Zaa l (Int.toNat (boxW l m.2.1))).2.1,(Zaa l (Int.toNat (boxW l m.2.1))).2.2.1,List.take (Int.toNat p) ms ++ List.drop (Int.toNat p + 1) ms):=by
        unfold ZdM
        rw [if_neg h1,if_neg h2,if_neg h3,if_neg h4,if_neg h5,hpe,hms]
      rw [hres]
      simp only [← hms,← hpe]
      have hk2:=hne h1
      have hw2:=hw.2
      have e1:Int.toNat (p + 1)=Int.toNat p + 1:=by omega
      simp only [Zgf (show -9223372036854775808≤p + 1 by omega) (show p + 1≤9223372036854775807 by omega),e1,Int.toNat_zero,List.drop_zero,List.nil_append,List.take_length,List.length_nil,Nat.zero_add,List.length_append,List.length_take,List.length_drop]
      clear hres hpe hms hft hpm hp hb6 hwp hbx
      unfold rowMax
      repeat' (first | apply And.intro | intro _)
      all_goals first
        | trivial
        | omega
        | assumption
end Go.Proofs.YtkompmgleojmlaaGreat
