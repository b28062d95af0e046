import Derived.Test.YtkompmgleojmlaaGreatFBlApp
set_option linter.unusedSimpArgs false
set_option linter.unusedVariables false
set_option maxRecDepth 100000
set_option maxHeartbeats 4000000
namespace Go.Proofs.YtkompmgleojmlaaGreat
open Go.ChangeShapes Go.WideShapes Go.ChangeAt Go.RowKit Go.Joins Go.Deep
open GoRep (rep bulk)
def apB (l:List ZaM) (m:Zax):List ZaM:=bif Ze3 l m then Zec l m else l
def ZKv (l:List ZaM) (m:Zax):Prop:=ZbO l∧¬ (Ze3 l m=true∧m.1=3)
def Zdw (l:List ZaM) (m:Zax):Prop:=(ix 4 (boxW l m.2.1) (List.length l))
def Zrn (r0:List ZaM) (l:List ZaM) (m:Zax):Prop:=(T3 (pt (((r0=(apB l m))∧(cB true (Ze3 l m))∧True))))
def Ziu (l:List ZaM) (m:Zax):Prop:=((True∧List.length (([]:List ZcU) ++ (List.drop (Int.toNat 0) (List.take (Int.toNat (ZbH (Zab l (Int.toNat (boxW l m.2.1))).2.2.2 m.2.2.1)) (Zab l (Int.toNat (boxW l m.2.1))).2.2.2))) + List.length (List.drop (Int.toNat (w64 (ZbH (Zab l (Int.toNat (boxW l m.2.1))).2.2.2 m.2.2.1 + 1))) (List.take (List.length (Zab l (Int.toNat (boxW l m.2.1))).2.2.2) (Zab l (Int.toNat (boxW l m.2.1))).2.2.2))≤rowMax)∧((Zdw l m)∧(T2 (∀ r0:List ZaM,r0=(List.set l (Int.toNat (boxW l m.2.1)) ((Zab l (Int.toNat (boxW l m.2.1))).1,((Zab l (Int.toNat (boxW l m.2.1))).2.1,((Zab l (Int.toNat (boxW l m.2.1))).2.2.1,((([]:List ZcU) ++ (List.drop (Int.toNat 0) (List.take (Int.toNat (ZbH (Zab l (Int.toNat (boxW l m.2.1))).2.2.2 m.2.2.1)) (Zab l (Int.toNat (boxW l m.2.1))).2.2.2))) ++ (List.drop (Int.toNat (w64 (ZbH (Zab l (Int.toNat (boxW l m.2.1))).2.2.2 m.2.2.1 + 1))) (List.take (List.length (Zab l (Int.toNat (boxW l m.2.1))).2.2.2) (Zab l (Int.toNat (boxW l m.2.1))).2.2.2)))))))→(Zrn r0 l m)))))
def Ziv (l:List ZaM) (m:Zax):Prop:=((3:Nat)=3∧((0:Int)≤(w64 (ZbH (Zab l (Int.toNat (boxW l m.2.1))).2.2.2 m.2.2.1 + 1))∧((w64 (ZbH (Zab l (Int.toNat (boxW l m.2.1))).2.2.2 m.2.2.1 + 1)):Int)≤(List.length (Zab l (Int.toNat (boxW l m.2.1))).2.2.2:Int)∧((List.length (Zab l (Int.toNat (boxW l m.2.1))).2.2.2:Int):Int)≤(List.length (Zab l (Int.toNat (boxW l m.2.1))).2.2.2:Int)))
def Zde (l:List ZaM) (m:Zax):Prop:=(True∧List.length ([]:List ZcU) + List.length (List.drop (Int.toNat 0) (List.take (Int.toNat (ZbH (Zab l (Int.toNat (boxW l m.2.1))).2.2.2 m.2.2.1)) (Zab l (Int.toNat (boxW l m.2.1))).2.2.2))≤rowMax)
def ZfE (l:List ZaM) (m:Zax):Prop:=(True∧(((Zde l m)∧(True∧((Ziv l m)∧(Ziu l m))))∧((True∧(((Zde l m)∧((Ziv l m)∧(Ziu l m)))∧(((Ziv l m)∧((Zde l m)∧(Ziu l m)))))))))
def Zns (l:List ZaM) (m:Zax):Prop:=(True∧((ZfE l m)∧((True∧((True∧(((Zde l m)∧((Ziv l m)∧(Ziu l m)))∧(((Ziv l m)∧((Zde l m)∧(Ziu l m))))))∧(((Ziv l m)∧(True∧((Zde l m)∧(Ziu l m))))))))))
def Ze4 (l:List ZaM) (m:Zax):Prop:=(T2 ((Ziv l m)∧(Ziu l m)))
def Zxr (l:List ZaM) (m:Zax):Prop:=(((Zde l m)∧(True∧(Ze4 l m)))∧((True∧(((Zde l m)∧(Ze4 l m))∧((ZfE l m)∧((ZfE l m)))))∧((True∧(((Zde l m)∧(Ze4 l m))∧((ZfE l m)))))))
theorem Ztd (l:List ZaM) (m:Zax) (hpre:ZKv l m):Zat Tryz.prog 148 [.c (.hs .no Zak l), .ag (cellsOf Zah m)] (.tp [.c (.row 0 0), .c (.bool (Ze3 l m))]) [.row Zak (apB l m) 0 0 none]:=by
  refine bc0 [Ziw,Zxw,Zkj,ZnH] [] [] [ZBe,ZpR] L0 Tryz.func148 (fun hwf=>?_)
  refine Eq.mpr (β:=(T4 ((pt (ZbO l))∧(T3 ((pt True)∧(True∧(bif (!(Ze3 l m)) then (T3 (pt (((l=(apB l m))∧(cB false (Ze3 l m))∧True)))) else (T3 ((pt True)∧(T5 (bif (eqI m.1 1) then (T6 ((pt (ZJX l∧((l=l)∧(((cS m.2.2.2.2.1 m.2.2.2.2.1)∧(cI m.2.1 m.2.1)∧(cI 1 1)∧(([]:List ZcU)=[])∧True))∧True)))∧∀ r0:List ZaM,r0=([]:List ZaM)→(T2 (pt ((((Zm7 l (m.2.2.2.2.1,(m.2.1,(1,([]:List ZcU)))))=(apB l m))∧(cB true (Ze3 l m))∧True)))))) else (T2 (bif (eqI m.1 2) then (T2 ((pt (ZIv l (boxW l m.2.1)∧((l=l)∧True)))∧∀ r0:List ZaM,r0=([]:List ZaM)→(T2 (pt ((((Zmi l (Int.toNat (boxW l m.2.1)))=(apB l m))∧(cB true (Ze3 l m))∧True)))))) else (T2 (bif (eqI m.1 3) then (T2 ((Zdw l m)∧(T7 ((pt (true=true))∧(T2 (((pt (ZIv l (boxW l m.2.1)∧((l=l)∧True)))∧∀ r0:List ZaM,r0=([]:List ZaM)→(True∧False))∧((True∧((pt (ZIv l (boxW l m.2.1)∧((l=l)∧True)))∧∀ r0:List ZaM,r0=([]:List ZaM)→False))))))))) else (T2 (bif (eqI m.1 4) then ((pt (true=true))∧(T4 ((Zdw l m)∧(T10 ((True∧List.length (Zab l (Int.toNat (boxW l m.2.1))).2.2.2 + List.length ([(m.2.2.1,(m.2.2.2.1,m.2.2.2.2.2))])≤rowMax)∧((Zdw l m)∧(True∧(((Int.toNat (boxW l m.2.1)):Nat)=(Int.toNat (boxW l m.2.1))∧(T5 ((ix 4 (boxW l m.2.1) (List.length (List.set l (Int.toNat (boxW l m.2.1)) ((Zab l (Int.toNat (boxW l m.2.1))).1,((Zab l (Int.toNat (boxW l m.2.1))).2.1,((Zab l (Int.toNat (boxW l m.2.1))).2.2.1,((Zab l (Int.toNat (boxW l m.2.1))).2.2.2 ++ [(m.2.2.1,(m.2.2.2.1,m.2.2.2.2.2))])))))))∧(T2 (∀ r0:List ZaM,r0=(List.set (List.set l (Int.toNat (boxW l m.2.1)) ((Zab l (Int.toNat (boxW l m.2.1))).1,((Zab l (Int.toNat (boxW l m.2.1))).2.1,((Zab l (Int.toNat (boxW l m.2.1))).2.2.1,((Zab l (Int.toNat (boxW l m.2.1))).2.2.2 ++ [(m.2.2.1,(m.2.2.2.1,m.2.2.2.2.2))]))))) (Int.toNat (boxW l m.2.1)) ((Zab (List.set l (Int.toNat (boxW l m.2.1)) ((Zab l (Int.toNat (boxW l m.2.1))).1,((Zab l (Int.toNat (boxW l m.2.1))).2.1,((Zab l (Int.toNat (boxW l m.2.1))).2.2.1,((Zab l (Int.toNat (boxW l m.2.1))).2.2.2 ++ [(m.2.2.1,(m.2.2.2.1,m.2.2.2.2.2))]))))) (Int.toNat (boxW l m.2.1))).1,((Zab (List.set l (Int.toNat (boxW l m.2.1)) ((Zab l (Int.toNat (boxW l m.2.1))).1,((Zab l (Int.toNat (boxW l m.2.1))).2.1,((Zab l (Int.toNat (boxW l m.2.1))).2.2.1,((Zab l (Int.toNat (boxW l m.2.1))).2.2.2 ++ [(m.2.2.1,(m.2.2.2.1,m.2.2.2.2.2))]))))) (Int.toNat (boxW l m.2.1))).2.1,((w64 (m.2.2.1 + 1)),(Zab (List.set l (Int.toNat (boxW l m.2.1)) ((Zab l (Int.toNat (boxW l m.2.1))).1,((Zab l (Int.toNat (boxW l m.2.1))).2.1,((Zab l (Int.toNat (boxW l m.2.1))).2.2.1,((Zab l (Int.toNat (boxW l m.2.1))).2.2.2 ++ [(m.2.2.1,(m.2.2.2.1,m.2.2.2.2.2))]))))) (Int.toNat (boxW l m.2.1))).2.2.2))))→(Zrn r0 l m))))))))))))) else ((pt (true=true))∧(T2 ((Zdw l m)∧(T3 ((True∧pt (true=true))∧(T4 (bif (eqI m.1 5) then ((pt (true=true))∧(T2 ((Zdw l m)∧(T5 ((ix 3 (ZbH (Zab l (Int.toNat (boxW l m.2.1))).2.2.2 m.2.2.1) (List.length (Zab l (Int.toNat (boxW l m.2.1))).2.2.2))∧(T2 (∀ r0:List ZaM,r0=(List.set l (Int.toNat (boxW l m.2.1)) ((Zab l (Int.toNat (boxW l m.2.1))).1,((Zab l (Int.toNat (boxW l m.2.1))).2.1,((Zab l (Int.toNat (boxW l m.2.1))).2.2.1,(List.set (Zab l (Int.toNat (boxW l m.2.1))).2.2.2 (Int.toNat (ZbH (Zab l (Int.toNat (boxW l m.2.1))).2.2.2 m.2.2.1)) ((ZaL (Zab l (Int.toNat (boxW l m.2.1))).2.2.2 (Int.toNat (ZbH (Zab l (Int.toNat (boxW l m.2.1))).2.2.2 m.2.2.1))).1,(m.2.2.2.1,(ZaL (Zab l (Int.toNat (boxW l m.2.1))).2.2.2 (Int.toNat (ZbH (Zab l (Int.toNat (boxW l m.2.1))).2.2.2 m.2.2.1))).2.2)))))))→(Zrn r0 l m)))))))) else ((pt (true=true))∧(T4 ((Zdw l m)∧(T3 (((3:Nat)=3∧((0:Int)≤0∧(0:Int)≤ZbH (Zab l (Int.toNat (boxW l m.2.1))).2.2.2 m.2.2.1∧(ZbH (Zab l (Int.toNat (boxW l m.2.1))).2.2.2 m.2.2.1:Int)≤(List.length (Zab l (Int.toNat (boxW l m.2.1))).2.2.2:Int)))∧(T3 ((True∧(((Zde l m)∧((Zdw l m)∧(True∧(Ze4 l m))))∧(((Zdw l m)∧(Zxr l m))∧((True∧(((Zde l m)∧((Zdw l m)∧(Ze4 l m)))∧(((Zdw l m)∧(((Zde l m)∧(Ze4 l m))∧((ZfE l m)))))))))))∧(((Zdw l m)∧((True∧(Zxr l m))∧((True∧((True∧(((Zde l m)∧(Ze4 l m))∧((ZfE l m)∧((ZfE l m)))))∧((Zns l m)∧((Zns l m)))))∧((True∧((True∧(((Zde l m)∧(Ze4 l m))∧((ZfE l m))))∧((Zns l m))))))))∧((True∧((True∧(((Zde l m)∧((Zdw l m)∧(Ze4 l m)))∧(((Zdw l m)∧(((Zde l m)∧(Ze4 l m))∧((ZfE l m)))))))∧(((Zdw l m)∧((True∧(((Zde l m)∧(Ze4 l m))∧((ZfE l m))))∧((Zns l m)))))))))))))))))))))))))))))))))))))))) (by kernel_rfl) ?_
  unfold Zxr Ze4 Zns ZfE Zde Ziv Ziu Zrn Zdw T10 T2 T3 T4 T5 T6 T7
  simp only [Zbw,ZbG,Zbf,Bool.not_true,Bool.not_false,Zd0,eq_self]
  refine ⟨hpre.1,fun hf=>?_,fun ha=>?_⟩
  · unfold apB
    rw [hf]
    exact ⟨rfl,rfl⟩
  · have hap:apB l m=Zec l m:=by
      unfold apB
      rw [ha]
      rfl
    simp only [hap,ha]
    obtain ⟨hs,hl4,hbx,hcm,hft⟩:=ZhE ha
    have hw:=Zpk l m.2.1
    have hm:=ZAX l m.2.2.2.2.1
    have hp:=Zvq (bxB l m).2.2.2 m.2.2.1
    have hc:=Ziz.1 hcm
    have hne:m.1 ≠ 1→0≤boxW l m.2.1:=fun h=>by
      exact Zwk
    have hk:m.1 ≠ 1→Int.toNat (boxW l m.2.1) < l.length:=fun h=>by have:=hne h; omega
    have hb6:m.1 ≠ 1→(bxB l m).2.2.2.length≤6∧(1≤(bxB l m).2.2.1∧(bxB l m).2.2.1≤999999999):=fun h=>by
      exact Zxc
    have hpm:m.1=5∨m.1=6→0≤ZbH (bxB l m).2.2.2 m.2.2.1:=fun h=>by
      exact Zwa
    have hwr:IntKind.wrap .i64 (boxW l m.2.1 + 1)=boxW l m.2.1 + 1:=ZaR (by omega) (by omega)
    have hwp:m.1 ≠ 1→IntKind.wrap .i64 (ZbH (bxB l m).2.2.2 m.2.2.1 + 1)=ZbH (bxB l m).2.2.2 m.2.2.1 + 1:=fun h=>by have:=hb6 h; exact ZaR (by omega) (by omega)
    have hf:=Zjd.1 hft
    refine ⟨fun h1=>⟨by show List.length l≤1048576; omega,fun _ _=>⟨by unfold Zec; rw [if_pos h1],trivial⟩⟩,fun h1=>⟨fun h2=>⟨⟨hne h1,hw.2,by omega⟩,fun _ _=>⟨by unfold Zec; rw [if_neg h1,if_pos h2],trivial⟩⟩,fun h2=>⟨fun h3=>absurd ⟨ha,h3⟩ hpre.2,fun h3=>⟨fun h4=>?_,fun h4=>⟨⟨hne h1,hw.2⟩,fun h5=>?_,fun h5=>?_⟩⟩⟩⟩⟩
    · have e:∀ X:ZaM,Zab (l.set (Int.toNat (boxW l m.2.1)) X) (Int.toNat (boxW l m.2.1))=X:=fun X=>ZaB (t:=Zak) (hk h1)
      have h6:List.length (Zab l (Int.toNat (boxW l m.2.1))).2.2.2≤6∧1≤(Zab l (Int.toNat (boxW l m.2.1))).2.2.1∧(Zab l (Int.toNat (boxW l m.2.1))).2.2.1≤999999999:=hb6 h1
      have hu:m.2.2.1=(Zab l (Int.toNat (boxW l m.2.1))).2.2.1:=by
        rcases hf with h | ⟨_,_,h | h | h | h⟩
        · omega
        · omega
        · exact h.2.1
        · omega
        · omega
      simp only [e,List.set_set,List.length_set]
      rw [ZaR (by omega) (by omega)]
      refine ⟨⟨hne h1,hw.2⟩,by unfold rowMax; simp; omega,⟨hne h1,hw.2⟩,⟨hne h1,hw.2⟩,fun r0 hr0=>⟨?_,trivial⟩⟩
      subst hr0
      unfold Zec
      rw [if_neg h1,if_neg h2,if_neg h3,if_pos h4,hu]
    · refine ⟨⟨hne h1,hw.2⟩,⟨hpm (.inl h5),hp.2⟩,fun r0 hr0=>⟨?_,trivial⟩⟩
      subst hr0
      exact Zxa
    · have h6:m.1=6:=by rcases hc.2 with h | h | h | h | h <;> omega
      obtain ⟨ms,hms⟩:∃ ms,ms=(Zab l (Int.toNat (boxW l m.2.1))).2.2.2:=⟨_,rfl⟩
      obtain ⟨p,hpe⟩:∃ p,p=ZbH ms m.2.2.1:=⟨_,rfl⟩
      have hml:List.length ms≤6:=by rw [hms]; exact (hb6 h1).1
      have hp0:0≤p:=by rw [hpe,hms]; exact hpm (.inr h6)
      have hpl:p < ((List.length ms:Nat):Int):=by rw [hpe,hms]; exact hp.2
      have hres:Zec l m=l.set (Int.toNat (boxW l m.2.1)) ((Zab l (Int.toNat (boxW l m.2.1))).1,(Zab l (Int.toNat (boxW l m.2.1))).2.1,(Zab l (Int.toNat (boxW l m.2.1))).2.2.1,List.take (Int.toNat p) ms ++ List.drop (Int.toNat p + 1) ms):=by
        unfold Zec
        rw [if_neg h1,if_neg h2,if_neg h3,if_neg h4,if_neg h5,hpe,hms]
      rw [hres]
      simp only [← hms,← hpe]
      have hk2:=hne h1
      have hw2:=hw.2
      have e1:Int.toNat (p + 1)=Int.toNat p + 1:=by omega
      simp only [ZaR (show -9223372036854775808≤p + 1 by omega) (show p + 1≤9223372036854775807 by omega),e1,Int.toNat_zero,List.drop_zero,List.nil_append,List.take_length,List.length_nil,Nat.zero_add,List.length_append,List.length_take,List.length_drop]
      clear hres hpe hms hft hpm hp hb6 hwp hbx
      unfold rowMax
      repeat' (first | apply And.intro | intro _)
      all_goals first
        | trivial
        | omega
        | assumption
end Go.Proofs.YtkompmgleojmlaaGreat
