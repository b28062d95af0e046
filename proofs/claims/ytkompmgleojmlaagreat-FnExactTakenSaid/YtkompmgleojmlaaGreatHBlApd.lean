import Derived.Test.YtkompmgleojmlaaGreatHBlApp
set_option linter.unusedSimpArgs false
set_option linter.unusedVariables false
set_option maxRecDepth 100000
set_option maxHeartbeats 4000000
namespace Go.Proofs.YtkompmgleojmlaaGreat
open Go.ChangeShapes Go.WideShapes Go.ChangeAt Go.RowKit Go.Joins Go.Deep
open GoRep (rep bulk)
def apB (l:List ZaM) (m:Zax):List ZaM:=bif ZfR l m then ZeV l m else l
def ZPJ (l:List ZaM) (m:Zax):Prop:=Zb1 l∧¬ (ZfR l m=true∧m.1=3)
def Zeh (l:List ZaM) (m:Zax):Prop:=ix 4 (boxW l m.2.1) l.length
def ZtG (r0:List ZaM) (l:List ZaM) (m:Zax):Prop:=T3 (pt ((r0=apB l m∧cB true (ZfR l m)∧True)))
def Zjq (l:List ZaM) (m:Zax):Prop:=(True∧List.length (([]:List Zds) ++ (List.drop (Int.toNat 0) (List.take (Int.toNat (Zb6 (Zab l (Int.toNat (boxW l m.2.1))).2.2.2 m.2.2.1)) (Zab l (Int.toNat (boxW l m.2.1))).2.2.2))) + List.length (List.drop (Int.toNat (w64 (Zb6 (Zab l (Int.toNat (boxW l m.2.1))).2.2.2 m.2.2.1 + 1))) (List.take (List.length (Zab l (Int.toNat (boxW l m.2.1))).2.2.2) (Zab l (Int.toNat (boxW l m.2.1))).2.2.2))≤rowMax)∧Zeh l m∧T2 (∀ r0:List ZaM,r0=List.set l (Int.toNat (boxW l m.2.1)) ((Zab l (Int.toNat (boxW l m.2.1))).1,(Zab l (Int.toNat (boxW l m.2.1))).2.1,(Zab l (Int.toNat (boxW l m.2.1))).2.2.1,((([]:List Zds) ++ (List.drop (Int.toNat 0) (List.take (Int.toNat (Zb6 (Zab l (Int.toNat (boxW l m.2.1))).2.2.2 m.2.2.1)) (Zab l (Int.toNat (boxW l m.2.1))).2.2.2))) ++ (List.drop (Int.toNat (w64 (Zb6 (Zab l (Int.toNat (boxW l m.2.1))).2.2.2 m.2.2.1 + 1))) (List.take (List.length (Zab l (Int.toNat (boxW l m.2.1))).2.2.2) (Zab l (Int.toNat (boxW l m.2.1))).2.2.2))))→ZtG r0 l m)
def Zjr (l:List ZaM) (m:Zax):Prop:=(3:Nat)=3∧(0:Int)≤(w64 (Zb6 (Zab l (Int.toNat (boxW l m.2.1))).2.2.2 m.2.2.1 + 1))∧((w64 (Zb6 (Zab l (Int.toNat (boxW l m.2.1))).2.2.2 m.2.2.1 + 1)):Int)≤(List.length (Zab l (Int.toNat (boxW l m.2.1))).2.2.2:Int)∧(List.length (Zab l (Int.toNat (boxW l m.2.1))).2.2.2:Int)≤(List.length (Zab l (Int.toNat (boxW l m.2.1))).2.2.2:Int)
def ZdT (l:List ZaM) (m:Zax):Prop:=True∧List.length ([]:List Zds) + List.length (List.drop (Int.toNat 0) (List.take (Int.toNat (Zb6 (Zab l (Int.toNat (boxW l m.2.1))).2.2.2 m.2.2.1)) (Zab l (Int.toNat (boxW l m.2.1))).2.2.2))≤rowMax
def Zgz (l:List ZaM) (m:Zax):Prop:=True∧(ZdT l m∧True∧Zjr l m∧Zjq l m)∧(True∧(ZdT l m∧Zjr l m∧Zjq l m)∧(Zjr l m∧ZdT l m∧Zjq l m))
def Zo4 (l:List ZaM) (m:Zax):Prop:=True∧Zgz l m∧(True∧(True∧(ZdT l m∧Zjr l m∧Zjq l m)∧(Zjr l m∧ZdT l m∧Zjq l m))∧(Zjr l m∧True∧ZdT l m∧Zjq l m))
def ZfS (l:List ZaM) (m:Zax):Prop:=T2 (Zjr l m∧Zjq l m)
def ZA4 (l:List ZaM) (m:Zax):Prop:=(ZdT l m∧True∧ZfS l m)∧(True∧(ZdT l m∧ZfS l m)∧Zgz l m∧(Zgz l m))∧(True∧(ZdT l m∧ZfS l m)∧(Zgz l m))
theorem Zv8 (l:List ZaM) (m:Zax) (hpre:ZPJ l m):Zam Tryz.prog 148 [.c (.hs .no Zaj l), .ag (cellsOf Zag m)] (.tp [.c (.row 0 0), .c (.bool (ZfR l m))]) [.row Zaj (apB l m) 0 0 none]:=by
 refine bc0 [Zjs,ZA9,ZiE,Zpi] [] [] [ZFF,Zr1] L0 Tryz.func148 (fun hwf=>?_)
 refine Eq.mpr (β:=T4 (pt (Zb1 l)∧T3 (pt True∧True∧bif !(ZfR l m) then T3 (pt ((l=apB l m∧cB false (ZfR l m)∧True))) else T3 (pt True∧T5 (bif eqI m.1 1 then T6 (pt (ZPa l∧l=l∧(cS m.2.2.2.2.1 m.2.2.2.2.1∧cI m.2.1 m.2.1∧cI 1 1∧([]:List Zds)=[]∧True)∧True)∧∀ r0:List ZaM,r0=([]:List ZaM)→T2 (pt (((ZoC l (m.2.2.2.2.1,m.2.1,1,([]:List Zds)))=apB l m∧cB true (ZfR l m)∧True)))) else T2 (bif eqI m.1 2 then T2 (pt (ZNB l (boxW l m.2.1)∧l=l∧True)∧∀ r0:List ZaM,r0=([]:List ZaM)→T2 (pt (((ZnG l (Int.toNat (boxW l m.2.1)))=apB l m∧cB true (ZfR l m)∧True)))) else T2 (bif eqI m.1 3 then T2 (Zeh l m∧T7 (pt (true=true)∧T2 ((pt (ZNB l (boxW l m.2.1)∧l=l∧True)∧∀ r0:List ZaM,r0=([]:List ZaM)→True∧False)∧(True∧pt (ZNB l (boxW l m.2.1)∧l=l∧True)∧∀ r0:List ZaM,r0=([]:List ZaM)→False)))) else T2 (bif eqI m.1 4 then pt (true=true)∧T4 (Zeh l m∧T10 ((True∧List.length (Zab l (Int.toNat (boxW l m.2.1))).2.2.2 + List.length ([(m.2.2.1,m.2.2.2.1,m.2.2.2.2.2)])≤rowMax)∧Zeh l m∧True∧((Int.toNat (boxW l m.2.1)):Nat)=Int.toNat (boxW l m.2.1)∧T5 (ix 4 (boxW l m.2.1) (List.length (List.set l (Int.toNat (boxW l m.2.1)) ((Zab l (Int.toNat (boxW l m.2.1))).1,(Zab l (Int.toNat (boxW l m.2.1))).2.1,(Zab l (Int.toNat (boxW l m.2.1))).2.2.1,((Zab l (Int.toNat (boxW l m.2.1))).2.2.2 ++ [(m.2.2.1,m.2.2.2.1,m.2.2.2.2.2)]))))∧T2 (∀ r0:List ZaM,r0=List.set (List.set l (Int.toNat (boxW l m.2.1)) ((Zab l (Int.toNat (boxW l m.2.1))).1,(Zab l (Int.toNat (boxW l m.2.1))).2.1,(Zab l (Int.toNat (boxW l m.2.1))).2.2.1,((Zab l (Int.toNat (boxW l m.2.1))).2.2.2 ++ [(m.2.2.1,m.2.2.2.1,m.2.2.2.2.2)]))) (Int.toNat (boxW l m.2.1)) ((Zab (List.set l (Int.toNat (boxW l m.2.1)) ((Zab l (Int.toNat (boxW l m.2.1))).1,(Zab l (Int.toNat (boxW l m.2.1))).2.1,(Zab l (Int.toNat (boxW l m.2.1))).2.2.1,((Zab l (Int.toNat (boxW l m.2.1))).2.2.2 ++ [(m.2.2.1,m.2.2.2.1,m.2.2.2.2.2)]))) (Int.toNat (boxW l m.2.1))).1,(Zab (List.set l (Int.toNat (boxW l m.2.1)) ((Zab l (Int.toNat (boxW l m.2.1))).1,(Zab l (Int.toNat (boxW l m.2.1))).2.1,(Zab l (Int.toNat (boxW l m.2.1))).2.2.1,((Zab l (Int.toNat (boxW l m.2.1))).2.2.2 ++ [(m.2.2.1,m.2.2.2.1,m.2.2.2.2.2)]))) (Int.toNat (boxW l m.2.1))).2.1,(w64 (m.2.2.1 + 1)),(Zab (List.set l (Int.toNat (boxW l m.2.1)) ((Zab l (Int.toNat (boxW l m.2.1))).1,(Zab l (Int.toNat (boxW l m.2.1))).2.1,(Zab l (Int.toNat (boxW l m.2.1))).2.2.1,((Zab l (Int.toNat (boxW l m.2.1))).2.2.2 ++ [(m.2.2.1,m.2.2.2.1,m.2.2.2.2.2)]))) (Int.toNat (boxW l m.2.1))).2.2.2)→ZtG r0 l m)))) else pt (true=true)∧T2 (Zeh l m∧T3 ((True∧pt (true=true))∧T4 (bif eqI m.1 5 then pt (true=true)∧T2 (Zeh l m∧T5 (ix 3 (Zb6 (Zab l (Int.toNat (boxW l m.2.1))).2.2.2 m.2.2.1) (List.length (Zab l (Int.toNat (boxW l m.2.1))).2.2.2)∧T2 (∀ r0:List ZaM,r0=List.set l (Int.toNat (boxW l m.2.1)) ((Zab l (Int.toNat (boxW l m.2.1))).1,(Zab l (Int.toNat (boxW l m.2.1))).2.1,(Zab l (Int.toNat (boxW l m.2.1))).2.2.1,(List.set (Zab l (Int.toNat (boxW l m.2.1))).2.2.2 (Int.toNat (Zb6 (Zab l (Int.toNat (boxW l m.2.1))).2.2.2 m.2.2.1)) ((ZaG (Zab l (Int.toNat (boxW l m.2.1))).2.2.2 (Int.toNat (Zb6 (Zab l (Int.toNat (boxW l m.2.1))).2.2.2 m.2.2.1))).1,m.2.2.2.1,(ZaG (Zab l (Int.toNat (boxW l m.2.1))).2.2.2 (Int.toNat (Zb6 (Zab l (Int.toNat (boxW l m.2.1))).2.2.2 m.2.2.1))).2.2)))→ZtG r0 l m))) else pt (true=true)∧T4 (Zeh l m∧T3 (((3:Nat)=3∧(0:Int)≤0∧(0:Int)≤Zb6 (Zab l (Int.toNat (boxW l m.2.1))).2.2.2 m.2.2.1∧(Zb6 (Zab l (Int.toNat (boxW l m.2.1))).2.2.2 m.2.2.1:Int)≤(List.length (Zab l (Int.toNat (boxW l m.2.1))).2.2.2:Int))∧T3 ((True∧(ZdT l m∧Zeh l m∧True∧ZfS l m)∧(Zeh l m∧ZA4 l m)∧(True∧(ZdT l m∧Zeh l m∧ZfS l m)∧(Zeh l m∧(ZdT l m∧ZfS l m)∧(Zgz l m))))∧(Zeh l m∧(True∧ZA4 l m)∧(True∧(True∧(ZdT l m∧ZfS l m)∧Zgz l m∧(Zgz l m))∧Zo4 l m∧(Zo4 l m))∧(True∧(True∧(ZdT l m∧ZfS l m)∧(Zgz l m))∧(Zo4 l m)))∧(True∧(True∧(ZdT l m∧Zeh l m∧ZfS l m)∧(Zeh l m∧(ZdT l m∧ZfS l m)∧(Zgz l m)))∧(Zeh l m∧(True∧(ZdT l m∧ZfS l m)∧(Zgz l m))∧(Zo4 l m))))))))))))))))) (by kernel_rfl) ?_
 unfold ZA4 ZfS Zo4 Zgz ZdT Zjr Zjq ZtG Zeh T10 T2 T3 T4 T5 T6 T7
 simp only [Zbe,Zbl,Zbt,Bool.not_true,Bool.not_false,Zdq,eq_self]
 refine ⟨hpre.1,fun hf=>?_,fun ha=>?_⟩
 ·unfold apB
  rw [hf]
  exact ⟨rfl,rfl⟩
 ·have hap:apB l m=ZeV l m:=by
   unfold apB
   rw [ha]
   rfl
  simp only [hap,ha]
  obtain ⟨hs,hl4,hbx,hcm,hft⟩:=Ziv ha
  have hw:=Zrr l m.2.1
  have hm:=ZFy l m.2.2.2.2.1
  have hp:=Zyy (bxB l m).2.2.2 m.2.2.1
  have hc:=Zjw.1 hcm
  have hne:m.1 ≠ 1→0≤boxW l m.2.1:=fun h=>by
   exact ZzF
  have hk:m.1 ≠ 1→Int.toNat (boxW l m.2.1) < l.length:=fun h=>by have:=hne h; omega
  have hb6:m.1 ≠ 1→(bxB l m).2.2.2.length≤6∧(1≤(bxB l m).2.2.1∧(bxB l m).2.2.1≤999999999):=fun h=>by
   exact ZAD
  have hpm:m.1=5∨m.1=6→0≤Zb6 (bxB l m).2.2.2 m.2.2.1:=fun h=>by
   exact Zzt
  have hwr:IntKind.wrap .i64 (boxW l m.2.1 + 1)=boxW l m.2.1 + 1:=Za3 (by omega) (by omega)
  have hwp:m.1 ≠ 1→IntKind.wrap .i64 (Zb6 (bxB l m).2.2.2 m.2.2.1 + 1)=Zb6 (bxB l m).2.2.2 m.2.2.1 + 1:=fun h=>by have:=hb6 h; exact Za3 (by omega) (by omega)
  have hf:=Zke.1 hft
  refine ⟨fun h1=>⟨by show List.length l≤1048576; omega,fun _ _=>⟨by unfold ZeV; rw [if_pos h1],trivial⟩⟩,fun h1=>⟨fun h2=>⟨⟨hne h1,hw.2,by omega⟩,fun _ _=>⟨by unfold ZeV; rw [if_neg h1,if_pos h2],trivial⟩⟩,fun h2=>⟨fun h3=>absurd ⟨ha,h3⟩ hpre.2,fun h3=>⟨fun h4=>?_,fun h4=>⟨⟨hne h1,hw.2⟩,fun h5=>?_,fun h5=>?_⟩⟩⟩⟩⟩
  ·have e:∀ X:ZaM,Zab (l.set (Int.toNat (boxW l m.2.1)) X) (Int.toNat (boxW l m.2.1))=X:=fun X=>ZaH (t:=Zaj) (hk h1)
   have h6:List.length (Zab l (Int.toNat (boxW l m.2.1))).2.2.2≤6∧1≤(Zab l (Int.toNat (boxW l m.2.1))).2.2.1∧(Zab l (Int.toNat (boxW l m.2.1))).2.2.1≤999999999:=hb6 h1
   have hu:m.2.2.1=(Zab l (Int.toNat (boxW l m.2.1))).2.2.1:=by
    rcases hf with h | ⟨_,_,h | h | h | h⟩
    ·omega
    ·omega
    ·exact h.2.1
    ·omega
    ·omega
   simp only [e,List.set_set,List.length_set]
   rw [Za3 (by omega) (by omega)]
   refine ⟨⟨hne h1,hw.2⟩,by unfold rowMax; simp; omega,⟨hne h1,hw.2⟩,⟨hne h1,hw.2⟩,fun r0 hr0=>⟨?_,trivial⟩⟩
   subst hr0
   unfold ZeV
   rw [if_neg h1,if_neg h2,if_neg h3,if_pos h4,hu]
  ·refine ⟨⟨hne h1,hw.2⟩,⟨hpm (.inl h5),hp.2⟩,fun r0 hr0=>⟨?_,trivial⟩⟩
   subst hr0
   exact ZAB
  ·have h6:m.1=6:=by rcases hc.2 with h | h | h | h | h <;> omega
   obtain ⟨ms,hms⟩:∃ ms,ms=(Zab l (Int.toNat (boxW l m.2.1))).2.2.2:=⟨_,rfl⟩
   obtain ⟨p,hpe⟩:∃ p,p=Zb6 ms m.2.2.1:=⟨_,rfl⟩
   have hml:List.length ms≤6:=by rw [hms]; exact (hb6 h1).1
   have hp0:0≤p:=by rw [hpe,hms]; exact hpm (.inr h6)
   have hpl:p < (List.length ms:Int):=by rw [hpe,hms]; exact hp.2
   have hres:ZeV l m=l.set (Int.toNat (boxW l m.2.1)) ((Zab l (Int.toNat (boxW l m.2.1))).1,(Zab l (Int.toNat (boxW l m.2.1))).2.1,(Zab l (Int.toNat (boxW l m.2.1))).2.2.1,List.take (Int.toNat p) ms ++ List.drop (Int.toNat p + 1) ms):=by
    unfold ZeV
    rw [if_neg h1,if_neg h2,if_neg h3,if_neg h4,if_neg h5,hpe,hms]
   rw [hres]
   simp only [← hms,← hpe]
   have hk2:=hne h1
   have hw2:=hw.2
   have e1:Int.toNat (p + 1)=Int.toNat p + 1:=by omega
   simp only [Za3 (show -9223372036854775808≤p + 1 by omega) (show p + 1≤9223372036854775807 by omega),e1,Int.toNat_zero,List.drop_zero,List.nil_append,List.take_length,List.length_nil,Nat.zero_add,List.length_append,List.length_take,List.length_drop]
   clear hres hpe hms hft hpm hp hb6 hwp hbx
   unfold rowMax
   repeat' (first | apply And.intro | intro _)
   all_goals first
    | trivial
    | omega
    | assumption
end Go.Proofs.YtkompmgleojmlaaGreat
