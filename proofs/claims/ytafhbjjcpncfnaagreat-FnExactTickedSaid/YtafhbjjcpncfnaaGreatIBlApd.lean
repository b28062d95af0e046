import Derived.Test.YtafhbjjcpncfnaaGreatIBlApp
set_option linter.unusedSimpArgs false
set_option linter.unusedVariables false
set_option maxRecDepth 100000
set_option maxHeartbeats 4000000
namespace Go.Proofs.YtafhbjjcpncfnaaGreat
open Go.ChangeShapes Go.WideShapes Go.ChangeAt Go.RowKit Go.Joins Go.Deep
open GoRep (rep bulk)
def apB (l:List ZaO) (m:ZaA):List ZaO:=bif ZfP l m then ZeU l m else l
def ZPf (l:List ZaO) (m:ZaA):Prop:=ZbZ l∧¬ (ZfP l m=true∧m.1=3)
def Zei (l:List ZaO) (m:ZaA):Prop:=ix 4 (boxW l m.2.1) l.length
def Ztw (r0:List ZaO) (l:List ZaO) (m:ZaA):Prop:=T3 (pt ((r0=apB l m∧cB true (ZfP l m)∧True)))
def Zjp (l:List ZaO) (m:ZaA):Prop:=(True∧List.length (([]:List Zdr) ++ (List.drop (Int.toNat 0) (List.take (Int.toNat (Zb4 (Zab l (Int.toNat (boxW l m.2.1))).2.2.2 m.2.2.1)) (Zab l (Int.toNat (boxW l m.2.1))).2.2.2))) + List.length (List.drop (Int.toNat (w64 (Zb4 (Zab l (Int.toNat (boxW l m.2.1))).2.2.2 m.2.2.1 + 1))) (List.take (List.length (Zab l (Int.toNat (boxW l m.2.1))).2.2.2) (Zab l (Int.toNat (boxW l m.2.1))).2.2.2))≤rowMax)∧Zei l m∧T2 (∀ r0:List ZaO,r0=List.set l (Int.toNat (boxW l m.2.1)) ((Zab l (Int.toNat (boxW l m.2.1))).1,(Zab l (Int.toNat (boxW l m.2.1))).2.1,(Zab l (Int.toNat (boxW l m.2.1))).2.2.1,((([]:List Zdr) ++ (List.drop (Int.toNat 0) (List.take (Int.toNat (Zb4 (Zab l (Int.toNat (boxW l m.2.1))).2.2.2 m.2.2.1)) (Zab l (Int.toNat (boxW l m.2.1))).2.2.2))) ++ (List.drop (Int.toNat (w64 (Zb4 (Zab l (Int.toNat (boxW l m.2.1))).2.2.2 m.2.2.1 + 1))) (List.take (List.length (Zab l (Int.toNat (boxW l m.2.1))).2.2.2) (Zab l (Int.toNat (boxW l m.2.1))).2.2.2))))→Ztw r0 l m)
def Zjq (l:List ZaO) (m:ZaA):Prop:=(3:Nat)=3∧(0:Int)≤(w64 (Zb4 (Zab l (Int.toNat (boxW l m.2.1))).2.2.2 m.2.2.1 + 1))∧((w64 (Zb4 (Zab l (Int.toNat (boxW l m.2.1))).2.2.2 m.2.2.1 + 1)):Int)≤(List.length (Zab l (Int.toNat (boxW l m.2.1))).2.2.2:Int)∧(List.length (Zab l (Int.toNat (boxW l m.2.1))).2.2.2:Int)≤(List.length (Zab l (Int.toNat (boxW l m.2.1))).2.2.2:Int)
def ZdR (l:List ZaO) (m:ZaA):Prop:=True∧List.length ([]:List Zdr) + List.length (List.drop (Int.toNat 0) (List.take (Int.toNat (Zb4 (Zab l (Int.toNat (boxW l m.2.1))).2.2.2 m.2.2.1)) (Zab l (Int.toNat (boxW l m.2.1))).2.2.2))≤rowMax
def ZgA (l:List ZaO) (m:ZaA):Prop:=True∧(ZdR l m∧True∧Zjq l m∧Zjp l m)∧(True∧(ZdR l m∧Zjq l m∧Zjp l m)∧(Zjq l m∧ZdR l m∧Zjp l m))
def ZoZ (l:List ZaO) (m:ZaA):Prop:=True∧ZgA l m∧(True∧(True∧(ZdR l m∧Zjq l m∧Zjp l m)∧(Zjq l m∧ZdR l m∧Zjp l m))∧(Zjq l m∧True∧ZdR l m∧Zjp l m))
def ZfQ (l:List ZaO) (m:ZaA):Prop:=T2 (Zjq l m∧Zjp l m)
def ZAU (l:List ZaO) (m:ZaA):Prop:=(ZdR l m∧True∧ZfQ l m)∧(True∧(ZdR l m∧ZfQ l m)∧ZgA l m∧(ZgA l m))∧(True∧(ZdR l m∧ZfQ l m)∧(ZgA l m))
theorem Zv1 (l:List ZaO) (m:ZaA) (hpre:ZPf l m):Zao Tryz.prog 146 [.c (.hs .no Zaj l), .ag (cellsOf Zag m)] (.tp [.c (.row 0 0), .c (.bool (ZfP l m))]) [.row Zaj (apB l m) 0 0 none]:=by
 refine bc0 [Zjr,ZAZ,ZiF,Zpd] [] [] [ZFk,ZrQ] L0 Tryz.func146 (fun hwf=>?_)
 refine Eq.mpr (β:=T4 (pt (ZbZ l)∧T3 (pt True∧True∧bif !(ZfP l m) then T3 (pt ((l=apB l m∧cB false (ZfP l m)∧True))) else T3 (pt True∧T5 (bif eqI m.1 1 then T6 (pt (ZOE l∧l=l∧(cS m.2.2.2.2.1 m.2.2.2.2.1∧cI m.2.1 m.2.1∧cI 1 1∧([]:List Zdr)=[]∧True)∧True)∧∀ r0:List ZaO,r0=([]:List ZaO)→T2 (pt (((Zoz l (m.2.2.2.2.1,m.2.1,1,([]:List Zdr)))=apB l m∧cB true (ZfP l m)∧True)))) else T2 (bif eqI m.1 2 then T2 (pt (ZM8 l (boxW l m.2.1)∧l=l∧True)∧∀ r0:List ZaO,r0=([]:List ZaO)→T2 (pt (((ZnE l (Int.toNat (boxW l m.2.1)))=apB l m∧cB true (ZfP l m)∧True)))) else T2 (bif eqI m.1 3 then T2 (Zei l m∧T7 (pt (true=true)∧T2 ((pt (ZM8 l (boxW l m.2.1)∧l=l∧True)∧∀ r0:List ZaO,r0=([]:List ZaO)→True∧False)∧(True∧pt (ZM8 l (boxW l m.2.1)∧l=l∧True)∧∀ r0:List ZaO,r0=([]:List ZaO)→False)))) else T2 (bif eqI m.1 4 then pt (true=true)∧T4 (Zei l m∧T10 ((True∧List.length (Zab l (Int.toNat (boxW l m.2.1))).2.2.2 + List.length ([(m.2.2.1,m.2.2.2.1,m.2.2.2.2.2)])≤rowMax)∧Zei l m∧True∧((Int.toNat (boxW l m.2.1)):Nat)=Int.toNat (boxW l m.2.1)∧T5 (ix 4 (boxW l m.2.1) (List.length (List.set l (Int.toNat (boxW l m.2.1)) ((Zab l (Int.toNat (boxW l m.2.1))).1,(Zab l (Int.toNat (boxW l m.2.1))).2.1,(Zab l (Int.toNat (boxW l m.2.1))).2.2.1,((Zab l (Int.toNat (boxW l m.2.1))).2.2.2 ++ [(m.2.2.1,m.2.2.2.1,m.2.2.2.2.2)]))))∧T2 (∀ r0:List ZaO,r0=List.set (List.set l (Int.toNat (boxW l m.2.1)) ((Zab l (Int.toNat (boxW l m.2.1))).1,(Zab l (Int.toNat (boxW l m.2.1))).2.1,(Zab l (Int.toNat (boxW l m.2.1))).2.2.1,((Zab l (Int.toNat (boxW l m.2.1))).2.2.2 ++ [(m.2.2.1,m.2.2.2.1,m.2.2.2.2.2)]))) (Int.toNat (boxW l m.2.1)) ((Zab (List.set l (Int.toNat (boxW l m.2.1)) ((Zab l (Int.toNat (boxW l m.2.1))).1,(Zab l (Int.toNat (boxW l m.2.1))).2.1,(Zab l (Int.toNat (boxW l m.2.1))).2.2.1,((Zab l (Int.toNat (boxW l m.2.1))).2.2.2 ++ [(m.2.2.1,m.2.2.2.1,m.2.2.2.2.2)]))) (Int.toNat (boxW l m.2.1))).1,(Zab (List.set l (Int.toNat (boxW l m.2.1)) ((Zab l (Int.toNat (boxW l m.2.1))).1,(Zab l (Int.toNat (boxW l m.2.1))).2.1,(Zab l (Int.toNat (boxW l m.2.1))).2.2.1,((Zab l (Int.toNat (boxW l m.2.1))).2.2.2 ++ [(m.2.2.1,m.2.2.2.1,m.2.2.2.2.2)]))) (Int.toNat (boxW l m.2.1))).2.1,(w64 (m.2.2.1 + 1)),(Zab (List.set l (Int.toNat (boxW l m.2.1)) ((Zab l (Int.toNat (boxW l m.2.1))).1,(Zab l (Int.toNat (boxW l m.2.1))).2.1,(Zab l (Int.toNat (boxW l m.2.1))).2.2.1,((Zab l (Int.toNat (boxW l m.2.1))).2.2.2 ++ [(m.2.2.1,m.2.2.2.1,m.2.2.2.2.2)]))) (Int.toNat (boxW l m.2.1))).2.2.2)→Ztw r0 l m)))) else pt (true=true)∧T2 (Zei l m∧T3 ((True∧pt (true=true))∧T4 (bif eqI m.1 5 then pt (true=true)∧T2 (Zei l m∧T5 (ix 3 (Zb4 (Zab l (Int.toNat (boxW l m.2.1))).2.2.2 m.2.2.1) (List.length (Zab l (Int.toNat (boxW l m.2.1))).2.2.2)∧T2 (∀ r0:List ZaO,r0=List.set l (Int.toNat (boxW l m.2.1)) ((Zab l (Int.toNat (boxW l m.2.1))).1,(Zab l (Int.toNat (boxW l m.2.1))).2.1,(Zab l (Int.toNat (boxW l m.2.1))).2.2.1,(List.set (Zab l (Int.toNat (boxW l m.2.1))).2.2.2 (Int.toNat (Zb4 (Zab l (Int.toNat (boxW l m.2.1))).2.2.2 m.2.2.1)) ((ZaG (Zab l (Int.toNat (boxW l m.2.1))).2.2.2 (Int.toNat (Zb4 (Zab l (Int.toNat (boxW l m.2.1))).2.2.2 m.2.2.1))).1,m.2.2.2.1,(ZaG (Zab l (Int.toNat (boxW l m.2.1))).2.2.2 (Int.toNat (Zb4 (Zab l (Int.toNat (boxW l m.2.1))).2.2.2 m.2.2.1))).2.2)))→Ztw r0 l m))) else pt (true=true)∧T4 (Zei l m∧T3 (((3:Nat)=3∧(0:Int)≤0∧(0:Int)≤Zb4 (Zab l (Int.toNat (boxW l m.2.1))).2.2.2 m.2.2.1∧(Zb4 (Zab l (Int.toNat (boxW l m.2.1))).2.2.2 m.2.2.1:Int)≤(List.length (Zab l (Int.toNat (boxW l m.2.1))).2.2.2:Int))∧T3 ((True∧(ZdR l m∧Zei l m∧True∧ZfQ l m)∧(Zei l m∧ZAU l m)∧(True∧(ZdR l m∧Zei l m∧ZfQ l m)∧(Zei l m∧(ZdR l m∧ZfQ l m)∧(ZgA l m))))∧(Zei l m∧(True∧ZAU l m)∧(True∧(True∧(ZdR l m∧ZfQ l m)∧ZgA l m∧(ZgA l m))∧ZoZ l m∧(ZoZ l m))∧(True∧(True∧(ZdR l m∧ZfQ l m)∧(ZgA l m))∧(ZoZ l m)))∧(True∧(True∧(ZdR l m∧Zei l m∧ZfQ l m)∧(Zei l m∧(ZdR l m∧ZfQ l m)∧(ZgA l m)))∧(Zei l m∧(True∧(ZdR l m∧ZfQ l m)∧(ZgA l m))∧(ZoZ l m))))))))))))))))) (by kernel_rfl) ?_
 unfold ZAU ZfQ ZoZ ZgA ZdR Zjq Zjp Ztw Zei T10 T2 T3 T4 T5 T6 T7
 simp only [Zbu,ZbS,Zbn,Bool.not_true,Bool.not_false,Zeg,eq_self]
 refine ⟨hpre.1,fun hf=>?_,fun ha=>?_⟩
 ·unfold apB
  rw [hf]
  exact ⟨rfl,rfl⟩
 ·have hap:apB l m=ZeU l m:=by
   unfold apB
   rw [ha]
   rfl
  simp only [hap,ha]
  obtain ⟨hs,hl4,hbx,hcm,hft⟩:=Ziv ha
  have hw:=Zri l m.2.1
  have hm:=ZFe l m.2.2.2.2.1
  have hp:=ZyA (bxB l m).2.2.2 m.2.2.1
  have hc:=Zjv.1 hcm
  have hne:m.1 ≠ 1→0≤boxW l m.2.1:=fun h=>by
   exact ZzG
  have hk:m.1 ≠ 1→Int.toNat (boxW l m.2.1) < l.length:=fun h=>by have:=hne h; omega
  have hb6:m.1 ≠ 1→(bxB l m).2.2.2.length≤6∧(1≤(bxB l m).2.2.1∧(bxB l m).2.2.1≤999999999):=fun h=>by
   exact ZAD
  have hpm:m.1=5∨m.1=6→0≤Zb4 (bxB l m).2.2.2 m.2.2.1:=fun h=>by
   exact Zzt
  have hwr:IntKind.wrap .i64 (boxW l m.2.1 + 1)=boxW l m.2.1 + 1:=ZaX (by omega) (by omega)
  have hwp:m.1 ≠ 1→IntKind.wrap .i64 (Zb4 (bxB l m).2.2.2 m.2.2.1 + 1)=Zb4 (bxB l m).2.2.2 m.2.2.1 + 1:=fun h=>by have:=hb6 h; exact ZaX (by omega) (by omega)
  have hf:=Zkb.1 hft
  refine ⟨fun h1=>⟨by show List.length l≤1048576; omega,fun _ _=>⟨by unfold ZeU; rw [if_pos h1],trivial⟩⟩,fun h1=>⟨fun h2=>⟨⟨hne h1,hw.2,by omega⟩,fun _ _=>⟨by unfold ZeU; rw [if_neg h1,if_pos h2],trivial⟩⟩,fun h2=>⟨fun h3=>absurd ⟨ha,h3⟩ hpre.2,fun h3=>⟨fun h4=>?_,fun h4=>⟨⟨hne h1,hw.2⟩,fun h5=>?_,fun h5=>?_⟩⟩⟩⟩⟩
  ·have e:∀ X:ZaO,Zab (l.set (Int.toNat (boxW l m.2.1)) X) (Int.toNat (boxW l m.2.1))=X:=fun X=>ZaH (t:=Zaj) (hk h1)
   have h6:List.length (Zab l (Int.toNat (boxW l m.2.1))).2.2.2≤6∧1≤(Zab l (Int.toNat (boxW l m.2.1))).2.2.1∧(Zab l (Int.toNat (boxW l m.2.1))).2.2.1≤999999999:=hb6 h1
   have hu:m.2.2.1=(Zab l (Int.toNat (boxW l m.2.1))).2.2.1:=by
    rcases hf with h | ⟨_,_,h | h | h | h⟩
    ·omega
    ·omega
    ·exact h.2.1
    ·omega
    ·omega
   simp only [e,List.set_set,List.length_set]
   rw [ZaX (by omega) (by omega)]
   refine ⟨⟨hne h1,hw.2⟩,by unfold rowMax; simp; omega,⟨hne h1,hw.2⟩,⟨hne h1,hw.2⟩,fun r0 hr0=>⟨?_,trivial⟩⟩
   subst hr0
   unfold ZeU
   rw [if_neg h1,if_neg h2,if_neg h3,if_pos h4,hu]
  ·refine ⟨⟨hne h1,hw.2⟩,⟨hpm (.inl h5),hp.2⟩,fun r0 hr0=>⟨?_,trivial⟩⟩
   subst hr0
   exact ZAB
  ·have h6:m.1=6:=by rcases hc.2 with h | h | h | h | h <;> omega
   obtain ⟨ms,hms⟩:∃ ms,ms=(Zab l (Int.toNat (boxW l m.2.1))).2.2.2:=⟨_,rfl⟩
   obtain ⟨p,hpe⟩:∃ p,p=Zb4 ms m.2.2.1:=⟨_,rfl⟩
   have hml:List.length ms≤6:=by rw [hms]; exact (hb6 h1).1
   have hp0:0≤p:=by rw [hpe,hms]; exact hpm (.inr h6)
   have hpl:p < (List.length ms:Int):=by rw [hpe,hms]; exact hp.2
   have hres:ZeU l m=l.set (Int.toNat (boxW l m.2.1)) ((Zab l (Int.toNat (boxW l m.2.1))).1,(Zab l (Int.toNat (boxW l m.2.1))).2.1,(Zab l (Int.toNat (boxW l m.2.1))).2.2.1,List.take (Int.toNat p) ms ++ List.drop (Int.toNat p + 1) ms):=by
    unfold ZeU
    rw [if_neg h1,if_neg h2,if_neg h3,if_neg h4,if_neg h5,hpe,hms]
   rw [hres]
   simp only [← hms,← hpe]
   have hk2:=hne h1
   have hw2:=hw.2
   have e1:Int.toNat (p + 1)=Int.toNat p + 1:=by omega
   simp only [ZaX (show -9223372036854775808≤p + 1 by omega) (show p + 1≤9223372036854775807 by omega),e1,Int.toNat_zero,List.drop_zero,List.nil_append,List.take_length,List.length_nil,Nat.zero_add,List.length_append,List.length_take,List.length_drop]
   clear hres hpe hms hft hpm hp hb6 hwp hbx
   unfold rowMax
   repeat' (first | apply And.intro | intro _)
   all_goals first
    | trivial
    | omega
    | assumption
end Go.Proofs.YtafhbjjcpncfnaaGreat
