import Derived.Test.YtkeglpnnedflnaaGreatDoorPBlCmd3
import Derived.Test.YtkeglpnnedflnaaGreatDoorPBlCmd2
set_option linter.unusedSimpArgs false
set_option linter.unusedVariables false
set_option maxRecDepth 100000
set_option maxHeartbeats 4000000
namespace Go.Proofs.YtkeglpnnedflnaaGreatDoor
open Go.ChangeShapes Go.WideShapes Go.ChangeAt Go.RowKit Go.Joins Go.Deep
open GoRep (rep bulk)
def wdK (b:Int):List GToken:=if 0 < b then Zdk (Zaf (Zww b) 32) (Zaf (Zww b) 32).length else []
def uidK (c:GCommand):List GToken:=if c.2.2.2.2.1=true then [Zan (⟨#[117,105,100]⟩:ByteArray)] else []
def setK (c:GCommand):List GToken:=if 0 < List.length c.2.2.2.2.2.1 then [Zan (Zif c.2.2.2.2.2.1)] else []
def opK (c:GCommand):List GToken:=if 0 < c.2.2.2.2.2.2.1 then [Zan (opT c.2.2.2.2.2.2.1)] else []
def boxK (c:GCommand):List GToken:=if ¬ c.2.2.1=(⟨#[]⟩:ByteArray) then [Zan c.2.2.1] else []
def toK (c:GCommand):List GToken:=if ¬ c.2.2.2.1=(⟨#[]⟩:ByteArray) then [Zan c.2.2.2.1] else []
def flK (c:GCommand):List GToken:=if c.2.1=8∨c.2.1=11 then [ZdK] ++ wdK c.2.2.2.2.2.2.2.1 ++ [Za5] else []
def txK (c:GCommand):List GToken:=if c.2.1=11 then [(2,c.2.2.2.2.2.2.2.2.1)] else []
def fiK (c:GCommand):List GToken:=if c.2.1=6 then ZbT c.2.2.2.2.2.2.2.2.2 else []
def Zas (c:GCommand):List GToken:=if ZbQ c=false then [] else [Zan c.1] ++ uidK c ++ [Zan (Za3 c.2.1)] ++ setK c ++ opK c ++ boxK c ++ toK c ++ flK c ++ txK c ++ fiK c
theorem ZKd (b:Int):(wdK b).length≤1001:=by
 unfold wdK
 split
 ·rw [Zho]
  have:=ZjC (Zww b) 32
  have:=ZAr b
  omega
 ·exact Nat.zero_le _
theorem ZGY {c:GCommand} (h:c.2.2.2.2.1=true):uidK c=[Zan (⟨#[117,105,100]⟩:ByteArray)]:=if_pos h
theorem ZGZ {c:GCommand} (h:¬ (c.2.2.2.2.1=true)):uidK c=[]:=if_neg h
theorem Zrf (c:GCommand):(uidK c).length≤1:=by
 unfold uidK
 exact Zgy
theorem ZG0 {c:GCommand} (h:0 < List.length c.2.2.2.2.2.1):setK c=[Zan (Zif c.2.2.2.2.2.1)]:=if_pos h
theorem ZG1 {c:GCommand} (h:¬ (0 < List.length c.2.2.2.2.2.1)):setK c=[]:=if_neg h
theorem Zrg (c:GCommand):(setK c).length≤1:=by
 unfold setK
 exact Zgy
theorem ZKe {c:GCommand} (h:0 < c.2.2.2.2.2.2.1):opK c=[Zan (opT c.2.2.2.2.2.2.1)]:=if_pos h
theorem ZKf {c:GCommand} (h:¬ (0 < c.2.2.2.2.2.2.1)):opK c=[]:=if_neg h
theorem ZH4 (c:GCommand):(opK c).length≤1:=by
 unfold opK
 exact Zgy
theorem ZG2 {c:GCommand} (h:¬ c.2.2.1=(⟨#[]⟩:ByteArray)):boxK c=[Zan c.2.2.1]:=if_pos h
theorem ZG3 {c:GCommand} (h:¬ (¬ c.2.2.1=(⟨#[]⟩:ByteArray))):boxK c=[]:=if_neg h
theorem ZFi (c:GCommand):(boxK c).length≤1:=by
 unfold boxK
 exact Zgy
theorem ZKg {c:GCommand} (h:¬ c.2.2.2.1=(⟨#[]⟩:ByteArray)):toK c=[Zan c.2.2.2.1]:=if_pos h
theorem ZKh {c:GCommand} (h:¬ (¬ c.2.2.2.1=(⟨#[]⟩:ByteArray))):toK c=[]:=if_neg h
theorem ZH5 (c:GCommand):(toK c).length≤1:=by
 unfold toK
 exact Zgy
theorem ZH6 {c:GCommand} (h:c.2.1=8∨c.2.1=11):flK c=[ZdK] ++ wdK c.2.2.2.2.2.2.2.1 ++ [Za5]:=if_pos h
theorem ZKi {c:GCommand} (h:¬ (c.2.1=8∨c.2.1=11)):flK c=[]:=if_neg h
theorem ZCp (c:GCommand):(flK c).length≤1003:=by
 unfold flK
 split
 ·have:=ZKd c.2.2.2.2.2.2.2.1
  simp only [List.length_append,List.length_singleton]; omega
 ·exact Nat.zero_le _
theorem ZKj {c:GCommand} (h:c.2.1=11):txK c=[(2,c.2.2.2.2.2.2.2.2.1)]:=if_pos h
theorem ZH7 {c:GCommand} (h:¬ (c.2.1=11)):txK c=[]:=if_neg h
theorem ZH8 (c:GCommand):(txK c).length≤1:=by
 unfold txK
 exact Zgy
theorem ZKk {c:GCommand} (h:c.2.1=6):fiK c=ZbT c.2.2.2.2.2.2.2.2.2:=if_pos h
theorem ZH9 {c:GCommand} (h:¬ (c.2.1=6)):fiK c=[]:=if_neg h
theorem ZIa (c:GCommand):(fiK c).length≤50:=by
 unfold fiK
 split
 ·exact Zqa _
 ·exact Nat.zero_le _
theorem Zqb (c:GCommand):(Zas c).length≤1100:=by
 unfold Zas
 split
 ·exact Nat.zero_le _
 ·have:=Zrf c
  have:=Zrg c
  have:=ZH4 c
  have:=ZFi c
  have:=ZH5 c
  have:=ZCp c
  have:=ZH8 c
  have:=ZIa c
  simp only [List.length_append,List.length_singleton]
  omega
theorem ZCq {c:GCommand} (h:ZbQ c=true):([]:List GToken) ++ [Zan c.1] ++ uidK c ++ [Zan (Za3 c.2.1)] ++ setK c ++ opK c ++ boxK c ++ toK c ++ flK c ++ txK c ++ fiK c=Zas c:=by
 unfold Zas
 rw [if_neg (by rw [h]; decide)]
 rfl
end Go.Proofs.YtkeglpnnedflnaaGreatDoor
