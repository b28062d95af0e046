import Derived.Test.YtkeglpnnedflnaaGreatDoorPBlPt1
set_option linter.unusedSimpArgs false
set_option linter.unusedVariables false
set_option maxRecDepth 100000
set_option maxHeartbeats 4000000
namespace Go.Proofs.YtkeglpnnedflnaaGreatDoor
open Go.ChangeShapes Go.WideShapes Go.ChangeAt Go.RowKit Go.Joins Go.Deep
open GoRep (rep bulk)
theorem ZKK {c:GCommand} (f:ZiH c):ZbQ c=true:=by
 obtain ⟨ht,hk,f1,f2,f3,f4,f5,f6,f7,f8,f9,f10,f11,f12,f13,f14⟩:=f
 obtain ⟨tag,k,box,to,uid,set,op,fl,tx,fi⟩:=c
 simp only at ht hk f1 f2 f3 f4 f5 f6 f7 f8 f9 f10 f11 f12 f13 f14
 have hk':=Zrv k hk
 have hb:btw k 1 15=true:=Zaz.2 hk
 have hl:leI ((tx.size:Nat):Int) 40=true:=ZdH.2 (by omega)
 unfold ZbQ
 simp only [ht,hb,hl,f9,f13,Bool.not_true,cond_false,cond_true]
 have hs:Zhd (ZdV (tag,k,box,to,uid,set,op,fl,tx,fi)) (tag,k,box,to,uid,set,op,fl,tx,fi)=true:=by
  have e:ZdV (tag,k,box,to,uid,set,op,fl,tx,fi)=(tag,k,box,to,uid,set,op,fl,tx,fi):=by
   unfold ZdV
   rcases hk' with rfl | rfl | rfl | rfl | rfl | rfl | rfl | rfl | rfl | rfl | rfl | rfl | rfl | rfl | rfl
   ·obtain ⟨q1,q2,q3,q4,q5,q6,q7⟩:=kt1
    exact Zgz
   ·obtain ⟨q1,q2,q3,q4,q5,q6,q7⟩:=kt2
    exact Zo5
   ·obtain ⟨q1,q2,q3,q4,q5,q6,q7⟩:=kt3
    exact Zgz
   ·obtain ⟨q1,q2,q3,q4,q5,q6,q7⟩:=kt4
    exact Zgz
   ·obtain ⟨q1,q2,q3,q4,q5,q6,q7⟩:=kt5
    exact Zgz
   ·obtain ⟨q1,q2,q3,q4,q5,q6,q7⟩:=kt6
    simp only [q1,q2,q3,q4,q5,q6,q7,cond_true,cond_false]
    obtain rfl:=f2 (by decide)
    obtain rfl:=f4 (by decide)
    obtain rfl:=(f6 (by decide)).1
    obtain rfl:=(f6 (by decide)).2
    obtain rfl:=f8 (by decide)
    obtain rfl:=f10 (by decide)
    obtain rfl:=f12 (by decide)
    rfl
   ·obtain ⟨q1,q2,q3,q4,q5,q6,q7⟩:=kt7
    simp only [q1,q2,q3,q4,q5,q6,q7,cond_true,cond_false]
    obtain rfl:=f2 (by decide)
    obtain rfl:=f4 (by decide)
    exact ZoO
   ·obtain ⟨q1,q2,q3,q4,q5,q6,q7⟩:=kt8
    simp only [q1,q2,q3,q4,q5,q6,q7,cond_true,cond_false]
    obtain rfl:=f2 (by decide)
    obtain rfl:=f4 (by decide)
    exact Zo6
   ·obtain ⟨q1,q2,q3,q4,q5,q6,q7⟩:=kt9
    exact Zgz
   ·obtain ⟨q1,q2,q3,q4,q5,q6,q7⟩:=ZOP
    simp only [q1,q2,q3,q4,q5,q6,q7,cond_true,cond_false]
    obtain rfl:=f4 (by decide)
    exact ZoO
   ·obtain ⟨q1,q2,q3,q4,q5,q6,q7⟩:=ZOQ
    simp only [q1,q2,q3,q4,q5,q6,q7,cond_true,cond_false]
    obtain rfl:=f4 (by decide)
    obtain rfl:=(f6 (by decide)).1
    obtain rfl:=(f6 (by decide)).2
    obtain rfl:=f8 (by decide)
    obtain rfl:=f14 (by decide)
    rfl
   ·obtain ⟨q1,q2,q3,q4,q5,q6,q7⟩:=ZOR
    exact Zo5
   ·obtain ⟨q1,q2,q3,q4,q5,q6,q7⟩:=ZOS
    exact Zo5
   ·obtain ⟨q1,q2,q3,q4,q5,q6,q7⟩:=ZOT
    simp only [q1,q2,q3,q4,q5,q6,q7,cond_true,cond_false]
    obtain rfl:=(f6 (by decide)).1
    obtain rfl:=(f6 (by decide)).2
    exact ZoO
   ·obtain ⟨q1,q2,q3,q4,q5,q6,q7⟩:=ZOU
    exact Zgz
  rw [e]
  exact ZAS _
 simp only [hs,Bool.not_true,cond_false]
 cases h1:ZaX k with
 | true=>rw [f1 h1]; cases h2:eqI k 14 with
  | true=>rw [f3 (ZaE.1 h2)]; cases h3:Zbj k with
   | true=>rw [f5 h3]; cases h4:eqI k 8 with
    | true=>rw [Zaz.2 (f7 (ZaE.1 h4))]; rfl
    | false=>rfl
   | false=>cases h4:eqI k 8 with
    | true=>rw [Zaz.2 (f7 (ZaE.1 h4))]; rfl
    | false=>rfl
  | false=>cases h3:Zbj k with
   | true=>rw [f5 h3]; cases h4:eqI k 8 with
    | true=>rw [Zaz.2 (f7 (ZaE.1 h4))]; rfl
    | false=>rfl
   | false=>cases h4:eqI k 8 with
    | true=>rw [Zaz.2 (f7 (ZaE.1 h4))]; rfl
    | false=>rfl
 | false=>cases h2:eqI k 14 with
  | true=>rw [f3 (ZaE.1 h2)]; cases h3:Zbj k with
   | true=>rw [f5 h3]; cases h4:eqI k 8 with
    | true=>rw [Zaz.2 (f7 (ZaE.1 h4))]; rfl
    | false=>rfl
   | false=>cases h4:eqI k 8 with
    | true=>rw [Zaz.2 (f7 (ZaE.1 h4))]; rfl
    | false=>rfl
  | false=>cases h3:Zbj k with
   | true=>rw [f5 h3]; cases h4:eqI k 8 with
    | true=>rw [Zaz.2 (f7 (ZaE.1 h4))]; rfl
    | false=>rfl
   | false=>cases h4:eqI k 8 with
    | true=>rw [Zaz.2 (f7 (ZaE.1 h4))]; rfl
    | false=>rfl
theorem Zze {u o z:Bool}:Zdf u o z=true↔(u=true→o=true)∧(¬ u=true→z=true):=by
 cases u <;> cases o <;> cases z <;> decide
theorem Zzf {k:Int}:¬ Za3 k=(⟨#[]⟩:ByteArray)↔1≤k∧k≤15:=by
 refine ⟨fun h=>?_,fun h=>?_⟩
 ·by_cases hk:1≤k∧k≤15
  ·exact hk
  ·exact absurd (ZO6 (by omega)).symm h
 ·rcases Zrv k h with rfl | rfl | rfl | rfl | rfl | rfl | rfl | rfl | rfl | rfl | rfl | rfl | rfl | rfl | rfl <;> decide
theorem ZFw {c:GCommand}:Zc1 c=true↔ZiH c:=by
 unfold Zc1
 have e0:((List.length c.2.2.2.2.2.1:Int)=0)=(c.2.2.2.2.2.1=[]):=propext ⟨fun h=>List.eq_nil_of_length_eq_zero (by omega),fun h=>by rw [h]; rfl⟩
 cases hl:eqI (List.length c.2.2.2.2.2.1:Int) 0 with
 | true =>
  have hl2:c.2.2.2.2.2.1=[]:=e0.mp (ZaE.1 hl)
  simp only [cond_true,Bool.cond_false_right,Bool.and_eq_true,Zze,Bool.not_eq_true',Zav,Zbc,ZaE,Zaz,ZdH,ZbX,Zzf]
  refine ⟨fun ⟨h1,h2,⟨h3,h4⟩,⟨h5,h6⟩,⟨h7,h8⟩,⟨h9,h10⟩,⟨h11,h12⟩,⟨h13,h14⟩,h15,h16⟩=>⟨h1,h2,h3,h4,h5,h6,h7,fun q=>⟨hl2,h8 q⟩,h9,h10,?_,h12,?_,h14,?_,h16⟩,fun f=>⟨f.tag,f.kind,⟨f.box,f.box0⟩,⟨f.to,f.to0⟩,⟨f.set,fun q=>(f.set0 q).2⟩,⟨f.op,f.op0⟩,⟨fun _=>f.fl,f.fl0⟩,⟨fun _=>by have:=f.tx; omega,f.tx0⟩,fun _=>f.fi,f.fi0⟩⟩
  ·by_cases q:fl7 c.2.1=true
   ·exact h11 q
   ·rw [h12 q]; rfl
  ·exact Zv7
  ·by_cases q:c.2.1=6
   ·exact h15 q
   ·rw [h16 q]; rfl
 | false =>
  have hl2:¬ c.2.2.2.2.2.1=[]:=fun q=>Zba.1 hl (e0.mpr q)
  simp only [cond_false,Bool.cond_false_right,Bool.and_eq_true,Zze,Bool.not_eq_true',Zav,Zbc,ZaE,Zaz,ZdH,ZbX,Zzf,Bool.false_eq_true]
  refine ⟨fun ⟨h1,h2,⟨h3,h4⟩,⟨h5,h6⟩,⟨h7,h8⟩,⟨h9,h10⟩,⟨h11,h12⟩,⟨h13,h14⟩,h15,h16⟩=>⟨h1,h2,h3,h4,h5,h6,h7,fun q=>(h8 q).elim,h9,h10,?_,h12,?_,h14,?_,h16⟩,fun f=>⟨f.tag,f.kind,⟨f.box,f.box0⟩,⟨f.to,f.to0⟩,⟨f.set,fun q=>hl2 (f.set0 q).1⟩,⟨f.op,f.op0⟩,⟨fun _=>f.fl,f.fl0⟩,⟨fun _=>by have:=f.tx; omega,f.tx0⟩,fun _=>f.fi,f.fi0⟩⟩
  ·by_cases q:fl7 c.2.1=true
   ·exact h11 q
   ·rw [h12 q]; rfl
  ·exact Zv7
  ·by_cases q:c.2.1=6
   ·exact h15 q
   ·rw [h16 q]; rfl
theorem ZCQ (c:GCommand):Zc1 c=ZbQ c:=by
 rw [Bool.eq_iff_iff,ZFw]
 exact ⟨ZKK,Zes⟩
set_option maxRecDepth 100000
set_option maxHeartbeats 4000000
def neK (l:List ByteArray):Nat→List GToken
 | 0=>[]
 | k + 1=>if Zaa l k=(⟨#[]⟩:ByteArray) then neK l k else neK l k ++ [Zan (Zaa l k)]
theorem ZCR (l:List ByteArray):∀ k,(neK l k).length≤k
 | 0=>Nat.le_refl _
 | k + 1=>by
  have:=ZCR l k
  unfold neK
  split
  ·omega
  ·rw [List.length_append,List.length_singleton]; omega
theorem ZNp {l:List ByteArray} {k:Nat} {X:List GToken} (h:¬ Zaa l k=(⟨#[]⟩:ByteArray)):X ++ neK l k ++ [Zan (Zaa l k)]=X ++ neK l (k + 1):=by
 have e:neK l (k + 1)=neK l k ++ [Zan (Zaa l k)]:=if_neg h
 rw [e,List.append_assoc]
theorem ZNq {l:List ByteArray} {k:Nat} {X:List GToken} (h:Zaa l k=(⟨#[]⟩:ByteArray)):X ++ neK l k=X ++ neK l (k + 1):=by
 have e:neK l (k + 1)=neK l k:=if_pos h
 rw [e]
theorem ZKL {o:Int} (h:1≤o∧o≤3):¬ opT o=(⟨#[]⟩:ByteArray):=by
 obtain rfl | rfl | rfl:o=1∨o=2∨o=3:=by omega
 all_goals decide
theorem ZNr {c:GCommand} (h:ZbQ c=true) {X:List GToken} {k:Nat} (hk:k≤3) (hk2:¬ ((k:Nat):Int) < 3):X ++ neK [opT c.2.2.2.2.2.2.1,c.2.2.1,c.2.2.2.1] k=X ++ opK c ++ boxK c ++ toK c:=by
 obtain rfl:k=3:=by omega
 have f:=Zes h
 have e1:neK [opT c.2.2.2.2.2.2.1,c.2.2.1,c.2.2.2.1] 1=opK c:=by
  show (if opT c.2.2.2.2.2.2.1=(⟨#[]⟩:ByteArray) then ([]:List GToken) else [] ++ [Zan (opT c.2.2.2.2.2.2.1)])=_
  by_cases q:c.2.1=8
  ·have h1:=f.op q
   rw [if_neg (ZKL h1),ZKe (by omega)]
   rfl
  ·have h1:=f.op0 q
   rw [ZKf (by omega),h1]
   exact if_pos (by decide)
 have e2:neK [opT c.2.2.2.2.2.2.1,c.2.2.1,c.2.2.2.1] 2=opK c ++ boxK c:=by
  show (if c.2.2.1=(⟨#[]⟩:ByteArray) then neK [opT c.2.2.2.2.2.2.1,c.2.2.1,c.2.2.2.1] 1 else neK [opT c.2.2.2.2.2.2.1,c.2.2.1,c.2.2.2.1] 1 ++ [Zan c.2.2.1])=_
  rw [e1]
  by_cases q:c.2.2.1=(⟨#[]⟩:ByteArray)
  ·rw [if_pos q,ZG3 (fun x=>x q),List.append_nil]
  ·rw [if_neg q,ZG2 q]
 have e3:neK [opT c.2.2.2.2.2.2.1,c.2.2.1,c.2.2.2.1] 3=opK c ++ boxK c ++ toK c:=by
  show (if c.2.2.2.1=(⟨#[]⟩:ByteArray) then neK [opT c.2.2.2.2.2.2.1,c.2.2.1,c.2.2.2.1] 2 else neK [opT c.2.2.2.2.2.2.1,c.2.2.1,c.2.2.2.1] 2 ++ [Zan c.2.2.2.1])=_
  rw [e2]
  by_cases q:c.2.2.2.1=(⟨#[]⟩:ByteArray)
  ·rw [if_pos q,ZKh (fun x=>x q),List.append_nil]
  ·rw [if_neg q,ZKg q]
 rw [e3,List.append_assoc,List.append_assoc,List.append_assoc]
theorem ZKM {c:GCommand} (h:ZbQ c=true) (h7:fl7 c.2.1=true):grK (ZaO ZaB c.2.2.2.2.2.2.2.1 ZaB.length)=flK c:=by
 have hk:c.2.1=8∨c.2.1=11:=by
  exact ZoZ
 rw [ZH6 hk,Zrx (Zes h).fl]
 unfold grK
 rw [Znw _ _ (Nat.le_refl _),List.take_length]
 rfl
theorem ZKN {c:GCommand} (h7:fl7 c.2.1=false):flK c=[]:=ZKi (fun q=>by
 unfold fl7 at h7
 rw [Bool.or_eq_false_iff,Zba,Zba] at h7
 omega)
section
variable {c:GCommand} {X:List GToken} {y:Nat} {t:GToken}
theorem ZMm (hy:y≤3):([Zan c.1] ++ uidK c ++ [Zan (Za3 c.2.1)] ++ setK c ++ neK [opT c.2.2.2.2.2.2.1,c.2.2.1,c.2.2.2.1] y ++ flK c).length≤2000∧([Zan c.1] ++ uidK c ++ [Zan (Za3 c.2.1)] ++ setK c ++ neK [opT c.2.2.2.2.2.2.1,c.2.2.1,c.2.2.2.1] y).length≤2000:=by
 have h0:=Zrf c
 have h1:=Zrg c
 have h2:=ZCp c
 have h3:=ZCR [opT c.2.2.2.2.2.2.1,c.2.2.1,c.2.2.2.1] y
 exact Zo2
theorem ZNs (hy:y≤3):([Zan c.1] ++ uidK c ++ [Zan (Za3 c.2.1)] ++ setK c ++ neK [opT c.2.2.2.2.2.2.1,c.2.2.1,c.2.2.2.1] y).length + [t].length≤rowMax:=by
 have:=(ZMm (c:=c) hy).2
 exact Zh7
theorem ZNt (hy:y≤3):([Zan c.1] ++ uidK c ++ [Zan (Za3 c.2.1)] ++ setK c ++ neK [opT c.2.2.2.2.2.2.1,c.2.2.1,c.2.2.2.1] y).length + (grK (ZaO ZaB c.2.2.2.2.2.2.2.1 ZaB.length)).length≤rowMax:=by
 have h1:=(ZMm (c:=c) hy).2
 have h2:=Zf6 ZaB c.2.2.2.2.2.2.2.1 ZaB.length
 have h3:ZaB.length=5:=rfl
 rw [Zny]
 unfold rowMax
 omega
theorem ZNu (hy:y≤3):([Zan c.1] ++ uidK c ++ [Zan (Za3 c.2.1)] ++ setK c ++ neK [opT c.2.2.2.2.2.2.1,c.2.2.1,c.2.2.2.1] y ++ flK c).length + [t].length≤rowMax:=by
 have:=(ZMm (c:=c) hy).1
 exact Zh7
theorem ZNv (hy:y≤3):([Zan c.1] ++ uidK c ++ [Zan (Za3 c.2.1)] ++ setK c ++ neK [opT c.2.2.2.2.2.2.1,c.2.2.1,c.2.2.2.1] y ++ flK c).length + (ZbT c.2.2.2.2.2.2.2.2.2).length≤rowMax:=by
 have h1:=(ZMm (c:=c) hy).1
 have h2:=Zqa c.2.2.2.2.2.2.2.2.2
 unfold rowMax
 omega
theorem ZQq (h:c.2.2.2.2.1=false):∃ _:Unit,leB (.row Zab [Zan c.1] 0 0 none) (.row Zab ([Zan c.1] ++ uidK c) 0 0 none):=by
 refine ⟨(),Zs7 (t:=Zab) ?_⟩
 rw [ZGZ (by rw [h]; decide)]
 rfl
theorem ZNw (hy:((y:Nat):Int) < ((List.length [opT c.2.2.2.2.2.2.1,c.2.2.1,c.2.2.2.1]:Nat):Int)) (h:¬ Zaa [opT c.2.2.2.2.2.2.1,c.2.2.1,c.2.2.2.1] y=(⟨#[]⟩:ByteArray)):∃ y' : Nat,y'≤3∧3 - y' < 3 - y∧IntKind.wrap .i64 (((y:Nat):Int) + 1)=((y' : Nat):Int)∧X ++ neK [opT c.2.2.2.2.2.2.1,c.2.2.1,c.2.2.2.1] y ++ [Zan (Zaa [opT c.2.2.2.2.2.2.1,c.2.2.1,c.2.2.2.1] y)]=X ++ neK [opT c.2.2.2.2.2.2.1,c.2.2.1,c.2.2.2.1] y':=by
 have hl:List.length [opT c.2.2.2.2.2.2.1,c.2.2.1,c.2.2.2.1]=3:=rfl
 exact ⟨y + 1,by omega,by omega,Zbm (by unfold maxLen; omega),ZNp h⟩
theorem ZNx (hy:((y:Nat):Int) < ((List.length [opT c.2.2.2.2.2.2.1,c.2.2.1,c.2.2.2.1]:Nat):Int)) (h:Zaa [opT c.2.2.2.2.2.2.1,c.2.2.1,c.2.2.2.1] y=(⟨#[]⟩:ByteArray)):∃ y' : Nat,y'≤3∧3 - y' < 3 - y∧IntKind.wrap .i64 (((y:Nat):Int) + 1)=((y' : Nat):Int)∧X ++ neK [opT c.2.2.2.2.2.2.1,c.2.2.1,c.2.2.2.1] y=X ++ neK [opT c.2.2.2.2.2.2.1,c.2.2.1,c.2.2.2.1] y':=by
 have hl:List.length [opT c.2.2.2.2.2.2.1,c.2.2.1,c.2.2.2.1]=3:=rfl
 exact ⟨y + 1,by omega,by omega,Zbm (by unfold maxLen; omega),ZNq h⟩
theorem ZNy (h:ZbQ c=true) (hy:y≤3) (hge:¬ ((y:Nat):Int) < ((List.length [opT c.2.2.2.2.2.2.1,c.2.2.1,c.2.2.2.1]:Nat):Int)):[Zan c.1] ++ uidK c ++ [Zan (Za3 c.2.1)] ++ setK c ++ neK [opT c.2.2.2.2.2.2.1,c.2.2.1,c.2.2.2.1] y ++ flK c ++ txK c ++ fiK c=Zas c:=by
 have hl:List.length [opT c.2.2.2.2.2.2.1,c.2.2.1,c.2.2.2.1]=3:=rfl
 rw [ZNr h hy (by omega)]
 exact ZCq h
theorem ZNz (h:ZbQ c=true) (hy:y≤3) (hge:¬ ((y:Nat):Int) < ((List.length [opT c.2.2.2.2.2.2.1,c.2.2.1,c.2.2.2.1]:Nat):Int)) (q:c.2.1=11):[Zan c.1] ++ uidK c ++ [Zan (Za3 c.2.1)] ++ setK c ++ neK [opT c.2.2.2.2.2.2.1,c.2.2.1,c.2.2.2.1] y ++ flK c ++ [((2,c.2.2.2.2.2.2.2.2.1):GToken)]=Zas c:=by
 have e:=ZNy h hy hge
 rw [ZKj q,ZH9 (by omega),List.append_nil] at e
 exact e
theorem ZNA (h:ZbQ c=true) (hy:y≤3) (hge:¬ ((y:Nat):Int) < ((List.length [opT c.2.2.2.2.2.2.1,c.2.2.1,c.2.2.2.1]:Nat):Int)) (n:¬ c.2.1=11) (q:c.2.1=6):[Zan c.1] ++ uidK c ++ [Zan (Za3 c.2.1)] ++ setK c ++ neK [opT c.2.2.2.2.2.2.1,c.2.2.1,c.2.2.2.1] y ++ flK c ++ ZbT c.2.2.2.2.2.2.2.2.2=Zas c:=by
 have e:=ZNy h hy hge
 rw [ZH7 n,ZKk q,List.append_nil] at e
 exact e
theorem ZNB (h:ZbQ c=true) (hy:y≤3) (hge:¬ ((y:Nat):Int) < ((List.length [opT c.2.2.2.2.2.2.1,c.2.2.1,c.2.2.2.1]:Nat):Int)) (n:¬ c.2.1=11) (q:¬ c.2.1=6):[Zan c.1] ++ uidK c ++ [Zan (Za3 c.2.1)] ++ setK c ++ neK [opT c.2.2.2.2.2.2.1,c.2.2.1,c.2.2.2.1] y ++ flK c=Zas c:=by
 have e:=ZNy h hy hge
 rw [ZH7 n,ZH9 q,List.append_nil,List.append_nil] at e
 exact e
end
def Zk8 (c:GCommand):Nat→List AV→Mem→Zbe
 | 1000005,tm,M=>⟨Unit,fun _=>(Zcp (ZcG tm [(3, .c (.row 1 0)),(12, .any)]) 14 5,ZgY M [(1, .row Zab ((@id (List GToken) (rwL Zab M 1)) ++ uidK c) 0 0 none)]),fun _=>True,fun _=>0⟩
 | 1000008,tm,M=>⟨Unit,fun _=>(Zcp (ZcG tm [(3, .c (.row 1 0)),(25, .any)]) 29 8,ZgY M [(1, .row Zab ((@id (List GToken) (rwL Zab M 1)) ++ setK c) 0 0 none)]),fun _=>True,fun _=>0⟩
 | 10,tm,M=>⟨Nat,fun y=>(Zcp (ZcG tm [(3, .c (.row 1 0)),(5, .any),(46, .c (.int .i64 ((y:Nat):Int)))]) 47 11,ZgY M [(1, .row Zab ((@id (List GToken) (rwL Zab M 1)) ++ neK [opT c.2.2.2.2.2.2.1,c.2.2.1,c.2.2.2.1] y) 0 0 none)]),fun y=>(y≤3),fun y=>(3 - y)⟩
 | 1000016,tm,M=>⟨Unit,fun _=>(Zcp (ZcG tm [(3, .c (.row 1 0))]) 60 8,ZgY M [(1, .row Zab ((@id (List GToken) (rwL Zab M 1)) ++ flK c) 0 0 none)]),fun _=>True,fun _=>0⟩
 | _,_,_=>⟨Unit,fun _=>([],[]),fun _=>False,fun _=>0⟩
def Zby (c:GCommand):List AC:=[.str c.1, .int .i64 c.2.1, .str c.2.2.1, .str c.2.2.2.1, .bool c.2.2.2.2.1, .hs .no Zai c.2.2.2.2.2.1, .int .i64 c.2.2.2.2.2.2.1, .int .i64 c.2.2.2.2.2.2.2.1, .str c.2.2.2.2.2.2.2.2.1, .bool c.2.2.2.2.2.2.2.2.2.1, .hs .no Zae c.2.2.2.2.2.2.2.2.2.2]
def Zht (c:GCommand):List AC:=[.int .i64 (Zan c.1).1, .str (Zan c.1).2]
def Znj (c:GCommand):List AC:=[.int .i64 (Zan (Za3 c.2.1)).1, .str (Zan (Za3 c.2.1)).2]
def Zxx (c:GCommand) (y0:Nat) (y0' : Nat):Prop:=True∧lxs [.ag (Zby c), .c (.bool (Zc1 c)), .c (.bool false), .c (.bp 0 0), .c (.str c.1), .ag (Zht c)] (True∧lxs [.c (.bp 0 4)] (TN 5 (lxs [.c (.junk), .c (.bp 0 1),ci c.2.1, .c (.str (Za3 c.2.1)), .ag (Znj c), .c (.row 2 0)] (True∧lxs [.c (.bp 0 5),hn Zai c.2.2.2.2.2.1,ci c.2.2.2.2.2.1.length] (TN 8 (lxs [.c (.bp 0 6),ci c.2.2.2.2.2.2.1, .c (.str (opT c.2.2.2.2.2.2.1)), .c (.bp 0 2), .c (.str c.2.2.1), .c (.bp 0 3), .c (.str c.2.2.2.1), .c (.row 3 0),ci (List.length ([opT c.2.2.2.2.2.2.1,c.2.2.1,c.2.2.2.1]))] (vI (w64 ((y0:Int) + 1)) y0'∧TN 11 (tpn 28 True))))))))
def Zxy (c:GCommand) (y0:Nat):Prop:=True∧lxs [.ag (Zby c), .c (.bool (Zc1 c)), .c (.bool false), .c (.bp 0 0), .c (.str c.1), .ag (Zht c)] (True∧lxs [.c (.bp 0 4)] (TN 5 (lxs [.c (.junk), .c (.bp 0 1),ci c.2.1, .c (.str (Za3 c.2.1)), .ag (Znj c), .c (.row 2 0)] (True∧lxs [.c (.bp 0 5),hn Zai c.2.2.2.2.2.1,ci c.2.2.2.2.2.1.length] (TN 8 (lxs [.c (.bp 0 6),ci c.2.2.2.2.2.2.1, .c (.str (opT c.2.2.2.2.2.2.1)), .c (.bp 0 2), .c (.str c.2.2.1), .c (.bp 0 3), .c (.str c.2.2.2.1), .c (.row 3 0),ci (List.length ([opT c.2.2.2.2.2.2.1,c.2.2.1,c.2.2.2.1])),ci y0, .c (.bool false)] (TN 10 (lxs [.c (.bp 0 1),ci c.2.1] (TN 8 (tpn 18 True))))))))))
def Zxz (c:GCommand):Prop:=True∧lxs [.c (.bp 0 4)] (TN 5 (lxs [.c (.junk), .c (.bp 0 1),ci c.2.1, .c (.str (Za3 c.2.1)), .ag (Znj c), .c (.row 2 0)] (True∧lxs [.c (.bp 0 5),hn Zai c.2.2.2.2.2.1,ci c.2.2.2.2.2.1.length] (TN 8 (tpn 49 True)))))
def ZxA:Prop:=True∧lxs [.c (.bp 0 4)] (TN 5 (tpn 67 True))
theorem Zk9 (c:GCommand):Zaq Tryz.prog 13 [.ag (cellsOf ZaH c)] (.c (.row 0 0)) [.row Zab (Zas c) 0 0 none]:=by
 refine Zfc (T:=⟨[ZrJ,Zr5,ZlV,Zne,Zqj,ZeR,ZjL,Znx,Znz,ZgU],[],[],[],none,fun i=>match i with | 1000005=>[⟨some 0,0,Zao⟩] | 1000008=>[⟨some 0,0,Zao⟩] | 1000016=>[⟨some 0,0,Zao⟩] | _=>[],0,[],[]⟩) (L:=(Zk8 c)) Tryz.func13 ⟨⟨rfl,rfl⟩,rfl⟩ (fun hwf=>?_)
 refine Eq.mpr (β:=T3 (pt True∧True∧bif !(Zc1 c) then True∧pt (Zas c=[]) else T2 (pt True∧T4 ((bif c.2.2.2.2.1 then True∧pt True∧True∧(True∧List.length ([(Zan c.1)]) + List.length ([(Zan (⟨#[117,105,100]⟩:ByteArray))])≤rowMax)∧True∧(∃ _:Unit,True∧lxs [.ag (Zby c), .c (.bp 0 0), .c (.raw (.slice none 0 0)), .c (.row 1 0), .tp [], .tp [], .ag (Zby c), .c (.bool (Zc1 c)), .c (.bool false), .c (.bp 0 0), .c (.str c.1), .ag (Zht c)] ZxA∧pt (lb (.box (Zby c))∧leB (.row Zab ([(Zan c.1)] ++ [(Zan (⟨#[117,105,100]⟩:ByteArray))]) 0 0 none) (.row Zab (([(Zan c.1)]) ++ uidK c) 0 0 none)∧True)) else (∃ _:Unit,True∧lxs [.ag (Zby c), .c (.bp 0 0), .c (.raw (.slice none 0 0)), .c (.row 1 0), .tp [], .tp [], .ag (Zby c), .c (.bool (Zc1 c)), .c (.bool false), .c (.bp 0 0), .c (.str c.1), .ag (Zht c)] ZxA∧pt (lb (.box (Zby c))∧leB (.row Zab ([(Zan c.1)]) 0 0 none) (.row Zab (([(Zan c.1)]) ++ uidK c) 0 0 none)∧True)))∧∀ _:Unit,True→T3 (pt True∧pt True∧True∧(True∧List.length (([(Zan c.1)]) ++ uidK c) + List.length ([(Zan (Za3 c.2.1))])≤rowMax)∧T5 ((bif gtI c.2.2.2.2.2.1.length 0 then T3 (pt True∧pt True∧True∧(True∧List.length ((([(Zan c.1)]) ++ uidK c) ++ [(Zan (Za3 c.2.1))]) + List.length ([(Zan (Zif c.2.2.2.2.2.1))])≤rowMax)∧True∧(∃ _:Unit,True∧lxs [.ag (Zby c), .c (.bp 0 0), .c (.raw (.slice none 0 0)), .c (.row 1 0), .tp [], .tp [], .ag (Zby c), .c (.bool (Zc1 c)), .c (.bool false), .c (.bp 0 0), .c (.str c.1), .ag (Zht c)] (Zxz c)∧pt (lb (.box (Zby c))∧leB (.row Zab (((([(Zan c.1)]) ++ uidK c) ++ [(Zan (Za3 c.2.1))]) ++ [(Zan (Zif c.2.2.2.2.2.1))]) 0 0 none) (.row Zab (((([(Zan c.1)]) ++ uidK c) ++ [(Zan (Za3 c.2.1))]) ++ setK c) 0 0 none)∧lb (.row Zab ([(Zan (Za3 c.2.1))]) 0 0 none)∧True))) else (∃ _:Unit,True∧lxs [.ag (Zby c), .c (.bp 0 0), .c (.raw (.slice none 0 0)), .c (.row 1 0), .tp [], .tp [], .ag (Zby c), .c (.bool (Zc1 c)), .c (.bool false), .c (.bp 0 0), .c (.str c.1), .ag (Zht c)] (Zxz c)∧pt (lb (.box (Zby c))∧leB (.row Zab ((([(Zan c.1)]) ++ uidK c) ++ [(Zan (Za3 c.2.1))]) 0 0 none) (.row Zab (((([(Zan c.1)]) ++ uidK c) ++ [(Zan (Za3 c.2.1))]) ++ setK c) 0 0 none)∧lb (.row Zab ([(Zan (Za3 c.2.1))]) 0 0 none)∧True)))∧∀ _:Unit,True→pt (true=true)∧T7 (pt True∧T2 ((∃ q:Nat,(q≤3)∧lxs [.ag (Zby c), .c (.bp 0 0), .c (.raw (.slice none 0 0)), .c (.row 1 0), .tp []] (True∧lxs [.ag (Zby c), .c (.bool (Zc1 c)), .c (.bool false), .c (.bp 0 0), .c (.str c.1), .ag (Zht c)] (True∧lxs [.c (.bp 0 4)] (TN 5 (lxs [.c (.junk), .c (.bp 0 1),ci c.2.1, .c (.str (Za3 c.2.1)), .ag (Znj c), .c (.row 2 0)] (True∧lxs [.c (.bp 0 5),hn Zai c.2.2.2.2.2.1,ci c.2.2.2.2.2.1.length] (TN 8 (lxs [.c (.bp 0 6),ci c.2.2.2.2.2.2.1, .c (.str (opT c.2.2.2.2.2.2.1)), .c (.bp 0 2), .c (.str c.2.2.1), .c (.bp 0 3), .c (.str c.2.2.2.1), .c (.row 3 0),ci (List.length ([opT c.2.2.2.2.2.2.1,c.2.2.1,c.2.2.2.1]))] (vI 0 q∧TN 11 (tpn 28 True)))))))))∧pt (lb (.box (Zby c))∧leB (.row Zab (((([(Zan c.1)]) ++ uidK c) ++ [(Zan (Za3 c.2.1))]) ++ setK c) 0 0 none) (.row Zab ((((([(Zan c.1)]) ++ uidK c) ++ [(Zan (Za3 c.2.1))]) ++ setK c) ++ neK [opT c.2.2.2.2.2.2.1,c.2.2.1,c.2.2.2.1] q) 0 0 none)∧lb (.row Zab ([(Zan (Za3 c.2.1))]) 0 0 none)∧lb (.row Zah ([opT c.2.2.2.2.2.2.1,c.2.2.1,c.2.2.2.1]) 0 0 none)∧True))∧∀ y0:Nat,(y0≤3)→True∧bif ltI y0 (List.length ([opT c.2.2.2.2.2.2.1,c.2.2.1,c.2.2.2.1])) then ix 1 y0 (List.length ([opT c.2.2.2.2.2.2.1,c.2.2.1,c.2.2.2.1]))∧T4 (bif !eqS (Zaa ([opT c.2.2.2.2.2.2.1,c.2.2.1,c.2.2.2.1]) y0) (⟨#[]⟩:ByteArray) then T2 (pt True∧True∧(True∧List.length ((((([(Zan c.1)]) ++ uidK c) ++ [(Zan (Za3 c.2.1))]) ++ setK c) ++ neK [opT c.2.2.2.2.2.2.1,c.2.2.1,c.2.2.2.1] y0) + List.length ([(Zan (Zaa ([opT c.2.2.2.2.2.2.1,c.2.2.1,c.2.2.2.1]) y0))])≤rowMax)∧T3 (∃ y0' : Nat,(y0'≤3)∧(3 - y0') < (3 - y0)∧lxs [.ag (Zby c), .c (.bp 0 0), .c (.raw (.slice none 0 0)), .c (.row 1 0), .tp []] (Zxx c y0 y0')∧pt (lb (.box (Zby c))∧leB (.row Zab (((((([(Zan c.1)]) ++ uidK c) ++ [(Zan (Za3 c.2.1))]) ++ setK c) ++ neK [opT c.2.2.2.2.2.2.1,c.2.2.1,c.2.2.2.1] y0) ++ [(Zan (Zaa ([opT c.2.2.2.2.2.2.1,c.2.2.1,c.2.2.2.1]) y0))]) 0 0 none) (.row Zab ((((([(Zan c.1)]) ++ uidK c) ++ [(Zan (Za3 c.2.1))]) ++ setK c) ++ neK [opT c.2.2.2.2.2.2.1,c.2.2.1,c.2.2.2.1] y0') 0 0 none)∧lb (.row Zab ([(Zan (Za3 c.2.1))]) 0 0 none)∧lb (.row Zah ([opT c.2.2.2.2.2.2.1,c.2.2.1,c.2.2.2.1]) 0 0 none)∧True))) else T2 (∃ y0' : Nat,(y0'≤3)∧(3 - y0') < (3 - y0)∧lxs [.ag (Zby c), .c (.bp 0 0), .c (.raw (.slice none 0 0)), .c (.row 1 0), .tp []] (Zxx c y0 y0')∧pt (lb (.box (Zby c))∧leB (.row Zab ((((([(Zan c.1)]) ++ uidK c) ++ [(Zan (Za3 c.2.1))]) ++ setK c) ++ neK [opT c.2.2.2.2.2.2.1,c.2.2.1,c.2.2.2.1] y0) 0 0 none) (.row Zab ((((([(Zan c.1)]) ++ uidK c) ++ [(Zan (Za3 c.2.1))]) ++ setK c) ++ neK [opT c.2.2.2.2.2.2.1,c.2.2.1,c.2.2.2.1] y0') 0 0 none)∧lb (.row Zab ([(Zan (Za3 c.2.1))]) 0 0 none)∧lb (.row Zah ([opT c.2.2.2.2.2.2.1,c.2.2.1,c.2.2.2.1]) 0 0 none)∧True))) else T2 (pt True∧(bif fl7 c.2.1 then pt (true=true)∧T3 (pt True∧(ZaB.length≤1048576∧pt (true=true))∧(List.length (ZaO ZaB c.2.2.2.2.2.2.2.1 ZaB.length)≤1048576∧pt (true=true))∧(True∧List.length ((((([(Zan c.1)]) ++ uidK c) ++ [(Zan (Za3 c.2.1))]) ++ setK c) ++ neK [opT c.2.2.2.2.2.2.1,c.2.2.1,c.2.2.2.1] y0) + List.length (grK (ZaO ZaB c.2.2.2.2.2.2.2.1 ZaB.length))≤rowMax)∧True∧(∃ _:Unit,True∧lxs [.ag (Zby c), .c (.bp 0 0), .c (.raw (.slice none 0 0)), .c (.row 1 0), .tp []] (Zxy c y0)∧pt (lb (.box (Zby c))∧leB (.row Zab (((((([(Zan c.1)]) ++ uidK c) ++ [(Zan (Za3 c.2.1))]) ++ setK c) ++ neK [opT c.2.2.2.2.2.2.1,c.2.2.1,c.2.2.2.1] y0) ++ (grK (ZaO ZaB c.2.2.2.2.2.2.2.1 ZaB.length))) 0 0 none) (.row Zab (((((([(Zan c.1)]) ++ uidK c) ++ [(Zan (Za3 c.2.1))]) ++ setK c) ++ neK [opT c.2.2.2.2.2.2.1,c.2.2.1,c.2.2.2.1] y0) ++ flK c) 0 0 none)∧lb (.row Zab ([(Zan (Za3 c.2.1))]) 0 0 none)∧lb (.row Zah ([opT c.2.2.2.2.2.2.1,c.2.2.1,c.2.2.2.1]) 0 0 none)∧True))) else (∃ _:Unit,True∧lxs [.ag (Zby c), .c (.bp 0 0), .c (.raw (.slice none 0 0)), .c (.row 1 0), .tp []] (Zxy c y0)∧pt (lb (.box (Zby c))∧leB (.row Zab ((((([(Zan c.1)]) ++ uidK c) ++ [(Zan (Za3 c.2.1))]) ++ setK c) ++ neK [opT c.2.2.2.2.2.2.1,c.2.2.1,c.2.2.2.1] y0) 0 0 none) (.row Zab (((((([(Zan c.1)]) ++ uidK c) ++ [(Zan (Za3 c.2.1))]) ++ setK c) ++ neK [opT c.2.2.2.2.2.2.1,c.2.2.1,c.2.2.2.1] y0) ++ flK c) 0 0 none)∧lb (.row Zab ([(Zan (Za3 c.2.1))]) 0 0 none)∧lb (.row Zah ([opT c.2.2.2.2.2.2.1,c.2.2.1,c.2.2.2.1]) 0 0 none)∧True)))∧∀ _:Unit,True→T4 (bif eqI c.2.1 11 then T5 ((True∧List.length (((((([(Zan c.1)]) ++ uidK c) ++ [(Zan (Za3 c.2.1))]) ++ setK c) ++ neK [opT c.2.2.2.2.2.2.1,c.2.2.1,c.2.2.2.1] y0) ++ flK c) + List.length ([(2,c.2.2.2.2.2.2.2.2.1)]:List GToken)≤rowMax)∧T3 (pt (((((((([(Zan c.1)]) ++ uidK c) ++ [(Zan (Za3 c.2.1))]) ++ setK c) ++ neK [opT c.2.2.2.2.2.2.1,c.2.2.1,c.2.2.2.1] y0) ++ flK c) ++ ([(2,c.2.2.2.2.2.2.2.2.1)]:List GToken))=Zas c))) else T2 (bif eqI c.2.1 6 then T3 (pt True∧(True∧List.length (((((([(Zan c.1)]) ++ uidK c) ++ [(Zan (Za3 c.2.1))]) ++ setK c) ++ neK [opT c.2.2.2.2.2.2.1,c.2.2.1,c.2.2.2.1] y0) ++ flK c) + List.length (ZbT c.2.2.2.2.2.2.2.2.2)≤rowMax)∧T3 (pt (((((((([(Zan c.1)]) ++ uidK c) ++ [(Zan (Za3 c.2.1))]) ++ setK c) ++ neK [opT c.2.2.2.2.2.2.1,c.2.2.1,c.2.2.2.1] y0) ++ flK c) ++ (ZbT c.2.2.2.2.2.2.2.2.2))=Zas c))) else T2 (pt ((((((([(Zan c.1)]) ++ uidK c) ++ [(Zan (Za3 c.2.1))]) ++ setK c) ++ neK [opT c.2.2.2.2.2.2.1,c.2.2.1,c.2.2.2.1] y0) ++ flK c)=Zas c))))))))))))) (by kernel_rfl) ?_
 unfold ZxA Zxz Zxy Zxx Znj Zht Zby T2 T3 T4 T5 T7
 have h0:=Zrf c
 have h1:=Zrg c
 try simp only [ZCQ]
 simp only [Zbf,Zaz,Zbi,ZaC,Bool.not_true,Bool.not_false,Zdj,eq_self]
 repeat' (with_reducible first | exact trivial | apply And.intro | intro _)
 all_goals first
  | (with_reducible trivial)
  | omega
  | (with_reducible assumption)
  | exact if_pos (by with_reducible assumption)
  | exact Nat.le_trans (Zf6 _ _ _) (by decide)
  | exact ZQq (by with_reducible assumption)
  | exact ⟨0,Nat.zero_le _,rfl,(List.append_nil _).symm⟩
  | exact ZNs (by with_reducible assumption)
  | exact ZNt (by with_reducible assumption)
  | exact ZNu (by with_reducible assumption)
  | exact ZNv (by with_reducible assumption)
  | exact ZNw (by with_reducible assumption) (by with_reducible assumption)
  | exact ZNx (by with_reducible assumption) (by with_reducible assumption)
  | exact ZNz (by with_reducible assumption) (by with_reducible assumption) (by with_reducible assumption) (by with_reducible assumption)
  | exact ZNA (by with_reducible assumption) (by with_reducible assumption) (by with_reducible assumption) (by with_reducible assumption) (by with_reducible assumption)
  | exact ZNB (by with_reducible assumption) (by with_reducible assumption) (by with_reducible assumption) (by with_reducible assumption) (by with_reducible assumption)
  | ((try simp only [List.length_append,List.length_cons,List.length_nil,ZeA]); (first | unfold rowMax | unfold maxLen); omega)
  | (refine ⟨(),?_⟩; rw [ZGY (by assumption)])
  | (refine ⟨(),?_⟩; rw [ZG0 (by omega)])
  | (refine ⟨(),?_⟩; rw [ZG1 (by omega),List.append_nil])
  | (refine ⟨(),?_⟩; rw [ZKM (by assumption) (by assumption)])
  | (refine ⟨(),?_⟩; rw [ZKN (by assumption),List.append_nil])
def Zla:ZaD Tryz.prog:=⟨13,[.s ZaH],fun x=>True,fun x=>.c (.row 0 0),fun x=>[.row Zab (Zas x.1) 0 0 none],fun x hx=>Zk9 x.1,Tryz.call13⟩
end Go.Proofs.YtkeglpnnedflnaaGreatDoor
