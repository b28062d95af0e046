import Derived.Test.YtafhbjjcpncfnaaGreatIBlOk
import Derived.Test.YtafhbjjcpncfnaaGreatIUpper
import Derived.Test.YtafhbjjcpncfnaaGreatIBlBox
set_option linter.unusedSimpArgs false
set_option linter.unusedVariables false
set_option maxRecDepth 100000
set_option maxHeartbeats 4000000
namespace Go.Proofs.YtafhbjjcpncfnaaGreat
open Go.ChangeShapes Go.WideShapes Go.ChangeAt Go.RowKit Go.Joins Go.Deep
open GoRep (rep bulk)
theorem ZPm:Int.toNat 0=0:=rfl
theorem ZNh {a b:ByteArray}:(Op.bytesLess a.toList b.toList || eqS a b)=!Op.bytesLess b.toList a.toList:=ZLH a b
def Zjn (l:List ByteArray) (i:Nat):Bool:=!Zb8 (ZaF l i) || (decide (0 < i) && !Op.bytesLess (ZaF l (i - 1)).toList (ZaF l i).toList)
def ZbA (z:ZaW):Bool:=btw z.1 1 4 && (btw z.2.2 1 15 && (if z.1 < 3 then eqI (List.length z.2.1:Int) 0 else decide (∀ i,i < List.length z.2.1→Zjn z.2.1 i=false) && btw (List.length z.2.1:Int) 1 3))
theorem ZnM {z:ZaW} (h:btw z.1 1 4=false):ZbA z=false:=by unfold ZbA; rw [h]; rfl
theorem ZsF {z:ZaW} (h:btw z.2.2 1 15=false):ZbA z=false:=by unfold ZbA; rw [h]; cases btw z.1 1 4 <;> rfl
theorem Zl5 {z:ZaW} (h1:btw z.1 1 4=true) (h2:btw z.2.2 1 15=true) (h3:z.1 < 3):ZbA z=eqI (List.length z.2.1:Int) 0:=by unfold ZbA; rw [h1,h2,if_pos h3]; rfl
theorem ZiG {z:ZaW} {i:Nat} (h3:¬ z.1 < 3) (hi:i < List.length z.2.1) (hb:Zjn z.2.1 i=true):ZbA z=false:=by
 unfold ZbA
 rw [if_neg h3,decide_eq_false (fun q=>by rw [q i hi] at hb; cases hb)]
 cases btw z.1 1 4 <;> cases btw z.2.2 1 15 <;> rfl
theorem ZB8 {z:ZaW} (h1:btw z.1 1 4=true) (h2:btw z.2.2 1 15=true) (h3:¬ z.1 < 3) (h:∀ i,i < List.length z.2.1→Zjn z.2.1 i=false):ZbA z=btw (List.length z.2.1:Int) 1 3:=by
 unfold ZbA
 rw [h1,h2,if_neg h3,decide_eq_true h]
 rfl
def ZAM (l:List ZbT) (i:Nat):Bool:=!btw (ZaV l i).1 1 999999998 || (!btw (ZaV l i).2 0 31 || (decide (0 < i) && leI (ZaV l i).1 (ZaV l (i - 1)).1))
def ZdI (l:List ZbT):Bool:=decide (∀ i,i < List.length l→ZAM l i=false) && leI (List.length l:Int) 6
theorem ZFF {l:List ZbT} {i:Nat} (hi:i < List.length l) (hb:ZAM l i=true):ZdI l=false:=by
 unfold ZdI
 rw [decide_eq_false (fun q=>by rw [q i hi] at hb; cases hb)]
 rfl
theorem ZsG {l:List ZbT} (h:∀ i,i < List.length l→ZAM l i=false):ZdI l=leI (List.length l:Int) 6:=by
 unfold ZdI
 rw [decide_eq_true h]
 rfl
def Zcm (f:Zb1):Bool:=if f.1=true then btw (List.length f.2:Int) 1 3 && !List.any f.2 (fun z0:ZaW=>!ZbA z0) else eqI (List.length f.2:Int) 0
def Zcy (s:ByteArray):Bool:=eqS s (⟨#[]⟩:ByteArray) || Zl4 s
def ZAN (x:GIn):Bool:=leI (ByteArray.size x.1:Int) 600
def outOk (x:ZsC):Bool:=leI (ByteArray.size x.1:Int) 1200 && leI (ByteArray.size x.2:Int) 20000
def ZHV (s:ByteArray):Nat→List AV→Mem→Zbd
 | 2,tm,M=>⟨Nat,fun y=>(Zcf (Zcf (Zct tm [(7, .c (.int .i64 ((y:Nat):Int)))]) 2 3) 8 25,M),fun y=>(y≤ByteArray.size s∧∀ j,j < y→¬ Zjz (Zbc s j)),fun y=>(ByteArray.size s - y)⟩
 | _,_,_=>⟨Unit,fun _=>([],[]),fun _=>False,fun _=>0⟩
def ZB9 (s:ByteArray) (y0:Nat):Prop:=T2 (∃ y0' : Nat,(y0'≤s.size∧∀ j,j < y0'→¬ Zjz (Zbc s j))∧(s.size - y0') < (s.size - y0)∧lxs [.c (.str s), .tp []] (TN 3 (lxs [.c (.str s),ci s.size] (vI (w64 ((y0:Int) + 1)) y0'∧TN 25 (tpn 3 True))))∧pt (True))
def ZCa (s:ByteArray) (y0:Nat):Prop:=T3 (bif geI (Zbc (upT (ByteArray.extract s y0 (Int.toNat (w64 ((y0:Int) + 1))))) (Int.toNat 0)) 48 then T5 (bif !(leI (Zbc (upT (ByteArray.extract s y0 (Int.toNat (w64 ((y0:Int) + 1))))) (Int.toNat 0)) 57) then True∧rB false (Zl4 s) else ZB9 s y0) else T4 (rB false (Zl4 s)))
theorem ZHW (s:ByteArray):Zao Tryz.prog 179 [.c (.str s)] (.c (.bool (Zl4 s))) []:=by
 refine bc0 [ZJJ,ZcO] [] [] [] (ZHV s) Tryz.func179 (fun hwf=>?_)
 refine Eq.mpr (β:=T4 ((∃ q:Nat,(q≤s.size∧∀ j,j < q→¬ Zjz (Zbc s j))∧lxs [.c (.str s), .tp []] (TN 3 (lxs [.c (.str s),ci s.size] (vI 0 q∧TN 25 (tpn 3 True))))∧pt (True))∧∀ y0:Nat,(y0≤s.size∧∀ j,j < y0→¬ Zjz (Zbc s j))→True∧bif ltI y0 s.size then T6 (((0:Int)≤(y0:Int)∧(y0:Int)≤(w64 ((y0:Int) + 1))∧((w64 ((y0:Int) + 1)):Int)≤(s.size:Int))∧pt True∧((0:Int)≤0∧(0:Int) < (ByteArray.size (upT (ByteArray.extract s y0 (Int.toNat (w64 (((y0:Nat):Int) + 1))))):Int))∧T4 (bif geI (Zbc (upT (ByteArray.extract s y0 (Int.toNat (w64 ((y0:Int) + 1))))) (Int.toNat 0)) 65 then T4 (bif leI (Zbc (upT (ByteArray.extract s y0 (Int.toNat (w64 ((y0:Int) + 1))))) (Int.toNat 0)) 90 then T2 (ZB9 s y0) else ZCa s y0) else T2 (ZCa s y0))) else T2 (pt True∧True∧rB (btw (s.size:Int) 1 8) (Zl4 s)))) (by kernel_rfl) ?_
 unfold ZCa ZB9 T2 T3 T4 T5 T6
 have hm:s.size≤maxLen:=hwf.1
 unfold maxLen at hm
 simp only [Zeg,eq_self]
 refine ⟨⟨0,⟨Nat.zero_le _,fun j hj=>absurd hj (Nat.not_lt_zero j)⟩,rfl⟩,fun k hk=>⟨fun hlt=>?_,fun hge=>?_⟩⟩
 ·have hu:=ZNe (s:=s) (i:=k) (by omega)
  have e3:IntKind.wrap .i64 ((k:Int) + 1)=(k:Int) + 1:=ZaX (by omega) (by omega)
  have e1:Int.toNat ((k:Int) + 1)=k + 1:=by omega
  have hui:upI (Zbc s k)=if 97≤Zbc s k∧Zbc s k≤122 then Zbc s k - 32 else Zbc s k:=rfl
  simp only [e3,e1,ZPm,hu.1,hu.2,Int.toNat_natCast]
  repeat' (first | apply And.intro | intro _)
  all_goals as_aux_lemma=>first
   | trivial
   | omega
   | exact (ZEo (i:=k) (by omega) (by unfold Zjz; omega)).symm
   | exact ⟨k + 1,⟨by omega,fun j hj=>if h:j < k then hk.2 j h else by obtain rfl:j=k:=(by omega); unfold Zjz; omega⟩,by omega,by omega⟩
 ·exact Zz3
def ZHX:ZaE Tryz.prog:=⟨179,[.v Za1],fun x=>True,fun x=>.c (.bool (Zl4 x.1)),fun _=>[],fun x hx=>ZHW x.1,Tryz.call179⟩
def ZHY (s:ByteArray):Nat→List AV→Mem→Zbd
 | 2,tm,M=>⟨Nat,fun y=>(Zcf (Zct tm [(2, .any),(3, .c (.int .i64 ((y:Nat):Int)))]) 4 24,M),fun y=>(y≤ByteArray.size s∧∀ j,j < y→¬ Zjz (Zbc s j)),fun y=>(ByteArray.size s - y)⟩
 | _,_,_=>⟨Unit,fun _=>([],[]),fun _=>False,fun _=>0⟩
def Zuv (s:ByteArray) (y0:Nat):Prop:=T3 (∃ y0' : Nat,(y0'≤s.size∧∀ j,j < y0'→¬ Zjz (Zbc s j))∧(s.size - y0') < (s.size - y0)∧lxs [.c (.str s), .tp []] (True∧vI (w64 ((y0:Int) + 1)) y0'∧TN 24 (tpn 3 True))∧pt (True))
theorem ZHZ (s:ByteArray):Zao Tryz.prog 155 [.c (.str s)] (.c (.bool (Zl4 s))) []:=by
 refine bc0 [ZcI] [] [] [] (ZHY s) Tryz.func155 (fun hwf=>?_)
 refine Eq.mpr (β:=T2 ((∃ q:Nat,(q≤s.size∧∀ j,j < q→¬ Zjz (Zbc s j))∧lxs [.c (.str s), .tp []] (True∧vI 0 q∧TN 24 (tpn 3 True))∧pt (True))∧∀ y0:Nat,(y0≤s.size∧∀ j,j < y0→¬ Zjz (Zbc s j))→T4 (bif ltI y0 s.size then T2 (((0:Int)≤(y0:Int)∧(y0:Int) < (s.size:Int))∧true=true∧T2 (pt True∧T2 (bif !(btw (w64 (Zbc s y0)) 97 122) then True∧pt True∧T3 (bif !(btw (w64 (Zbc s y0)) 65 90) then True∧pt True∧T2 (bif !(btw (w64 (Zbc s y0)) 48 57) then True∧rB false (Zl4 s) else Zuv s y0) else True∧Zuv s y0) else T3 (Zuv s y0)))) else T2 (pt True∧True∧rB (btw (s.size:Int) 1 8) (Zl4 s))))) (by kernel_rfl) ?_
 unfold Zuv T2 T3 T4
 have hm:s.size≤maxLen:=hwf.1
 unfold maxLen at hm
 simp only [Zeg,eq_self]
 refine ⟨⟨0,⟨Nat.zero_le _,fun j hj=>absurd hj (Nat.not_lt_zero j)⟩,rfl⟩,fun k hk=>⟨fun hlt=>?_,fun hge=>?_⟩⟩
 ·have hb:=ZoG s k
  have e0:IntKind.wrap .i64 (Zbc s k)=Zbc s k:=ZaX (by omega) (by omega)
  simp only [e0,Zbu,ZbS,Int.toNat_natCast]
  repeat' (first | apply And.intro | intro _)
  all_goals as_aux_lemma=>first
   | trivial
   | omega
   | exact (ZEo (i:=k) (by omega) (by unfold Zjz; omega)).symm
   | exact ⟨k + 1,⟨by omega,fun j hj=>if h:j < k then hk.2 j h else by obtain rfl:j=k:=(by omega); unfold Zjz; omega⟩,by omega,Zbs (by unfold maxLen; omega)⟩
 ·exact Zz3
def ZH0:ZaE Tryz.prog:=⟨155,[.v Za1],fun x=>True,fun x=>.c (.bool (Zl4 x.1)),fun _=>[],fun x hx=>ZHZ x.1,Tryz.call155⟩
theorem ZwP (kind:Int):Zao Tryz.prog 222 [.c (.int .i64 kind)] (.c (.bool (eqI kind 3 || eqI kind 4))) []:=by
 refine bc0 [] [] [] [] L0 Tryz.func222 (fun hwf=>?_)
 refine Eq.mpr (β:=T4 (bif eqI kind 3 then T2 (rB true (eqI kind 3 || eqI kind 4)) else T4 (rB (eqI kind 4) (eqI kind 3 || eqI kind 4)))) (by kernel_rfl) ?_
 exact Zet
def ZwQ:ZaE Tryz.prog:=⟨222,[.v Zax],fun x=>True,fun x=>.c (.bool (eqI x.1 3 || eqI x.1 4)),fun _=>[],fun x hx=>ZwP x.1,Tryz.call222⟩
def ZCb (z:ZaW):Nat→List AV→Mem→Zbd
 | 6,tm,M=>⟨Nat,fun y=>(Zcf (Zcf (Zct tm [(26, .c (.int .i64 ((y:Nat):Int)))]) 2 3) 27 22,M),fun y=>(y≤List.length z.2.1∧∀ j,j < y→Zjn z.2.1 j=false),fun y=>(List.length z.2.1 - y)⟩
 | _,_,_=>⟨Unit,fun _=>([],[]),fun _=>False,fun _=>0⟩
def ZCc (z:ZaW) (y0:Nat):Prop:=T2 (∃ y0' : Nat,(y0'≤z.2.1.length∧∀ j,j < y0'→Zjn z.2.1 j=false)∧(z.2.1.length - y0') < (z.2.1.length - y0)∧lxs [.ag [.int .i64 z.1, .hs .no Za1 z.2.1, .int .i64 z.2.2], .c (.bp 0 0)] (TN 3 (lxs [.c (.bp 0 0),ci z.1, .c (.bool (btw z.1 1 4)), .c (.bool (!(btw z.1 1 4))), .c (.bool false), .c (.bp 0 2),ci z.2.2, .c (.bool (btw z.2.2 1 15)), .c (.bool (!(btw z.2.2 1 15))), .c (.bool false), .c (.bp 0 0),ci z.1, .c (.bool (eqI z.1 3 || eqI z.1 4)), .c (.bool false)] (tpn 4 (lxs [.c (.bp 0 1),hn Za1 z.2.1,ci z.2.1.length] (vI (w64 ((y0:Int) + 1)) y0'∧TN 22 (tpn 4 True))))))∧pt (lb (.box [.int .i64 z.1, .hs .no Za1 z.2.1, .int .i64 z.2.2])∧True))
theorem ZCd (z:ZaW):Zao Tryz.prog 175 [.ag [.int .i64 z.1, .hs .no Za1 z.2.1, .int .i64 z.2.2]] (.c (.bool (ZbA z))) []:=by
 refine bc0 [ZcO,ZwQ,Zkk] [] [] [] (ZCb z) Tryz.func175 (fun hwf=>?_)
 refine Eq.mpr (β:=T4 (pt True∧T2 (bif !(btw z.1 1 4) then T2 (rB false (ZbA z)) else T2 (pt True∧T2 (bif !(btw z.2.2 1 15) then True∧rB false (ZbA z) else T2 (pt True∧True∧bif !(eqI z.1 3 || eqI z.1 4) then T5 (rB (eqI z.2.1.length 0) (ZbA z)) else T4 ((∃ q:Nat,(q≤z.2.1.length∧∀ j,j < q→Zjn z.2.1 j=false)∧lxs [.ag [.int .i64 z.1, .hs .no Za1 z.2.1, .int .i64 z.2.2], .c (.bp 0 0)] (TN 3 (lxs [.c (.bp 0 0),ci z.1, .c (.bool (btw z.1 1 4)), .c (.bool (!(btw z.1 1 4))), .c (.bool false), .c (.bp 0 2),ci z.2.2, .c (.bool (btw z.2.2 1 15)), .c (.bool (!(btw z.2.2 1 15))), .c (.bool false), .c (.bp 0 0),ci z.1, .c (.bool (eqI z.1 3 || eqI z.1 4)), .c (.bool false)] (tpn 4 (lxs [.c (.bp 0 1),hn Za1 z.2.1,ci z.2.1.length] (vI 0 q∧TN 22 (tpn 4 True))))))∧pt (lb (.box [.int .i64 z.1, .hs .no Za1 z.2.1, .int .i64 z.2.2])∧True))∧∀ y0:Nat,(y0≤z.2.1.length∧∀ j,j < y0→Zjn z.2.1 j=false)→True∧bif ltI y0 z.2.1.length then True∧ix 1 y0 z.2.1.length∧T4 (pt True∧T2 (bif !(Zb8 (ZaF z.2.1 y0)) then T2 (rB false (ZbA z)) else T3 (bif gtI y0 0 then T5 (ix 1 (w64 ((y0:Int) - 1)) z.2.1.length∧T4 (bif Op.bytesLess (ZaF z.2.1 y0).toList (ZaF z.2.1 (Int.toNat (w64 ((y0:Int) - 1)))).toList || eqS (ZaF z.2.1 y0) (ZaF z.2.1 (Int.toNat (w64 ((y0:Int) - 1)))) then True∧rB false (ZbA z) else ZCc z y0)) else T2 (ZCc z y0)))) else T3 (pt True∧True∧rB (btw (z.2.1.length:Int) 1 3) (ZbA z))))))))) (by kernel_rfl) ?_
 unfold ZCc T2 T3 T4 T5
 have hm:List.length z.2.1≤maxLen:=hwf.1.2.1.1
 unfold maxLen at hm
 simp only [ZNh]
 simp only [Zeg,eq_self]
 refine ⟨fun h1=>(ZnM h1).symm,fun h1=>⟨fun h2=>(ZsF h2).symm,fun h2=>⟨fun h3=>?_,fun h3=>⟨⟨0,⟨Nat.zero_le _,Za3⟩,rfl⟩,fun k hk=>⟨fun hlt=>?_,fun hge=>?_⟩⟩⟩⟩⟩
 ·have h3' : z.1 < 3:=by
   rw [Bool.or_eq_false_iff,ZaS,ZaS] at h3
   rw [Zbu] at h1
   omega
  exact (Zl5 h1 h2 h3').symm
 ·have h4:¬ z.1 < 3:=by
   rw [Bool.or_eq_true,ZaJ,ZaJ] at h3
   omega
  have hlt' : k < List.length z.2.1:=by omega
  refine ⟨by omega,fun p=>(ZiG h4 hlt' (by simp [Zjn,p])).symm,fun p=>⟨fun hp=>?_,fun hp=>?_⟩⟩
  ·have e:IntKind.wrap .i64 ((k:Int) - 1)=((k - 1:Nat):Int):=by rw [ZaX (by omega) (by omega)]; omega
   have hp' : 0 < k:=by omega
   rw [e,Int.toNat_natCast]
   refine ⟨by omega,⟨fun r=>(ZiG h4 hlt' (by simp [Zjn,p,r,hp'])).symm,fun r=>⟨k + 1,⟨by omega,ZaU hk.2 (by simp [Zjn,p,r])⟩,by omega,Zbs (by unfold maxLen; omega)⟩⟩⟩
  ·exact ZzM
 ·have h4:¬ z.1 < 3:=by
   rw [Bool.or_eq_true,ZaJ,ZaJ] at h3
   omega
  exact ZAn
def ZCe:ZaE Tryz.prog:=⟨175,[.s Zak],fun x=>True,fun x=>.c (.bool (ZbA x.1)),fun _=>[],fun x hx=>ZCd x.1,Tryz.call175⟩
def ZCf (z:ZaW):Nat→List AV→Mem→Zbd
 | 6,tm,M=>⟨Nat,fun y=>(Zcf (Zct tm [(2, .any),(3, .c (.int .i64 ((y:Nat):Int)))]) 21 32,M),fun y=>(y≤List.length z.2.1∧∀ j,j < y→Zjn z.2.1 j=false),fun y=>(List.length z.2.1 - y)⟩
 | _,_,_=>⟨Unit,fun _=>([],[]),fun _=>False,fun _=>0⟩
def ZCg (z:ZaW) (y0:Nat):Prop:=T3 (∃ y0' : Nat,(y0'≤z.2.1.length∧∀ j,j < y0'→Zjn z.2.1 j=false)∧(z.2.1.length - y0') < (z.2.1.length - y0)∧lxs [.ag [.int .i64 z.1, .hs .no Za1 z.2.1, .int .i64 z.2.2], .c (.bp 0 0)] (True∧vI (w64 ((y0:Int) + 1)) y0'∧lxs [.c (.bp 0 0),ci z.1, .c (.bool (btw z.1 1 4)), .c (.bool (!(btw z.1 1 4))), .c (.bool false), .c (.bp 0 2),ci z.2.2, .c (.bool (btw z.2.2 1 15)), .c (.bool (!(btw z.2.2 1 15))), .c (.bool false), .c (.bp 0 0),ci z.1, .c (.bool false)] (tpn 4 (TN 32 (tpn 4 True))))∧pt (lb (.box [.int .i64 z.1, .hs .no Za1 z.2.1, .int .i64 z.2.2])∧True))
theorem ZCh (z:ZaW):Zao Tryz.prog 151 [.ag [.int .i64 z.1, .hs .no Za1 z.2.1, .int .i64 z.2.2]] (.c (.bool (ZbA z))) []:=by
 refine bc0 [ZcI,Zkl] [] [] [] (ZCf z) Tryz.func151 (fun hwf=>?_)
 refine Eq.mpr (β:=T4 (pt True∧T2 (bif !(btw z.1 1 4) then T2 (rB false (ZbA z)) else T2 (pt True∧T2 (bif !(btw z.2.2 1 15) then True∧rB false (ZbA z) else T3 (bif ltI z.1 3 then T5 (rB (eqI z.2.1.length 0) (ZbA z)) else True∧(∃ q:Nat,(q≤z.2.1.length∧∀ j,j < q→Zjn z.2.1 j=false)∧lxs [.ag [.int .i64 z.1, .hs .no Za1 z.2.1, .int .i64 z.2.2], .c (.bp 0 0)] (True∧vI 0 q∧lxs [.c (.bp 0 0),ci z.1, .c (.bool (btw z.1 1 4)), .c (.bool (!(btw z.1 1 4))), .c (.bool false), .c (.bp 0 2),ci z.2.2, .c (.bool (btw z.2.2 1 15)), .c (.bool (!(btw z.2.2 1 15))), .c (.bool false), .c (.bp 0 0),ci z.1, .c (.bool false)] (tpn 4 (TN 32 (tpn 4 True))))∧pt (lb (.box [.int .i64 z.1, .hs .no Za1 z.2.1, .int .i64 z.2.2])∧True))∧∀ y0:Nat,(y0≤z.2.1.length∧∀ j,j < y0→Zjn z.2.1 j=false)→T5 (bif ltI y0 z.2.1.length then pt (true=true)∧T3 (ix 1 y0 z.2.1.length∧True∧pt True∧T2 (bif !(Zb8 (ZaF z.2.1 y0)) then T2 (rB false (ZbA z)) else T3 (bif gtI y0 0 then T4 (ix 1 (w64 ((y0:Int) - 1)) z.2.1.length∧T4 (ix 1 y0 z.2.1.length∧T4 (bif !Op.bytesLess (ZaF z.2.1 (Int.toNat (w64 ((y0:Int) - 1)))).toList (ZaF z.2.1 y0).toList then True∧rB false (ZbA z) else ZCg z y0))) else T2 (ZCg z y0)))) else T3 (pt True∧True∧rB (btw (z.2.1.length:Int) 1 3) (ZbA z))))))))) (by kernel_rfl) ?_
 unfold ZCg T2 T3 T4 T5
 have hm:List.length z.2.1≤maxLen:=hwf.1.2.1.1
 unfold maxLen at hm
 simp only [ZNh]
 simp only [Zeg,eq_self]
 refine ⟨fun h1=>(ZnM h1).symm,fun h1=>⟨fun h2=>(ZsF h2).symm,fun h2=>⟨fun h3=>?_,fun h3=>⟨⟨0,⟨Nat.zero_le _,Za3⟩,rfl⟩,fun k hk=>⟨fun hlt=>?_,fun hge=>?_⟩⟩⟩⟩⟩
 ·have h3':=h3
  exact (Zl5 h1 h2 h3').symm
 ·have h4:=h3
  have hlt' : k < List.length z.2.1:=by omega
  refine ⟨by omega,fun p=>(ZiG h4 hlt' (by simp [Zjn,p])).symm,fun p=>⟨fun hp=>?_,fun hp=>?_⟩⟩
  ·have e:IntKind.wrap .i64 ((k:Int) - 1)=((k - 1:Nat):Int):=by rw [ZaX (by omega) (by omega)]; omega
   have hp' : 0 < k:=by omega
   rw [e,Int.toNat_natCast]
   refine ⟨by omega,by omega,⟨fun r=>(ZiG h4 hlt' (by simp [Zjn,p,r,hp'])).symm,fun r=>⟨k + 1,⟨by omega,ZaU hk.2 (by simp [Zjn,p,r])⟩,by omega,Zbs (by unfold maxLen; omega)⟩⟩⟩
  ·exact ZzM
 ·have h4:=h3
  exact ZAn
def ZCi:ZaE Tryz.prog:=⟨151,[.s Zak],fun x=>True,fun x=>.c (.bool (ZbA x.1)),fun _=>[],fun x hx=>ZCh x.1,Tryz.call151⟩
def ZFG (v:List ZbT):Nat→List AV→Mem→Zbd
 | 2,tm,M=>⟨Nat,fun y=>(Zcf (Zcf (Zct tm [(8, .c (.int .i64 ((y:Nat):Int)))]) 2 3) 9 31,M),fun y=>(y≤List.length v∧∀ j,j < y→ZAM v j=false),fun y=>(List.length v - y)⟩
 | _,_,_=>⟨Unit,fun _=>([],[]),fun _=>False,fun _=>0⟩
def ZCj (v:List ZbT) (y0:Nat):Prop:=T2 (∃ y0' : Nat,(y0'≤v.length∧∀ j,j < y0'→ZAM v j=false)∧(v.length - y0') < (v.length - y0)∧lxs [.ag [.hs .no Zay v], .c (.bp 0 0)] (TN 3 (lxs [.c (.bp 0 0),hn Zay v,ci v.length] (vI (w64 ((y0:Int) + 1)) y0'∧TN 31 (tpn 4 True))))∧pt (lb (.box [.hs .no Zay v])∧True))
theorem ZFH (v:List ZbT):Zao Tryz.prog 113 [.ag [.hs .no Zay v]] (.c (.bool (ZdI v))) []:=by
 refine bc0 [ZcO,Zlf] [] [] [] (ZFG v) Tryz.func113 (fun hwf=>?_)
 refine Eq.mpr (β:=T6 ((∃ q:Nat,(q≤v.length∧∀ j,j < q→ZAM v j=false)∧lxs [.ag [.hs .no Zay v], .c (.bp 0 0)] (TN 3 (lxs [.c (.bp 0 0),hn Zay v,ci v.length] (vI 0 q∧TN 31 (tpn 4 True))))∧pt (lb (.box [.hs .no Zay v])∧True))∧∀ y0:Nat,(y0≤v.length∧∀ j,j < y0→ZAM v j=false)→True∧bif ltI y0 v.length then True∧ix 2 y0 v.length∧T4 (pt (true=true)∧T2 (pt True∧T2 (bif !(btw (ZaV v y0).1 1 999999998) then T4 (rB false (ZdI v)) else T2 (pt True∧T3 (bif !(Zbn (ZaV v y0).2) then T2 (rB false (ZdI v)) else T3 (bif gtI y0 0 then T6 (ix 2 (w64 ((y0:Int) - 1)) v.length∧T5 (bif leI (ZaV v y0).1 (ZaV v (Int.toNat (w64 ((y0:Int) - 1)))).1 then True∧rB false (ZdI v) else ZCj v y0)) else T2 (ZCj v y0))))))) else T5 (rB (leI v.length 6) (ZdI v)))) (by kernel_rfl) ?_
 unfold ZCj T2 T3 T4 T5 T6
 exact ZyY
def ZFI:ZaE Tryz.prog:=⟨113,[.s (.list Zay)],fun x=>True,fun x=>.c (.bool (ZdI x.1)),fun _=>[],fun x hx=>ZFH x.1,Tryz.call113⟩
def ZFJ (v:List ZbT):Nat→List AV→Mem→Zbd
 | 2,tm,M=>⟨Nat,fun y=>(Zcf (Zct tm [(2, .any),(3, .c (.int .i64 ((y:Nat):Int)))]) 4 39,M),fun y=>(y≤List.length v∧∀ j,j < y→ZAM v j=false),fun y=>(List.length v - y)⟩
 | _,_,_=>⟨Unit,fun _=>([],[]),fun _=>False,fun _=>0⟩
def ZCk (v:List ZbT) (y0:Nat):Prop:=T2 (pt True∧T2 (bif !(Zbn (ZaV v y0).2) then True∧rB false (ZdI v) else T3 (∃ y0' : Nat,(y0'≤v.length∧∀ j,j < y0'→ZAM v j=false)∧(v.length - y0') < (v.length - y0)∧lxs [.ag [.hs .no Zay v], .c (.bp 0 0)] (True∧vI (w64 ((y0:Int) + 1)) y0'∧TN 39 (tpn 4 True))∧pt (lb (.box [.hs .no Zay v])∧True))))
theorem ZFK (v:List ZbT):Zao Tryz.prog 84 [.ag [.hs .no Zay v]] (.c (.bool (ZdI v))) []:=by
 refine bc0 [ZcI,Zlg] [] [] [] (ZFJ v) Tryz.func84 (fun hwf=>?_)
 refine Eq.mpr (β:=T3 ((∃ q:Nat,(q≤v.length∧∀ j,j < q→ZAM v j=false)∧lxs [.ag [.hs .no Zay v], .c (.bp 0 0)] (True∧vI 0 q∧TN 39 (tpn 4 True))∧pt (lb (.box [.hs .no Zay v])∧True))∧∀ y0:Nat,(y0≤v.length∧∀ j,j < y0→ZAM v j=false)→T5 (bif ltI y0 v.length then T3 (ix 2 y0 v.length∧T3 (pt (true=true)∧T2 (pt True∧T2 (bif !(btw (ZaV v y0).1 1 999999998) then T4 (rB false (ZdI v)) else T3 (bif gtI y0 0 then T4 (ix 2 (w64 ((y0:Int) - 1)) v.length∧T8 (bif geI (ZaV v (Int.toNat (w64 ((y0:Int) - 1)))).1 (ZaV v y0).1 then T2 (rB false (ZdI v)) else ZCk v y0)) else T3 (ZCk v y0)))))) else T5 (rB (leI v.length 6) (ZdI v))))) (by kernel_rfl) ?_
 unfold ZCk T2 T3 T4 T5 T8
 exact ZyY
def Zfh:ZaE Tryz.prog:=⟨84,[.s (.list Zay)],fun x=>True,fun x=>.c (.bool (ZdI x.1)),fun _=>[],fun x hx=>ZFK x.1,Tryz.call84⟩
theorem Zse (z:ZaW):Zao Tryz.prog 174 [.ag [.int .i64 z.1, .hs .no Za1 z.2.1, .int .i64 z.2.2]] (.c (.bool (!ZbA z))) []:=by
 refine bc0 [ZCe] [] [] [] L0 Tryz.func174 (fun hwf=>?_)
 refine Eq.mpr (β:=T3 (pt True∧T2 (rB (!(ZbA z)) (!ZbA z)))) (by kernel_rfl) ?_
 exact Zet
def Zsf:ZaE Tryz.prog:=⟨174,[.s Zak],fun x=>True,fun x=>.c (.bool (!ZbA x.1)),fun _=>[],fun x hx=>Zse x.1,Tryz.call174⟩
theorem ZwR (f:Zb1):Zao Tryz.prog 114 [.ag [.bool f.1, .hs .no Zak f.2]] (.c (.bool (Zcm f))) []:=by
 refine bc0 [ZcO,Zsf] [Zek] [] [] L0 Tryz.func114 (fun hwf=>?_)
 refine Eq.mpr (β:=T5 (bif !f.1 then T5 (rB (eqI f.2.length 0) (Zcm f)) else T3 (pt True∧True∧bif btw (f.2.length:Int) 1 3 then T2 (((∀ z0:ZaW,True∧True)∧∀ (_:ZaW→Bool) (_:List ZaW),true=true)∧T3 (rB (!(List.any f.2 (fun z0:ZaW=>(!ZbA z0)))) (Zcm f))) else T2 (rB false (Zcm f))))) (by kernel_rfl) ?_
 simp only [Zeg,eq_self]
 repeat' (first | apply And.intro | intro _)
 all_goals first
  | trivial
  | omega
  | (simp_all [Zcm]; done)
def ZwS:ZaE Tryz.prog:=⟨114,[.s Zdd],fun x=>True,fun x=>.c (.bool (Zcm x.1)),fun _=>[],fun x hx=>ZwR x.1,Tryz.call114⟩
theorem ZJ3 {l:List ZaW} (h:∀ j,j < List.length l→ZbA (Zas l j)=true):List.any l (fun z0:ZaW=>!ZbA z0)=false:=Zie (t:=Zak) (xs:=l) (p:=fun z0:ZaW=>!ZbA z0) (fun j hj=>by show (!ZbA (Zas l j))=false; rw [h j hj]; rfl)
theorem ZH1 {l:List ZaW} {k:Nat} (hk:k < List.length l) (h:ZbA (Zas l k)=false):List.any l (fun z0:ZaW=>!ZbA z0)=true:=ZkA (t:=Zak) (xs:=l) (p:=fun z0:ZaW=>!ZbA z0) hk (by show (!ZbA (Zas l k))=true; rw [h]; rfl)
def ZwT (f:Zb1):Nat→List AV→Mem→Zbd
 | 2,tm,M=>⟨Nat,fun y=>(Zcf (Zct tm [(2, .any),(3, .c (.int .i64 ((y:Nat):Int)))]) 4 14,M),fun y=>(y≤List.length f.2∧∀ j,j < y→ZbA (Zas f.2 j)=true),fun y=>(List.length f.2 - y)⟩
 | _,_,_=>⟨Unit,fun _=>([],[]),fun _=>False,fun _=>0⟩
theorem ZwU (f:Zb1):Zao Tryz.prog 85 [.ag [.bool f.1, .hs .no Zak f.2]] (.c (.bool (Zcm f))) []:=by
 refine bc0 [ZCi,ZcI] [] [] [] (ZwT f) Tryz.func85 (fun hwf=>?_)
 refine Eq.mpr (β:=T3 ((∃ q:Nat,(q≤f.2.length∧∀ j,j < q→ZbA (Zas f.2 j)=true)∧lxs [.ag [.bool f.1, .hs .no Zak f.2], .c (.bp 0 0)] (True∧vI 0 q∧TN 14 (tpn 11 True))∧pt (lb (.box [.bool f.1, .hs .no Zak f.2])∧True))∧∀ y0:Nat,(y0≤f.2.length∧∀ j,j < y0→ZbA (Zas f.2 j)=true)→T5 (bif ltI y0 f.2.length then T3 (ix 3 y0 f.2.length∧True∧pt True∧True∧bif !(ZbA (Zas f.2 y0)) then True∧rB false (Zcm f) else T3 (∃ y0' : Nat,(y0'≤f.2.length∧∀ j,j < y0'→ZbA (Zas f.2 j)=true)∧(f.2.length - y0') < (f.2.length - y0)∧lxs [.ag [.bool f.1, .hs .no Zak f.2], .c (.bp 0 0)] (True∧vI (w64 ((y0:Int) + 1)) y0'∧TN 14 (tpn 11 True))∧pt (lb (.box [.bool f.1, .hs .no Zak f.2])∧True))) else T3 (bif !f.1 then T5 (rB (eqI f.2.length 0) (Zcm f)) else T3 (pt True∧True∧rB (btw (f.2.length:Int) 1 3) (Zcm f)))))) (by kernel_rfl) ?_
 unfold T3 T5
 have hm:List.length f.2≤maxLen:=hwf.1.2.1.1
 unfold maxLen at hm
 simp only [Zeg,eq_self]
 refine ⟨⟨0,⟨Nat.zero_le _,Za3⟩,rfl⟩,fun k hk=>⟨fun hlt=>?_,fun hge=>?_⟩⟩
 ·have hlt' : k < List.length f.2:=by omega
  refine ⟨by omega,fun p=>?_,fun p=>⟨k + 1,⟨by omega,ZaU hk.2 p⟩,by omega,Zbs (by unfold maxLen; omega)⟩⟩
  unfold Zcm
  rw [ZH1 hlt' p]
  cases f.1 with
  | true=>simp
  | false=>simp [ZaS]; intro h; rw [h] at hlt'; cases hlt'
 ·obtain rfl:k=List.length f.2:=by omega
  unfold Zcm
  rw [ZJ3 hk.2]
  cases f.1 <;> simp
def Zd5:ZaE Tryz.prog:=⟨85,[.s Zdd],fun x=>True,fun x=>.c (.bool (Zcm x.1)),fun _=>[],fun x hx=>ZwU x.1,Tryz.call85⟩
theorem ZJ4 (x:GIn):Zao Tryz.prog 116 [.ag [.str x.1, .bool x.2]] (.c (.bool (ZAN x))) []:=by
 refine bc0 [] [] [] [] L0 Tryz.func116 (fun hwf=>?_)
 exact Zzh
def ZJ5:ZaE Tryz.prog:=⟨116,[.s ZEU],fun x=>True,fun x=>.c (.bool (ZAN x.1)),fun _=>[],fun x hx=>ZJ4 x.1,Tryz.call116⟩
theorem ZH2 (x:ZsC):Zao Tryz.prog 111 [.ag [.str x.1, .str x.2]] (.c (.bool (outOk x))) []:=by
 refine bc0 [] [] [] [] L0 Tryz.func111 (fun hwf=>?_)
 exact Zy4
def ZH3:ZaE Tryz.prog:=⟨111,[.s Zmx],fun x=>True,fun x=>.c (.bool (outOk x.1)),fun _=>[],fun x hx=>ZH2 x.1,Tryz.call111⟩
theorem ZJ6 (x:GIn):Zao Tryz.prog 87 [.ag [.str x.1, .bool x.2]] (.c (.bool (ZAN x))) []:=by
 refine bc0 [] [] [] [] L0 Tryz.func87 (fun hwf=>?_)
 exact Zzh
def ZiH:ZaE Tryz.prog:=⟨87,[.s ZEU],fun x=>True,fun x=>.c (.bool (ZAN x.1)),fun _=>[],fun x hx=>ZJ6 x.1,Tryz.call87⟩
theorem ZH4 (x:ZsC):Zao Tryz.prog 80 [.ag [.str x.1, .str x.2]] (.c (.bool (outOk x))) []:=by
 refine bc0 [] [] [] [] L0 Tryz.func80 (fun hwf=>?_)
 exact Zy4
def ZfG:ZaE Tryz.prog:=⟨80,[.s Zmx],fun x=>True,fun x=>.c (.bool (outOk x.1)),fun _=>[],fun x hx=>ZH4 x.1,Tryz.call80⟩
theorem ZpA (s:ByteArray):Zao Tryz.prog 117 [.c (.str s)] (.c (.bool (Zcy s))) []:=by
 refine bc0 [ZHX] [] [] [] L0 Tryz.func117 (fun hwf=>?_)
 exact Zzb
def ZpB:ZaE Tryz.prog:=⟨117,[.v Za1],fun x=>True,fun x=>.c (.bool (Zcy x.1)),fun _=>[],fun x hx=>ZpA x.1,Tryz.call117⟩
theorem ZFL (s:ByteArray):Zao Tryz.prog 88 [.c (.str s)] (.c (.bool (Zcy s))) []:=by
 refine bc0 [ZH0] [] [] [] L0 Tryz.func88 (fun hwf=>?_)
 exact Zzb
def Zfi:ZaE Tryz.prog:=⟨88,[.v Za1],fun x=>True,fun x=>.c (.bool (Zcy x.1)),fun _=>[],fun x hx=>ZFL x.1,Tryz.call88⟩
end Go.Proofs.YtafhbjjcpncfnaaGreat
