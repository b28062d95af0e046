import Derived.Test.YtkeglpnnedflnaaGreatDoorPBlOk
import Derived.Test.YtkeglpnnedflnaaGreatDoorPUpper
set_option linter.unusedSimpArgs false
set_option linter.unusedVariables false
set_option maxRecDepth 100000
set_option maxHeartbeats 4000000
namespace Go.Proofs.YtkeglpnnedflnaaGreatDoor
open Go.ChangeShapes Go.WideShapes Go.ChangeAt Go.RowKit Go.Joins Go.Deep
open GoRep (rep bulk)
theorem ZP1:Int.toNat 0=0:=rfl
def ZaC (b:Int):Bool:=btw b 0 31
theorem ZKp {a b:ByteArray}:(Op.bytesLess a.toList b.toList || eqS a b)=!Op.bytesLess b.toList a.toList:=ZKm a b
def Zhe (l:List ByteArray) (i:Nat):Bool:=!Zbn (Zaa l i) || (decide (0 < i) && !Op.bytesLess (Zaa l (i - 1)).toList (Zaa l i).toList)
def Zay (z:GScope):Bool:=btw z.1 1 4 && (btw z.2.2 1 15 && (if z.1 < 3 then eqI (List.length z.2.1:Int) 0 else decide (∀ i,i < List.length z.2.1→Zhe z.2.1 i=false) && btw (List.length z.2.1:Int) 1 3))
theorem ZlR {z:GScope} (h:btw z.1 1 4=false):Zay z=false:=by unfold Zay; rw [h]; rfl
theorem Zqg {z:GScope} (h:btw z.2.2 1 15=false):Zay z=false:=by unfold Zay; rw [h]; cases btw z.1 1 4 <;> rfl
theorem ZjK {z:GScope} (h1:btw z.1 1 4=true) (h2:btw z.2.2 1 15=true) (h3:z.1 < 3):Zay z=eqI (List.length z.2.1:Int) 0:=by unfold Zay; rw [h1,h2,if_pos h3]; rfl
theorem ZgE {z:GScope} {i:Nat} (h3:¬ z.1 < 3) (hi:i < List.length z.2.1) (hb:Zhe z.2.1 i=true):Zay z=false:=by
 unfold Zay
 rw [if_neg h3,decide_eq_false (fun q=>by rw [q i hi] at hb; cases hb)]
 cases btw z.1 1 4 <;> cases btw z.2.2 1 15 <;> rfl
theorem ZwR {z:GScope} (h1:btw z.1 1 4=true) (h2:btw z.2.2 1 15=true) (h3:¬ z.1 < 3) (h:∀ i,i < List.length z.2.1→Zhe z.2.1 i=false):Zay z=btw (List.length z.2.1:Int) 1 3:=by
 unfold Zay
 rw [h1,h2,if_neg h3,decide_eq_true h]
 rfl
def Zar (f:GFilter):Bool:=if f.1=true then btw (List.length f.2:Int) 1 3 && !List.any f.2 (fun z0:GScope=>!Zay z0) else eqI (List.length f.2:Int) 0
def ZCt (s:ByteArray):Nat→List AV→Mem→Zbe
 | 2,tm,M=>⟨Nat,fun y=>(Zcp (Zcp (ZcG tm [(7, .c (.int .i64 ((y:Nat):Int)))]) 2 3) 8 25,M),fun y=>(y≤ByteArray.size s∧∀ j,j < y→¬ Zhr (Zap s j)),fun y=>(ByteArray.size s - y)⟩
 | _,_,_=>⟨Unit,fun _=>([],[]),fun _=>False,fun _=>0⟩
def ZwS (s:ByteArray) (y0:Nat):Prop:=T2 (∃ y0' : Nat,(y0'≤s.size∧∀ j,j < y0'→¬ Zhr (Zap s j))∧(s.size - y0') < (s.size - y0)∧lxs [.c (.str s), .tp []] (TN 3 (lxs [.c (.str s),ci s.size] (vI (w64 ((y0:Int) + 1)) y0'∧TN 25 (tpn 3 True))))∧pt (True))
def ZwT (s:ByteArray) (y0:Nat):Prop:=T3 (bif geI (Zap (upT (ByteArray.extract s y0 (Int.toNat (w64 ((y0:Int) + 1))))) (Int.toNat 0)) 48 then T5 (bif !(leI (Zap (upT (ByteArray.extract s y0 (Int.toNat (w64 ((y0:Int) + 1))))) (Int.toNat 0)) 57) then True∧rB false (ZgD s) else ZwS s y0) else T4 (rB false (ZgD s)))
theorem ZCu (s:ByteArray):Zaq Tryz.prog 82 [.c (.str s)] (.c (.bool (ZgD s))) []:=by
 refine bc0 [Zfx,ZcW] [] [] [] (ZCt s) Tryz.func82 (fun hwf=>?_)
 refine Eq.mpr (β:=T4 ((∃ q:Nat,(q≤s.size∧∀ j,j < q→¬ Zhr (Zap s j))∧lxs [.c (.str s), .tp []] (TN 3 (lxs [.c (.str s),ci s.size] (vI 0 q∧TN 25 (tpn 3 True))))∧pt (True))∧∀ y0:Nat,(y0≤s.size∧∀ j,j < y0→¬ Zhr (Zap s j))→True∧bif ltI y0 s.size then T6 (((0:Int)≤(y0:Int)∧(y0:Int)≤(w64 ((y0:Int) + 1))∧((w64 ((y0:Int) + 1)):Int)≤(s.size:Int))∧pt True∧((0:Int)≤0∧(0:Int) < (ByteArray.size (upT (ByteArray.extract s y0 (Int.toNat (w64 (((y0:Nat):Int) + 1))))):Int))∧T4 (bif geI (Zap (upT (ByteArray.extract s y0 (Int.toNat (w64 ((y0:Int) + 1))))) (Int.toNat 0)) 65 then T4 (bif leI (Zap (upT (ByteArray.extract s y0 (Int.toNat (w64 ((y0:Int) + 1))))) (Int.toNat 0)) 90 then T2 (ZwS s y0) else ZwT s y0) else T2 (ZwT s y0))) else T2 (pt True∧True∧rB (btw (s.size:Int) 1 8) (ZgD s)))) (by kernel_rfl) ?_
 unfold ZwT ZwS T2 T3 T4 T5 T6
 have hm:s.size≤maxLen:=hwf.1
 unfold maxLen at hm
 simp only [Zdj,eq_self]
 refine ⟨⟨0,⟨Nat.zero_le _,fun j hj=>absurd hj (Nat.not_lt_zero j)⟩,rfl⟩,fun k hk=>⟨fun hlt=>?_,fun hge=>?_⟩⟩
 ·have hu:=ZKn (s:=s) (i:=k) (by omega)
  have e3:IntKind.wrap .i64 ((k:Int) + 1)=(k:Int) + 1:=Zb9 (by omega) (by omega)
  have e1:Int.toNat ((k:Int) + 1)=k + 1:=by omega
  have hui:upI (Zap s k)=if 97≤Zap s k∧Zap s k≤122 then Zap s k - 32 else Zap s k:=rfl
  simp only [e3,e1,ZP1,hu.1,hu.2,Int.toNat_natCast]
  repeat' (first | apply And.intro | intro _)
  all_goals as_aux_lemma=>first
   | trivial
   | omega
   | exact (Zza (i:=k) (by omega) (by unfold Zhr; omega)).symm
   | exact ⟨k + 1,⟨by omega,fun j hj=>if h:j < k then hk.2 j h else by obtain rfl:j=k:=(by omega); unfold Zhr; omega⟩,by omega,by omega⟩
 ·exact ZvE
def ZCv:ZaD Tryz.prog:=⟨82,[.v Zah],fun x=>True,fun x=>.c (.bool (ZgD x.1)),fun _=>[],fun x hx=>ZCu x.1,Tryz.call82⟩
def ZCw (s:ByteArray):Nat→List AV→Mem→Zbe
 | 2,tm,M=>⟨Nat,fun y=>(Zcp (ZcG tm [(2, .any),(3, .c (.int .i64 ((y:Nat):Int)))]) 4 24,M),fun y=>(y≤ByteArray.size s∧∀ j,j < y→¬ Zhr (Zap s j)),fun y=>(ByteArray.size s - y)⟩
 | _,_,_=>⟨Unit,fun _=>([],[]),fun _=>False,fun _=>0⟩
def Zrs (s:ByteArray) (y0:Nat):Prop:=T3 (∃ y0' : Nat,(y0'≤s.size∧∀ j,j < y0'→¬ Zhr (Zap s j))∧(s.size - y0') < (s.size - y0)∧lxs [.c (.str s), .tp []] (True∧vI (w64 ((y0:Int) + 1)) y0'∧TN 24 (tpn 3 True))∧pt (True))
theorem ZCx (s:ByteArray):Zaq Tryz.prog 51 [.c (.str s)] (.c (.bool (ZgD s))) []:=by
 refine bc0 [ZeQ] [] [] [] (ZCw s) Tryz.func51 (fun hwf=>?_)
 refine Eq.mpr (β:=T2 ((∃ q:Nat,(q≤s.size∧∀ j,j < q→¬ Zhr (Zap s j))∧lxs [.c (.str s), .tp []] (True∧vI 0 q∧TN 24 (tpn 3 True))∧pt (True))∧∀ y0:Nat,(y0≤s.size∧∀ j,j < y0→¬ Zhr (Zap s j))→T4 (bif ltI y0 s.size then T2 (((0:Int)≤(y0:Int)∧(y0:Int) < (s.size:Int))∧true=true∧T2 (pt True∧T2 (bif !(btw (w64 (Zap s y0)) 97 122) then True∧pt True∧T3 (bif !(btw (w64 (Zap s y0)) 65 90) then True∧pt True∧T2 (bif !(btw (w64 (Zap s y0)) 48 57) then True∧rB false (ZgD s) else Zrs s y0) else True∧Zrs s y0) else T3 (Zrs s y0)))) else T2 (pt True∧True∧rB (btw (s.size:Int) 1 8) (ZgD s))))) (by kernel_rfl) ?_
 unfold Zrs T2 T3 T4
 have hm:s.size≤maxLen:=hwf.1
 unfold maxLen at hm
 simp only [Zdj,eq_self]
 refine ⟨⟨0,⟨Nat.zero_le _,fun j hj=>absurd hj (Nat.not_lt_zero j)⟩,rfl⟩,fun k hk=>⟨fun hlt=>?_,fun hge=>?_⟩⟩
 ·have hb:=ZjJ s k
  have e0:IntKind.wrap .i64 (Zap s k)=Zap s k:=Zb9 (by omega) (by omega)
  simp only [e0,Zaz,Zbi,Int.toNat_natCast]
  repeat' (first | apply And.intro | intro _)
  all_goals as_aux_lemma=>first
   | trivial
   | omega
   | exact (Zza (i:=k) (by omega) (by unfold Zhr; omega)).symm
   | exact ⟨k + 1,⟨by omega,fun j hj=>if h:j < k then hk.2 j h else by obtain rfl:j=k:=(by omega); unfold Zhr; omega⟩,by omega,Zbm (by unfold maxLen; omega)⟩
 ·exact ZvE
def ZCy:ZaD Tryz.prog:=⟨51,[.v Zah],fun x=>True,fun x=>.c (.bool (ZgD x.1)),fun _=>[],fun x hx=>ZCx x.1,Tryz.call51⟩
theorem ZwU (b:Int):Zaq Tryz.prog 88 [.c (.int .i64 b)] (.c (.bool (ZaC b))) []:=by
 refine bc0 [ZcW] [] [] [] L0 Tryz.func88 (fun hwf=>?_)
 exact Zu1
def ZwV:ZaD Tryz.prog:=⟨88,[.v ZaF],fun x=>True,fun x=>.c (.bool (ZaC x.1)),fun _=>[],fun x hx=>ZwU x.1,Tryz.call88⟩
theorem ZwW (b:Int):Zaq Tryz.prog 58 [.c (.int .i64 b)] (.c (.bool (ZaC b))) []:=by
 refine bc0 [ZeQ] [] [] [] L0 Tryz.func58 (fun hwf=>?_)
 exact Zu1
def ZwX:ZaD Tryz.prog:=⟨58,[.v ZaF],fun x=>True,fun x=>.c (.bool (ZaC x.1)),fun _=>[],fun x hx=>ZwW x.1,Tryz.call58⟩
theorem Zs2 (kind:Int):Zaq Tryz.prog 128 [.c (.int .i64 kind)] (.c (.bool (eqI kind 3 || eqI kind 4))) []:=by
 refine bc0 [] [] [] [] L0 Tryz.func128 (fun hwf=>?_)
 refine Eq.mpr (β:=T4 (bif eqI kind 3 then T2 (rB true (eqI kind 3 || eqI kind 4)) else T4 (rB (eqI kind 4) (eqI kind 3 || eqI kind 4)))) (by kernel_rfl) ?_
 exact ZkL
def Zhs:ZaD Tryz.prog:=⟨128,[.v ZaF],fun x=>True,fun x=>.c (.bool (eqI x.1 3 || eqI x.1 4)),fun _=>[],fun x hx=>Zs2 x.1,Tryz.call128⟩
def ZwY (z:GScope):Nat→List AV→Mem→Zbe
 | 6,tm,M=>⟨Nat,fun y=>(Zcp (Zcp (ZcG tm [(26, .c (.int .i64 ((y:Nat):Int)))]) 2 3) 27 22,M),fun y=>(y≤List.length z.2.1∧∀ j,j < y→Zhe z.2.1 j=false),fun y=>(List.length z.2.1 - y)⟩
 | _,_,_=>⟨Unit,fun _=>([],[]),fun _=>False,fun _=>0⟩
def ZwZ (z:GScope) (y0:Nat):Prop:=T2 (∃ y0' : Nat,(y0'≤z.2.1.length∧∀ j,j < y0'→Zhe z.2.1 j=false)∧(z.2.1.length - y0') < (z.2.1.length - y0)∧lxs [.ag [.int .i64 z.1, .hs .no Zah z.2.1, .int .i64 z.2.2], .c (.bp 0 0)] (TN 3 (lxs [.c (.bp 0 0),ci z.1, .c (.bool (btw z.1 1 4)), .c (.bool (!(btw z.1 1 4))), .c (.bool false), .c (.bp 0 2),ci z.2.2, .c (.bool (btw z.2.2 1 15)), .c (.bool (!(btw z.2.2 1 15))), .c (.bool false), .c (.bp 0 0),ci z.1, .c (.bool (eqI z.1 3 || eqI z.1 4)), .c (.bool false)] (tpn 4 (lxs [.c (.bp 0 1),hn Zah z.2.1,ci z.2.1.length] (vI (w64 ((y0:Int) + 1)) y0'∧TN 22 (tpn 4 True))))))∧pt (lb (.box [.int .i64 z.1, .hs .no Zah z.2.1, .int .i64 z.2.2])∧True))
theorem Zw0 (z:GScope):Zaq Tryz.prog 148 [.ag [.int .i64 z.1, .hs .no Zah z.2.1, .int .i64 z.2.2]] (.c (.bool (Zay z))) []:=by
 refine bc0 [ZcW,Zhs,Zqe] [] [] [] (ZwY z) Tryz.func148 (fun hwf=>?_)
 refine Eq.mpr (β:=T4 (pt True∧T2 (bif !(btw z.1 1 4) then T2 (rB false (Zay z)) else T2 (pt True∧T2 (bif !(btw z.2.2 1 15) then True∧rB false (Zay z) else T2 (pt True∧True∧bif !(eqI z.1 3 || eqI z.1 4) then T5 (rB (eqI z.2.1.length 0) (Zay z)) else T4 ((∃ q:Nat,(q≤z.2.1.length∧∀ j,j < q→Zhe z.2.1 j=false)∧lxs [.ag [.int .i64 z.1, .hs .no Zah z.2.1, .int .i64 z.2.2], .c (.bp 0 0)] (TN 3 (lxs [.c (.bp 0 0),ci z.1, .c (.bool (btw z.1 1 4)), .c (.bool (!(btw z.1 1 4))), .c (.bool false), .c (.bp 0 2),ci z.2.2, .c (.bool (btw z.2.2 1 15)), .c (.bool (!(btw z.2.2 1 15))), .c (.bool false), .c (.bp 0 0),ci z.1, .c (.bool (eqI z.1 3 || eqI z.1 4)), .c (.bool false)] (tpn 4 (lxs [.c (.bp 0 1),hn Zah z.2.1,ci z.2.1.length] (vI 0 q∧TN 22 (tpn 4 True))))))∧pt (lb (.box [.int .i64 z.1, .hs .no Zah z.2.1, .int .i64 z.2.2])∧True))∧∀ y0:Nat,(y0≤z.2.1.length∧∀ j,j < y0→Zhe z.2.1 j=false)→True∧bif ltI y0 z.2.1.length then True∧ix 1 y0 z.2.1.length∧T4 (pt True∧T2 (bif !(Zbn (Zaa z.2.1 y0)) then T2 (rB false (Zay z)) else T3 (bif gtI y0 0 then T5 (ix 1 (w64 ((y0:Int) - 1)) z.2.1.length∧T4 (bif Op.bytesLess (Zaa z.2.1 y0).toList (Zaa z.2.1 (Int.toNat (w64 ((y0:Int) - 1)))).toList || eqS (Zaa z.2.1 y0) (Zaa z.2.1 (Int.toNat (w64 ((y0:Int) - 1)))) then True∧rB false (Zay z) else ZwZ z y0)) else T2 (ZwZ z y0)))) else T3 (pt True∧True∧rB (btw (z.2.1.length:Int) 1 3) (Zay z))))))))) (by kernel_rfl) ?_
 unfold ZwZ T2 T3 T4 T5
 have hm:List.length z.2.1≤maxLen:=hwf.1.2.1.1
 unfold maxLen at hm
 simp only [ZKp]
 simp only [Zdj,eq_self]
 refine ⟨fun h1=>(ZlR h1).symm,fun h1=>⟨fun h2=>(Zqg h2).symm,fun h2=>⟨fun h3=>?_,fun h3=>⟨⟨0,⟨Nat.zero_le _,Zbp⟩,rfl⟩,fun k hk=>⟨fun hlt=>?_,fun hge=>?_⟩⟩⟩⟩⟩
 ·have h3' : z.1 < 3:=by
   rw [Bool.or_eq_false_iff,Zba,Zba] at h3
   rw [Zaz] at h1
   omega
  exact (ZjK h1 h2 h3').symm
 ·have h4:¬ z.1 < 3:=by
   rw [Bool.or_eq_true,ZaE,ZaE] at h3
   omega
  have hlt' : k < List.length z.2.1:=by omega
  refine ⟨by omega,fun p=>(ZgE h4 hlt' (by simp [Zhe,p])).symm,fun p=>⟨fun hp=>?_,fun hp=>?_⟩⟩
  ·have e:IntKind.wrap .i64 ((k:Int) - 1)=((k - 1:Nat):Int):=by rw [Zb9 (by omega) (by omega)]; omega
   have hp' : 0 < k:=by omega
   rw [e,Int.toNat_natCast]
   refine ⟨by omega,⟨fun r=>(ZgE h4 hlt' (by simp [Zhe,p,r,hp'])).symm,fun r=>⟨k + 1,⟨by omega,Zcf hk.2 (by simp [Zhe,p,r])⟩,by omega,Zbm (by unfold maxLen; omega)⟩⟩⟩
  ·exact Zvo
 ·have h4:¬ z.1 < 3:=by
   rw [Bool.or_eq_true,ZaE,ZaE] at h3
   omega
  exact ZvZ
def Zw1:ZaD Tryz.prog:=⟨148,[.s Zae],fun x=>True,fun x=>.c (.bool (Zay x.1)),fun _=>[],fun x hx=>Zw0 x.1,Tryz.call148⟩
def Zw2 (z:GScope):Nat→List AV→Mem→Zbe
 | 6,tm,M=>⟨Nat,fun y=>(Zcp (ZcG tm [(2, .any),(3, .c (.int .i64 ((y:Nat):Int)))]) 21 32,M),fun y=>(y≤List.length z.2.1∧∀ j,j < y→Zhe z.2.1 j=false),fun y=>(List.length z.2.1 - y)⟩
 | _,_,_=>⟨Unit,fun _=>([],[]),fun _=>False,fun _=>0⟩
def Zw3 (z:GScope) (y0:Nat):Prop:=T3 (∃ y0' : Nat,(y0'≤z.2.1.length∧∀ j,j < y0'→Zhe z.2.1 j=false)∧(z.2.1.length - y0') < (z.2.1.length - y0)∧lxs [.ag [.int .i64 z.1, .hs .no Zah z.2.1, .int .i64 z.2.2], .c (.bp 0 0)] (True∧vI (w64 ((y0:Int) + 1)) y0'∧lxs [.c (.bp 0 0),ci z.1, .c (.bool (btw z.1 1 4)), .c (.bool (!(btw z.1 1 4))), .c (.bool false), .c (.bp 0 2),ci z.2.2, .c (.bool (btw z.2.2 1 15)), .c (.bool (!(btw z.2.2 1 15))), .c (.bool false), .c (.bp 0 0),ci z.1, .c (.bool false)] (tpn 4 (TN 32 (tpn 4 True))))∧pt (lb (.box [.int .i64 z.1, .hs .no Zah z.2.1, .int .i64 z.2.2])∧True))
theorem Zw4 (z:GScope):Zaq Tryz.prog 123 [.ag [.int .i64 z.1, .hs .no Zah z.2.1, .int .i64 z.2.2]] (.c (.bool (Zay z))) []:=by
 refine bc0 [ZeQ,Zqf] [] [] [] (Zw2 z) Tryz.func123 (fun hwf=>?_)
 refine Eq.mpr (β:=T4 (pt True∧T2 (bif !(btw z.1 1 4) then T2 (rB false (Zay z)) else T2 (pt True∧T2 (bif !(btw z.2.2 1 15) then True∧rB false (Zay z) else T3 (bif ltI z.1 3 then T5 (rB (eqI z.2.1.length 0) (Zay z)) else True∧(∃ q:Nat,(q≤z.2.1.length∧∀ j,j < q→Zhe z.2.1 j=false)∧lxs [.ag [.int .i64 z.1, .hs .no Zah z.2.1, .int .i64 z.2.2], .c (.bp 0 0)] (True∧vI 0 q∧lxs [.c (.bp 0 0),ci z.1, .c (.bool (btw z.1 1 4)), .c (.bool (!(btw z.1 1 4))), .c (.bool false), .c (.bp 0 2),ci z.2.2, .c (.bool (btw z.2.2 1 15)), .c (.bool (!(btw z.2.2 1 15))), .c (.bool false), .c (.bp 0 0),ci z.1, .c (.bool false)] (tpn 4 (TN 32 (tpn 4 True))))∧pt (lb (.box [.int .i64 z.1, .hs .no Zah z.2.1, .int .i64 z.2.2])∧True))∧∀ y0:Nat,(y0≤z.2.1.length∧∀ j,j < y0→Zhe z.2.1 j=false)→T5 (bif ltI y0 z.2.1.length then pt (true=true)∧T3 (ix 1 y0 z.2.1.length∧True∧pt True∧T2 (bif !(Zbn (Zaa z.2.1 y0)) then T2 (rB false (Zay z)) else T3 (bif gtI y0 0 then T4 (ix 1 (w64 ((y0:Int) - 1)) z.2.1.length∧T4 (ix 1 y0 z.2.1.length∧T4 (bif !Op.bytesLess (Zaa z.2.1 (Int.toNat (w64 ((y0:Int) - 1)))).toList (Zaa z.2.1 y0).toList then True∧rB false (Zay z) else Zw3 z y0))) else T2 (Zw3 z y0)))) else T3 (pt True∧True∧rB (btw (z.2.1.length:Int) 1 3) (Zay z))))))))) (by kernel_rfl) ?_
 unfold Zw3 T2 T3 T4 T5
 have hm:List.length z.2.1≤maxLen:=hwf.1.2.1.1
 unfold maxLen at hm
 simp only [ZKp]
 simp only [Zdj,eq_self]
 refine ⟨fun h1=>(ZlR h1).symm,fun h1=>⟨fun h2=>(Zqg h2).symm,fun h2=>⟨fun h3=>?_,fun h3=>⟨⟨0,⟨Nat.zero_le _,Zbp⟩,rfl⟩,fun k hk=>⟨fun hlt=>?_,fun hge=>?_⟩⟩⟩⟩⟩
 ·have h3':=h3
  exact (ZjK h1 h2 h3').symm
 ·have h4:=h3
  have hlt' : k < List.length z.2.1:=by omega
  refine ⟨by omega,fun p=>(ZgE h4 hlt' (by simp [Zhe,p])).symm,fun p=>⟨fun hp=>?_,fun hp=>?_⟩⟩
  ·have e:IntKind.wrap .i64 ((k:Int) - 1)=((k - 1:Nat):Int):=by rw [Zb9 (by omega) (by omega)]; omega
   have hp' : 0 < k:=by omega
   rw [e,Int.toNat_natCast]
   refine ⟨by omega,by omega,⟨fun r=>(ZgE h4 hlt' (by simp [Zhe,p,r,hp'])).symm,fun r=>⟨k + 1,⟨by omega,Zcf hk.2 (by simp [Zhe,p,r])⟩,by omega,Zbm (by unfold maxLen; omega)⟩⟩⟩
  ·exact Zvo
 ·have h4:=h3
  exact ZvZ
def Zw5:ZaD Tryz.prog:=⟨123,[.s Zae],fun x=>True,fun x=>.c (.bool (Zay x.1)),fun _=>[],fun x hx=>Zw4 x.1,Tryz.call123⟩
theorem Zpz (z:GScope):Zaq Tryz.prog 147 [.ag [.int .i64 z.1, .hs .no Zah z.2.1, .int .i64 z.2.2]] (.c (.bool (!Zay z))) []:=by
 refine bc0 [Zw1] [] [] [] L0 Tryz.func147 (fun hwf=>?_)
 refine Eq.mpr (β:=T3 (pt True∧T2 (rB (!(Zay z)) (!Zay z)))) (by kernel_rfl) ?_
 exact ZkL
def ZpA:ZaD Tryz.prog:=⟨147,[.s Zae],fun x=>True,fun x=>.c (.bool (!Zay x.1)),fun _=>[],fun x hx=>Zpz x.1,Tryz.call147⟩
theorem Zs3 (f:GFilter):Zaq Tryz.prog 89 [.ag [.bool f.1, .hs .no Zae f.2]] (.c (.bool (Zar f))) []:=by
 refine bc0 [ZcW,ZpA] [Zc0] [] [] L0 Tryz.func89 (fun hwf=>?_)
 refine Eq.mpr (β:=T5 (bif !f.1 then T5 (rB (eqI f.2.length 0) (Zar f)) else T3 (pt True∧True∧bif btw (f.2.length:Int) 1 3 then T2 (((∀ z0:GScope,True∧True)∧∀ (_:GScope→Bool) (_:List GScope),true=true)∧T3 (rB (!(List.any f.2 (fun z0:GScope=>(!Zay z0)))) (Zar f))) else T2 (rB false (Zar f))))) (by kernel_rfl) ?_
 simp only [Zdj,eq_self]
 repeat' (first | apply And.intro | intro _)
 all_goals first
  | trivial
  | omega
  | (simp_all [Zar]; done)
def ZlS:ZaD Tryz.prog:=⟨89,[.s ZbF],fun x=>True,fun x=>.c (.bool (Zar x.1)),fun _=>[],fun x hx=>Zs3 x.1,Tryz.call89⟩
theorem ZFl {l:List GScope} (h:∀ j,j < List.length l→Zay (Zad l j)=true):List.any l (fun z0:GScope=>!Zay z0)=false:=ZqY (t:=Zae) (xs:=l) (p:=fun z0:GScope=>!Zay z0) (fun j hj=>by show (!Zay (Zad l j))=false; rw [h j hj]; rfl)
theorem ZCz {l:List GScope} {k:Nat} (hk:k < List.length l) (h:Zay (Zad l k)=false):List.any l (fun z0:GScope=>!Zay z0)=true:=ZBH (t:=Zae) (xs:=l) (p:=fun z0:GScope=>!Zay z0) hk (by show (!Zay (Zad l k))=true; rw [h]; rfl)
def Zs4 (f:GFilter):Nat→List AV→Mem→Zbe
 | 2,tm,M=>⟨Nat,fun y=>(Zcp (ZcG tm [(2, .any),(3, .c (.int .i64 ((y:Nat):Int)))]) 4 14,M),fun y=>(y≤List.length f.2∧∀ j,j < y→Zay (Zad f.2 j)=true),fun y=>(List.length f.2 - y)⟩
 | _,_,_=>⟨Unit,fun _=>([],[]),fun _=>False,fun _=>0⟩
theorem Zs5 (f:GFilter):Zaq Tryz.prog 59 [.ag [.bool f.1, .hs .no Zae f.2]] (.c (.bool (Zar f))) []:=by
 refine bc0 [Zw5,ZeQ] [] [] [] (Zs4 f) Tryz.func59 (fun hwf=>?_)
 refine Eq.mpr (β:=T3 ((∃ q:Nat,(q≤f.2.length∧∀ j,j < q→Zay (Zad f.2 j)=true)∧lxs [.ag [.bool f.1, .hs .no Zae f.2], .c (.bp 0 0)] (True∧vI 0 q∧TN 14 (tpn 11 True))∧pt (lb (.box [.bool f.1, .hs .no Zae f.2])∧True))∧∀ y0:Nat,(y0≤f.2.length∧∀ j,j < y0→Zay (Zad f.2 j)=true)→T5 (bif ltI y0 f.2.length then T3 (ix 3 y0 f.2.length∧True∧pt True∧True∧bif !(Zay (Zad f.2 y0)) then True∧rB false (Zar f) else T3 (∃ y0' : Nat,(y0'≤f.2.length∧∀ j,j < y0'→Zay (Zad f.2 j)=true)∧(f.2.length - y0') < (f.2.length - y0)∧lxs [.ag [.bool f.1, .hs .no Zae f.2], .c (.bp 0 0)] (True∧vI (w64 ((y0:Int) + 1)) y0'∧TN 14 (tpn 11 True))∧pt (lb (.box [.bool f.1, .hs .no Zae f.2])∧True))) else T3 (bif !f.1 then T5 (rB (eqI f.2.length 0) (Zar f)) else T3 (pt True∧True∧rB (btw (f.2.length:Int) 1 3) (Zar f)))))) (by kernel_rfl) ?_
 unfold T3 T5
 have hm:List.length f.2≤maxLen:=hwf.1.2.1.1
 unfold maxLen at hm
 simp only [Zdj,eq_self]
 refine ⟨⟨0,⟨Nat.zero_le _,Zbp⟩,rfl⟩,fun k hk=>⟨fun hlt=>?_,fun hge=>?_⟩⟩
 ·have hlt' : k < List.length f.2:=by omega
  refine ⟨by omega,fun p=>?_,fun p=>⟨k + 1,⟨by omega,Zcf hk.2 p⟩,by omega,Zbm (by unfold maxLen; omega)⟩⟩
  unfold Zar
  rw [ZCz hlt' p]
  cases f.1 with
  | true=>simp
  | false=>simp [Zba]; intro h; rw [h] at hlt'; cases hlt'
 ·obtain rfl:k=List.length f.2:=by omega
  unfold Zar
  rw [ZFl hk.2]
  cases f.1 <;> simp
def ZlT:ZaD Tryz.prog:=⟨59,[.s ZbF],fun x=>True,fun x=>.c (.bool (Zar x.1)),fun _=>[],fun x hx=>Zs5 x.1,Tryz.call59⟩
end Go.Proofs.YtkeglpnnedflnaaGreatDoor
