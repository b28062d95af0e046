import Derived.Test.YtkompmgleojmlaaGreatHBlOk
import Derived.Test.YtkompmgleojmlaaGreatHUpper
import Derived.Test.YtkompmgleojmlaaGreatHBlBox
set_option linter.unusedSimpArgs false
set_option linter.unusedVariables false
set_option maxRecDepth 100000
set_option maxHeartbeats 4000000
namespace Go.Proofs.YtkompmgleojmlaaGreat
open Go.ChangeShapes Go.WideShapes Go.ChangeAt Go.RowKit Go.Joins Go.Deep
open GoRep (rep bulk)
theorem ZPQ:Int.toNat 0=0:=rfl
theorem ZNK {a b:ByteArray}:(Op.bytesLess a.toList b.toList || eqS a b)=!Op.bytesLess b.toList a.toList:=ZMa a b
def Zjn (l:List ByteArray) (i:Nat):Bool:=!Zb9 (ZaF l i) || (decide (0 < i) && !Op.bytesLess (ZaF l (i - 1)).toList (ZaF l i).toList)
def ZbB (z:ZaZ):Bool:=btw z.1 1 4 && (btw z.2.2 1 15 && (if z.1 < 3 then eqI (List.length z.2.1:Int) 0 else decide (∀ i,i < List.length z.2.1→Zjn z.2.1 i=false) && btw (List.length z.2.1:Int) 1 3))
theorem ZnO {z:ZaZ} (h:btw z.1 1 4=false):ZbB z=false:=by unfold ZbB; rw [h]; rfl
theorem ZsO {z:ZaZ} (h:btw z.2.2 1 15=false):ZbB z=false:=by unfold ZbB; rw [h]; cases btw z.1 1 4 <;> rfl
theorem Zmc {z:ZaZ} (h1:btw z.1 1 4=true) (h2:btw z.2.2 1 15=true) (h3:z.1 < 3):ZbB z=eqI (List.length z.2.1:Int) 0:=by unfold ZbB; rw [h1,h2,if_pos h3]; rfl
theorem ZiF {z:ZaZ} {i:Nat} (h3:¬ z.1 < 3) (hi:i < List.length z.2.1) (hb:Zjn z.2.1 i=true):ZbB z=false:=by
 unfold ZbB
 rw [if_neg h3,decide_eq_false (fun q=>by rw [q i hi] at hb; cases hb)]
 cases btw z.1 1 4 <;> cases btw z.2.2 1 15 <;> rfl
theorem ZCi {z:ZaZ} (h1:btw z.1 1 4=true) (h2:btw z.2.2 1 15=true) (h3:¬ z.1 < 3) (h:∀ i,i < List.length z.2.1→Zjn z.2.1 i=false):ZbB z=btw (List.length z.2.1:Int) 1 3:=by
 unfold ZbB
 rw [h1,h2,if_neg h3,decide_eq_true h]
 rfl
def ZAW (l:List ZbX) (i:Nat):Bool:=!btw (ZaX l i).1 1 999999998 || (!btw (ZaX l i).2 0 31 || (decide (0 < i) && leI (ZaX l i).1 (ZaX l (i - 1)).1))
def ZdM (l:List ZbX):Bool:=decide (∀ i,i < List.length l→ZAW l i=false) && leI (List.length l:Int) 6
theorem ZF0 {l:List ZbX} {i:Nat} (hi:i < List.length l) (hb:ZAW l i=true):ZdM l=false:=by
 unfold ZdM
 rw [decide_eq_false (fun q=>by rw [q i hi] at hb; cases hb)]
 rfl
theorem ZsP {l:List ZbX} (h:∀ i,i < List.length l→ZAW l i=false):ZdM l=leI (List.length l:Int) 6:=by
 unfold ZdM
 rw [decide_eq_true h]
 rfl
def Zcp (f:Zb3):Bool:=if f.1=true then btw (List.length f.2:Int) 1 3 && !List.any f.2 (fun z0:ZaZ=>!ZbB z0) else eqI (List.length f.2:Int) 0
def Zcz (s:ByteArray):Bool:=eqS s (⟨#[]⟩:ByteArray) || Zmb s
def ZsQ (x:GIn):Bool:=leI (ByteArray.size x.1:Int) 600
def outOk (x:Zl0):Bool:=leI (ByteArray.size x.1:Int) 1200 && leI (ByteArray.size x.2:Int) 20000
def ZId (s:ByteArray):Nat→List AV→Mem→Zbj
 | 2,tm,M=>⟨Nat,fun y=>(Zcn (Zcn (ZcC tm [(7, .c (.int .i64 ((y:Nat):Int)))]) 2 3) 8 25,M),fun y=>(y≤ByteArray.size s∧∀ j,j < y→¬ ZjA (Zbf s j)),fun y=>(ByteArray.size s - y)⟩
 | _,_,_=>⟨Unit,fun _=>([],[]),fun _=>False,fun _=>0⟩
def ZCj (s:ByteArray) (y0:Nat):Prop:=T2 (∃ y0' : Nat,(y0'≤s.size∧∀ j,j < y0'→¬ ZjA (Zbf s j))∧(s.size - y0') < (s.size - y0)∧lxs [.c (.str s), .tp []] (TN 3 (lxs [.c (.str s),ci s.size] (vI (w64 ((y0:Int) + 1)) y0'∧TN 25 (tpn 3 True))))∧pt (True))
def ZCk (s:ByteArray) (y0:Nat):Prop:=T3 (bif geI (Zbf (upT (ByteArray.extract s y0 (Int.toNat (w64 ((y0:Int) + 1))))) (Int.toNat 0)) 48 then T5 (bif !(leI (Zbf (upT (ByteArray.extract s y0 (Int.toNat (w64 ((y0:Int) + 1))))) (Int.toNat 0)) 57) then True∧rB false (Zmb s) else ZCj s y0) else T4 (rB false (Zmb s)))
theorem ZIe (s:ByteArray):Zam Tryz.prog 180 [.c (.str s)] (.c (.bool (Zmb s))) []:=by
 refine bc0 [ZKc,ZcE] [] [] [] (ZId s) Tryz.func180 (fun hwf=>?_)
 refine Eq.mpr (β:=T4 ((∃ q:Nat,(q≤s.size∧∀ j,j < q→¬ ZjA (Zbf s j))∧lxs [.c (.str s), .tp []] (TN 3 (lxs [.c (.str s),ci s.size] (vI 0 q∧TN 25 (tpn 3 True))))∧pt (True))∧∀ y0:Nat,(y0≤s.size∧∀ j,j < y0→¬ ZjA (Zbf s j))→True∧bif ltI y0 s.size then T6 (((0:Int)≤(y0:Int)∧(y0:Int)≤(w64 ((y0:Int) + 1))∧((w64 ((y0:Int) + 1)):Int)≤(s.size:Int))∧pt True∧((0:Int)≤0∧(0:Int) < (ByteArray.size (upT (ByteArray.extract s y0 (Int.toNat (w64 (((y0:Nat):Int) + 1))))):Int))∧T4 (bif geI (Zbf (upT (ByteArray.extract s y0 (Int.toNat (w64 ((y0:Int) + 1))))) (Int.toNat 0)) 65 then T4 (bif leI (Zbf (upT (ByteArray.extract s y0 (Int.toNat (w64 ((y0:Int) + 1))))) (Int.toNat 0)) 90 then T2 (ZCj s y0) else ZCk s y0) else T2 (ZCk s y0))) else T2 (pt True∧True∧rB (btw (s.size:Int) 1 8) (Zmb s)))) (by kernel_rfl) ?_
 unfold ZCk ZCj T2 T3 T4 T5 T6
 have hm:s.size≤maxLen:=hwf.1
 unfold maxLen at hm
 simp only [Zdq,eq_self]
 refine ⟨⟨0,⟨Nat.zero_le _,fun j hj=>absurd hj (Nat.not_lt_zero j)⟩,rfl⟩,fun k hk=>⟨fun hlt=>?_,fun hge=>?_⟩⟩
 ·have hu:=ZNH (s:=s) (i:=k) (by omega)
  have e3:IntKind.wrap .i64 ((k:Int) + 1)=(k:Int) + 1:=Za3 (by omega) (by omega)
  have e1:Int.toNat ((k:Int) + 1)=k + 1:=by omega
  have hui:upI (Zbf s k)=if 97≤Zbf s k∧Zbf s k≤122 then Zbf s k - 32 else Zbf s k:=rfl
  simp only [e3,e1,ZPQ,hu.1,hu.2,Int.toNat_natCast]
  repeat' (first | apply And.intro | intro _)
  all_goals as_aux_lemma=>first
   | trivial
   | omega
   | exact (ZEH (i:=k) (by omega) (by unfold ZjA; omega)).symm
   | exact ⟨k + 1,⟨by omega,fun j hj=>if h:j < k then hk.2 j h else by obtain rfl:j=k:=(by omega); unfold ZjA; omega⟩,by omega,by omega⟩
 ·exact Zz2
def ZIf:ZaC Tryz.prog:=⟨180,[.v ZaW],fun x=>True,fun x=>.c (.bool (Zmb x.1)),fun _=>[],fun x hx=>ZIe x.1,Tryz.call180⟩
def ZIg (s:ByteArray):Nat→List AV→Mem→Zbj
 | 2,tm,M=>⟨Nat,fun y=>(Zcn (ZcC tm [(2, .any),(3, .c (.int .i64 ((y:Nat):Int)))]) 4 24,M),fun y=>(y≤ByteArray.size s∧∀ j,j < y→¬ ZjA (Zbf s j)),fun y=>(ByteArray.size s - y)⟩
 | _,_,_=>⟨Unit,fun _=>([],[]),fun _=>False,fun _=>0⟩
def ZuH (s:ByteArray) (y0:Nat):Prop:=T3 (∃ y0' : Nat,(y0'≤s.size∧∀ j,j < y0'→¬ ZjA (Zbf s j))∧(s.size - y0') < (s.size - y0)∧lxs [.c (.str s), .tp []] (True∧vI (w64 ((y0:Int) + 1)) y0'∧TN 24 (tpn 3 True))∧pt (True))
theorem ZIh (s:ByteArray):Zam Tryz.prog 157 [.c (.str s)] (.c (.bool (Zmb s))) []:=by
 refine bc0 [ZcF] [] [] [] (ZIg s) Tryz.func157 (fun hwf=>?_)
 refine Eq.mpr (β:=T2 ((∃ q:Nat,(q≤s.size∧∀ j,j < q→¬ ZjA (Zbf s j))∧lxs [.c (.str s), .tp []] (True∧vI 0 q∧TN 24 (tpn 3 True))∧pt (True))∧∀ y0:Nat,(y0≤s.size∧∀ j,j < y0→¬ ZjA (Zbf s j))→T4 (bif ltI y0 s.size then T2 (((0:Int)≤(y0:Int)∧(y0:Int) < (s.size:Int))∧true=true∧T2 (pt True∧T2 (bif !(btw (w64 (Zbf s y0)) 97 122) then True∧pt True∧T3 (bif !(btw (w64 (Zbf s y0)) 65 90) then True∧pt True∧T2 (bif !(btw (w64 (Zbf s y0)) 48 57) then True∧rB false (Zmb s) else ZuH s y0) else True∧ZuH s y0) else T3 (ZuH s y0)))) else T2 (pt True∧True∧rB (btw (s.size:Int) 1 8) (Zmb s))))) (by kernel_rfl) ?_
 unfold ZuH T2 T3 T4
 have hm:s.size≤maxLen:=hwf.1
 unfold maxLen at hm
 simp only [Zdq,eq_self]
 refine ⟨⟨0,⟨Nat.zero_le _,fun j hj=>absurd hj (Nat.not_lt_zero j)⟩,rfl⟩,fun k hk=>⟨fun hlt=>?_,fun hge=>?_⟩⟩
 ·have hb:=ZoK s k
  have e0:IntKind.wrap .i64 (Zbf s k)=Zbf s k:=Za3 (by omega) (by omega)
  simp only [e0,Zbe,Zbl,Int.toNat_natCast]
  repeat' (first | apply And.intro | intro _)
  all_goals as_aux_lemma=>first
   | trivial
   | omega
   | exact (ZEH (i:=k) (by omega) (by unfold ZjA; omega)).symm
   | exact ⟨k + 1,⟨by omega,fun j hj=>if h:j < k then hk.2 j h else by obtain rfl:j=k:=(by omega); unfold ZjA; omega⟩,by omega,ZbL (by unfold maxLen; omega)⟩
 ·exact Zz2
def ZIi:ZaC Tryz.prog:=⟨157,[.v ZaW],fun x=>True,fun x=>.c (.bool (Zmb x.1)),fun _=>[],fun x hx=>ZIh x.1,Tryz.call157⟩
theorem ZwT (kind:Int):Zam Tryz.prog 243 [.c (.int .i64 kind)] (.c (.bool (eqI kind 3 || eqI kind 4))) []:=by
 refine bc0 [] [] [] [] L0 Tryz.func243 (fun hwf=>?_)
 refine Eq.mpr (β:=T4 (bif eqI kind 3 then T2 (rB true (eqI kind 3 || eqI kind 4)) else T4 (rB (eqI kind 4) (eqI kind 3 || eqI kind 4)))) (by kernel_rfl) ?_
 exact Zev
def ZwU:ZaC Tryz.prog:=⟨243,[.v Zaz],fun x=>True,fun x=>.c (.bool (eqI x.1 3 || eqI x.1 4)),fun _=>[],fun x hx=>ZwT x.1,Tryz.call243⟩
def ZCl (z:ZaZ):Nat→List AV→Mem→Zbj
 | 6,tm,M=>⟨Nat,fun y=>(Zcn (Zcn (ZcC tm [(26, .c (.int .i64 ((y:Nat):Int)))]) 2 3) 27 22,M),fun y=>(y≤List.length z.2.1∧∀ j,j < y→Zjn z.2.1 j=false),fun y=>(List.length z.2.1 - y)⟩
 | _,_,_=>⟨Unit,fun _=>([],[]),fun _=>False,fun _=>0⟩
def ZCm (z:ZaZ) (y0:Nat):Prop:=T2 (∃ y0' : Nat,(y0'≤z.2.1.length∧∀ j,j < y0'→Zjn z.2.1 j=false)∧(z.2.1.length - y0') < (z.2.1.length - y0)∧lxs [.ag [.int .i64 z.1, .hs .no ZaW z.2.1, .int .i64 z.2.2], .c (.bp 0 0)] (TN 3 (lxs [.c (.bp 0 0),ci z.1, .c (.bool (btw z.1 1 4)), .c (.bool (!(btw z.1 1 4))), .c (.bool false), .c (.bp 0 2),ci z.2.2, .c (.bool (btw z.2.2 1 15)), .c (.bool (!(btw z.2.2 1 15))), .c (.bool false), .c (.bp 0 0),ci z.1, .c (.bool (eqI z.1 3 || eqI z.1 4)), .c (.bool false)] (tpn 4 (lxs [.c (.bp 0 1),hn ZaW z.2.1,ci z.2.1.length] (vI (w64 ((y0:Int) + 1)) y0'∧TN 22 (tpn 4 True))))))∧pt (lb (.box [.int .i64 z.1, .hs .no ZaW z.2.1, .int .i64 z.2.2])∧True))
theorem ZCn (z:ZaZ):Zam Tryz.prog 176 [.ag [.int .i64 z.1, .hs .no ZaW z.2.1, .int .i64 z.2.2]] (.c (.bool (ZbB z))) []:=by
 refine bc0 [ZcE,ZwU,Zko] [] [] [] (ZCl z) Tryz.func176 (fun hwf=>?_)
 refine Eq.mpr (β:=T4 (pt True∧T2 (bif !(btw z.1 1 4) then T2 (rB false (ZbB z)) else T2 (pt True∧T2 (bif !(btw z.2.2 1 15) then True∧rB false (ZbB z) else T2 (pt True∧True∧bif !(eqI z.1 3 || eqI z.1 4) then T5 (rB (eqI z.2.1.length 0) (ZbB z)) else T4 ((∃ q:Nat,(q≤z.2.1.length∧∀ j,j < q→Zjn z.2.1 j=false)∧lxs [.ag [.int .i64 z.1, .hs .no ZaW z.2.1, .int .i64 z.2.2], .c (.bp 0 0)] (TN 3 (lxs [.c (.bp 0 0),ci z.1, .c (.bool (btw z.1 1 4)), .c (.bool (!(btw z.1 1 4))), .c (.bool false), .c (.bp 0 2),ci z.2.2, .c (.bool (btw z.2.2 1 15)), .c (.bool (!(btw z.2.2 1 15))), .c (.bool false), .c (.bp 0 0),ci z.1, .c (.bool (eqI z.1 3 || eqI z.1 4)), .c (.bool false)] (tpn 4 (lxs [.c (.bp 0 1),hn ZaW z.2.1,ci z.2.1.length] (vI 0 q∧TN 22 (tpn 4 True))))))∧pt (lb (.box [.int .i64 z.1, .hs .no ZaW z.2.1, .int .i64 z.2.2])∧True))∧∀ y0:Nat,(y0≤z.2.1.length∧∀ j,j < y0→Zjn z.2.1 j=false)→True∧bif ltI y0 z.2.1.length then True∧ix 1 y0 z.2.1.length∧T4 (pt True∧T2 (bif !(Zb9 (ZaF z.2.1 y0)) then T2 (rB false (ZbB z)) else T3 (bif gtI y0 0 then T5 (ix 1 (w64 ((y0:Int) - 1)) z.2.1.length∧T4 (bif Op.bytesLess (ZaF z.2.1 y0).toList (ZaF z.2.1 (Int.toNat (w64 ((y0:Int) - 1)))).toList || eqS (ZaF z.2.1 y0) (ZaF z.2.1 (Int.toNat (w64 ((y0:Int) - 1)))) then True∧rB false (ZbB z) else ZCm z y0)) else T2 (ZCm z y0)))) else T3 (pt True∧True∧rB (btw (z.2.1.length:Int) 1 3) (ZbB z))))))))) (by kernel_rfl) ?_
 unfold ZCm T2 T3 T4 T5
 have hm:List.length z.2.1≤maxLen:=hwf.1.2.1.1
 unfold maxLen at hm
 simp only [ZNK]
 simp only [Zdq,eq_self]
 refine ⟨fun h1=>(ZnO h1).symm,fun h1=>⟨fun h2=>(ZsO h2).symm,fun h2=>⟨fun h3=>?_,fun h3=>⟨⟨0,⟨Nat.zero_le _,Za7⟩,rfl⟩,fun k hk=>⟨fun hlt=>?_,fun hge=>?_⟩⟩⟩⟩⟩
 ·have h3' : z.1 < 3:=by
   rw [Bool.or_eq_false_iff,ZaT,ZaT] at h3
   rw [Zbe] at h1
   omega
  exact (Zmc h1 h2 h3').symm
 ·have h4:¬ z.1 < 3:=by
   rw [Bool.or_eq_true,ZaJ,ZaJ] at h3
   omega
  have hlt' : k < List.length z.2.1:=by omega
  refine ⟨by omega,fun p=>(ZiF h4 hlt' (by simp [Zjn,p])).symm,fun p=>⟨fun hp=>?_,fun hp=>?_⟩⟩
  ·have e:IntKind.wrap .i64 ((k:Int) - 1)=((k - 1:Nat):Int):=by rw [Za3 (by omega) (by omega)]; omega
   have hp' : 0 < k:=by omega
   rw [e,Int.toNat_natCast]
   refine ⟨by omega,⟨fun r=>(ZiF h4 hlt' (by simp [Zjn,p,r,hp'])).symm,fun r=>⟨k + 1,⟨by omega,ZaY hk.2 (by simp [Zjn,p,r])⟩,by omega,ZbL (by unfold maxLen; omega)⟩⟩⟩
  ·exact ZzL
 ·have h4:¬ z.1 < 3:=by
   rw [Bool.or_eq_true,ZaJ,ZaJ] at h3
   omega
  exact ZAn
def ZCo:ZaC Tryz.prog:=⟨176,[.s Zak],fun x=>True,fun x=>.c (.bool (ZbB x.1)),fun _=>[],fun x hx=>ZCn x.1,Tryz.call176⟩
def ZCp (z:ZaZ):Nat→List AV→Mem→Zbj
 | 6,tm,M=>⟨Nat,fun y=>(Zcn (ZcC tm [(2, .any),(3, .c (.int .i64 ((y:Nat):Int)))]) 21 32,M),fun y=>(y≤List.length z.2.1∧∀ j,j < y→Zjn z.2.1 j=false),fun y=>(List.length z.2.1 - y)⟩
 | _,_,_=>⟨Unit,fun _=>([],[]),fun _=>False,fun _=>0⟩
def ZCq (z:ZaZ) (y0:Nat):Prop:=T3 (∃ y0' : Nat,(y0'≤z.2.1.length∧∀ j,j < y0'→Zjn z.2.1 j=false)∧(z.2.1.length - y0') < (z.2.1.length - y0)∧lxs [.ag [.int .i64 z.1, .hs .no ZaW z.2.1, .int .i64 z.2.2], .c (.bp 0 0)] (True∧vI (w64 ((y0:Int) + 1)) y0'∧lxs [.c (.bp 0 0),ci z.1, .c (.bool (btw z.1 1 4)), .c (.bool (!(btw z.1 1 4))), .c (.bool false), .c (.bp 0 2),ci z.2.2, .c (.bool (btw z.2.2 1 15)), .c (.bool (!(btw z.2.2 1 15))), .c (.bool false), .c (.bp 0 0),ci z.1, .c (.bool false)] (tpn 4 (TN 32 (tpn 4 True))))∧pt (lb (.box [.int .i64 z.1, .hs .no ZaW z.2.1, .int .i64 z.2.2])∧True))
theorem ZCr (z:ZaZ):Zam Tryz.prog 153 [.ag [.int .i64 z.1, .hs .no ZaW z.2.1, .int .i64 z.2.2]] (.c (.bool (ZbB z))) []:=by
 refine bc0 [ZcF,Zkp] [] [] [] (ZCp z) Tryz.func153 (fun hwf=>?_)
 refine Eq.mpr (β:=T4 (pt True∧T2 (bif !(btw z.1 1 4) then T2 (rB false (ZbB z)) else T2 (pt True∧T2 (bif !(btw z.2.2 1 15) then True∧rB false (ZbB z) else T3 (bif ltI z.1 3 then T5 (rB (eqI z.2.1.length 0) (ZbB z)) else True∧(∃ q:Nat,(q≤z.2.1.length∧∀ j,j < q→Zjn z.2.1 j=false)∧lxs [.ag [.int .i64 z.1, .hs .no ZaW z.2.1, .int .i64 z.2.2], .c (.bp 0 0)] (True∧vI 0 q∧lxs [.c (.bp 0 0),ci z.1, .c (.bool (btw z.1 1 4)), .c (.bool (!(btw z.1 1 4))), .c (.bool false), .c (.bp 0 2),ci z.2.2, .c (.bool (btw z.2.2 1 15)), .c (.bool (!(btw z.2.2 1 15))), .c (.bool false), .c (.bp 0 0),ci z.1, .c (.bool false)] (tpn 4 (TN 32 (tpn 4 True))))∧pt (lb (.box [.int .i64 z.1, .hs .no ZaW z.2.1, .int .i64 z.2.2])∧True))∧∀ y0:Nat,(y0≤z.2.1.length∧∀ j,j < y0→Zjn z.2.1 j=false)→T5 (bif ltI y0 z.2.1.length then pt (true=true)∧T3 (ix 1 y0 z.2.1.length∧True∧pt True∧T2 (bif !(Zb9 (ZaF z.2.1 y0)) then T2 (rB false (ZbB z)) else T3 (bif gtI y0 0 then T4 (ix 1 (w64 ((y0:Int) - 1)) z.2.1.length∧T4 (ix 1 y0 z.2.1.length∧T4 (bif !Op.bytesLess (ZaF z.2.1 (Int.toNat (w64 ((y0:Int) - 1)))).toList (ZaF z.2.1 y0).toList then True∧rB false (ZbB z) else ZCq z y0))) else T2 (ZCq z y0)))) else T3 (pt True∧True∧rB (btw (z.2.1.length:Int) 1 3) (ZbB z))))))))) (by kernel_rfl) ?_
 unfold ZCq T2 T3 T4 T5
 have hm:List.length z.2.1≤maxLen:=hwf.1.2.1.1
 unfold maxLen at hm
 simp only [ZNK]
 simp only [Zdq,eq_self]
 refine ⟨fun h1=>(ZnO h1).symm,fun h1=>⟨fun h2=>(ZsO h2).symm,fun h2=>⟨fun h3=>?_,fun h3=>⟨⟨0,⟨Nat.zero_le _,Za7⟩,rfl⟩,fun k hk=>⟨fun hlt=>?_,fun hge=>?_⟩⟩⟩⟩⟩
 ·have h3':=h3
  exact (Zmc h1 h2 h3').symm
 ·have h4:=h3
  have hlt' : k < List.length z.2.1:=by omega
  refine ⟨by omega,fun p=>(ZiF h4 hlt' (by simp [Zjn,p])).symm,fun p=>⟨fun hp=>?_,fun hp=>?_⟩⟩
  ·have e:IntKind.wrap .i64 ((k:Int) - 1)=((k - 1:Nat):Int):=by rw [Za3 (by omega) (by omega)]; omega
   have hp' : 0 < k:=by omega
   rw [e,Int.toNat_natCast]
   refine ⟨by omega,by omega,⟨fun r=>(ZiF h4 hlt' (by simp [Zjn,p,r,hp'])).symm,fun r=>⟨k + 1,⟨by omega,ZaY hk.2 (by simp [Zjn,p,r])⟩,by omega,ZbL (by unfold maxLen; omega)⟩⟩⟩
  ·exact ZzL
 ·have h4:=h3
  exact ZAn
def ZCs:ZaC Tryz.prog:=⟨153,[.s Zak],fun x=>True,fun x=>.c (.bool (ZbB x.1)),fun _=>[],fun x hx=>ZCr x.1,Tryz.call153⟩
def ZF1 (v:List ZbX):Nat→List AV→Mem→Zbj
 | 2,tm,M=>⟨Nat,fun y=>(Zcn (Zcn (ZcC tm [(8, .c (.int .i64 ((y:Nat):Int)))]) 2 3) 9 31,M),fun y=>(y≤List.length v∧∀ j,j < y→ZAW v j=false),fun y=>(List.length v - y)⟩
 | _,_,_=>⟨Unit,fun _=>([],[]),fun _=>False,fun _=>0⟩
def ZCt (v:List ZbX) (y0:Nat):Prop:=T2 (∃ y0' : Nat,(y0'≤v.length∧∀ j,j < y0'→ZAW v j=false)∧(v.length - y0') < (v.length - y0)∧lxs [.ag [.hs .no Zay v], .c (.bp 0 0)] (TN 3 (lxs [.c (.bp 0 0),hn Zay v,ci v.length] (vI (w64 ((y0:Int) + 1)) y0'∧TN 31 (tpn 4 True))))∧pt (lb (.box [.hs .no Zay v])∧True))
theorem ZF2 (v:List ZbX):Zam Tryz.prog 95 [.ag [.hs .no Zay v]] (.c (.bool (ZdM v))) []:=by
 refine bc0 [ZcE,Zlf] [] [] [] (ZF1 v) Tryz.func95 (fun hwf=>?_)
 refine Eq.mpr (β:=T6 ((∃ q:Nat,(q≤v.length∧∀ j,j < q→ZAW v j=false)∧lxs [.ag [.hs .no Zay v], .c (.bp 0 0)] (TN 3 (lxs [.c (.bp 0 0),hn Zay v,ci v.length] (vI 0 q∧TN 31 (tpn 4 True))))∧pt (lb (.box [.hs .no Zay v])∧True))∧∀ y0:Nat,(y0≤v.length∧∀ j,j < y0→ZAW v j=false)→True∧bif ltI y0 v.length then True∧ix 2 y0 v.length∧T4 (pt (true=true)∧T2 (pt True∧T2 (bif !(btw (ZaX v y0).1 1 999999998) then T4 (rB false (ZdM v)) else T2 (pt True∧T3 (bif !(Zbt (ZaX v y0).2) then T2 (rB false (ZdM v)) else T3 (bif gtI y0 0 then T6 (ix 2 (w64 ((y0:Int) - 1)) v.length∧T5 (bif leI (ZaX v y0).1 (ZaX v (Int.toNat (w64 ((y0:Int) - 1)))).1 then True∧rB false (ZdM v) else ZCt v y0)) else T2 (ZCt v y0))))))) else T5 (rB (leI v.length 6) (ZdM v)))) (by kernel_rfl) ?_
 unfold ZCt T2 T3 T4 T5 T6
 exact ZyX
def ZF3:ZaC Tryz.prog:=⟨95,[.s (.list Zay)],fun x=>True,fun x=>.c (.bool (ZdM x.1)),fun _=>[],fun x hx=>ZF2 x.1,Tryz.call95⟩
def ZF4 (v:List ZbX):Nat→List AV→Mem→Zbj
 | 2,tm,M=>⟨Nat,fun y=>(Zcn (ZcC tm [(2, .any),(3, .c (.int .i64 ((y:Nat):Int)))]) 4 39,M),fun y=>(y≤List.length v∧∀ j,j < y→ZAW v j=false),fun y=>(List.length v - y)⟩
 | _,_,_=>⟨Unit,fun _=>([],[]),fun _=>False,fun _=>0⟩
def ZCu (v:List ZbX) (y0:Nat):Prop:=T2 (pt True∧T2 (bif !(Zbt (ZaX v y0).2) then True∧rB false (ZdM v) else T3 (∃ y0' : Nat,(y0'≤v.length∧∀ j,j < y0'→ZAW v j=false)∧(v.length - y0') < (v.length - y0)∧lxs [.ag [.hs .no Zay v], .c (.bp 0 0)] (True∧vI (w64 ((y0:Int) + 1)) y0'∧TN 39 (tpn 4 True))∧pt (lb (.box [.hs .no Zay v])∧True))))
theorem ZF5 (v:List ZbX):Zam Tryz.prog 75 [.ag [.hs .no Zay v]] (.c (.bool (ZdM v))) []:=by
 refine bc0 [ZcF,Zlg] [] [] [] (ZF4 v) Tryz.func75 (fun hwf=>?_)
 refine Eq.mpr (β:=T3 ((∃ q:Nat,(q≤v.length∧∀ j,j < q→ZAW v j=false)∧lxs [.ag [.hs .no Zay v], .c (.bp 0 0)] (True∧vI 0 q∧TN 39 (tpn 4 True))∧pt (lb (.box [.hs .no Zay v])∧True))∧∀ y0:Nat,(y0≤v.length∧∀ j,j < y0→ZAW v j=false)→T5 (bif ltI y0 v.length then T3 (ix 2 y0 v.length∧T3 (pt (true=true)∧T2 (pt True∧T2 (bif !(btw (ZaX v y0).1 1 999999998) then T4 (rB false (ZdM v)) else T3 (bif gtI y0 0 then T4 (ix 2 (w64 ((y0:Int) - 1)) v.length∧T8 (bif geI (ZaX v (Int.toNat (w64 ((y0:Int) - 1)))).1 (ZaX v y0).1 then T2 (rB false (ZdM v)) else ZCu v y0)) else T3 (ZCu v y0)))))) else T5 (rB (leI v.length 6) (ZdM v))))) (by kernel_rfl) ?_
 unfold ZCu T2 T3 T4 T5 T8
 exact ZyX
def Zfg:ZaC Tryz.prog:=⟨75,[.s (.list Zay)],fun x=>True,fun x=>.c (.bool (ZdM x.1)),fun _=>[],fun x hx=>ZF5 x.1,Tryz.call75⟩
theorem Zsm (z:ZaZ):Zam Tryz.prog 175 [.ag [.int .i64 z.1, .hs .no ZaW z.2.1, .int .i64 z.2.2]] (.c (.bool (!ZbB z))) []:=by
 refine bc0 [ZCo] [] [] [] L0 Tryz.func175 (fun hwf=>?_)
 refine Eq.mpr (β:=T3 (pt True∧T2 (rB (!(ZbB z)) (!ZbB z)))) (by kernel_rfl) ?_
 exact Zev
def Zsn:ZaC Tryz.prog:=⟨175,[.s Zak],fun x=>True,fun x=>.c (.bool (!ZbB x.1)),fun _=>[],fun x hx=>Zsm x.1,Tryz.call175⟩
theorem ZwV (f:Zb3):Zam Tryz.prog 96 [.ag [.bool f.1, .hs .no Zak f.2]] (.c (.bool (Zcp f))) []:=by
 refine bc0 [ZcE,Zsn] [Zej] [] [] L0 Tryz.func96 (fun hwf=>?_)
 refine Eq.mpr (β:=T5 (bif !f.1 then T5 (rB (eqI f.2.length 0) (Zcp f)) else T3 (pt True∧True∧bif btw (f.2.length:Int) 1 3 then T2 (((∀ z0:ZaZ,True∧True)∧∀ (_:ZaZ→Bool) (_:List ZaZ),true=true)∧T3 (rB (!(List.any f.2 (fun z0:ZaZ=>(!ZbB z0)))) (Zcp f))) else T2 (rB false (Zcp f))))) (by kernel_rfl) ?_
 simp only [Zdq,eq_self]
 repeat' (first | apply And.intro | intro _)
 all_goals first
  | trivial
  | omega
  | (simp_all [Zcp]; done)
def ZwW:ZaC Tryz.prog:=⟨96,[.s Zdd],fun x=>True,fun x=>.c (.bool (Zcp x.1)),fun _=>[],fun x hx=>ZwV x.1,Tryz.call96⟩
theorem ZKx {l:List ZaZ} (h:∀ j,j < List.length l→ZbB (Zaq l j)=true):List.any l (fun z0:ZaZ=>!ZbB z0)=false:=Zib (t:=Zak) (xs:=l) (p:=fun z0:ZaZ=>!ZbB z0) (fun j hj=>by show (!ZbB (Zaq l j))=false; rw [h j hj]; rfl)
theorem ZIj {l:List ZaZ} {k:Nat} (hk:k < List.length l) (h:ZbB (Zaq l k)=false):List.any l (fun z0:ZaZ=>!ZbB z0)=true:=Zkw (t:=Zak) (xs:=l) (p:=fun z0:ZaZ=>!ZbB z0) hk (by show (!ZbB (Zaq l k))=true; rw [h]; rfl)
def ZwX (f:Zb3):Nat→List AV→Mem→Zbj
 | 2,tm,M=>⟨Nat,fun y=>(Zcn (ZcC tm [(2, .any),(3, .c (.int .i64 ((y:Nat):Int)))]) 4 14,M),fun y=>(y≤List.length f.2∧∀ j,j < y→ZbB (Zaq f.2 j)=true),fun y=>(List.length f.2 - y)⟩
 | _,_,_=>⟨Unit,fun _=>([],[]),fun _=>False,fun _=>0⟩
theorem ZwY (f:Zb3):Zam Tryz.prog 76 [.ag [.bool f.1, .hs .no Zak f.2]] (.c (.bool (Zcp f))) []:=by
 refine bc0 [ZCs,ZcF] [] [] [] (ZwX f) Tryz.func76 (fun hwf=>?_)
 refine Eq.mpr (β:=T3 ((∃ q:Nat,(q≤f.2.length∧∀ j,j < q→ZbB (Zaq f.2 j)=true)∧lxs [.ag [.bool f.1, .hs .no Zak f.2], .c (.bp 0 0)] (True∧vI 0 q∧TN 14 (tpn 11 True))∧pt (lb (.box [.bool f.1, .hs .no Zak f.2])∧True))∧∀ y0:Nat,(y0≤f.2.length∧∀ j,j < y0→ZbB (Zaq f.2 j)=true)→T5 (bif ltI y0 f.2.length then T3 (ix 3 y0 f.2.length∧True∧pt True∧True∧bif !(ZbB (Zaq f.2 y0)) then True∧rB false (Zcp f) else T3 (∃ y0' : Nat,(y0'≤f.2.length∧∀ j,j < y0'→ZbB (Zaq f.2 j)=true)∧(f.2.length - y0') < (f.2.length - y0)∧lxs [.ag [.bool f.1, .hs .no Zak f.2], .c (.bp 0 0)] (True∧vI (w64 ((y0:Int) + 1)) y0'∧TN 14 (tpn 11 True))∧pt (lb (.box [.bool f.1, .hs .no Zak f.2])∧True))) else T3 (bif !f.1 then T5 (rB (eqI f.2.length 0) (Zcp f)) else T3 (pt True∧True∧rB (btw (f.2.length:Int) 1 3) (Zcp f)))))) (by kernel_rfl) ?_
 unfold T3 T5
 have hm:List.length f.2≤maxLen:=hwf.1.2.1.1
 unfold maxLen at hm
 simp only [Zdq,eq_self]
 refine ⟨⟨0,⟨Nat.zero_le _,Za7⟩,rfl⟩,fun k hk=>⟨fun hlt=>?_,fun hge=>?_⟩⟩
 ·have hlt' : k < List.length f.2:=by omega
  refine ⟨by omega,fun p=>?_,fun p=>⟨k + 1,⟨by omega,ZaY hk.2 p⟩,by omega,ZbL (by unfold maxLen; omega)⟩⟩
  unfold Zcp
  rw [ZIj hlt' p]
  cases f.1 with
  | true=>simp
  | false=>simp [ZaT]; intro h; rw [h] at hlt'; cases hlt'
 ·obtain rfl:k=List.length f.2:=by omega
  unfold Zcp
  rw [ZKx hk.2]
  cases f.1 <;> simp
def Zd5:ZaC Tryz.prog:=⟨76,[.s Zdd],fun x=>True,fun x=>.c (.bool (Zcp x.1)),fun _=>[],fun x hx=>ZwY x.1,Tryz.call76⟩
theorem ZKy (x:GIn):Zam Tryz.prog 98 [.ag [.str x.1, .bool x.2]] (.c (.bool (ZsQ x))) []:=by
 refine bc0 [] [] [] [] L0 Tryz.func98 (fun hwf=>?_)
 exact Zzh
def ZEK:ZaC Tryz.prog:=⟨98,[.s ZAY],fun x=>True,fun x=>.c (.bool (ZsQ x.1)),fun _=>[],fun x hx=>ZKy x.1,Tryz.call98⟩
theorem ZIk (x:Zl0):Zam Tryz.prog 93 [.ag [.str x.1, .str x.2]] (.c (.bool (outOk x))) []:=by
 refine bc0 [] [] [] [] L0 Tryz.func93 (fun hwf=>?_)
 exact Zy5
def ZwZ:ZaC Tryz.prog:=⟨93,[.s ZkP],fun x=>True,fun x=>.c (.bool (outOk x.1)),fun _=>[],fun x hx=>ZIk x.1,Tryz.call93⟩
theorem ZKz (x:GIn):Zam Tryz.prog 78 [.ag [.str x.1, .bool x.2]] (.c (.bool (ZsQ x))) []:=by
 refine bc0 [] [] [] [] L0 Tryz.func78 (fun hwf=>?_)
 exact Zzh
def Zhr:ZaC Tryz.prog:=⟨78,[.s ZAY],fun x=>True,fun x=>.c (.bool (ZsQ x.1)),fun _=>[],fun x hx=>ZKz x.1,Tryz.call78⟩
theorem ZIl (x:Zl0):Zam Tryz.prog 71 [.ag [.str x.1, .str x.2]] (.c (.bool (outOk x))) []:=by
 refine bc0 [] [] [] [] L0 Tryz.func71 (fun hwf=>?_)
 exact Zy5
def ZeO:ZaC Tryz.prog:=⟨71,[.s ZkP],fun x=>True,fun x=>.c (.bool (outOk x.1)),fun _=>[],fun x hx=>ZIl x.1,Tryz.call71⟩
theorem ZpK (s:ByteArray):Zam Tryz.prog 99 [.c (.str s)] (.c (.bool (Zcz s))) []:=by
 refine bc0 [ZIf] [] [] [] L0 Tryz.func99 (fun hwf=>?_)
 exact Zzb
def ZpL:ZaC Tryz.prog:=⟨99,[.v ZaW],fun x=>True,fun x=>.c (.bool (Zcz x.1)),fun _=>[],fun x hx=>ZpK x.1,Tryz.call99⟩
theorem ZF6 (s:ByteArray):Zam Tryz.prog 79 [.c (.str s)] (.c (.bool (Zcz s))) []:=by
 refine bc0 [ZIi] [] [] [] L0 Tryz.func79 (fun hwf=>?_)
 exact Zzb
def Zfh:ZaC Tryz.prog:=⟨79,[.v ZaW],fun x=>True,fun x=>.c (.bool (Zcz x.1)),fun _=>[],fun x hx=>ZF6 x.1,Tryz.call79⟩
end Go.Proofs.YtkompmgleojmlaaGreat
