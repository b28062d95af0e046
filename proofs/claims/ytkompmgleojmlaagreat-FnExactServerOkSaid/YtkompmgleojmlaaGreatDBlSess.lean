import Derived.Test.YtkompmgleojmlaaGreatDBlOk
import Derived.Test.YtkompmgleojmlaaGreatDUpper
import Derived.Test.YtkompmgleojmlaaGreatDBlBox
set_option linter.unusedSimpArgs false
set_option linter.unusedVariables false
set_option maxRecDepth 100000
set_option maxHeartbeats 4000000
namespace Go.Proofs.YtkompmgleojmlaaGreat
open Go.ChangeShapes Go.WideShapes Go.ChangeAt Go.RowKit Go.Joins Go.Deep
open GoRep (rep bulk)
theorem ZKt:Int.toNat 0=0:=rfl
theorem ZIn {a b:ByteArray}:(Op.bytesLess a.toList b.toList || eqS a b)=!Op.bytesLess b.toList a.toList:=ZGO a b
def Zhx (l:List ByteArray) (i:Nat):Bool:=!Zbo (Zas l i) || (decide (0 < i) && !Op.bytesLess (Zas l (i - 1)).toList (Zas l i).toList)
def ZaZ (z:ZaK):Bool:=btw z.1 1 4 && (btw z.2.2 1 15 && (if z.1 < 3 then eqI ((List.length z.2.1:Nat):Int) 0 else decide (∀ i,i < List.length z.2.1→Zhx z.2.1 i=false) && btw ((List.length z.2.1:Nat):Int) 1 3))
theorem ZlC {z:ZaK} (h:btw z.1 1 4=false):ZaZ z=false:=by unfold ZaZ; rw [h]; rfl
theorem ZpG {z:ZaK} (h:btw z.2.2 1 15=false):ZaZ z=false:=by unfold ZaZ; rw [h]; cases btw z.1 1 4 <;> rfl
theorem Zj5 {z:ZaK} (h1:btw z.1 1 4=true) (h2:btw z.2.2 1 15=true) (h3:z.1 < 3):ZaZ z=eqI ((List.length z.2.1:Nat):Int) 0:=by unfold ZaZ; rw [h1,h2,if_pos h3]; rfl
theorem ZgR {z:ZaK} {i:Nat} (h3:¬ z.1 < 3) (hi:i < List.length z.2.1) (hb:Zhx z.2.1 i=true):ZaZ z=false:=by
  unfold ZaZ
  rw [if_neg h3,decide_eq_false (fun q=>by rw [q i hi] at hb; cases hb)]
  cases btw z.1 1 4 <;> cases btw z.2.2 1 15 <;> rfl
theorem ZxM {z:ZaK} (h1:btw z.1 1 4=true) (h2:btw z.2.2 1 15=true) (h3:¬ z.1 < 3) (h:∀ i,i < List.length z.2.1→Zhx z.2.1 i=false):ZaZ z=btw ((List.length z.2.1:Nat):Int) 1 3:=by
  unfold ZaZ
  rw [h1,h2,if_neg h3,decide_eq_true h]
  rfl
def ZwB (l:List ZbB) (i:Nat):Bool:=!btw (ZaM l i).1 1 999999998 || (!btw (ZaM l i).2 0 31 || (decide (0 < i) && leI (ZaM l i).1 (ZaM l (i - 1)).1))
def ZcM (l:List ZbB):Bool:=decide (∀ i,i < List.length l→ZwB l i=false) && leI ((List.length l:Nat):Int) 6
theorem ZA5 {l:List ZbB} {i:Nat} (hi:i < List.length l) (hb:ZwB l i=true):ZcM l=false:=by
  unfold ZcM
  rw [decide_eq_false (fun q=>by rw [q i hi] at hb; cases hb)]
  rfl
theorem ZpH {l:List ZbB} (h:∀ i,i < List.length l→ZwB l i=false):ZcM l=leI ((List.length l:Nat):Int) 6:=by
  unfold ZcM
  rw [decide_eq_true h]
  rfl
def ZbC (f:Zby):Bool:=if f.1=true then btw ((List.length f.2:Nat):Int) 1 3 && !List.any f.2 (fun z0:ZaK=>!ZaZ z0) else eqI ((List.length f.2:Nat):Int) 0
def ZbK (s:ByteArray):Bool:=eqS s (⟨#[]⟩:ByteArray) || Zj4 s
def ZwC (x:GIn):Bool:=leI ((ByteArray.size x.1:Nat):Int) 600
def outOk (x:ZpD):Bool:=leI ((ByteArray.size x.1:Nat):Int) 1200 && leI ((ByteArray.size x.2:Nat):Int) 20000
def ZC8 (s:ByteArray):Nat→List AV→Mem→Za3
  | 2,tm,M=>⟨Nat,fun y=>(Zb2 (Zb2 (Zcx tm [(7, .c (.int .i64 ((y:Nat):Int)))]) 2 3) 8 25,M),fun y=>(y≤ByteArray.size s∧∀ j,j < y→¬ ZhI (ZaN s j)),fun y=>(ByteArray.size s - y)⟩
  | _,_,_=>⟨Unit,fun _=>([],[]),fun _=>False,fun _=>0⟩
def ZxN (s:ByteArray) (y0:Nat):Prop:=(T2 (∃ y0' : Nat,(y0'≤ByteArray.size s∧∀ j,j < y0'→¬ ZhI (ZaN s j))∧(ByteArray.size s - y0') < (ByteArray.size s - y0)∧((lxs [.c (.str s), .tp []] (TN 3 (lxs [.c (.str s),ci (ByteArray.size s)] (vI (w64 ((y0:Int) + 1)) y0'∧TN 25 (tpn 3 True)))))∧pt (True))))
def ZxO (s:ByteArray) (y0:Nat):Prop:=(T3 (bif (geI (ZaN (upT (ByteArray.extract s y0 (Int.toNat (w64 ((y0:Int) + 1))))) (Int.toNat 0)) 48) then (T5 (bif (!(leI (ZaN (upT (ByteArray.extract s y0 (Int.toNat (w64 ((y0:Int) + 1))))) (Int.toNat 0)) 57)) then (True∧(rB false (Zj4 s))) else (ZxN s y0))) else (T4 (rB false (Zj4 s)))))
theorem ZC9 (s:ByteArray):Zai Tryz.prog 180 [.c (.str s)] (.c (.bool (Zj4 s))) []:=by
  refine bc0 [ZEY,Zb0] [] [] [] (ZC8 s) Tryz.func180 (fun hwf=>?_)
  refine Eq.mpr (β:=(T4 ((∃ q:Nat,(q≤ByteArray.size s∧∀ j,j < q→¬ ZhI (ZaN s j))∧((lxs [.c (.str s), .tp []] (TN 3 (lxs [.c (.str s),ci (ByteArray.size s)] (vI 0 q∧TN 25 (tpn 3 True)))))∧pt (True)))∧∀ y0:Nat,(y0≤ByteArray.size s∧∀ j,j < y0→¬ ZhI (ZaN s j))→(True∧(bif (ltI y0 (ByteArray.size s)) then (T6 (((0:Int)≤(y0:Int)∧((y0:Int):Int)≤(w64 ((y0:Int) + 1))∧((w64 ((y0:Int) + 1)):Int)≤(ByteArray.size s:Int))∧((pt True)∧(((0:Int)≤0∧(0:Int) < (ByteArray.size (upT (ByteArray.extract s y0 (Int.toNat (w64 (((y0:Nat):Int) + 1))))):Int))∧(T4 (bif (geI (ZaN (upT (ByteArray.extract s y0 (Int.toNat (w64 ((y0:Int) + 1))))) (Int.toNat 0)) 65) then (T4 (bif (leI (ZaN (upT (ByteArray.extract s y0 (Int.toNat (w64 ((y0:Int) + 1))))) (Int.toNat 0)) 90) then (T2 (ZxN s y0)) else (ZxO s y0))) else (T2 (ZxO s y0)))))))) else (T2 ((pt True)∧(True∧(rB (btw (ByteArray.size s:Int) 1 8) (Zj4 s)))))))))) (by kernel_rfl) ?_
  unfold ZxO ZxN T2 T3 T4 T5 T6
  have hm:s.size≤maxLen:=hwf.1
  unfold maxLen at hm
  simp only [Zdy,eq_self]
  refine ⟨⟨0,⟨Nat.zero_le _,fun j hj=>absurd hj (Nat.not_lt_zero j)⟩,rfl⟩,fun k hk=>⟨fun hlt=>?_,fun hge=>?_⟩⟩
  · have hu:=ZIk (s:=s) (i:=k) (by omega)
    have e3:IntKind.wrap .i64 ((k:Int) + 1)=(k:Int) + 1:=Zgf (by omega) (by omega)
    have e1:Int.toNat ((k:Int) + 1)=k + 1:=by omega
    have hui:upI (ZaN s k)=if 97≤ZaN s k∧ZaN s k≤122 then ZaN s k - 32 else ZaN s k:=rfl
    simp only [e3,e1,ZKt,hu.1,hu.2,Int.toNat_natCast]
    repeat' (first | apply And.intro | intro _)
    all_goals as_aux_lemma=>first
      | trivial
      | omega
      | exact (ZzU (i:=k) (by omega) (by unfold ZhI; omega)).symm
      | exact ⟨k + 1,⟨by omega,fun j hj=>if h:j < k then hk.2 j h else by obtain rfl:j=k:=(by omega); unfold ZhI; omega⟩,by omega,by omega⟩
  · exact ZvV
def ZDa:Zat Tryz.prog:=⟨180,[.v ZaL],fun x=>True,fun x=>.c (.bool (Zj4 x.1)),fun _=>[],fun x hx=>ZC9 x.1,Tryz.call180⟩
def ZDb (s:ByteArray):Nat→List AV→Mem→Za3
  | 2,tm,M=>⟨Nat,fun y=>(Zb2 (Zcx tm [(2, .any),(3, .c (.int .i64 ((y:Nat):Int)))]) 4 24,M),fun y=>(y≤ByteArray.size s∧∀ j,j < y→¬ ZhI (ZaN s j)),fun y=>(ByteArray.size s - y)⟩
  | _,_,_=>⟨Unit,fun _=>([],[]),fun _=>False,fun _=>0⟩
def Zq8 (s:ByteArray) (y0:Nat):Prop:=(T3 (∃ y0' : Nat,(y0'≤ByteArray.size s∧∀ j,j < y0'→¬ ZhI (ZaN s j))∧(ByteArray.size s - y0') < (ByteArray.size s - y0)∧((lxs [.c (.str s), .tp []] (True∧vI (w64 ((y0:Int) + 1)) y0'∧TN 24 (tpn 3 True)))∧pt (True))))
theorem ZDc (s:ByteArray):Zai Tryz.prog 157 [.c (.str s)] (.c (.bool (Zj4 s))) []:=by
  refine bc0 [ZbW] [] [] [] (ZDb s) Tryz.func157 (fun hwf=>?_)
  refine Eq.mpr (β:=(T2 ((∃ q:Nat,(q≤ByteArray.size s∧∀ j,j < q→¬ ZhI (ZaN s j))∧((lxs [.c (.str s), .tp []] (True∧vI 0 q∧TN 24 (tpn 3 True)))∧pt (True)))∧∀ y0:Nat,(y0≤ByteArray.size s∧∀ j,j < y0→¬ ZhI (ZaN s j))→(T4 (bif (ltI y0 (ByteArray.size s)) then (T2 (((0:Int)≤(y0:Int)∧((y0:Int):Int) < (ByteArray.size s:Int))∧(true=true∧(T2 ((pt True)∧(T2 (bif (!(btw (w64 (ZaN s y0)) 97 122)) then (True∧((pt True)∧(T3 (bif (!(btw (w64 (ZaN s y0)) 65 90)) then (True∧((pt True)∧(T2 (bif (!(btw (w64 (ZaN s y0)) 48 57)) then (True∧(rB false (Zj4 s))) else (Zq8 s y0))))) else (True∧(Zq8 s y0)))))) else (T3 (Zq8 s y0))))))))) else (T2 ((pt True)∧(True∧(rB (btw (ByteArray.size s:Int) 1 8) (Zj4 s)))))))))) (by kernel_rfl) ?_
  unfold Zq8 T2 T3 T4
  have hm:s.size≤maxLen:=hwf.1
  unfold maxLen at hm
  simp only [Zdy,eq_self]
  refine ⟨⟨0,⟨Nat.zero_le _,fun j hj=>absurd hj (Nat.not_lt_zero j)⟩,rfl⟩,fun k hk=>⟨fun hlt=>?_,fun hge=>?_⟩⟩
  · have hb:=Zmn s k
    have e0:IntKind.wrap .i64 (ZaN s k)=ZaN s k:=Zgf (by omega) (by omega)
    simp only [e0,Zbd,Zbs,Int.toNat_natCast]
    repeat' (first | apply And.intro | intro _)
    all_goals as_aux_lemma=>first
      | trivial
      | omega
      | exact (ZzU (i:=k) (by omega) (by unfold ZhI; omega)).symm
      | exact ⟨k + 1,⟨by omega,fun j hj=>if h:j < k then hk.2 j h else by obtain rfl:j=k:=(by omega); unfold ZhI; omega⟩,by omega,Zbj (by unfold maxLen; omega)⟩
  · exact ZvV
def ZDd:Zat Tryz.prog:=⟨157,[.v ZaL],fun x=>True,fun x=>.c (.bool (Zj4 x.1)),fun _=>[],fun x hx=>ZDc x.1,Tryz.call157⟩
theorem Zs0 (kind:Int):Zai Tryz.prog 243 [.c (.int .i64 kind)] (.c (.bool (eqI kind 3 || eqI kind 4))) []:=by
  refine bc0 [] [] [] [] L0 Tryz.func243 (fun hwf=>?_)
  refine Eq.mpr (β:=(T4 (bif (eqI kind 3) then (T2 (rB true (eqI kind 3 || eqI kind 4))) else (T4 (rB (eqI kind 4) (eqI kind 3 || eqI kind 4)))))) (by kernel_rfl) ?_
  exact Zdo
def Zs1:Zat Tryz.prog:=⟨243,[.v ZaC],fun x=>True,fun x=>.c (.bool (eqI x.1 3 || eqI x.1 4)),fun _=>[],fun x hx=>Zs0 x.1,Tryz.call243⟩
def ZxP (z:ZaK):Nat→List AV→Mem→Za3
  | 6,tm,M=>⟨Nat,fun y=>(Zb2 (Zb2 (Zcx tm [(26, .c (.int .i64 ((y:Nat):Int)))]) 2 3) 27 22,M),fun y=>(y≤List.length z.2.1∧∀ j,j < y→Zhx z.2.1 j=false),fun y=>(List.length z.2.1 - y)⟩
  | _,_,_=>⟨Unit,fun _=>([],[]),fun _=>False,fun _=>0⟩
def ZxQ (z:ZaK) (y0:Nat):Prop:=(T2 (∃ y0' : Nat,(y0'≤List.length z.2.1∧∀ j,j < y0'→Zhx z.2.1 j=false)∧(List.length z.2.1 - y0') < (List.length z.2.1 - y0)∧((lxs [.ag [.int .i64 z.1, .hs .no ZaL z.2.1, .int .i64 z.2.2], .c (.bp 0 0)] (TN 3 (lxs [.c (.bp 0 0),ci z.1, .c (.bool (btw z.1 1 4)), .c (.bool (!(btw z.1 1 4))), .c (.bool false), .c (.bp 0 2),ci z.2.2, .c (.bool (btw z.2.2 1 15)), .c (.bool (!(btw z.2.2 1 15))), .c (.bool false), .c (.bp 0 0),ci z.1, .c (.bool (eqI z.1 3 || eqI z.1 4)), .c (.bool false)] (tpn 4 (lxs [.c (.bp 0 1),hn ZaL z.2.1,ci (List.length z.2.1)] (vI (w64 ((y0:Int) + 1)) y0'∧TN 22 (tpn 4 True)))))))∧pt (lb (.box [.int .i64 z.1, .hs .no ZaL z.2.1, .int .i64 z.2.2])∧True))))
theorem ZxR (z:ZaK):Zai Tryz.prog 176 [.ag [.int .i64 z.1, .hs .no ZaL z.2.1, .int .i64 z.2.2]] (.c (.bool (ZaZ z))) []:=by
  refine bc0 [Zb0,Zs1,Zit] [] [] [] (ZxP z) Tryz.func176 (fun hwf=>?_)
  refine Eq.mpr (β:=(T4 ((pt True)∧(T2 (bif (!(btw z.1 1 4)) then (T2 (rB false (ZaZ z))) else (T2 ((pt True)∧(T2 (bif (!(btw z.2.2 1 15)) then (True∧(rB false (ZaZ z))) else (T2 ((pt True)∧(True∧(bif (!(eqI z.1 3 || eqI z.1 4)) then (T5 (rB (eqI (List.length z.2.1) 0) (ZaZ z))) else (T4 ((∃ q:Nat,(q≤List.length z.2.1∧∀ j,j < q→Zhx z.2.1 j=false)∧((lxs [.ag [.int .i64 z.1, .hs .no ZaL z.2.1, .int .i64 z.2.2], .c (.bp 0 0)] (TN 3 (lxs [.c (.bp 0 0),ci z.1, .c (.bool (btw z.1 1 4)), .c (.bool (!(btw z.1 1 4))), .c (.bool false), .c (.bp 0 2),ci z.2.2, .c (.bool (btw z.2.2 1 15)), .c (.bool (!(btw z.2.2 1 15))), .c (.bool false), .c (.bp 0 0),ci z.1, .c (.bool (eqI z.1 3 || eqI z.1 4)), .c (.bool false)] (tpn 4 (lxs [.c (.bp 0 1),hn ZaL z.2.1,ci (List.length z.2.1)] (vI 0 q∧TN 22 (tpn 4 True)))))))∧pt (lb (.box [.int .i64 z.1, .hs .no ZaL z.2.1, .int .i64 z.2.2])∧True)))∧∀ y0:Nat,(y0≤List.length z.2.1∧∀ j,j < y0→Zhx z.2.1 j=false)→(True∧(bif (ltI y0 (List.length z.2.1)) then (True∧((ix 1 y0 (List.length z.2.1))∧(T4 ((pt True)∧(T2 (bif (!(Zbo (Zas z.2.1 y0))) then (T2 (rB false (ZaZ z))) else (T3 (bif (gtI y0 0) then (T5 ((ix 1 (w64 ((y0:Int) - 1)) (List.length z.2.1))∧(T4 (bif (Op.bytesLess (Zas z.2.1 y0).toList (Zas z.2.1 (Int.toNat (w64 ((y0:Int) - 1)))).toList || eqS (Zas z.2.1 y0) (Zas z.2.1 (Int.toNat (w64 ((y0:Int) - 1))))) then (True∧(rB false (ZaZ z))) else (ZxQ z y0))))) else (T2 (ZxQ z y0)))))))))) else (T3 ((pt True)∧(True∧(rB (btw (List.length z.2.1:Int) 1 3) (ZaZ z)))))))))))))))))))))) (by kernel_rfl) ?_
  unfold ZxQ T2 T3 T4 T5
  have hm:List.length z.2.1≤maxLen:=hwf.1.2.1.1
  unfold maxLen at hm
  simp only [ZIn]
  simp only [Zdy,eq_self]
  refine ⟨fun h1=>(ZlC h1).symm,fun h1=>⟨fun h2=>(ZpG h2).symm,fun h2=>⟨fun h3=>?_,fun h3=>⟨⟨0,⟨Nat.zero_le _,ZaH⟩,rfl⟩,fun k hk=>⟨fun hlt=>?_,fun hge=>?_⟩⟩⟩⟩⟩
  · have h3' : z.1 < 3:=by
      rw [Bool.or_eq_false_iff,ZaB,ZaB] at h3
      rw [Zbd] at h1
      omega
    exact (Zj5 h1 h2 h3').symm
  · have h4:¬ z.1 < 3:=by
      rw [Bool.or_eq_true,Zao,Zao] at h3
      omega
    have hlt' : k < List.length z.2.1:=by omega
    refine ⟨by omega,fun p=>(ZgR h4 hlt' (by simp [Zhx,p])).symm,fun p=>⟨fun hp=>?_,fun hp=>?_⟩⟩
    · have e:IntKind.wrap .i64 ((k:Int) - 1)=((k - 1:Nat):Int):=by rw [Zgf (by omega) (by omega)]; omega
      have hp' : 0 < k:=by omega
      rw [e,Int.toNat_natCast]
      refine ⟨by omega,⟨fun r=>(ZgR h4 hlt' (by simp [Zhx,p,r,hp'])).symm,fun r=>⟨k + 1,⟨by omega,ZaD hk.2 (by simp [Zhx,p,r])⟩,by omega,Zbj (by unfold maxLen; omega)⟩⟩⟩
    · exact ZvG
  · have h4:¬ z.1 < 3:=by
      rw [Bool.or_eq_true,Zao,Zao] at h3
      omega
    exact Zwf
def ZxS:Zat Tryz.prog:=⟨176,[.s Zak],fun x=>True,fun x=>.c (.bool (ZaZ x.1)),fun _=>[],fun x hx=>ZxR x.1,Tryz.call176⟩
def ZxT (z:ZaK):Nat→List AV→Mem→Za3
  | 6,tm,M=>⟨Nat,fun y=>(Zb2 (Zcx tm [(2, .any),(3, .c (.int .i64 ((y:Nat):Int)))]) 21 32,M),fun y=>(y≤List.length z.2.1∧∀ j,j < y→Zhx z.2.1 j=false),fun y=>(List.length z.2.1 - y)⟩
  | _,_,_=>⟨Unit,fun _=>([],[]),fun _=>False,fun _=>0⟩
def ZxU (z:ZaK) (y0:Nat):Prop:=(T3 (∃ y0' : Nat,(y0'≤List.length z.2.1∧∀ j,j < y0'→Zhx z.2.1 j=false)∧(List.length z.2.1 - y0') < (List.length z.2.1 - y0)∧((lxs [.ag [.int .i64 z.1, .hs .no ZaL z.2.1, .int .i64 z.2.2], .c (.bp 0 0)] (True∧vI (w64 ((y0:Int) + 1)) y0'∧lxs [.c (.bp 0 0),ci z.1, .c (.bool (btw z.1 1 4)), .c (.bool (!(btw z.1 1 4))), .c (.bool false), .c (.bp 0 2),ci z.2.2, .c (.bool (btw z.2.2 1 15)), .c (.bool (!(btw z.2.2 1 15))), .c (.bool false), .c (.bp 0 0),ci z.1, .c (.bool false)] (tpn 4 (TN 32 (tpn 4 True)))))∧pt (lb (.box [.int .i64 z.1, .hs .no ZaL z.2.1, .int .i64 z.2.2])∧True))))
theorem ZxV (z:ZaK):Zai Tryz.prog 153 [.ag [.int .i64 z.1, .hs .no ZaL z.2.1, .int .i64 z.2.2]] (.c (.bool (ZaZ z))) []:=by
  refine bc0 [ZbW,Ziu] [] [] [] (ZxT z) Tryz.func153 (fun hwf=>?_)
  refine Eq.mpr (β:=(T4 ((pt True)∧(T2 (bif (!(btw z.1 1 4)) then (T2 (rB false (ZaZ z))) else (T2 ((pt True)∧(T2 (bif (!(btw z.2.2 1 15)) then (True∧(rB false (ZaZ z))) else (T3 (bif (ltI z.1 3) then (T5 (rB (eqI (List.length z.2.1) 0) (ZaZ z))) else (True∧((∃ q:Nat,(q≤List.length z.2.1∧∀ j,j < q→Zhx z.2.1 j=false)∧((lxs [.ag [.int .i64 z.1, .hs .no ZaL z.2.1, .int .i64 z.2.2], .c (.bp 0 0)] (True∧vI 0 q∧lxs [.c (.bp 0 0),ci z.1, .c (.bool (btw z.1 1 4)), .c (.bool (!(btw z.1 1 4))), .c (.bool false), .c (.bp 0 2),ci z.2.2, .c (.bool (btw z.2.2 1 15)), .c (.bool (!(btw z.2.2 1 15))), .c (.bool false), .c (.bp 0 0),ci z.1, .c (.bool false)] (tpn 4 (TN 32 (tpn 4 True)))))∧pt (lb (.box [.int .i64 z.1, .hs .no ZaL z.2.1, .int .i64 z.2.2])∧True)))∧∀ y0:Nat,(y0≤List.length z.2.1∧∀ j,j < y0→Zhx z.2.1 j=false)→(T5 (bif (ltI y0 (List.length z.2.1)) then ((pt (true=true))∧(T3 ((ix 1 y0 (List.length z.2.1))∧(True∧((pt True)∧(T2 (bif (!(Zbo (Zas z.2.1 y0))) then (T2 (rB false (ZaZ z))) else (T3 (bif (gtI y0 0) then (T4 ((ix 1 (w64 ((y0:Int) - 1)) (List.length z.2.1))∧(T4 ((ix 1 y0 (List.length z.2.1))∧(T4 (bif (!Op.bytesLess (Zas z.2.1 (Int.toNat (w64 ((y0:Int) - 1)))).toList (Zas z.2.1 y0).toList) then (True∧(rB false (ZaZ z))) else (ZxU z y0))))))) else (T2 (ZxU z y0))))))))))) else (T3 ((pt True)∧(True∧(rB (btw (List.length z.2.1:Int) 1 3) (ZaZ z)))))))))))))))))))) (by kernel_rfl) ?_
  unfold ZxU T2 T3 T4 T5
  have hm:List.length z.2.1≤maxLen:=hwf.1.2.1.1
  unfold maxLen at hm
  simp only [ZIn]
  simp only [Zdy,eq_self]
  refine ⟨fun h1=>(ZlC h1).symm,fun h1=>⟨fun h2=>(ZpG h2).symm,fun h2=>⟨fun h3=>?_,fun h3=>⟨⟨0,⟨Nat.zero_le _,ZaH⟩,rfl⟩,fun k hk=>⟨fun hlt=>?_,fun hge=>?_⟩⟩⟩⟩⟩
  · have h3':=h3
    exact (Zj5 h1 h2 h3').symm
  · have h4:=h3
    have hlt' : k < List.length z.2.1:=by omega
    refine ⟨by omega,fun p=>(ZgR h4 hlt' (by simp [Zhx,p])).symm,fun p=>⟨fun hp=>?_,fun hp=>?_⟩⟩
    · have e:IntKind.wrap .i64 ((k:Int) - 1)=((k - 1:Nat):Int):=by rw [Zgf (by omega) (by omega)]; omega
      have hp' : 0 < k:=by omega
      rw [e,Int.toNat_natCast]
      refine ⟨by omega,by omega,⟨fun r=>(ZgR h4 hlt' (by simp [Zhx,p,r,hp'])).symm,fun r=>⟨k + 1,⟨by omega,ZaD hk.2 (by simp [Zhx,p,r])⟩,by omega,Zbj (by unfold maxLen; omega)⟩⟩⟩
    · exact ZvG
  · have h4:=h3
    exact Zwf
def ZxW:Zat Tryz.prog:=⟨153,[.s Zak],fun x=>True,fun x=>.c (.bool (ZaZ x.1)),fun _=>[],fun x hx=>ZxV x.1,Tryz.call153⟩
def ZA6 (v:List ZbB):Nat→List AV→Mem→Za3
  | 2,tm,M=>⟨Nat,fun y=>(Zb2 (Zb2 (Zcx tm [(8, .c (.int .i64 ((y:Nat):Int)))]) 2 3) 9 31,M),fun y=>(y≤List.length v∧∀ j,j < y→ZwB v j=false),fun y=>(List.length v - y)⟩
  | _,_,_=>⟨Unit,fun _=>([],[]),fun _=>False,fun _=>0⟩
def ZxX (v:List ZbB) (y0:Nat):Prop:=(T2 (∃ y0' : Nat,(y0'≤List.length v∧∀ j,j < y0'→ZwB v j=false)∧(List.length v - y0') < (List.length v - y0)∧((lxs [.ag [.hs .no Zal v], .c (.bp 0 0)] (TN 3 (lxs [.c (.bp 0 0),hn Zal v,ci (List.length v)] (vI (w64 ((y0:Int) + 1)) y0'∧TN 31 (tpn 4 True)))))∧pt (lb (.box [.hs .no Zal v])∧True))))
theorem ZA7 (v:List ZbB):Zai Tryz.prog 95 [.ag [.hs .no Zal v]] (.c (.bool (ZcM v))) []:=by
  refine bc0 [Zb0,Zji] [] [] [] (ZA6 v) Tryz.func95 (fun hwf=>?_)
  refine Eq.mpr (β:=(T6 ((∃ q:Nat,(q≤List.length v∧∀ j,j < q→ZwB v j=false)∧((lxs [.ag [.hs .no Zal v], .c (.bp 0 0)] (TN 3 (lxs [.c (.bp 0 0),hn Zal v,ci (List.length v)] (vI 0 q∧TN 31 (tpn 4 True)))))∧pt (lb (.box [.hs .no Zal v])∧True)))∧∀ y0:Nat,(y0≤List.length v∧∀ j,j < y0→ZwB v j=false)→(True∧(bif (ltI y0 (List.length v)) then (True∧((ix 2 y0 (List.length v))∧(T4 ((pt (true=true))∧(T2 ((pt True)∧(T2 (bif (!(btw (ZaM v y0).1 1 999999998)) then (T4 (rB false (ZcM v))) else (T2 ((pt True)∧(T3 (bif (!(ZaY (ZaM v y0).2)) then (T2 (rB false (ZcM v))) else (T3 (bif (gtI y0 0) then (T6 ((ix 2 (w64 ((y0:Int) - 1)) (List.length v))∧(T5 (bif (leI (ZaM v y0).1 (ZaM v (Int.toNat (w64 ((y0:Int) - 1)))).1) then (True∧(rB false (ZcM v))) else (ZxX v y0))))) else (T2 (ZxX v y0)))))))))))))))) else (T5 (rB (leI (List.length v) 6) (ZcM v)))))))) (by kernel_rfl) ?_
  unfold ZxX T2 T3 T4 T5 T6
  exact ZuW
def ZA8:Zat Tryz.prog:=⟨95,[.s (.list Zal)],fun x=>True,fun x=>.c (.bool (ZcM x.1)),fun _=>[],fun x hx=>ZA7 x.1,Tryz.call95⟩
def ZA9 (v:List ZbB):Nat→List AV→Mem→Za3
  | 2,tm,M=>⟨Nat,fun y=>(Zb2 (Zcx tm [(2, .any),(3, .c (.int .i64 ((y:Nat):Int)))]) 4 39,M),fun y=>(y≤List.length v∧∀ j,j < y→ZwB v j=false),fun y=>(List.length v - y)⟩
  | _,_,_=>⟨Unit,fun _=>([],[]),fun _=>False,fun _=>0⟩
def ZxY (v:List ZbB) (y0:Nat):Prop:=(T2 ((pt True)∧(T2 (bif (!(ZaY (ZaM v y0).2)) then (True∧(rB false (ZcM v))) else (T3 (∃ y0' : Nat,(y0'≤List.length v∧∀ j,j < y0'→ZwB v j=false)∧(List.length v - y0') < (List.length v - y0)∧((lxs [.ag [.hs .no Zal v], .c (.bp 0 0)] (True∧vI (w64 ((y0:Int) + 1)) y0'∧TN 39 (tpn 4 True)))∧pt (lb (.box [.hs .no Zal v])∧True))))))))
theorem ZBa (v:List ZbB):Zai Tryz.prog 75 [.ag [.hs .no Zal v]] (.c (.bool (ZcM v))) []:=by
  refine bc0 [ZbW,Zjj] [] [] [] (ZA9 v) Tryz.func75 (fun hwf=>?_)
  refine Eq.mpr (β:=(T3 ((∃ q:Nat,(q≤List.length v∧∀ j,j < q→ZwB v j=false)∧((lxs [.ag [.hs .no Zal v], .c (.bp 0 0)] (True∧vI 0 q∧TN 39 (tpn 4 True)))∧pt (lb (.box [.hs .no Zal v])∧True)))∧∀ y0:Nat,(y0≤List.length v∧∀ j,j < y0→ZwB v j=false)→(T5 (bif (ltI y0 (List.length v)) then (T3 ((ix 2 y0 (List.length v))∧(T3 ((pt (true=true))∧(T2 ((pt True)∧(T2 (bif (!(btw (ZaM v y0).1 1 999999998)) then (T4 (rB false (ZcM v))) else (T3 (bif (gtI y0 0) then (T4 ((ix 2 (w64 ((y0:Int) - 1)) (List.length v))∧(T8 (bif (geI (ZaM v (Int.toNat (w64 ((y0:Int) - 1)))).1 (ZaM v y0).1) then (T2 (rB false (ZcM v))) else (ZxY v y0))))) else (T3 (ZxY v y0)))))))))))) else (T5 (rB (leI (List.length v) 6) (ZcM v)))))))) (by kernel_rfl) ?_
  unfold ZxY T2 T3 T4 T5 T8
  exact ZuW
def ZdW:Zat Tryz.prog:=⟨75,[.s (.list Zal)],fun x=>True,fun x=>.c (.bool (ZcM x.1)),fun _=>[],fun x hx=>ZBa x.1,Tryz.call75⟩
theorem Zpg (z:ZaK):Zai Tryz.prog 175 [.ag [.int .i64 z.1, .hs .no ZaL z.2.1, .int .i64 z.2.2]] (.c (.bool (!ZaZ z))) []:=by
  refine bc0 [ZxS] [] [] [] L0 Tryz.func175 (fun hwf=>?_)
  refine Eq.mpr (β:=(T3 ((pt True)∧(T2 (rB (!(ZaZ z)) (!ZaZ z)))))) (by kernel_rfl) ?_
  exact Zdo
def Zph:Zat Tryz.prog:=⟨175,[.s Zak],fun x=>True,fun x=>.c (.bool (!ZaZ x.1)),fun _=>[],fun x hx=>Zpg x.1,Tryz.call175⟩
theorem Zs2 (f:Zby):Zai Tryz.prog 96 [.ag [.bool f.1, .hs .no Zak f.2]] (.c (.bool (ZbC f))) []:=by
  refine bc0 [Zb0,Zph] [Zde] [] [] L0 Tryz.func96 (fun hwf=>?_)
  refine Eq.mpr (β:=(T5 (bif (!f.1) then (T5 (rB (eqI (List.length f.2) 0) (ZbC f))) else (T3 ((pt True)∧(True∧(bif btw (List.length f.2:Int) 1 3 then (T2 (((∀ z0:ZaK,True∧True)∧∀ (_:ZaK→Bool) (_:List ZaK),true=true)∧(T3 (rB (!(List.any f.2 (fun z0:ZaK=>(!ZaZ z0)))) (ZbC f))))) else (T2 (rB false (ZbC f)))))))))) (by kernel_rfl) ?_
  simp only [Zdy,eq_self]
  repeat' (first | apply And.intro | intro _)
  all_goals first
    | trivial
    | omega
    | (simp_all [ZbC]; done)
def Zs3:Zat Tryz.prog:=⟨96,[.s ZcG],fun x=>True,fun x=>.c (.bool (ZbC x.1)),fun _=>[],fun x hx=>Zs2 x.1,Tryz.call96⟩
theorem ZFi {l:List ZaK} (h:∀ j,j < List.length l→ZaZ (Zav l j)=true):List.any l (fun z0:ZaK=>!ZaZ z0)=false:=Zgn (t:=Zak) (xs:=l) (p:=fun z0:ZaK=>!ZaZ z0) (fun j hj=>by show (!ZaZ (Zav l j))=false; rw [h j hj]; rfl)
theorem ZDe {l:List ZaK} {k:Nat} (hk:k < List.length l) (h:ZaZ (Zav l k)=false):List.any l (fun z0:ZaK=>!ZaZ z0)=true:=ZiB (t:=Zak) (xs:=l) (p:=fun z0:ZaK=>!ZaZ z0) hk (by show (!ZaZ (Zav l k))=true; rw [h]; rfl)
def Zs4 (f:Zby):Nat→List AV→Mem→Za3
  | 2,tm,M=>⟨Nat,fun y=>(Zb2 (Zcx tm [(2, .any),(3, .c (.int .i64 ((y:Nat):Int)))]) 4 14,M),fun y=>(y≤List.length f.2∧∀ j,j < y→ZaZ (Zav f.2 j)=true),fun y=>(List.length f.2 - y)⟩
  | _,_,_=>⟨Unit,fun _=>([],[]),fun _=>False,fun _=>0⟩
theorem Zs5 (f:Zby):Zai Tryz.prog 76 [.ag [.bool f.1, .hs .no Zak f.2]] (.c (.bool (ZbC f))) []:=by
  refine bc0 [ZxW,ZbW] [] [] [] (Zs4 f) Tryz.func76 (fun hwf=>?_)
  refine Eq.mpr (β:=(T3 ((∃ q:Nat,(q≤List.length f.2∧∀ j,j < q→ZaZ (Zav f.2 j)=true)∧((lxs [.ag [.bool f.1, .hs .no Zak f.2], .c (.bp 0 0)] (True∧vI 0 q∧TN 14 (tpn 11 True)))∧pt (lb (.box [.bool f.1, .hs .no Zak f.2])∧True)))∧∀ y0:Nat,(y0≤List.length f.2∧∀ j,j < y0→ZaZ (Zav f.2 j)=true)→(T5 (bif (ltI y0 (List.length f.2)) then (T3 ((ix 3 y0 (List.length f.2))∧(True∧((pt True)∧(True∧(bif (!(ZaZ (Zav f.2 y0))) then (True∧(rB false (ZbC f))) else (T3 (∃ y0' : Nat,(y0'≤List.length f.2∧∀ j,j < y0'→ZaZ (Zav f.2 j)=true)∧(List.length f.2 - y0') < (List.length f.2 - y0)∧((lxs [.ag [.bool f.1, .hs .no Zak f.2], .c (.bp 0 0)] (True∧vI (w64 ((y0:Int) + 1)) y0'∧TN 14 (tpn 11 True)))∧pt (lb (.box [.bool f.1, .hs .no Zak f.2])∧True)))))))))) else (T3 (bif (!f.1) then (T5 (rB (eqI (List.length f.2) 0) (ZbC f))) else (T3 ((pt True)∧(True∧(rB (btw (List.length f.2:Int) 1 3) (ZbC f)))))))))))) (by kernel_rfl) ?_
  unfold T3 T5
  have hm:List.length f.2≤maxLen:=hwf.1.2.1.1
  unfold maxLen at hm
  simp only [Zdy,eq_self]
  refine ⟨⟨0,⟨Nat.zero_le _,ZaH⟩,rfl⟩,fun k hk=>⟨fun hlt=>?_,fun hge=>?_⟩⟩
  · have hlt' : k < List.length f.2:=by omega
    refine ⟨by omega,fun p=>?_,fun p=>⟨k + 1,⟨by omega,ZaD hk.2 p⟩,by omega,Zbj (by unfold maxLen; omega)⟩⟩
    unfold ZbC
    rw [ZDe hlt' p]
    cases f.1 with
    | true=>simp
    | false=>simp [ZaB]; intro h; rw [h] at hlt'; cases hlt'
  · obtain rfl:k=List.length f.2:=by omega
    unfold ZbC
    rw [ZFi hk.2]
    cases f.1 <;> simp
def Zc0:Zat Tryz.prog:=⟨76,[.s ZcG],fun x=>True,fun x=>.c (.bool (ZbC x.1)),fun _=>[],fun x hx=>Zs5 x.1,Tryz.call76⟩
theorem ZFj (x:GIn):Zai Tryz.prog 98 [.ag [.str x.1, .bool x.2]] (.c (.bool (ZwC x))) []:=by
  refine bc0 [] [] [] [] L0 Tryz.func98 (fun hwf=>?_)
  exact Zve
def ZFk:Zat Tryz.prog:=⟨98,[.s ZAh],fun x=>True,fun x=>.c (.bool (ZwC x.1)),fun _=>[],fun x hx=>ZFj x.1,Tryz.call98⟩
theorem ZDf (x:ZpD):Zai Tryz.prog 93 [.ag [.str x.1, .str x.2]] (.c (.bool (outOk x))) []:=by
  refine bc0 [] [] [] [] L0 Tryz.func93 (fun hwf=>?_)
  exact Zu2
def ZDg:Zat Tryz.prog:=⟨93,[.s Zkl],fun x=>True,fun x=>.c (.bool (outOk x.1)),fun _=>[],fun x hx=>ZDf x.1,Tryz.call93⟩
theorem ZFl (x:GIn):Zai Tryz.prog 78 [.ag [.str x.1, .bool x.2]] (.c (.bool (ZwC x))) []:=by
  refine bc0 [] [] [] [] L0 Tryz.func78 (fun hwf=>?_)
  exact Zve
def ZgS:Zat Tryz.prog:=⟨78,[.s ZAh],fun x=>True,fun x=>.c (.bool (ZwC x.1)),fun _=>[],fun x hx=>ZFl x.1,Tryz.call78⟩
theorem ZDh (x:ZpD):Zai Tryz.prog 71 [.ag [.str x.1, .str x.2]] (.c (.bool (outOk x))) []:=by
  refine bc0 [] [] [] [] L0 Tryz.func71 (fun hwf=>?_)
  exact Zu2
def Zei:Zat Tryz.prog:=⟨71,[.s Zkl],fun x=>True,fun x=>.c (.bool (outOk x.1)),fun _=>[],fun x hx=>ZDh x.1,Tryz.call71⟩
theorem ZmX (s:ByteArray):Zai Tryz.prog 99 [.c (.str s)] (.c (.bool (ZbK s))) []:=by
  refine bc0 [ZDa] [] [] [] L0 Tryz.func99 (fun hwf=>?_)
  exact Zu8
def ZmY:Zat Tryz.prog:=⟨99,[.v ZaL],fun x=>True,fun x=>.c (.bool (ZbK x.1)),fun _=>[],fun x hx=>ZmX x.1,Tryz.call99⟩
theorem ZBb (s:ByteArray):Zai Tryz.prog 79 [.c (.str s)] (.c (.bool (ZbK s))) []:=by
  refine bc0 [ZDd] [] [] [] L0 Tryz.func79 (fun hwf=>?_)
  exact Zu8
def ZdX:Zat Tryz.prog:=⟨79,[.v ZaL],fun x=>True,fun x=>.c (.bool (ZbK x.1)),fun _=>[],fun x hx=>ZBb x.1,Tryz.call79⟩
end Go.Proofs.YtkompmgleojmlaaGreat
