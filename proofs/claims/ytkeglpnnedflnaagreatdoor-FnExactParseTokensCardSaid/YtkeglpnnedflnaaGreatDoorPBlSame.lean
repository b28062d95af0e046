import Derived.Test.YtkeglpnnedflnaaGreatDoorPBlLib
set_option linter.unusedSimpArgs false
set_option linter.unusedVariables false
set_option maxRecDepth 100000
set_option maxHeartbeats 4000000
namespace Go.Proofs.YtkeglpnnedflnaaGreatDoor
open Go.ChangeShapes Go.WideShapes Go.ChangeAt Go.RowKit Go.Joins Go.Deep
open GoRep (rep bulk)
theorem ZmA (a:GScope) (b:GScope):Zaq Tryz.prog 150 [.ag [.int .i64 a.1, .hs .no Zah a.2.1, .int .i64 a.2.2], .ag [.int .i64 b.1, .hs .no Zah b.2.1, .int .i64 b.2.2]] (.c (.bool (ZbI a b))) []:=by
 refine bc0 [ZeP] [] [] [] L0 Tryz.func150 (fun hwf=>?_)
 refine Eq.mpr (β:=T9 (bif eqI a.1 b.1 then T4 (pt True∧T2 (bif Za1 a.2.1 b.2.1 then T7 (rB (eqI a.2.2 b.2.2) (ZbI a b)) else T2 (rB false (ZbI a b)))) else T4 (rB false (ZbI a b)))) (by kernel_rfl) ?_
 exact ZkL
def ZmB:ZaD Tryz.prog:=⟨150,[.s Zae, .s Zae],fun x=>True,fun x=>.c (.bool (ZbI x.1 x.2.1)),fun _=>[],fun x hx=>ZmA x.1 x.2.1,Tryz.call150⟩
theorem ZDf {α:Type} {p:α→α→Bool} (h:∀ x y,p x y=true↔x=y):∀ {xs ys:List α},Zb5 p xs ys=true↔xs=ys
 | [],[]=>by simp [Zb5]
 | _ :: _,[]=>by simp [Zb5]
 | [],_ :: _=>by simp [Zb5]
 | x :: xs,y :: ys=>by simp [Zb5,h,ZDf h]
theorem ZiM {xs ys:List GScope}:Zb5 (fun x y:GScope=>ZbI x y) xs ys=true↔xs=ys:=ZDf (fun _ _=>Zf4)
theorem ZpP (a:GFilter) (b:GFilter):Zaq Tryz.prog 90 [.ag [.bool a.1, .hs .no Zae a.2], .ag [.bool b.1, .hs .no Zae b.2]] (.c (.bool (ZaT a b))) []:=by
 refine bc0 [ZmB] [] [Zb1] [] L0 Tryz.func90 (fun hwf=>?_)
 refine Eq.mpr (β:=T7 (some TypeDesc.bool=some TypeDesc.bool∧True∧bif eqO a.1 b.1 then T4 (((∀ z0 w0:GScope,True∧True)∧∀ (_:GScope→GScope→Bool) (_ _:List GScope),true=true)∧T2 (rB (Zb5 (fun z0 w0:GScope=>ZbI z0 w0) a.2 b.2) (ZaT a b))) else T2 (rB false (ZaT a b)))) (by kernel_rfl) ?_
 simp only [SIA,eq_self]
 repeat' (first | apply And.intro | intro _)
 all_goals (first | trivial | (rw [Bool.eq_iff_iff]; simp_all [Prod.ext_iff,EQA,ZiM]; done) | (simp_all [Prod.ext_iff,EQA,ZiM]; done) | omega)
def ZpQ:ZaD Tryz.prog:=⟨90,[.s ZbF, .s ZbF],fun x=>True,fun x=>.c (.bool (ZaT x.1 x.2.1)),fun _=>[],fun x hx=>ZpP x.1 x.2.1,Tryz.call90⟩
def Zx9 (a:List ByteArray) (b:List ByteArray):Nat→List AV→Mem→Zbe
 | 4,tm,M=>⟨Nat,fun y=>(Zcp (ZcG tm [(4, .any),(5, .c (.int .i64 ((y:Nat):Int)))]) 11 15,M),fun y=>(y≤List.length a∧∀ j,j < y→Zaa a j=Zaa b j),fun y=>(List.length a - y)⟩
 | _,_,_=>⟨Unit,fun _=>([],[]),fun _=>False,fun _=>0⟩
theorem Zya (a:List ByteArray) (b:List ByteArray):Zaq Tryz.prog 153 [.c (.hs .no Zah a), .c (.hs .no Zah b)] (.c (.bool (Za1 a b))) []:=by
 refine bc0 [] [] [] [] (Zx9 a b) Tryz.func153 (fun hwf=>?_)
 refine Eq.mpr (β:=T6 (bif neI a.length b.length then True∧rB false (Za1 a b) else True∧(∃ q:Nat,(q≤a.length∧∀ j,j < q→Zaa a j=Zaa b j)∧lxs [hn Zah a,hn Zah b, .tp [], .tp []] (True∧vI 0 q∧lxs [hn Zah a,ci a.length,hn Zah b,ci b.length, .c (.bool false)] (TN 15 True))∧pt (True))∧∀ y0:Nat,(y0≤a.length∧∀ j,j < y0→Zaa a j=Zaa b j)→T4 (bif ltI y0 a.length then pt (true=true)∧T2 (ix 1 y0 a.length∧T3 (ix 1 y0 b.length∧T2 (bif !eqS (Zaa a y0) (Zaa b y0) then True∧rB false (Za1 a b) else T3 (∃ y0' : Nat,(y0'≤a.length∧∀ j,j < y0'→Zaa a j=Zaa b j)∧(a.length - y0') < (a.length - y0)∧lxs [hn Zah a,hn Zah b, .tp [], .tp []] (True∧vI (w64 ((y0:Int) + 1)) y0'∧lxs [hn Zah a,ci a.length,hn Zah b,ci b.length, .c (.bool false)] (TN 15 True))∧pt (True))))) else True∧rB true (Za1 a b)))) (by kernel_rfl) ?_
 unfold T2 T3 T4 T6
 simp only [SIA,eq_self]
 have hm:List.length a≤maxLen:=hwf.1.1
 refine ⟨fun hl=>?_,fun hl=>⟨⟨0,⟨Nat.zero_le _,Zbp⟩,rfl⟩,fun k hk=>⟨fun hlt=>⟨by omega,by omega,fun hp=>?_,fun hp=>?_⟩,fun hge=>?_⟩⟩⟩
 ·exact (Zbx.2 (fun e=>hl (by rw [e]))).symm
 ·exact (Zbx.2 (fun e=>hp (by rw [e]))).symm
 ·exact ⟨k + 1,⟨by omega,Zcf hk.2 (hp)⟩,by omega,Zbm (by omega)⟩
 ·obtain rfl:k=List.length a:=by omega
  have hl' : List.length a=List.length b:=by omega
  exact (ZcE.2 (Zew (t:=Zah) hl' hk.2)).symm
def Zyb:ZaD Tryz.prog:=⟨153,[.v (.list Zah), .v (.list Zah)],fun x=>True,fun x=>.c (.bool (Za1 x.1 x.2.1)),fun _=>[],fun x hx=>Zya x.1 x.2.1,Tryz.call153⟩
def ZpR (a:GFilter) (b:GFilter):Nat→List AV→Mem→Zbe
 | 4,tm,M=>⟨Nat,fun y=>(Zcp (ZcG tm [(4, .any),(5, .c (.int .i64 ((y:Nat):Int)))]) 20 51,M),fun y=>(y≤List.length a.2∧∀ j,j < y→Zad a.2 j=Zad b.2 j),fun y=>(List.length a.2 - y)⟩
 | _,_,_=>⟨Unit,fun _=>([],[]),fun _=>False,fun _=>0⟩
def Zr9 (y0:Nat) (a:GFilter):Prop:=ix 3 y0 a.2.length
def Zsa (y0:Nat) (b:GFilter):Prop:=ix 3 y0 b.2.length
theorem ZpS (a:GFilter) (b:GFilter):Zaq Tryz.prog 93 [.ag [.bool a.1, .hs .no Zae a.2], .ag [.bool b.1, .hs .no Zae b.2]] (.c (.bool (ZaT a b))) []:=by
 refine bc0 [Zyb] [] [] [] (ZpR a b) Tryz.func93 (fun hwf=>?_)
 refine Eq.mpr (β:=T7 (some TypeDesc.bool=some TypeDesc.bool∧True∧bif !eqO a.1 b.1 then T2 (rB false (ZaT a b)) else T8 (bif neI a.2.length b.2.length then True∧rB false (ZaT a b) else True∧(∃ q:Nat,(q≤a.2.length∧∀ j,j < q→Zad a.2 j=Zad b.2 j)∧lxs [.ag [.bool a.1, .hs .no Zae a.2], .ag [.bool b.1, .hs .no Zae b.2], .c (.bp 0 0), .c (.bp 1 0)] (True∧vI 0 q∧lxs [.c (.bp 0 0), .c (.bool a.1), .c (.bp 1 0), .c (.bool b.1), .c (.bool (!eqO a.1 b.1)), .c (.bool false), .c (.bp 0 1),hn Zae a.2,ci a.2.length, .c (.bp 1 1),hn Zae b.2,ci b.2.length, .c (.bool (neI a.2.length b.2.length)), .c (.bool false)] (TN 51 True))∧pt (lb (.box [.bool a.1, .hs .no Zae a.2])∧lb (.box [.bool b.1, .hs .no Zae b.2])∧True))∧∀ y0:Nat,(y0≤a.2.length∧∀ j,j < y0→Zad a.2 j=Zad b.2 j)→T5 (bif ltI y0 a.2.length then pt (true=true)∧T3 (Zr9 y0 a∧T5 (Zsa y0 b∧T4 (bif neI (Zad a.2 y0).1 (Zad b.2 y0).1 then T4 (rB false (ZaT a b)) else T3 (Zr9 y0 a∧T5 (Zsa y0 b∧T5 (bif neI (Zad a.2 y0).2.2 (Zad b.2 y0).2.2 then T2 (rB false (ZaT a b)) else T3 (Zr9 y0 a∧T5 (Zsa y0 b∧T2 (pt True∧T2 (bif !(Za1 (Zad a.2 y0).2.1 (Zad b.2 y0).2.1) then True∧rB false (ZaT a b) else T3 (∃ y0' : Nat,(y0'≤a.2.length∧∀ j,j < y0'→Zad a.2 j=Zad b.2 j)∧(a.2.length - y0') < (a.2.length - y0)∧lxs [.ag [.bool a.1, .hs .no Zae a.2], .ag [.bool b.1, .hs .no Zae b.2], .c (.bp 0 0), .c (.bp 1 0)] (True∧vI (w64 ((y0:Int) + 1)) y0'∧lxs [.c (.bp 0 0), .c (.bool a.1), .c (.bp 1 0), .c (.bool b.1), .c (.bool (!eqO a.1 b.1)), .c (.bool false), .c (.bp 0 1),hn Zae a.2,ci a.2.length, .c (.bp 1 1),hn Zae b.2,ci b.2.length, .c (.bool (neI a.2.length b.2.length)), .c (.bool false)] (TN 51 True))∧pt (lb (.box [.bool a.1, .hs .no Zae a.2])∧lb (.box [.bool b.1, .hs .no Zae b.2])∧True)))))))))))) else True∧rB true (ZaT a b))))) (by kernel_rfl) ?_
 unfold Zsa Zr9 T2 T3 T4 T5 T7 T8
 simp only [SIA,eq_self]
 have hm0:List.length a.2≤maxLen:=hwf.1.2.1.1
 repeat' (first | apply And.intro | intro _)
 all_goals (first
  | trivial
  | omega
  | exact ⟨0,⟨Nat.zero_le _,Zbp⟩,rfl⟩
  | (refine ⟨_,⟨?_,Zcf (And.right (by assumption)) ?_⟩,?_,Zbm ?_⟩ <;> first | omega | (simp_all [Prod.ext_iff,EQA]; done))
  | exact (Zdc.2 (fun e=>by subst e; simp_all [EQA])).symm
  | exact (ZbX.2 (by have hx:=Zew (t:=Zae) (xs:=a.2) (ys:=b.2) (show List.length a.2=List.length b.2 by omega) (fun j hj=>(by assumption:_≤List.length a.2∧∀ j,j < _→Zad a.2 j=Zad b.2 j).2 j (by have hj' : j < List.length a.2:=hj; omega)); simp_all [Prod.ext_iff,EQA])).symm
  | (rw [Bool.eq_iff_iff]; simp_all [Prod.ext_iff,EQA]; done)
  | (simp_all [Prod.ext_iff,EQA]; done))
def ZpT:ZaD Tryz.prog:=⟨93,[.s ZbF, .s ZbF],fun x=>True,fun x=>.c (.bool (ZaT x.1 x.2.1)),fun _=>[],fun x hx=>ZpS x.1 x.2.1,Tryz.call93⟩
end Go.Proofs.YtkeglpnnedflnaaGreatDoor
