import Derived.Test.YtkeglpnnedflnaaGreatDoorPBlPt7
set_option linter.unusedSimpArgs false
set_option linter.unusedVariables false
set_option maxRecDepth 100000
set_option maxHeartbeats 4000000
namespace Go.Proofs.YtkeglpnnedflnaaGreatDoor
open Go.ChangeShapes Go.WideShapes Go.ChangeAt Go.RowKit Go.Joins Go.Deep
open GoRep (rep bulk)
theorem ZK5 {a1 a3 a4 a8 b1 b3 b4 b8:ByteArray} {a2 a6 a7 b2 b6 b7:Int} {a5 a9 b5 b9:Bool}:leB (.box [.str a1, .int .i64 a2, .str a3, .str a4, .bool a5, .raw (.slice none 0 0), .int .i64 a6, .int .i64 a7, .str a8, .bool a9, .raw (.slice none 0 0)]) (.box [.str b1, .int .i64 b2, .str b3, .str b4, .bool b5, .raw (.slice none 0 0), .int .i64 b6, .int .i64 b7, .str b8, .bool b9, .raw (.slice none 0 0)])=(a1=b1∧a2=b2∧a3=b3∧a4=b4∧a5=b5∧a6=b6∧a7=b7∧a8=b8∧a9=b9):=by
 exact Zu5
def s0y (list:List GToken) (y:Nat):GCommand:=(ZaA (list,0,false) 1,kdN (sW list) y,(⟨#[]⟩:ByteArray),(⟨#[]⟩:ByteArray),sU list,[],0,0,(⟨#[]⟩:ByteArray),(false,[]))
section
variable {list:List GToken} {y:Nat}
theorem ZPn (h:Zef list):ok6 (list,0,false):=ZLe h.1
theorem ZPo (h:Zef list):ok6 (sU1 list):=ZcI 1 (ZPn h)
theorem ZNZ (h:Zef list):ok6 (sU2 list):=ZcI 1 (ZPo h)
theorem ZPp (h:Zef list):ok6 (sR list):=by
 unfold sR
 split
 ·exact ZcI 1 (ZNZ h)
 ·exact ZNZ h
theorem ZQ1 (h:Zef list) {c:GCommand}:Ztb c (sR list):=⟨ZPp h,by rw [ZHd]; exact h⟩
theorem ZN0 (h:upT (ZaA (Zal (list,0,false) 1) 1)=(⟨#[85,73,68]⟩:ByteArray)):((Zal (Zal (Zal (list,0,false) 1) 1) 1).1,(Zal (Zal (Zal (list,0,false) 1) 1) 1).2.1,(Zal (Zal (Zal (list,0,false) 1) 1) 1).2.2)=((sR list).1,(sR list).2.1,(sR list).2.2)∧upT (ZaA (Zal (Zal (list,0,false) 1) 1) 1)=sW list∧true=sU list:=by
 have hU:sU list=true:=Zav.2 h
 refine ⟨?_,?_,hU.symm⟩
 ·show _=sR list
  unfold sR
  rw [if_pos hU]
  rfl
 ·unfold sW
  rw [if_pos hU]
  rfl
theorem ZN1 (h:¬ upT (ZaA (Zal (list,0,false) 1) 1)=(⟨#[85,73,68]⟩:ByteArray)):((Zal (Zal (list,0,false) 1) 1).1,(Zal (Zal (list,0,false) 1) 1).2.1,(Zal (Zal (list,0,false) 1) 1).2.2)=((sR list).1,(sR list).2.1,(sR list).2.2)∧upT (ZaA (Zal (list,0,false) 1) 1)=sW list∧false=sU list:=by
 have hU:sU list=false:=Zbc.2 h
 refine ⟨?_,?_,hU.symm⟩
 ·show _=sR list
  unfold sR
  rw [if_neg (by rw [hU]; decide)]
  rfl
 ·unfold sW
  rw [if_neg (by rw [hU]; decide)]
  rfl
theorem Zzi (hy:y≤15) (hge:¬ ((y + 1:Nat):Int)≤15):s0y list y=s0 list:=by
 obtain rfl:y=15:=by omega
 rfl
theorem ZK6 (h:sB list=false):sP list=z_C:=if_neg (by rw [h]; decide)
theorem ZQ2 (h:sB list=true):sP list=sC list:=if_pos h
theorem ZPq (h:(sR list).2.2=true):sB list=false:=by
 unfold sB
 rw [h]
 rfl
theorem ZPr (hy:y≤15) (hge:¬ ((y + 1:Nat):Int)≤15) (h:kdN (sW list) y=0):sB list=false:=by
 obtain rfl:y=15:=by omega
 unfold sB
 rw [Zc6.2 h,Bool.false_and,Bool.and_false]
theorem ZPs (hy:y≤15) (hge:¬ ((y + 1:Nat):Int)≤15) (h:(Zer (s0y list y) (sR list)).2.2=true):sB list=false:=by
 rw [Zzi hy hge] at h
 unfold sB
 rw [h]
 simp only [Bool.not_true,Bool.false_and,Bool.and_false]
theorem ZPt (hy:y≤15) (hge:¬ ((y + 1:Nat):Int)≤15) (h:(Zer (s0y list y) (sR list)).2.1 < ((list.length:Nat):Int)):sB list=false:=by
 rw [Zzi hy hge] at h
 unfold sB
 rw [ZbN.2 h]
 simp only [Bool.not_true,Bool.false_and,Bool.and_false]
theorem ZPu (hy:y≤15) (hge:¬ ((y + 1:Nat):Int)≤15) (h:ZbQ (Zbk (s0y list y) (sR list))=false):sB list=false:=by
 rw [Zzi hy hge] at h
 unfold sB sC
 rw [h]
 simp only [Bool.and_false]
theorem ZB5 (hy:y≤15) (hge:¬ ((y + 1:Nat):Int)≤15) (h1:(sR list).2.2=false) (h2:¬ kdN (sW list) y=0) (h3:(Zer (s0y list y) (sR list)).2.2=false) (h4:¬ (Zer (s0y list y) (sR list)).2.1 < ((list.length:Nat):Int)) (h5:ZbQ (Zbk (s0y list y) (sR list))=true):sB list=true∧Zbk (s0y list y) (sR list)=sP list:=by
 have e:=Zzi (list:=list) hy hge
 rw [e] at h3 h4 h5 ⊢
 obtain rfl:y=15:=by omega
 have hb:sB list=true:=by
  unfold sB sC
  rw [h1,h3,h5,Zbz.2 h4,Zcz.2 h2]
  rfl
 exact ⟨hb,(ZQ2 hb).symm⟩
theorem ZQ3 (h:((y + 1:Nat):Int)≤15) (e:upT (Za3 ((y + 1:Nat):Int))=sW list):∃ q:Nat,q≤15∧15 - q < 15 - y∧IntKind.wrap .i64 (((y + 1:Nat):Int) + 1)=((q + 1:Nat):Int)∧((y + 1:Nat):Int)=kdN (sW list) q:=⟨y + 1,by omega,by omega,Zbm (by unfold maxLen; omega),(if_pos (Zav.2 e)).symm⟩
theorem ZQ4 (h:((y + 1:Nat):Int)≤15) (e:¬ upT (Za3 ((y + 1:Nat):Int))=sW list):∃ q:Nat,q≤15∧15 - q < 15 - y∧IntKind.wrap .i64 (((y + 1:Nat):Int) + 1)=((q + 1:Nat):Int)∧kdN (sW list) y=kdN (sW list) q:=⟨y + 1,by omega,by omega,Zbm (by unfold maxLen; omega),(if_neg (fun q=>e (Zav.1 q))).symm⟩
theorem ZQ5:∃ q:Nat,q≤15∧(1:Int)=((q + 1:Nat):Int)∧(0:Int)=kdN (sW list) q:=⟨0,by decide,rfl,rfl⟩
theorem ZK7:(ZaA (list,0,false) 1,kdN (sW list) y,(⟨#[]⟩:ByteArray),(⟨#[]⟩:ByteArray),sU list,([]:List Zaj),(0:Int),(0:Int),(⟨#[]⟩:ByteArray),false,([]:List GScope))=s0y list y:=rfl
end
attribute [local irreducible] sR sW sU s0y Zer Zbk kdN Zal ZaA ok6 sB sP upT ZbQ Za3 Ztb Zef
def Znm (list:List GToken):Nat→List AV→Mem→Zbe
 | 1000005,tm,M=>⟨Unit,fun _=>(Zcp (ZcG tm [(6, .c (.str (sW list)))]) 18 5,ZgY M [(1, .box [.hs .no Zab (sR list).1, .int .i64 (sR list).2.1, .bool (sR list).2.2]),(2, .box [.str (ZaA (list,0,false) 1), .int .i64 0, .str (⟨#[]⟩:ByteArray), .str (⟨#[]⟩:ByteArray), .bool (sU list), .raw (.slice none 0 0), .int .i64 0, .int .i64 0, .str (⟨#[]⟩:ByteArray), .bool false, .raw (.slice none 0 0)])]),fun _=>True,fun _=>0⟩
 | 8,tm,M=>⟨Nat,fun y=>(Zcp (ZcG tm [(7, .c (.int .i64 ((y + 1:Nat):Int)))]) 23 11,ZgY M [(2, .box [.str (ZaA (list,0,false) 1), .int .i64 (kdN (sW list) y), .str (⟨#[]⟩:ByteArray), .str (⟨#[]⟩:ByteArray), .bool (sU list), .row 3 0, .int .i64 0, .int .i64 0, .str (⟨#[]⟩:ByteArray), .bool false, .row 4 0]),(3, .row Zai ([]:List Zaj) 0 0 none),(4, .row Zae ([]:List GScope) 0 0 none)]),fun y=>(y≤15),fun y=>(15 - y)⟩
 | _,_,_=>⟨Unit,fun _=>([],[]),fun _=>False,fun _=>0⟩
def Zlh (list:List GToken):Prop:=T3 (pt (((cS (⟨#[]⟩:ByteArray) (sP list).1∧cI 0 (sP list).2.1∧cS (⟨#[]⟩:ByteArray) (sP list).2.2.1∧cS (⟨#[]⟩:ByteArray) (sP list).2.2.2.1∧cB false (sP list).2.2.2.2.1∧(sP list).2.2.2.2.2.1=[]∧cI 0 (sP list).2.2.2.2.2.2.1∧cI 0 (sP list).2.2.2.2.2.2.2.1∧cS (⟨#[]⟩:ByteArray) (sP list).2.2.2.2.2.2.2.2.1∧cB false (sP list).2.2.2.2.2.2.2.2.2.1∧(sP list).2.2.2.2.2.2.2.2.2.2=[]∧True)∧cB false (sB list)∧True)))
def Zli (list:List GToken):List AC:=[.str (ZaA (list,(0,false)) 1), .int .i64 0, .str (⟨#[]⟩:ByteArray), .str (⟨#[]⟩:ByteArray), .bool false, .raw (.slice none 0 0), .int .i64 0, .int .i64 0, .str (⟨#[]⟩:ByteArray), .bool false, .raw (.slice none 0 0)]
def Zlj:List AC:=[.str (⟨#[]⟩:ByteArray), .int .i64 0, .str (⟨#[]⟩:ByteArray), .str (⟨#[]⟩:ByteArray), .bool false, .raw (.slice none 0 0), .int .i64 0, .int .i64 0, .str (⟨#[]⟩:ByteArray), .bool false, .raw (.slice none 0 0)]
def ZxM (y0:Nat) (y0' : Nat) (list:List GToken):Prop:=vI (w64 (((y0 + 1:Nat):Int) + 1)) ((y0' + 1:Nat):Int)∧lxs [hn Zab list, .ag [.hs .no Zab list, .int .i64 0, .bool false], .c (.bp 1 0), .c (.bp 1 0), .c (.str (ZaA (list,0,false) 1)), .ag (Zli list), .c (.bp 1 0), .c (.str (ZaA (Zal (list,0,false) 1) 1)), .c (.str (upT (ZaA (Zal (list,0,false) 1) 1))), .c (.str (upT (ZaA (Zal (list,0,false) 1) 1)))] (TN 16 (tpn 33 True))
def Zlk (list:List GToken):List AC:=[.hs .no Zab (sR list).1, .int .i64 (sR list).2.1, .bool (sR list).2.2]
def ZxN (list:List GToken):List AC:=[.str (ZaA (list,0,false) 1), .int .i64 0, .str (⟨#[]⟩:ByteArray), .str (⟨#[]⟩:ByteArray), .bool (sU list), .raw (.slice none 0 0), .int .i64 0, .int .i64 0, .str (⟨#[]⟩:ByteArray), .bool false, .raw (.slice none 0 0)]
def ZxO (list:List GToken) (y0' : Nat):List AC:=[.str (ZaA (list,0,false) 1), .int .i64 (kdN (sW list) y0'), .str (⟨#[]⟩:ByteArray), .str (⟨#[]⟩:ByteArray), .bool (sU list), .row 3 0, .int .i64 0, .int .i64 0, .str (⟨#[]⟩:ByteArray), .bool false, .row 4 0]
theorem Znn (list:List GToken) (hpre:Zef list):Zaq Tryz.prog 11 [.c (.hs .no Zab list)] (.tp [.ag [.str (sP list).1, .int .i64 (sP list).2.1, .str (sP list).2.2.1, .str (sP list).2.2.2.1, .bool (sP list).2.2.2.2.1, .row 0 0, .int .i64 (sP list).2.2.2.2.2.2.1, .int .i64 (sP list).2.2.2.2.2.2.2.1, .str (sP list).2.2.2.2.2.2.2.2.1, .bool (sP list).2.2.2.2.2.2.2.2.2.1, .row 1 0], .c (.bool (sB list))]) [.row Zai (sP list).2.2.2.2.2.1 0 0 none, .row Zae (sP list).2.2.2.2.2.2.2.2.2.2 0 0 none]:=by
 refine Zfc (T:=⟨[Zk2,ZsX,Zre],[],[],[Zih,ZA5],none,fun i=>match i with | 1000005=>[⟨some 0,0,Zao⟩] | 8=>[⟨some 2,5,Zai⟩,⟨some 2,10,Zae⟩] | _=>[],0,[],[]⟩) (L:=(Znm list)) Tryz.func11 ⟨⟨rfl,rfl⟩,rfl⟩ (fun hwf=>?_)
 refine Eq.mpr (β:=T7 (pt (ok6 (list,0,false)∧((true=true∧leC (.hs .no Zab list) (.hs .no Zab list))∧cI 0 0∧cB false false∧True)∧True)∧T4 (pt (ok6 (Zal (list,0,false) 1)∧((true=true∧leC (.hs .no Zab (Zal (list,0,false) 1).1) (.hs .no Zab (Zal (list,0,false) 1).1))∧cI (Zal (list,0,false) 1).2.1 (Zal (list,0,false) 1).2.1∧cB (Zal (list,0,false) 1).2.2 (Zal (list,0,false) 1).2.2∧True)∧True)∧pt True∧T3 ((bif eqS (upT (ZaA (Zal (list,0,false) 1) 1)) (⟨#[85,73,68]⟩:ByteArray) then T3 (pt (ok6 (Zal (Zal (list,0,false) 1) 1)∧((true=true∧leC (.hs .no Zab (Zal (Zal (list,0,false) 1) 1).1) (.hs .no Zab (Zal (Zal (list,0,false) 1) 1).1))∧cI (Zal (Zal (list,0,false) 1) 1).2.1 (Zal (Zal (list,0,false) 1) 1).2.1∧cB (Zal (Zal (list,0,false) 1) 1).2.2 (Zal (Zal (list,0,false) 1) 1).2.2∧True)∧True)∧pt True∧True∧(∃ _:Unit,True∧lxs [hn Zab list, .tp [], .c (.bp 0 0), .c (.bool false), .c (.bp 1 0), .c (.bp 2 0)] (leV (.c (.str (upT (ZaA (Zal (Zal (list,0,false) 1) 1) 1)))) (.c (.str (sW list)))∧lxs [.tp [],hn Zab list, .ag [.hs .no Zab list, .int .i64 0, .bool false], .c (.bp 1 0), .c (.bp 1 0), .c (.str (ZaA (list,0,false) 1)), .ag (Zli list), .c (.bp 1 0), .c (.str (ZaA (Zal (list,0,false) 1) 1)), .c (.str (upT (ZaA (Zal (list,0,false) 1) 1))), .c (.str (upT (ZaA (Zal (list,0,false) 1) 1)))] (TN 5 (tpn 44 True)))∧pt (lb (.box Zlj)∧leB (.box [.hs .no Zab (Zal (Zal (Zal (list,0,false) 1) 1) 1).1, .int .i64 (Zal (Zal (Zal (list,0,false) 1) 1) 1).2.1, .bool (Zal (Zal (Zal (list,0,false) 1) 1) 1).2.2]) (.box (Zlk list))∧leB (.box [.str (ZaA (list,0,false) 1), .int .i64 0, .str (⟨#[]⟩:ByteArray), .str (⟨#[]⟩:ByteArray), .bool true, .raw (.slice none 0 0), .int .i64 0, .int .i64 0, .str (⟨#[]⟩:ByteArray), .bool false, .raw (.slice none 0 0)]) (.box (ZxN list))∧True))) else (∃ _:Unit,True∧lxs [hn Zab list, .tp [], .c (.bp 0 0), .c (.bool false), .c (.bp 1 0), .c (.bp 2 0)] (leV (.c (.str (upT (ZaA (Zal (list,0,false) 1) 1)))) (.c (.str (sW list)))∧lxs [.tp [],hn Zab list, .ag [.hs .no Zab list, .int .i64 0, .bool false], .c (.bp 1 0), .c (.bp 1 0), .c (.str (ZaA (list,0,false) 1)), .ag (Zli list), .c (.bp 1 0), .c (.str (ZaA (Zal (list,0,false) 1) 1)), .c (.str (upT (ZaA (Zal (list,0,false) 1) 1))), .c (.str (upT (ZaA (Zal (list,0,false) 1) 1)))] (TN 5 (tpn 44 True)))∧pt (lb (.box Zlj)∧leB (.box [.hs .no Zab (Zal (Zal (list,0,false) 1) 1).1, .int .i64 (Zal (Zal (list,0,false) 1) 1).2.1, .bool (Zal (Zal (list,0,false) 1) 1).2.2]) (.box (Zlk list))∧leB (.box (Zli list)) (.box (ZxN list))∧True)))∧∀ _:Unit,True→True∧(∃ q:Nat,(q≤15)∧lxs [hn Zab list, .tp [], .c (.bp 0 0), .c (.bool false), .c (.bp 1 0), .c (.bp 2 0), .c (.str (sW list))] (vI 1 ((q + 1:Nat):Int)∧lxs [hn Zab list, .ag [.hs .no Zab list, .int .i64 0, .bool false], .c (.bp 1 0), .c (.bp 1 0), .c (.str (ZaA (list,0,false) 1)), .ag (Zli list), .c (.bp 1 0), .c (.str (ZaA (Zal (list,0,false) 1) 1)), .c (.str (upT (ZaA (Zal (list,0,false) 1) 1))), .c (.str (upT (ZaA (Zal (list,0,false) 1) 1)))] (TN 16 (tpn 33 True)))∧pt (lb (.box Zlj)∧lb (.box (Zlk list))∧leB (.box [.str (ZaA (list,0,false) 1), .int .i64 0, .str (⟨#[]⟩:ByteArray), .str (⟨#[]⟩:ByteArray), .bool (sU list), .row 3 0, .int .i64 0, .int .i64 0, .str (⟨#[]⟩:ByteArray), .bool false, .row 4 0]) (.box [.str (ZaA (list,0,false) 1), .int .i64 (kdN (sW list) q), .str (⟨#[]⟩:ByteArray), .str (⟨#[]⟩:ByteArray), .bool (sU list), .row 3 0, .int .i64 0, .int .i64 0, .str (⟨#[]⟩:ByteArray), .bool false, .row 4 0])∧lb (.row Zai ([]:List Zaj) 0 0 none)∧lb (.row Zae ([]:List GScope) 0 0 none)∧True))∧∀ y0:Nat,(y0≤15)→T2 (bif leI ((y0 + 1:Nat):Int) 15 then True∧pt True∧pt True∧T2 (bif eqS (upT (Za3 ((y0 + 1:Nat):Int))) (sW list) then T6 (∃ y0' : Nat,(y0'≤15)∧(15 - y0') < (15 - y0)∧lxs [hn Zab list, .tp [], .c (.bp 0 0), .c (.bool false), .c (.bp 1 0), .c (.bp 2 0), .c (.str (sW list))] (ZxM y0 y0' list)∧pt (lb (.box Zlj)∧lb (.box (Zlk list))∧leB (.box [.str (ZaA (list,0,false) 1), .int .i64 ((y0 + 1:Nat):Int), .str (⟨#[]⟩:ByteArray), .str (⟨#[]⟩:ByteArray), .bool (sU list), .row 3 0, .int .i64 0, .int .i64 0, .str (⟨#[]⟩:ByteArray), .bool false, .row 4 0]) (.box (ZxO list y0'))∧lb (.row Zai ([]:List Zaj) 0 0 none)∧lb (.row Zae ([]:List GScope) 0 0 none)∧True)) else T3 (∃ y0' : Nat,(y0'≤15)∧(15 - y0') < (15 - y0)∧lxs [hn Zab list, .tp [], .c (.bp 0 0), .c (.bool false), .c (.bp 1 0), .c (.bp 2 0), .c (.str (sW list))] (ZxM y0 y0' list)∧pt (lb (.box Zlj)∧lb (.box (Zlk list))∧leB (.box [.str (ZaA (list,0,false) 1), .int .i64 (kdN (sW list) y0), .str (⟨#[]⟩:ByteArray), .str (⟨#[]⟩:ByteArray), .bool (sU list), .row 3 0, .int .i64 0, .int .i64 0, .str (⟨#[]⟩:ByteArray), .bool false, .row 4 0]) (.box (ZxO list y0'))∧lb (.row Zai ([]:List Zaj) 0 0 none)∧lb (.row Zae ([]:List GScope) 0 0 none)∧True))) else T5 (bif (sR list).2.2 then True∧Zlh list else T4 (bif eqI (kdN (sW list) y0) 0 then Zlh list else T2 (pt (Ztb ((ZaA (list,0,false) 1),(kdN (sW list) y0),(⟨#[]⟩:ByteArray),(⟨#[]⟩:ByteArray),(sU list),([]:List Zaj),0,0,(⟨#[]⟩:ByteArray),false,([]:List GScope)) (sR list)∧((true=true∧leC (.hs .no Zab (sR list).1) (.hs .no Zab (sR list).1))∧cI (sR list).2.1 (sR list).2.1∧cB (sR list).2.2 (sR list).2.2∧True)∧(cS (ZaA (list,0,false) 1) (ZaA (list,0,false) 1)∧cI (kdN (sW list) y0) (kdN (sW list) y0)∧cS (⟨#[]⟩:ByteArray) (⟨#[]⟩:ByteArray)∧cS (⟨#[]⟩:ByteArray) (⟨#[]⟩:ByteArray)∧cB (sU list) (sU list)∧([]:List Zaj)=([]:List Zaj)∧cI 0 0∧cI 0 0∧cS (⟨#[]⟩:ByteArray) (⟨#[]⟩:ByteArray)∧cB false false∧([]:List GScope)=([]:List GScope)∧True)∧True)∧∀ r1:List Zaj,r1=([]:List Zaj)→∀ r2:List GScope,r2=([]:List GScope)→T6 (bif (Zer ((ZaA (list,0,false) 1),(kdN (sW list) y0),(⟨#[]⟩:ByteArray),(⟨#[]⟩:ByteArray),(sU list),([]:List Zaj),0,0,(⟨#[]⟩:ByteArray),false,([]:List GScope)) (sR list)).2.2 then T3 (Zlh list) else T9 (bif ltI (Zer ((ZaA (list,0,false) 1),(kdN (sW list) y0),(⟨#[]⟩:ByteArray),(⟨#[]⟩:ByteArray),(sU list),([]:List Zaj),0,0,(⟨#[]⟩:ByteArray),false,([]:List GScope)) (sR list)).2.1 list.length then True∧Zlh list else True∧(True∧pt (true=true))∧T2 (bif !(ZbQ (Zbk ((ZaA (list,0,false) 1),(kdN (sW list) y0),(⟨#[]⟩:ByteArray),(⟨#[]⟩:ByteArray),(sU list),([]:List Zaj),0,0,(⟨#[]⟩:ByteArray),false,([]:List GScope)) (sR list))) then Zlh list else T3 (pt (((cS (Zbk ((ZaA (list,0,false) 1),(kdN (sW list) y0),(⟨#[]⟩:ByteArray),(⟨#[]⟩:ByteArray),(sU list),([]:List Zaj),0,0,(⟨#[]⟩:ByteArray),false,([]:List GScope)) (sR list)).1 (sP list).1∧cI (Zbk ((ZaA (list,0,false) 1),(kdN (sW list) y0),(⟨#[]⟩:ByteArray),(⟨#[]⟩:ByteArray),(sU list),([]:List Zaj),0,0,(⟨#[]⟩:ByteArray),false,([]:List GScope)) (sR list)).2.1 (sP list).2.1∧cS (Zbk ((ZaA (list,0,false) 1),(kdN (sW list) y0),(⟨#[]⟩:ByteArray),(⟨#[]⟩:ByteArray),(sU list),([]:List Zaj),0,0,(⟨#[]⟩:ByteArray),false,([]:List GScope)) (sR list)).2.2.1 (sP list).2.2.1∧cS (Zbk ((ZaA (list,0,false) 1),(kdN (sW list) y0),(⟨#[]⟩:ByteArray),(⟨#[]⟩:ByteArray),(sU list),([]:List Zaj),0,0,(⟨#[]⟩:ByteArray),false,([]:List GScope)) (sR list)).2.2.2.1 (sP list).2.2.2.1∧cB (Zbk ((ZaA (list,0,false) 1),(kdN (sW list) y0),(⟨#[]⟩:ByteArray),(⟨#[]⟩:ByteArray),(sU list),([]:List Zaj),0,0,(⟨#[]⟩:ByteArray),false,([]:List GScope)) (sR list)).2.2.2.2.1 (sP list).2.2.2.2.1∧(Zbk ((ZaA (list,0,false) 1),(kdN (sW list) y0),(⟨#[]⟩:ByteArray),(⟨#[]⟩:ByteArray),(sU list),([]:List Zaj),0,0,(⟨#[]⟩:ByteArray),false,([]:List GScope)) (sR list)).2.2.2.2.2.1=(sP list).2.2.2.2.2.1∧cI (Zbk ((ZaA (list,0,false) 1),(kdN (sW list) y0),(⟨#[]⟩:ByteArray),(⟨#[]⟩:ByteArray),(sU list),([]:List Zaj),0,0,(⟨#[]⟩:ByteArray),false,([]:List GScope)) (sR list)).2.2.2.2.2.2.1 (sP list).2.2.2.2.2.2.1∧cI (Zbk ((ZaA (list,0,false) 1),(kdN (sW list) y0),(⟨#[]⟩:ByteArray),(⟨#[]⟩:ByteArray),(sU list),([]:List Zaj),0,0,(⟨#[]⟩:ByteArray),false,([]:List GScope)) (sR list)).2.2.2.2.2.2.2.1 (sP list).2.2.2.2.2.2.2.1∧cS (Zbk ((ZaA (list,0,false) 1),(kdN (sW list) y0),(⟨#[]⟩:ByteArray),(⟨#[]⟩:ByteArray),(sU list),([]:List Zaj),0,0,(⟨#[]⟩:ByteArray),false,([]:List GScope)) (sR list)).2.2.2.2.2.2.2.2.1 (sP list).2.2.2.2.2.2.2.2.1∧cB (Zbk ((ZaA (list,0,false) 1),(kdN (sW list) y0),(⟨#[]⟩:ByteArray),(⟨#[]⟩:ByteArray),(sU list),([]:List Zaj),0,0,(⟨#[]⟩:ByteArray),false,([]:List GScope)) (sR list)).2.2.2.2.2.2.2.2.2.1 (sP list).2.2.2.2.2.2.2.2.2.1∧(Zbk ((ZaA (list,0,false) 1),(kdN (sW list) y0),(⟨#[]⟩:ByteArray),(⟨#[]⟩:ByteArray),(sU list),([]:List Zaj),0,0,(⟨#[]⟩:ByteArray),false,([]:List GScope)) (sR list)).2.2.2.2.2.2.2.2.2.2=(sP list).2.2.2.2.2.2.2.2.2.2∧True)∧cB true (sB list)∧True)))))))))))))) (by kernel_rfl) ?_
 unfold ZxO ZxN Zlk ZxM Zlj Zli Zlh T2 T3 T4 T5 T6 T7 T9
 have h0:Zef list:=hpre
 simp only [ZK5,ZK7,Znp,Zzh,Zd9,ZeS,true_and,and_true,Zdj,eq_self]
 repeat' (with_reducible first | exact trivial | apply And.intro | intro _)
 all_goals first
  | (with_reducible trivial)
  | omega
  | (with_reducible assumption)
  | exact h0
  | exact ZPn h0
  | exact ZPo h0
  | exact ZNZ h0
  | exact ZPp h0
  | exact ZQ1 h0
  | exact ⟨(),(ZN0 (by with_reducible assumption)).2.1,(ZN0 (by with_reducible assumption)).1,(ZN0 (by with_reducible assumption)).2.2⟩
  | exact ⟨(),(ZN1 (by with_reducible assumption)).2.1,(ZN1 (by with_reducible assumption)).1,(ZN1 (by with_reducible assumption)).2.2⟩
  | exact ZQ5
  | exact ZQ3 (by with_reducible assumption) (by with_reducible assumption)
  | exact ZQ4 (by with_reducible assumption) (by with_reducible assumption)
  | (rw [ZK6 (ZPq (by with_reducible assumption))]; rfl)
  | exact (ZPq (by with_reducible assumption)).symm
  | (rw [ZK6 (ZPr (by with_reducible assumption) (by with_reducible assumption) (by with_reducible assumption))]; rfl)
  | exact (ZPr (by with_reducible assumption) (by with_reducible assumption) (by with_reducible assumption)).symm
  | (rw [ZK6 (ZPs (by with_reducible assumption) (by with_reducible assumption) (by with_reducible assumption))]; rfl)
  | exact (ZPs (by with_reducible assumption) (by with_reducible assumption) (by with_reducible assumption)).symm
  | (rw [ZK6 (ZPt (by with_reducible assumption) (by with_reducible assumption) (by with_reducible assumption))]; rfl)
  | exact (ZPt (by with_reducible assumption) (by with_reducible assumption) (by with_reducible assumption)).symm
  | (rw [ZK6 (ZPu (by with_reducible assumption) (by with_reducible assumption) (by with_reducible assumption))]; rfl)
  | exact (ZPu (by with_reducible assumption) (by with_reducible assumption) (by with_reducible assumption)).symm
  | exact (ZB5 (by with_reducible assumption) (by with_reducible assumption) (by with_reducible assumption) (by with_reducible assumption) (by with_reducible assumption) (by with_reducible assumption) (by with_reducible assumption)).1.symm
  | exact congrArg (fun z:GCommand=>z.1) ((ZB5 (by with_reducible assumption) (by with_reducible assumption) (by with_reducible assumption) (by with_reducible assumption) (by with_reducible assumption) (by with_reducible assumption) (by with_reducible assumption)).2)
  | exact congrArg (fun z:GCommand=>z.2.1) ((ZB5 (by with_reducible assumption) (by with_reducible assumption) (by with_reducible assumption) (by with_reducible assumption) (by with_reducible assumption) (by with_reducible assumption) (by with_reducible assumption)).2)
  | exact congrArg (fun z:GCommand=>z.2.2.1) ((ZB5 (by with_reducible assumption) (by with_reducible assumption) (by with_reducible assumption) (by with_reducible assumption) (by with_reducible assumption) (by with_reducible assumption) (by with_reducible assumption)).2)
  | exact congrArg (fun z:GCommand=>z.2.2.2.1) ((ZB5 (by with_reducible assumption) (by with_reducible assumption) (by with_reducible assumption) (by with_reducible assumption) (by with_reducible assumption) (by with_reducible assumption) (by with_reducible assumption)).2)
  | exact congrArg (fun z:GCommand=>z.2.2.2.2.1) ((ZB5 (by with_reducible assumption) (by with_reducible assumption) (by with_reducible assumption) (by with_reducible assumption) (by with_reducible assumption) (by with_reducible assumption) (by with_reducible assumption)).2)
  | exact congrArg (fun z:GCommand=>z.2.2.2.2.2.1) ((ZB5 (by with_reducible assumption) (by with_reducible assumption) (by with_reducible assumption) (by with_reducible assumption) (by with_reducible assumption) (by with_reducible assumption) (by with_reducible assumption)).2)
  | exact congrArg (fun z:GCommand=>z.2.2.2.2.2.2.1) ((ZB5 (by with_reducible assumption) (by with_reducible assumption) (by with_reducible assumption) (by with_reducible assumption) (by with_reducible assumption) (by with_reducible assumption) (by with_reducible assumption)).2)
  | exact congrArg (fun z:GCommand=>z.2.2.2.2.2.2.2.1) ((ZB5 (by with_reducible assumption) (by with_reducible assumption) (by with_reducible assumption) (by with_reducible assumption) (by with_reducible assumption) (by with_reducible assumption) (by with_reducible assumption)).2)
  | exact congrArg (fun z:GCommand=>z.2.2.2.2.2.2.2.2.1) ((ZB5 (by with_reducible assumption) (by with_reducible assumption) (by with_reducible assumption) (by with_reducible assumption) (by with_reducible assumption) (by with_reducible assumption) (by with_reducible assumption)).2)
  | exact congrArg (fun z:GCommand=>z.2.2.2.2.2.2.2.2.2.1) ((ZB5 (by with_reducible assumption) (by with_reducible assumption) (by with_reducible assumption) (by with_reducible assumption) (by with_reducible assumption) (by with_reducible assumption) (by with_reducible assumption)).2)
  | exact congrArg (fun z:GCommand=>z.2.2.2.2.2.2.2.2.2.2) ((ZB5 (by with_reducible assumption) (by with_reducible assumption) (by with_reducible assumption) (by with_reducible assumption) (by with_reducible assumption) (by with_reducible assumption) (by with_reducible assumption)).2)
def Zno:ZaD Tryz.prog:=⟨11,[.v (.list Zab)],fun x=>Zef x.1,fun x=>.tp [.ag [.str (sP x.1).1, .int .i64 (sP x.1).2.1, .str (sP x.1).2.2.1, .str (sP x.1).2.2.2.1, .bool (sP x.1).2.2.2.2.1, .row 0 0, .int .i64 (sP x.1).2.2.2.2.2.2.1, .int .i64 (sP x.1).2.2.2.2.2.2.2.1, .str (sP x.1).2.2.2.2.2.2.2.2.1, .bool (sP x.1).2.2.2.2.2.2.2.2.2.1, .row 1 0], .c (.bool (sB x.1))],fun x=>[.row Zai (sP x.1).2.2.2.2.2.1 0 0 none, .row Zae (sP x.1).2.2.2.2.2.2.2.2.2.2 0 0 none],fun x hx=>Znn x.1 hx,Tryz.call11⟩
end Go.Proofs.YtkeglpnnedflnaaGreatDoor
