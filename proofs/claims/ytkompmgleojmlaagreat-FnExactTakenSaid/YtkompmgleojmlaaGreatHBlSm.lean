import Derived.Test.YtkompmgleojmlaaGreatHBlLib
set_option linter.unusedSimpArgs false
set_option linter.unusedVariables false
set_option maxRecDepth 100000
set_option maxHeartbeats 4000000
namespace Go.Proofs.YtkompmgleojmlaaGreat
open Go.ChangeShapes Go.WideShapes Go.ChangeAt Go.RowKit Go.Joins Go.Deep
open GoRep (rep bulk)
theorem Zw0 (a:List ZbX) (b:List ZbX):Zam Tryz.prog 105 [.ag [.hs .no Zay a], .ag [.hs .no Zay b]] (.c (.bool (Zbw a b))) []:=by
 refine bc0 [Zge] [] [] [] L0 Tryz.func105 (fun hwf=>?_)
 refine Eq.mpr (β:=T7 (pt True∧True∧rB (Zbw a b) (Zbw a b))) (by kernel_rfl) ?_
 simp only [SIA,eq_self]
def ZnP:ZaC Tryz.prog:=⟨105,[.s (.list Zay), .s (.list Zay)],fun x=>True,fun x=>.c (.bool (Zbw x.1 x.2.1)),fun _=>[],fun x hx=>Zw0 x.1 x.2.1,Tryz.call105⟩
theorem ZuR (a:ZbH) (b:ZbH):Zam Tryz.prog 172 [.ag [.hs .no Zal a.1, .bool a.2.1, .bool a.2.2], .ag [.hs .no Zal b.1, .bool b.2.1, .bool b.2.2]] (.c (.bool (ZbY a b))) []:=by
 refine bc0 [Zgh] [] [] [] L0 Tryz.func172 (fun hwf=>?_)
 refine Eq.mpr (β:=T7 (pt True∧True∧bif Zdh a.1 b.1 then T4 (some TypeDesc.bool=some TypeDesc.bool∧T2 (bif eqO a.2.1 b.2.1 then T4 (some TypeDesc.bool=some TypeDesc.bool∧T2 (rB (eqO a.2.2 b.2.2) (ZbY a b))) else T2 (rB false (ZbY a b)))) else T4 (rB false (ZbY a b)))) (by kernel_rfl) ?_
 exact Zev
def Zmd:ZaC Tryz.prog:=⟨172,[.s Zdz, .s Zdz],fun x=>True,fun x=>.c (.bool (ZbY x.1 x.2.1)),fun _=>[],fun x hx=>ZuR x.1 x.2.1,Tryz.call172⟩
theorem Zou (a:ZaZ) (b:ZaZ):Zam Tryz.prog 239 [.ag [.int .i64 a.1, .hs .no ZaW a.2.1, .int .i64 a.2.2], .ag [.int .i64 b.1, .hs .no ZaW b.2.1, .int .i64 b.2.2]] (.c (.bool (ZcM a b))) []:=by
 refine bc0 [Zgk] [] [] [] L0 Tryz.func239 (fun hwf=>?_)
 refine Eq.mpr (β:=T9 (bif eqI a.1 b.1 then T4 (pt True∧T2 (bif ZbP a.2.1 b.2.1 then T7 (rB (eqI a.2.2 b.2.2) (ZcM a b)) else T2 (rB false (ZcM a b)))) else T4 (rB false (ZcM a b)))) (by kernel_rfl) ?_
 exact Zev
def Zov:ZaC Tryz.prog:=⟨239,[.s Zak, .s Zak],fun x=>True,fun x=>.c (.bool (ZcM x.1 x.2.1)),fun _=>[],fun x hx=>Zou x.1 x.2.1,Tryz.call239⟩
theorem ZCH {α:Type} {p:α→α→Bool} (h:∀ x y,p x y=true↔x=y):∀ {xs ys:List α},ZkR p xs ys=true↔xs=ys
 | [],[]=>by simp [ZkR]
 | _ :: _,[]=>by simp [ZkR]
 | [],_ :: _=>by simp [ZkR]
 | x :: xs,y :: ys=>by simp [ZkR,h,ZCH h]
theorem ZkY {xs ys:List ZaZ}:ZkR (fun x y:ZaZ=>ZcM x y) xs ys=true↔xs=ys:=ZCH (fun _ _=>ZhY)
theorem Zso (a:Zb3) (b:Zb3):Zam Tryz.prog 171 [.ag [.bool a.1, .hs .no Zak a.2], .ag [.bool b.1, .hs .no Zak b.2]] (.c (.bool (ZbK a b))) []:=by
 refine bc0 [Zov] [] [Zc4] [] L0 Tryz.func171 (fun hwf=>?_)
 refine Eq.mpr (β:=T7 (some TypeDesc.bool=some TypeDesc.bool∧True∧bif eqO a.1 b.1 then T4 (((∀ z0 w0:ZaZ,True∧True)∧∀ (_:ZaZ→ZaZ→Bool) (_ _:List ZaZ),true=true)∧T2 (rB (ZkR (fun z0 w0:ZaZ=>ZcM z0 w0) a.2 b.2) (ZbK a b))) else T2 (rB false (ZbK a b)))) (by kernel_rfl) ?_
 simp only [SIA,eq_self]
 repeat' (first | apply And.intro | intro _)
 all_goals (first | trivial | (rw [Bool.eq_iff_iff]; simp_all [Prod.ext_iff,EQA,ZkY]; done) | (simp_all [Prod.ext_iff,EQA,ZkY]; done) | omega)
def ZkZ:ZaC Tryz.prog:=⟨171,[.s Zdd, .s Zdd],fun x=>True,fun x=>.c (.bool (ZbK x.1 x.2.1)),fun _=>[],fun x hx=>Zso x.1 x.2.1,Tryz.call171⟩
def Zp1 (a:Zad) (b:Zad):Prop:=T4 (rB false (Zbk a b))
def Zp2 (a:Zad) (b:Zad):Prop:=T6 (Zp1 a b)
def Zp3 (a:Zad) (b:Zad):Prop:=T6 (Zp2 a b)
theorem Zp4 (a:Zad) (b:Zad):Zam Tryz.prog 94 [.ag (cellsOf Zae a), .ag (cellsOf Zae b)] (.c (.bool (Zbk a b))) []:=by
 refine bc0 [ZnP,ZkZ,Zmd] [] [] [] L0 Tryz.func94 (fun hwf=>?_)
 refine Eq.mpr (β:=T7 (some TypeDesc.bool=some TypeDesc.bool∧True∧bif eqO a.1 b.1 then T7 (bif eqI a.2.1 b.2.1 then T7 (bif eqI a.2.2.1 b.2.2.1 then T7 (bif eqI a.2.2.2.1 b.2.2.2.1 then T4 (pt True∧T2 (bif Zbw a.2.2.2.2.1 b.2.2.2.2.1 then T4 (pt True∧T2 (bif ZbK a.2.2.2.2.2.1 b.2.2.2.2.2.1 then T7 (bif eqS a.2.2.2.2.2.2.1 b.2.2.2.2.2.2.1 then T7 (bif eqS a.2.2.2.2.2.2.2.1 b.2.2.2.2.2.2.2.1 then T4 (pt True∧T2 (bif ZbY a.2.2.2.2.2.2.2.2.1 b.2.2.2.2.2.2.2.2.1 then T4 (true=true∧T2 (bif ZFc a.2.2.2.2.2.2.2.2.2.1 b.2.2.2.2.2.2.2.2.2.1 then T4 (true=true∧T2 (bif ZvD a.2.2.2.2.2.2.2.2.2.2.1 b.2.2.2.2.2.2.2.2.2.2.1 then T7 (rB (eqI a.2.2.2.2.2.2.2.2.2.2.2 b.2.2.2.2.2.2.2.2.2.2.2) (Zbk a b)) else T2 (rB false (Zbk a b)))) else Zp1 a b)) else T2 (Zp1 a b))) else T4 (Zp1 a b)) else Zp2 a b) else T2 (Zp2 a b))) else T4 (Zp2 a b))) else Zp3 a b) else T2 (Zp3 a b)) else T4 (Zp3 a b)) else T6 (Zp3 a b))) (by kernel_rfl) ?_
 unfold Zp3 Zp2 Zp1 T2 T4 T6 T7
 exact Zev
def Zp5:ZaC Tryz.prog:=⟨94,[.s Zae, .s Zae],fun x=>True,fun x=>.c (.bool (Zbk x.1 x.2.1)),fun _=>[],fun x hx=>Zp4 x.1 x.2.1,Tryz.call94⟩
def Zw1 (a:List ZbX) (b:List ZbX):Nat→List AV→Mem→Zbj
 | 4,tm,M=>⟨Nat,fun y=>(Zcn (ZcC tm [(4, .any),(5, .c (.int .i64 ((y:Nat):Int)))]) 13 18,M),fun y=>(y≤List.length a∧∀ j,j < y→ZaX a j=ZaX b j),fun y=>(List.length a - y)⟩
 | _,_,_=>⟨Unit,fun _=>([],[]),fun _=>False,fun _=>0⟩
theorem Zw2 (a:List ZbX) (b:List ZbX):Zam Tryz.prog 82 [.ag [.hs .no Zay a], .ag [.hs .no Zay b]] (.c (.bool (Zbw a b))) []:=by
 refine bc0 [] [] [] [] (Zw1 a b) Tryz.func82 (fun hwf=>?_)
 refine Eq.mpr (β:=T10 (bif neI a.length b.length then True∧rB false (Zbw a b) else True∧(∃ q:Nat,(q≤a.length∧∀ j,j < q→ZaX a j=ZaX b j)∧lxs [.ag [.hs .no Zay a], .ag [.hs .no Zay b], .c (.bp 0 0), .c (.bp 1 0)] (True∧vI 0 q∧lxs [.c (.bp 0 0),hn Zay a,ci a.length, .c (.bp 1 0),hn Zay b,ci b.length, .c (.bool false)] (TN 18 True))∧pt (lb (.box [.hs .no Zay a])∧lb (.box [.hs .no Zay b])∧True))∧∀ y0:Nat,(y0≤a.length∧∀ j,j < y0→ZaX a j=ZaX b j)→T5 (bif ltI y0 a.length then pt (true=true)∧T3 (ix 2 y0 a.length∧T4 (ix 2 y0 b.length∧True∧true=true∧bif !(ZoU (ZaX a y0) (ZaX b y0)) then True∧rB false (Zbw a b) else T3 (∃ y0' : Nat,(y0'≤a.length∧∀ j,j < y0'→ZaX a j=ZaX b j)∧(a.length - y0') < (a.length - y0)∧lxs [.ag [.hs .no Zay a], .ag [.hs .no Zay b], .c (.bp 0 0), .c (.bp 1 0)] (True∧vI (w64 ((y0:Int) + 1)) y0'∧lxs [.c (.bp 0 0),hn Zay a,ci a.length, .c (.bp 1 0),hn Zay b,ci b.length, .c (.bool false)] (TN 18 True))∧pt (lb (.box [.hs .no Zay a])∧lb (.box [.hs .no Zay b])∧True)))) else True∧rB true (Zbw a b)))) (by kernel_rfl) ?_
 unfold T10 T3 T4 T5
 simp only [SIA,eq_self]
 have hm:List.length a≤maxLen:=hwf.1.1.1
 refine ⟨fun hl=>?_,fun hl=>⟨⟨0,⟨Nat.zero_le _,Za7⟩,rfl⟩,fun k hk=>⟨fun hlt=>⟨by omega,by omega,fun hp=>?_,fun hp=>?_⟩,fun hge=>?_⟩⟩⟩
 ·exact (ZcB.2 (fun e=>hl (by rw [e]))).symm
 ·exact (ZcB.2 (fun e=>Zft.1 hp (by rw [e]))).symm
 ·exact ZAl
 ·obtain rfl:k=List.length a:=by omega
  have hl' : List.length a=List.length b:=by omega
  exact (Zer.2 (Zcq (t:=Zay) hl' hk.2)).symm
def ZnQ:ZaC Tryz.prog:=⟨82,[.s (.list Zay), .s (.list Zay)],fun x=>True,fun x=>.c (.bool (Zbw x.1 x.2.1)),fun _=>[],fun x hx=>Zw2 x.1 x.2.1,Tryz.call82⟩
def ZCI (a:List ByteArray) (b:List ByteArray):Nat→List AV→Mem→Zbj
 | 4,tm,M=>⟨Nat,fun y=>(Zcn (ZcC tm [(4, .any),(5, .c (.int .i64 ((y:Nat):Int)))]) 11 15,M),fun y=>(y≤List.length a∧∀ j,j < y→ZaF a j=ZaF b j),fun y=>(List.length a - y)⟩
 | _,_,_=>⟨Unit,fun _=>([],[]),fun _=>False,fun _=>0⟩
theorem ZCJ (a:List ByteArray) (b:List ByteArray):Zam Tryz.prog 221 [.c (.hs .no ZaW a), .c (.hs .no ZaW b)] (.c (.bool (ZbP a b))) []:=by
 refine bc0 [] [] [] [] (ZCI a b) Tryz.func221 (fun hwf=>?_)
 refine Eq.mpr (β:=T6 (bif neI a.length b.length then True∧rB false (ZbP a b) else True∧(∃ q:Nat,(q≤a.length∧∀ j,j < q→ZaF a j=ZaF b j)∧lxs [hn ZaW a,hn ZaW b, .tp [], .tp []] (True∧vI 0 q∧lxs [hn ZaW a,ci a.length,hn ZaW b,ci b.length, .c (.bool false)] (TN 15 True))∧pt (True))∧∀ y0:Nat,(y0≤a.length∧∀ j,j < y0→ZaF a j=ZaF b j)→T4 (bif ltI y0 a.length then pt (true=true)∧T2 (ix 1 y0 a.length∧T3 (ix 1 y0 b.length∧T2 (bif !eqS (ZaF a y0) (ZaF b y0) then True∧rB false (ZbP a b) else T3 (∃ y0' : Nat,(y0'≤a.length∧∀ j,j < y0'→ZaF a j=ZaF b j)∧(a.length - y0') < (a.length - y0)∧lxs [hn ZaW a,hn ZaW b, .tp [], .tp []] (True∧vI (w64 ((y0:Int) + 1)) y0'∧lxs [hn ZaW a,ci a.length,hn ZaW b,ci b.length, .c (.bool false)] (TN 15 True))∧pt (True))))) else True∧rB true (ZbP a b)))) (by kernel_rfl) ?_
 unfold T2 T3 T4 T6
 simp only [SIA,eq_self]
 have hm:List.length a≤maxLen:=hwf.1.1
 refine ⟨fun hl=>?_,fun hl=>⟨⟨0,⟨Nat.zero_le _,Za7⟩,rfl⟩,fun k hk=>⟨fun hlt=>⟨by omega,by omega,fun hp=>?_,fun hp=>?_⟩,fun hge=>?_⟩⟩⟩
 ·exact (Zcs.2 (fun e=>hl (by rw [e]))).symm
 ·exact (Zcs.2 (fun e=>hp (by rw [e]))).symm
 ·exact ⟨k + 1,⟨by omega,ZaY hk.2 (hp)⟩,by omega,ZbL (by omega)⟩
 ·obtain rfl:k=List.length a:=by omega
  have hl' : List.length a=List.length b:=by omega
  exact (ZdP.2 (Zcq (t:=ZaW) hl' hk.2)).symm
def ZCK:ZaC Tryz.prog:=⟨221,[.v (.list ZaW), .v (.list ZaW)],fun x=>True,fun x=>.c (.bool (ZbP x.1 x.2.1)),fun _=>[],fun x hx=>ZCJ x.1 x.2.1,Tryz.call221⟩
def ZuS (a:ZbH) (b:ZbH):Nat→List AV→Mem→Zbj
 | 4,tm,M=>⟨Nat,fun y=>(Zcn (ZcC tm [(4, .any),(5, .c (.int .i64 ((y:Nat):Int)))]) 27 18,M),fun y=>(y≤List.length a.1∧∀ j,j < y→Zaf a.1 j=Zaf b.1 j),fun y=>(List.length a.1 - y)⟩
 | _,_,_=>⟨Unit,fun _=>([],[]),fun _=>False,fun _=>0⟩
theorem ZuT (a:ZbH) (b:ZbH):Zam Tryz.prog 151 [.ag [.hs .no Zal a.1, .bool a.2.1, .bool a.2.2], .ag [.hs .no Zal b.1, .bool b.2.1, .bool b.2.2]] (.c (.bool (ZbY a b))) []:=by
 refine bc0 [] [] [] [] (ZuS a b) Tryz.func151 (fun hwf=>?_)
 refine Eq.mpr (β:=T7 (some TypeDesc.bool=some TypeDesc.bool∧True∧bif !eqO a.2.1 b.2.1 then T4 (rB false (ZbY a b)) else T4 (some TypeDesc.bool=some TypeDesc.bool∧T2 (bif !eqO a.2.2 b.2.2 then T2 (rB false (ZbY a b)) else T8 (bif neI a.1.length b.1.length then True∧rB false (ZbY a b) else True∧(∃ q:Nat,(q≤a.1.length∧∀ j,j < q→Zaf a.1 j=Zaf b.1 j)∧lxs [.ag [.hs .no Zal a.1, .bool a.2.1, .bool a.2.2], .ag [.hs .no Zal b.1, .bool b.2.1, .bool b.2.2], .c (.bp 0 0), .c (.bp 1 0)] (True∧vI 0 q∧lxs [.c (.bp 0 1), .c (.bool a.2.1), .c (.bp 1 1), .c (.bool b.2.1), .c (.bool (!eqO a.2.1 b.2.1)), .c (.bool false), .c (.bp 0 2), .c (.bool a.2.2), .c (.bp 1 2), .c (.bool b.2.2), .c (.bool (!eqO a.2.2 b.2.2)), .c (.bool (!eqO a.2.2 b.2.2)), .c (.bool false), .c (.bp 0 0),hn Zal a.1,ci a.1.length, .c (.bp 1 0),hn Zal b.1,ci b.1.length, .c (.bool (neI a.1.length b.1.length)), .c (.bool false)] (TN 18 True))∧pt (lb (.box [.hs .no Zal a.1, .bool a.2.1, .bool a.2.2])∧lb (.box [.hs .no Zal b.1, .bool b.2.1, .bool b.2.2])∧True))∧∀ y0:Nat,(y0≤a.1.length∧∀ j,j < y0→Zaf a.1 j=Zaf b.1 j)→T5 (bif ltI y0 a.1.length then pt (true=true)∧T3 (ix 4 y0 a.1.length∧T4 (ix 4 y0 b.1.length∧True∧true=true∧bif !(Zcx (Zaf a.1 y0) (Zaf b.1 y0)) then True∧rB false (ZbY a b) else T3 (∃ y0' : Nat,(y0'≤a.1.length∧∀ j,j < y0'→Zaf a.1 j=Zaf b.1 j)∧(a.1.length - y0') < (a.1.length - y0)∧lxs [.ag [.hs .no Zal a.1, .bool a.2.1, .bool a.2.2], .ag [.hs .no Zal b.1, .bool b.2.1, .bool b.2.2], .c (.bp 0 0), .c (.bp 1 0)] (True∧vI (w64 ((y0:Int) + 1)) y0'∧lxs [.c (.bp 0 1), .c (.bool a.2.1), .c (.bp 1 1), .c (.bool b.2.1), .c (.bool (!eqO a.2.1 b.2.1)), .c (.bool false), .c (.bp 0 2), .c (.bool a.2.2), .c (.bp 1 2), .c (.bool b.2.2), .c (.bool (!eqO a.2.2 b.2.2)), .c (.bool (!eqO a.2.2 b.2.2)), .c (.bool false), .c (.bp 0 0),hn Zal a.1,ci a.1.length, .c (.bp 1 0),hn Zal b.1,ci b.1.length, .c (.bool (neI a.1.length b.1.length)), .c (.bool false)] (TN 18 True))∧pt (lb (.box [.hs .no Zal a.1, .bool a.2.1, .bool a.2.2])∧lb (.box [.hs .no Zal b.1, .bool b.2.1, .bool b.2.2])∧True)))) else True∧rB true (ZbY a b))))))) (by kernel_rfl) ?_
 unfold T2 T3 T4 T5 T7 T8
 simp only [SIA,eq_self]
 have hm:List.length a.1≤maxLen:=hwf.1.1.1
 refine ⟨fun h1=>?_,fun h1=>⟨fun h2=>?_,fun h2=>⟨fun h3=>?_,fun h3=>⟨⟨0,⟨Nat.zero_le _,Za7⟩,rfl⟩,fun k hk=>⟨fun hlt=>⟨by omega,by omega,fun hp=>?_,fun hp=>?_⟩,fun hge=>?_⟩⟩⟩⟩⟩
 ·exact (ZcZ.2 (fun e=>h1 (by rw [e]))).symm
 ·exact (ZcZ.2 (fun e=>h2 (by rw [e]))).symm
 ·exact (ZcZ.2 (fun e=>h3 (by rw [e]))).symm
 ·exact (ZcZ.2 (fun e=>Zfw.1 hp (by rw [e]))).symm
 ·exact ZAk
 ·obtain rfl:k=List.length a.1:=by omega
  have hl' : List.length a.1=List.length b.1:=by omega
  have hx:=Zcq (t:=Zal) hl' hk.2
  exact (Zfx.2 (Prod.ext hx (Prod.ext h1 h2))).symm
def ZuU:ZaC Tryz.prog:=⟨151,[.s Zdz, .s Zdz],fun x=>True,fun x=>.c (.bool (ZbY x.1 x.2.1)),fun _=>[],fun x hx=>ZuT x.1 x.2.1,Tryz.call151⟩
def Zsp (a:Zb3) (b:Zb3):Nat→List AV→Mem→Zbj
 | 4,tm,M=>⟨Nat,fun y=>(Zcn (ZcC tm [(4, .any),(5, .c (.int .i64 ((y:Nat):Int)))]) 20 51,M),fun y=>(y≤List.length a.2∧∀ j,j < y→Zaq a.2 j=Zaq b.2 j),fun y=>(List.length a.2 - y)⟩
 | _,_,_=>⟨Unit,fun _=>([],[]),fun _=>False,fun _=>0⟩
def ZuV (y0:Nat) (a:Zb3):Prop:=ix 3 y0 a.2.length
def ZuW (y0:Nat) (b:Zb3):Prop:=ix 3 y0 b.2.length
theorem Zsq (a:Zb3) (b:Zb3):Zam Tryz.prog 150 [.ag [.bool a.1, .hs .no Zak a.2], .ag [.bool b.1, .hs .no Zak b.2]] (.c (.bool (ZbK a b))) []:=by
 refine bc0 [ZCK] [] [] [] (Zsp a b) Tryz.func150 (fun hwf=>?_)
 refine Eq.mpr (β:=T7 (some TypeDesc.bool=some TypeDesc.bool∧True∧bif !eqO a.1 b.1 then T2 (rB false (ZbK a b)) else T8 (bif neI a.2.length b.2.length then True∧rB false (ZbK a b) else True∧(∃ q:Nat,(q≤a.2.length∧∀ j,j < q→Zaq a.2 j=Zaq b.2 j)∧lxs [.ag [.bool a.1, .hs .no Zak a.2], .ag [.bool b.1, .hs .no Zak b.2], .c (.bp 0 0), .c (.bp 1 0)] (True∧vI 0 q∧lxs [.c (.bp 0 0), .c (.bool a.1), .c (.bp 1 0), .c (.bool b.1), .c (.bool (!eqO a.1 b.1)), .c (.bool false), .c (.bp 0 1),hn Zak a.2,ci a.2.length, .c (.bp 1 1),hn Zak b.2,ci b.2.length, .c (.bool (neI a.2.length b.2.length)), .c (.bool false)] (TN 51 True))∧pt (lb (.box [.bool a.1, .hs .no Zak a.2])∧lb (.box [.bool b.1, .hs .no Zak b.2])∧True))∧∀ y0:Nat,(y0≤a.2.length∧∀ j,j < y0→Zaq a.2 j=Zaq b.2 j)→T5 (bif ltI y0 a.2.length then pt (true=true)∧T3 (ZuV y0 a∧T5 (ZuW y0 b∧T4 (bif neI (Zaq a.2 y0).1 (Zaq b.2 y0).1 then T4 (rB false (ZbK a b)) else T3 (ZuV y0 a∧T5 (ZuW y0 b∧T5 (bif neI (Zaq a.2 y0).2.2 (Zaq b.2 y0).2.2 then T2 (rB false (ZbK a b)) else T3 (ZuV y0 a∧T5 (ZuW y0 b∧T2 (pt True∧T2 (bif !(ZbP (Zaq a.2 y0).2.1 (Zaq b.2 y0).2.1) then True∧rB false (ZbK a b) else T3 (∃ y0' : Nat,(y0'≤a.2.length∧∀ j,j < y0'→Zaq a.2 j=Zaq b.2 j)∧(a.2.length - y0') < (a.2.length - y0)∧lxs [.ag [.bool a.1, .hs .no Zak a.2], .ag [.bool b.1, .hs .no Zak b.2], .c (.bp 0 0), .c (.bp 1 0)] (True∧vI (w64 ((y0:Int) + 1)) y0'∧lxs [.c (.bp 0 0), .c (.bool a.1), .c (.bp 1 0), .c (.bool b.1), .c (.bool (!eqO a.1 b.1)), .c (.bool false), .c (.bp 0 1),hn Zak a.2,ci a.2.length, .c (.bp 1 1),hn Zak b.2,ci b.2.length, .c (.bool (neI a.2.length b.2.length)), .c (.bool false)] (TN 51 True))∧pt (lb (.box [.bool a.1, .hs .no Zak a.2])∧lb (.box [.bool b.1, .hs .no Zak b.2])∧True)))))))))))) else True∧rB true (ZbK a b))))) (by kernel_rfl) ?_
 unfold ZuW ZuV T2 T3 T4 T5 T7 T8
 simp only [SIA,eq_self]
 have hm0:List.length a.2≤maxLen:=hwf.1.2.1.1
 repeat' (first | apply And.intro | intro _)
 all_goals (first
  | trivial
  | omega
  | exact ⟨0,⟨Nat.zero_le _,Za7⟩,rfl⟩
  | (refine ⟨_,⟨?_,ZaY (And.right (by assumption)) ?_⟩,?_,ZbL ?_⟩ <;> first | omega | (simp_all [Prod.ext_iff,EQA]; done))
  | exact (Zew.2 (fun e=>by subst e; simp_all [EQA])).symm
  | exact (ZeQ.2 (by have hx:=Zcq (t:=Zak) (xs:=a.2) (ys:=b.2) (show List.length a.2=List.length b.2 by omega) (fun j hj=>(by assumption:_≤List.length a.2∧∀ j,j < _→Zaq a.2 j=Zaq b.2 j).2 j (by have hj' : j < List.length a.2:=hj; omega)); simp_all [Prod.ext_iff,EQA])).symm
  | (rw [Bool.eq_iff_iff]; simp_all [Prod.ext_iff,EQA]; done)
  | (simp_all [Prod.ext_iff,EQA]; done))
def Zsr:ZaC Tryz.prog:=⟨150,[.s Zdd, .s Zdd],fun x=>True,fun x=>.c (.bool (ZbK x.1 x.2.1)),fun _=>[],fun x hx=>Zsq x.1 x.2.1,Tryz.call150⟩
def Zp6 (a:Zad) (b:Zad):Prop:=T4 (rB false (Zbk a b))
def Zp7 (a:Zad) (b:Zad):Prop:=T6 (Zp6 a b)
def Zp8 (a:Zad) (b:Zad):Prop:=T6 (Zp7 a b)
theorem Zp9 (a:Zad) (b:Zad):Zam Tryz.prog 72 [.ag (cellsOf Zae a), .ag (cellsOf Zae b)] (.c (.bool (Zbk a b))) []:=by
 refine bc0 [ZnQ,Zsr,ZuU] [] [] [] L0 Tryz.func72 (fun hwf=>?_)
 refine Eq.mpr (β:=T7 (some TypeDesc.bool=some TypeDesc.bool∧True∧bif eqO a.1 b.1 then T7 (bif eqI a.2.1 b.2.1 then T7 (bif eqI a.2.2.1 b.2.2.1 then T7 (bif eqI a.2.2.2.1 b.2.2.2.1 then T4 (pt True∧T2 (bif Zbw a.2.2.2.2.1 b.2.2.2.2.1 then T4 (pt True∧T2 (bif ZbK a.2.2.2.2.2.1 b.2.2.2.2.2.1 then T7 (bif eqS a.2.2.2.2.2.2.1 b.2.2.2.2.2.2.1 then T7 (bif eqS a.2.2.2.2.2.2.2.1 b.2.2.2.2.2.2.2.1 then T4 (pt True∧T2 (bif ZbY a.2.2.2.2.2.2.2.2.1 b.2.2.2.2.2.2.2.2.1 then T4 (true=true∧T2 (bif ZFc a.2.2.2.2.2.2.2.2.2.1 b.2.2.2.2.2.2.2.2.2.1 then T4 (true=true∧T2 (bif ZvD a.2.2.2.2.2.2.2.2.2.2.1 b.2.2.2.2.2.2.2.2.2.2.1 then T7 (rB (eqI a.2.2.2.2.2.2.2.2.2.2.2 b.2.2.2.2.2.2.2.2.2.2.2) (Zbk a b)) else T2 (rB false (Zbk a b)))) else Zp6 a b)) else T2 (Zp6 a b))) else T4 (Zp6 a b)) else Zp7 a b) else T2 (Zp7 a b))) else T4 (Zp7 a b))) else Zp8 a b) else T2 (Zp8 a b)) else T4 (Zp8 a b)) else T6 (Zp8 a b))) (by kernel_rfl) ?_
 unfold Zp8 Zp7 Zp6 T2 T4 T6 T7
 exact Zev
def ZgN:ZaC Tryz.prog:=⟨72,[.s Zae, .s Zae],fun x=>True,fun x=>.c (.bool (Zbk x.1 x.2.1)),fun _=>[],fun x hx=>Zp9 x.1 x.2.1,Tryz.call72⟩
theorem ZCL (a:ZaM) (b:ZaM):Zam Tryz.prog 170 [.ag (cellsOf Zaj a), .ag (cellsOf Zaj b)] (.c (.bool (Zcr a b))) []:=by
 refine bc0 [Zhl] [] [] [] L0 Tryz.func170 (fun hwf=>?_)
 refine Eq.mpr (β:=T9 (bif eqS a.1 b.1 then T7 (bif eqI a.2.1 b.2.1 then T7 (bif eqI a.2.2.1 b.2.2.1 then T4 (pt True∧T2 (rB (Zd0 a.2.2.2 b.2.2.2) (Zcr a b))) else T2 (rB false (Zcr a b))) else T4 (rB false (Zcr a b))) else T6 (rB false (Zcr a b)))) (by kernel_rfl) ?_
 exact Zev
def ZCM:ZaC Tryz.prog:=⟨170,[.s Zaj, .s Zaj],fun x=>True,fun x=>.c (.bool (Zcr x.1 x.2.1)),fun _=>[],fun x hx=>ZCL x.1 x.2.1,Tryz.call170⟩
theorem Zw3 {xs ys:List ZaM}:ZkR (fun x y:ZaM=>Zcr x y) xs ys=true↔xs=ys:=ZCH (fun _ _=>ZfG)
theorem ZuX (a:List ZaM) (b:List ZaM):Zam Tryz.prog 90 [.c (.hs .no Zaj a), .c (.hs .no Zaj b)] (.c (.bool (Zcb a b))) []:=by
 refine bc0 [ZCM] [] [ZdL] [] L0 Tryz.func90 (fun hwf=>?_)
 refine Eq.mpr (β:=T3 (((∀ z0 w0:ZaM,True∧True)∧∀ (_:ZaM→ZaM→Bool) (_ _:List ZaM),true=true)∧True∧rB (ZkR (fun z0 w0:ZaM=>Zcr z0 w0) a b) (Zcb a b))) (by kernel_rfl) ?_
 simp only [SIA,eq_self]
 refine ⟨⟨fun _ _=>trivial,fun _ _ _=>trivial⟩,?_⟩
 rw [Bool.eq_iff_iff,Zw3,Zdg]
def ZuY:ZaC Tryz.prog:=⟨90,[.v (.list Zaj), .v (.list Zaj)],fun x=>True,fun x=>.c (.bool (Zcb x.1 x.2.1)),fun _=>[],fun x hx=>ZuX x.1 x.2.1,Tryz.call90⟩
def ZCN (a:ZaM) (b:ZaM):Nat→List AV→Mem→Zbj
 | 4,tm,M=>⟨Nat,fun y=>(Zcn (ZcC tm [(4, .any),(5, .c (.int .i64 ((y:Nat):Int)))]) 34 18,M),fun y=>(y≤List.length a.2.2.2∧∀ j,j < y→ZaG a.2.2.2 j=ZaG b.2.2.2 j),fun y=>(List.length a.2.2.2 - y)⟩
 | _,_,_=>⟨Unit,fun _=>([],[]),fun _=>False,fun _=>0⟩
def ZCO (a:ZaM) (b:ZaM):Prop:=lb (.box [.str a.1, .int .i64 a.2.1, .int .i64 a.2.2.1, .hs .no ZaU a.2.2.2])∧lb (.box [.str b.1, .int .i64 b.2.1, .int .i64 b.2.2.1, .hs .no ZaU b.2.2.2])∧True
theorem ZCP (a:ZaM) (b:ZaM):Zam Tryz.prog 149 [.ag (cellsOf Zaj a), .ag (cellsOf Zaj b)] (.c (.bool (Zcr a b))) []:=by
 refine bc0 [] [] [] [] (ZCN a b) Tryz.func149 (fun hwf=>?_)
 refine Eq.mpr (β:=T9 (bif !eqS a.1 b.1 then T6 (rB false (Zcr a b)) else T7 (bif neI a.2.1 b.2.1 then T4 (rB false (Zcr a b)) else T7 (bif neI a.2.2.1 b.2.2.1 then T2 (rB false (Zcr a b)) else T8 (bif neI a.2.2.2.length b.2.2.2.length then True∧rB false (Zcr a b) else True∧(∃ q:Nat,(q≤a.2.2.2.length∧∀ j,j < q→ZaG a.2.2.2 j=ZaG b.2.2.2 j)∧lxs [.ag [.str a.1, .int .i64 a.2.1, .int .i64 a.2.2.1, .hs .no ZaU a.2.2.2], .ag [.str b.1, .int .i64 b.2.1, .int .i64 b.2.2.1, .hs .no ZaU b.2.2.2], .c (.bp 0 0), .c (.bp 1 0)] (True∧vI 0 q∧lxs [.c (.bp 0 0), .c (.str a.1), .c (.bp 1 0), .c (.str b.1), .c (.bool (!eqS a.1 b.1)), .c (.bool false), .c (.bp 0 1),ci a.2.1, .c (.bp 1 1),ci b.2.1, .c (.bool (neI a.2.1 b.2.1)), .c (.bool (neI a.2.1 b.2.1)), .c (.bool false), .c (.bp 0 2),ci a.2.2.1, .c (.bp 1 2),ci b.2.2.1, .c (.bool (neI a.2.2.1 b.2.2.1)), .c (.bool (neI a.2.2.1 b.2.2.1)), .c (.bool false), .c (.bp 0 3),hn ZaU a.2.2.2,ci a.2.2.2.length, .c (.bp 1 3),hn ZaU b.2.2.2,ci b.2.2.2.length, .c (.bool (neI a.2.2.2.length b.2.2.2.length)), .c (.bool false)] (TN 18 True))∧pt (ZCO a b))∧∀ y0:Nat,(y0≤a.2.2.2.length∧∀ j,j < y0→ZaG a.2.2.2 j=ZaG b.2.2.2 j)→T5 (bif ltI y0 a.2.2.2.length then pt (true=true)∧T3 (ix 3 y0 a.2.2.2.length∧T4 (ix 3 y0 b.2.2.2.length∧True∧true=true∧bif !(ZvC (ZaG a.2.2.2 y0) (ZaG b.2.2.2 y0)) then True∧rB false (Zcr a b) else T3 (∃ y0' : Nat,(y0'≤a.2.2.2.length∧∀ j,j < y0'→ZaG a.2.2.2 j=ZaG b.2.2.2 j)∧(a.2.2.2.length - y0') < (a.2.2.2.length - y0)∧lxs [.ag [.str a.1, .int .i64 a.2.1, .int .i64 a.2.2.1, .hs .no ZaU a.2.2.2], .ag [.str b.1, .int .i64 b.2.1, .int .i64 b.2.2.1, .hs .no ZaU b.2.2.2], .c (.bp 0 0), .c (.bp 1 0)] (True∧vI (w64 ((y0:Int) + 1)) y0'∧lxs [.c (.bp 0 0), .c (.str a.1), .c (.bp 1 0), .c (.str b.1), .c (.bool (!eqS a.1 b.1)), .c (.bool false), .c (.bp 0 1),ci a.2.1, .c (.bp 1 1),ci b.2.1, .c (.bool (neI a.2.1 b.2.1)), .c (.bool (neI a.2.1 b.2.1)), .c (.bool false), .c (.bp 0 2),ci a.2.2.1, .c (.bp 1 2),ci b.2.2.1, .c (.bool (neI a.2.2.1 b.2.2.1)), .c (.bool (neI a.2.2.1 b.2.2.1)), .c (.bool false), .c (.bp 0 3),hn ZaU a.2.2.2,ci a.2.2.2.length, .c (.bp 1 3),hn ZaU b.2.2.2,ci b.2.2.2.length, .c (.bool (neI a.2.2.2.length b.2.2.2.length)), .c (.bool false)] (TN 18 True))∧pt (ZCO a b)))) else True∧rB true (Zcr a b))))))) (by kernel_rfl) ?_
 unfold ZCO T2 T3 T4 T5 T6 T7 T8 T9
 simp only [SIA,eq_self]
 have hm:List.length a.2.2.2≤maxLen:=hwf.1.2.2.2.1.1
 refine ⟨fun h1=>?_,fun h1=>⟨fun h2=>?_,fun h2=>⟨fun h3=>?_,fun h3=>⟨fun h4=>?_,fun h4=>⟨⟨0,⟨Nat.zero_le _,Za7⟩,rfl⟩,fun k hk=>⟨fun hlt=>⟨by omega,by omega,fun hp=>?_,fun hp=>?_⟩,fun hge=>?_⟩⟩⟩⟩⟩⟩
 ·exact (ZcS.2 (fun e=>h1 (by rw [e]))).symm
 ·exact (ZcS.2 (fun e=>h2 (by rw [e]))).symm
 ·exact (ZcS.2 (fun e=>h3 (by rw [e]))).symm
 ·exact (ZcS.2 (fun e=>h4 (by rw [e]))).symm
 ·exact (ZcS.2 (fun e=>Zgr.1 hp (by rw [e]))).symm
 ·exact ZAm
 ·obtain rfl:k=List.length a.2.2.2:=by omega
  have hl' : List.length a.2.2.2=List.length b.2.2.2:=by omega
  have hx:=Zcq (t:=ZaU) hl' hk.2
  exact (ZfG.2 (Prod.ext h1 (Prod.ext h2 (Prod.ext h3 hx)))).symm
def ZCQ:ZaC Tryz.prog:=⟨149,[.s Zaj, .s Zaj],fun x=>True,fun x=>.c (.bool (Zcr x.1 x.2.1)),fun _=>[],fun x hx=>ZCP x.1 x.2.1,Tryz.call149⟩
def ZuZ (a:List ZaM) (b:List ZaM):Nat→List AV→Mem→Zbj
 | 4,tm,M=>⟨Nat,fun y=>(Zcn (ZcC tm [(4, .any),(5, .c (.int .i64 ((y:Nat):Int)))]) 11 16,M),fun y=>(y≤List.length a∧∀ j,j < y→Zab a j=Zab b j),fun y=>(List.length a - y)⟩
 | _,_,_=>⟨Unit,fun _=>([],[]),fun _=>False,fun _=>0⟩
theorem Zu0 (a:List ZaM) (b:List ZaM):Zam Tryz.prog 70 [.c (.hs .no Zaj a), .c (.hs .no Zaj b)] (.c (.bool (Zcb a b))) []:=by
 refine bc0 [ZCQ] [] [] [] (ZuZ a b) Tryz.func70 (fun hwf=>?_)
 refine Eq.mpr (β:=T6 (bif neI a.length b.length then True∧rB false (Zcb a b) else True∧(∃ q:Nat,(q≤a.length∧∀ j,j < q→Zab a j=Zab b j)∧lxs [hn Zaj a,hn Zaj b, .tp [], .tp []] (True∧vI 0 q∧lxs [hn Zaj a,ci a.length,hn Zaj b,ci b.length, .c (.bool false)] (TN 16 True))∧pt (True))∧∀ y0:Nat,(y0≤a.length∧∀ j,j < y0→Zab a j=Zab b j)→T4 (bif ltI y0 a.length then pt (true=true)∧T2 (ix 4 y0 a.length∧T3 (ix 4 y0 b.length∧True∧pt True∧True∧bif !(Zcr (Zab a y0) (Zab b y0)) then True∧rB false (Zcb a b) else T3 (∃ y0' : Nat,(y0'≤a.length∧∀ j,j < y0'→Zab a j=Zab b j)∧(a.length - y0') < (a.length - y0)∧lxs [hn Zaj a,hn Zaj b, .tp [], .tp []] (True∧vI (w64 ((y0:Int) + 1)) y0'∧lxs [hn Zaj a,ci a.length,hn Zaj b,ci b.length, .c (.bool false)] (TN 16 True))∧pt (True)))) else True∧rB true (Zcb a b)))) (by kernel_rfl) ?_
 unfold T2 T3 T4 T6
 simp only [SIA,eq_self]
 have hm:List.length a≤maxLen:=hwf.1.1
 refine ⟨fun h1=>?_,fun h1=>⟨⟨0,⟨Nat.zero_le _,Za7⟩,rfl⟩,fun k hk=>⟨fun hlt=>⟨by omega,by omega,fun hp=>?_,fun hp=>?_⟩,fun hge=>?_⟩⟩⟩
 ·exact (eqT_LBox_false.2 (fun e=>h1 (by rw [e]))).symm
 ·exact (eqT_LBox_false.2 (fun e=>ZcS.1 hp (by rw [e]))).symm
 ·exact ⟨k + 1,⟨by omega,ZaY hk.2 (ZfG.1 hp)⟩,by omega,ZbL (by omega)⟩
 ·obtain rfl:k=List.length a:=by omega
  have hl' : List.length a=List.length b:=by omega
  have hx:=Zcq (t:=Zaj) hl' hk.2
  exact (Zdg.2 (hx)).symm
def Zu1:ZaC Tryz.prog:=⟨70,[.v (.list Zaj), .v (.list Zaj)],fun x=>True,fun x=>.c (.bool (Zcb x.1 x.2.1)),fun _=>[],fun x hx=>Zu0 x.1 x.2.1,Tryz.call70⟩
end Go.Proofs.YtkompmgleojmlaaGreat
