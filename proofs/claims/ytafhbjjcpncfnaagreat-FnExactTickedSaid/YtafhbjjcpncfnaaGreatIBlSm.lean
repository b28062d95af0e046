import Derived.Test.YtafhbjjcpncfnaaGreatIBlLib
set_option linter.unusedSimpArgs false
set_option linter.unusedVariables false
set_option maxRecDepth 100000
set_option maxHeartbeats 4000000
namespace Go.Proofs.YtafhbjjcpncfnaaGreat
open Go.ChangeShapes Go.WideShapes Go.ChangeAt Go.RowKit Go.Joins Go.Deep
open GoRep (rep bulk)
theorem ZwV (a:List ZbT) (b:List ZbT):Zao Tryz.prog 123 [.ag [.hs .no Zay a], .ag [.hs .no Zay b]] (.c (.bool (Zbt a b))) []:=by
 refine bc0 [Zgc] [] [] [] L0 Tryz.func123 (fun hwf=>?_)
 refine Eq.mpr (β:=T7 (pt True∧True∧rB (Zbt a b) (Zbt a b))) (by kernel_rfl) ?_
 simp only [SIA,eq_self]
def ZnN:ZaE Tryz.prog:=⟨123,[.s (.list Zay), .s (.list Zay)],fun x=>True,fun x=>.c (.bool (Zbt x.1 x.2.1)),fun _=>[],fun x hx=>ZwV x.1 x.2.1,Tryz.call123⟩
theorem ZuF (a:ZbH) (b:ZbH):Zao Tryz.prog 171 [.ag [.hs .no Zal a.1, .bool a.2.1, .bool a.2.2], .ag [.hs .no Zal b.1, .bool b.2.1, .bool b.2.2]] (.c (.bool (ZbV a b))) []:=by
 refine bc0 [Zgf] [] [] [] L0 Tryz.func171 (fun hwf=>?_)
 refine Eq.mpr (β:=T7 (pt True∧True∧bif Zdh a.1 b.1 then T4 (some TypeDesc.bool=some TypeDesc.bool∧T2 (bif eqO a.2.1 b.2.1 then T4 (some TypeDesc.bool=some TypeDesc.bool∧T2 (rB (eqO a.2.2 b.2.2) (ZbV a b))) else T2 (rB false (ZbV a b)))) else T4 (rB false (ZbV a b)))) (by kernel_rfl) ?_
 exact Zet
def Zl6:ZaE Tryz.prog:=⟨171,[.s Zdv, .s Zdv],fun x=>True,fun x=>.c (.bool (ZbV x.1 x.2.1)),fun _=>[],fun x hx=>ZuF x.1 x.2.1,Tryz.call171⟩
theorem Zos (a:ZaW) (b:ZaW):Zao Tryz.prog 218 [.ag [.int .i64 a.1, .hs .no Za1 a.2.1, .int .i64 a.2.2], .ag [.int .i64 b.1, .hs .no Za1 b.2.1, .int .i64 b.2.2]] (.c (.bool (ZcF a b))) []:=by
 refine bc0 [Zgi] [] [] [] L0 Tryz.func218 (fun hwf=>?_)
 refine Eq.mpr (β:=T9 (bif eqI a.1 b.1 then T4 (pt True∧T2 (bif ZbO a.2.1 b.2.1 then T7 (rB (eqI a.2.2 b.2.2) (ZcF a b)) else T2 (rB false (ZcF a b)))) else T4 (rB false (ZcF a b)))) (by kernel_rfl) ?_
 exact Zet
def Zot:ZaE Tryz.prog:=⟨218,[.s Zak, .s Zak],fun x=>True,fun x=>.c (.bool (ZcF x.1 x.2.1)),fun _=>[],fun x hx=>Zos x.1 x.2.1,Tryz.call218⟩
theorem ZCx {α:Type} {p:α→α→Bool} (h:∀ x y,p x y=true↔x=y):∀ {xs ys:List α},ZkQ p xs ys=true↔xs=ys
 | [],[]=>by simp [ZkQ]
 | _ :: _,[]=>by simp [ZkQ]
 | [],_ :: _=>by simp [ZkQ]
 | x :: xs,y :: ys=>by simp [ZkQ,h,ZCx h]
theorem ZkW {xs ys:List ZaW}:ZkQ (fun x y:ZaW=>ZcF x y) xs ys=true↔xs=ys:=ZCx (fun _ _=>ZhY)
theorem Zsg (a:Zb1) (b:Zb1):Zao Tryz.prog 170 [.ag [.bool a.1, .hs .no Zak a.2], .ag [.bool b.1, .hs .no Zak b.2]] (.c (.bool (ZbK a b))) []:=by
 refine bc0 [Zot] [] [Zc0] [] L0 Tryz.func170 (fun hwf=>?_)
 refine Eq.mpr (β:=T7 (some TypeDesc.bool=some TypeDesc.bool∧True∧bif eqO a.1 b.1 then T4 (((∀ z0 w0:ZaW,True∧True)∧∀ (_:ZaW→ZaW→Bool) (_ _:List ZaW),true=true)∧T2 (rB (ZkQ (fun z0 w0:ZaW=>ZcF z0 w0) a.2 b.2) (ZbK a b))) else T2 (rB false (ZbK a b)))) (by kernel_rfl) ?_
 simp only [SIA,eq_self]
 repeat' (first | apply And.intro | intro _)
 all_goals (first | trivial | (rw [Bool.eq_iff_iff]; simp_all [Prod.ext_iff,EQA,ZkW]; done) | (simp_all [Prod.ext_iff,EQA,ZkW]; done) | omega)
def ZkX:ZaE Tryz.prog:=⟨170,[.s Zdd, .s Zdd],fun x=>True,fun x=>.c (.bool (ZbK x.1 x.2.1)),fun _=>[],fun x hx=>Zsg x.1 x.2.1,Tryz.call170⟩
def ZpR (a:Zad) (b:Zad):Prop:=T4 (rB false (Zbi a b))
def ZpS (a:Zad) (b:Zad):Prop:=T6 (ZpR a b)
def ZpT (a:Zad) (b:Zad):Prop:=T6 (ZpS a b)
theorem ZpU (a:Zad) (b:Zad):Zao Tryz.prog 112 [.ag (cellsOf Zae a), .ag (cellsOf Zae b)] (.c (.bool (Zbi a b))) []:=by
 refine bc0 [ZnN,ZkX,Zl6] [] [] [] L0 Tryz.func112 (fun hwf=>?_)
 refine Eq.mpr (β:=T7 (some TypeDesc.bool=some TypeDesc.bool∧True∧bif eqO a.1 b.1 then T7 (bif eqI a.2.1 b.2.1 then T7 (bif eqI a.2.2.1 b.2.2.1 then T7 (bif eqI a.2.2.2.1 b.2.2.2.1 then T4 (pt True∧T2 (bif Zbt a.2.2.2.2.1 b.2.2.2.2.1 then T4 (pt True∧T2 (bif ZbK a.2.2.2.2.2.1 b.2.2.2.2.2.1 then T7 (bif eqS a.2.2.2.2.2.2.1 b.2.2.2.2.2.2.1 then T7 (bif eqS a.2.2.2.2.2.2.2.1 b.2.2.2.2.2.2.2.1 then T4 (pt True∧T2 (bif ZbV a.2.2.2.2.2.2.2.2.1 b.2.2.2.2.2.2.2.2.1 then T4 (true=true∧T2 (bif ZE0 a.2.2.2.2.2.2.2.2.2.1 b.2.2.2.2.2.2.2.2.2.1 then T4 (true=true∧T2 (bif ZvJ a.2.2.2.2.2.2.2.2.2.2.1 b.2.2.2.2.2.2.2.2.2.2.1 then T7 (rB (eqI a.2.2.2.2.2.2.2.2.2.2.2 b.2.2.2.2.2.2.2.2.2.2.2) (Zbi a b)) else T2 (rB false (Zbi a b)))) else ZpR a b)) else T2 (ZpR a b))) else T4 (ZpR a b)) else ZpS a b) else T2 (ZpS a b))) else T4 (ZpS a b))) else ZpT a b) else T2 (ZpT a b)) else T4 (ZpT a b)) else T6 (ZpT a b))) (by kernel_rfl) ?_
 unfold ZpT ZpS ZpR T2 T4 T6 T7
 exact Zet
def ZpV:ZaE Tryz.prog:=⟨112,[.s Zae, .s Zae],fun x=>True,fun x=>.c (.bool (Zbi x.1 x.2.1)),fun _=>[],fun x hx=>ZpU x.1 x.2.1,Tryz.call112⟩
def ZwW (a:List ZbT) (b:List ZbT):Nat→List AV→Mem→Zbd
 | 4,tm,M=>⟨Nat,fun y=>(Zcf (Zct tm [(4, .any),(5, .c (.int .i64 ((y:Nat):Int)))]) 13 18,M),fun y=>(y≤List.length a∧∀ j,j < y→ZaV a j=ZaV b j),fun y=>(List.length a - y)⟩
 | _,_,_=>⟨Unit,fun _=>([],[]),fun _=>False,fun _=>0⟩
theorem ZwX (a:List ZbT) (b:List ZbT):Zao Tryz.prog 91 [.ag [.hs .no Zay a], .ag [.hs .no Zay b]] (.c (.bool (Zbt a b))) []:=by
 refine bc0 [] [] [] [] (ZwW a b) Tryz.func91 (fun hwf=>?_)
 refine Eq.mpr (β:=T10 (bif neI a.length b.length then True∧rB false (Zbt a b) else True∧(∃ q:Nat,(q≤a.length∧∀ j,j < q→ZaV a j=ZaV b j)∧lxs [.ag [.hs .no Zay a], .ag [.hs .no Zay b], .c (.bp 0 0), .c (.bp 1 0)] (True∧vI 0 q∧lxs [.c (.bp 0 0),hn Zay a,ci a.length, .c (.bp 1 0),hn Zay b,ci b.length, .c (.bool false)] (TN 18 True))∧pt (lb (.box [.hs .no Zay a])∧lb (.box [.hs .no Zay b])∧True))∧∀ y0:Nat,(y0≤a.length∧∀ j,j < y0→ZaV a j=ZaV b j)→T5 (bif ltI y0 a.length then pt (true=true)∧T3 (ix 2 y0 a.length∧T4 (ix 2 y0 b.length∧True∧true=true∧bif !(ZoT (ZaV a y0) (ZaV b y0)) then True∧rB false (Zbt a b) else T3 (∃ y0' : Nat,(y0'≤a.length∧∀ j,j < y0'→ZaV a j=ZaV b j)∧(a.length - y0') < (a.length - y0)∧lxs [.ag [.hs .no Zay a], .ag [.hs .no Zay b], .c (.bp 0 0), .c (.bp 1 0)] (True∧vI (w64 ((y0:Int) + 1)) y0'∧lxs [.c (.bp 0 0),hn Zay a,ci a.length, .c (.bp 1 0),hn Zay b,ci b.length, .c (.bool false)] (TN 18 True))∧pt (lb (.box [.hs .no Zay a])∧lb (.box [.hs .no Zay b])∧True)))) else True∧rB true (Zbt a b)))) (by kernel_rfl) ?_
 unfold T10 T3 T4 T5
 simp only [SIA,eq_self]
 have hm:List.length a≤maxLen:=hwf.1.1.1
 refine ⟨fun hl=>?_,fun hl=>⟨⟨0,⟨Nat.zero_le _,Za3⟩,rfl⟩,fun k hk=>⟨fun hlt=>⟨by omega,by omega,fun hp=>?_,fun hp=>?_⟩,fun hge=>?_⟩⟩⟩
 ·exact (ZcA.2 (fun e=>hl (by rw [e]))).symm
 ·exact (ZcA.2 (fun e=>Zfv.1 hp (by rw [e]))).symm
 ·exact ZAl
 ·obtain rfl:k=List.length a:=by omega
  have hl' : List.length a=List.length b:=by omega
  exact (Zer.2 (Zch (t:=Zay) hl' hk.2)).symm
def ZnO:ZaE Tryz.prog:=⟨91,[.s (.list Zay), .s (.list Zay)],fun x=>True,fun x=>.c (.bool (Zbt x.1 x.2.1)),fun _=>[],fun x hx=>ZwX x.1 x.2.1,Tryz.call91⟩
def ZCy (a:List ByteArray) (b:List ByteArray):Nat→List AV→Mem→Zbd
 | 4,tm,M=>⟨Nat,fun y=>(Zcf (Zct tm [(4, .any),(5, .c (.int .i64 ((y:Nat):Int)))]) 11 15,M),fun y=>(y≤List.length a∧∀ j,j < y→ZaF a j=ZaF b j),fun y=>(List.length a - y)⟩
 | _,_,_=>⟨Unit,fun _=>([],[]),fun _=>False,fun _=>0⟩
theorem ZCz (a:List ByteArray) (b:List ByteArray):Zao Tryz.prog 199 [.c (.hs .no Za1 a), .c (.hs .no Za1 b)] (.c (.bool (ZbO a b))) []:=by
 refine bc0 [] [] [] [] (ZCy a b) Tryz.func199 (fun hwf=>?_)
 refine Eq.mpr (β:=T6 (bif neI a.length b.length then True∧rB false (ZbO a b) else True∧(∃ q:Nat,(q≤a.length∧∀ j,j < q→ZaF a j=ZaF b j)∧lxs [hn Za1 a,hn Za1 b, .tp [], .tp []] (True∧vI 0 q∧lxs [hn Za1 a,ci a.length,hn Za1 b,ci b.length, .c (.bool false)] (TN 15 True))∧pt (True))∧∀ y0:Nat,(y0≤a.length∧∀ j,j < y0→ZaF a j=ZaF b j)→T4 (bif ltI y0 a.length then pt (true=true)∧T2 (ix 1 y0 a.length∧T3 (ix 1 y0 b.length∧T2 (bif !eqS (ZaF a y0) (ZaF b y0) then True∧rB false (ZbO a b) else T3 (∃ y0' : Nat,(y0'≤a.length∧∀ j,j < y0'→ZaF a j=ZaF b j)∧(a.length - y0') < (a.length - y0)∧lxs [hn Za1 a,hn Za1 b, .tp [], .tp []] (True∧vI (w64 ((y0:Int) + 1)) y0'∧lxs [hn Za1 a,ci a.length,hn Za1 b,ci b.length, .c (.bool false)] (TN 15 True))∧pt (True))))) else True∧rB true (ZbO a b)))) (by kernel_rfl) ?_
 unfold T2 T3 T4 T6
 simp only [SIA,eq_self]
 have hm:List.length a≤maxLen:=hwf.1.1
 refine ⟨fun hl=>?_,fun hl=>⟨⟨0,⟨Nat.zero_le _,Za3⟩,rfl⟩,fun k hk=>⟨fun hlt=>⟨by omega,by omega,fun hp=>?_,fun hp=>?_⟩,fun hge=>?_⟩⟩⟩
 ·exact (Zcr.2 (fun e=>hl (by rw [e]))).symm
 ·exact (Zcr.2 (fun e=>hp (by rw [e]))).symm
 ·exact ⟨k + 1,⟨by omega,ZaU hk.2 (hp)⟩,by omega,Zbs (by omega)⟩
 ·obtain rfl:k=List.length a:=by omega
  have hl' : List.length a=List.length b:=by omega
  exact (ZdM.2 (Zch (t:=Za1) hl' hk.2)).symm
def ZCA:ZaE Tryz.prog:=⟨199,[.v (.list Za1), .v (.list Za1)],fun x=>True,fun x=>.c (.bool (ZbO x.1 x.2.1)),fun _=>[],fun x hx=>ZCz x.1 x.2.1,Tryz.call199⟩
def ZuG (a:ZbH) (b:ZbH):Nat→List AV→Mem→Zbd
 | 4,tm,M=>⟨Nat,fun y=>(Zcf (Zct tm [(4, .any),(5, .c (.int .i64 ((y:Nat):Int)))]) 27 18,M),fun y=>(y≤List.length a.1∧∀ j,j < y→Zaf a.1 j=Zaf b.1 j),fun y=>(List.length a.1 - y)⟩
 | _,_,_=>⟨Unit,fun _=>([],[]),fun _=>False,fun _=>0⟩
theorem ZuH (a:ZbH) (b:ZbH):Zao Tryz.prog 149 [.ag [.hs .no Zal a.1, .bool a.2.1, .bool a.2.2], .ag [.hs .no Zal b.1, .bool b.2.1, .bool b.2.2]] (.c (.bool (ZbV a b))) []:=by
 refine bc0 [] [] [] [] (ZuG a b) Tryz.func149 (fun hwf=>?_)
 refine Eq.mpr (β:=T7 (some TypeDesc.bool=some TypeDesc.bool∧True∧bif !eqO a.2.1 b.2.1 then T4 (rB false (ZbV a b)) else T4 (some TypeDesc.bool=some TypeDesc.bool∧T2 (bif !eqO a.2.2 b.2.2 then T2 (rB false (ZbV a b)) else T8 (bif neI a.1.length b.1.length then True∧rB false (ZbV a b) else True∧(∃ q:Nat,(q≤a.1.length∧∀ j,j < q→Zaf a.1 j=Zaf b.1 j)∧lxs [.ag [.hs .no Zal a.1, .bool a.2.1, .bool a.2.2], .ag [.hs .no Zal b.1, .bool b.2.1, .bool b.2.2], .c (.bp 0 0), .c (.bp 1 0)] (True∧vI 0 q∧lxs [.c (.bp 0 1), .c (.bool a.2.1), .c (.bp 1 1), .c (.bool b.2.1), .c (.bool (!eqO a.2.1 b.2.1)), .c (.bool false), .c (.bp 0 2), .c (.bool a.2.2), .c (.bp 1 2), .c (.bool b.2.2), .c (.bool (!eqO a.2.2 b.2.2)), .c (.bool (!eqO a.2.2 b.2.2)), .c (.bool false), .c (.bp 0 0),hn Zal a.1,ci a.1.length, .c (.bp 1 0),hn Zal b.1,ci b.1.length, .c (.bool (neI a.1.length b.1.length)), .c (.bool false)] (TN 18 True))∧pt (lb (.box [.hs .no Zal a.1, .bool a.2.1, .bool a.2.2])∧lb (.box [.hs .no Zal b.1, .bool b.2.1, .bool b.2.2])∧True))∧∀ y0:Nat,(y0≤a.1.length∧∀ j,j < y0→Zaf a.1 j=Zaf b.1 j)→T5 (bif ltI y0 a.1.length then pt (true=true)∧T3 (ix 4 y0 a.1.length∧T4 (ix 4 y0 b.1.length∧True∧true=true∧bif !(Zcw (Zaf a.1 y0) (Zaf b.1 y0)) then True∧rB false (ZbV a b) else T3 (∃ y0' : Nat,(y0'≤a.1.length∧∀ j,j < y0'→Zaf a.1 j=Zaf b.1 j)∧(a.1.length - y0') < (a.1.length - y0)∧lxs [.ag [.hs .no Zal a.1, .bool a.2.1, .bool a.2.2], .ag [.hs .no Zal b.1, .bool b.2.1, .bool b.2.2], .c (.bp 0 0), .c (.bp 1 0)] (True∧vI (w64 ((y0:Int) + 1)) y0'∧lxs [.c (.bp 0 1), .c (.bool a.2.1), .c (.bp 1 1), .c (.bool b.2.1), .c (.bool (!eqO a.2.1 b.2.1)), .c (.bool false), .c (.bp 0 2), .c (.bool a.2.2), .c (.bp 1 2), .c (.bool b.2.2), .c (.bool (!eqO a.2.2 b.2.2)), .c (.bool (!eqO a.2.2 b.2.2)), .c (.bool false), .c (.bp 0 0),hn Zal a.1,ci a.1.length, .c (.bp 1 0),hn Zal b.1,ci b.1.length, .c (.bool (neI a.1.length b.1.length)), .c (.bool false)] (TN 18 True))∧pt (lb (.box [.hs .no Zal a.1, .bool a.2.1, .bool a.2.2])∧lb (.box [.hs .no Zal b.1, .bool b.2.1, .bool b.2.2])∧True)))) else True∧rB true (ZbV a b))))))) (by kernel_rfl) ?_
 unfold T2 T3 T4 T5 T7 T8
 simp only [SIA,eq_self]
 have hm:List.length a.1≤maxLen:=hwf.1.1.1
 refine ⟨fun h1=>?_,fun h1=>⟨fun h2=>?_,fun h2=>⟨fun h3=>?_,fun h3=>⟨⟨0,⟨Nat.zero_le _,Za3⟩,rfl⟩,fun k hk=>⟨fun hlt=>⟨by omega,by omega,fun hp=>?_,fun hp=>?_⟩,fun hge=>?_⟩⟩⟩⟩⟩
 ·exact (ZcU.2 (fun e=>h1 (by rw [e]))).symm
 ·exact (ZcU.2 (fun e=>h2 (by rw [e]))).symm
 ·exact (ZcU.2 (fun e=>h3 (by rw [e]))).symm
 ·exact (ZcU.2 (fun e=>Zfy.1 hp (by rw [e]))).symm
 ·exact ZAk
 ·obtain rfl:k=List.length a.1:=by omega
  have hl' : List.length a.1=List.length b.1:=by omega
  have hx:=Zch (t:=Zal) hl' hk.2
  exact (Zfz.2 (Prod.ext hx (Prod.ext h1 h2))).symm
def ZuI:ZaE Tryz.prog:=⟨149,[.s Zdv, .s Zdv],fun x=>True,fun x=>.c (.bool (ZbV x.1 x.2.1)),fun _=>[],fun x hx=>ZuH x.1 x.2.1,Tryz.call149⟩
def Zsh (a:Zb1) (b:Zb1):Nat→List AV→Mem→Zbd
 | 4,tm,M=>⟨Nat,fun y=>(Zcf (Zct tm [(4, .any),(5, .c (.int .i64 ((y:Nat):Int)))]) 20 51,M),fun y=>(y≤List.length a.2∧∀ j,j < y→Zas a.2 j=Zas b.2 j),fun y=>(List.length a.2 - y)⟩
 | _,_,_=>⟨Unit,fun _=>([],[]),fun _=>False,fun _=>0⟩
def ZuJ (y0:Nat) (a:Zb1):Prop:=ix 3 y0 a.2.length
def ZuK (y0:Nat) (b:Zb1):Prop:=ix 3 y0 b.2.length
theorem Zsi (a:Zb1) (b:Zb1):Zao Tryz.prog 148 [.ag [.bool a.1, .hs .no Zak a.2], .ag [.bool b.1, .hs .no Zak b.2]] (.c (.bool (ZbK a b))) []:=by
 refine bc0 [ZCA] [] [] [] (Zsh a b) Tryz.func148 (fun hwf=>?_)
 refine Eq.mpr (β:=T7 (some TypeDesc.bool=some TypeDesc.bool∧True∧bif !eqO a.1 b.1 then T2 (rB false (ZbK a b)) else T8 (bif neI a.2.length b.2.length then True∧rB false (ZbK a b) else True∧(∃ q:Nat,(q≤a.2.length∧∀ j,j < q→Zas a.2 j=Zas b.2 j)∧lxs [.ag [.bool a.1, .hs .no Zak a.2], .ag [.bool b.1, .hs .no Zak b.2], .c (.bp 0 0), .c (.bp 1 0)] (True∧vI 0 q∧lxs [.c (.bp 0 0), .c (.bool a.1), .c (.bp 1 0), .c (.bool b.1), .c (.bool (!eqO a.1 b.1)), .c (.bool false), .c (.bp 0 1),hn Zak a.2,ci a.2.length, .c (.bp 1 1),hn Zak b.2,ci b.2.length, .c (.bool (neI a.2.length b.2.length)), .c (.bool false)] (TN 51 True))∧pt (lb (.box [.bool a.1, .hs .no Zak a.2])∧lb (.box [.bool b.1, .hs .no Zak b.2])∧True))∧∀ y0:Nat,(y0≤a.2.length∧∀ j,j < y0→Zas a.2 j=Zas b.2 j)→T5 (bif ltI y0 a.2.length then pt (true=true)∧T3 (ZuJ y0 a∧T5 (ZuK y0 b∧T4 (bif neI (Zas a.2 y0).1 (Zas b.2 y0).1 then T4 (rB false (ZbK a b)) else T3 (ZuJ y0 a∧T5 (ZuK y0 b∧T5 (bif neI (Zas a.2 y0).2.2 (Zas b.2 y0).2.2 then T2 (rB false (ZbK a b)) else T3 (ZuJ y0 a∧T5 (ZuK y0 b∧T2 (pt True∧T2 (bif !(ZbO (Zas a.2 y0).2.1 (Zas b.2 y0).2.1) then True∧rB false (ZbK a b) else T3 (∃ y0' : Nat,(y0'≤a.2.length∧∀ j,j < y0'→Zas a.2 j=Zas b.2 j)∧(a.2.length - y0') < (a.2.length - y0)∧lxs [.ag [.bool a.1, .hs .no Zak a.2], .ag [.bool b.1, .hs .no Zak b.2], .c (.bp 0 0), .c (.bp 1 0)] (True∧vI (w64 ((y0:Int) + 1)) y0'∧lxs [.c (.bp 0 0), .c (.bool a.1), .c (.bp 1 0), .c (.bool b.1), .c (.bool (!eqO a.1 b.1)), .c (.bool false), .c (.bp 0 1),hn Zak a.2,ci a.2.length, .c (.bp 1 1),hn Zak b.2,ci b.2.length, .c (.bool (neI a.2.length b.2.length)), .c (.bool false)] (TN 51 True))∧pt (lb (.box [.bool a.1, .hs .no Zak a.2])∧lb (.box [.bool b.1, .hs .no Zak b.2])∧True)))))))))))) else True∧rB true (ZbK a b))))) (by kernel_rfl) ?_
 unfold ZuK ZuJ T2 T3 T4 T5 T7 T8
 simp only [SIA,eq_self]
 have hm0:List.length a.2≤maxLen:=hwf.1.2.1.1
 repeat' (first | apply And.intro | intro _)
 all_goals (first
  | trivial
  | omega
  | exact ⟨0,⟨Nat.zero_le _,Za3⟩,rfl⟩
  | (refine ⟨_,⟨?_,ZaU (And.right (by assumption)) ?_⟩,?_,Zbs ?_⟩ <;> first | omega | (simp_all [Prod.ext_iff,EQA]; done))
  | exact (Zey.2 (fun e=>by subst e; simp_all [EQA])).symm
  | exact (ZeQ.2 (by have hx:=Zch (t:=Zak) (xs:=a.2) (ys:=b.2) (show List.length a.2=List.length b.2 by omega) (fun j hj=>(by assumption:_≤List.length a.2∧∀ j,j < _→Zas a.2 j=Zas b.2 j).2 j (by have hj' : j < List.length a.2:=hj; omega)); simp_all [Prod.ext_iff,EQA])).symm
  | (rw [Bool.eq_iff_iff]; simp_all [Prod.ext_iff,EQA]; done)
  | (simp_all [Prod.ext_iff,EQA]; done))
def Zsj:ZaE Tryz.prog:=⟨148,[.s Zdd, .s Zdd],fun x=>True,fun x=>.c (.bool (ZbK x.1 x.2.1)),fun _=>[],fun x hx=>Zsi x.1 x.2.1,Tryz.call148⟩
def ZpW (a:Zad) (b:Zad):Prop:=T4 (rB false (Zbi a b))
def ZpX (a:Zad) (b:Zad):Prop:=T6 (ZpW a b)
def ZpY (a:Zad) (b:Zad):Prop:=T6 (ZpX a b)
theorem ZpZ (a:Zad) (b:Zad):Zao Tryz.prog 81 [.ag (cellsOf Zae a), .ag (cellsOf Zae b)] (.c (.bool (Zbi a b))) []:=by
 refine bc0 [ZnO,Zsj,ZuI] [] [] [] L0 Tryz.func81 (fun hwf=>?_)
 refine Eq.mpr (β:=T7 (some TypeDesc.bool=some TypeDesc.bool∧True∧bif eqO a.1 b.1 then T7 (bif eqI a.2.1 b.2.1 then T7 (bif eqI a.2.2.1 b.2.2.1 then T7 (bif eqI a.2.2.2.1 b.2.2.2.1 then T4 (pt True∧T2 (bif Zbt a.2.2.2.2.1 b.2.2.2.2.1 then T4 (pt True∧T2 (bif ZbK a.2.2.2.2.2.1 b.2.2.2.2.2.1 then T7 (bif eqS a.2.2.2.2.2.2.1 b.2.2.2.2.2.2.1 then T7 (bif eqS a.2.2.2.2.2.2.2.1 b.2.2.2.2.2.2.2.1 then T4 (pt True∧T2 (bif ZbV a.2.2.2.2.2.2.2.2.1 b.2.2.2.2.2.2.2.2.1 then T4 (true=true∧T2 (bif ZE0 a.2.2.2.2.2.2.2.2.2.1 b.2.2.2.2.2.2.2.2.2.1 then T4 (true=true∧T2 (bif ZvJ a.2.2.2.2.2.2.2.2.2.2.1 b.2.2.2.2.2.2.2.2.2.2.1 then T7 (rB (eqI a.2.2.2.2.2.2.2.2.2.2.2 b.2.2.2.2.2.2.2.2.2.2.2) (Zbi a b)) else T2 (rB false (Zbi a b)))) else ZpW a b)) else T2 (ZpW a b))) else T4 (ZpW a b)) else ZpX a b) else T2 (ZpX a b))) else T4 (ZpX a b))) else ZpY a b) else T2 (ZpY a b)) else T4 (ZpY a b)) else T6 (ZpY a b))) (by kernel_rfl) ?_
 unfold ZpY ZpX ZpW T2 T4 T6 T7
 exact Zet
def ZgO:ZaE Tryz.prog:=⟨81,[.s Zae, .s Zae],fun x=>True,fun x=>.c (.bool (Zbi x.1 x.2.1)),fun _=>[],fun x hx=>ZpZ x.1 x.2.1,Tryz.call81⟩
theorem ZCB (a:ZaO) (b:ZaO):Zao Tryz.prog 169 [.ag (cellsOf Zaj a), .ag (cellsOf Zaj b)] (.c (.bool (Zcq a b))) []:=by
 refine bc0 [Zhp] [] [] [] L0 Tryz.func169 (fun hwf=>?_)
 refine Eq.mpr (β:=T9 (bif eqS a.1 b.1 then T7 (bif eqI a.2.1 b.2.1 then T7 (bif eqI a.2.2.1 b.2.2.1 then T4 (pt True∧T2 (rB (Zd0 a.2.2.2 b.2.2.2) (Zcq a b))) else T2 (rB false (Zcq a b))) else T4 (rB false (Zcq a b))) else T6 (rB false (Zcq a b)))) (by kernel_rfl) ?_
 exact Zet
def ZCC:ZaE Tryz.prog:=⟨169,[.s Zaj, .s Zaj],fun x=>True,fun x=>.c (.bool (Zcq x.1 x.2.1)),fun _=>[],fun x hx=>ZCB x.1 x.2.1,Tryz.call169⟩
theorem ZwY {xs ys:List ZaO}:ZkQ (fun x y:ZaO=>Zcq x y) xs ys=true↔xs=ys:=ZCx (fun _ _=>ZfJ)
theorem ZuL (a:List ZaO) (b:List ZaO):Zao Tryz.prog 108 [.c (.hs .no Zaj a), .c (.hs .no Zaj b)] (.c (.bool (Zca a b))) []:=by
 refine bc0 [ZCC] [] [ZdH] [] L0 Tryz.func108 (fun hwf=>?_)
 refine Eq.mpr (β:=T3 (((∀ z0 w0:ZaO,True∧True)∧∀ (_:ZaO→ZaO→Bool) (_ _:List ZaO),true=true)∧True∧rB (ZkQ (fun z0 w0:ZaO=>Zcq z0 w0) a b) (Zca a b))) (by kernel_rfl) ?_
 simp only [SIA,eq_self]
 refine ⟨⟨fun _ _=>trivial,fun _ _ _=>trivial⟩,?_⟩
 rw [Bool.eq_iff_iff,ZwY,Zdg]
def ZuM:ZaE Tryz.prog:=⟨108,[.v (.list Zaj), .v (.list Zaj)],fun x=>True,fun x=>.c (.bool (Zca x.1 x.2.1)),fun _=>[],fun x hx=>ZuL x.1 x.2.1,Tryz.call108⟩
def ZCD (a:ZaO) (b:ZaO):Nat→List AV→Mem→Zbd
 | 4,tm,M=>⟨Nat,fun y=>(Zcf (Zct tm [(4, .any),(5, .c (.int .i64 ((y:Nat):Int)))]) 34 18,M),fun y=>(y≤List.length a.2.2.2∧∀ j,j < y→ZaG a.2.2.2 j=ZaG b.2.2.2 j),fun y=>(List.length a.2.2.2 - y)⟩
 | _,_,_=>⟨Unit,fun _=>([],[]),fun _=>False,fun _=>0⟩
def ZCE (a:ZaO) (b:ZaO):Prop:=lb (.box [.str a.1, .int .i64 a.2.1, .int .i64 a.2.2.1, .hs .no ZaR a.2.2.2])∧lb (.box [.str b.1, .int .i64 b.2.1, .int .i64 b.2.2.1, .hs .no ZaR b.2.2.2])∧True
theorem ZCF (a:ZaO) (b:ZaO):Zao Tryz.prog 147 [.ag (cellsOf Zaj a), .ag (cellsOf Zaj b)] (.c (.bool (Zcq a b))) []:=by
 refine bc0 [] [] [] [] (ZCD a b) Tryz.func147 (fun hwf=>?_)
 refine Eq.mpr (β:=T9 (bif !eqS a.1 b.1 then T6 (rB false (Zcq a b)) else T7 (bif neI a.2.1 b.2.1 then T4 (rB false (Zcq a b)) else T7 (bif neI a.2.2.1 b.2.2.1 then T2 (rB false (Zcq a b)) else T8 (bif neI a.2.2.2.length b.2.2.2.length then True∧rB false (Zcq a b) else True∧(∃ q:Nat,(q≤a.2.2.2.length∧∀ j,j < q→ZaG a.2.2.2 j=ZaG b.2.2.2 j)∧lxs [.ag [.str a.1, .int .i64 a.2.1, .int .i64 a.2.2.1, .hs .no ZaR a.2.2.2], .ag [.str b.1, .int .i64 b.2.1, .int .i64 b.2.2.1, .hs .no ZaR b.2.2.2], .c (.bp 0 0), .c (.bp 1 0)] (True∧vI 0 q∧lxs [.c (.bp 0 0), .c (.str a.1), .c (.bp 1 0), .c (.str b.1), .c (.bool (!eqS a.1 b.1)), .c (.bool false), .c (.bp 0 1),ci a.2.1, .c (.bp 1 1),ci b.2.1, .c (.bool (neI a.2.1 b.2.1)), .c (.bool (neI a.2.1 b.2.1)), .c (.bool false), .c (.bp 0 2),ci a.2.2.1, .c (.bp 1 2),ci b.2.2.1, .c (.bool (neI a.2.2.1 b.2.2.1)), .c (.bool (neI a.2.2.1 b.2.2.1)), .c (.bool false), .c (.bp 0 3),hn ZaR a.2.2.2,ci a.2.2.2.length, .c (.bp 1 3),hn ZaR b.2.2.2,ci b.2.2.2.length, .c (.bool (neI a.2.2.2.length b.2.2.2.length)), .c (.bool false)] (TN 18 True))∧pt (ZCE a b))∧∀ y0:Nat,(y0≤a.2.2.2.length∧∀ j,j < y0→ZaG a.2.2.2 j=ZaG b.2.2.2 j)→T5 (bif ltI y0 a.2.2.2.length then pt (true=true)∧T3 (ix 3 y0 a.2.2.2.length∧T4 (ix 3 y0 b.2.2.2.length∧True∧true=true∧bif !(ZvI (ZaG a.2.2.2 y0) (ZaG b.2.2.2 y0)) then True∧rB false (Zcq a b) else T3 (∃ y0' : Nat,(y0'≤a.2.2.2.length∧∀ j,j < y0'→ZaG a.2.2.2 j=ZaG b.2.2.2 j)∧(a.2.2.2.length - y0') < (a.2.2.2.length - y0)∧lxs [.ag [.str a.1, .int .i64 a.2.1, .int .i64 a.2.2.1, .hs .no ZaR a.2.2.2], .ag [.str b.1, .int .i64 b.2.1, .int .i64 b.2.2.1, .hs .no ZaR b.2.2.2], .c (.bp 0 0), .c (.bp 1 0)] (True∧vI (w64 ((y0:Int) + 1)) y0'∧lxs [.c (.bp 0 0), .c (.str a.1), .c (.bp 1 0), .c (.str b.1), .c (.bool (!eqS a.1 b.1)), .c (.bool false), .c (.bp 0 1),ci a.2.1, .c (.bp 1 1),ci b.2.1, .c (.bool (neI a.2.1 b.2.1)), .c (.bool (neI a.2.1 b.2.1)), .c (.bool false), .c (.bp 0 2),ci a.2.2.1, .c (.bp 1 2),ci b.2.2.1, .c (.bool (neI a.2.2.1 b.2.2.1)), .c (.bool (neI a.2.2.1 b.2.2.1)), .c (.bool false), .c (.bp 0 3),hn ZaR a.2.2.2,ci a.2.2.2.length, .c (.bp 1 3),hn ZaR b.2.2.2,ci b.2.2.2.length, .c (.bool (neI a.2.2.2.length b.2.2.2.length)), .c (.bool false)] (TN 18 True))∧pt (ZCE a b)))) else True∧rB true (Zcq a b))))))) (by kernel_rfl) ?_
 unfold ZCE T2 T3 T4 T5 T6 T7 T8 T9
 simp only [SIA,eq_self]
 have hm:List.length a.2.2.2≤maxLen:=hwf.1.2.2.2.1.1
 refine ⟨fun h1=>?_,fun h1=>⟨fun h2=>?_,fun h2=>⟨fun h3=>?_,fun h3=>⟨fun h4=>?_,fun h4=>⟨⟨0,⟨Nat.zero_le _,Za3⟩,rfl⟩,fun k hk=>⟨fun hlt=>⟨by omega,by omega,fun hp=>?_,fun hp=>?_⟩,fun hge=>?_⟩⟩⟩⟩⟩⟩
 ·exact (ZcL.2 (fun e=>h1 (by rw [e]))).symm
 ·exact (ZcL.2 (fun e=>h2 (by rw [e]))).symm
 ·exact (ZcL.2 (fun e=>h3 (by rw [e]))).symm
 ·exact (ZcL.2 (fun e=>h4 (by rw [e]))).symm
 ·exact (ZcL.2 (fun e=>Zgp.1 hp (by rw [e]))).symm
 ·exact ZAm
 ·obtain rfl:k=List.length a.2.2.2:=by omega
  have hl' : List.length a.2.2.2=List.length b.2.2.2:=by omega
  have hx:=Zch (t:=ZaR) hl' hk.2
  exact (ZfJ.2 (Prod.ext h1 (Prod.ext h2 (Prod.ext h3 hx)))).symm
def ZCG:ZaE Tryz.prog:=⟨147,[.s Zaj, .s Zaj],fun x=>True,fun x=>.c (.bool (Zcq x.1 x.2.1)),fun _=>[],fun x hx=>ZCF x.1 x.2.1,Tryz.call147⟩
def ZuN (a:List ZaO) (b:List ZaO):Nat→List AV→Mem→Zbd
 | 4,tm,M=>⟨Nat,fun y=>(Zcf (Zct tm [(4, .any),(5, .c (.int .i64 ((y:Nat):Int)))]) 11 16,M),fun y=>(y≤List.length a∧∀ j,j < y→Zab a j=Zab b j),fun y=>(List.length a - y)⟩
 | _,_,_=>⟨Unit,fun _=>([],[]),fun _=>False,fun _=>0⟩
theorem ZuO (a:List ZaO) (b:List ZaO):Zao Tryz.prog 79 [.c (.hs .no Zaj a), .c (.hs .no Zaj b)] (.c (.bool (Zca a b))) []:=by
 refine bc0 [ZCG] [] [] [] (ZuN a b) Tryz.func79 (fun hwf=>?_)
 refine Eq.mpr (β:=T6 (bif neI a.length b.length then True∧rB false (Zca a b) else True∧(∃ q:Nat,(q≤a.length∧∀ j,j < q→Zab a j=Zab b j)∧lxs [hn Zaj a,hn Zaj b, .tp [], .tp []] (True∧vI 0 q∧lxs [hn Zaj a,ci a.length,hn Zaj b,ci b.length, .c (.bool false)] (TN 16 True))∧pt (True))∧∀ y0:Nat,(y0≤a.length∧∀ j,j < y0→Zab a j=Zab b j)→T4 (bif ltI y0 a.length then pt (true=true)∧T2 (ix 4 y0 a.length∧T3 (ix 4 y0 b.length∧True∧pt True∧True∧bif !(Zcq (Zab a y0) (Zab b y0)) then True∧rB false (Zca a b) else T3 (∃ y0' : Nat,(y0'≤a.length∧∀ j,j < y0'→Zab a j=Zab b j)∧(a.length - y0') < (a.length - y0)∧lxs [hn Zaj a,hn Zaj b, .tp [], .tp []] (True∧vI (w64 ((y0:Int) + 1)) y0'∧lxs [hn Zaj a,ci a.length,hn Zaj b,ci b.length, .c (.bool false)] (TN 16 True))∧pt (True)))) else True∧rB true (Zca a b)))) (by kernel_rfl) ?_
 unfold T2 T3 T4 T6
 simp only [SIA,eq_self]
 have hm:List.length a≤maxLen:=hwf.1.1
 refine ⟨fun h1=>?_,fun h1=>⟨⟨0,⟨Nat.zero_le _,Za3⟩,rfl⟩,fun k hk=>⟨fun hlt=>⟨by omega,by omega,fun hp=>?_,fun hp=>?_⟩,fun hge=>?_⟩⟩⟩
 ·exact (eqT_LBox_false.2 (fun e=>h1 (by rw [e]))).symm
 ·exact (eqT_LBox_false.2 (fun e=>ZcL.1 hp (by rw [e]))).symm
 ·exact ⟨k + 1,⟨by omega,ZaU hk.2 (ZfJ.1 hp)⟩,by omega,Zbs (by omega)⟩
 ·obtain rfl:k=List.length a:=by omega
  have hl' : List.length a=List.length b:=by omega
  have hx:=Zch (t:=Zaj) hl' hk.2
  exact (Zdg.2 (hx)).symm
def ZuP:ZaE Tryz.prog:=⟨79,[.v (.list Zaj), .v (.list Zaj)],fun x=>True,fun x=>.c (.bool (Zca x.1 x.2.1)),fun _=>[],fun x hx=>ZuO x.1 x.2.1,Tryz.call79⟩
end Go.Proofs.YtafhbjjcpncfnaaGreat
