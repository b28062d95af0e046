import Derived.Test.YtkompmgleojmlaaGreatDBlName
import Derived.Test.YtkompmgleojmlaaGreatDBlSm
import Derived.Test.YtkompmgleojmlaaGreatDEqB
set_option linter.unusedSimpArgs false
set_option linter.unusedVariables false
set_option maxRecDepth 100000
set_option maxHeartbeats 4000000
namespace Go.Proofs.YtkompmgleojmlaaGreat
open Go.ChangeShapes Go.WideShapes Go.ChangeAt Go.RowKit Go.Joins Go.Deep
open GoRep (rep bulk)
def Zi2 (b:Zaw):ZCt:=b.2.2.2.map (fun m=>(m.1,m.2.1))
def Zg3 (b:Zaw) (k:Nat):List ZEQ:=(List.take k b.2.2.2).map (fun m=>(m.1,m.2.1))
def ZjE (st:Zau) (s:Zac):Bool:=if s.2.1=3 then ((Zjt st s.2.2.1 s.2.2.2.1).2 && (geI (boxW st.1 s.2.2.1) 0 && ZaS (Zi2 (Zjt st s.2.2.1 s.2.2.2.1).1) s.2.2.2.2.1)) else true
theorem ZpJ:∀ {log:List Zam} {l:List Zaw},ZbA l→ZbA (Zcp l log).1
  | [],_,h=>h
  | m :: r,l,h=>by
    unfold Zcp
    split
    · rename_i hm
      exact ZpJ (Zjh hm)
    · exact h
theorem ZrK (st:Zau) (n:Int):ZbA (Ze0 st n):=ZpJ ⟨Nat.zero_le _,fun x hx=>by cases hx⟩
theorem ZBD (st:Zau) (v n:Int):List.length (Zjt st v n).1.2.2.2≤1048576:=by
  unfold Zjt
  split
  · exact Nat.zero_le _
  · exact Zqq (ZrK st n) _
def ZBE (b:Zaw):Nat→List AV→Mem→Za3
  | 3,tm,M=>⟨Nat,fun y=>(Zb2 (Zcx tm [(5, .any),(10, .c (.int .i64 ((y:Nat):Int)))]) 11 14,ZrZ M [(2, .box [.row 3 0]),(3, .row Zal (Zg3 b y) 0 0 none)]),fun y=>(y≤List.length b.2.2.2),fun y=>(List.length b.2.2.2 - y)⟩
  | _,_,_=>⟨Unit,fun _=>([],[]),fun _=>False,fun _=>0⟩
def Znp (b:Zaw):List AC:=[.str b.1, .int .i64 b.2.1, .int .i64 b.2.2.1, .hs .no ZaF b.2.2.2]
theorem ZBF (b:Zaw) (hpre:List.length b.2.2.2≤1048576):Zai Tryz.prog 106 [.ag (cellsOf Zaf b)] (.ag [.row 0 0]) [.row Zal (Zi2 b) 0 0 none]:=by
  refine Zc2 (T:=⟨[],[],[],[],none,fun i=>match i with | 3=>[⟨some 2,0,Zal⟩] | _=>[],0,[],[]⟩) (L:=(ZBE b)) Tryz.func106 ⟨⟨rfl,rfl⟩,rfl⟩ (fun hwf=>?_)
  refine Eq.mpr (β:=(T9 ((∃ q:Nat,(q≤List.length b.2.2.2)∧((lxs [.ag (Znp b), .c (.bp 0 0), .c (.bp 1 0), .c (.bp 2 0), .tp []] (True∧lxs [.ag [.raw (.slice none 0 0)], .c (.bp 0 3),hn ZaF b.2.2.2,ci (List.length b.2.2.2)] (vI 0 q∧TN 14 (lxs [.tp []] True))))∧pt (lb (.box (Znp b))∧lb (.box [.raw (.slice none 0 0)])∧lb (.box [.row 3 0])∧leB (.row Zal ([]:List ZbB) 0 0 none) (.row Zal (Zg3 b q) 0 0 none)∧True)))∧∀ y0:Nat,(y0≤List.length b.2.2.2)→(True∧(bif (ltI y0 (List.length b.2.2.2)) then ((ix 3 y0 (List.length b.2.2.2))∧(T11 ((True∧List.length (Zg3 b y0) + List.length ([((Zay b.2.2.2 y0).1,(Zay b.2.2.2 y0).2.1)])≤rowMax)∧(T4 (∃ y0' : Nat,(y0'≤List.length b.2.2.2)∧(List.length b.2.2.2 - y0') < (List.length b.2.2.2 - y0)∧((lxs [.ag (Znp b), .c (.bp 0 0), .c (.bp 1 0), .c (.bp 2 0), .tp []] (True∧lxs [.ag [.raw (.slice none 0 0)], .c (.bp 0 3),hn ZaF b.2.2.2,ci (List.length b.2.2.2)] (vI (w64 ((y0:Int) + 1)) y0'∧TN 14 (lxs [.tp []] True))))∧pt (lb (.box (Znp b))∧lb (.box [.raw (.slice none 0 0)])∧lb (.box [.row 3 0])∧leB (.row Zal (Zg3 b y0 ++ [((Zay b.2.2.2 y0).1,(Zay b.2.2.2 y0).2.1)]) 0 0 none) (.row Zal (Zg3 b y0') 0 0 none)∧True))))))) else (T2 (pt ((((Zg3 b y0)=(Zi2 b))∧True))))))))) (by kernel_rfl) ?_
  unfold Znp T11 T2 T4 T9
  exact ZuU
def ZBG:Zat Tryz.prog:=⟨106,[.s Zaf],fun x=>List.length x.1.2.2.2≤1048576,fun x=>.ag [.row 0 0],fun x=>[.row Zal (Zi2 x.1) 0 0 none],fun x hx=>ZBF x.1 hx,Tryz.call106⟩
def ZBH (b:Zaw):Nat→List AV→Mem→Za3
  | 3,tm,M=>⟨Nat,fun y=>(Zb2 (Zcx tm [(4, .c (.int .i64 ((y:Nat):Int)))]) 6 25,ZrZ M [(2, .box [.row 3 0]),(3, .row Zal (Zg3 b y) 0 0 none)]),fun y=>(y≤List.length b.2.2.2),fun y=>(List.length b.2.2.2 - y)⟩
  | _,_,_=>⟨Unit,fun _=>([],[]),fun _=>False,fun _=>0⟩
def Znq (b:Zaw):List AC:=[.str b.1, .int .i64 b.2.1, .int .i64 b.2.2.1, .hs .no ZaF b.2.2.2]
theorem ZBI (b:Zaw) (hpre:List.length b.2.2.2≤1048576):Zai Tryz.prog 83 [.ag (cellsOf Zaf b)] (.ag [.row 0 0]) [.row Zal (Zi2 b) 0 0 none]:=by
  refine Zc2 (T:=⟨[],[],[],[],none,fun i=>match i with | 3=>[⟨some 2,0,Zal⟩] | _=>[],0,[],[]⟩) (L:=(ZBH b)) Tryz.func83 ⟨⟨rfl,rfl⟩,rfl⟩ (fun hwf=>?_)
  refine Eq.mpr (β:=(T6 ((∃ q:Nat,(q≤List.length b.2.2.2)∧((lxs [.ag (Znq b), .c (.bp 0 0), .c (.bp 1 0), .c (.bp 2 0)] (vI 0 q∧lxs [.ag [.raw (.slice none 0 0)]] (TN 25 (lxs [.tp []] True))))∧pt (lb (.box (Znq b))∧lb (.box [.raw (.slice none 0 0)])∧lb (.box [.row 3 0])∧leB (.row Zal ([]:List ZbB) 0 0 none) (.row Zal (Zg3 b q) 0 0 none)∧True)))∧∀ y0:Nat,(y0≤List.length b.2.2.2)→(T5 (bif (ltI y0 (List.length b.2.2.2)) then ((pt (true=true))∧(T5 ((ix 3 y0 (List.length b.2.2.2))∧(T5 ((ix 3 y0 (List.length b.2.2.2))∧(T4 ((True∧List.length (Zg3 b y0) + List.length ([((Zay b.2.2.2 y0).1,(Zay b.2.2.2 y0).2.1)])≤rowMax)∧(T5 (∃ y0' : Nat,(y0'≤List.length b.2.2.2)∧(List.length b.2.2.2 - y0') < (List.length b.2.2.2 - y0)∧((lxs [.ag (Znq b), .c (.bp 0 0), .c (.bp 1 0), .c (.bp 2 0)] (vI (w64 ((y0:Int) + 1)) y0'∧lxs [.ag [.raw (.slice none 0 0)]] (TN 25 (lxs [.tp []] True))))∧pt (lb (.box (Znq b))∧lb (.box [.raw (.slice none 0 0)])∧lb (.box [.row 3 0])∧leB (.row Zal (Zg3 b y0 ++ [((Zay b.2.2.2 y0).1,(Zay b.2.2.2 y0).2.1)]) 0 0 none) (.row Zal (Zg3 b y0') 0 0 none)∧True))))))))))) else (T2 (pt ((((Zg3 b y0)=(Zi2 b))∧True))))))))) (by kernel_rfl) ?_
  unfold Znq T2 T4 T5 T6
  exact ZuU
def ZBJ:Zat Tryz.prog:=⟨83,[.s Zaf],fun x=>List.length x.1.2.2.2≤1048576,fun x=>.ag [.row 0 0],fun x=>[.row Zal (Zi2 x.1) 0 0 none],fun x hx=>ZBI x.1 hx,Tryz.call83⟩
theorem Ztx (st:Zau) (s:Zac):Zai Tryz.prog 41 [.ag (cellsOf Zbr st), .ag (cellsOf Zag s)] (.c (.bool (ZjE st s))) []:=by
  refine bc0 [ZCW,ZgP,ZBG,ZlD] [] [] [] L0 Tryz.func41 (fun hwf=>?_)
  exact ZuZ
def Zty:Zat Tryz.prog:=⟨41,[.s Zbr, .s Zag],fun x=>True,fun x=>.c (.bool (ZjE x.1 x.2.1)),fun _=>[],fun x hx=>Ztx x.1 x.2.1,Tryz.call41⟩
theorem Ztz (st:Zau) (s:Zac):Zai Tryz.prog 33 [.ag (cellsOf Zbr st), .ag (cellsOf Zag s)] (.c (.bool (ZjE st s))) []:=by
  refine bc0 [ZCY,ZgQ,ZBJ,ZlE] [] [] [] L0 Tryz.func33 (fun hwf=>?_)
  exact ZuZ
def ZtA:Zat Tryz.prog:=⟨33,[.s Zbr, .s Zag],fun x=>True,fun x=>.c (.bool (ZjE x.1 x.2.1)),fun _=>[],fun x hx=>Ztz x.1 x.2.1,Tryz.call33⟩
end Go.Proofs.YtkompmgleojmlaaGreat
