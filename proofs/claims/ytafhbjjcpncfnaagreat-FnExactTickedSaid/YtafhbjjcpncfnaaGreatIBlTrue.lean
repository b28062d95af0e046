import Derived.Test.YtafhbjjcpncfnaaGreatIBlName
import Derived.Test.YtafhbjjcpncfnaaGreatIBlSm
import Derived.Test.YtafhbjjcpncfnaaGreatIEqB
set_option linter.unusedSimpArgs false
set_option linter.unusedVariables false
set_option maxRecDepth 100000
set_option maxHeartbeats 4000000
namespace Go.Proofs.YtafhbjjcpncfnaaGreat
open Go.ChangeShapes Go.WideShapes Go.ChangeAt Go.RowKit Go.Joins Go.Deep
open GoRep (rep bulk)
def ZkY (b:ZaO):ZvY:=b.2.2.2.map (fun m=>(m.1,m.2.1))
def ZiS (b:ZaO) (k:Nat):List ZHf:=(List.take k b.2.2.2).map (fun m=>(m.1,m.2.1))
def ZlF (st:ZaI) (s:Zad):Bool:=if s.2.1=3 then ((Zlu st s.2.2.1 s.2.2.2.1).2 && (geI (boxW st.1 s.2.2.1) 0 && Zbt (ZkY (Zlu st s.2.2.1 s.2.2.2.1).1) s.2.2.2.2.1)) else true
theorem ZsK:∀ {log:List ZaA} {l:List ZaO},ZbZ l→ZbZ (Zdk l log).1
 | [],_,h=>h
 | m :: r,l,h=>by
  unfold Zdk
  split
  ·rename_i hm
   exact ZsK (Zle hm)
  ·exact h
theorem Zvd (st:ZaI) (n:Int):ZbZ (Zgz st n):=ZsK ⟨Nat.zero_le _,fun x hx=>by cases hx⟩
theorem ZGi (st:ZaI) (v n:Int):List.length (Zlu st v n).1.2.2.2≤1048576:=by
 unfold Zlu
 split
 ·exact Nat.zero_le _
 ·exact Ztr (Zvd st n) _
def ZGj (b:ZaO):Nat→List AV→Mem→Zbd
 | 3,tm,M=>⟨Nat,fun y=>(Zcf (Zct tm [(5, .any),(10, .c (.int .i64 ((y:Nat):Int)))]) 11 14,Zky M [(2, .box [.row 3 0]),(3, .row Zay (ZiS b y) 0 0 none)]),fun y=>(y≤List.length b.2.2.2),fun y=>(List.length b.2.2.2 - y)⟩
 | _,_,_=>⟨Unit,fun _=>([],[]),fun _=>False,fun _=>0⟩
def Zp7 (b:ZaO):List AC:=[.str b.1, .int .i64 b.2.1, .int .i64 b.2.2.1, .hs .no ZaR b.2.2.2]
theorem ZGk (b:ZaO) (hpre:List.length b.2.2.2≤1048576):Zao Tryz.prog 124 [.ag (cellsOf Zaj b)] (.ag [.row 0 0]) [.row Zay (ZkY b) 0 0 none]:=by
 refine ZcS (T:=⟨[],[],[],[],none,fun i=>match i with | 3=>[⟨some 2,0,Zay⟩] | _=>[],0,[],[]⟩) (L:=(ZGj b)) Tryz.func124 ⟨⟨rfl,rfl⟩,rfl⟩ (fun hwf=>?_)
 refine Eq.mpr (β:=T9 ((∃ q:Nat,(q≤b.2.2.2.length)∧lxs [.ag (Zp7 b), .c (.bp 0 0), .c (.bp 1 0), .c (.bp 2 0), .tp []] (True∧lxs [.ag [.raw (.slice none 0 0)], .c (.bp 0 3),hn ZaR b.2.2.2,ci b.2.2.2.length] (vI 0 q∧TN 14 (lxs [.tp []] True)))∧pt (lb (.box (Zp7 b))∧lb (.box [.raw (.slice none 0 0)])∧lb (.box [.row 3 0])∧leB (.row Zay ([]:List ZbT) 0 0 none) (.row Zay (ZiS b q) 0 0 none)∧True))∧∀ y0:Nat,(y0≤b.2.2.2.length)→True∧bif ltI y0 b.2.2.2.length then ix 3 y0 b.2.2.2.length∧T11 ((True∧List.length (ZiS b y0) + List.length ([((ZaG b.2.2.2 y0).1,(ZaG b.2.2.2 y0).2.1)])≤rowMax)∧T4 (∃ y0' : Nat,(y0'≤b.2.2.2.length)∧(b.2.2.2.length - y0') < (b.2.2.2.length - y0)∧lxs [.ag (Zp7 b), .c (.bp 0 0), .c (.bp 1 0), .c (.bp 2 0), .tp []] (True∧lxs [.ag [.raw (.slice none 0 0)], .c (.bp 0 3),hn ZaR b.2.2.2,ci b.2.2.2.length] (vI (w64 ((y0:Int) + 1)) y0'∧TN 14 (lxs [.tp []] True)))∧pt (lb (.box (Zp7 b))∧lb (.box [.raw (.slice none 0 0)])∧lb (.box [.row 3 0])∧leB (.row Zay (ZiS b y0 ++ [((ZaG b.2.2.2 y0).1,(ZaG b.2.2.2 y0).2.1)]) 0 0 none) (.row Zay (ZiS b y0') 0 0 none)∧True))) else T2 (pt (((ZiS b y0)=ZkY b∧True))))) (by kernel_rfl) ?_
 unfold Zp7 T11 T2 T4 T9
 exact ZyW
def ZGl:ZaE Tryz.prog:=⟨124,[.s Zaj],fun x=>List.length x.1.2.2.2≤1048576,fun x=>.ag [.row 0 0],fun x=>[.row Zay (ZkY x.1) 0 0 none],fun x hx=>ZGk x.1 hx,Tryz.call124⟩
def ZGm (b:ZaO):Nat→List AV→Mem→Zbd
 | 3,tm,M=>⟨Nat,fun y=>(Zcf (Zct tm [(4, .c (.int .i64 ((y:Nat):Int)))]) 6 25,Zky M [(2, .box [.row 3 0]),(3, .row Zay (ZiS b y) 0 0 none)]),fun y=>(y≤List.length b.2.2.2),fun y=>(List.length b.2.2.2 - y)⟩
 | _,_,_=>⟨Unit,fun _=>([],[]),fun _=>False,fun _=>0⟩
def Zp8 (b:ZaO):List AC:=[.str b.1, .int .i64 b.2.1, .int .i64 b.2.2.1, .hs .no ZaR b.2.2.2]
theorem ZGn (b:ZaO) (hpre:List.length b.2.2.2≤1048576):Zao Tryz.prog 92 [.ag (cellsOf Zaj b)] (.ag [.row 0 0]) [.row Zay (ZkY b) 0 0 none]:=by
 refine ZcS (T:=⟨[],[],[],[],none,fun i=>match i with | 3=>[⟨some 2,0,Zay⟩] | _=>[],0,[],[]⟩) (L:=(ZGm b)) Tryz.func92 ⟨⟨rfl,rfl⟩,rfl⟩ (fun hwf=>?_)
 refine Eq.mpr (β:=T6 ((∃ q:Nat,(q≤b.2.2.2.length)∧lxs [.ag (Zp8 b), .c (.bp 0 0), .c (.bp 1 0), .c (.bp 2 0)] (vI 0 q∧lxs [.ag [.raw (.slice none 0 0)]] (TN 25 (lxs [.tp []] True)))∧pt (lb (.box (Zp8 b))∧lb (.box [.raw (.slice none 0 0)])∧lb (.box [.row 3 0])∧leB (.row Zay ([]:List ZbT) 0 0 none) (.row Zay (ZiS b q) 0 0 none)∧True))∧∀ y0:Nat,(y0≤b.2.2.2.length)→T5 (bif ltI y0 b.2.2.2.length then pt (true=true)∧T5 (ix 3 y0 b.2.2.2.length∧T5 (ix 3 y0 b.2.2.2.length∧T4 ((True∧List.length (ZiS b y0) + List.length ([((ZaG b.2.2.2 y0).1,(ZaG b.2.2.2 y0).2.1)])≤rowMax)∧T5 (∃ y0' : Nat,(y0'≤b.2.2.2.length)∧(b.2.2.2.length - y0') < (b.2.2.2.length - y0)∧lxs [.ag (Zp8 b), .c (.bp 0 0), .c (.bp 1 0), .c (.bp 2 0)] (vI (w64 ((y0:Int) + 1)) y0'∧lxs [.ag [.raw (.slice none 0 0)]] (TN 25 (lxs [.tp []] True)))∧pt (lb (.box (Zp8 b))∧lb (.box [.raw (.slice none 0 0)])∧lb (.box [.row 3 0])∧leB (.row Zay (ZiS b y0 ++ [((ZaG b.2.2.2 y0).1,(ZaG b.2.2.2 y0).2.1)]) 0 0 none) (.row Zay (ZiS b y0') 0 0 none)∧True))))) else T2 (pt (((ZiS b y0)=ZkY b∧True)))))) (by kernel_rfl) ?_
 unfold Zp8 T2 T4 T5 T6
 exact ZyW
def ZGo:ZaE Tryz.prog:=⟨92,[.s Zaj],fun x=>List.length x.1.2.2.2≤1048576,fun x=>.ag [.row 0 0],fun x=>[.row Zay (ZkY x.1) 0 0 none],fun x hx=>ZGn x.1 hx,Tryz.call92⟩
theorem Zxs (st:ZaI) (s:Zad):Zao Tryz.prog 48 [.ag (cellsOf ZbJ st), .ag (cellsOf Zae s)] (.c (.bool (ZlF st s))) []:=by
 refine bc0 [ZHJ,ZiE,ZGl,ZnN] [] [] [] L0 Tryz.func48 (fun hwf=>?_)
 exact Zy1
def Zxt:ZaE Tryz.prog:=⟨48,[.s ZbJ, .s Zae],fun x=>True,fun x=>.c (.bool (ZlF x.1 x.2.1)),fun _=>[],fun x hx=>Zxs x.1 x.2.1,Tryz.call48⟩
theorem Zxu (st:ZaI) (s:Zad):Zao Tryz.prog 37 [.ag (cellsOf ZbJ st), .ag (cellsOf Zae s)] (.c (.bool (ZlF st s))) []:=by
 refine bc0 [ZHL,ZiF,ZGo,ZnO] [] [] [] L0 Tryz.func37 (fun hwf=>?_)
 exact Zy1
def Zxv:ZaE Tryz.prog:=⟨37,[.s ZbJ, .s Zae],fun x=>True,fun x=>.c (.bool (ZlF x.1 x.2.1)),fun _=>[],fun x hx=>Zxu x.1 x.2.1,Tryz.call37⟩
end Go.Proofs.YtafhbjjcpncfnaaGreat
