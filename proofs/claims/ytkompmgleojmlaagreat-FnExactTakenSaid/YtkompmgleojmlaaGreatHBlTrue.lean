import Derived.Test.YtkompmgleojmlaaGreatHBlName
import Derived.Test.YtkompmgleojmlaaGreatHBlSm
import Derived.Test.YtkompmgleojmlaaGreatHEqB
set_option linter.unusedSimpArgs false
set_option linter.unusedVariables false
set_option maxRecDepth 100000
set_option maxHeartbeats 4000000
namespace Go.Proofs.YtkompmgleojmlaaGreat
open Go.ChangeShapes Go.WideShapes Go.ChangeAt Go.RowKit Go.Joins Go.Deep
open GoRep (rep bulk)
def Zk0 (b:ZaM):Zv5:=b.2.2.2.map (fun m=>(m.1,m.2.1))
def ZiQ (b:ZaM) (k:Nat):List ZHs:=(List.take k b.2.2.2).map (fun m=>(m.1,m.2.1))
def ZlG (st:ZaI) (s:Zad):Bool:=if s.2.1=3 then ((Zlv st s.2.2.1 s.2.2.2.1).2 && (geI (boxW st.1 s.2.2.1) 0 && Zbw (Zk0 (Zlv st s.2.2.1 s.2.2.2.1).1) s.2.2.2.2.1)) else true
theorem ZsU:∀ {log:List Zax} {l:List ZaM},Zb1 l→Zb1 (Zdl l log).1
 | [],_,h=>h
 | m :: r,l,h=>by
  unfold Zdl
  split
  ·rename_i hm
   exact ZsU (Zle hm)
  ·exact h
theorem Zvj (st:ZaI) (n:Int):Zb1 (Zgy st n):=ZsU ⟨Nat.zero_le _,fun x hx=>by cases hx⟩
theorem ZGx (st:ZaI) (v n:Int):List.length (Zlv st v n).1.2.2.2≤1048576:=by
 unfold Zlv
 split
 ·exact Nat.zero_le _
 ·exact ZtC (Zvj st n) _
def ZGy (b:ZaM):Nat→List AV→Mem→Zbj
 | 3,tm,M=>⟨Nat,fun y=>(Zcn (ZcC tm [(5, .any),(10, .c (.int .i64 ((y:Nat):Int)))]) 11 14,ZlQ M [(2, .box [.row 3 0]),(3, .row Zay (ZiQ b y) 0 0 none)]),fun y=>(y≤List.length b.2.2.2),fun y=>(List.length b.2.2.2 - y)⟩
 | _,_,_=>⟨Unit,fun _=>([],[]),fun _=>False,fun _=>0⟩
def Zqc (b:ZaM):List AC:=[.str b.1, .int .i64 b.2.1, .int .i64 b.2.2.1, .hs .no ZaU b.2.2.2]
theorem ZGz (b:ZaM) (hpre:List.length b.2.2.2≤1048576):Zam Tryz.prog 106 [.ag (cellsOf Zaj b)] (.ag [.row 0 0]) [.row Zay (Zk0 b) 0 0 none]:=by
 refine ZcY (T:=⟨[],[],[],[],none,fun i=>match i with | 3=>[⟨some 2,0,Zay⟩] | _=>[],0,[],[]⟩) (L:=(ZGy b)) Tryz.func106 ⟨⟨rfl,rfl⟩,rfl⟩ (fun hwf=>?_)
 refine Eq.mpr (β:=T9 ((∃ q:Nat,(q≤b.2.2.2.length)∧lxs [.ag (Zqc b), .c (.bp 0 0), .c (.bp 1 0), .c (.bp 2 0), .tp []] (True∧lxs [.ag [.raw (.slice none 0 0)], .c (.bp 0 3),hn ZaU b.2.2.2,ci b.2.2.2.length] (vI 0 q∧TN 14 (lxs [.tp []] True)))∧pt (lb (.box (Zqc b))∧lb (.box [.raw (.slice none 0 0)])∧lb (.box [.row 3 0])∧leB (.row Zay ([]:List ZbX) 0 0 none) (.row Zay (ZiQ b q) 0 0 none)∧True))∧∀ y0:Nat,(y0≤b.2.2.2.length)→True∧bif ltI y0 b.2.2.2.length then ix 3 y0 b.2.2.2.length∧T11 ((True∧List.length (ZiQ b y0) + List.length ([((ZaG b.2.2.2 y0).1,(ZaG b.2.2.2 y0).2.1)])≤rowMax)∧T4 (∃ y0' : Nat,(y0'≤b.2.2.2.length)∧(b.2.2.2.length - y0') < (b.2.2.2.length - y0)∧lxs [.ag (Zqc b), .c (.bp 0 0), .c (.bp 1 0), .c (.bp 2 0), .tp []] (True∧lxs [.ag [.raw (.slice none 0 0)], .c (.bp 0 3),hn ZaU b.2.2.2,ci b.2.2.2.length] (vI (w64 ((y0:Int) + 1)) y0'∧TN 14 (lxs [.tp []] True)))∧pt (lb (.box (Zqc b))∧lb (.box [.raw (.slice none 0 0)])∧lb (.box [.row 3 0])∧leB (.row Zay (ZiQ b y0 ++ [((ZaG b.2.2.2 y0).1,(ZaG b.2.2.2 y0).2.1)]) 0 0 none) (.row Zay (ZiQ b y0') 0 0 none)∧True))) else T2 (pt (((ZiQ b y0)=Zk0 b∧True))))) (by kernel_rfl) ?_
 unfold Zqc T11 T2 T4 T9
 exact ZyV
def ZGA:ZaC Tryz.prog:=⟨106,[.s Zaj],fun x=>List.length x.1.2.2.2≤1048576,fun x=>.ag [.row 0 0],fun x=>[.row Zay (Zk0 x.1) 0 0 none],fun x hx=>ZGz x.1 hx,Tryz.call106⟩
def ZGB (b:ZaM):Nat→List AV→Mem→Zbj
 | 3,tm,M=>⟨Nat,fun y=>(Zcn (ZcC tm [(4, .c (.int .i64 ((y:Nat):Int)))]) 6 25,ZlQ M [(2, .box [.row 3 0]),(3, .row Zay (ZiQ b y) 0 0 none)]),fun y=>(y≤List.length b.2.2.2),fun y=>(List.length b.2.2.2 - y)⟩
 | _,_,_=>⟨Unit,fun _=>([],[]),fun _=>False,fun _=>0⟩
def Zqd (b:ZaM):List AC:=[.str b.1, .int .i64 b.2.1, .int .i64 b.2.2.1, .hs .no ZaU b.2.2.2]
theorem ZGC (b:ZaM) (hpre:List.length b.2.2.2≤1048576):Zam Tryz.prog 83 [.ag (cellsOf Zaj b)] (.ag [.row 0 0]) [.row Zay (Zk0 b) 0 0 none]:=by
 refine ZcY (T:=⟨[],[],[],[],none,fun i=>match i with | 3=>[⟨some 2,0,Zay⟩] | _=>[],0,[],[]⟩) (L:=(ZGB b)) Tryz.func83 ⟨⟨rfl,rfl⟩,rfl⟩ (fun hwf=>?_)
 refine Eq.mpr (β:=T6 ((∃ q:Nat,(q≤b.2.2.2.length)∧lxs [.ag (Zqd b), .c (.bp 0 0), .c (.bp 1 0), .c (.bp 2 0)] (vI 0 q∧lxs [.ag [.raw (.slice none 0 0)]] (TN 25 (lxs [.tp []] True)))∧pt (lb (.box (Zqd b))∧lb (.box [.raw (.slice none 0 0)])∧lb (.box [.row 3 0])∧leB (.row Zay ([]:List ZbX) 0 0 none) (.row Zay (ZiQ b q) 0 0 none)∧True))∧∀ y0:Nat,(y0≤b.2.2.2.length)→T5 (bif ltI y0 b.2.2.2.length then pt (true=true)∧T5 (ix 3 y0 b.2.2.2.length∧T5 (ix 3 y0 b.2.2.2.length∧T4 ((True∧List.length (ZiQ b y0) + List.length ([((ZaG b.2.2.2 y0).1,(ZaG b.2.2.2 y0).2.1)])≤rowMax)∧T5 (∃ y0' : Nat,(y0'≤b.2.2.2.length)∧(b.2.2.2.length - y0') < (b.2.2.2.length - y0)∧lxs [.ag (Zqd b), .c (.bp 0 0), .c (.bp 1 0), .c (.bp 2 0)] (vI (w64 ((y0:Int) + 1)) y0'∧lxs [.ag [.raw (.slice none 0 0)]] (TN 25 (lxs [.tp []] True)))∧pt (lb (.box (Zqd b))∧lb (.box [.raw (.slice none 0 0)])∧lb (.box [.row 3 0])∧leB (.row Zay (ZiQ b y0 ++ [((ZaG b.2.2.2 y0).1,(ZaG b.2.2.2 y0).2.1)]) 0 0 none) (.row Zay (ZiQ b y0') 0 0 none)∧True))))) else T2 (pt (((ZiQ b y0)=Zk0 b∧True)))))) (by kernel_rfl) ?_
 unfold Zqd T2 T4 T5 T6
 exact ZyV
def ZGD:ZaC Tryz.prog:=⟨83,[.s Zaj],fun x=>List.length x.1.2.2.2≤1048576,fun x=>.ag [.row 0 0],fun x=>[.row Zay (Zk0 x.1) 0 0 none],fun x hx=>ZGC x.1 hx,Tryz.call83⟩
theorem Zxq (st:ZaI) (s:Zad):Zam Tryz.prog 41 [.ag (cellsOf ZbJ st), .ag (cellsOf Zae s)] (.c (.bool (ZlG st s))) []:=by
 refine bc0 [ZH2,ZiD,ZGA,ZnP] [] [] [] L0 Tryz.func41 (fun hwf=>?_)
 exact Zy2
def Zxr:ZaC Tryz.prog:=⟨41,[.s ZbJ, .s Zae],fun x=>True,fun x=>.c (.bool (ZlG x.1 x.2.1)),fun _=>[],fun x hx=>Zxq x.1 x.2.1,Tryz.call41⟩
theorem Zxs (st:ZaI) (s:Zad):Zam Tryz.prog 33 [.ag (cellsOf ZbJ st), .ag (cellsOf Zae s)] (.c (.bool (ZlG st s))) []:=by
 refine bc0 [ZH4,ZiE,ZGD,ZnQ] [] [] [] L0 Tryz.func33 (fun hwf=>?_)
 exact Zy2
def Zxt:ZaC Tryz.prog:=⟨33,[.s ZbJ, .s Zae],fun x=>True,fun x=>.c (.bool (ZlG x.1 x.2.1)),fun _=>[],fun x hx=>Zxs x.1 x.2.1,Tryz.call33⟩
end Go.Proofs.YtkompmgleojmlaaGreat
