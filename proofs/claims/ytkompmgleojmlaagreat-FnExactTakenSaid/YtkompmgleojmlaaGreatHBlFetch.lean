import Derived.Test.YtkompmgleojmlaaGreatHBlLib
import Derived.Test.YtkompmgleojmlaaGreatHLawA
set_option linter.unusedSimpArgs false
set_option linter.unusedVariables false
set_option maxRecDepth 100000
set_option maxHeartbeats 4000000
namespace Go.Proofs.YtkompmgleojmlaaGreat
open Go.ChangeShapes Go.WideShapes Go.ChangeAt Go.RowKit Go.Joins Go.Deep
open GoRep (rep bulk)
def ZiC (l:List ZaM) (n:ByteArray):Int:=Zf2 (fun z0:ZaM=>eqS z0.1 n) l
theorem Zr8 (b:ZaM) (name:ByteArray):Zam Tryz.prog 291 [.ag (cellsOf Zaj b), .c (.ep .no ZaW ([name]) 0 0)] (.c (.bool (eqS b.1 name))) []:=by
 refine bc0 [] [] [] [] L0 Tryz.func291 (fun hwf=>?_)
 refine Eq.mpr (β:=T7 (rB (eqS b.1 name) (eqS b.1 name))) (by kernel_rfl) ?_
 exact ZrA
def Zr9:ZaC Tryz.prog:=⟨291,[.s Zaj, .p ZaW],fun x=>True,fun x=>.c (.bool (eqS x.1.1 x.2.1)),fun _=>[],fun x hx=>Zr8 x.1 x.2.1,Tryz.call291⟩
theorem Zwn (list:List ZaM) (name:ByteArray):Zam Tryz.prog 270 [.c (.hs .no Zaj list), .c (.str name)] (.c (.int .i64 (ZiC list name))) []:=by
 refine bc0 [Zr9] [ZdD] [] [] L0 Tryz.func270 (fun hwf=>?_)
 refine Eq.mpr (β:=T4 (((∀ z0:ZaM,True∧True)∧∀ (_:ZaM→Bool) (_:List ZaM),true=true)∧True∧rI (Zf2 (fun z0:ZaM=>eqS z0.1 name) list) (ZiC list name))) (by kernel_rfl) ?_
 simp only [SIA,eq_self]
 exact ZrN
def Zwo:ZaC Tryz.prog:=⟨270,[.v (.list Zaj), .v ZaW],fun x=>True,fun x=>.c (.int .i64 (ZiC x.1 x.2.1)),fun _=>[],fun x hx=>Zwn x.1 x.2.1,Tryz.call270⟩
def Zwp (list:List ZaM) (name:ByteArray):Nat→List AV→Mem→Zbj
 | 2,tm,M=>⟨Nat,fun y=>(Zcn (ZcC tm [(4, .any),(5, .c (.int .i64 ((y:Nat):Int)))]) 6 14,M),fun y=>(y≤List.length list∧∀ j,j < y→eqS (Zab list j).1 name=false),fun y=>(List.length list - y)⟩
 | _,_,_=>⟨Unit,fun _=>([],[]),fun _=>False,fun _=>0⟩
theorem Zwq (list:List ZaM) (name:ByteArray):Zam Tryz.prog 263 [.c (.hs .no Zaj list), .c (.str name)] (.c (.int .i64 (ZiC list name))) []:=by
 refine bc0 [] [] [] [] (Zwp list name) Tryz.func263 (fun hwf=>?_)
 refine Eq.mpr (β:=T2 ((∃ q:Nat,(q≤list.length∧∀ j,j < q→eqS (Zab list j).1 name=false)∧lxs [hn Zaj list, .c (.str name), .tp [], .tp []] (True∧vI 0 q∧TN 14 True)∧pt (True))∧∀ y0:Nat,(y0≤list.length∧∀ j,j < y0→eqS (Zab list j).1 name=false)→T4 (bif ltI y0 list.length then T2 (ix 4 y0 list.length∧T4 (bif eqS (Zab list y0).1 name then T2 (rI (y0:Int) (ZiC list name)) else T3 (∃ y0' : Nat,(y0'≤list.length∧∀ j,j < y0'→eqS (Zab list j).1 name=false)∧(list.length - y0') < (list.length - y0)∧lxs [hn Zaj list, .c (.str name), .tp [], .tp []] (True∧vI (w64 ((y0:Int) + 1)) y0'∧TN 14 True)∧pt (True)))) else True∧rI (-1) (ZiC list name)))) (by kernel_rfl) ?_
 unfold T2 T3 T4
 simp only [SIA,eq_self]
 have hm:list.length≤maxLen:=hwf.1.1
 refine ⟨⟨0,⟨Nat.zero_le _,Za7⟩,rfl⟩,fun k hk=>⟨fun hlt=>⟨by omega,fun hp=>?_,fun hp=>?_⟩,fun hge=>?_⟩⟩
 ·have hk' : k < list.length:=by omega
  exact (Zfs (t:=Zaj) (p:=fun z0:ZaM=>eqS z0.1 name) (xs:=list) hk' (fun j hj=>Zbv.2 (hk.2 j hj)) (Zbp.2 hp)).symm
 ·exact ZdA
 ·obtain rfl:k=list.length:=by omega
  exact (Zcw (t:=Zaj) (p:=fun z0:ZaM=>eqS z0.1 name) (fun j hj=>Zbv.2 (hk.2 j hj))).symm
def Zwr:ZaC Tryz.prog:=⟨263,[.v (.list Zaj), .v ZaW],fun x=>True,fun x=>.c (.int .i64 (ZiC x.1 x.2.1)),fun _=>[],fun x hx=>Zwq x.1 x.2.1,Tryz.call263⟩
set_option maxRecDepth 100000
set_option maxHeartbeats 4000000
def boxW (l:List ZaM) (u:Int):Int:=Zf2 (fun z0:ZaM=>eqI z0.2.1 u) l
def Zb6 (l:List Zds) (u:Int):Int:=Zf2 (fun z0:Zds=>eqI z0.1 u) l
theorem Zud (x:ZaM) (validity:Int):Zam Tryz.prog 184 [.ag (cellsOf Zaj x), .c (.ep .no Zaz ([validity]) 0 0)] (.c (.bool (eqI x.2.1 validity))) []:=by
 refine bc0 [] [] [] [] L0 Tryz.func184 (fun hwf=>?_)
 refine Eq.mpr (β:=T7 (rB (eqI x.2.1 validity) (eqI x.2.1 validity))) (by kernel_rfl) ?_
 exact ZrA
def Zue:ZaC Tryz.prog:=⟨184,[.s Zaj, .p Zaz],fun x=>True,fun x=>.c (.bool (eqI x.1.2.1 x.2.1)),fun _=>[],fun x hx=>Zud x.1 x.2.1,Tryz.call184⟩
theorem Zpf (list:List ZaM) (validity:Int):Zam Tryz.prog 104 [.c (.hs .no Zaj list), .c (.int .i64 validity)] (.c (.int .i64 (boxW list validity))) []:=by
 refine bc0 [Zue] [ZdD] [] [] L0 Tryz.func104 (fun hwf=>?_)
 refine Eq.mpr (β:=T4 (((∀ z0:ZaM,True∧True)∧∀ (_:ZaM→Bool) (_:List ZaM),true=true)∧True∧rI (Zf2 (fun z0:ZaM=>eqI z0.2.1 validity) list) (boxW list validity))) (by kernel_rfl) ?_
 simp only [Zdq,eq_self]
 exact ZrN
def ZiD:ZaC Tryz.prog:=⟨104,[.v (.list Zaj), .v Zaz],fun x=>True,fun x=>.c (.int .i64 (boxW x.1 x.2.1)),fun _=>[],fun x hx=>Zpf x.1 x.2.1,Tryz.call104⟩
def ZBU (list:List ZaM) (validity:Int):Nat→List AV→Mem→Zbj
 | 2,tm,M=>⟨Nat,fun y=>(Zcn (ZcC tm [(4, .any),(5, .c (.int .i64 ((y:Nat):Int)))]) 6 14,M),fun y=>(y≤List.length list∧∀ j,j < y→eqI (Zab list j).2.1 validity=false),fun y=>(List.length list - y)⟩
 | _,_,_=>⟨Unit,fun _=>([],[]),fun _=>False,fun _=>0⟩
theorem Zlt (list:List ZaM) (validity:Int):Zam Tryz.prog 81 [.c (.hs .no Zaj list), .c (.int .i64 validity)] (.c (.int .i64 (boxW list validity))) []:=by
 refine bc0 [] [] [] [] (ZBU list validity) Tryz.func81 (fun hwf=>?_)
 refine Eq.mpr (β:=T2 ((∃ q:Nat,(q≤list.length∧∀ j,j < q→eqI (Zab list j).2.1 validity=false)∧lxs [hn Zaj list,ci validity, .tp [], .tp []] (True∧vI 0 q∧TN 14 True)∧pt (True))∧∀ y0:Nat,(y0≤list.length∧∀ j,j < y0→eqI (Zab list j).2.1 validity=false)→T4 (bif ltI y0 list.length then T2 (ix 4 y0 list.length∧T4 (bif eqI (Zab list y0).2.1 validity then T2 (rI (y0:Int) (boxW list validity)) else T3 (∃ y0' : Nat,(y0'≤list.length∧∀ j,j < y0'→eqI (Zab list j).2.1 validity=false)∧(list.length - y0') < (list.length - y0)∧lxs [hn Zaj list,ci validity, .tp [], .tp []] (True∧vI (w64 ((y0:Int) + 1)) y0'∧TN 14 True)∧pt (True)))) else True∧rI (-1) (boxW list validity)))) (by kernel_rfl) ?_
 unfold T2 T3 T4
 simp only [Zdq,eq_self]
 have hm:List.length list≤maxLen:=hwf.1.1
 refine ⟨⟨0,⟨Nat.zero_le _,Za7⟩,rfl⟩,fun k hk=>⟨fun hlt=>⟨by omega,fun hp=>?_,fun hp=>?_⟩,fun hge=>?_⟩⟩
 ·have hk' : k < List.length list:=by omega
  have e:=Zfs (t:=Zaj) (p:=(fun z0:ZaM=>eqI z0.2.1 validity)) (xs:=list) hk' (fun j hj=>ZaT.2 (hk.2 j hj)) (ZaJ.2 hp)
  exact e.symm
 ·exact ZdA
 ·obtain rfl:k=List.length list:=by omega
  have e:=Zcw (t:=Zaj) (p:=(fun z0:ZaM=>eqI z0.2.1 validity)) (fun j hj=>ZaT.2 (hk.2 j hj))
  exact e.symm
def ZiE:ZaC Tryz.prog:=⟨81,[.v (.list Zaj), .v Zaz],fun x=>True,fun x=>.c (.int .i64 (boxW x.1 x.2.1)),fun _=>[],fun x hx=>Zlt x.1 x.2.1,Tryz.call81⟩
theorem Zuf (x:Zds) (uid:Int):Zam Tryz.prog 272 [.ag [.int .i64 x.1, .int .i64 x.2.1, .str x.2.2], .c (.ep .no Zaz ([uid]) 0 0)] (.c (.bool (eqI x.1 uid))) []:=by
 refine bc0 [] [] [] [] L0 Tryz.func272 (fun hwf=>?_)
 refine Eq.mpr (β:=T7 (rB (eqI x.1 uid) (eqI x.1 uid))) (by kernel_rfl) ?_
 exact ZrA
def Zug:ZaC Tryz.prog:=⟨272,[.s ZaU, .p Zaz],fun x=>True,fun x=>.c (.bool (eqI x.1.1 x.2.1)),fun _=>[],fun x hx=>Zuf x.1 x.2.1,Tryz.call272⟩
theorem ZBV (b:ZaM) (uid:Int):Zam Tryz.prog 232 [.ag (cellsOf Zaj b), .c (.int .i64 uid)] (.c (.int .i64 (Zb6 b.2.2.2 uid))) []:=by
 refine bc0 [Zug] [ZfC] [] [] L0 Tryz.func232 (fun hwf=>?_)
 refine Eq.mpr (β:=T6 (((∀ z0:Zds,True∧True)∧∀ (_:Zds→Bool) (_:List Zds),true=true)∧True∧rI (Zf2 (fun z0:Zds=>eqI z0.1 uid) b.2.2.2) (Zb6 b.2.2.2 uid))) (by kernel_rfl) ?_
 simp only [Zdq,eq_self]
 exact ZrN
def Zpg:ZaC Tryz.prog:=⟨232,[.s Zaj, .v Zaz],fun x=>True,fun x=>.c (.int .i64 (Zb6 x.1.2.2.2 x.2.1)),fun _=>[],fun x hx=>ZBV x.1 x.2.1,Tryz.call232⟩
def ZBW (b:ZaM) (uid:Int):Nat→List AV→Mem→Zbj
 | 2,tm,M=>⟨Nat,fun y=>(Zcn (ZcC tm [(4, .any),(5, .c (.int .i64 ((y:Nat):Int)))]) 6 16,M),fun y=>(y≤List.length b.2.2.2∧∀ j,j < y→eqI (ZaG b.2.2.2 j).1 uid=false),fun y=>(List.length b.2.2.2 - y)⟩
 | _,_,_=>⟨Unit,fun _=>([],[]),fun _=>False,fun _=>0⟩
def Zph (b:ZaM):List AC:=[.str b.1, .int .i64 b.2.1, .int .i64 b.2.2.1, .hs .no ZaU b.2.2.2]
theorem ZBX (b:ZaM) (uid:Int):Zam Tryz.prog 220 [.ag (cellsOf Zaj b), .c (.int .i64 uid)] (.c (.int .i64 (Zb6 b.2.2.2 uid))) []:=by
 refine bc0 [] [] [] [] (ZBW b uid) Tryz.func220 (fun hwf=>?_)
 refine Eq.mpr (β:=T3 ((∃ q:Nat,(q≤b.2.2.2.length∧∀ j,j < q→eqI (ZaG b.2.2.2 j).1 uid=false)∧lxs [.ag (Zph b),ci uid, .c (.bp 0 0), .tp []] (True∧vI 0 q∧TN 16 True)∧pt (lb (.box (Zph b))∧True))∧∀ y0:Nat,(y0≤b.2.2.2.length∧∀ j,j < y0→eqI (ZaG b.2.2.2 j).1 uid=false)→T5 (bif ltI y0 b.2.2.2.length then T3 (ix 3 y0 b.2.2.2.length∧T4 (bif eqI (ZaG b.2.2.2 y0).1 uid then T2 (rI (y0:Int) (Zb6 b.2.2.2 uid)) else T3 (∃ y0' : Nat,(y0'≤b.2.2.2.length∧∀ j,j < y0'→eqI (ZaG b.2.2.2 j).1 uid=false)∧(b.2.2.2.length - y0') < (b.2.2.2.length - y0)∧lxs [.ag (Zph b),ci uid, .c (.bp 0 0), .tp []] (True∧vI (w64 ((y0:Int) + 1)) y0'∧TN 16 True)∧pt (lb (.box (Zph b))∧True)))) else True∧rI (-1) (Zb6 b.2.2.2 uid)))) (by kernel_rfl) ?_
 unfold Zph T2 T3 T4 T5
 simp only [Zdq,eq_self]
 have hm:List.length b.2.2.2≤maxLen:=hwf.1.2.2.2.1.1
 refine ⟨⟨0,⟨Nat.zero_le _,Za7⟩,rfl⟩,fun k hk=>⟨fun hlt=>⟨by omega,fun hp=>?_,fun hp=>?_⟩,fun hge=>?_⟩⟩
 ·have hk' : k < List.length b.2.2.2:=by omega
  have e:=Zfs (t:=ZaU) (p:=(fun z0:Zds=>eqI z0.1 uid)) (xs:=b.2.2.2) hk' (fun j hj=>ZaT.2 (hk.2 j hj)) (ZaJ.2 hp)
  exact e.symm
 ·exact ZdA
 ·obtain rfl:k=List.length b.2.2.2:=by omega
  have e:=Zcw (t:=ZaU) (p:=(fun z0:Zds=>eqI z0.1 uid)) (fun j hj=>ZaT.2 (hk.2 j hj))
  exact e.symm
def Zpi:ZaC Tryz.prog:=⟨220,[.s Zaj, .v Zaz],fun x=>True,fun x=>.c (.int .i64 (Zb6 x.1.2.2.2 x.2.1)),fun _=>[],fun x hx=>ZBX x.1 x.2.1,Tryz.call220⟩
open GoMark (mrk cnt mrkI cntI)
end Go.Proofs.YtkompmgleojmlaaGreat
