import Derived.Test.YtkompmgleojmlaaGreatDBlLib
import Derived.Test.YtkompmgleojmlaaGreatDLawA
set_option linter.unusedSimpArgs false
set_option linter.unusedVariables false
set_option maxRecDepth 100000
set_option maxHeartbeats 4000000
namespace Go.Proofs.YtkompmgleojmlaaGreat
open Go.ChangeShapes Go.WideShapes Go.ChangeAt Go.RowKit Go.Joins Go.Deep
open GoRep (rep bulk)
def ZgO (l:List Zaw) (n:ByteArray):Int:=ZeC (fun z0:Zaw=>eqS z0.1 n) l
theorem Zpb (b:Zaw) (name:ByteArray):Zai Tryz.prog 291 [.ag (cellsOf Zaf b), .c (.ep .no ZaL ([name]) 0 0)] (.c (.bool (eqS b.1 name))) []:=by
  refine bc0 [] [] [] [] L0 Tryz.func291 (fun hwf=>?_)
  refine Eq.mpr (β:=(T7 (rB (eqS b.1 name) (eqS b.1 name)))) (by kernel_rfl) ?_
  exact ZoK
def Zpc:Zat Tryz.prog:=⟨291,[.s Zaf, .p ZaL],fun x=>True,fun x=>.c (.bool (eqS x.1.1 x.2.1)),fun _=>[],fun x hx=>Zpb x.1 x.2.1,Tryz.call291⟩
theorem ZsK (list:List Zaw) (name:ByteArray):Zai Tryz.prog 270 [.c (.hs .no Zaf list), .c (.str name)] (.c (.int .i64 (ZgO list name))) []:=by
  refine bc0 [Zpc] [ZcC] [] [] L0 Tryz.func270 (fun hwf=>?_)
  refine Eq.mpr (β:=(T4 (((∀ z0:Zaw,True∧True)∧∀ (_:Zaw→Bool) (_:List Zaw),true=true)∧(True∧(rI (ZeC (fun z0:Zaw=>eqS z0.1 name) list) (ZgO list name)))))) (by kernel_rfl) ?_
  simp only [SIA,eq_self]
  exact ZoV
def ZsL:Zat Tryz.prog:=⟨270,[.v (.list Zaf), .v ZaL],fun x=>True,fun x=>.c (.int .i64 (ZgO x.1 x.2.1)),fun _=>[],fun x hx=>ZsK x.1 x.2.1,Tryz.call270⟩
def ZsM (list:List Zaw) (name:ByteArray):Nat→List AV→Mem→Za3
  | 2,tm,M=>⟨Nat,fun y=>(Zb2 (Zcx tm [(4, .any),(5, .c (.int .i64 ((y:Nat):Int)))]) 6 14,M),fun y=>(y≤List.length list∧∀ j,j < y→eqS (Zaa list j).1 name=false),fun y=>(List.length list - y)⟩
  | _,_,_=>⟨Unit,fun _=>([],[]),fun _=>False,fun _=>0⟩
theorem ZsN (list:List Zaw) (name:ByteArray):Zai Tryz.prog 263 [.c (.hs .no Zaf list), .c (.str name)] (.c (.int .i64 (ZgO list name))) []:=by
  refine bc0 [] [] [] [] (ZsM list name) Tryz.func263 (fun hwf=>?_)
  refine Eq.mpr (β:=(T2 ((∃ q:Nat,(q≤List.length list∧∀ j,j < q→eqS (Zaa list j).1 name=false)∧((lxs [hn Zaf list, .c (.str name), .tp [], .tp []] (True∧vI 0 q∧TN 14 True))∧pt (True)))∧∀ y0:Nat,(y0≤List.length list∧∀ j,j < y0→eqS (Zaa list j).1 name=false)→(T4 (bif (ltI y0 (List.length list)) then (T2 ((ix 4 y0 (List.length list))∧(T4 (bif (eqS (Zaa list y0).1 name) then (T2 (rI (y0:Int) (ZgO list name))) else (T3 (∃ y0' : Nat,(y0'≤List.length list∧∀ j,j < y0'→eqS (Zaa list j).1 name=false)∧(List.length list - y0') < (List.length list - y0)∧((lxs [hn Zaf list, .c (.str name), .tp [], .tp []] (True∧vI (w64 ((y0:Int) + 1)) y0'∧TN 14 True))∧pt (True)))))))) else (True∧(rI (-1) (ZgO list name)))))))) (by kernel_rfl) ?_
  unfold T2 T3 T4
  simp only [SIA,eq_self]
  have hm:list.length≤maxLen:=hwf.1.1
  refine ⟨⟨0,⟨Nat.zero_le _,ZaH⟩,rfl⟩,fun k hk=>⟨fun hlt=>⟨by omega,fun hp=>?_,fun hp=>?_⟩,fun hge=>?_⟩⟩
  · have hk' : k < list.length:=by omega
    exact (Zd7 (t:=Zaf) (p:=fun z0:Zaw=>eqS z0.1 name) (xs:=list) hk' (fun j hj=>Za1.2 (hk.2 j hj)) (ZaU.2 hp)).symm
  · exact Zcz
  · obtain rfl:k=list.length:=by omega
    exact (ZbH (t:=Zaf) (p:=fun z0:Zaw=>eqS z0.1 name) (fun j hj=>Za1.2 (hk.2 j hj))).symm
def ZsO:Zat Tryz.prog:=⟨263,[.v (.list Zaf), .v ZaL],fun x=>True,fun x=>.c (.int .i64 (ZgO x.1 x.2.1)),fun _=>[],fun x hx=>ZsN x.1 x.2.1,Tryz.call263⟩
set_option maxRecDepth 100000
set_option maxHeartbeats 4000000
def boxW (l:List Zaw) (u:Int):Int:=ZeC (fun z0:Zaw=>eqI z0.2.1 u) l
def Zbl (l:List Zc7) (u:Int):Int:=ZeC (fun z0:Zc7=>eqI z0.1 u) l
theorem ZqY (x:Zaw) (validity:Int):Zai Tryz.prog 184 [.ag (cellsOf Zaf x), .c (.ep .no ZaC ([validity]) 0 0)] (.c (.bool (eqI x.2.1 validity))) []:=by
  refine bc0 [] [] [] [] L0 Tryz.func184 (fun hwf=>?_)
  refine Eq.mpr (β:=(T7 (rB (eqI x.2.1 validity) (eqI x.2.1 validity)))) (by kernel_rfl) ?_
  exact ZoK
def ZqZ:Zat Tryz.prog:=⟨184,[.s Zaf, .p ZaC],fun x=>True,fun x=>.c (.bool (eqI x.1.2.1 x.2.1)),fun _=>[],fun x hx=>ZqY x.1 x.2.1,Tryz.call184⟩
theorem ZmM (list:List Zaw) (validity:Int):Zai Tryz.prog 104 [.c (.hs .no Zaf list), .c (.int .i64 validity)] (.c (.int .i64 (boxW list validity))) []:=by
  refine bc0 [ZqZ] [ZcC] [] [] L0 Tryz.func104 (fun hwf=>?_)
  refine Eq.mpr (β:=(T4 (((∀ z0:Zaw,True∧True)∧∀ (_:Zaw→Bool) (_:List Zaw),true=true)∧(True∧(rI (ZeC (fun z0:Zaw=>eqI z0.2.1 validity) list) (boxW list validity)))))) (by kernel_rfl) ?_
  simp only [Zdy,eq_self]
  exact ZoV
def ZgP:Zat Tryz.prog:=⟨104,[.v (.list Zaf), .v ZaC],fun x=>True,fun x=>.c (.int .i64 (boxW x.1 x.2.1)),fun _=>[],fun x hx=>ZmM x.1 x.2.1,Tryz.call104⟩
def Zxp (list:List Zaw) (validity:Int):Nat→List AV→Mem→Za3
  | 2,tm,M=>⟨Nat,fun y=>(Zb2 (Zcx tm [(4, .any),(5, .c (.int .i64 ((y:Nat):Int)))]) 6 14,M),fun y=>(y≤List.length list∧∀ j,j < y→eqI (Zaa list j).2.1 validity=false),fun y=>(List.length list - y)⟩
  | _,_,_=>⟨Unit,fun _=>([],[]),fun _=>False,fun _=>0⟩
theorem Zjs (list:List Zaw) (validity:Int):Zai Tryz.prog 81 [.c (.hs .no Zaf list), .c (.int .i64 validity)] (.c (.int .i64 (boxW list validity))) []:=by
  refine bc0 [] [] [] [] (Zxp list validity) Tryz.func81 (fun hwf=>?_)
  refine Eq.mpr (β:=(T2 ((∃ q:Nat,(q≤List.length list∧∀ j,j < q→eqI (Zaa list j).2.1 validity=false)∧((lxs [hn Zaf list,ci validity, .tp [], .tp []] (True∧vI 0 q∧TN 14 True))∧pt (True)))∧∀ y0:Nat,(y0≤List.length list∧∀ j,j < y0→eqI (Zaa list j).2.1 validity=false)→(T4 (bif (ltI y0 (List.length list)) then (T2 ((ix 4 y0 (List.length list))∧(T4 (bif (eqI (Zaa list y0).2.1 validity) then (T2 (rI (y0:Int) (boxW list validity))) else (T3 (∃ y0' : Nat,(y0'≤List.length list∧∀ j,j < y0'→eqI (Zaa list j).2.1 validity=false)∧(List.length list - y0') < (List.length list - y0)∧((lxs [hn Zaf list,ci validity, .tp [], .tp []] (True∧vI (w64 ((y0:Int) + 1)) y0'∧TN 14 True))∧pt (True)))))))) else (True∧(rI (-1) (boxW list validity)))))))) (by kernel_rfl) ?_
  unfold T2 T3 T4
  simp only [Zdy,eq_self]
  have hm:List.length list≤maxLen:=hwf.1.1
  refine ⟨⟨0,⟨Nat.zero_le _,ZaH⟩,rfl⟩,fun k hk=>⟨fun hlt=>⟨by omega,fun hp=>?_,fun hp=>?_⟩,fun hge=>?_⟩⟩
  · have hk' : k < List.length list:=by omega
    have e:=Zd7 (t:=Zaf) (p:=(fun z0:Zaw=>eqI z0.2.1 validity)) (xs:=list) hk' (fun j hj=>ZaB.2 (hk.2 j hj)) (Zao.2 hp)
    exact e.symm
  · exact Zcz
  · obtain rfl:k=List.length list:=by omega
    have e:=ZbH (t:=Zaf) (p:=(fun z0:Zaw=>eqI z0.2.1 validity)) (fun j hj=>ZaB.2 (hk.2 j hj))
    exact e.symm
def ZgQ:Zat Tryz.prog:=⟨81,[.v (.list Zaf), .v ZaC],fun x=>True,fun x=>.c (.int .i64 (boxW x.1 x.2.1)),fun _=>[],fun x hx=>Zjs x.1 x.2.1,Tryz.call81⟩
theorem Zq0 (x:Zc7) (uid:Int):Zai Tryz.prog 272 [.ag [.int .i64 x.1, .int .i64 x.2.1, .str x.2.2], .c (.ep .no ZaC ([uid]) 0 0)] (.c (.bool (eqI x.1 uid))) []:=by
  refine bc0 [] [] [] [] L0 Tryz.func272 (fun hwf=>?_)
  refine Eq.mpr (β:=(T7 (rB (eqI x.1 uid) (eqI x.1 uid)))) (by kernel_rfl) ?_
  exact ZoK
def Zq1:Zat Tryz.prog:=⟨272,[.s ZaF, .p ZaC],fun x=>True,fun x=>.c (.bool (eqI x.1.1 x.2.1)),fun _=>[],fun x hx=>Zq0 x.1 x.2.1,Tryz.call272⟩
theorem Zxq (b:Zaw) (uid:Int):Zai Tryz.prog 232 [.ag (cellsOf Zaf b), .c (.int .i64 uid)] (.c (.int .i64 (Zbl b.2.2.2 uid))) []:=by
  refine bc0 [Zq1] [Zeh] [] [] L0 Tryz.func232 (fun hwf=>?_)
  refine Eq.mpr (β:=(T6 (((∀ z0:Zc7,True∧True)∧∀ (_:Zc7→Bool) (_:List Zc7),true=true)∧(True∧(rI (ZeC (fun z0:Zc7=>eqI z0.1 uid) b.2.2.2) (Zbl b.2.2.2 uid)))))) (by kernel_rfl) ?_
  simp only [Zdy,eq_self]
  exact ZoV
def ZmN:Zat Tryz.prog:=⟨232,[.s Zaf, .v ZaC],fun x=>True,fun x=>.c (.int .i64 (Zbl x.1.2.2.2 x.2.1)),fun _=>[],fun x hx=>Zxq x.1 x.2.1,Tryz.call232⟩
def Zxr (b:Zaw) (uid:Int):Nat→List AV→Mem→Za3
  | 2,tm,M=>⟨Nat,fun y=>(Zb2 (Zcx tm [(4, .any),(5, .c (.int .i64 ((y:Nat):Int)))]) 6 16,M),fun y=>(y≤List.length b.2.2.2∧∀ j,j < y→eqI (Zay b.2.2.2 j).1 uid=false),fun y=>(List.length b.2.2.2 - y)⟩
  | _,_,_=>⟨Unit,fun _=>([],[]),fun _=>False,fun _=>0⟩
def ZmO (b:Zaw):List AC:=[.str b.1, .int .i64 b.2.1, .int .i64 b.2.2.1, .hs .no ZaF b.2.2.2]
theorem Zxs (b:Zaw) (uid:Int):Zai Tryz.prog 220 [.ag (cellsOf Zaf b), .c (.int .i64 uid)] (.c (.int .i64 (Zbl b.2.2.2 uid))) []:=by
  refine bc0 [] [] [] [] (Zxr b uid) Tryz.func220 (fun hwf=>?_)
  refine Eq.mpr (β:=(T3 ((∃ q:Nat,(q≤List.length b.2.2.2∧∀ j,j < q→eqI (Zay b.2.2.2 j).1 uid=false)∧((lxs [.ag (ZmO b),ci uid, .c (.bp 0 0), .tp []] (True∧vI 0 q∧TN 16 True))∧pt (lb (.box (ZmO b))∧True)))∧∀ y0:Nat,(y0≤List.length b.2.2.2∧∀ j,j < y0→eqI (Zay b.2.2.2 j).1 uid=false)→(T5 (bif (ltI y0 (List.length b.2.2.2)) then (T3 ((ix 3 y0 (List.length b.2.2.2))∧(T4 (bif (eqI (Zay b.2.2.2 y0).1 uid) then (T2 (rI (y0:Int) (Zbl b.2.2.2 uid))) else (T3 (∃ y0' : Nat,(y0'≤List.length b.2.2.2∧∀ j,j < y0'→eqI (Zay b.2.2.2 j).1 uid=false)∧(List.length b.2.2.2 - y0') < (List.length b.2.2.2 - y0)∧((lxs [.ag (ZmO b),ci uid, .c (.bp 0 0), .tp []] (True∧vI (w64 ((y0:Int) + 1)) y0'∧TN 16 True))∧pt (lb (.box (ZmO b))∧True)))))))) else (True∧(rI (-1) (Zbl b.2.2.2 uid)))))))) (by kernel_rfl) ?_
  unfold ZmO T2 T3 T4 T5
  simp only [Zdy,eq_self]
  have hm:List.length b.2.2.2≤maxLen:=hwf.1.2.2.2.1.1
  refine ⟨⟨0,⟨Nat.zero_le _,ZaH⟩,rfl⟩,fun k hk=>⟨fun hlt=>⟨by omega,fun hp=>?_,fun hp=>?_⟩,fun hge=>?_⟩⟩
  · have hk' : k < List.length b.2.2.2:=by omega
    have e:=Zd7 (t:=ZaF) (p:=(fun z0:Zc7=>eqI z0.1 uid)) (xs:=b.2.2.2) hk' (fun j hj=>ZaB.2 (hk.2 j hj)) (Zao.2 hp)
    exact e.symm
  · exact Zcz
  · obtain rfl:k=List.length b.2.2.2:=by omega
    have e:=ZbH (t:=ZaF) (p:=(fun z0:Zc7=>eqI z0.1 uid)) (fun j hj=>ZaB.2 (hk.2 j hj))
    exact e.symm
def ZmP:Zat Tryz.prog:=⟨220,[.s Zaf, .v ZaC],fun x=>True,fun x=>.c (.int .i64 (Zbl x.1.2.2.2 x.2.1)),fun _=>[],fun x hx=>Zxs x.1 x.2.1,Tryz.call220⟩
open GoMark (mrk cnt mrkI cntI)
end Go.Proofs.YtkompmgleojmlaaGreat
