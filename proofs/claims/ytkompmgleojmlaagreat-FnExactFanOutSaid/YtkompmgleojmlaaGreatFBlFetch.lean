import Derived.Test.YtkompmgleojmlaaGreatFBlLib
import Derived.Test.YtkompmgleojmlaaGreatFLawA
set_option linter.unusedSimpArgs false
set_option linter.unusedVariables false
set_option maxRecDepth 100000
set_option maxHeartbeats 4000000
namespace Go.Proofs.YtkompmgleojmlaaGreat
open Go.ChangeShapes Go.WideShapes Go.ChangeAt Go.RowKit Go.Joins Go.Deep
open GoRep (rep bulk)
def ZhO (l:List ZaM) (n:ByteArray):Int:=ZcO (fun z0:ZaM=>eqS z0.1 n) l
theorem ZpY (b:ZaM) (name:ByteArray):Zat Tryz.prog 291 [.ag (cellsOf Zak b), .c (.ep .no ZaK ([name]) 0 0)] (.c (.bool (eqS b.1 name))) []:=by
  refine bc0 [] [] [] [] L0 Tryz.func291 (fun hwf=>?_)
  refine Eq.mpr (β:=(T7 (rB (eqS b.1 name) (eqS b.1 name)))) (by kernel_rfl) ?_
  exact Zly
def ZpZ:ZaI Tryz.prog:=⟨291,[.s Zak, .p ZaK],fun x=>True,fun x=>.c (.bool (eqS x.1.1 x.2.1)),fun _=>[],fun x hx=>ZpY x.1 x.2.1,Tryz.call291⟩
theorem Ztr (list:List ZaM) (name:ByteArray):Zat Tryz.prog 270 [.c (.hs .no Zak list), .c (.str name)] (.c (.int .i64 (ZhO list name))) []:=by
  refine bc0 [ZpZ] [ZcY] [] [] L0 Tryz.func270 (fun hwf=>?_)
  refine Eq.mpr (β:=(T4 (((∀ z0:ZaM,True∧True)∧∀ (_:ZaM→Bool) (_:List ZaM),true=true)∧(True∧(rI (ZcO (fun z0:ZaM=>eqS z0.1 name) list) (ZhO list name)))))) (by kernel_rfl) ?_
  simp only [SIA,eq_self]
  exact ZpC
def Zts:ZaI Tryz.prog:=⟨270,[.v (.list Zak), .v ZaK],fun x=>True,fun x=>.c (.int .i64 (ZhO x.1 x.2.1)),fun _=>[],fun x hx=>Ztr x.1 x.2.1,Tryz.call270⟩
def Ztt (list:List ZaM) (name:ByteArray):Nat→List AV→Mem→Zbn
  | 2,tm,M=>⟨Nat,fun y=>(ZcN (ZcV tm [(4, .any),(5, .c (.int .i64 ((y:Nat):Int)))]) 6 14,M),fun y=>(y≤List.length list∧∀ j,j < y→eqS (Zab list j).1 name=false),fun y=>(List.length list - y)⟩
  | _,_,_=>⟨Unit,fun _=>([],[]),fun _=>False,fun _=>0⟩
theorem Ztu (list:List ZaM) (name:ByteArray):Zat Tryz.prog 263 [.c (.hs .no Zak list), .c (.str name)] (.c (.int .i64 (ZhO list name))) []:=by
  refine bc0 [] [] [] [] (Ztt list name) Tryz.func263 (fun hwf=>?_)
  refine Eq.mpr (β:=(T2 ((∃ q:Nat,(q≤List.length list∧∀ j,j < q→eqS (Zab list j).1 name=false)∧((lxs [hn Zak list, .c (.str name), .tp [], .tp []] (True∧vI 0 q∧TN 14 True))∧pt (True)))∧∀ y0:Nat,(y0≤List.length list∧∀ j,j < y0→eqS (Zab list j).1 name=false)→(T4 (bif (ltI y0 (List.length list)) then (T2 ((ix 4 y0 (List.length list))∧(T4 (bif (eqS (Zab list y0).1 name) then (T2 (rI (y0:Int) (ZhO list name))) else (T3 (∃ y0' : Nat,(y0'≤List.length list∧∀ j,j < y0'→eqS (Zab list j).1 name=false)∧(List.length list - y0') < (List.length list - y0)∧((lxs [hn Zak list, .c (.str name), .tp [], .tp []] (True∧vI (w64 ((y0:Int) + 1)) y0'∧TN 14 True))∧pt (True)))))))) else (True∧(rI (-1) (ZhO list name)))))))) (by kernel_rfl) ?_
  unfold T2 T3 T4
  simp only [SIA,eq_self]
  have hm:list.length≤maxLen:=hwf.1.1
  refine ⟨⟨0,⟨Nat.zero_le _,Zbl⟩,rfl⟩,fun k hk=>⟨fun hlt=>⟨by omega,fun hp=>?_,fun hp=>?_⟩,fun hge=>?_⟩⟩
  · have hk' : k < list.length:=by omega
    exact (Zd4 (t:=Zak) (p:=fun z0:ZaM=>eqS z0.1 name) (xs:=list) hk' (fun j hj=>Zdq.2 (hk.2 j hj)) (Zc4.2 hp)).symm
  · exact Zdu
  · obtain rfl:k=list.length:=by omega
    exact (ZbW (t:=Zak) (p:=fun z0:ZaM=>eqS z0.1 name) (fun j hj=>Zdq.2 (hk.2 j hj))).symm
def Ztv:ZaI Tryz.prog:=⟨263,[.v (.list Zak), .v ZaK],fun x=>True,fun x=>.c (.int .i64 (ZhO x.1 x.2.1)),fun _=>[],fun x hx=>Ztu x.1 x.2.1,Tryz.call263⟩
set_option maxRecDepth 100000
set_option maxHeartbeats 4000000
def boxW (l:List ZaM) (u:Int):Int:=ZcO (fun z0:ZaM=>eqI z0.2.1 u) l
def ZbH (l:List ZcU) (u:Int):Int:=ZcO (fun z0:ZcU=>eqI z0.1 u) l
theorem ZrC (x:ZaM) (validity:Int):Zat Tryz.prog 184 [.ag (cellsOf Zak x), .c (.ep .no ZaC ([validity]) 0 0)] (.c (.bool (eqI x.2.1 validity))) []:=by
  refine bc0 [] [] [] [] L0 Tryz.func184 (fun hwf=>?_)
  refine Eq.mpr (β:=(T7 (rB (eqI x.2.1 validity) (eqI x.2.1 validity)))) (by kernel_rfl) ?_
  exact Zly
def ZrD:ZaI Tryz.prog:=⟨184,[.s Zak, .p ZaC],fun x=>True,fun x=>.c (.bool (eqI x.1.2.1 x.2.1)),fun _=>[],fun x hx=>ZrC x.1 x.2.1,Tryz.call184⟩
theorem ZnE (list:List ZaM) (validity:Int):Zat Tryz.prog 104 [.c (.hs .no Zak list), .c (.int .i64 validity)] (.c (.int .i64 (boxW list validity))) []:=by
  refine bc0 [ZrD] [ZcY] [] [] L0 Tryz.func104 (fun hwf=>?_)
  refine Eq.mpr (β:=(T4 (((∀ z0:ZaM,True∧True)∧∀ (_:ZaM→Bool) (_:List ZaM),true=true)∧(True∧(rI (ZcO (fun z0:ZaM=>eqI z0.2.1 validity) list) (boxW list validity)))))) (by kernel_rfl) ?_
  simp only [Zd0,eq_self]
  exact ZpC
def Zkh:ZaI Tryz.prog:=⟨104,[.v (.list Zak), .v ZaC],fun x=>True,fun x=>.c (.int .i64 (boxW x.1 x.2.1)),fun _=>[],fun x hx=>ZnE x.1 x.2.1,Tryz.call104⟩
def Zx4 (list:List ZaM) (validity:Int):Nat→List AV→Mem→Zbn
  | 2,tm,M=>⟨Nat,fun y=>(ZcN (ZcV tm [(4, .any),(5, .c (.int .i64 ((y:Nat):Int)))]) 6 14,M),fun y=>(y≤List.length list∧∀ j,j < y→eqI (Zab list j).2.1 validity=false),fun y=>(List.length list - y)⟩
  | _,_,_=>⟨Unit,fun _=>([],[]),fun _=>False,fun _=>0⟩
theorem Zki (list:List ZaM) (validity:Int):Zat Tryz.prog 81 [.c (.hs .no Zak list), .c (.int .i64 validity)] (.c (.int .i64 (boxW list validity))) []:=by
  refine bc0 [] [] [] [] (Zx4 list validity) Tryz.func81 (fun hwf=>?_)
  refine Eq.mpr (β:=(T2 ((∃ q:Nat,(q≤List.length list∧∀ j,j < q→eqI (Zab list j).2.1 validity=false)∧((lxs [hn Zak list,ci validity, .tp [], .tp []] (True∧vI 0 q∧TN 14 True))∧pt (True)))∧∀ y0:Nat,(y0≤List.length list∧∀ j,j < y0→eqI (Zab list j).2.1 validity=false)→(T4 (bif (ltI y0 (List.length list)) then (T2 ((ix 4 y0 (List.length list))∧(T4 (bif (eqI (Zab list y0).2.1 validity) then (T2 (rI (y0:Int) (boxW list validity))) else (T3 (∃ y0' : Nat,(y0'≤List.length list∧∀ j,j < y0'→eqI (Zab list j).2.1 validity=false)∧(List.length list - y0') < (List.length list - y0)∧((lxs [hn Zak list,ci validity, .tp [], .tp []] (True∧vI (w64 ((y0:Int) + 1)) y0'∧TN 14 True))∧pt (True)))))))) else (True∧(rI (-1) (boxW list validity)))))))) (by kernel_rfl) ?_
  unfold T2 T3 T4
  simp only [Zd0,eq_self]
  have hm:List.length list≤maxLen:=hwf.1.1
  refine ⟨⟨0,⟨Nat.zero_le _,Zbl⟩,rfl⟩,fun k hk=>⟨fun hlt=>⟨by omega,fun hp=>?_,fun hp=>?_⟩,fun hge=>?_⟩⟩
  · have hk' : k < List.length list:=by omega
    have e:=Zd4 (t:=Zak) (p:=(fun z0:ZaM=>eqI z0.2.1 validity)) (xs:=list) hk' (fun j hj=>Zb2.2 (hk.2 j hj)) (ZbA.2 hp)
    exact e.symm
  · exact Zdu
  · obtain rfl:k=List.length list:=by omega
    have e:=ZbW (t:=Zak) (p:=(fun z0:ZaM=>eqI z0.2.1 validity)) (fun j hj=>Zb2.2 (hk.2 j hj))
    exact e.symm
def Zkj:ZaI Tryz.prog:=⟨81,[.v (.list Zak), .v ZaC],fun x=>True,fun x=>.c (.int .i64 (boxW x.1 x.2.1)),fun _=>[],fun x hx=>Zki x.1 x.2.1,Tryz.call81⟩
theorem ZrE (x:ZcU) (uid:Int):Zat Tryz.prog 272 [.ag [.int .i64 x.1, .int .i64 x.2.1, .str x.2.2], .c (.ep .no ZaC ([uid]) 0 0)] (.c (.bool (eqI x.1 uid))) []:=by
  refine bc0 [] [] [] [] L0 Tryz.func272 (fun hwf=>?_)
  refine Eq.mpr (β:=(T7 (rB (eqI x.1 uid) (eqI x.1 uid)))) (by kernel_rfl) ?_
  exact Zly
def ZrF:ZaI Tryz.prog:=⟨272,[.s ZaT, .p ZaC],fun x=>True,fun x=>.c (.bool (eqI x.1.1 x.2.1)),fun _=>[],fun x hx=>ZrE x.1 x.2.1,Tryz.call272⟩
theorem Zx5 (b:ZaM) (uid:Int):Zat Tryz.prog 232 [.ag (cellsOf Zak b), .c (.int .i64 uid)] (.c (.int .i64 (ZbH b.2.2.2 uid))) []:=by
  refine bc0 [ZrF] [ZeN] [] [] L0 Tryz.func232 (fun hwf=>?_)
  refine Eq.mpr (β:=(T6 (((∀ z0:ZcU,True∧True)∧∀ (_:ZcU→Bool) (_:List ZcU),true=true)∧(True∧(rI (ZcO (fun z0:ZcU=>eqI z0.1 uid) b.2.2.2) (ZbH b.2.2.2 uid)))))) (by kernel_rfl) ?_
  simp only [Zd0,eq_self]
  exact ZpC
def ZnF:ZaI Tryz.prog:=⟨232,[.s Zak, .v ZaC],fun x=>True,fun x=>.c (.int .i64 (ZbH x.1.2.2.2 x.2.1)),fun _=>[],fun x hx=>Zx5 x.1 x.2.1,Tryz.call232⟩
def Zx6 (b:ZaM) (uid:Int):Nat→List AV→Mem→Zbn
  | 2,tm,M=>⟨Nat,fun y=>(ZcN (ZcV tm [(4, .any),(5, .c (.int .i64 ((y:Nat):Int)))]) 6 16,M),fun y=>(y≤List.length b.2.2.2∧∀ j,j < y→eqI (ZaL b.2.2.2 j).1 uid=false),fun y=>(List.length b.2.2.2 - y)⟩
  | _,_,_=>⟨Unit,fun _=>([],[]),fun _=>False,fun _=>0⟩
def ZnG (b:ZaM):List AC:=[.str b.1, .int .i64 b.2.1, .int .i64 b.2.2.1, .hs .no ZaT b.2.2.2]
theorem Zx7 (b:ZaM) (uid:Int):Zat Tryz.prog 220 [.ag (cellsOf Zak b), .c (.int .i64 uid)] (.c (.int .i64 (ZbH b.2.2.2 uid))) []:=by
  refine bc0 [] [] [] [] (Zx6 b uid) Tryz.func220 (fun hwf=>?_)
  refine Eq.mpr (β:=(T3 ((∃ q:Nat,(q≤List.length b.2.2.2∧∀ j,j < q→eqI (ZaL b.2.2.2 j).1 uid=false)∧((lxs [.ag (ZnG b),ci uid, .c (.bp 0 0), .tp []] (True∧vI 0 q∧TN 16 True))∧pt (lb (.box (ZnG b))∧True)))∧∀ y0:Nat,(y0≤List.length b.2.2.2∧∀ j,j < y0→eqI (ZaL b.2.2.2 j).1 uid=false)→(T5 (bif (ltI y0 (List.length b.2.2.2)) then (T3 ((ix 3 y0 (List.length b.2.2.2))∧(T4 (bif (eqI (ZaL b.2.2.2 y0).1 uid) then (T2 (rI (y0:Int) (ZbH b.2.2.2 uid))) else (T3 (∃ y0' : Nat,(y0'≤List.length b.2.2.2∧∀ j,j < y0'→eqI (ZaL b.2.2.2 j).1 uid=false)∧(List.length b.2.2.2 - y0') < (List.length b.2.2.2 - y0)∧((lxs [.ag (ZnG b),ci uid, .c (.bp 0 0), .tp []] (True∧vI (w64 ((y0:Int) + 1)) y0'∧TN 16 True))∧pt (lb (.box (ZnG b))∧True)))))))) else (True∧(rI (-1) (ZbH b.2.2.2 uid)))))))) (by kernel_rfl) ?_
  unfold ZnG T2 T3 T4 T5
  simp only [Zd0,eq_self]
  have hm:List.length b.2.2.2≤maxLen:=hwf.1.2.2.2.1.1
  refine ⟨⟨0,⟨Nat.zero_le _,Zbl⟩,rfl⟩,fun k hk=>⟨fun hlt=>⟨by omega,fun hp=>?_,fun hp=>?_⟩,fun hge=>?_⟩⟩
  · have hk' : k < List.length b.2.2.2:=by omega
    have e:=Zd4 (t:=ZaT) (p:=(fun z0:ZcU=>eqI z0.1 uid)) (xs:=b.2.2.2) hk' (fun j hj=>Zb2.2 (hk.2 j hj)) (ZbA.2 hp)
    exact e.symm
  · exact Zdu
  · obtain rfl:k=List.length b.2.2.2:=by omega
    have e:=ZbW (t:=ZaT) (p:=(fun z0:ZcU=>eqI z0.1 uid)) (fun j hj=>Zb2.2 (hk.2 j hj))
    exact e.symm
def ZnH:ZaI Tryz.prog:=⟨220,[.s Zak, .v ZaC],fun x=>True,fun x=>.c (.int .i64 (ZbH x.1.2.2.2 x.2.1)),fun _=>[],fun x hx=>Zx7 x.1 x.2.1,Tryz.call220⟩
open GoMark (mrk cnt mrkI cntI)
end Go.Proofs.YtkompmgleojmlaaGreat
