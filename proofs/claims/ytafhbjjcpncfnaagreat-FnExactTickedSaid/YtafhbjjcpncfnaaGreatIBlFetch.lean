import Derived.Test.YtafhbjjcpncfnaaGreatIBlLib
import Derived.Test.YtafhbjjcpncfnaaGreatILawA
set_option linter.unusedSimpArgs false
set_option linter.unusedVariables false
set_option maxRecDepth 100000
set_option maxHeartbeats 4000000
namespace Go.Proofs.YtafhbjjcpncfnaaGreat
open Go.ChangeShapes Go.WideShapes Go.ChangeAt Go.RowKit Go.Joins Go.Deep
open GoRep (rep bulk)
def ZiD (l:List ZaO) (n:ByteArray):Int:=Zf0 (fun z0:ZaO=>eqS z0.1 n) l
theorem ZrY (b:ZaO) (name:ByteArray):Zao Tryz.prog 245 [.ag (cellsOf Zaj b), .c (.ep .no Za1 ([name]) 0 0)] (.c (.bool (eqS b.1 name))) []:=by
 refine bc0 [] [] [] [] L0 Tryz.func245 (fun hwf=>?_)
 refine Eq.mpr (β:=T7 (rB (eqS b.1 name) (eqS b.1 name))) (by kernel_rfl) ?_
 exact Zrq
def ZrZ:ZaE Tryz.prog:=⟨245,[.s Zaj, .p Za1],fun x=>True,fun x=>.c (.bool (eqS x.1.1 x.2.1)),fun _=>[],fun x hx=>ZrY x.1 x.2.1,Tryz.call245⟩
theorem Zwg (list:List ZaO) (name:ByteArray):Zao Tryz.prog 236 [.c (.hs .no Zaj list), .c (.str name)] (.c (.int .i64 (ZiD list name))) []:=by
 refine bc0 [ZrZ] [Zdz] [] [] L0 Tryz.func236 (fun hwf=>?_)
 refine Eq.mpr (β:=T4 (((∀ z0:ZaO,True∧True)∧∀ (_:ZaO→Bool) (_:List ZaO),true=true)∧True∧rI (Zf0 (fun z0:ZaO=>eqS z0.1 name) list) (ZiD list name))) (by kernel_rfl) ?_
 simp only [SIA,eq_self]
 exact ZrB
def Zwh:ZaE Tryz.prog:=⟨236,[.v (.list Zaj), .v Za1],fun x=>True,fun x=>.c (.int .i64 (ZiD x.1 x.2.1)),fun _=>[],fun x hx=>Zwg x.1 x.2.1,Tryz.call236⟩
def Zwi (list:List ZaO) (name:ByteArray):Nat→List AV→Mem→Zbd
 | 2,tm,M=>⟨Nat,fun y=>(Zcf (Zct tm [(4, .any),(5, .c (.int .i64 ((y:Nat):Int)))]) 6 14,M),fun y=>(y≤List.length list∧∀ j,j < y→eqS (Zab list j).1 name=false),fun y=>(List.length list - y)⟩
 | _,_,_=>⟨Unit,fun _=>([],[]),fun _=>False,fun _=>0⟩
theorem Zwj (list:List ZaO) (name:ByteArray):Zao Tryz.prog 233 [.c (.hs .no Zaj list), .c (.str name)] (.c (.int .i64 (ZiD list name))) []:=by
 refine bc0 [] [] [] [] (Zwi list name) Tryz.func233 (fun hwf=>?_)
 refine Eq.mpr (β:=T2 ((∃ q:Nat,(q≤list.length∧∀ j,j < q→eqS (Zab list j).1 name=false)∧lxs [hn Zaj list, .c (.str name), .tp [], .tp []] (True∧vI 0 q∧TN 14 True)∧pt (True))∧∀ y0:Nat,(y0≤list.length∧∀ j,j < y0→eqS (Zab list j).1 name=false)→T4 (bif ltI y0 list.length then T2 (ix 4 y0 list.length∧T4 (bif eqS (Zab list y0).1 name then T2 (rI (y0:Int) (ZiD list name)) else T3 (∃ y0' : Nat,(y0'≤list.length∧∀ j,j < y0'→eqS (Zab list j).1 name=false)∧(list.length - y0') < (list.length - y0)∧lxs [hn Zaj list, .c (.str name), .tp [], .tp []] (True∧vI (w64 ((y0:Int) + 1)) y0'∧TN 14 True)∧pt (True)))) else True∧rI (-1) (ZiD list name)))) (by kernel_rfl) ?_
 unfold T2 T3 T4
 simp only [SIA,eq_self]
 have hm:list.length≤maxLen:=hwf.1.1
 refine ⟨⟨0,⟨Nat.zero_le _,Za3⟩,rfl⟩,fun k hk=>⟨fun hlt=>⟨by omega,fun hp=>?_,fun hp=>?_⟩,fun hge=>?_⟩⟩
 ·have hk' : k < list.length:=by omega
  exact (Zfu (t:=Zaj) (p:=fun z0:ZaO=>eqS z0.1 name) (xs:=list) hk' (fun j hj=>Zbo.2 (hk.2 j hj)) (Zbp.2 hp)).symm
 ·exact Zdw
 ·obtain rfl:k=list.length:=by omega
  exact (Zcv (t:=Zaj) (p:=fun z0:ZaO=>eqS z0.1 name) (fun j hj=>Zbo.2 (hk.2 j hj))).symm
def Zwk:ZaE Tryz.prog:=⟨233,[.v (.list Zaj), .v Za1],fun x=>True,fun x=>.c (.int .i64 (ZiD x.1 x.2.1)),fun _=>[],fun x hx=>Zwj x.1 x.2.1,Tryz.call233⟩
set_option maxRecDepth 100000
set_option maxHeartbeats 4000000
def boxW (l:List ZaO) (u:Int):Int:=Zf0 (fun z0:ZaO=>eqI z0.2.1 u) l
def Zb4 (l:List Zdr) (u:Int):Int:=Zf0 (fun z0:Zdr=>eqI z0.1 u) l
theorem Zt3 (x:ZaO) (validity:Int):Zao Tryz.prog 183 [.ag (cellsOf Zaj x), .c (.ep .no Zax ([validity]) 0 0)] (.c (.bool (eqI x.2.1 validity))) []:=by
 refine bc0 [] [] [] [] L0 Tryz.func183 (fun hwf=>?_)
 refine Eq.mpr (β:=T7 (rB (eqI x.2.1 validity) (eqI x.2.1 validity))) (by kernel_rfl) ?_
 exact Zrq
def Zt4:ZaE Tryz.prog:=⟨183,[.s Zaj, .p Zax],fun x=>True,fun x=>.c (.bool (eqI x.1.2.1 x.2.1)),fun _=>[],fun x hx=>Zt3 x.1 x.2.1,Tryz.call183⟩
theorem Zpa (list:List ZaO) (validity:Int):Zao Tryz.prog 122 [.c (.hs .no Zaj list), .c (.int .i64 validity)] (.c (.int .i64 (boxW list validity))) []:=by
 refine bc0 [Zt4] [Zdz] [] [] L0 Tryz.func122 (fun hwf=>?_)
 refine Eq.mpr (β:=T4 (((∀ z0:ZaO,True∧True)∧∀ (_:ZaO→Bool) (_:List ZaO),true=true)∧True∧rI (Zf0 (fun z0:ZaO=>eqI z0.2.1 validity) list) (boxW list validity))) (by kernel_rfl) ?_
 simp only [Zeg,eq_self]
 exact ZrB
def ZiE:ZaE Tryz.prog:=⟨122,[.v (.list Zaj), .v Zax],fun x=>True,fun x=>.c (.int .i64 (boxW x.1 x.2.1)),fun _=>[],fun x hx=>Zpa x.1 x.2.1,Tryz.call122⟩
def ZBL (list:List ZaO) (validity:Int):Nat→List AV→Mem→Zbd
 | 2,tm,M=>⟨Nat,fun y=>(Zcf (Zct tm [(4, .any),(5, .c (.int .i64 ((y:Nat):Int)))]) 6 14,M),fun y=>(y≤List.length list∧∀ j,j < y→eqI (Zab list j).2.1 validity=false),fun y=>(List.length list - y)⟩
 | _,_,_=>⟨Unit,fun _=>([],[]),fun _=>False,fun _=>0⟩
theorem Zls (list:List ZaO) (validity:Int):Zao Tryz.prog 90 [.c (.hs .no Zaj list), .c (.int .i64 validity)] (.c (.int .i64 (boxW list validity))) []:=by
 refine bc0 [] [] [] [] (ZBL list validity) Tryz.func90 (fun hwf=>?_)
 refine Eq.mpr (β:=T2 ((∃ q:Nat,(q≤list.length∧∀ j,j < q→eqI (Zab list j).2.1 validity=false)∧lxs [hn Zaj list,ci validity, .tp [], .tp []] (True∧vI 0 q∧TN 14 True)∧pt (True))∧∀ y0:Nat,(y0≤list.length∧∀ j,j < y0→eqI (Zab list j).2.1 validity=false)→T4 (bif ltI y0 list.length then T2 (ix 4 y0 list.length∧T4 (bif eqI (Zab list y0).2.1 validity then T2 (rI (y0:Int) (boxW list validity)) else T3 (∃ y0' : Nat,(y0'≤list.length∧∀ j,j < y0'→eqI (Zab list j).2.1 validity=false)∧(list.length - y0') < (list.length - y0)∧lxs [hn Zaj list,ci validity, .tp [], .tp []] (True∧vI (w64 ((y0:Int) + 1)) y0'∧TN 14 True)∧pt (True)))) else True∧rI (-1) (boxW list validity)))) (by kernel_rfl) ?_
 unfold T2 T3 T4
 simp only [Zeg,eq_self]
 have hm:List.length list≤maxLen:=hwf.1.1
 refine ⟨⟨0,⟨Nat.zero_le _,Za3⟩,rfl⟩,fun k hk=>⟨fun hlt=>⟨by omega,fun hp=>?_,fun hp=>?_⟩,fun hge=>?_⟩⟩
 ·have hk' : k < List.length list:=by omega
  have e:=Zfu (t:=Zaj) (p:=(fun z0:ZaO=>eqI z0.2.1 validity)) (xs:=list) hk' (fun j hj=>ZaS.2 (hk.2 j hj)) (ZaJ.2 hp)
  exact e.symm
 ·exact Zdw
 ·obtain rfl:k=List.length list:=by omega
  have e:=Zcv (t:=Zaj) (p:=(fun z0:ZaO=>eqI z0.2.1 validity)) (fun j hj=>ZaS.2 (hk.2 j hj))
  exact e.symm
def ZiF:ZaE Tryz.prog:=⟨90,[.v (.list Zaj), .v Zax],fun x=>True,fun x=>.c (.int .i64 (boxW x.1 x.2.1)),fun _=>[],fun x hx=>Zls x.1 x.2.1,Tryz.call90⟩
theorem Zt5 (x:Zdr) (uid:Int):Zao Tryz.prog 238 [.ag [.int .i64 x.1, .int .i64 x.2.1, .str x.2.2], .c (.ep .no Zax ([uid]) 0 0)] (.c (.bool (eqI x.1 uid))) []:=by
 refine bc0 [] [] [] [] L0 Tryz.func238 (fun hwf=>?_)
 refine Eq.mpr (β:=T7 (rB (eqI x.1 uid) (eqI x.1 uid))) (by kernel_rfl) ?_
 exact Zrq
def Zt6:ZaE Tryz.prog:=⟨238,[.s ZaR, .p Zax],fun x=>True,fun x=>.c (.bool (eqI x.1.1 x.2.1)),fun _=>[],fun x hx=>Zt5 x.1 x.2.1,Tryz.call238⟩
theorem ZBM (b:ZaO) (uid:Int):Zao Tryz.prog 211 [.ag (cellsOf Zaj b), .c (.int .i64 uid)] (.c (.int .i64 (Zb4 b.2.2.2 uid))) []:=by
 refine bc0 [Zt6] [ZfF] [] [] L0 Tryz.func211 (fun hwf=>?_)
 refine Eq.mpr (β:=T6 (((∀ z0:Zdr,True∧True)∧∀ (_:Zdr→Bool) (_:List Zdr),true=true)∧True∧rI (Zf0 (fun z0:Zdr=>eqI z0.1 uid) b.2.2.2) (Zb4 b.2.2.2 uid))) (by kernel_rfl) ?_
 simp only [Zeg,eq_self]
 exact ZrB
def Zpb:ZaE Tryz.prog:=⟨211,[.s Zaj, .v Zax],fun x=>True,fun x=>.c (.int .i64 (Zb4 x.1.2.2.2 x.2.1)),fun _=>[],fun x hx=>ZBM x.1 x.2.1,Tryz.call211⟩
def ZBN (b:ZaO) (uid:Int):Nat→List AV→Mem→Zbd
 | 2,tm,M=>⟨Nat,fun y=>(Zcf (Zct tm [(4, .any),(5, .c (.int .i64 ((y:Nat):Int)))]) 6 16,M),fun y=>(y≤List.length b.2.2.2∧∀ j,j < y→eqI (ZaG b.2.2.2 j).1 uid=false),fun y=>(List.length b.2.2.2 - y)⟩
 | _,_,_=>⟨Unit,fun _=>([],[]),fun _=>False,fun _=>0⟩
def Zpc (b:ZaO):List AC:=[.str b.1, .int .i64 b.2.1, .int .i64 b.2.2.1, .hs .no ZaR b.2.2.2]
theorem ZBO (b:ZaO) (uid:Int):Zao Tryz.prog 198 [.ag (cellsOf Zaj b), .c (.int .i64 uid)] (.c (.int .i64 (Zb4 b.2.2.2 uid))) []:=by
 refine bc0 [] [] [] [] (ZBN b uid) Tryz.func198 (fun hwf=>?_)
 refine Eq.mpr (β:=T3 ((∃ q:Nat,(q≤b.2.2.2.length∧∀ j,j < q→eqI (ZaG b.2.2.2 j).1 uid=false)∧lxs [.ag (Zpc b),ci uid, .c (.bp 0 0), .tp []] (True∧vI 0 q∧TN 16 True)∧pt (lb (.box (Zpc b))∧True))∧∀ y0:Nat,(y0≤b.2.2.2.length∧∀ j,j < y0→eqI (ZaG b.2.2.2 j).1 uid=false)→T5 (bif ltI y0 b.2.2.2.length then T3 (ix 3 y0 b.2.2.2.length∧T4 (bif eqI (ZaG b.2.2.2 y0).1 uid then T2 (rI (y0:Int) (Zb4 b.2.2.2 uid)) else T3 (∃ y0' : Nat,(y0'≤b.2.2.2.length∧∀ j,j < y0'→eqI (ZaG b.2.2.2 j).1 uid=false)∧(b.2.2.2.length - y0') < (b.2.2.2.length - y0)∧lxs [.ag (Zpc b),ci uid, .c (.bp 0 0), .tp []] (True∧vI (w64 ((y0:Int) + 1)) y0'∧TN 16 True)∧pt (lb (.box (Zpc b))∧True)))) else True∧rI (-1) (Zb4 b.2.2.2 uid)))) (by kernel_rfl) ?_
 unfold Zpc T2 T3 T4 T5
 simp only [Zeg,eq_self]
 have hm:List.length b.2.2.2≤maxLen:=hwf.1.2.2.2.1.1
 refine ⟨⟨0,⟨Nat.zero_le _,Za3⟩,rfl⟩,fun k hk=>⟨fun hlt=>⟨by omega,fun hp=>?_,fun hp=>?_⟩,fun hge=>?_⟩⟩
 ·have hk' : k < List.length b.2.2.2:=by omega
  have e:=Zfu (t:=ZaR) (p:=(fun z0:Zdr=>eqI z0.1 uid)) (xs:=b.2.2.2) hk' (fun j hj=>ZaS.2 (hk.2 j hj)) (ZaJ.2 hp)
  exact e.symm
 ·exact Zdw
 ·obtain rfl:k=List.length b.2.2.2:=by omega
  have e:=Zcv (t:=ZaR) (p:=(fun z0:Zdr=>eqI z0.1 uid)) (fun j hj=>ZaS.2 (hk.2 j hj))
  exact e.symm
def Zpd:ZaE Tryz.prog:=⟨198,[.s Zaj, .v Zax],fun x=>True,fun x=>.c (.int .i64 (Zb4 x.1.2.2.2 x.2.1)),fun _=>[],fun x hx=>ZBO x.1 x.2.1,Tryz.call198⟩
open GoMark (mrk cnt mrkI cntI)
end Go.Proofs.YtafhbjjcpncfnaaGreat
