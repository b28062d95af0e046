import Derived.Test.YtkompmgleojmlaaGreatFLawA
set_option linter.unusedSimpArgs false
set_option linter.unusedVariables false
set_option maxRecDepth 100000
set_option maxHeartbeats 4000000
namespace Go.Proofs.YtkompmgleojmlaaGreat
open Go.ChangeShapes Go.WideShapes Go.ChangeAt Go.RowKit Go.Joins Go.Deep
open GoRep (rep bulk)
abbrev ZfS (a:List ByteArray):Prop:=bulk a≤1048576
def Zsj (a:List ByteArray):Nat→List AV→Mem→Zbn
  | 3,tm,M=>⟨Nat,fun y=>(ZcN (ZcV tm [(4, .c (.int .i64 ((y:Nat):Int)))]) 8 13,Zjs M [(0, .row ZaK (List.take y a ++ List.replicate (List.length a - y) (⟨#[]⟩:ByteArray)) 0 0 none)]),fun y=>(y≤List.length a),fun y=>(List.length a - y)⟩
  | _,_,_=>⟨Unit,fun _=>([],[]),fun _=>False,fun _=>0⟩
theorem Zsk (a:List ByteArray) (hpre:ZfS a):Zat Tryz.prog 290 [.c (.hs .no ZaK a)] (.c (.row 0 0)) [.row ZaK a 0 0 none]:=by
  refine bc0 [] [] [] [] (Zsj a) Tryz.func290 (fun hwf=>?_)
  refine Eq.mpr (β:=(T3 ((((List.length a:Int):Int)=(List.length a:Int)∧(0:Int)≤(List.length a:Int)∧((List.length a:Int):Int)≤(rowMax:Int))∧(T2 ((∃ q:Nat,(q≤List.length a)∧((lxs [hn ZaK a, .tp [], .c (.raw (.slice none 0 0)), .c (.row 0 0)] (vI 0 q∧lxs [hn ZaK a,ci (List.length a), .c (.row 0 0)] (TN 13 (lxs [.tp []] True))))∧pt (leB (.row ZaK (List.replicate (List.length a) (⟨#[]⟩:ByteArray)) 0 0 none) (.row ZaK (List.take q a ++ List.replicate (List.length a - q) (⟨#[]⟩:ByteArray)) 0 0 none)∧True)))∧∀ y0:Nat,(y0≤List.length a)→(T4 (bif (ltI y0 (List.length a)) then (T4 ((ix 1 y0 (List.length a))∧(True∧((ix 1 y0 (List.length (List.take y0 a ++ List.replicate (List.length a - y0) (⟨#[]⟩:ByteArray))))∧(True∧∀ r1:List ByteArray,r1=(List.set (List.take y0 a ++ List.replicate (List.length a - y0) (⟨#[]⟩:ByteArray)) y0 (ZaJ a y0))→(T3 (∃ y0' : Nat,(y0'≤List.length a)∧(List.length a - y0') < (List.length a - y0)∧((lxs [hn ZaK a, .tp [], .c (.raw (.slice none 0 0)), .c (.row 0 0)] (vI (w64 ((y0:Int) + 1)) y0'∧lxs [hn ZaK a,ci (List.length a), .c (.row 0 0)] (TN 13 (lxs [.tp []] True))))∧pt (leB (.row ZaK r1 0 0 none) (.row ZaK (List.take y0' a ++ List.replicate (List.length a - y0') (⟨#[]⟩:ByteArray)) 0 0 none)∧True))))))))) else (T2 (pt ((List.take y0 a ++ List.replicate (List.length a - y0) (⟨#[]⟩:ByteArray))=a)))))))))) (by kernel_rfl) ?_
  unfold T2 T3 T4
  have hp:bulk a≤1048576:=hpre
  have hb:bulk a=a.length + ZaF a:=rfl
  simp only [SIA,eq_self]
  refine ⟨⟨by omega,by unfold rowMax; omega⟩,⟨0,Nat.zero_le _,rfl,Eq.mpr (ZaV (t:=ZaK)) rfl⟩,fun k hk=>⟨fun hlt=>?_,fun hge=>?_⟩⟩
  · have hlt:k < a.length:=by omega
    have hk:=Zau (t:=ZaK) hlt
    have hl:(List.take k a ++ List.replicate (List.length a - k) (⟨#[]⟩:ByteArray)).length=a.length:=by simp; omega
    have hbn:bulk (ZaJ a k)≤ZaF a:=ZgI hk
    refine ⟨⟨by omega,by omega⟩,⟨by omega,by rw [hl]; omega⟩,fun r1 hr=>⟨k + 1,hlt,by omega,ZbN (by unfold maxLen; omega),Eq.mpr (ZaV (t:=ZaK)) ?_⟩⟩
    exact Ze0
  · exact ZeZ
def Zsl:ZaI Tryz.prog:=⟨290,[.v (.list ZaK)],fun x=>ZfS x.1,fun x=>.c (.row 0 0),fun x=>[.row ZaK x.1 0 0 none],fun x hx=>Zsk x.1 hx,Tryz.call290⟩
abbrev ZhQ (a:Za3):Prop:=bulk a≤1048576
theorem Zy4 (a:Za3) (hpre:ZhQ a):Zat Tryz.prog 266 [.ag [.int .i64 a.1, .hs .no ZaK a.2.1, .int .i64 a.2.2]] (.ag [.int .i64 a.1, .row 0 0, .int .i64 a.2.2]) [.row ZaK a.2.1 0 0 none]:=by
  refine bc0 [Zsl] [] [] [] L0 Tryz.func266 (fun hwf=>?_)
  refine Eq.mpr (β:=(T9 ((pt (ZfS a.2.1))∧(T8 (pt (((cI a.1 a.1)∧(a.2.1=a.2.1)∧(cI a.2.2 a.2.2)∧True))))))) (by kernel_rfl) ?_
  have hp:bulk a≤1048576:=hpre
  have hb:bulk a=0 + (bulk a.2.1 + (0)):=rfl
  exact Zci
def Zy5:ZaI Tryz.prog:=⟨266,[.s Zar],fun x=>ZhQ x.1,fun x=>.ag [.int .i64 x.1.1, .row 0 0, .int .i64 x.1.2.2],fun x=>[.row ZaK x.1.2.1 0 0 none],fun x hx=>Zy4 x.1 hx,Tryz.call266⟩
abbrev ZgU (a:List Za3):Prop:=bulk a≤1048576
def Zue (a:List Za3):Nat→List AV→Mem→Zbn
  | 3,tm,M=>⟨Nat,fun y=>(ZcN (ZcV tm [(4, .c (.int .i64 ((y:Nat):Int)))]) 8 14,Zjs M [(0, .row Zar (List.take y a ++ List.replicate (List.length a - y) Zi3) 0 0 none)]),fun y=>(y≤List.length a),fun y=>(List.length a - y)⟩
  | _,_,_=>⟨Unit,fun _=>([],[]),fun _=>False,fun _=>0⟩
theorem Zuf (a:List Za3) (hpre:ZgU a):Zat Tryz.prog 225 [.c (.hs .no Zar a)] (.c (.row 0 0)) [.row Zar a 0 0 none]:=by
  refine bc0 [Zy5] [] [] [] (Zue a) Tryz.func225 (fun hwf=>?_)
  refine Eq.mpr (β:=(T3 ((((List.length a:Int):Int)=(List.length a:Int)∧(0:Int)≤(List.length a:Int)∧((List.length a:Int):Int)≤(rowMax:Int))∧(T2 ((∃ q:Nat,(q≤List.length a)∧((lxs [hn Zar a, .tp [], .c (.raw (.slice none 0 0)), .c (.row 0 0)] (vI 0 q∧lxs [hn Zar a,ci (List.length a), .c (.row 0 0)] (TN 14 (lxs [.tp []] True))))∧pt (leB (.row Zar (List.replicate (List.length a) Zi3) 0 0 none) (.row Zar (List.take q a ++ List.replicate (List.length a - q) Zi3) 0 0 none)∧True)))∧∀ y0:Nat,(y0≤List.length a)→(T4 (bif (ltI y0 (List.length a)) then (T4 ((ix 3 y0 (List.length a))∧(True∧((pt (ZhQ (Zav a y0)))∧((ix 3 y0 (List.length (List.take y0 a ++ List.replicate (List.length a - y0) Zi3)))∧(True∧∀ r1:List Za3,r1=(List.set (List.take y0 a ++ List.replicate (List.length a - y0) Zi3) y0 (Zav a y0))→(T3 (∃ y0' : Nat,(y0'≤List.length a)∧(List.length a - y0') < (List.length a - y0)∧((lxs [hn Zar a, .tp [], .c (.raw (.slice none 0 0)), .c (.row 0 0)] (vI (w64 ((y0:Int) + 1)) y0'∧lxs [hn Zar a,ci (List.length a), .c (.row 0 0)] (TN 14 (lxs [.tp []] True))))∧pt (leB (.row Zar r1 0 0 none) (.row Zar (List.take y0' a ++ List.replicate (List.length a - y0') Zi3) 0 0 none)∧True)))))))))) else (T2 (pt ((List.take y0 a ++ List.replicate (List.length a - y0) Zi3)=a)))))))))) (by kernel_rfl) ?_
  unfold T2 T3 T4
  have hp:bulk a≤1048576:=hpre
  have hb:bulk a=a.length + ZaF a:=rfl
  simp only [SIA,eq_self]
  refine ⟨⟨by omega,by unfold rowMax; omega⟩,⟨0,Nat.zero_le _,rfl,Eq.mpr (ZaV (t:=Zar)) rfl⟩,fun k hk=>⟨fun hlt=>?_,fun hge=>?_⟩⟩
  · have hlt:k < a.length:=by omega
    have hk:=Zau (t:=Zar) hlt
    have hl:(List.take k a ++ List.replicate (List.length a - k) Zi3).length=a.length:=by simp; omega
    have hbn:bulk (Zav a k)≤ZaF a:=ZgI hk
    refine ⟨⟨by omega,by omega⟩,by show bulk _≤_; omega,⟨by omega,by rw [hl]; omega⟩,fun r1 hr=>⟨k + 1,hlt,by omega,ZbN (by unfold maxLen; omega),Eq.mpr (ZaV (t:=Zar)) ?_⟩⟩
    exact Ze0
  · exact ZeZ
def Zug:ZaI Tryz.prog:=⟨225,[.v (.list Zar)],fun x=>ZgU x.1,fun x=>.c (.row 0 0),fun x=>[.row Zar x.1 0 0 none],fun x hx=>Zuf x.1 hx,Tryz.call225⟩
abbrev ZgV (a:ZbP):Prop:=bulk a≤1048576
theorem Zuh (a:ZbP) (hpre:ZgV a):Zat Tryz.prog 162 [.ag [.bool a.1, .hs .no Zar a.2]] (.ag [.bool a.1, .row 0 0]) [.row Zar a.2 0 0 none]:=by
  refine bc0 [Zug] [] [] [] L0 Tryz.func162 (fun hwf=>?_)
  refine Eq.mpr (β:=(T9 ((pt (ZgU a.2))∧(T4 (pt (((cB a.1 a.1)∧(a.2=a.2)∧True))))))) (by kernel_rfl) ?_
  have hp:bulk a≤1048576:=hpre
  have hb:bulk a=0 + (bulk a.2):=rfl
  exact Zci
def Zui:ZaI Tryz.prog:=⟨162,[.s Zdi],fun x=>ZgV x.1,fun x=>.ag [.bool x.1.1, .row 0 0],fun x=>[.row Zar x.1.2 0 0 none],fun x hx=>Zuh x.1 hx,Tryz.call162⟩
theorem ZDQ (a:ZcU):Zat Tryz.prog 264 [.ag [.int .i64 a.1, .int .i64 a.2.1, .str a.2.2]] (.ag [.int .i64 a.1, .int .i64 a.2.1, .str a.2.2]) []:=by
  refine bc0 [] [] [] [] L0 Tryz.func264 (fun hwf=>?_)
  refine Eq.mpr (β:=(T12 (T5 (pt (((cI a.1 a.1)∧(cI a.2.1 a.2.1)∧(cS a.2.2 a.2.2)∧True)))))) (by kernel_rfl) ?_
  exact Zci
def ZDR:ZaI Tryz.prog:=⟨264,[.s ZaT],fun x=>True,fun x=>.ag [.int .i64 x.1.1, .int .i64 x.1.2.1, .str x.1.2.2],fun _=>[],fun x hx=>ZDQ x.1,Tryz.call264⟩
abbrev ZiH (a:List ZcU):Prop:=bulk a≤1048576
def ZBV (a:List ZcU):Nat→List AV→Mem→Zbn
  | 3,tm,M=>⟨Nat,fun y=>(ZcN (ZcV tm [(4, .c (.int .i64 ((y:Nat):Int)))]) 8 14,Zjs M [(0, .row ZaT (List.take y a ++ List.replicate (List.length a - y) ZuT) 0 0 none)]),fun y=>(y≤List.length a),fun y=>(List.length a - y)⟩
  | _,_,_=>⟨Unit,fun _=>([],[]),fun _=>False,fun _=>0⟩
theorem ZBW (a:List ZcU) (hpre:ZiH a):Zat Tryz.prog 223 [.c (.hs .no ZaT a)] (.c (.row 0 0)) [.row ZaT a 0 0 none]:=by
  refine bc0 [ZDR] [] [] [] (ZBV a) Tryz.func223 (fun hwf=>?_)
  refine Eq.mpr (β:=(T3 ((((List.length a:Int):Int)=(List.length a:Int)∧(0:Int)≤(List.length a:Int)∧((List.length a:Int):Int)≤(rowMax:Int))∧(T2 ((∃ q:Nat,(q≤List.length a)∧((lxs [hn ZaT a, .tp [], .c (.raw (.slice none 0 0)), .c (.row 0 0)] (vI 0 q∧lxs [hn ZaT a,ci (List.length a), .c (.row 0 0)] (TN 14 (lxs [.tp []] True))))∧pt (leB (.row ZaT (List.replicate (List.length a) ZuT) 0 0 none) (.row ZaT (List.take q a ++ List.replicate (List.length a - q) ZuT) 0 0 none)∧True)))∧∀ y0:Nat,(y0≤List.length a)→(T4 (bif (ltI y0 (List.length a)) then (T4 ((ix 3 y0 (List.length a))∧(True∧((pt True)∧((ix 3 y0 (List.length (List.take y0 a ++ List.replicate (List.length a - y0) ZuT)))∧(True∧∀ r1:List ZcU,r1=(List.set (List.take y0 a ++ List.replicate (List.length a - y0) ZuT) y0 (ZaL a y0))→(T3 (∃ y0' : Nat,(y0'≤List.length a)∧(List.length a - y0') < (List.length a - y0)∧((lxs [hn ZaT a, .tp [], .c (.raw (.slice none 0 0)), .c (.row 0 0)] (vI (w64 ((y0:Int) + 1)) y0'∧lxs [hn ZaT a,ci (List.length a), .c (.row 0 0)] (TN 14 (lxs [.tp []] True))))∧pt (leB (.row ZaT r1 0 0 none) (.row ZaT (List.take y0' a ++ List.replicate (List.length a - y0') ZuT) 0 0 none)∧True)))))))))) else (T2 (pt ((List.take y0 a ++ List.replicate (List.length a - y0) ZuT)=a)))))))))) (by kernel_rfl) ?_
  unfold T2 T3 T4
  have hp:bulk a≤1048576:=hpre
  have hb:bulk a=a.length + ZaF a:=rfl
  simp only [SIA,eq_self]
  refine ⟨⟨by omega,by unfold rowMax; omega⟩,⟨0,Nat.zero_le _,rfl,Eq.mpr (ZaV (t:=ZaT)) rfl⟩,fun k hk=>⟨fun hlt=>?_,fun hge=>?_⟩⟩
  · have hlt:k < a.length:=by omega
    have hk:=Zau (t:=ZaT) hlt
    have hl:(List.take k a ++ List.replicate (List.length a - k) ZuT).length=a.length:=by simp; omega
    have hbn:bulk (ZaL a k)≤ZaF a:=ZgI hk
    refine ⟨⟨by omega,by omega⟩,⟨by omega,by rw [hl]; omega⟩,fun r1 hr=>⟨k + 1,hlt,by omega,ZbN (by unfold maxLen; omega),Eq.mpr (ZaV (t:=ZaT)) ?_⟩⟩
    exact Ze0
  · exact ZeZ
def ZBX:ZaI Tryz.prog:=⟨223,[.v (.list ZaT)],fun x=>ZiH x.1,fun x=>.c (.row 0 0),fun x=>[.row ZaT x.1 0 0 none],fun x hx=>ZBW x.1 hx,Tryz.call223⟩
abbrev Zkt (a:ZaM):Prop:=bulk a≤1048576
theorem ZDS (a:ZaM) (hpre:Zkt a):Zat Tryz.prog 159 [.ag (cellsOf Zak a)] (.ag [.str a.1, .int .i64 a.2.1, .int .i64 a.2.2.1, .row 0 0]) [.row ZaT a.2.2.2 0 0 none]:=by
  refine bc0 [ZBX] [] [] [] L0 Tryz.func159 (fun hwf=>?_)
  refine Eq.mpr (β:=(T12 (T5 ((pt (ZiH a.2.2.2))∧(T4 (pt (((cS a.1 a.1)∧(cI a.2.1 a.2.1)∧(cI a.2.2.1 a.2.2.1)∧(a.2.2.2=a.2.2.2)∧True)))))))) (by kernel_rfl) ?_
  have hp:bulk a≤1048576:=hpre
  have hb:bulk a=ByteArray.size a.1 + (0 + (0 + (bulk a.2.2.2))):=rfl
  exact Zci
def ZDT:ZaI Tryz.prog:=⟨159,[.s Zak],fun x=>Zkt x.1,fun x=>.ag [.str x.1.1, .int .i64 x.1.2.1, .int .i64 x.1.2.2.1, .row 0 0],fun x=>[.row ZaT x.1.2.2.2 0 0 none],fun x hx=>ZDS x.1 hx,Tryz.call159⟩
abbrev ZiI (a:List ZaM):Prop:=bulk a≤1048576
def ZBY (a:List ZaM):Nat→List AV→Mem→Zbn
  | 3,tm,M=>⟨Nat,fun y=>(ZcN (ZcV tm [(4, .c (.int .i64 ((y:Nat):Int)))]) 8 14,Zjs M [(0, .row Zak (List.take y a ++ List.replicate (List.length a - y) ZoM) 0 0 none)]),fun y=>(y≤List.length a),fun y=>(List.length a - y)⟩
  | _,_,_=>⟨Unit,fun _=>([],[]),fun _=>False,fun _=>0⟩
theorem ZBZ (a:List ZaM) (hpre:ZiI a):Zat Tryz.prog 86 [.c (.hs .no Zak a)] (.c (.row 0 0)) [.row Zak a 0 0 none]:=by
  refine bc0 [ZDT] [] [] [] (ZBY a) Tryz.func86 (fun hwf=>?_)
  refine Eq.mpr (β:=(T3 ((((List.length a:Int):Int)=(List.length a:Int)∧(0:Int)≤(List.length a:Int)∧((List.length a:Int):Int)≤(rowMax:Int))∧(T2 ((∃ q:Nat,(q≤List.length a)∧((lxs [hn Zak a, .tp [], .c (.raw (.slice none 0 0)), .c (.row 0 0)] (vI 0 q∧lxs [hn Zak a,ci (List.length a), .c (.row 0 0)] (TN 14 (lxs [.tp []] True))))∧pt (leB (.row Zak (List.replicate (List.length a) ZoM) 0 0 none) (.row Zak (List.take q a ++ List.replicate (List.length a - q) ZoM) 0 0 none)∧True)))∧∀ y0:Nat,(y0≤List.length a)→(T4 (bif (ltI y0 (List.length a)) then (T4 ((ix 4 y0 (List.length a))∧(True∧((pt (Zkt (Zab a y0)))∧((ix 4 y0 (List.length (List.take y0 a ++ List.replicate (List.length a - y0) ZoM)))∧(True∧∀ r1:List ZaM,r1=(List.set (List.take y0 a ++ List.replicate (List.length a - y0) ZoM) y0 (Zab a y0))→(T3 (∃ y0' : Nat,(y0'≤List.length a)∧(List.length a - y0') < (List.length a - y0)∧((lxs [hn Zak a, .tp [], .c (.raw (.slice none 0 0)), .c (.row 0 0)] (vI (w64 ((y0:Int) + 1)) y0'∧lxs [hn Zak a,ci (List.length a), .c (.row 0 0)] (TN 14 (lxs [.tp []] True))))∧pt (leB (.row Zak r1 0 0 none) (.row Zak (List.take y0' a ++ List.replicate (List.length a - y0') ZoM) 0 0 none)∧True)))))))))) else (T2 (pt ((List.take y0 a ++ List.replicate (List.length a - y0) ZoM)=a)))))))))) (by kernel_rfl) ?_
  unfold T2 T3 T4
  have hp:bulk a≤1048576:=hpre
  have hb:bulk a=a.length + ZaF a:=rfl
  simp only [SIA,eq_self]
  refine ⟨⟨by omega,by unfold rowMax; omega⟩,⟨0,Nat.zero_le _,rfl,Eq.mpr (ZaV (t:=Zak)) rfl⟩,fun k hk=>⟨fun hlt=>?_,fun hge=>?_⟩⟩
  · have hlt:k < a.length:=by omega
    have hk:=Zau (t:=Zak) hlt
    have hl:(List.take k a ++ List.replicate (List.length a - k) ZoM).length=a.length:=by simp; omega
    have hbn:bulk (Zab a k)≤ZaF a:=ZgI hk
    refine ⟨⟨by omega,by omega⟩,by show bulk _≤_; omega,⟨by omega,by rw [hl]; omega⟩,fun r1 hr=>⟨k + 1,hlt,by omega,ZbN (by unfold maxLen; omega),Eq.mpr (ZaV (t:=Zak)) ?_⟩⟩
    exact Ze0
  · exact ZeZ
def ZB0:ZaI Tryz.prog:=⟨86,[.v (.list Zak)],fun x=>ZiI x.1,fun x=>.c (.row 0 0),fun x=>[.row Zak x.1 0 0 none],fun x hx=>ZBZ x.1 hx,Tryz.call86⟩
theorem Zuj (a:Zax):Zat Tryz.prog 160 [.ag (cellsOf Zah a)] (.ag [.int .i64 a.1, .int .i64 a.2.1, .int .i64 a.2.2.1, .int .i64 a.2.2.2.1, .str a.2.2.2.2.1, .str a.2.2.2.2.2]) []:=by
  refine bc0 [] [] [] [] L0 Tryz.func160 (fun hwf=>?_)
  refine Eq.mpr (β:=(T12 (T12 (T5 (pt (((cI a.1 a.1)∧(cI a.2.1 a.2.1)∧(cI a.2.2.1 a.2.2.1)∧(cI a.2.2.2.1 a.2.2.2.1)∧(cS a.2.2.2.2.1 a.2.2.2.2.1)∧(cS a.2.2.2.2.2 a.2.2.2.2.2)∧True))))))) (by kernel_rfl) ?_
  exact Zci
def Zuk:ZaI Tryz.prog:=⟨160,[.s Zah],fun x=>True,fun x=>.ag [.int .i64 x.1.1, .int .i64 x.1.2.1, .int .i64 x.1.2.2.1, .int .i64 x.1.2.2.2.1, .str x.1.2.2.2.2.1, .str x.1.2.2.2.2.2],fun _=>[],fun x hx=>Zuj x.1,Tryz.call160⟩
abbrev ZfT (a:List Zax):Prop:=bulk a≤1048576
def Zsm (a:List Zax):Nat→List AV→Mem→Zbn
  | 3,tm,M=>⟨Nat,fun y=>(ZcN (ZcV tm [(4, .c (.int .i64 ((y:Nat):Int)))]) 8 14,Zjs M [(0, .row Zah (List.take y a ++ List.replicate (List.length a - y) ZgD) 0 0 none)]),fun y=>(y≤List.length a),fun y=>(List.length a - y)⟩
  | _,_,_=>⟨Unit,fun _=>([],[]),fun _=>False,fun _=>0⟩
theorem Zsn (a:List Zax) (hpre:ZfT a):Zat Tryz.prog 87 [.c (.hs .no Zah a)] (.c (.row 0 0)) [.row Zah a 0 0 none]:=by
  refine bc0 [Zuk] [] [] [] (Zsm a) Tryz.func87 (fun hwf=>?_)
  refine Eq.mpr (β:=(T3 ((((List.length a:Int):Int)=(List.length a:Int)∧(0:Int)≤(List.length a:Int)∧((List.length a:Int):Int)≤(rowMax:Int))∧(T2 ((∃ q:Nat,(q≤List.length a)∧((lxs [hn Zah a, .tp [], .c (.raw (.slice none 0 0)), .c (.row 0 0)] (vI 0 q∧lxs [hn Zah a,ci (List.length a), .c (.row 0 0)] (TN 14 (lxs [.tp []] True))))∧pt (leB (.row Zah (List.replicate (List.length a) ZgD) 0 0 none) (.row Zah (List.take q a ++ List.replicate (List.length a - q) ZgD) 0 0 none)∧True)))∧∀ y0:Nat,(y0≤List.length a)→(T4 (bif (ltI y0 (List.length a)) then (T4 ((ix 6 y0 (List.length a))∧(True∧((pt True)∧((ix 6 y0 (List.length (List.take y0 a ++ List.replicate (List.length a - y0) ZgD)))∧(True∧∀ r1:List Zax,r1=(List.set (List.take y0 a ++ List.replicate (List.length a - y0) ZgD) y0 (Zac a y0))→(T3 (∃ y0' : Nat,(y0'≤List.length a)∧(List.length a - y0') < (List.length a - y0)∧((lxs [hn Zah a, .tp [], .c (.raw (.slice none 0 0)), .c (.row 0 0)] (vI (w64 ((y0:Int) + 1)) y0'∧lxs [hn Zah a,ci (List.length a), .c (.row 0 0)] (TN 14 (lxs [.tp []] True))))∧pt (leB (.row Zah r1 0 0 none) (.row Zah (List.take y0' a ++ List.replicate (List.length a - y0') ZgD) 0 0 none)∧True)))))))))) else (T2 (pt ((List.take y0 a ++ List.replicate (List.length a - y0) ZgD)=a)))))))))) (by kernel_rfl) ?_
  unfold T2 T3 T4
  have hp:bulk a≤1048576:=hpre
  have hb:bulk a=a.length + ZaF a:=rfl
  simp only [SIA,eq_self]
  refine ⟨⟨by omega,by unfold rowMax; omega⟩,⟨0,Nat.zero_le _,rfl,Eq.mpr (ZaV (t:=Zah)) rfl⟩,fun k hk=>⟨fun hlt=>?_,fun hge=>?_⟩⟩
  · have hlt:k < a.length:=by omega
    have hk:=Zau (t:=Zah) hlt
    have hl:(List.take k a ++ List.replicate (List.length a - k) ZgD).length=a.length:=by simp; omega
    have hbn:bulk (Zac a k)≤ZaF a:=ZgI hk
    refine ⟨⟨by omega,by omega⟩,⟨by omega,by rw [hl]; omega⟩,fun r1 hr=>⟨k + 1,hlt,by omega,ZbN (by unfold maxLen; omega),Eq.mpr (ZaV (t:=Zah)) ?_⟩⟩
    exact Ze0
  · exact ZeZ
def Zso:ZaI Tryz.prog:=⟨87,[.v (.list Zah)],fun x=>ZfT x.1,fun x=>.c (.row 0 0),fun x=>[.row Zah x.1 0 0 none],fun x hx=>Zsn x.1 hx,Tryz.call87⟩
abbrev ZhR (a:Za7):Prop:=bulk a≤1048576
theorem Zy6 (a:Za7) (hpre:ZhR a):Zat Tryz.prog 35 [.ag (cellsOf ZbI a)] (.ag [.row 0 0, .row 1 0, .int .i64 a.2.2]) [.row Zak a.1 0 0 none, .row Zah a.2.1 0 0 none]:=by
  refine bc0 [ZB0,Zso] [] [] [] L0 Tryz.func35 (fun hwf=>?_)
  refine Eq.mpr (β:=(T5 ((pt (ZiI a.1))∧(T4 ((pt (ZfT a.2.1))∧(T8 (pt (((a.1=a.1)∧(a.2.1=a.2.1)∧(cI a.2.2 a.2.2)∧True))))))))) (by kernel_rfl) ?_
  have hp:bulk a≤1048576:=hpre
  have hb:bulk a=bulk a.1 + (bulk a.2.1 + (0)):=rfl
  exact Zci
def Zy7:ZaI Tryz.prog:=⟨35,[.s ZbI],fun x=>ZhR x.1,fun x=>.ag [.row 0 0, .row 1 0, .int .i64 x.1.2.2],fun x=>[.row Zak x.1.1 0 0 none, .row Zah x.1.2.1 0 0 none],fun x hx=>Zy6 x.1 hx,Tryz.call35⟩
theorem ZB1 (a:Zb9):Zat Tryz.prog 265 [.ag [.int .i64 a.1, .int .i64 a.2]] (.ag [.int .i64 a.1, .int .i64 a.2]) []:=by
  refine bc0 [] [] [] [] L0 Tryz.func265 (fun hwf=>?_)
  refine Eq.mpr (β:=(T12 (True∧(pt (((cI a.1 a.1)∧(cI a.2 a.2)∧True)))))) (by kernel_rfl) ?_
  exact Zci
def ZB2:ZaI Tryz.prog:=⟨265,[.s ZaN],fun x=>True,fun x=>.ag [.int .i64 x.1.1, .int .i64 x.1.2],fun _=>[],fun x hx=>ZB1 x.1,Tryz.call265⟩
abbrev ZhS (a:List Zb9):Prop:=bulk a≤1048576
def Zy8 (a:List Zb9):Nat→List AV→Mem→Zbn
  | 3,tm,M=>⟨Nat,fun y=>(ZcN (ZcV tm [(4, .c (.int .i64 ((y:Nat):Int)))]) 8 14,Zjs M [(0, .row ZaN (List.take y a ++ List.replicate (List.length a - y) ZmI) 0 0 none)]),fun y=>(y≤List.length a),fun y=>(List.length a - y)⟩
  | _,_,_=>⟨Unit,fun _=>([],[]),fun _=>False,fun _=>0⟩
theorem Zy9 (a:List Zb9) (hpre:ZhS a):Zat Tryz.prog 224 [.c (.hs .no ZaN a)] (.c (.row 0 0)) [.row ZaN a 0 0 none]:=by
  refine bc0 [ZB2] [] [] [] (Zy8 a) Tryz.func224 (fun hwf=>?_)
  refine Eq.mpr (β:=(T3 ((((List.length a:Int):Int)=(List.length a:Int)∧(0:Int)≤(List.length a:Int)∧((List.length a:Int):Int)≤(rowMax:Int))∧(T2 ((∃ q:Nat,(q≤List.length a)∧((lxs [hn ZaN a, .tp [], .c (.raw (.slice none 0 0)), .c (.row 0 0)] (vI 0 q∧lxs [hn ZaN a,ci (List.length a), .c (.row 0 0)] (TN 14 (lxs [.tp []] True))))∧pt (leB (.row ZaN (List.replicate (List.length a) ZmI) 0 0 none) (.row ZaN (List.take q a ++ List.replicate (List.length a - q) ZmI) 0 0 none)∧True)))∧∀ y0:Nat,(y0≤List.length a)→(T4 (bif (ltI y0 (List.length a)) then (T4 ((ix 2 y0 (List.length a))∧(True∧((pt True)∧((ix 2 y0 (List.length (List.take y0 a ++ List.replicate (List.length a - y0) ZmI)))∧(True∧∀ r1:List Zb9,r1=(List.set (List.take y0 a ++ List.replicate (List.length a - y0) ZmI) y0 (ZbE a y0))→(T3 (∃ y0' : Nat,(y0'≤List.length a)∧(List.length a - y0') < (List.length a - y0)∧((lxs [hn ZaN a, .tp [], .c (.raw (.slice none 0 0)), .c (.row 0 0)] (vI (w64 ((y0:Int) + 1)) y0'∧lxs [hn ZaN a,ci (List.length a), .c (.row 0 0)] (TN 14 (lxs [.tp []] True))))∧pt (leB (.row ZaN r1 0 0 none) (.row ZaN (List.take y0' a ++ List.replicate (List.length a - y0') ZmI) 0 0 none)∧True)))))))))) else (T2 (pt ((List.take y0 a ++ List.replicate (List.length a - y0) ZmI)=a)))))))))) (by kernel_rfl) ?_
  unfold T2 T3 T4
  have hp:bulk a≤1048576:=hpre
  have hb:bulk a=a.length + ZaF a:=rfl
  simp only [SIA,eq_self]
  refine ⟨⟨by omega,by unfold rowMax; omega⟩,⟨0,Nat.zero_le _,rfl,Eq.mpr (ZaV (t:=ZaN)) rfl⟩,fun k hk=>⟨fun hlt=>?_,fun hge=>?_⟩⟩
  · have hlt:k < a.length:=by omega
    have hk:=Zau (t:=ZaN) hlt
    have hl:(List.take k a ++ List.replicate (List.length a - k) ZmI).length=a.length:=by simp; omega
    have hbn:bulk (ZbE a k)≤ZaF a:=ZgI hk
    refine ⟨⟨by omega,by omega⟩,⟨by omega,by rw [hl]; omega⟩,fun r1 hr=>⟨k + 1,hlt,by omega,ZbN (by unfold maxLen; omega),Eq.mpr (ZaV (t:=ZaN)) ?_⟩⟩
    exact Ze0
  · exact ZeZ
def Zza:ZaI Tryz.prog:=⟨224,[.v (.list ZaN)],fun x=>ZhS x.1,fun x=>.c (.row 0 0),fun x=>[.row ZaN x.1 0 0 none],fun x hx=>Zy9 x.1 hx,Tryz.call224⟩
abbrev ZiJ (a:Zz5):Prop:=bulk a≤1048576
theorem ZB3 (a:List Zb9) (hpre:ZiJ a):Zat Tryz.prog 161 [.ag [.hs .no ZaN a]] (.ag [.row 0 0]) [.row ZaN a 0 0 none]:=by
  refine bc0 [Zza] [] [] [] L0 Tryz.func161 (fun hwf=>?_)
  refine Eq.mpr (β:=(T5 ((pt (ZhS a))∧(T4 (pt (((a=a)∧True))))))) (by kernel_rfl) ?_
  have hp:bulk a≤1048576:=hpre
  have hb:bulk a=bulk a:=rfl
  exact Zci
def ZB4:ZaI Tryz.prog:=⟨161,[.s (.list ZaN)],fun x=>ZiJ x.1,fun x=>.ag [.row 0 0],fun x=>[.row ZaN x.1 0 0 none],fun x hx=>ZB3 x.1 hx,Tryz.call161⟩
theorem ZB5 (a:Zay):Zat Tryz.prog 267 [.ag (cellsOf Zai a)] (.ag [.int .i64 a.1, .int .i64 a.2.1, .int .i64 a.2.2.1, .str a.2.2.2]) []:=by
  refine bc0 [] [] [] [] L0 Tryz.func267 (fun hwf=>?_)
  refine Eq.mpr (β:=(T12 (T9 (pt (((cI a.1 a.1)∧(cI a.2.1 a.2.1)∧(cI a.2.2.1 a.2.2.1)∧(cS a.2.2.2 a.2.2.2)∧True)))))) (by kernel_rfl) ?_
  exact Zci
def ZB6:ZaI Tryz.prog:=⟨267,[.s Zai],fun x=>True,fun x=>.ag [.int .i64 x.1.1, .int .i64 x.1.2.1, .int .i64 x.1.2.2.1, .str x.1.2.2.2],fun _=>[],fun x hx=>ZB5 x.1,Tryz.call267⟩
abbrev ZhT (a:List Zay):Prop:=bulk a≤1048576
def Zzb (a:List Zay):Nat→List AV→Mem→Zbn
  | 3,tm,M=>⟨Nat,fun y=>(ZcN (ZcV tm [(4, .c (.int .i64 ((y:Nat):Int)))]) 8 14,Zjs M [(0, .row Zai (List.take y a ++ List.replicate (List.length a - y) Zio) 0 0 none)]),fun y=>(y≤List.length a),fun y=>(List.length a - y)⟩
  | _,_,_=>⟨Unit,fun _=>([],[]),fun _=>False,fun _=>0⟩
theorem Zzc (a:List Zay) (hpre:ZhT a):Zat Tryz.prog 226 [.c (.hs .no Zai a)] (.c (.row 0 0)) [.row Zai a 0 0 none]:=by
  refine bc0 [ZB6] [] [] [] (Zzb a) Tryz.func226 (fun hwf=>?_)
  refine Eq.mpr (β:=(T3 ((((List.length a:Int):Int)=(List.length a:Int)∧(0:Int)≤(List.length a:Int)∧((List.length a:Int):Int)≤(rowMax:Int))∧(T2 ((∃ q:Nat,(q≤List.length a)∧((lxs [hn Zai a, .tp [], .c (.raw (.slice none 0 0)), .c (.row 0 0)] (vI 0 q∧lxs [hn Zai a,ci (List.length a), .c (.row 0 0)] (TN 14 (lxs [.tp []] True))))∧pt (leB (.row Zai (List.replicate (List.length a) Zio) 0 0 none) (.row Zai (List.take q a ++ List.replicate (List.length a - q) Zio) 0 0 none)∧True)))∧∀ y0:Nat,(y0≤List.length a)→(T4 (bif (ltI y0 (List.length a)) then (T4 ((ix 4 y0 (List.length a))∧(True∧((pt True)∧((ix 4 y0 (List.length (List.take y0 a ++ List.replicate (List.length a - y0) Zio)))∧(True∧∀ r1:List Zay,r1=(List.set (List.take y0 a ++ List.replicate (List.length a - y0) Zio) y0 (Zaf a y0))→(T3 (∃ y0' : Nat,(y0'≤List.length a)∧(List.length a - y0') < (List.length a - y0)∧((lxs [hn Zai a, .tp [], .c (.raw (.slice none 0 0)), .c (.row 0 0)] (vI (w64 ((y0:Int) + 1)) y0'∧lxs [hn Zai a,ci (List.length a), .c (.row 0 0)] (TN 14 (lxs [.tp []] True))))∧pt (leB (.row Zai r1 0 0 none) (.row Zai (List.take y0' a ++ List.replicate (List.length a - y0') Zio) 0 0 none)∧True)))))))))) else (T2 (pt ((List.take y0 a ++ List.replicate (List.length a - y0) Zio)=a)))))))))) (by kernel_rfl) ?_
  unfold T2 T3 T4
  have hp:bulk a≤1048576:=hpre
  have hb:bulk a=a.length + ZaF a:=rfl
  simp only [SIA,eq_self]
  refine ⟨⟨by omega,by unfold rowMax; omega⟩,⟨0,Nat.zero_le _,rfl,Eq.mpr (ZaV (t:=Zai)) rfl⟩,fun k hk=>⟨fun hlt=>?_,fun hge=>?_⟩⟩
  · have hlt:k < a.length:=by omega
    have hk:=Zau (t:=Zai) hlt
    have hl:(List.take k a ++ List.replicate (List.length a - k) Zio).length=a.length:=by simp; omega
    have hbn:bulk (Zaf a k)≤ZaF a:=ZgI hk
    refine ⟨⟨by omega,by omega⟩,⟨by omega,by rw [hl]; omega⟩,fun r1 hr=>⟨k + 1,hlt,by omega,ZbN (by unfold maxLen; omega),Eq.mpr (ZaV (t:=Zai)) ?_⟩⟩
    exact Ze0
  · exact ZeZ
def Zzd:ZaI Tryz.prog:=⟨226,[.v (.list Zai)],fun x=>ZhT x.1,fun x=>.c (.row 0 0),fun x=>[.row Zai x.1 0 0 none],fun x hx=>Zzc x.1 hx,Tryz.call226⟩
abbrev ZhU (a:ZaU):Prop:=bulk a≤1048576
theorem Zze (a:ZaU) (hpre:ZhU a):Zat Tryz.prog 163 [.ag [.hs .no Zai a.1, .bool a.2.1, .bool a.2.2]] (.ag [.row 0 0, .bool a.2.1, .bool a.2.2]) [.row Zai a.1 0 0 none]:=by
  refine bc0 [Zzd] [] [] [] L0 Tryz.func163 (fun hwf=>?_)
  refine Eq.mpr (β:=(T5 ((pt (ZhT a.1))∧(T12 (pt (((a.1=a.1)∧(cB a.2.1 a.2.1)∧(cB a.2.2 a.2.2)∧True))))))) (by kernel_rfl) ?_
  have hp:bulk a≤1048576:=hpre
  have hb:bulk a=bulk a.1 + (0 + (0)):=rfl
  exact Zci
def Zzf:ZaI Tryz.prog:=⟨163,[.s ZbJ],fun x=>ZhU x.1,fun x=>.ag [.row 0 0, .bool x.1.2.1, .bool x.1.2.2],fun x=>[.row Zai x.1.1 0 0 none],fun x hx=>Zze x.1 hx,Tryz.call163⟩
theorem ZDU (a:Zxj):Zat Tryz.prog 165 [.ag [.str a.1, .str a.2]] (.ag [.str a.1, .str a.2]) []:=by
  refine bc0 [] [] [] [] L0 Tryz.func165 (fun hwf=>?_)
  refine Eq.mpr (β:=(T12 (True∧(pt (((cS a.1 a.1)∧(cS a.2 a.2)∧True)))))) (by kernel_rfl) ?_
  exact Zci
def ZDV:ZaI Tryz.prog:=⟨165,[.s Zm4],fun x=>True,fun x=>.ag [.str x.1.1, .str x.1.2],fun _=>[],fun x hx=>ZDU x.1,Tryz.call165⟩
theorem ZFN (a:GIn):Zat Tryz.prog 164 [.ag [.str a.1, .bool a.2]] (.ag [.str a.1, .bool a.2]) []:=by
  refine bc0 [] [] [] [] L0 Tryz.func164 (fun hwf=>?_)
  refine Eq.mpr (β:=(T12 (True∧(pt (((cS a.1 a.1)∧(cB a.2 a.2)∧True)))))) (by kernel_rfl) ?_
  exact Zci
def ZFO:ZaI Tryz.prog:=⟨164,[.s ZCX],fun x=>True,fun x=>.ag [.str x.1.1, .bool x.1.2],fun _=>[],fun x hx=>ZFN x.1,Tryz.call164⟩
abbrev ZfU (a:Zal):Prop:=bulk a≤1048576
theorem Zsp (a:Zal) (hpre:ZfU a):Zat Tryz.prog 88 [.ag (cellsOf Zae a)] (.ag [.bool a.1, .int .i64 a.2.1, .int .i64 a.2.2.1, .int .i64 a.2.2.2.1, .row 0 0, .bool a.2.2.2.2.2.1.1, .row 1 0, .str a.2.2.2.2.2.2.1, .str a.2.2.2.2.2.2.2.1, .row 2 0, .bool a.2.2.2.2.2.2.2.2.1.2.1, .bool a.2.2.2.2.2.2.2.2.1.2.2, .str a.2.2.2.2.2.2.2.2.2.1.1, .bool a.2.2.2.2.2.2.2.2.2.1.2, .str a.2.2.2.2.2.2.2.2.2.2.1.1, .str a.2.2.2.2.2.2.2.2.2.2.1.2, .int .i64 a.2.2.2.2.2.2.2.2.2.2.2]) [.row ZaN a.2.2.2.2.1 0 0 none, .row Zar a.2.2.2.2.2.1.2 0 0 none, .row Zai a.2.2.2.2.2.2.2.2.1.1 0 0 none]:=by
  refine bc0 [ZB4,Zui,Zzf,ZFO,ZDV] [] [] [] L0 Tryz.func88 (fun hwf=>?_)
  refine Eq.mpr (β:=(T12 (T9 ((pt (ZiJ a.2.2.2.2.1))∧(T4 ((pt (ZgV a.2.2.2.2.2.1))∧(T12 ((pt (ZhU a.2.2.2.2.2.2.2.2.1))∧(T4 ((pt True)∧(T4 ((pt True)∧(T8 (pt (((cB a.1 a.1)∧(cI a.2.1 a.2.1)∧(cI a.2.2.1 a.2.2.1)∧(cI a.2.2.2.1 a.2.2.2.1)∧(a.2.2.2.2.1=a.2.2.2.2.1)∧(cB a.2.2.2.2.2.1.1 a.2.2.2.2.2.1.1)∧(a.2.2.2.2.2.1.2=a.2.2.2.2.2.1.2)∧(cS a.2.2.2.2.2.2.1 a.2.2.2.2.2.2.1)∧(cS a.2.2.2.2.2.2.2.1 a.2.2.2.2.2.2.2.1)∧(a.2.2.2.2.2.2.2.2.1.1=a.2.2.2.2.2.2.2.2.1.1)∧(cB a.2.2.2.2.2.2.2.2.1.2.1 a.2.2.2.2.2.2.2.2.1.2.1)∧(cB a.2.2.2.2.2.2.2.2.1.2.2 a.2.2.2.2.2.2.2.2.1.2.2)∧(cS a.2.2.2.2.2.2.2.2.2.1.1 a.2.2.2.2.2.2.2.2.2.1.1)∧(cB a.2.2.2.2.2.2.2.2.2.1.2 a.2.2.2.2.2.2.2.2.2.1.2)∧(cS a.2.2.2.2.2.2.2.2.2.2.1.1 a.2.2.2.2.2.2.2.2.2.2.1.1)∧(cS a.2.2.2.2.2.2.2.2.2.2.1.2 a.2.2.2.2.2.2.2.2.2.2.1.2)∧(cI a.2.2.2.2.2.2.2.2.2.2.2 a.2.2.2.2.2.2.2.2.2.2.2)∧True)))))))))))))))) (by kernel_rfl) ?_
  unfold T12 T4 T8 T9
  have hp:bulk a≤1048576:=hpre
  have hb:bulk a=0 + (0 + (0 + (0 + (bulk a.2.2.2.2.1 + (bulk a.2.2.2.2.2.1 + (ByteArray.size a.2.2.2.2.2.2.1 + (ByteArray.size a.2.2.2.2.2.2.2.1 + (bulk a.2.2.2.2.2.2.2.2.1 + (bulk a.2.2.2.2.2.2.2.2.2.1 + (bulk a.2.2.2.2.2.2.2.2.2.2.1 + (0))))))))))):=rfl
  exact Zci
def Zsq:ZaI Tryz.prog:=⟨88,[.s Zae],fun x=>ZfU x.1,fun x=>.ag [.bool x.1.1, .int .i64 x.1.2.1, .int .i64 x.1.2.2.1, .int .i64 x.1.2.2.2.1, .row 0 0, .bool x.1.2.2.2.2.2.1.1, .row 1 0, .str x.1.2.2.2.2.2.2.1, .str x.1.2.2.2.2.2.2.2.1, .row 2 0, .bool x.1.2.2.2.2.2.2.2.2.1.2.1, .bool x.1.2.2.2.2.2.2.2.2.1.2.2, .str x.1.2.2.2.2.2.2.2.2.2.1.1, .bool x.1.2.2.2.2.2.2.2.2.2.1.2, .str x.1.2.2.2.2.2.2.2.2.2.2.1.1, .str x.1.2.2.2.2.2.2.2.2.2.2.1.2, .int .i64 x.1.2.2.2.2.2.2.2.2.2.2.2],fun x=>[.row ZaN x.1.2.2.2.2.1 0 0 none, .row Zar x.1.2.2.2.2.2.1.2 0 0 none, .row Zai x.1.2.2.2.2.2.2.2.2.1.1 0 0 none],fun x hx=>Zsp x.1 hx,Tryz.call88⟩
abbrev Ze7 (a:List Zal):Prop:=bulk a≤1048576
def Zqi (a:List Zal):Nat→List AV→Mem→Zbn
  | 3,tm,M=>⟨Nat,fun y=>(ZcN (ZcV tm [(4, .c (.int .i64 ((y:Nat):Int)))]) 8 14,Zjs M [(0, .row Zae (List.take y a ++ List.replicate (List.length a - y) ZeT) 0 0 none)]),fun y=>(y≤List.length a),fun y=>(List.length a - y)⟩
  | _,_,_=>⟨Unit,fun _=>([],[]),fun _=>False,fun _=>0⟩
theorem Zqj (a:List Zal) (hpre:Ze7 a):Zat Tryz.prog 36 [.c (.hs .no Zae a)] (.c (.row 0 0)) [.row Zae a 0 0 none]:=by
  refine bc0 [Zsq] [] [] [] (Zqi a) Tryz.func36 (fun hwf=>?_)
  refine Eq.mpr (β:=(T3 ((((List.length a:Int):Int)=(List.length a:Int)∧(0:Int)≤(List.length a:Int)∧((List.length a:Int):Int)≤(rowMax:Int))∧(T2 ((∃ q:Nat,(q≤List.length a)∧((lxs [hn Zae a, .tp [], .c (.raw (.slice none 0 0)), .c (.row 0 0)] (vI 0 q∧lxs [hn Zae a,ci (List.length a), .c (.row 0 0)] (TN 14 (lxs [.tp []] True))))∧pt (leB (.row Zae (List.replicate (List.length a) ZeT) 0 0 none) (.row Zae (List.take q a ++ List.replicate (List.length a - q) ZeT) 0 0 none)∧True)))∧∀ y0:Nat,(y0≤List.length a)→(T4 (bif (ltI y0 (List.length a)) then (T4 ((ix 17 y0 (List.length a))∧(True∧((pt (ZfU (Zaa a y0)))∧((ix 17 y0 (List.length (List.take y0 a ++ List.replicate (List.length a - y0) ZeT)))∧(True∧∀ r1:List Zal,r1=(List.set (List.take y0 a ++ List.replicate (List.length a - y0) ZeT) y0 (Zaa a y0))→(T3 (∃ y0' : Nat,(y0'≤List.length a)∧(List.length a - y0') < (List.length a - y0)∧((lxs [hn Zae a, .tp [], .c (.raw (.slice none 0 0)), .c (.row 0 0)] (vI (w64 ((y0:Int) + 1)) y0'∧lxs [hn Zae a,ci (List.length a), .c (.row 0 0)] (TN 14 (lxs [.tp []] True))))∧pt (leB (.row Zae r1 0 0 none) (.row Zae (List.take y0' a ++ List.replicate (List.length a - y0') ZeT) 0 0 none)∧True)))))))))) else (T2 (pt ((List.take y0 a ++ List.replicate (List.length a - y0) ZeT)=a)))))))))) (by kernel_rfl) ?_
  unfold T2 T3 T4
  have hp:bulk a≤1048576:=hpre
  have hb:bulk a=a.length + ZaF a:=rfl
  simp only [SIA,eq_self]
  refine ⟨⟨by omega,by unfold rowMax; omega⟩,⟨0,Nat.zero_le _,rfl,Eq.mpr (ZaV (t:=Zae)) rfl⟩,fun k hk=>⟨fun hlt=>?_,fun hge=>?_⟩⟩
  · have hlt:k < a.length:=by omega
    have hk:=Zau (t:=Zae) hlt
    have hl:(List.take k a ++ List.replicate (List.length a - k) ZeT).length=a.length:=by simp; omega
    have hbn:bulk (Zaa a k)≤ZaF a:=ZgI hk
    refine ⟨⟨by omega,by omega⟩,by show bulk _≤_; omega,⟨by omega,by rw [hl]; omega⟩,fun r1 hr=>⟨k + 1,hlt,by omega,ZbN (by unfold maxLen; omega),Eq.mpr (ZaV (t:=Zae)) ?_⟩⟩
    exact Ze0
  · exact ZeZ
def Zqk:ZaI Tryz.prog:=⟨36,[.v (.list Zae)],fun x=>Ze7 x.1,fun x=>.c (.row 0 0),fun x=>[.row Zae x.1 0 0 none],fun x hx=>Zqj x.1 hx,Tryz.call36⟩
abbrev Zdd (a:Za6):Prop:=bulk a≤1048576
theorem Zul (a:Za6) (hpre:Zdd a):Zat Tryz.prog 11 [.ag (cellsOf Zbp a)] (.ag [.row 0 0, .row 1 0, .int .i64 a.1.2.2, .row 2 0]) [.row Zak a.1.1 0 0 none, .row Zah a.1.2.1 0 0 none, .row Zae a.2 0 0 none]:=by
  refine bc0 [Zy7,Zqk] [] [] [] L0 Tryz.func11 (fun hwf=>?_)
  refine Eq.mpr (β:=(T5 ((pt (ZhR a.1))∧(T4 ((pt (Ze7 a.2))∧(T4 (pt (((a.1.1=a.1.1)∧(a.1.2.1=a.1.2.1)∧(cI a.1.2.2 a.1.2.2)∧(a.2=a.2)∧True))))))))) (by kernel_rfl) ?_
  have hp:bulk a≤1048576:=hpre
  have hb:bulk a=bulk a.1 + (bulk a.2):=rfl
  exact Zci
def Zum:ZaI Tryz.prog:=⟨11,[.s Zbp],fun x=>Zdd x.1,fun x=>.ag [.row 0 0, .row 1 0, .int .i64 x.1.1.2.2, .row 2 0],fun x=>[.row Zak x.1.1.1 0 0 none, .row Zah x.1.1.2.1 0 0 none, .row Zae x.1.2 0 0 none],fun x hx=>Zul x.1 hx,Tryz.call11⟩
end Go.Proofs.YtkompmgleojmlaaGreat
